/-
  PnumKnown: the walk.
-/
import Derived.Test.YtpkbbbfgabfcgaaW8
import Derived.LoopTactic
import Derived.Deep.RegionHeld3
import Derived.LoopN
namespace Go.Proofs.Ytpkbbbfgabfcgaa
open Go.RowKit

/-- Both blocks of the call are there: numbers at g, bytes at g + 1; below there is no change. -/
structure Kept (w wr : World) : Prop where
  below : Below w.heap.size w wr
  size : w.heap.size + 1 < wr.heap.size
  ends : ∀ i, i < 19 → ∃ x, wr.cell? ⟨w.heap.size, i, none⟩ = some (.int .i64 x)
  bytes : ∀ i, i < 5 → wr.cell? ⟨w.heap.size + 1, i, none⟩ = some (.int .u8 ([0, 127, 128, 255, 1].getD i 0))
theorem Kept.next {w wr wx : World} (h : Kept w wr) (hb : Below wr.heap.size wr wx) : Kept w wx :=
  ⟨h.below.trans (hb.mono h.below.size), Nat.lt_of_lt_of_le h.size hb.size,
    fun i hi => let ⟨x, hx⟩ := h.ends i hi; ⟨x, (hb.cell (p := ⟨w.heap.size, i, none⟩) (by have := h.size; show w.heap.size < _; omega)).trans hx⟩,
    fun i hi => (hb.cell (p := ⟨w.heap.size + 1, i, none⟩) h.size).trans (h.bytes i hi)⟩
theorem Kept.bs {w wr : World} (h : Kept w wr) (off : Nat) (xs : List Int) (hx : xs.length + off ≤ 5) (he : xs = ([0, 127, 128, 255, 1].drop off).take xs.length) : BS wr (some ⟨w.heap.size + 1, off, none⟩) xs := by
  refine ⟨.inr ⟨_, off, rfl, h.size, fun i hi => ?_⟩, fun x hx => ?_⟩
  · rw [h.bytes _ (by omega)]
    congr 2
    rw [he, List.getD, List.getD, List.getElem?_take, if_pos hi, List.getElem?_drop]
  · rw [he] at hx
    have := List.mem_of_mem_drop (List.mem_of_mem_take hx)
    simp at this
    omega
theorem tells_bs (full other : Int) (ad : Addr) (n c : Nat) (xs : List Int) (w : World) (hc : n ≤ c) (hc2 : c ≤ 1000) (hn : xs.length = n) (h : BS w (some ad) xs) :
    Calls Try.prog 3 #[.int .i64 full, .int .i64 other, .slice (some ad) n c] w fun e w' => e = .returned (.bool true) ∧ Below w.heap.size w w' :=
  tells_some full other ad n c (min n 6) xs w hc (by omega) rfl hn h



theorem Kept.lt {w wr : World} (h : Kept w wr) : w.heap.size < wr.heap.size := by have := h.size; omega
theorem tells_kept {w wr : World} (hK : Kept w wr) (full other : Int) (off n c : Nat) (hx : off + n ≤ 5) (hc : n ≤ c) (hc2 : c ≤ 1000) :
    Calls Try.prog 3 #[.int .i64 full, .int .i64 other, .slice (some ⟨w.heap.size + 1, off, none⟩) n c] wr fun e w' => e = .returned (.bool true) ∧ Below wr.heap.size wr w' := by
  have hl : ((([0, 127, 128, 255, 1] : List Int).drop off).take n).length = n := by simp; omega
  exact tells_bs full other _ n c ((([0, 127, 128, 255, 1] : List Int).drop off).take n) wr hc hc2 hl (hK.bs off _ (by omega) (by rw [hl]))
set_option maxRecDepth 100000 in
set_option maxHeartbeats 4000000 in
theorem known_any (w : World) : Calls Try.prog 8 #[] w fun e w' => e = .returned (.bool true) ∧ Below w.heap.size w w' := by
  go_enter Try.func8, Try.ntmps8
  go_wp2_with fail
  go_loopw [3] (fun i wr => ∃ k : Nat, k ≤ 19 ∧ i = .int .i64 k ∧ Kept w wr) (fun i _ => 19 - (intOf i).toNat)
  case atStart =>
    refine ⟨0, by decide, rfl, ((Below.refl _ _).alloc (Nat.le_refl _) _).alloc (by simp) _, by simp, fun i hi => ?_, fun i hi => ?_⟩
    · rw [World.cell?_alloc_lt _ _ _ (by simp), World.cell?_alloc_new]
      have : i = 0 ∨ i = 1 ∨ i = 2 ∨ i = 3 ∨ i = 4 ∨ i = 5 ∨ i = 6 ∨ i = 7 ∨ i = 8 ∨ i = 9 ∨ i = 10 ∨ i = 11 ∨ i = 12 ∨ i = 13 ∨ i = 14 ∨ i = 15 ∨ i = 16 ∨ i = 17 ∨ i = 18 := by omega
      rcases this with rfl | rfl | rfl | rfl | rfl | rfl | rfl | rfl | rfl | rfl | rfl | rfl | rfl | rfl | rfl | rfl | rfl | rfl | rfl <;> exact ⟨_, rfl⟩
    · have e : w.heap.size + 1 = (w.alloc (.cells #[.int .i64 (-9223372036854775808), .int .i64 (-2), .int .i64 (-1), .int .i64 0, .int .i64 1, .int .i64 127, .int .i64 128, .int .i64 129, .int .i64 255, .int .i64 256, .int .i64 32768, .int .i64 32769, .int .i64 8388608, .int .i64 2147483648, .int .i64 2147483649, .int .i64 9007199254740990, .int .i64 9007199254740991, .int .i64 9007199254740992, .int .i64 9223372036854775807] 3)).heap.size := by simp
      rw [e, World.cell?_alloc_new]
      have : i = 0 ∨ i = 1 ∨ i = 2 ∨ i = 3 ∨ i = 4 := by omega
      rcases this with rfl | rfl | rfl | rfl | rfl <;> rfl
  case round =>
    obtain ⟨i, hi, rfl, hK⟩ := hrel
    by_cases hlt : i < 19
    · obtain ⟨x, hx⟩ := hK.ends i hlt
      have hi1 : (i : Int) < 19 := by omega
      have hi0 : (0 : Int) ≤ (i : Int) := by omega
      go_wp2_with fail
      go_loopw [4] (fun j wx => ∃ k : Nat, k ≤ 19 ∧ j = .int .i64 k ∧ Kept w wx) (fun j _ => 19 - (intOf j).toNat)
      case atStart => exact ⟨0, by decide, rfl, hK⟩
      case round =>
        clear hx hK
        obtain ⟨k, hk, rfl, hKx⟩ := hrel
        by_cases hlt2 : k < 19
        · obtain ⟨x2, hx2⟩ := hKx.ends i hlt
          obtain ⟨y2, hy2⟩ := hKx.ends k hlt2
          have hk1 : (k : Int) < 19 := by omega
          have hk0 : (0 : Int) ≤ (k : Int) := by omega
          have hw0 : IntKind.i64.wrap 0 = 0 := by decide
          have hw1 : IntKind.i64.wrap 1 = 1 := by decide
          have hw2 : IntKind.i64.wrap 2 = 2 := by decide
          have hw3 : IntKind.i64.wrap 3 = 3 := by decide
          have hw4 : IntKind.i64.wrap 4 = 4 := by decide
          have hw5 : IntKind.i64.wrap 5 = 5 := by decide
          go_wp2_with fail
          refine wp_loop_rounds 7 ?_
          rw [rounds_succ]; go_wp2_with fail
          go_region_held3 (fun w' => Kept w w' ∧ w'.cell? ⟨w.heap.size, i, none⟩ = some (.int .i64 x2) ∧ w'.cell? ⟨w.heap.size, k, none⟩ = some (.int .i64 y2))
            (first | exact ⟨Kept.next (by assumption) ((Below.refl _ _).drew), by assumption, by assumption⟩ | (go_split_ands; exact ⟨Kept.next (by assumption) hb, (hb.cell (p := ⟨w.heap.size, i, none⟩) (Kept.lt (by assumption))).trans (by assumption), (hb.cell (p := ⟨w.heap.size, k, none⟩) (Kept.lt (by assumption))).trans (by assumption)⟩))
            ((go_at_call 3; go_split_ands; refine (tells_kept (w := w) (by assumption) _ _ _ _ _ (by decide) (by decide) (by decide)).mono ?_; rintro e w' ⟨rfl, hb⟩))
          go_split_ands
          clear hKx hx2 hy2
          rename_i wn0 hKx hx2 hy2
          go_wp2_with fail
          rw [rounds_succ]; go_wp2_with fail
          go_region_held3 (fun w' => Kept w w' ∧ w'.cell? ⟨w.heap.size, i, none⟩ = some (.int .i64 x2) ∧ w'.cell? ⟨w.heap.size, k, none⟩ = some (.int .i64 y2))
            (first | exact ⟨Kept.next (by assumption) ((Below.refl _ _).drew), by assumption, by assumption⟩ | (go_split_ands; exact ⟨Kept.next (by assumption) hb, (hb.cell (p := ⟨w.heap.size, i, none⟩) (Kept.lt (by assumption))).trans (by assumption), (hb.cell (p := ⟨w.heap.size, k, none⟩) (Kept.lt (by assumption))).trans (by assumption)⟩))
            ((go_at_call 3; go_split_ands; refine (tells_kept (w := w) (by assumption) _ _ _ _ _ (by decide) (by decide) (by decide)).mono ?_; rintro e w' ⟨rfl, hb⟩))
          go_split_ands
          clear hKx hx2 hy2
          rename_i wn1 hKx hx2 hy2
          go_wp2_with fail
          rw [rounds_succ]; go_wp2_with fail
          go_region_held3 (fun w' => Kept w w' ∧ w'.cell? ⟨w.heap.size, i, none⟩ = some (.int .i64 x2) ∧ w'.cell? ⟨w.heap.size, k, none⟩ = some (.int .i64 y2))
            (first | exact ⟨Kept.next (by assumption) ((Below.refl _ _).drew), by assumption, by assumption⟩ | (go_split_ands; exact ⟨Kept.next (by assumption) hb, (hb.cell (p := ⟨w.heap.size, i, none⟩) (Kept.lt (by assumption))).trans (by assumption), (hb.cell (p := ⟨w.heap.size, k, none⟩) (Kept.lt (by assumption))).trans (by assumption)⟩))
            ((go_at_call 3; go_split_ands; refine (tells_kept (w := w) (by assumption) _ _ _ _ _ (by decide) (by decide) (by decide)).mono ?_; rintro e w' ⟨rfl, hb⟩))
          go_split_ands
          clear hKx hx2 hy2
          rename_i wn2 hKx hx2 hy2
          go_wp2_with fail
          rw [rounds_succ]; go_wp2_with fail
          go_region_held3 (fun w' => Kept w w' ∧ w'.cell? ⟨w.heap.size, i, none⟩ = some (.int .i64 x2) ∧ w'.cell? ⟨w.heap.size, k, none⟩ = some (.int .i64 y2))
            (first | exact ⟨Kept.next (by assumption) ((Below.refl _ _).drew), by assumption, by assumption⟩ | (go_split_ands; exact ⟨Kept.next (by assumption) hb, (hb.cell (p := ⟨w.heap.size, i, none⟩) (Kept.lt (by assumption))).trans (by assumption), (hb.cell (p := ⟨w.heap.size, k, none⟩) (Kept.lt (by assumption))).trans (by assumption)⟩))
            ((go_at_call 3; go_split_ands; refine (tells_kept (w := w) (by assumption) _ _ _ _ _ (by decide) (by decide) (by decide)).mono ?_; rintro e w' ⟨rfl, hb⟩))
          go_split_ands
          clear hKx hx2 hy2
          rename_i wn3 hKx hx2 hy2
          go_wp2_with fail
          rw [rounds_succ]; go_wp2_with fail
          go_region_held3 (fun w' => Kept w w' ∧ w'.cell? ⟨w.heap.size, i, none⟩ = some (.int .i64 x2) ∧ w'.cell? ⟨w.heap.size, k, none⟩ = some (.int .i64 y2))
            (first | exact ⟨Kept.next (by assumption) ((Below.refl _ _).drew), by assumption, by assumption⟩ | (go_split_ands; exact ⟨Kept.next (by assumption) hb, (hb.cell (p := ⟨w.heap.size, i, none⟩) (Kept.lt (by assumption))).trans (by assumption), (hb.cell (p := ⟨w.heap.size, k, none⟩) (Kept.lt (by assumption))).trans (by assumption)⟩))
            ((go_at_call 3; go_split_ands; refine (tells_kept (w := w) (by assumption) _ _ _ _ _ (by decide) (by decide) (by decide)).mono ?_; rintro e w' ⟨rfl, hb⟩))
          go_split_ands
          clear hKx hx2 hy2
          rename_i wn4 hKx hx2 hy2
          go_wp2_with fail
          rw [rounds_succ]; go_wp2_with fail
          go_region_held3 (fun w' => Kept w w' ∧ w'.cell? ⟨w.heap.size, i, none⟩ = some (.int .i64 x2) ∧ w'.cell? ⟨w.heap.size, k, none⟩ = some (.int .i64 y2))
            (first | exact ⟨Kept.next (by assumption) ((Below.refl _ _).drew), by assumption, by assumption⟩ | (go_split_ands; exact ⟨Kept.next (by assumption) hb, (hb.cell (p := ⟨w.heap.size, i, none⟩) (Kept.lt (by assumption))).trans (by assumption), (hb.cell (p := ⟨w.heap.size, k, none⟩) (Kept.lt (by assumption))).trans (by assumption)⟩))
            ((go_at_call 3; go_split_ands; refine (tells_kept (w := w) (by assumption) _ _ _ _ _ (by decide) (by decide) (by decide)).mono ?_; rintro e w' ⟨rfl, hb⟩))
          go_split_ands
          clear hKx hx2 hy2
          rename_i wn5 hKx hx2 hy2
          go_wp2_with fail
          rw [rounds_succ]; go_wp2_with fail
          go_roundw
          case rel => exact ⟨k + 1, by omega, by go_num, hKx⟩
          case measure => simp [intOf]; omega
        · go_wp2_with fail
          go_loopw [6] (fun c wx => ∃ k : Nat, k ≤ 256 ∧ c = .int .i64 k ∧ Kept w wx) (fun c _ => 256 - (intOf c).toNat)
          case atStart => exact ⟨0, by decide, rfl, hKx⟩
          case round =>
            clear hKx
            obtain ⟨c, hc, rfl, hKc⟩ := hrel
            by_cases hlt3 : c < 256
            · obtain ⟨x3, hx3⟩ := hKc.ends i hlt
              have hc1 : (c : Int) < 256 := by omega
              have hc0 : (0 : Int) ≤ (c : Int) := by omega
              go_wp2_with fail
              refine (tells_bs _ _ _ 1 1 [(c : Int)] _ (by decide) (by decide) rfl (BS.new (by rfl) (by intro z hz; simp at hz; omega))).mono ?_
              rintro e w5 ⟨rfl, hb5⟩
              have hb5' : Below wr.heap.size wr w5 := ((Below.refl _ _).alloc (Nat.le_refl _) _).trans (hb5.mono (by simp))
              have hx5 := (hb5'.cell (p := ⟨w.heap.size, i, none⟩) hKc.lt).trans hx3
              have hK5 := hKc.next hb5'
              go_wp2_with fail
              refine (tells_bs _ _ _ 3 3 [(c : Int), 255, (c : Int)] _ (by decide) (by decide) rfl (BS.new (by rfl) (by intro z hz; simp at hz; omega))).mono ?_
              rintro e w6 ⟨rfl, hb6⟩
              have hb6' : Below w5.heap.size w5 w6 := ((Below.refl _ _).alloc (Nat.le_refl _) _).trans (hb6.mono (by simp))
              have hK6 := hK5.next hb6'
              clear hK5 hKc hx5 hx3 hb5 hb6
              go_wp2_with fail
              go_roundw
              case rel => exact ⟨c + 1, by omega, by go_num, hK6⟩
              case measure => simp [intOf]; omega
            · go_wp2_with fail
              go_roundw
              case rel => exact ⟨i + 1, by omega, by go_num, hKc⟩
              case measure => simp [intOf]; omega
    · go_wp2_with fail
      refine (works_any _).mono ?_
      rintro e w7 ⟨rfl, hb7⟩
      go_wp2_with fail
      go_ret
      exact ⟨rfl, hK.below.trans (hb7.mono hK.below.size)⟩

end Go.Proofs.Ytpkbbbfgabfcgaa
