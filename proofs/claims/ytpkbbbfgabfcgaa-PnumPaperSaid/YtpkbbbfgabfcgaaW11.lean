/-
  PnumNear: plain laws and the walk.
-/
import Derived.Test.YtpkbbbfgabfcgaaW9
import Derived.Laws.CopyOwn
namespace Go.Proofs.Ytpkbbbfgabfcgaa
open Go.RowKit

theorem nearest1 (want cut : Int) (hw0 : 0 ≤ want) (hw1 : want ≤ 9007199254740992) (hc0 : 0 ≤ cut) (hc1 : cut < 256) :
    0 ≤ nearV want 256 cut ∧ nearV want 256 cut ≤ 9007199254740991 ∧ nearV want 256 cut % 256 = cut ∧ (nearV want 256 cut + 256 ≤ 9007199254740991 → 2 * (want - nearV want 256 cut) < 256) ∧
      (256 ≤ nearV want 256 cut → 2 * (nearV want 256 cut - want) ≤ 256) := by
  unfold nearV; (repeat' split) <;> omega

theorem nearest2 (want cut : Int) (hw0 : 0 ≤ want) (hw1 : want ≤ 9007199254740992) (hc0 : 0 ≤ cut) (hc1 : cut < 65536) :
    0 ≤ nearV want 65536 cut ∧ nearV want 65536 cut ≤ 9007199254740991 ∧ nearV want 65536 cut % 65536 = cut ∧ (nearV want 65536 cut + 65536 ≤ 9007199254740991 → 2 * (want - nearV want 65536 cut) < 65536) ∧
      (65536 ≤ nearV want 65536 cut → 2 * (nearV want 65536 cut - want) ≤ 65536) := by
  unfold nearV; (repeat' split) <;> omega

theorem nearest3 (want cut : Int) (hw0 : 0 ≤ want) (hw1 : want ≤ 9007199254740992) (hc0 : 0 ≤ cut) (hc1 : cut < 16777216) :
    0 ≤ nearV want 16777216 cut ∧ nearV want 16777216 cut ≤ 9007199254740991 ∧ nearV want 16777216 cut % 16777216 = cut ∧ (nearV want 16777216 cut + 16777216 ≤ 9007199254740991 → 2 * (want - nearV want 16777216 cut) < 16777216) ∧
      (16777216 ≤ nearV want 16777216 cut → 2 * (nearV want 16777216 cut - want) ≤ 16777216) := by
  unfold nearV; (repeat' split) <;> omega

theorem nearest4 (want cut : Int) (hw0 : 0 ≤ want) (hw1 : want ≤ 9007199254740992) (hc0 : 0 ≤ cut) (hc1 : cut < 4294967296) :
    0 ≤ nearV want 4294967296 cut ∧ nearV want 4294967296 cut ≤ 9007199254740991 ∧ nearV want 4294967296 cut % 4294967296 = cut ∧ (nearV want 4294967296 cut + 4294967296 ≤ 9007199254740991 → 2 * (want - nearV want 4294967296 cut) < 4294967296) ∧
      (4294967296 ≤ nearV want 4294967296 cut → 2 * (nearV want 4294967296 cut - want) ≤ 4294967296) := by
  unfold nearV; (repeat' split) <;> omega

theorem cutL_of1 (v x0 : Int) (h : v % 256 = x0) : cutL v 1 = [x0] := by
  rw [cutL, if_pos rfl]; congr 1
theorem cutL_of2 (v x0 x1 : Int) (h1 : 0 ≤ x1 ∧ x1 ≤ 255) (h : v % 65536 = x0 * 256 + x1) : cutL v 2 = [x0, x1] := by
  rw [cutL, if_neg (by decide), if_pos rfl, show v / 256 % 256 = x0 from by omega, show v % 256 = x1 from by omega]
theorem cutL_of3 (v x0 x1 x2 : Int) (h1 : 0 ≤ x1 ∧ x1 ≤ 255) (h2 : 0 ≤ x2 ∧ x2 ≤ 255) (h : v % 16777216 = (x0 * 256 + x1) * 256 + x2) : cutL v 3 = [x0, x1, x2] := by
  rw [cutL, if_neg (by decide), if_neg (by decide), if_pos rfl, show v / 65536 % 256 = x0 from by omega, show v / 256 % 256 = x1 from by omega, show v % 256 = x2 from by omega]
theorem cutL_of4 (v x0 x1 x2 x3 : Int) (h1 : 0 ≤ x1 ∧ x1 ≤ 255) (h2 : 0 ≤ x2 ∧ x2 ≤ 255) (h3 : 0 ≤ x3 ∧ x3 ≤ 255) (h : v % 4294967296 = ((x0 * 256 + x1) * 256 + x2) * 256 + x3) : cutL v 4 = [x0, x1, x2, x3] := by
  rw [cutL, if_neg (by decide), if_neg (by decide), if_neg (by decide), if_pos rfl, show v / 16777216 % 256 = x0 from by omega, show v / 65536 % 256 = x1 from by omega, show v / 256 % 256 = x2 from by omega, show v % 256 = x3 from by omega]

/-- Bytes that came in, put over m zeros. -/
theorem copied_over {w1 : World} {g m n : Nat} {xs : List Int} (hb : ∀ x ∈ xs, 0 ≤ x ∧ x ≤ 255) (hn : xs.length = n)
    (hr : w1.heap[g]? = some (.cells (splice (List.replicate m (Value.int .u8 0)) 0 ((xs.take m).map (Value.int .u8))).toArray 5 (0, 0))) :
    ∃ ys : List Int, ys.length = m ∧ BS w1 (some ⟨g, 0, none⟩) ys := by
  refine ⟨xs.take m ++ List.replicate (m - n) 0, by simp; omega, .inr ⟨g, 0, rfl, ?_, fun i hi => ?_⟩, fun x hx => ?_⟩
  · rcases Nat.lt_or_ge g w1.heap.size with h | h
    · exact h
    · rw [Array.getElem?_eq_none h] at hr; cases hr
  · rw [Nat.zero_add, cell_of_row w1 g i _ 5 (0, 0) hr]
    have e : splice (List.replicate m (Value.int .u8 0)) 0 ((xs.take m).map (Value.int .u8)) = (xs.take m ++ List.replicate (m - n) 0).map (Value.int .u8) := by
      simp [splice, hn]
      omega
    rw [e]
    simp only [List.getElem?_toArray, List.getElem?_map, List.getElem?_eq_getElem hi, Option.map_some, List.getD, Option.getD_some]
  · rcases List.mem_append.1 hx with h | h
    · exact hb x (List.mem_of_mem_take h)
    · have := (List.mem_replicate.1 h).2; omega
theorem src_of {w : World} {A : Option Addr} {xs : List Int} {cs : Array Value} {T : TypeId} {m : Nat} {dp : Option Addr} {g : Nat} (hd : dp = some ⟨g, 0, none⟩) (h : BS w A xs) :
    0 < ((xs.take m).map (Value.int .u8)).length → dp = some ⟨g, 0, none⟩ ∧ ∃ ad, A = some ad ∧ ∀ j v, ((xs.take m).map (Value.int .u8))[j]? = some v → (w.alloc (.cells cs T)).cell? (ad.add j) = some v := by
  intro hpos
  refine ⟨hd, ?_⟩
  rcases h.1 with h0 | ⟨b, off, rfl, hlt, hc⟩
  · subst h0; simp at hpos
  · refine ⟨_, rfl, fun j v hj => ?_⟩
    have hplain : (⟨b, off, none⟩ : Addr).add j = ⟨b, off + j, none⟩ := by unfold Addr.add; split <;> simp_all
    have hjl : j < (xs.take m).length := by
      rcases Nat.lt_or_ge j (xs.take m).length with h | h
      · exact h
      · rw [List.getElem?_eq_none (by simpa using h)] at hj; cases hj
    rw [hplain, World.cell?_alloc_lt _ _ _ hlt, hc j (by rw [List.length_take] at hjl; omega)]
    rw [List.getElem?_map, List.getElem?_eq_getElem hjl] at hj
    simp only [Option.map_some, Option.some.injEq] at hj
    rw [← hj, List.getElem_take]
    simp [List.getD, List.getElem?_eq_getElem (show j < xs.length by rw [List.length_take] at hjl; omega)]
theorem one_u8 (xs : List Int) : ∀ v ∈ xs.map (Value.int .u8), v.oneCell' = true := by
  intro u hu; simp at hu; obtain ⟨a, _, rfl⟩ := hu; rfl

set_option maxHeartbeats 4000000 in
theorem near_any (greatest n : Int) (A : Option Addr) (len c : Nat) (xs : List Int) (w : World) (hn : xs.length = len) (h : BS w A xs) :
    Calls Try.prog 6 #[.int .i64 greatest, .slice A len c, .int .i64 n] w fun e w' => e = .returned (.bool true) ∧ Below w.heap.size w w' := by
  have HN := Lib.hid hn
  clear hn
  have m1 : ∀ w, (Instr.makeSlice 22 (.int .i64 1) (.int .i64 1)).run Try.prog w = .ok (.slice (some ⟨w.heap.size, 0, none⟩) 1 1) (w.alloc (.cells #[.int .u8 0] 5)) := fun _ => by kernel_rfl
  have m2 : ∀ w, (Instr.makeSlice 22 (.int .i64 2) (.int .i64 2)).run Try.prog w = .ok (.slice (some ⟨w.heap.size, 0, none⟩) 2 2) (w.alloc (.cells #[.int .u8 0, .int .u8 0] 5)) := fun _ => by kernel_rfl
  have m3 : ∀ w, (Instr.makeSlice 22 (.int .i64 3) (.int .i64 3)).run Try.prog w = .ok (.slice (some ⟨w.heap.size, 0, none⟩) 3 3) (w.alloc (.cells #[.int .u8 0, .int .u8 0, .int .u8 0] 5)) := fun _ => by kernel_rfl
  have m4 : ∀ w, (Instr.makeSlice 22 (.int .i64 4) (.int .i64 4)).run Try.prog w = .ok (.slice (some ⟨w.heap.size, 0, none⟩) 4 4) (w.alloc (.cells #[.int .u8 0, .int .u8 0, .int .u8 0, .int .u8 0] 5)) := fun _ => by kernel_rfl
  go_enter Try.func6, Try.ntmps6
  go_wp2_with fail
  refine (bring_in greatest 9007199254740993 _ (by decide) (by decide)).mono ?_
  rintro e w' ⟨g, hg0, hg1, rfl, rfl⟩
  go_wp2_with fail
  refine (bring_in n 4 _ (by decide) (by decide)).mono ?_
  rintro e w' ⟨r, hr0, hr1, rfl, rfl⟩
  have hr : r = 0 ∨ r = 1 ∨ r = 2 ∨ r = 3 := by omega
  clear hr0 hr1
  rcases hr with rfl | rfl | rfl | rfl
  · go_wp2_with (with_reducible refine wpList_copy_splice rfl (.tmp 24) (.tmp 25) 22 22 rfl 5 Try.underlying22 (by kernel_rfl) _ _ _ _ _ _ rfl rfl w.heap.size 0 [.int .u8 0] 5 (heap_alloc_new w _) ((xs.take 1).map (Value.int .u8)) (by rw [List.length_map, List.length_take, HN.out]; exact Nat.min_comm _ _) (src_of rfl h) (by simp; omega) (one_u8 _) w.heap.size w ((Below.refl _ _).alloc (Nat.le_refl _) _) (Nat.le_refl _) ?_; intro w1 hrow hb1)
    obtain ⟨ys, hys, hA⟩ := copied_over (m := 1) h.2 HN.out hrow
    clear hrow
    match ys, hys, hA with
    | [x0], hys, hA =>
    have b0 := hA.2 x0 (by simp)
    clear hys
    go_wp2_with fail
    refine (whole_any (g - 1) _ 1 1 _ _ rfl hA).mono ?_
    rintro e w2 ⟨rfl, hb2⟩
    have hv := nearest1 (g - 1 + 1) (x0) (by omega) (by omega) (by omega) (by omega)
    have hE : wholeE (g - 1) [x0] = 0 := wholeE_ok (by omega) (by omega) (by simp) (by simp)
    have hW : wholeN (g - 1) [x0] = nearV (g - 1 + 1) 256 (x0) := by rw [wholeN_ok (by omega) (by omega) (by simp) (by simp)]; simp [allV, cutV]
    rw [← hW] at hv
    clear hW
    obtain ⟨hv0, hv1, hv2, hv3, hv4⟩ := hv
    have hC := Lib.hid (cutL_of1 _ x0  hv2)
    clear hv2
    generalize wholeN (g - 1) [x0] = v at hv0 hv1 hv3 hv4 hC ⊢
    go_wp2_with fail
    refine (cut_yes v 1 _ hv0 hv1 (by decide) (by decide)).mono ?_
    rintro e w3 ⟨A3, c3, rfl, hA3, hb3⟩
    rw [hC.out] at hA3
    go_wp2_with fail
    refine (eqb_any A3 _ 1 1 c3 1 [x0] [x0] _ rfl rfl hA3 (hA.below (hb2.trans (hb3.mono hb2.size)))).mono ?_
    rintro e w' ⟨rfl, rfl⟩
    by_cases k1 : v + 256 ≤ 9007199254740991
    all_goals by_cases k2 : 256 ≤ v
    all_goals
      go_wp2_with fail
    all_goals
      refine (works_any _).mono ?_
      rintro e w4 ⟨rfl, hb4⟩
      go_wp2_with fail
      go_ret
      exact ⟨rfl, hb1.trans (((hb2.trans (hb3.mono hb2.size)).trans (hb4.mono (Nat.le_trans hb2.size hb3.size))).mono hb1.size)⟩
  · go_wp2_with (with_reducible refine wpList_copy_splice rfl (.tmp 24) (.tmp 25) 22 22 rfl 5 Try.underlying22 (by kernel_rfl) _ _ _ _ _ _ rfl rfl w.heap.size 0 [.int .u8 0, .int .u8 0] 5 (heap_alloc_new w _) ((xs.take 2).map (Value.int .u8)) (by rw [List.length_map, List.length_take, HN.out]; exact Nat.min_comm _ _) (src_of rfl h) (by simp; omega) (one_u8 _) w.heap.size w ((Below.refl _ _).alloc (Nat.le_refl _) _) (Nat.le_refl _) ?_; intro w1 hrow hb1)
    obtain ⟨ys, hys, hA⟩ := copied_over (m := 2) h.2 HN.out hrow
    clear hrow
    match ys, hys, hA with
    | [x0, x1], hys, hA =>
    have b0 := hA.2 x0 (by simp)
    have b1 := hA.2 x1 (by simp)
    clear hys
    go_wp2_with fail
    refine (whole_any (g - 1) _ 2 2 _ _ rfl hA).mono ?_
    rintro e w2 ⟨rfl, hb2⟩
    have hv := nearest2 (g - 1 + 1) (x0 * 256 + x1) (by omega) (by omega) (by omega) (by omega)
    have hE : wholeE (g - 1) [x0, x1] = 0 := wholeE_ok (by omega) (by omega) (by simp) (by simp)
    have hW : wholeN (g - 1) [x0, x1] = nearV (g - 1 + 1) 65536 (x0 * 256 + x1) := by rw [wholeN_ok (by omega) (by omega) (by simp) (by simp)]; simp [allV, cutV]
    rw [← hW] at hv
    clear hW
    obtain ⟨hv0, hv1, hv2, hv3, hv4⟩ := hv
    have hC := Lib.hid (cutL_of2 _ x0 x1 b1 hv2)
    clear hv2
    generalize wholeN (g - 1) [x0, x1] = v at hv0 hv1 hv3 hv4 hC ⊢
    go_wp2_with fail
    refine (cut_yes v 2 _ hv0 hv1 (by decide) (by decide)).mono ?_
    rintro e w3 ⟨A3, c3, rfl, hA3, hb3⟩
    rw [hC.out] at hA3
    go_wp2_with fail
    refine (eqb_any A3 _ 2 2 c3 2 [x0, x1] [x0, x1] _ rfl rfl hA3 (hA.below (hb2.trans (hb3.mono hb2.size)))).mono ?_
    rintro e w' ⟨rfl, rfl⟩
    by_cases k1 : v + 65536 ≤ 9007199254740991
    all_goals by_cases k2 : 65536 ≤ v
    all_goals
      go_wp2_with fail
    all_goals
      refine (works_any _).mono ?_
      rintro e w4 ⟨rfl, hb4⟩
      go_wp2_with fail
      go_ret
      exact ⟨rfl, hb1.trans (((hb2.trans (hb3.mono hb2.size)).trans (hb4.mono (Nat.le_trans hb2.size hb3.size))).mono hb1.size)⟩
  · go_wp2_with (with_reducible refine wpList_copy_splice rfl (.tmp 24) (.tmp 25) 22 22 rfl 5 Try.underlying22 (by kernel_rfl) _ _ _ _ _ _ rfl rfl w.heap.size 0 [.int .u8 0, .int .u8 0, .int .u8 0] 5 (heap_alloc_new w _) ((xs.take 3).map (Value.int .u8)) (by rw [List.length_map, List.length_take, HN.out]; exact Nat.min_comm _ _) (src_of rfl h) (by simp; omega) (one_u8 _) w.heap.size w ((Below.refl _ _).alloc (Nat.le_refl _) _) (Nat.le_refl _) ?_; intro w1 hrow hb1)
    obtain ⟨ys, hys, hA⟩ := copied_over (m := 3) h.2 HN.out hrow
    clear hrow
    match ys, hys, hA with
    | [x0, x1, x2], hys, hA =>
    have b0 := hA.2 x0 (by simp)
    have b1 := hA.2 x1 (by simp)
    have b2 := hA.2 x2 (by simp)
    clear hys
    go_wp2_with fail
    refine (whole_any (g - 1) _ 3 3 _ _ rfl hA).mono ?_
    rintro e w2 ⟨rfl, hb2⟩
    have hv := nearest3 (g - 1 + 1) ((x0 * 256 + x1) * 256 + x2) (by omega) (by omega) (by omega) (by omega)
    have hE : wholeE (g - 1) [x0, x1, x2] = 0 := wholeE_ok (by omega) (by omega) (by simp) (by simp)
    have hW : wholeN (g - 1) [x0, x1, x2] = nearV (g - 1 + 1) 16777216 ((x0 * 256 + x1) * 256 + x2) := by rw [wholeN_ok (by omega) (by omega) (by simp) (by simp)]; simp [allV, cutV]
    rw [← hW] at hv
    clear hW
    obtain ⟨hv0, hv1, hv2, hv3, hv4⟩ := hv
    have hC := Lib.hid (cutL_of3 _ x0 x1 x2 b1 b2 hv2)
    clear hv2
    generalize wholeN (g - 1) [x0, x1, x2] = v at hv0 hv1 hv3 hv4 hC ⊢
    go_wp2_with fail
    refine (cut_yes v 3 _ hv0 hv1 (by decide) (by decide)).mono ?_
    rintro e w3 ⟨A3, c3, rfl, hA3, hb3⟩
    rw [hC.out] at hA3
    go_wp2_with fail
    refine (eqb_any A3 _ 3 3 c3 3 [x0, x1, x2] [x0, x1, x2] _ rfl rfl hA3 (hA.below (hb2.trans (hb3.mono hb2.size)))).mono ?_
    rintro e w' ⟨rfl, rfl⟩
    by_cases k1 : v + 16777216 ≤ 9007199254740991
    all_goals by_cases k2 : 16777216 ≤ v
    all_goals
      go_wp2_with fail
    all_goals
      refine (works_any _).mono ?_
      rintro e w4 ⟨rfl, hb4⟩
      go_wp2_with fail
      go_ret
      exact ⟨rfl, hb1.trans (((hb2.trans (hb3.mono hb2.size)).trans (hb4.mono (Nat.le_trans hb2.size hb3.size))).mono hb1.size)⟩
  · go_wp2_with (with_reducible refine wpList_copy_splice rfl (.tmp 24) (.tmp 25) 22 22 rfl 5 Try.underlying22 (by kernel_rfl) _ _ _ _ _ _ rfl rfl w.heap.size 0 [.int .u8 0, .int .u8 0, .int .u8 0, .int .u8 0] 5 (heap_alloc_new w _) ((xs.take 4).map (Value.int .u8)) (by rw [List.length_map, List.length_take, HN.out]; exact Nat.min_comm _ _) (src_of rfl h) (by simp; omega) (one_u8 _) w.heap.size w ((Below.refl _ _).alloc (Nat.le_refl _) _) (Nat.le_refl _) ?_; intro w1 hrow hb1)
    obtain ⟨ys, hys, hA⟩ := copied_over (m := 4) h.2 HN.out hrow
    clear hrow
    match ys, hys, hA with
    | [x0, x1, x2, x3], hys, hA =>
    have b0 := hA.2 x0 (by simp)
    have b1 := hA.2 x1 (by simp)
    have b2 := hA.2 x2 (by simp)
    have b3 := hA.2 x3 (by simp)
    clear hys
    go_wp2_with fail
    refine (whole_any (g - 1) _ 4 4 _ _ rfl hA).mono ?_
    rintro e w2 ⟨rfl, hb2⟩
    have hv := nearest4 (g - 1 + 1) (((x0 * 256 + x1) * 256 + x2) * 256 + x3) (by omega) (by omega) (by omega) (by omega)
    have hE : wholeE (g - 1) [x0, x1, x2, x3] = 0 := wholeE_ok (by omega) (by omega) (by simp) (by simp)
    have hW : wholeN (g - 1) [x0, x1, x2, x3] = nearV (g - 1 + 1) 4294967296 (((x0 * 256 + x1) * 256 + x2) * 256 + x3) := by rw [wholeN_ok (by omega) (by omega) (by simp) (by simp)]; simp [allV, cutV]
    rw [← hW] at hv
    clear hW
    obtain ⟨hv0, hv1, hv2, hv3, hv4⟩ := hv
    have hC := Lib.hid (cutL_of4 _ x0 x1 x2 x3 b1 b2 b3 hv2)
    clear hv2
    generalize wholeN (g - 1) [x0, x1, x2, x3] = v at hv0 hv1 hv3 hv4 hC ⊢
    go_wp2_with fail
    refine (cut_yes v 4 _ hv0 hv1 (by decide) (by decide)).mono ?_
    rintro e w3 ⟨A3, c3, rfl, hA3, hb3⟩
    rw [hC.out] at hA3
    go_wp2_with fail
    refine (eqb_any A3 _ 4 4 c3 4 [x0, x1, x2, x3] [x0, x1, x2, x3] _ rfl rfl hA3 (hA.below (hb2.trans (hb3.mono hb2.size)))).mono ?_
    rintro e w' ⟨rfl, rfl⟩
    by_cases k1 : v + 4294967296 ≤ 9007199254740991
    all_goals by_cases k2 : 4294967296 ≤ v
    all_goals
      go_wp2_with fail
    all_goals
      refine (works_any _).mono ?_
      rintro e w4 ⟨rfl, hb4⟩
      go_wp2_with fail
      go_ret
      exact ⟨rfl, hb1.trans (((hb2.trans (hb3.mono hb2.size)).trans (hb4.mono (Nat.le_trans hb2.size hb3.size))).mono hb1.size)⟩

end Go.Proofs.Ytpkbbbfgabfcgaa
