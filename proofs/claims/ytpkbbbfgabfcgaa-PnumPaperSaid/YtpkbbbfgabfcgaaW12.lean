/-
  PnumPaper: plain laws and the walk.
-/
import Derived.Test.YtpkbbbfgabfcgaaW11
import Derived.Deep.QuietTactic
import Derived.BigQuiet
namespace Go.Proofs.Ytpkbbbfgabfcgaa
open Go.RowKit
set_option linter.unusedVariables false

theorem paper1 (g cut : Int) (hg0 : 0 ≤ g) (hg1 : g ≤ 9007199254740991) (hc0 : 0 ≤ cut) (hc1 : cut < 256) :
    (g - g % 256 + cut ≤ g - 128 ∧ g - g % 256 + cut < 9007199254740736 ∧ nearV g 256 cut = g - g % 256 + cut + 256) ∨
    (¬ (g - g % 256 + cut ≤ g - 128 ∧ g - g % 256 + cut < 9007199254740736) ∧ g + 128 < g - g % 256 + cut ∧ 256 ≤ g - g % 256 + cut ∧ nearV g 256 cut = g - g % 256 + cut - 256) ∨
    (¬ (g - g % 256 + cut ≤ g - 128 ∧ g - g % 256 + cut < 9007199254740736) ∧ ¬ (g + 128 < g - g % 256 + cut ∧ 256 ≤ g - g % 256 + cut) ∧ nearV g 256 cut = g - g % 256 + cut) ∨
    (¬ (g - g % 256 + cut ≤ g - 128 ∧ g - g % 256 + cut < 9007199254740736) ∧ ¬ (g + 128 < g - g % 256 + cut ∧ 256 ≤ g - g % 256 + cut) ∧ 9007199254740991 < g - g % 256 + cut ∧ nearV g 256 cut = g - g % 256 + cut - 256) := by
  unfold nearV; (repeat' split) <;> omega

theorem paper2 (g cut : Int) (hg0 : 0 ≤ g) (hg1 : g ≤ 9007199254740991) (hc0 : 0 ≤ cut) (hc1 : cut < 65536) :
    (g - g % 65536 + cut ≤ g - 32768 ∧ g - g % 65536 + cut < 9007199254675456 ∧ nearV g 65536 cut = g - g % 65536 + cut + 65536) ∨
    (¬ (g - g % 65536 + cut ≤ g - 32768 ∧ g - g % 65536 + cut < 9007199254675456) ∧ g + 32768 < g - g % 65536 + cut ∧ 65536 ≤ g - g % 65536 + cut ∧ nearV g 65536 cut = g - g % 65536 + cut - 65536) ∨
    (¬ (g - g % 65536 + cut ≤ g - 32768 ∧ g - g % 65536 + cut < 9007199254675456) ∧ ¬ (g + 32768 < g - g % 65536 + cut ∧ 65536 ≤ g - g % 65536 + cut) ∧ nearV g 65536 cut = g - g % 65536 + cut) ∨
    (¬ (g - g % 65536 + cut ≤ g - 32768 ∧ g - g % 65536 + cut < 9007199254675456) ∧ ¬ (g + 32768 < g - g % 65536 + cut ∧ 65536 ≤ g - g % 65536 + cut) ∧ 9007199254740991 < g - g % 65536 + cut ∧ nearV g 65536 cut = g - g % 65536 + cut - 65536) := by
  unfold nearV; (repeat' split) <;> omega

theorem paper3 (g cut : Int) (hg0 : 0 ≤ g) (hg1 : g ≤ 9007199254740991) (hc0 : 0 ≤ cut) (hc1 : cut < 16777216) :
    (g - g % 16777216 + cut ≤ g - 8388608 ∧ g - g % 16777216 + cut < 9007199237963776 ∧ nearV g 16777216 cut = g - g % 16777216 + cut + 16777216) ∨
    (¬ (g - g % 16777216 + cut ≤ g - 8388608 ∧ g - g % 16777216 + cut < 9007199237963776) ∧ g + 8388608 < g - g % 16777216 + cut ∧ 16777216 ≤ g - g % 16777216 + cut ∧ nearV g 16777216 cut = g - g % 16777216 + cut - 16777216) ∨
    (¬ (g - g % 16777216 + cut ≤ g - 8388608 ∧ g - g % 16777216 + cut < 9007199237963776) ∧ ¬ (g + 8388608 < g - g % 16777216 + cut ∧ 16777216 ≤ g - g % 16777216 + cut) ∧ nearV g 16777216 cut = g - g % 16777216 + cut) ∨
    (¬ (g - g % 16777216 + cut ≤ g - 8388608 ∧ g - g % 16777216 + cut < 9007199237963776) ∧ ¬ (g + 8388608 < g - g % 16777216 + cut ∧ 16777216 ≤ g - g % 16777216 + cut) ∧ 9007199254740991 < g - g % 16777216 + cut ∧ nearV g 16777216 cut = g - g % 16777216 + cut - 16777216) := by
  unfold nearV; (repeat' split) <;> omega

theorem paper4 (g cut : Int) (hg0 : 0 ≤ g) (hg1 : g ≤ 9007199254740991) (hc0 : 0 ≤ cut) (hc1 : cut < 4294967296) :
    (g - g % 4294967296 + cut ≤ g - 2147483648 ∧ g - g % 4294967296 + cut < 9007194959773696 ∧ nearV g 4294967296 cut = g - g % 4294967296 + cut + 4294967296) ∨
    (¬ (g - g % 4294967296 + cut ≤ g - 2147483648 ∧ g - g % 4294967296 + cut < 9007194959773696) ∧ g + 2147483648 < g - g % 4294967296 + cut ∧ 4294967296 ≤ g - g % 4294967296 + cut ∧ nearV g 4294967296 cut = g - g % 4294967296 + cut - 4294967296) ∨
    (¬ (g - g % 4294967296 + cut ≤ g - 2147483648 ∧ g - g % 4294967296 + cut < 9007194959773696) ∧ ¬ (g + 2147483648 < g - g % 4294967296 + cut ∧ 4294967296 ≤ g - g % 4294967296 + cut) ∧ nearV g 4294967296 cut = g - g % 4294967296 + cut) ∨
    (¬ (g - g % 4294967296 + cut ≤ g - 2147483648 ∧ g - g % 4294967296 + cut < 9007194959773696) ∧ ¬ (g + 2147483648 < g - g % 4294967296 + cut ∧ 4294967296 ≤ g - g % 4294967296 + cut) ∧ 9007199254740991 < g - g % 4294967296 + cut ∧ nearV g 4294967296 cut = g - g % 4294967296 + cut - 4294967296) := by
  unfold nearV; (repeat' split) <;> omega

theorem BS.drewN {w : World} {A : Option Addr} {xs : List Int} (h : BS w A xs) (n : Nat) : BS (w.drewN n) A xs := h
theorem cell_at {w : World} {g : Nat} {xs : List Int} (h : BS w (some ⟨g, 0, none⟩) xs) (i : Nat) (x : Int) (hx : xs[i]? = some x) : w.cell? ⟨g, i, none⟩ = some (.int .u8 x) := by
  rcases h.1 with h0 | ⟨b, off, hA, _, hc⟩
  · subst h0; simp at hx
  · simp only [Option.some.injEq, Addr.mk.injEq] at hA
    obtain ⟨rfl, rfl, _⟩ := hA
    have hi : i < xs.length := by
      rcases Nat.lt_or_ge i xs.length with h | h
      · exact h
      · rw [List.getElem?_eq_none h] at hx; cases hx
    have := hc i hi
    rw [Nat.zero_add] at this
    rw [this, List.getD, hx]; rfl

set_option maxHeartbeats 4000000 in
theorem paper_any (greatest n : Int) (A : Option Addr) (len c : Nat) (xs : List Int) (w : World) (hn : xs.length = len) (h : BS w A xs) :
    Calls Try.prog 7 #[.int .i64 greatest, .slice A len c, .int .i64 n] w fun e w' => e = .returned (.bool true) ∧ Below w.heap.size w w' := by
  have HN := Lib.hid hn
  clear hn
  have m1 : ∀ w, (Instr.makeSlice 22 (.int .i64 1) (.int .i64 1)).run Try.prog w = .ok (.slice (some ⟨w.heap.size, 0, none⟩) 1 1) (w.alloc (.cells #[.int .u8 0] 5)) := fun _ => by kernel_rfl
  have m2 : ∀ w, (Instr.makeSlice 22 (.int .i64 2) (.int .i64 2)).run Try.prog w = .ok (.slice (some ⟨w.heap.size, 0, none⟩) 2 2) (w.alloc (.cells #[.int .u8 0, .int .u8 0] 5)) := fun _ => by kernel_rfl
  have m3 : ∀ w, (Instr.makeSlice 22 (.int .i64 3) (.int .i64 3)).run Try.prog w = .ok (.slice (some ⟨w.heap.size, 0, none⟩) 3 3) (w.alloc (.cells #[.int .u8 0, .int .u8 0, .int .u8 0] 5)) := fun _ => by kernel_rfl
  have m4 : ∀ w, (Instr.makeSlice 22 (.int .i64 4) (.int .i64 4)).run Try.prog w = .ok (.slice (some ⟨w.heap.size, 0, none⟩) 4 4) (w.alloc (.cells #[.int .u8 0, .int .u8 0, .int .u8 0, .int .u8 0] 5)) := fun _ => by kernel_rfl
  go_enter Try.func7, Try.ntmps7
  go_wp2_with fail
  refine (bring_in greatest 9007199254740992 _ (by decide) (by decide)).mono ?_
  rintro e w' ⟨g, hg0, hg1, rfl, rfl⟩
  go_wp2_with fail
  refine (bring_in n 4 _ (by decide) (by decide)).mono ?_
  rintro e w' ⟨r, hr0, hr1, rfl, rfl⟩
  have hr : r = 0 ∨ r = 1 ∨ r = 2 ∨ r = 3 := by omega
  clear hr0 hr1
  rcases hr with rfl | rfl | rfl | rfl
  · go_wp2_with (with_reducible refine wpList_copy_splice rfl (.tmp 22) (.tmp 23) 22 22 rfl 5 Try.underlying22 (by kernel_rfl) _ _ _ _ _ _ rfl rfl w.heap.size 0 [.int .u8 0] 5 (heap_alloc_new w _) ((xs.take 1).map (Value.int .u8)) (by rw [List.length_map, List.length_take, HN.out]; exact Nat.min_comm _ _) (src_of rfl h) (by simp; omega) (one_u8 _) w.heap.size w ((Below.refl _ _).alloc (Nat.le_refl _) _) (Nat.le_refl _) ?_; intro w1 hrow hb1)
    obtain ⟨ys, hys, hA⟩ := copied_over (m := 1) h.2 HN.out hrow
    clear hrow m1 m2 m3 m4
    match ys, hys, hA with
    | [x0], hys, hA =>
    have b0 := hA.2 x0 (by simp)
    have c0 := cell_at hA 0 x0 rfl
    clear hys
    have e0 := or_byte0 x0 b0.1 b0.2
    have hm := andNot_mask 8 (by decide) g 255 (by decide) (by omega) (by omega)
    simp only [Int.reduceAdd] at hm
    have ho := or_low 8 (by decide) g (x0) 256 (by decide) (by omega) (by omega) (by omega) (by omega)
    refine wp_loop_rounds 3 ?_
    rw [rounds_succ]; go_wp2
    rw [rounds_succ]; go_wp2
    go_quiet (fail)
    have hP := paper1 g (x0) (by omega) (by omega) (by omega) (by omega)
    have hE : wholeE (g - 1) [x0] = 0 := wholeE_ok (by omega) (by omega) (by simp) (by simp)
    have HN2 := Lib.hid (show wholeN (g - 1) [x0] = nearV g 256 (x0) from by rw [wholeN_ok (by omega) (by omega) (by simp) (by simp)]; simp [allV, cutV])
    rcases hP with ⟨p1, p2, hP⟩ | ⟨p1, p2, p3, hP⟩ | ⟨p1, p2, hP⟩ | ⟨p1, p2, p3, hP⟩
    all_goals
      have HP := Lib.hid (HN2.out.trans hP)
      clear hP HN2
      go_wp2_with fail
    all_goals
      refine (whole_any (g - 1) _ 1 1 _ _ rfl (hA.drewN _)).mono ?_
      rintro e w2 ⟨rfl, hb2⟩
      rw [HP.out]
      go_wp2_with fail
    all_goals
      refine (works_any _).mono ?_
      rintro e w4 ⟨rfl, hb4⟩
      go_wp2_with fail
      go_ret
      exact ⟨rfl, (below_drewN hb1 _).trans ((hb2.trans (hb4.mono hb2.size)).mono (below_drewN hb1 _).size)⟩
  · go_wp2_with (with_reducible refine wpList_copy_splice rfl (.tmp 22) (.tmp 23) 22 22 rfl 5 Try.underlying22 (by kernel_rfl) _ _ _ _ _ _ rfl rfl w.heap.size 0 [.int .u8 0, .int .u8 0] 5 (heap_alloc_new w _) ((xs.take 2).map (Value.int .u8)) (by rw [List.length_map, List.length_take, HN.out]; exact Nat.min_comm _ _) (src_of rfl h) (by simp; omega) (one_u8 _) w.heap.size w ((Below.refl _ _).alloc (Nat.le_refl _) _) (Nat.le_refl _) ?_; intro w1 hrow hb1)
    obtain ⟨ys, hys, hA⟩ := copied_over (m := 2) h.2 HN.out hrow
    clear hrow m1 m2 m3 m4
    match ys, hys, hA with
    | [x0, x1], hys, hA =>
    have b0 := hA.2 x0 (by simp)
    have b1 := hA.2 x1 (by simp)
    have c0 := cell_at hA 0 x0 rfl
    have c1 := cell_at hA 1 x1 rfl
    clear hys
    have e0 := or_byte0 x0 b0.1 b0.2
    have e1 := or_byte (x0) x1 (by omega) (by omega) b1.1 b1.2
    have hm := andNot_mask 16 (by decide) g 65535 (by decide) (by omega) (by omega)
    simp only [Int.reduceAdd] at hm
    have ho := or_low 16 (by decide) g (x0 * 256 + x1) 65536 (by decide) (by omega) (by omega) (by omega) (by omega)
    refine wp_loop_rounds 4 ?_
    rw [rounds_succ]; go_wp2
    rw [rounds_succ]; go_wp2
    rw [rounds_succ]; go_wp2
    go_quiet (fail)
    have hP := paper2 g (x0 * 256 + x1) (by omega) (by omega) (by omega) (by omega)
    have hE : wholeE (g - 1) [x0, x1] = 0 := wholeE_ok (by omega) (by omega) (by simp) (by simp)
    have HN2 := Lib.hid (show wholeN (g - 1) [x0, x1] = nearV g 65536 (x0 * 256 + x1) from by rw [wholeN_ok (by omega) (by omega) (by simp) (by simp)]; simp [allV, cutV])
    rcases hP with ⟨p1, p2, hP⟩ | ⟨p1, p2, p3, hP⟩ | ⟨p1, p2, hP⟩ | ⟨p1, p2, p3, hP⟩
    all_goals
      have HP := Lib.hid (HN2.out.trans hP)
      clear hP HN2
      go_wp2_with fail
    all_goals
      refine (whole_any (g - 1) _ 2 2 _ _ rfl (hA.drewN _)).mono ?_
      rintro e w2 ⟨rfl, hb2⟩
      rw [HP.out]
      go_wp2_with fail
    all_goals
      refine (works_any _).mono ?_
      rintro e w4 ⟨rfl, hb4⟩
      go_wp2_with fail
      go_ret
      exact ⟨rfl, (below_drewN hb1 _).trans ((hb2.trans (hb4.mono hb2.size)).mono (below_drewN hb1 _).size)⟩
  · go_wp2_with (with_reducible refine wpList_copy_splice rfl (.tmp 22) (.tmp 23) 22 22 rfl 5 Try.underlying22 (by kernel_rfl) _ _ _ _ _ _ rfl rfl w.heap.size 0 [.int .u8 0, .int .u8 0, .int .u8 0] 5 (heap_alloc_new w _) ((xs.take 3).map (Value.int .u8)) (by rw [List.length_map, List.length_take, HN.out]; exact Nat.min_comm _ _) (src_of rfl h) (by simp; omega) (one_u8 _) w.heap.size w ((Below.refl _ _).alloc (Nat.le_refl _) _) (Nat.le_refl _) ?_; intro w1 hrow hb1)
    obtain ⟨ys, hys, hA⟩ := copied_over (m := 3) h.2 HN.out hrow
    clear hrow m1 m2 m3 m4
    match ys, hys, hA with
    | [x0, x1, x2], hys, hA =>
    have b0 := hA.2 x0 (by simp)
    have b1 := hA.2 x1 (by simp)
    have b2 := hA.2 x2 (by simp)
    have c0 := cell_at hA 0 x0 rfl
    have c1 := cell_at hA 1 x1 rfl
    have c2 := cell_at hA 2 x2 rfl
    clear hys
    have e0 := or_byte0 x0 b0.1 b0.2
    have e1 := or_byte (x0) x1 (by omega) (by omega) b1.1 b1.2
    have e2 := or_byte (x0 * 256 + x1) x2 (by omega) (by omega) b2.1 b2.2
    have hm := andNot_mask 24 (by decide) g 16777215 (by decide) (by omega) (by omega)
    simp only [Int.reduceAdd] at hm
    have ho := or_low 24 (by decide) g ((x0 * 256 + x1) * 256 + x2) 16777216 (by decide) (by omega) (by omega) (by omega) (by omega)
    refine wp_loop_rounds 5 ?_
    rw [rounds_succ]; go_wp2
    rw [rounds_succ]; go_wp2
    rw [rounds_succ]; go_wp2
    rw [rounds_succ]; go_wp2
    go_quiet (fail)
    have hP := paper3 g ((x0 * 256 + x1) * 256 + x2) (by omega) (by omega) (by omega) (by omega)
    have hE : wholeE (g - 1) [x0, x1, x2] = 0 := wholeE_ok (by omega) (by omega) (by simp) (by simp)
    have HN2 := Lib.hid (show wholeN (g - 1) [x0, x1, x2] = nearV g 16777216 ((x0 * 256 + x1) * 256 + x2) from by rw [wholeN_ok (by omega) (by omega) (by simp) (by simp)]; simp [allV, cutV])
    rcases hP with ⟨p1, p2, hP⟩ | ⟨p1, p2, p3, hP⟩ | ⟨p1, p2, hP⟩ | ⟨p1, p2, p3, hP⟩
    all_goals
      have HP := Lib.hid (HN2.out.trans hP)
      clear hP HN2
      go_wp2_with fail
    all_goals
      refine (whole_any (g - 1) _ 3 3 _ _ rfl (hA.drewN _)).mono ?_
      rintro e w2 ⟨rfl, hb2⟩
      rw [HP.out]
      go_wp2_with fail
    all_goals
      refine (works_any _).mono ?_
      rintro e w4 ⟨rfl, hb4⟩
      go_wp2_with fail
      go_ret
      exact ⟨rfl, (below_drewN hb1 _).trans ((hb2.trans (hb4.mono hb2.size)).mono (below_drewN hb1 _).size)⟩
  · go_wp2_with (with_reducible refine wpList_copy_splice rfl (.tmp 22) (.tmp 23) 22 22 rfl 5 Try.underlying22 (by kernel_rfl) _ _ _ _ _ _ rfl rfl w.heap.size 0 [.int .u8 0, .int .u8 0, .int .u8 0, .int .u8 0] 5 (heap_alloc_new w _) ((xs.take 4).map (Value.int .u8)) (by rw [List.length_map, List.length_take, HN.out]; exact Nat.min_comm _ _) (src_of rfl h) (by simp; omega) (one_u8 _) w.heap.size w ((Below.refl _ _).alloc (Nat.le_refl _) _) (Nat.le_refl _) ?_; intro w1 hrow hb1)
    obtain ⟨ys, hys, hA⟩ := copied_over (m := 4) h.2 HN.out hrow
    clear hrow m1 m2 m3 m4
    match ys, hys, hA with
    | [x0, x1, x2, x3], hys, hA =>
    have b0 := hA.2 x0 (by simp)
    have b1 := hA.2 x1 (by simp)
    have b2 := hA.2 x2 (by simp)
    have b3 := hA.2 x3 (by simp)
    have c0 := cell_at hA 0 x0 rfl
    have c1 := cell_at hA 1 x1 rfl
    have c2 := cell_at hA 2 x2 rfl
    have c3 := cell_at hA 3 x3 rfl
    clear hys
    have e0 := or_byte0 x0 b0.1 b0.2
    have e1 := or_byte (x0) x1 (by omega) (by omega) b1.1 b1.2
    have e2 := or_byte (x0 * 256 + x1) x2 (by omega) (by omega) b2.1 b2.2
    have e3 := or_byte ((x0 * 256 + x1) * 256 + x2) x3 (by omega) (by omega) b3.1 b3.2
    have hm := andNot_mask 32 (by decide) g 4294967295 (by decide) (by omega) (by omega)
    simp only [Int.reduceAdd] at hm
    have ho := or_low 32 (by decide) g (((x0 * 256 + x1) * 256 + x2) * 256 + x3) 4294967296 (by decide) (by omega) (by omega) (by omega) (by omega)
    refine wp_loop_rounds 6 ?_
    rw [rounds_succ]; go_wp2
    rw [rounds_succ]; go_wp2
    rw [rounds_succ]; go_wp2
    rw [rounds_succ]; go_wp2
    rw [rounds_succ]; go_wp2
    go_quiet (fail)
    have hP := paper4 g (((x0 * 256 + x1) * 256 + x2) * 256 + x3) (by omega) (by omega) (by omega) (by omega)
    have hE : wholeE (g - 1) [x0, x1, x2, x3] = 0 := wholeE_ok (by omega) (by omega) (by simp) (by simp)
    have HN2 := Lib.hid (show wholeN (g - 1) [x0, x1, x2, x3] = nearV g 4294967296 (((x0 * 256 + x1) * 256 + x2) * 256 + x3) from by rw [wholeN_ok (by omega) (by omega) (by simp) (by simp)]; simp [allV, cutV])
    rcases hP with ⟨p1, p2, hP⟩ | ⟨p1, p2, p3, hP⟩ | ⟨p1, p2, hP⟩ | ⟨p1, p2, p3, hP⟩
    all_goals
      have HP := Lib.hid (HN2.out.trans hP)
      clear hP HN2
      go_wp2_with fail
    all_goals
      refine (whole_any (g - 1) _ 4 4 _ _ rfl (hA.drewN _)).mono ?_
      rintro e w2 ⟨rfl, hb2⟩
      rw [HP.out]
      go_wp2_with fail
    all_goals
      refine (works_any _).mono ?_
      rintro e w4 ⟨rfl, hb4⟩
      go_wp2_with fail
      go_ret
      exact ⟨rfl, (below_drewN hb1 _).trans ((hb2.trans (hb4.mono hb2.size)).mono (below_drewN hb1 _).size)⟩

end Go.Proofs.Ytpkbbbfgabfcgaa
