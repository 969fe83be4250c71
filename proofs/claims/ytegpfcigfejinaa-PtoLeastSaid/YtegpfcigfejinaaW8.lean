/-
  PtoLeast: the walk.
-/
import Derived.Test.YtegpfcigfejinaaW7
namespace Go.Proofs.Ytegpfcigfejinaa
open Go.RowKit

theorem okR_since {l m s v : Int} (h1 : 0 ≤ m) (h2 : m ≤ l) (h3 : l ≤ 9007199254740991) (h4 : m ≤ s) (h5 : s ≤ 9007199254740991) (h6 : 0 ≤ v) (h7 : v ≤ 9007199254740991) : okR l m s v 0 = true := by
  rw [okR, if_neg (by decide), isT_true (by omega) (by omega), isT_true (by omega) (by omega), isT_true (by omega) (by omega), isT_true (by omega) (by omega), isT_true (by omega) (by omega)]
  simp [h2, h4]

set_option maxHeartbeats 4000000 in
theorem least_any (x0 x1 x2 x3 space delay : Int) (w : World) :
    Calls Try.prog 5 #[.agg #[.int .i64 x0, .int .i64 x1, .int .i64 x2, .int .i64 x3], .int .i64 space, .int .i64 delay] w fun e w' => e = .returned (.bool true) ∧ Below w.heap.size w w' := by
  go_enter Try.func5, Try.ntmps5
  go_wp2_with fail
  refine (works_any _).mono ?_
  rintro e w1 ⟨rfl, hb1⟩
  obtain ⟨hx, _, hz1⟩ := keep_new hb1
  have a0 := hx 0; have a1 := hx 1; have a2 := hx 2; have a3 := hx 3
  simp at a0 a1 a2 a3
  clear hx
  have hb01 : Below w.heap.size w w1 := ((Below.refl _ _).alloc (Nat.le_refl _) _).trans (hb1.mono (by simp))
  clear hb1
  go_wp2_with fail
  refine (measure_any x0 x1 x2 x3 _).mono ?_
  rintro e w2 ⟨l, m, s, v, hm0, hml, hl, hms, hs, hv0, hv1, rfl, hb2⟩
  have hb02 := hb01.trans (hb2.mono hb01.size)
  have hok := okR_since hm0 hml hl hms hs hv0 hv1
  have hs0 : 0 ≤ s := by omega
  clear a0 a1 a2 a3 hz1 hb01 hb2 hml hl hms
  go_wp2_with fail
  refine (bring_in space 3 _ (by decide) (by decide)).mono ?_
  rintro e w' ⟨k, hk0, hk1, rfl, rfl⟩
  go_wp2_with fail
  refine (bring_in delay 9007199254740992 _ (by decide) (by decide)).mono ?_
  rintro e w' ⟨d, hd0, hd1, rfl, rfl⟩
  go_wp2_with fail
  refine (base_any l m s v 0 k d _).mono ?_
  rintro e w3 ⟨rfl, hb3⟩
  obtain ⟨hx, _, hz3⟩ := keep_new hb3
  have c0 := hx 0; have c1 := hx 1; have c2 := hx 2; have c3 := hx 3; have c4 := hx 4
  simp at c0 c1 c2 c3 c4
  clear hx
  have hb03 : Below w.heap.size w w3 := (hb02.alloc hb02.size _).trans (hb3.mono (by simp; have := hb02.size; omega))
  clear hb3 hb02
  have hk : k = 0 ∨ k = 1 ∨ k = 2 := by omega
  clear hk0 hk1
  rcases hk with rfl | rfl | rfl
  · by_cases h4 : 4 * v < 1000000
    · by_cases hT : 9007199254740991 ≤ s + 1000000
      · have e1 := Lib.hid (show baseV l m s v 0 0 d = 9007199254740991 from by rw [baseV_low hok (by decide) (by decide), varV, if_pos h4]; unfold timeV; (repeat' split) <;> omega)
        have e2 := (show baseV l m s v 0 0 0 = 9007199254740991 from by rw [baseV_low hok (by decide) (by decide), varV, if_pos h4]; unfold timeV; (repeat' split) <;> omega)
        rw [e1.out]
        clear hok e1
        go_wp2_with (go_at_call 10; refine (base_any l m s v 0 _ _ _).mono ?_; rintro e w4 ⟨rfl, hb4⟩; have hz4 := Nat.lt_of_lt_of_le hz3 hb4.size; have d0 := (hb4.cell (p := ⟨w2.heap.size, 0, none⟩) hz3).trans c0; have d1 := (hb4.cell (p := ⟨w2.heap.size, 1, none⟩) hz3).trans c1; have d2 := (hb4.cell (p := ⟨w2.heap.size, 2, none⟩) hz3).trans c2; have d3 := (hb4.cell (p := ⟨w2.heap.size, 3, none⟩) hz3).trans c3; have d4 := (hb4.cell (p := ⟨w2.heap.size, 4, none⟩) hz3).trans c4)
        all_goals go_ret
        all_goals exact ⟨rfl, hb03.trans (hb4.mono hb03.size)⟩
      · have e1 := Lib.hid (show baseV l m s v 0 0 d = s + 1000000 from by rw [baseV_low hok (by decide) (by decide), varV, if_pos h4]; unfold timeV; (repeat' split) <;> omega)
        have e2 := (show baseV l m s v 0 0 0 = s + 1000000 from by rw [baseV_low hok (by decide) (by decide), varV, if_pos h4]; unfold timeV; (repeat' split) <;> omega)
        rw [e1.out]
        clear hok e1
        go_wp2_with (go_at_call 10; refine (base_any l m s v 0 _ _ _).mono ?_; rintro e w4 ⟨rfl, hb4⟩; have hz4 := Nat.lt_of_lt_of_le hz3 hb4.size; have d0 := (hb4.cell (p := ⟨w2.heap.size, 0, none⟩) hz3).trans c0; have d1 := (hb4.cell (p := ⟨w2.heap.size, 1, none⟩) hz3).trans c1; have d2 := (hb4.cell (p := ⟨w2.heap.size, 2, none⟩) hz3).trans c2; have d3 := (hb4.cell (p := ⟨w2.heap.size, 3, none⟩) hz3).trans c3; have d4 := (hb4.cell (p := ⟨w2.heap.size, 4, none⟩) hz3).trans c4)
        all_goals go_ret
        all_goals exact ⟨rfl, hb03.trans (hb4.mono hb03.size)⟩
    · by_cases hT : 9007199254740991 ≤ s + 4 * v
      · have e1 := Lib.hid (show baseV l m s v 0 0 d = 9007199254740991 from by rw [baseV_low hok (by decide) (by decide), varV, if_neg h4]; unfold timeV; (repeat' split) <;> omega)
        have e2 := (show baseV l m s v 0 0 0 = 9007199254740991 from by rw [baseV_low hok (by decide) (by decide), varV, if_neg h4]; unfold timeV; (repeat' split) <;> omega)
        rw [e1.out]
        clear hok e1
        go_wp2_with (go_at_call 10; refine (base_any l m s v 0 _ _ _).mono ?_; rintro e w4 ⟨rfl, hb4⟩; have hz4 := Nat.lt_of_lt_of_le hz3 hb4.size; have d0 := (hb4.cell (p := ⟨w2.heap.size, 0, none⟩) hz3).trans c0; have d1 := (hb4.cell (p := ⟨w2.heap.size, 1, none⟩) hz3).trans c1; have d2 := (hb4.cell (p := ⟨w2.heap.size, 2, none⟩) hz3).trans c2; have d3 := (hb4.cell (p := ⟨w2.heap.size, 3, none⟩) hz3).trans c3; have d4 := (hb4.cell (p := ⟨w2.heap.size, 4, none⟩) hz3).trans c4)
        all_goals go_ret
        all_goals exact ⟨rfl, hb03.trans (hb4.mono hb03.size)⟩
      · have e1 := Lib.hid (show baseV l m s v 0 0 d = s + 4 * v from by rw [baseV_low hok (by decide) (by decide), varV, if_neg h4]; unfold timeV; (repeat' split) <;> omega)
        have e2 := (show baseV l m s v 0 0 0 = s + 4 * v from by rw [baseV_low hok (by decide) (by decide), varV, if_neg h4]; unfold timeV; (repeat' split) <;> omega)
        rw [e1.out]
        clear hok e1
        go_wp2_with (go_at_call 10; refine (base_any l m s v 0 _ _ _).mono ?_; rintro e w4 ⟨rfl, hb4⟩; have hz4 := Nat.lt_of_lt_of_le hz3 hb4.size; have d0 := (hb4.cell (p := ⟨w2.heap.size, 0, none⟩) hz3).trans c0; have d1 := (hb4.cell (p := ⟨w2.heap.size, 1, none⟩) hz3).trans c1; have d2 := (hb4.cell (p := ⟨w2.heap.size, 2, none⟩) hz3).trans c2; have d3 := (hb4.cell (p := ⟨w2.heap.size, 3, none⟩) hz3).trans c3; have d4 := (hb4.cell (p := ⟨w2.heap.size, 4, none⟩) hz3).trans c4)
        all_goals go_ret
        all_goals exact ⟨rfl, hb03.trans (hb4.mono hb03.size)⟩
  · by_cases h4 : 4 * v < 1000000
    · by_cases hT : 9007199254740991 ≤ s + 1000000
      · have e1 := Lib.hid (show baseV l m s v 0 1 d = 9007199254740991 from by rw [baseV_low hok (by decide) (by decide), varV, if_pos h4]; unfold timeV; (repeat' split) <;> omega)
        have e2 := (show baseV l m s v 0 1 0 = 9007199254740991 from by rw [baseV_low hok (by decide) (by decide), varV, if_pos h4]; unfold timeV; (repeat' split) <;> omega)
        rw [e1.out]
        clear hok e1
        go_wp2_with (go_at_call 10; refine (base_any l m s v 0 _ _ _).mono ?_; rintro e w4 ⟨rfl, hb4⟩; have hz4 := Nat.lt_of_lt_of_le hz3 hb4.size; have d0 := (hb4.cell (p := ⟨w2.heap.size, 0, none⟩) hz3).trans c0; have d1 := (hb4.cell (p := ⟨w2.heap.size, 1, none⟩) hz3).trans c1; have d2 := (hb4.cell (p := ⟨w2.heap.size, 2, none⟩) hz3).trans c2; have d3 := (hb4.cell (p := ⟨w2.heap.size, 3, none⟩) hz3).trans c3; have d4 := (hb4.cell (p := ⟨w2.heap.size, 4, none⟩) hz3).trans c4)
        all_goals go_ret
        all_goals exact ⟨rfl, hb03.trans (hb4.mono hb03.size)⟩
      · have e1 := Lib.hid (show baseV l m s v 0 1 d = s + 1000000 from by rw [baseV_low hok (by decide) (by decide), varV, if_pos h4]; unfold timeV; (repeat' split) <;> omega)
        have e2 := (show baseV l m s v 0 1 0 = s + 1000000 from by rw [baseV_low hok (by decide) (by decide), varV, if_pos h4]; unfold timeV; (repeat' split) <;> omega)
        rw [e1.out]
        clear hok e1
        go_wp2_with (go_at_call 10; refine (base_any l m s v 0 _ _ _).mono ?_; rintro e w4 ⟨rfl, hb4⟩; have hz4 := Nat.lt_of_lt_of_le hz3 hb4.size; have d0 := (hb4.cell (p := ⟨w2.heap.size, 0, none⟩) hz3).trans c0; have d1 := (hb4.cell (p := ⟨w2.heap.size, 1, none⟩) hz3).trans c1; have d2 := (hb4.cell (p := ⟨w2.heap.size, 2, none⟩) hz3).trans c2; have d3 := (hb4.cell (p := ⟨w2.heap.size, 3, none⟩) hz3).trans c3; have d4 := (hb4.cell (p := ⟨w2.heap.size, 4, none⟩) hz3).trans c4)
        all_goals go_ret
        all_goals exact ⟨rfl, hb03.trans (hb4.mono hb03.size)⟩
    · by_cases hT : 9007199254740991 ≤ s + 4 * v
      · have e1 := Lib.hid (show baseV l m s v 0 1 d = 9007199254740991 from by rw [baseV_low hok (by decide) (by decide), varV, if_neg h4]; unfold timeV; (repeat' split) <;> omega)
        have e2 := (show baseV l m s v 0 1 0 = 9007199254740991 from by rw [baseV_low hok (by decide) (by decide), varV, if_neg h4]; unfold timeV; (repeat' split) <;> omega)
        rw [e1.out]
        clear hok e1
        go_wp2_with (go_at_call 10; refine (base_any l m s v 0 _ _ _).mono ?_; rintro e w4 ⟨rfl, hb4⟩; have hz4 := Nat.lt_of_lt_of_le hz3 hb4.size; have d0 := (hb4.cell (p := ⟨w2.heap.size, 0, none⟩) hz3).trans c0; have d1 := (hb4.cell (p := ⟨w2.heap.size, 1, none⟩) hz3).trans c1; have d2 := (hb4.cell (p := ⟨w2.heap.size, 2, none⟩) hz3).trans c2; have d3 := (hb4.cell (p := ⟨w2.heap.size, 3, none⟩) hz3).trans c3; have d4 := (hb4.cell (p := ⟨w2.heap.size, 4, none⟩) hz3).trans c4)
        all_goals go_ret
        all_goals exact ⟨rfl, hb03.trans (hb4.mono hb03.size)⟩
      · have e1 := Lib.hid (show baseV l m s v 0 1 d = s + 4 * v from by rw [baseV_low hok (by decide) (by decide), varV, if_neg h4]; unfold timeV; (repeat' split) <;> omega)
        have e2 := (show baseV l m s v 0 1 0 = s + 4 * v from by rw [baseV_low hok (by decide) (by decide), varV, if_neg h4]; unfold timeV; (repeat' split) <;> omega)
        rw [e1.out]
        clear hok e1
        go_wp2_with (go_at_call 10; refine (base_any l m s v 0 _ _ _).mono ?_; rintro e w4 ⟨rfl, hb4⟩; have hz4 := Nat.lt_of_lt_of_le hz3 hb4.size; have d0 := (hb4.cell (p := ⟨w2.heap.size, 0, none⟩) hz3).trans c0; have d1 := (hb4.cell (p := ⟨w2.heap.size, 1, none⟩) hz3).trans c1; have d2 := (hb4.cell (p := ⟨w2.heap.size, 2, none⟩) hz3).trans c2; have d3 := (hb4.cell (p := ⟨w2.heap.size, 3, none⟩) hz3).trans c3; have d4 := (hb4.cell (p := ⟨w2.heap.size, 4, none⟩) hz3).trans c4)
        all_goals go_ret
        all_goals exact ⟨rfl, hb03.trans (hb4.mono hb03.size)⟩
  · by_cases h4 : 4 * v < 1000000
    · by_cases hT : 9007199254740991 ≤ s + 1000000 + d
      · have e1 := Lib.hid (show baseV l m s v 0 2 d = 9007199254740991 from by rw [baseV_two hok, varV, if_pos h4, timeV_in hd0 (by omega)]; unfold timeV; (repeat' split) <;> omega)
        rw [e1.out]
        clear hok e1
        go_wp2_with fail
        all_goals go_ret
        all_goals exact ⟨rfl, hb03⟩
      · have e1 := Lib.hid (show baseV l m s v 0 2 d = s + 1000000 + d from by rw [baseV_two hok, varV, if_pos h4, timeV_in hd0 (by omega)]; unfold timeV; (repeat' split) <;> omega)
        rw [e1.out]
        clear hok e1
        go_wp2_with fail
        all_goals go_ret
        all_goals exact ⟨rfl, hb03⟩
    · by_cases hT : 9007199254740991 ≤ s + 4 * v + d
      · have e1 := Lib.hid (show baseV l m s v 0 2 d = 9007199254740991 from by rw [baseV_two hok, varV, if_neg h4, timeV_in hd0 (by omega)]; unfold timeV; (repeat' split) <;> omega)
        rw [e1.out]
        clear hok e1
        go_wp2_with fail
        all_goals go_ret
        all_goals exact ⟨rfl, hb03⟩
      · have e1 := Lib.hid (show baseV l m s v 0 2 d = s + 4 * v + d from by rw [baseV_two hok, varV, if_neg h4, timeV_in hd0 (by omega)]; unfold timeV; (repeat' split) <;> omega)
        rw [e1.out]
        clear hok e1
        go_wp2_with fail
        all_goals go_ret
        all_goals exact ⟨rfl, hb03⟩

end Go.Proofs.Ytegpfcigfejinaa
