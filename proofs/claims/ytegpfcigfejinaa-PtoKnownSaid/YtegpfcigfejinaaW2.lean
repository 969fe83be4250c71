/-
  Contracts of the functions of layer 8, part 2: Base, Persist, Backed, Due, and the references'.
-/
import Derived.Test.YtegpfcigfejinaaW1
import Derived.LoopTactic
namespace Go.Proofs.Ytegpfcigfejinaa
open Go.RowKit

set_option maxHeartbeats 2000000 in
theorem base_any (l m s v f space delay : Int) (w : World) :
    Calls Try.prog 10 #[.agg #[.int .i64 l, .int .i64 m, .int .i64 s, .int .i64 v, .int .i64 f], .int .i64 space, .int .i64 delay] w fun e w' => e = .returned (.int .i64 (baseV l m s v f space delay)) ∧ Below w.heap.size w w' := by
  by_cases h : okR l m s v f = true
  · have hE := chkE_ok h
    have hr := okR_range h
    obtain ⟨_, _, ⟨hs0, hs1⟩, ⟨hv0, hv1⟩, _⟩ := hr
    have ht := timeV_range delay
    obtain ⟨ht0, ht1⟩ := ht
    by_cases h2 : space = 2
    · subst h2
      by_cases h4 : 4 * v < 1000000
      · have HB := Lib.hid (show baseV l m s v f 2 delay = timeV (s + 1000000 + timeV delay) from by rw [baseV_two h, varV, if_pos h4])
        clear h
        go_enter Try.func10, Try.ntmps10
        go_wp2_with (first
          | (go_at_call 21; refine (check_any l m s v f _).mono ?_; rintro e w' ⟨rfl, hb⟩; obtain ⟨hc, _, hz⟩ := keep_new hb; have c2 := hc 2; have c3 := hc 3; simp at c2 c3; clear hc)
          | (go_at_call 22; refine (time_any _ _).mono ?_; rintro e w' ⟨rfl, rfl⟩))
        all_goals go_ret
        all_goals exact ⟨ret_int (by rw [HB.out]), ((Below.refl _ _).alloc (Nat.le_refl _) _).trans (hb.mono (by simp))⟩
      · have HB := Lib.hid (show baseV l m s v f 2 delay = timeV (s + 4 * v + timeV delay) from by rw [baseV_two h, varV, if_neg h4])
        clear h
        go_enter Try.func10, Try.ntmps10
        go_wp2_with (first
          | (go_at_call 21; refine (check_any l m s v f _).mono ?_; rintro e w' ⟨rfl, hb⟩; obtain ⟨hc, _, hz⟩ := keep_new hb; have c2 := hc 2; have c3 := hc 3; simp at c2 c3; clear hc)
          | (go_at_call 22; refine (time_any _ _).mono ?_; rintro e w' ⟨rfl, rfl⟩))
        all_goals go_ret
        all_goals exact ⟨ret_int (by rw [HB.out]), ((Below.refl _ _).alloc (Nat.le_refl _) _).trans (hb.mono (by simp))⟩
    · by_cases h3 : 0 ≤ space ∧ space < 2
      · obtain ⟨h30, h31⟩ := h3
        have h2' : (space == 2) = false := by rw [beq_eq_false_iff_ne]; exact h2
        clear h2
        by_cases h4 : 4 * v < 1000000
        · have HB := Lib.hid (show baseV l m s v f space delay = timeV (s + 1000000) from by rw [baseV_low h h30 h31, varV, if_pos h4])
          clear h
          go_enter Try.func10, Try.ntmps10
          go_wp2_with (first
            | (go_at_call 21; refine (check_any l m s v f _).mono ?_; rintro e w' ⟨rfl, hb⟩; obtain ⟨hc, _, hz⟩ := keep_new hb; have c2 := hc 2; have c3 := hc 3; simp at c2 c3; clear hc)
            | (go_at_call 22; refine (time_any _ _).mono ?_; rintro e w' ⟨rfl, rfl⟩))
          all_goals go_ret
          all_goals exact ⟨ret_int (by rw [HB.out]), ((Below.refl _ _).alloc (Nat.le_refl _) _).trans (hb.mono (by simp))⟩
        · have HB := Lib.hid (show baseV l m s v f space delay = timeV (s + 4 * v) from by rw [baseV_low h h30 h31, varV, if_neg h4])
          clear h
          go_enter Try.func10, Try.ntmps10
          go_wp2_with (first
            | (go_at_call 21; refine (check_any l m s v f _).mono ?_; rintro e w' ⟨rfl, hb⟩; obtain ⟨hc, _, hz⟩ := keep_new hb; have c2 := hc 2; have c3 := hc 3; simp at c2 c3; clear hc)
            | (go_at_call 22; refine (time_any _ _).mono ?_; rintro e w' ⟨rfl, rfl⟩))
          all_goals go_ret
          all_goals exact ⟨ret_int (by rw [HB.out]), ((Below.refl _ _).alloc (Nat.le_refl _) _).trans (hb.mono (by simp))⟩
      · have h5 : space < 0 ∨ 3 ≤ space := by omega
        have HB := Lib.hid (baseV_bad (l := l) (m := m) (s := s) (v := v) (f := f) (delay := delay) (.inr h5))
        clear h h2 h3
        rcases h5 with h5 | h5
        · go_enter Try.func10, Try.ntmps10
          go_wp2_with (first
            | (go_at_call 21; refine (check_any l m s v f _).mono ?_; rintro e w' ⟨rfl, hb⟩; obtain ⟨hc, _, hz⟩ := keep_new hb; have c2 := hc 2; have c3 := hc 3; simp at c2 c3; clear hc)
            | (go_at_call 22; refine (time_any _ _).mono ?_; rintro e w' ⟨rfl, rfl⟩))
          all_goals go_ret
          all_goals exact ⟨ret_int (by rw [HB.out]), ((Below.refl _ _).alloc (Nat.le_refl _) _).trans (hb.mono (by simp))⟩
        · go_enter Try.func10, Try.ntmps10
          go_wp2_with (first
            | (go_at_call 21; refine (check_any l m s v f _).mono ?_; rintro e w' ⟨rfl, hb⟩; obtain ⟨hc, _, hz⟩ := keep_new hb; have c2 := hc 2; have c3 := hc 3; simp at c2 c3; clear hc)
            | (go_at_call 22; refine (time_any _ _).mono ?_; rintro e w' ⟨rfl, rfl⟩))
          all_goals go_ret
          all_goals exact ⟨ret_int (by rw [HB.out]), ((Below.refl _ _).alloc (Nat.le_refl _) _).trans (hb.mono (by simp))⟩
  · have h' : okR l m s v f = false := by simpa using h
    have hE := chkE_bad h'
    have HB := Lib.hid (baseV_bad (space := space) (delay := delay) (.inl h'))
    clear h h'
    go_enter Try.func10, Try.ntmps10
    go_wp2_with (first
      | (go_at_call 21; refine (check_any l m s v f _).mono ?_; rintro e w' ⟨rfl, hb⟩; obtain ⟨hc, _, hz⟩ := keep_new hb; have c2 := hc 2; have c3 := hc 3; simp at c2 c3; clear hc)
      | (go_at_call 22; refine (time_any _ _).mono ?_; rintro e w' ⟨rfl, rfl⟩))
    all_goals go_ret
    all_goals exact ⟨ret_int (by rw [HB.out]), ((Below.refl _ _).alloc (Nat.le_refl _) _).trans (hb.mono (by simp))⟩

set_option maxHeartbeats 2000000 in
theorem rbase_any (l m s v f space delay : Int) (w : World) :
    Calls Try.prog 11 #[.agg #[.int .i64 l, .int .i64 m, .int .i64 s, .int .i64 v, .int .i64 f], .int .i64 space, .int .i64 delay] w fun e w' => e = .returned (.int .i64 (baseV l m s v f space delay)) ∧ Below w.heap.size w w' := by
  by_cases h : okR l m s v f = true
  · have hE := chkE_ok h
    have hr := okR_range h
    obtain ⟨_, _, ⟨hs0, hs1⟩, ⟨hv0, hv1⟩, _⟩ := hr
    have ht := timeV_range delay
    obtain ⟨ht0, ht1⟩ := ht
    by_cases h2 : space = 2
    · subst h2
      by_cases h4 : 4 * v < 1000000
      · have HB := Lib.hid (show baseV l m s v f 2 delay = timeV (s + 1000000 + timeV delay) from by rw [baseV_two h, varV, if_pos h4])
        clear h
        go_enter Try.func11, Try.ntmps11
        go_wp2_with (first
          | (go_at_call 23; refine (rcheck_any l m s v f _).mono ?_; rintro e w' ⟨rfl, hb⟩; obtain ⟨hc, _, hz⟩ := keep_new hb; have c2 := hc 2; have c3 := hc 3; simp at c2 c3; clear hc)
          | (go_at_call 24; refine (rtime_any _ _).mono ?_; rintro e w' ⟨rfl, rfl⟩))
        all_goals go_ret
        all_goals exact ⟨ret_int (by rw [HB.out]), ((Below.refl _ _).alloc (Nat.le_refl _) _).trans (hb.mono (by simp))⟩
      · have HB := Lib.hid (show baseV l m s v f 2 delay = timeV (s + 4 * v + timeV delay) from by rw [baseV_two h, varV, if_neg h4])
        clear h
        go_enter Try.func11, Try.ntmps11
        go_wp2_with (first
          | (go_at_call 23; refine (rcheck_any l m s v f _).mono ?_; rintro e w' ⟨rfl, hb⟩; obtain ⟨hc, _, hz⟩ := keep_new hb; have c2 := hc 2; have c3 := hc 3; simp at c2 c3; clear hc)
          | (go_at_call 24; refine (rtime_any _ _).mono ?_; rintro e w' ⟨rfl, rfl⟩))
        all_goals go_ret
        all_goals exact ⟨ret_int (by rw [HB.out]), ((Below.refl _ _).alloc (Nat.le_refl _) _).trans (hb.mono (by simp))⟩
    · by_cases h3 : 0 ≤ space ∧ space < 2
      · obtain ⟨h30, h31⟩ := h3
        have h2' : (space == 2) = false := by rw [beq_eq_false_iff_ne]; exact h2
        clear h2
        by_cases h4 : 4 * v < 1000000
        · have HB := Lib.hid (show baseV l m s v f space delay = timeV (s + 1000000) from by rw [baseV_low h h30 h31, varV, if_pos h4])
          clear h
          go_enter Try.func11, Try.ntmps11
          go_wp2_with (first
            | (go_at_call 23; refine (rcheck_any l m s v f _).mono ?_; rintro e w' ⟨rfl, hb⟩; obtain ⟨hc, _, hz⟩ := keep_new hb; have c2 := hc 2; have c3 := hc 3; simp at c2 c3; clear hc)
            | (go_at_call 24; refine (rtime_any _ _).mono ?_; rintro e w' ⟨rfl, rfl⟩))
          all_goals go_ret
          all_goals exact ⟨ret_int (by rw [HB.out]), ((Below.refl _ _).alloc (Nat.le_refl _) _).trans (hb.mono (by simp))⟩
        · have HB := Lib.hid (show baseV l m s v f space delay = timeV (s + 4 * v) from by rw [baseV_low h h30 h31, varV, if_neg h4])
          clear h
          go_enter Try.func11, Try.ntmps11
          go_wp2_with (first
            | (go_at_call 23; refine (rcheck_any l m s v f _).mono ?_; rintro e w' ⟨rfl, hb⟩; obtain ⟨hc, _, hz⟩ := keep_new hb; have c2 := hc 2; have c3 := hc 3; simp at c2 c3; clear hc)
            | (go_at_call 24; refine (rtime_any _ _).mono ?_; rintro e w' ⟨rfl, rfl⟩))
          all_goals go_ret
          all_goals exact ⟨ret_int (by rw [HB.out]), ((Below.refl _ _).alloc (Nat.le_refl _) _).trans (hb.mono (by simp))⟩
      · have h5 : space < 0 ∨ 3 ≤ space := by omega
        have HB := Lib.hid (baseV_bad (l := l) (m := m) (s := s) (v := v) (f := f) (delay := delay) (.inr h5))
        clear h h2 h3
        rcases h5 with h5 | h5
        · go_enter Try.func11, Try.ntmps11
          go_wp2_with (first
            | (go_at_call 23; refine (rcheck_any l m s v f _).mono ?_; rintro e w' ⟨rfl, hb⟩; obtain ⟨hc, _, hz⟩ := keep_new hb; have c2 := hc 2; have c3 := hc 3; simp at c2 c3; clear hc)
            | (go_at_call 24; refine (rtime_any _ _).mono ?_; rintro e w' ⟨rfl, rfl⟩))
          all_goals go_ret
          all_goals exact ⟨ret_int (by rw [HB.out]), ((Below.refl _ _).alloc (Nat.le_refl _) _).trans (hb.mono (by simp))⟩
        · go_enter Try.func11, Try.ntmps11
          go_wp2_with (first
            | (go_at_call 23; refine (rcheck_any l m s v f _).mono ?_; rintro e w' ⟨rfl, hb⟩; obtain ⟨hc, _, hz⟩ := keep_new hb; have c2 := hc 2; have c3 := hc 3; simp at c2 c3; clear hc)
            | (go_at_call 24; refine (rtime_any _ _).mono ?_; rintro e w' ⟨rfl, rfl⟩))
          all_goals go_ret
          all_goals exact ⟨ret_int (by rw [HB.out]), ((Below.refl _ _).alloc (Nat.le_refl _) _).trans (hb.mono (by simp))⟩
  · have h' : okR l m s v f = false := by simpa using h
    have hE := chkE_bad h'
    have HB := Lib.hid (baseV_bad (space := space) (delay := delay) (.inl h'))
    clear h h'
    go_enter Try.func11, Try.ntmps11
    go_wp2_with (first
      | (go_at_call 23; refine (rcheck_any l m s v f _).mono ?_; rintro e w' ⟨rfl, hb⟩; obtain ⟨hc, _, hz⟩ := keep_new hb; have c2 := hc 2; have c3 := hc 3; simp at c2 c3; clear hc)
      | (go_at_call 24; refine (rtime_any _ _).mono ?_; rintro e w' ⟨rfl, rfl⟩))
    all_goals go_ret
    all_goals exact ⟨ret_int (by rw [HB.out]), ((Below.refl _ _).alloc (Nat.le_refl _) _).trans (hb.mono (by simp))⟩

theorem per_any (l m s v f delay : Int) (w : World) :
    Calls Try.prog 12 #[.agg #[.int .i64 l, .int .i64 m, .int .i64 s, .int .i64 v, .int .i64 f], .int .i64 delay] w fun e w' => e = .returned (.int .i64 (perV l m s v f delay)) ∧ Below w.heap.size w w' := by
  have hb0 := (baseV_range l m s v f 2 delay).1
  have hb1 := (baseV_range l m s v f 2 delay).2
  go_enter Try.func12, Try.ntmps12
  go_wp2_with (first
    | (go_at_call 10; refine (base_any l m s v f _ _ _).mono ?_; rintro e w' ⟨rfl, hb⟩)
    | (go_at_call 22; refine (time_any _ _).mono ?_; rintro e w' ⟨rfl, rfl⟩))
  go_ret
  exact ⟨rfl, ((Below.refl _ _).alloc (Nat.le_refl _) _).trans (hb.mono (by simp))⟩

theorem rper_any (l m s v f delay : Int) (w : World) :
    Calls Try.prog 13 #[.agg #[.int .i64 l, .int .i64 m, .int .i64 s, .int .i64 v, .int .i64 f], .int .i64 delay] w fun e w' => e = .returned (.int .i64 (perV l m s v f delay)) ∧ Below w.heap.size w w' := by
  have hb0 := (baseV_range l m s v f 2 delay).1
  have hb1 := (baseV_range l m s v f 2 delay).2
  go_enter Try.func13, Try.ntmps13
  go_wp2_with (first
    | (go_at_call 11; refine (rbase_any l m s v f _ _ _).mono ?_; rintro e w' ⟨rfl, hb⟩)
    | (go_at_call 24; refine (rtime_any _ _).mono ?_; rintro e w' ⟨rfl, rfl⟩))
  go_ret
  exact ⟨rfl, ((Below.refl _ _).alloc (Nat.le_refl _) _).trans (hb.mono (by simp))⟩

theorem due_any (last wait : Int) (w : World) : Calls Try.prog 17 #[.int .i64 last, .int .i64 wait] w fun e w' => e = .returned (.int .i64 (dueV last wait)) ∧ w = w' := by
  have ht0 := (timeV_range wait).1
  have ht1 := (timeV_range wait).2
  by_cases h : 0 ≤ last ∧ last ≤ 9007199254740991
  · have HD := Lib.hid (show dueV last wait = timeV (last + timeV wait) from by rw [dueV, if_pos (isT_true h.1 h.2)])
    have hl := timeV_in h.1 h.2
    obtain ⟨h0, h1⟩ := h
    go_enter Try.func17, Try.ntmps17
    go_wp2_with (go_at_call 22; refine (time_any _ _).mono ?_; rintro e w' ⟨rfl, rfl⟩)
    go_ret
    exact ⟨ret_int HD.out.symm, rfl⟩
  · have HD := Lib.hid (show dueV last wait = -1 from by rw [dueV, isT_false (by omega)]; rfl)
    have hl : (last != timeV last) = true := by have := timeV_range last; rw [bne_iff_ne]; omega
    clear h
    go_enter Try.func17, Try.ntmps17
    go_wp2_with (go_at_call 22; refine (time_any _ _).mono ?_; rintro e w' ⟨rfl, rfl⟩)
    go_ret
    exact ⟨ret_int HD.out.symm, rfl⟩
theorem rdue_any (last wait : Int) (w : World) : Calls Try.prog 18 #[.int .i64 last, .int .i64 wait] w fun e w' => e = .returned (.int .i64 (dueV last wait)) ∧ w = w' := by
  have ht0 := (timeV_range wait).1
  have ht1 := (timeV_range wait).2
  by_cases h : 0 ≤ last ∧ last ≤ 9007199254740991
  · have HD := Lib.hid (show dueV last wait = timeV (last + timeV wait) from by rw [dueV, if_pos (isT_true h.1 h.2)])
    obtain ⟨h0, h1⟩ := h
    go_enter Try.func18, Try.ntmps18
    go_wp2_with (go_at_call 24; refine (rtime_any _ _).mono ?_; rintro e w' ⟨rfl, rfl⟩)
    go_ret
    exact ⟨ret_int HD.out.symm, rfl⟩
  · have HD := Lib.hid (show dueV last wait = -1 from by rw [dueV, isT_false (by omega)]; rfl)
    have h' : last < 0 ∨ 9007199254740991 < last := by omega
    clear h
    rcases h' with h' | h'
    all_goals
      go_enter Try.func18, Try.ntmps18
      go_wp2_with (go_at_call 24; refine (rtime_any _ _).mono ?_; rintro e w' ⟨rfl, rfl⟩)
      go_ret
      exact ⟨ret_int HD.out.symm, rfl⟩

end Go.Proofs.Ytegpfcigfejinaa
