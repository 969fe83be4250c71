/-
  Chapter 19 by the engine: the contracts are kept (4).
-/
import Derived.Test.YtfhkmagpgbcnjaaV3
namespace Go.Proofs.Ytfhkmagpgbcnjaa
open Go.RowKit

theorem may_cases (a b c sp : Int) : (mayE a b c sp = 0 ∧ ok3 a b c = true ∧ (sp = 0 ∨ sp = 1 ∨ sp = 2)) ∨ mayE a b c sp = 2 ∨ mayE a b c sp = 160 := by
  unfold mayE
  rcases Bool.eq_false_or_eq_true (ok3 a b c) with h1 | h1
  · by_cases h2 : 0 ≤ sp ∧ sp < 3
    · exact .inl ⟨by simp [h1, h2], h1, by omega⟩
    · exact .inr (.inr (by simp only [h1, h2, if_true, if_false]))
  · exact .inr (.inl (by simp [h1]))
theorem ok9 : SpecOK Try.prog 9 s9 := by
  intro args h base k hk
  unfold s9 at hk
  split at hk
  · rename_i a b c sp m
    rcases may_cases a b c sp with ⟨h0, h1, hs⟩ | h0 | h0
    · refine ⟨_, [], [], hk, plainOK (gs2 0) Try.func9 (by kernel_rfl) (by kernel_rfl) ?_ rfl rfl h base⟩
      show evalF (C2 0) 64 Try.f9 _ [] _
      obtain ⟨r1, r2, r3⟩ := ok3_range h1
      rcases hs with rfl | rfl | rfl
      · rw [t9_0 a b c m (fun v => v = _), h0]
        by_cases m1 : m < 1
        · simp [ans, dE, h0, zi, m1, show ¬ (1 ≤ m) by omega]
        · by_cases m2 : 2 < m
          · simp [ans, dE, h0, zi, m1, m2, show ¬ (m ≤ 2) by omega]
          · simp [ans, dE, h0, zi, m1, m2, show 1 ≤ m by omega, show m ≤ 2 by omega, at3, mx]
      · rw [t9_1 a b c m (fun v => v = _), h0]
        by_cases m1 : m < 1
        · simp [ans, dE, h0, zi, m1, show ¬ (1 ≤ m) by omega]
        · by_cases m2 : 2 < m
          · simp [ans, dE, h0, zi, m1, m2, show ¬ (m ≤ 2) by omega]
          · simp [ans, dE, h0, zi, m1, m2, show 1 ≤ m by omega, show m ≤ 2 by omega, at3, mx]
      · rw [t9_2 a b c m (fun v => v = _), h0]
        by_cases m1 : m < 1
        · simp [ans, dE, h0, zi, m1, show ¬ (1 ≤ m) by omega]
        · by_cases m2 : 2 < m
          · simp [ans, dE, h0, zi, m1, m2, show ¬ (m ≤ 2) by omega]
          · simp [ans, dE, h0, zi, m1, m2, show 1 ≤ m by omega, show m ≤ 2 by omega, at3, mx]
    · refine ⟨_, [], [], hk, plainOK (gs2 2) Try.func9 (by kernel_rfl) (by kernel_rfl) ?_ rfl rfl h base⟩
      show evalF (C2 2) 64 Try.f9 _ [] _
      rw [t9e2 a b c sp m (fun v => v = _), h0]
      simp [ans, dE, h0, zi]
    · refine ⟨_, [], [], hk, plainOK (gs2 160) Try.func9 (by kernel_rfl) (by kernel_rfl) ?_ rfl rfl h base⟩
      show evalF (C2 160) 64 Try.f9 _ [] _
      rw [t9e160 a b c sp m (fun v => v = _), h0]
      simp [ans, dE, h0, zi]
  · cases hk
theorem ok10 : SpecOK Try.prog 10 s9 := by
  intro args h base k hk
  unfold s9 at hk
  split at hk
  · rename_i a b c sp m
    rcases may_cases a b c sp with ⟨h0, h1, hs⟩ | h0 | h0
    · refine ⟨_, [], [], hk, plainOK (gs2 0) Try.func10 (by kernel_rfl) (by kernel_rfl) ?_ rfl rfl h base⟩
      show evalF (C2 0) 64 Try.f10 _ [] _
      obtain ⟨r1, r2, r3⟩ := ok3_range h1
      rcases hs with rfl | rfl | rfl
      · rw [t10_0 a b c m (fun v => v = _), h0]
        by_cases m1 : m = 1
        · subst m1
          simp [ans, dE, h0, zi, at3, mx]
        · by_cases m2 : m = 2
          · subst m2
            simp [ans, dE, h0, zi, at3, mx]
          · simp [ans, dE, h0, zi, m1, m2, show ¬ (1 ≤ m ∧ m ≤ 2) by omega]
      · rw [t10_1 a b c m (fun v => v = _), h0]
        by_cases m1 : m = 1
        · subst m1
          simp [ans, dE, h0, zi, at3, mx]
        · by_cases m2 : m = 2
          · subst m2
            simp [ans, dE, h0, zi, at3, mx]
          · simp [ans, dE, h0, zi, m1, m2, show ¬ (1 ≤ m ∧ m ≤ 2) by omega]
      · rw [t10_2 a b c m (fun v => v = _), h0]
        by_cases m1 : m = 1
        · subst m1
          simp [ans, dE, h0, zi, at3, mx]
        · by_cases m2 : m = 2
          · subst m2
            simp [ans, dE, h0, zi, at3, mx]
          · simp [ans, dE, h0, zi, m1, m2, show ¬ (1 ≤ m ∧ m ≤ 2) by omega]
    · refine ⟨_, [], [], hk, plainOK (gs2 2) Try.func10 (by kernel_rfl) (by kernel_rfl) ?_ rfl rfl h base⟩
      show evalF (C2 2) 64 Try.f10 _ [] _
      rw [t10e2 a b c sp m (fun v => v = _), h0]
      simp [ans, dE, h0, zi]
    · refine ⟨_, [], [], hk, plainOK (gs2 160) Try.func10 (by kernel_rfl) (by kernel_rfl) ?_ rfl rfl h base⟩
      show evalF (C2 160) 64 Try.f10 _ [] _
      rw [t10e160 a b c sp m (fun v => v = _), h0]
      simp [ans, dE, h0, zi]
  · cases hk
theorem ok12 : SpecOK Try.prog 12 s12 := by
  intro args h base k hk
  unfold s12 at hk
  split at hk
  · rename_i a b c sp
    rcases may_cases a b c sp with ⟨h0, h1, hs⟩ | h0 | h0
    · refine ⟨_, [], [], hk, plainOK (gs2 0) Try.func12 (by kernel_rfl) (by kernel_rfl) ?_ rfl rfl h base⟩
      show evalF (C2 0) 64 Try.f12 _ [] _
      obtain ⟨r1, r2, r3⟩ := ok3_range h1
      rcases hs with rfl | rfl | rfl
      · rw [t12_0 a b c (fun v => v = _), h0]
        by_cases z : a = 0
        · subst z
          simp [ans, kE, h0, zi, at3]
        · rw [wrap_id (n := a - 1) (by omega) (by omega)]
          simp [ans, kE, h0, zi, at3, z]
      · rw [t12_1 a b c (fun v => v = _), h0]
        by_cases z : b = 0
        · subst z
          simp [ans, kE, h0, zi, at3]
        · rw [wrap_id (n := b - 1) (by omega) (by omega)]
          simp [ans, kE, h0, zi, at3, z]
      · rw [t12_2 a b c (fun v => v = _), h0]
        by_cases z : c = 0
        · subst z
          simp [ans, kE, h0, zi, at3]
        · rw [wrap_id (n := c - 1) (by omega) (by omega)]
          simp [ans, kE, h0, zi, at3, z]
    · refine ⟨_, [], [], hk, plainOK (gs2 2) Try.func12 (by kernel_rfl) (by kernel_rfl) ?_ rfl rfl h base⟩
      show evalF (C2 2) 64 Try.f12 _ [] _
      rw [t12e2 a b c sp (fun v => v = _), h0]
      simp [ans, kE, h0, zi]
    · refine ⟨_, [], [], hk, plainOK (gs2 160) Try.func12 (by kernel_rfl) (by kernel_rfl) ?_ rfl rfl h base⟩
      show evalF (C2 160) 64 Try.f12 _ [] _
      rw [t12e160 a b c sp (fun v => v = _), h0]
      simp [ans, kE, h0, zi]
  · cases hk
theorem ok13 : SpecOK Try.prog 13 s12 := by
  intro args h base k hk
  unfold s12 at hk
  split at hk
  · rename_i a b c sp
    rcases may_cases a b c sp with ⟨h0, h1, hs⟩ | h0 | h0
    · refine ⟨_, [], [], hk, plainOK (gs2 0) Try.func13 (by kernel_rfl) (by kernel_rfl) ?_ rfl rfl h base⟩
      show evalF (C2 0) 64 Try.f13 _ [] _
      obtain ⟨r1, r2, r3⟩ := ok3_range h1
      rcases hs with rfl | rfl | rfl
      · rw [t13_0 a b c (fun v => v = _), h0]
        by_cases z : a = 0
        · subst z
          simp [ans, kE, h0, zi, at3]
        · rw [wrap_id (n := a - 1) (by omega) (by omega)]
          simp [ans, kE, h0, zi, at3, z]
      · rw [t13_1 a b c (fun v => v = _), h0]
        by_cases z : b = 0
        · subst z
          simp [ans, kE, h0, zi, at3]
        · rw [wrap_id (n := b - 1) (by omega) (by omega)]
          simp [ans, kE, h0, zi, at3, z]
      · rw [t13_2 a b c (fun v => v = _), h0]
        by_cases z : c = 0
        · subst z
          simp [ans, kE, h0, zi, at3]
        · rw [wrap_id (n := c - 1) (by omega) (by omega)]
          simp [ans, kE, h0, zi, at3, z]
    · refine ⟨_, [], [], hk, plainOK (gs2 2) Try.func13 (by kernel_rfl) (by kernel_rfl) ?_ rfl rfl h base⟩
      show evalF (C2 2) 64 Try.f13 _ [] _
      rw [t13e2 a b c sp (fun v => v = _), h0]
      simp [ans, kE, h0, zi]
    · refine ⟨_, [], [], hk, plainOK (gs2 160) Try.func13 (by kernel_rfl) (by kernel_rfl) ?_ rfl rfl h base⟩
      show evalF (C2 160) 64 Try.f13 _ [] _
      rw [t13e160 a b c sp (fun v => v = _), h0]
      simp [ans, kE, h0, zi]
  · cases hk
theorem ok14 : SpecOK Try.prog 14 s14 := by
  intro args h base k hk
  unfold s14 at hk
  split at hk
  · rename_i a b c sp
    rcases may_cases a b c sp with ⟨h0, h1, hs⟩ | h0 | h0
    · refine ⟨_, [], [], hk, plainOK (gs2 0) Try.func14 (by kernel_rfl) (by kernel_rfl) ?_ rfl rfl h base⟩
      show evalF (C2 0) 64 Try.f14 _ [] _
      obtain ⟨r1, r2, r3⟩ := ok3_range h1
      rcases hs with rfl | rfl | rfl
      · rw [t14_0 a b c (fun v => v = _), h0]
        simp [ans, zi]
      · rw [t14_1 a b c (fun v => v = _), h0]
        simp [ans, zi]
      · rw [t14_2 a b c (fun v => v = _), h0]
        simp [ans, zi]
    · refine ⟨_, [], [], hk, plainOK (gs2 2) Try.func14 (by kernel_rfl) (by kernel_rfl) ?_ rfl rfl h base⟩
      show evalF (C2 2) 64 Try.f14 _ [] _
      rw [t14e2 a b c sp (fun v => v = _), h0]
      simp [ans, zi]
    · refine ⟨_, [], [], hk, plainOK (gs2 160) Try.func14 (by kernel_rfl) (by kernel_rfl) ?_ rfl rfl h base⟩
      show evalF (C2 160) 64 Try.f14 _ [] _
      rw [t14e160 a b c sp (fun v => v = _), h0]
      simp [ans, zi]
  · cases hk
theorem ok15 : SpecOK Try.prog 15 s14 := by
  intro args h base k hk
  unfold s14 at hk
  split at hk
  · rename_i a b c sp
    rcases may_cases a b c sp with ⟨h0, h1, hs⟩ | h0 | h0
    · refine ⟨_, [], [], hk, plainOK (gs2 0) Try.func15 (by kernel_rfl) (by kernel_rfl) ?_ rfl rfl h base⟩
      show evalF (C2 0) 64 Try.f15 _ [] _
      obtain ⟨r1, r2, r3⟩ := ok3_range h1
      rcases hs with rfl | rfl | rfl
      · rw [t15_0 a b c (fun v => v = _), h0]
        simp [ans, zi]
      · rw [t15_1 a b c (fun v => v = _), h0]
        simp [ans, zi]
      · rw [t15_2 a b c (fun v => v = _), h0]
        simp [ans, zi]
    · refine ⟨_, [], [], hk, plainOK (gs2 2) Try.func15 (by kernel_rfl) (by kernel_rfl) ?_ rfl rfl h base⟩
      show evalF (C2 2) 64 Try.f15 _ [] _
      rw [t15e2 a b c sp (fun v => v = _), h0]
      simp [ans, zi]
    · refine ⟨_, [], [], hk, plainOK (gs2 160) Try.func15 (by kernel_rfl) (by kernel_rfl) ?_ rfl rfl h base⟩
      show evalF (C2 160) 64 Try.f15 _ [] _
      rw [t15e160 a b c sp (fun v => v = _), h0]
      simp [ans, zi]
  · cases hk
end Go.Proofs.Ytfhkmagpgbcnjaa
