/-
  Chapter 19 by the engine: the contracts are kept (2).
-/
import Derived.Test.YtfhkmagpgbcnjaaV1
namespace Go.Proofs.Ytfhkmagpgbcnjaa
open Go.RowKit

theorem ok26 : SpecOK Try.prog 26 s26 := by
  intro args h base k hk
  unfold s26 at hk
  split at hk
  · rename_i a b c sp n
    cases hc : decide (0 ≤ sp) && decide (sp < 3) with
    | false => simp [hc] at hk
    | true =>
      simp only [hc, cond_true] at hk
      simp only [Bool.and_eq_true, decide_eq_true_eq] at hc
      refine ⟨_, [], [], hk, plainOK g0 Try.func26 (by kernel_rfl) (by kernel_rfl) ?_ rfl rfl h base⟩
      show evalF C0 64 Try.f26 _ [] _
      have h3 : sp = 0 ∨ sp = 1 ∨ sp = 2 := by omega
      rcases h3 with rfl | rfl | rfl
      · rw [t26a a b c n (fun v => v = _)]
        rfl
      · rw [t26b a b c n (fun v => v = _)]
        rfl
      · rw [t26c a b c n (fun v => v = _)]
        rfl
  · cases hk
theorem ok28 : SpecOK Try.prog 28 s26 := by
  intro args h base k hk
  unfold s26 at hk
  split at hk
  · rename_i a b c sp n
    cases hc : decide (0 ≤ sp) && decide (sp < 3) with
    | false => simp [hc] at hk
    | true =>
      simp only [hc, cond_true] at hk
      simp only [Bool.and_eq_true, decide_eq_true_eq] at hc
      refine ⟨_, [], [], hk, plainOK g0 Try.func28 (by kernel_rfl) (by kernel_rfl) ?_ rfl rfl h base⟩
      show evalF C0 64 Try.f28 _ [] _
      have h3 : sp = 0 ∨ sp = 1 ∨ sp = 2 := by omega
      rcases h3 with rfl | rfl | rfl
      · rw [t28a a b c n (fun v => v = _)]
        rfl
      · rw [t28b a b c n (fun v => v = _)]
        rfl
      · rw [t28c a b c n (fun v => v = _)]
        rfl
  · cases hk
theorem ok25 (e : Int) : SpecOK Try.prog 25 (s25 e) := by
  intro args h base k hk
  unfold s25 at hk
  split at hk
  · rename_i a b c sp
    cases hc : decide (mayE a b c sp = e) with
    | false => simp [hc] at hk
    | true =>
      simp only [hc, cond_true] at hk
      have hc : mayE a b c sp = e := by simpa using hc
      refine ⟨_, [], [], hk, plainOK gs1 Try.func25 (by kernel_rfl) (by kernel_rfl) ?_ rfl rfl h base⟩
      show evalF C1 64 Try.f25 _ [] _
      rw [t25 a b c sp (fun v => v = _), ← hc]
      rcases Bool.eq_false_or_eq_true (ok3 a b c) with h1 | h1
      · by_cases h2 : sp < 0
        · simp [chk, mayE, h1, h2, show ¬ (0 ≤ sp) by omega]
        · by_cases h4 : 3 ≤ sp
          · simp [chk, mayE, h1, h2, h4, show ¬ (sp < 3) by omega]
          · simp [chk, mayE, h1, h2, h4, show 0 ≤ sp by omega, show sp < 3 by omega]
      · simp [chk, mayE, h1]
  · cases hk
theorem ok27 (e : Int) : SpecOK Try.prog 27 (s25 e) := by
  intro args h base k hk
  unfold s25 at hk
  split at hk
  · rename_i a b c sp
    cases hc : decide (mayE a b c sp = e) with
    | false => simp [hc] at hk
    | true =>
      simp only [hc, cond_true] at hk
      have hc : mayE a b c sp = e := by simpa using hc
      refine ⟨_, [], [], hk, plainOK gs1 Try.func27 (by kernel_rfl) (by kernel_rfl) ?_ rfl rfl h base⟩
      show evalF C1 64 Try.f27 _ [] _
      rw [t27 a b c sp (fun v => v = _), ← hc]
      rcases Bool.eq_false_or_eq_true (ok3 a b c) with h1 | h1
      · by_cases h2 : sp < 0
        · simp [chk, mayE, h1, h2, show ¬ (0 ≤ sp) by omega]
        · by_cases h4 : 3 ≤ sp
          · simp [chk, mayE, h1, h2, show ¬ (sp < 3) by omega, show 2 < sp by omega]
          · simp [chk, mayE, h1, h2, show ¬ (2 < sp) by omega, show 0 ≤ sp by omega, show sp < 3 by omega]
      · simp [chk, mayE, h1]
  · cases hk
theorem gs2 (e : Int) : GSound (C2 e) := (((g0.add (ok25 e)).add (ok27 e)).add ok26).add ok28
end Go.Proofs.Ytfhkmagpgbcnjaa
