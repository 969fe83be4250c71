/-
  Chapter 19 by the engine: the contracts are kept (3).
-/
import Derived.Test.YtfhkmagpgbcnjaaV2
import Derived.Test.YtfhkmagpgbcnjaaX3
namespace Go.Proofs.Ytfhkmagpgbcnjaa
open Go.RowKit

theorem wrap_id {n : Int} (h : -9223372036854775808 ≤ n) (h' : n ≤ 9223372036854775807) : IntKind.i64.wrap n = n := by
  simp only [IntKind.wrap, IntKind.bits, IntKind.signed]
  simp
  omega
theorem ok3_range {a b c : Int} (h : ok3 a b c = true) : (0 ≤ a ∧ a ≤ 2) ∧ (0 ≤ b ∧ b ≤ 2) ∧ 0 ≤ c ∧ c ≤ 2 := by
  simp only [ok3, Bool.and_eq_true, is2_iff] at h
  exact ⟨h.1.1, h.1.2, h.2⟩
theorem ok18 : SpecOK Try.prog 18 s18 := by
  intro args h base k hk
  unfold s18 at hk
  split at hk
  · rename_i a b c
    refine ⟨_, [], [], hk, plainOK gs1 Try.func18 (by kernel_rfl) (by kernel_rfl) ?_ rfl rfl h base⟩
    show evalF C1 64 Try.f18 _ [] _
    rw [t18 a b c (fun v => v = _)]
    rcases Bool.eq_false_or_eq_true (ok3 a b c) with h1 | h1
    · by_cases ha : 0 < a <;> by_cases hb : 0 < b <;> by_cases hc : 0 < c <;> simp [chk, fst3, h1, ha, hb, hc]
    · simp [chk, fst3, h1]
  · cases hk
theorem ok19 : SpecOK Try.prog 19 s18 := by
  intro args h base k hk
  unfold s18 at hk
  split at hk
  · rename_i a b c
    refine ⟨_, [], [], hk, plainOK gs1 Try.func19 (by kernel_rfl) (by kernel_rfl) ?_ rfl rfl h base⟩
    show evalF C1 64 Try.f19 _ [] _
    rw [t19 a b c (fun v => v = _)]
    rcases Bool.eq_false_or_eq_true (ok3 a b c) with h1 | h1
    · by_cases ha : 0 < a <;> by_cases hb : 0 < b <;> by_cases hc : 0 < c <;> simp [chk, fst3, h1, ha, hb, hc]
    · simp [chk, fst3, h1]
  · cases hk
theorem ok20 : SpecOK Try.prog 20 s20 := by
  intro args h base k hk
  unfold s20 at hk
  split at hk
  · rename_i a b c
    refine ⟨_, [], [], hk, plainOK gs1 Try.func20 (by kernel_rfl) (by kernel_rfl) ?_ rfl rfl h base⟩
    show evalF C1 64 Try.f20 _ [] _
    rw [t20 a b c (fun v => v = _)]
    rcases Bool.eq_false_or_eq_true (ok3 a b c) with h1 | h1
    · obtain ⟨r1, r2, r3⟩ := ok3_range h1
      simp only [chk, sum3, h1, if_true, bne_self_eq_false, cond_false]
      rw [wrap_id (n := 0 + a) (by omega) (by omega), Int.zero_add, wrap_id (n := a + b) (by omega) (by omega), wrap_id (n := a + b + c) (by omega) (by omega)]
    · simp [chk, sum3, h1]
  · cases hk
theorem ok21 : SpecOK Try.prog 21 s20 := by
  intro args h base k hk
  unfold s20 at hk
  split at hk
  · rename_i a b c
    refine ⟨_, [], [], hk, plainOK gs1 Try.func21 (by kernel_rfl) (by kernel_rfl) ?_ rfl rfl h base⟩
    show evalF C1 64 Try.f21 _ [] _
    rw [t21 a b c (fun v => v = _)]
    rcases Bool.eq_false_or_eq_true (ok3 a b c) with h1 | h1
    · obtain ⟨r1, r2, r3⟩ := ok3_range h1
      simp only [chk, sum3, h1, if_true, bne_self_eq_false, cond_false]
      rw [wrap_id (n := a + b) (by omega) (by omega), wrap_id (n := a + b + c) (by omega) (by omega)]
    · simp [chk, sum3, h1]
  · cases hk
end Go.Proofs.Ytfhkmagpgbcnjaa
