/-
  Plain law of layer 7: longer samples never make what is smoothed less.
-/
import Derived.Test.YtepmbiahnicooaaP2
namespace Go.Proofs.Ytepmbiahnicooaa
/-- Each one of the second rows takes at least as long; nothing is held back. -/
structure Longer (q p : Nat → Nat → Int) (n : Nat) : Prop where
  le : ∀ r, r < n → q r 0 ≤ p r 0
  hi : ∀ r, r < n → p r 0 ≤ 9007199254740991
  held : ∀ r, r < n → p r 1 = q r 1
  at_ : ∀ r, r < n → p r 2 = q r 2
theorem Longer.le_n {q p : Nat → Nat → Int} {n m : Nat} (h : Longer q p n) (hm : m ≤ n) : Longer q p m :=
  ⟨fun r hr => h.le r (by omega), fun r hr => h.hi r (by omega), fun r hr => h.held r (by omega), fun r hr => h.at_ r (by omega)⟩
theorem cnt_zero (m x : Int) : cnt m x 0 = x := by
  unfold cnt mnI; split <;> split <;> (try split) <;> omega
theorem mnI_mono {a b x y : Int} (h : a ≤ b) (k : x ≤ y) : mnI a x ≤ mnI b y := by
  unfold mnI; split <;> split <;> omega
theorem run_order {q p : Nat → Nat → Int} (h0 : ∀ r, q r 1 = 0) (h2 : ∀ r, 0 ≤ q r 2) : ∀ n, Longer q p n → (runR q n).s ≤ (runR p n).s ∧ (runR q n).m ≤ (runR p n).m ∧ (runR q n).f = (runR p n).f ∧ -1 ≤ (runR q n).f
  | 0, _ => by simp [runR]
  | n + 1, h => by
    obtain ⟨i1, i2, i3, i4⟩ := run_order h0 h2 n (h.le_n (by omega))
    have e1 := h.le n (by omega)
    have e2 := h.held n (by omega)
    have e3 := h.at_ n (by omega)
    have e4 := h0 n
    have e5 := h2 n
    show (stepR (runR q n) (q n 0) (q n 1) (q n 2)).s ≤ (stepR (runR p n) (p n 0) (p n 1) (p n 2)).s ∧ (stepR (runR q n) (q n 0) (q n 1) (q n 2)).m ≤ (stepR (runR p n) (p n 0) (p n 1) (p n 2)).m ∧ (stepR (runR q n) (q n 0) (q n 1) (q n 2)).f = (stepR (runR p n) (p n 0) (p n 1) (p n 2)).f ∧ -1 ≤ (stepR (runR q n) (q n 0) (q n 1) (q n 2)).f
    rw [e2, e3, e4]
    simp only [stepR, smM, smS, smF, cnt_zero, ← i3]
    by_cases hf : (runR q n).f = -1
    · simp only [hf, if_true]
      refine ⟨?_, ?_, trivial, ?_⟩ <;> omega
    · simp only [hf, if_false]
      have := mnI_mono i2 e1
      refine ⟨?_, ?_, trivial, ?_⟩ <;> omega
end Go.Proofs.Ytepmbiahnicooaa
