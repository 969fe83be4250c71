/-
  Plain functions of layer 9: selections in order.
-/
import Derived.Test.YtcjfmkkfcbelpaaP2
namespace Go.Proofs.Ytcjfmkkfcbelpaa
/-- How many of the first i ones are picked. -/
def cntS (f : Nat → Bool) : Nat → Nat
  | 0 => 0
  | i + 1 => bif f i then cntS f i + 1 else cntS f i
/-- Which ones, in order. -/
def ixS (f : Nat → Bool) : Nat → Nat → Nat
  | 0 => fun _ => 0
  | i + 1 => bif f i then (fun r => bif decide (r < cntS f i) then ixS f i r else i) else ixS f i
theorem cntS_le (f : Nat → Bool) : ∀ i, cntS f i ≤ i
  | 0 => Nat.le_refl _
  | i + 1 => by
    have := cntS_le f i
    simp only [cntS]
    cases f i <;> simp only [cond_true, cond_false] <;> omega
theorem cntS_not (f : Nat → Bool) : ∀ i, cntS f i + cntS (fun j => !f j) i = i
  | 0 => rfl
  | i + 1 => by
    have := cntS_not f i
    simp only [cntS]
    cases f i <;> simp only [cond_true, cond_false, Bool.not_true, Bool.not_false] <;> omega
theorem ixS_lt (f : Nat → Bool) : ∀ {i r : Nat}, r < cntS f i → ixS f i r < i ∧ f (ixS f i r) = true
  | 0, r, h => by simp [cntS] at h
  | i + 1, r, h => by
    cases q : f i with
    | false =>
      simp only [cntS, q, cond_false] at h
      have := ixS_lt f h
      simp only [ixS, q, cond_false]
      exact ⟨by omega, this.2⟩
    | true =>
      simp only [cntS, q, cond_true] at h
      simp only [ixS, q, cond_true]
      by_cases hr : r < cntS f i
      · rw [decide_eq_true hr, cond_true]
        have := ixS_lt f hr
        exact ⟨by omega, this.2⟩
      · rw [decide_eq_false hr, cond_false]
        exact ⟨by omega, q⟩
/-- In order. -/
theorem ixS_mono (f : Nat → Bool) : ∀ {i r s : Nat}, r < s → s < cntS f i → ixS f i r < ixS f i s
  | 0, r, s, _, h => by simp [cntS] at h
  | i + 1, r, s, hrs, h => by
    cases q : f i with
    | false =>
      simp only [cntS, q, cond_false] at h
      simp only [ixS, q, cond_false]
      exact ixS_mono f hrs h
    | true =>
      simp only [cntS, q, cond_true] at h
      simp only [ixS, q, cond_true]
      by_cases hs : s < cntS f i
      · rw [decide_eq_true hs, decide_eq_true (show r < cntS f i by omega), cond_true, cond_true]
        exact ixS_mono f hrs hs
      · rw [decide_eq_false hs, decide_eq_true (show r < cntS f i by omega), cond_true, cond_false]
        exact (ixS_lt f (by omega)).1
/-- Each one that is picked is told. -/
theorem ixS_onto (f : Nat → Bool) : ∀ {i j : Nat}, j < i → f j = true → ∃ r, r < cntS f i ∧ ixS f i r = j
  | i + 1, j, h, hj => by
    cases q : f i with
    | false =>
      have hne : j ≠ i := fun e => by rw [e, q] at hj; cases hj
      obtain ⟨r, h1, h2⟩ := ixS_onto f (i := i) (j := j) (by omega) hj
      exact ⟨r, by simpa only [cntS, q, cond_false] using h1, by simpa only [ixS, q, cond_false] using h2⟩
    | true =>
      by_cases e : j = i
      · subst e
        refine ⟨cntS f j, by simp only [cntS, q, cond_true]; omega, ?_⟩
        simp only [ixS, q, cond_true]
        rw [decide_eq_false (Nat.lt_irrefl _), cond_false]
      · obtain ⟨r, h1, h2⟩ := ixS_onto f (i := i) (j := j) (by omega) hj
        refine ⟨r, by simp only [cntS, q, cond_true]; omega, ?_⟩
        simp only [ixS, q, cond_true]
        rw [decide_eq_true h1, cond_true]
        exact h2
theorem sel_congr {f g : Nat → Bool} : ∀ {i : Nat}, (∀ j, j < i → f j = g j) → cntS f i = cntS g i ∧ ixS f i = ixS g i
  | 0, _ => ⟨rfl, rfl⟩
  | i + 1, h => by
    obtain ⟨h1, h2⟩ := sel_congr (f := f) (g := g) (i := i) fun j hj => h j (by omega)
    simp only [cntS, ixS, h i (by omega), h1, h2, and_self]
/-- One more that is picked. -/
theorem cntS_yes {f : Nat → Bool} {i : Nat} (h : f i = true) : cntS f (i + 1) = cntS f i + 1 := by simp only [cntS, h, cond_true]
theorem cntS_no {f : Nat → Bool} {i : Nat} (h : f i = false) : cntS f (i + 1) = cntS f i := by simp only [cntS, h, cond_false]
theorem ixS_no {f : Nat → Bool} {i : Nat} (h : f i = false) : ixS f (i + 1) = ixS f i := by simp only [ixS, h, cond_false]
theorem ixS_old {f : Nat → Bool} {i r : Nat} (hr : r < cntS f i) : ixS f (i + 1) r = ixS f i r := by
  cases q : f i with
  | false => rw [ixS_no q]
  | true =>
    simp only [ixS, q, cond_true]
    rw [decide_eq_true hr, cond_true]
theorem ixS_new {f : Nat → Bool} {i : Nat} (h : f i = true) : ixS f (i + 1) (cntS f i) = i := by
  simp only [ixS, h, cond_true]
  rw [decide_eq_false (Nat.lt_irrefl _), cond_false]
/-- The timer: the first time at which one of the others is due. -/
def tmS (lost : Nat → Bool) (le : Nat → Bool) (d : Nat → Int) : Nat → Int
  | 0 => -1
  | i + 1 => bif lost i then tmS lost le d i else bif le i && (tmS lost le d i == -1 || decide (d i < tmS lost le d i)) then d i else tmS lost le d i
end Go.Proofs.Ytcjfmkkfcbelpaa
