/-
  Plain functions of layer 9: more is lost, later; the timer.
-/
import Derived.Test.YtcjfmkkfcbelpaaP3
namespace Go.Proofs.Ytcjfmkkfcbelpaa
theorem cntS_sub {f g : Nat → Bool} : ∀ {n : Nat}, (∀ j, j < n → f j = true → g j = true) → cntS f n ≤ cntS g n
  | 0, _ => Nat.le_refl _
  | n + 1, h => by
    have ih := cntS_sub (f := f) (g := g) (n := n) fun j hj => h j (by omega)
    cases q : f n with
    | true => rw [cntS_yes q, cntS_yes (h n (by omega) q)]; omega
    | false =>
      rw [cntS_no q]
      cases q2 : g n with
      | true => rw [cntS_yes q2]; omega
      | false => rw [cntS_no q2]; exact ih
theorem cntS_lt {f g : Nat → Bool} {i : Nat} : ∀ {n : Nat}, (∀ j, j < n → f j = true → g j = true) → i < n → f i = false → g i = true → cntS f n < cntS g n
  | n + 1, h, hi, h1, h2 => by
    by_cases e : i = n
    · subst e
      have := cntS_sub (f := f) (g := g) (n := i) fun j hj => h j (by omega)
      rw [cntS_no h1, cntS_yes h2]
      omega
    · have ih := cntS_lt (f := f) (g := g) (i := i) (n := n) (fun j hj => h j (by omega)) (by omega) h1 h2
      cases q : f n with
      | true => rw [cntS_yes q, cntS_yes (h n (by omega) q)]; omega
      | false =>
        rw [cntS_no q]
        cases q2 : g n with
        | true => rw [cntS_yes q2]; omega
        | false => rw [cntS_no q2]; exact ih
theorem tmS_congr {f g le : Nat → Bool} {d : Nat → Int} : ∀ {n : Nat}, (∀ j, j < n → f j = g j) → tmS f le d n = tmS g le d n
  | 0, _ => rfl
  | n + 1, h => by
    have ih := tmS_congr (f := f) (g := g) (le := le) (d := d) (n := n) fun j hj => h j (by omega)
    simp only [tmS, ih, h n (by omega)]
/-- The timer: none is due, or the first one of those that are due. -/
theorem tmS_spec {f le : Nat → Bool} {d : Nat → Int} : ∀ {n : Nat}, (∀ j, j < n → 0 ≤ d j) →
    (tmS f le d n = -1 ∧ ∀ j, j < n → f j = false → le j = false) ∨ ((∃ j, j < n ∧ f j = false ∧ le j = true ∧ d j = tmS f le d n) ∧ ∀ j, j < n → f j = false → le j = true → tmS f le d n ≤ d j)
  | 0, _ => .inl ⟨rfl, fun j hj => absurd hj (Nat.not_lt_zero j)⟩
  | n + 1, h => by
    have ih := tmS_spec (f := f) (le := le) (d := d) (n := n) fun j hj => h j (by omega)
    have hd := h n (by omega)
    cases q : f n with
    | true =>
      have e : tmS f le d (n + 1) = tmS f le d n := by simp only [tmS, q, cond_true]
      rw [e]
      rcases ih with ⟨h1, h2⟩ | ⟨⟨j, h1, h2, h3, h4⟩, h5⟩
      · refine .inl ⟨h1, fun j hj hf => ?_⟩
        by_cases e : j = n
        · subst e; rw [q] at hf; cases hf
        · exact h2 j (by omega) hf
      · refine .inr ⟨⟨j, by omega, h2, h3, h4⟩, fun j hj hf hl => ?_⟩
        by_cases e : j = n
        · subst e; rw [q] at hf; cases hf
        · exact h5 j (by omega) hf hl
    | false =>
      cases ql : le n with
      | false =>
        have e : tmS f le d (n + 1) = tmS f le d n := by simp only [tmS, q, ql, cond_false, Bool.false_and]
        rw [e]
        rcases ih with ⟨h1, h2⟩ | ⟨⟨j, h1, h2, h3, h4⟩, h5⟩
        · refine .inl ⟨h1, fun j hj hf => ?_⟩
          by_cases e : j = n
          · subst e; exact ql
          · exact h2 j (by omega) hf
        · refine .inr ⟨⟨j, by omega, h2, h3, h4⟩, fun j hj hf hl => ?_⟩
          by_cases e : j = n
          · subst e; rw [ql] at hl; cases hl
          · exact h5 j (by omega) hf hl
      | true =>
        have e : tmS f le d (n + 1) = bif tmS f le d n == -1 || decide (d n < tmS f le d n) then d n else tmS f le d n := by simp only [tmS, q, ql, cond_false, Bool.true_and]
        rw [e]
        rcases ih with ⟨h1, h2⟩ | ⟨⟨j, h1, h2, h3, h4⟩, h5⟩
        · rw [h1]
          refine .inr ⟨⟨n, by omega, q, ql, rfl⟩, fun j hj hf hl => ?_⟩
          by_cases e : j = n
          · subst e; exact Int.le_refl _
          · rw [h2 j (by omega) hf] at hl; cases hl
        · have hj := h j (by omega)
          have h6 : (tmS f le d n == -1) = false := by rw [← h4]; exact beq_eq_false_iff_ne.2 (by omega)
          rw [h6, Bool.false_or]
          by_cases hlt : d n < tmS f le d n
          · rw [decide_eq_true hlt, cond_true]
            refine .inr ⟨⟨n, by omega, q, ql, rfl⟩, fun i hi hf hl => ?_⟩
            by_cases e : i = n
            · subst e; exact Int.le_refl _
            · have := h5 i (by omega) hf hl; omega
          · rw [decide_eq_false hlt, cond_false]
            refine .inr ⟨⟨j, by omega, h2, h3, h4⟩, fun i hi hf hl => ?_⟩
            by_cases e : i = n
            · subst e; omega
            · exact h5 i (by omega) hf hl
/-- The first ones: those below a bound. -/
theorem cntS_low {c : Nat} : ∀ n, cntS (fun i => decide (i < c)) n = min n c ∧ ∀ r, r < min n c → ixS (fun i => decide (i < c)) n r = r
  | 0 => ⟨(Nat.zero_min c).symm, fun r hr => by rw [Nat.zero_min] at hr; omega⟩
  | n + 1 => by
    obtain ⟨h1, h2⟩ := cntS_low (c := c) n
    by_cases h : n < c
    · have q : (fun i => decide (i < c)) n = true := decide_eq_true h
      refine ⟨by rw [cntS_yes q, h1]; omega, fun r hr => ?_⟩
      by_cases e : r < n
      · rw [ixS_old (by rw [h1]; omega)]
        exact h2 r (by omega)
      · obtain rfl : r = n := by omega
        have := ixS_new (f := fun i => decide (i < c)) (i := r) q
        rw [h1, show min r c = r by omega] at this
        exact this
    · have q : (fun i => decide (i < c)) n = false := decide_eq_false h
      refine ⟨by rw [cntS_no q, h1]; omega, fun r hr => ?_⟩
      rw [ixS_no q]
      exact h2 r (by omega)
theorem cntS_high {c : Nat} : ∀ n, cntS (fun i => !decide (i < c)) n = n - c ∧ ∀ r, r < n - c → ixS (fun i => !decide (i < c)) n r = c + r
  | 0 => ⟨(Nat.zero_sub c).symm, fun r hr => by rw [Nat.zero_sub] at hr; omega⟩
  | n + 1 => by
    obtain ⟨h1, h2⟩ := cntS_high (c := c) n
    by_cases h : n < c
    · have q : (fun i => !decide (i < c)) n = false := by show (!decide (n < c)) = false; rw [decide_eq_true h]; rfl
      refine ⟨by rw [cntS_no q, h1]; omega, fun r hr => ?_⟩
      rw [ixS_no q]
      exact h2 r (by omega)
    · have q : (fun i => !decide (i < c)) n = true := by show (!decide (n < c)) = true; rw [decide_eq_false h]; rfl
      refine ⟨by rw [cntS_yes q, h1]; omega, fun r hr => ?_⟩
      by_cases e : r < n - c
      · rw [ixS_old (by rw [h1]; omega)]
        exact h2 r (by omega)
      · obtain rfl : r = n - c := by omega
        have := ixS_new (f := fun i => !decide (i < c)) (i := n) q
        rw [h1] at this
        rw [this]
        omega
end Go.Proofs.Ytcjfmkkfcbelpaa
