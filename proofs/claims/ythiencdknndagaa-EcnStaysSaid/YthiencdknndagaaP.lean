/-
  Plain functions and lemmas of layer 12 (marks that come back): no program in sight.
-/
namespace Go.Proofs.Ythiencdknndagaa

/-- Is that a number? -/
def isN (n : Int) : Bool := decide (0 ≤ n) && decide (n ≤ 9007199254740991)
theorem isN_iff {n : Int} : isN n = true ↔ 0 ≤ n ∧ n ≤ 9007199254740991 := by simp [isN]
theorem isN_true {n : Int} (h0 : 0 ≤ n) (h1 : n ≤ 9007199254740991) : isN n = true := isN_iff.2 ⟨h0, h1⟩
theorem isN_false {n : Int} (h : n < 0 ∨ 9007199254740991 < n) : isN n = false := by
  simp only [isN, Bool.and_eq_false_iff, decide_eq_false_iff_not]; omega

/-- May a count be (how many were sent, and three that were seen)? -/
def okC (s a b c : Int) : Bool := isN s && isN a && isN b && isN c
theorem okC_range {s a b c : Int} (h : okC s a b c = true) : (0 ≤ s ∧ s ≤ 9007199254740991) ∧ (0 ≤ a ∧ a ≤ 9007199254740991) ∧ (0 ≤ b ∧ b ≤ 9007199254740991) ∧ 0 ≤ c ∧ c ≤ 9007199254740991 := by
  simp only [okC, Bool.and_eq_true, isN_iff] at h
  exact ⟨h.1.1.1, h.1.1.2, h.1.2, h.2.1, h.2.2⟩
def chkE (s a b c : Int) : Int := if okC s a b c then 0 else 2
theorem chkE_ok {s a b c : Int} (h : okC s a b c = true) : chkE s a b c = 0 := by rw [chkE, if_pos h]
theorem chkE_bad {s a b c : Int} (h : okC s a b c = false) : chkE s a b c = 2 := by rw [chkE, if_neg (by simp [h])]

/-- One more that is marked: the error; is all well? -/
def mE (s a b c : Int) : Int := if okC s a b c then (if s = 9007199254740991 then 9 else 0) else 2

/-- A number of the answer: none where there is an error. -/
def zi (e v : Int) : Int := if e = 0 then v else 0
def zb (e : Int) (v : Bool) : Bool := decide (e = 0) && v
theorem zi0 (v : Int) : zi 0 v = v := rfl
theorem zb0 (v : Bool) : zb 0 v = v := rfl

/-- The new one, where it is taken; else the old. -/
def pk (t : Bool) (n o : Int) : Int := if t then n else o

/-- Does a frame with counts let a count fail? -/
def failsB (s a b c x y z newly : Int) : Bool := decide (x < a) || (y != b) || decide (z < c) || decide (s < x + z) || decide (x + z - (a + c) < newly)

/-- What a frame comes to: the error; is it looked at; does the count fail by it; is it what is seen then. -/
def aE (s a b c x y z newly : Int) : Int := if okC s a b c then (if okC newly x y z then 0 else 9) else 2
def aFail (f m : Bool) (s a b c x y z newly : Int) : Bool := f || (if m then failsB s a b c x y z newly else decide (0 < newly))
def aSee (f m : Bool) (s a b c x y z newly : Int) : Bool := m && !aFail f m s a b c x y z newly

/-- A number, brought to be from 0 to below n. -/
def bring (i n : Int) : Int := i % n
theorem bring_range (i : Int) {n : Int} (h : 0 < n) : 0 ≤ bring i n ∧ bring i n < n := ⟨Int.emod_nonneg _ (by omega), Int.emod_lt_of_pos _ h⟩
end Go.Proofs.Ythiencdknndagaa
