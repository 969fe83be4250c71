/-
  Plain functions of layer 9: packets.
-/
import Derived.Test.YtcjfmkkfcbelpaaP
namespace Go.Proofs.Ytcjfmkkfcbelpaa
structure Pk where
  n : Int
  a : Int
  z : Int
  b : Bool
  c : Bool
  d : Bool
  deriving DecidableEq
def pk0 : Pk := ⟨0, 0, 0, false, false, false⟩
def badV (x n a z : Int) : Bool := decide (n ≤ x) || (decide (9007199254740991 < n) || (!isT a || (decide (z < 1) || decide (65535 < z))))
def badP (x : Int) (p : Pk) : Bool := badV x p.n p.a p.z
/-- The number ahead of a packet. -/
def prv (x : Int) (P : Nat → Pk) : Nat → Int
  | 0 => x
  | i + 1 => (P i).n
def anyBad (x : Int) (P : Nat → Pk) : Nat → Bool
  | 0 => false
  | i + 1 => anyBad x P i || badP (prv x P i) (P i)
theorem anyBad_of {x : Int} {P : Nat → Pk} {i : Nat} : ∀ {n : Nat}, i < n → badP (prv x P i) (P i) = true → anyBad x P n = true
  | n + 1, h, hb => by
    simp only [anyBad, Bool.or_eq_true]
    by_cases e : i = n
    · subst e; exact .inr hb
    · exact .inl (anyBad_of (by omega) hb)
theorem good_of {x : Int} {P : Nat → Pk} {n : Nat} (h : anyBad x P n = false) : ∀ i, i < n → badP (prv x P i) (P i) = false := fun i hi => by
  cases hb : badP (prv x P i) (P i) with
  | false => rfl
  | true => rw [anyBad_of hi hb] at h; cases h
/-- What a check of packets answers. -/
def chkP (P : Nat → Pk) (n : Nat) : Int := bif decide (256 < n) then 2 else bif anyBad (-1) P n then 2 else 0
def eqP (p q : Pk) : Bool := p.n == q.n && (p.a == q.a && (p.z == q.z && (p.b == q.b && (p.c == q.c && (p.d == q.d && true)))))
theorem eqP_iff {p q : Pk} : eqP p q = true ↔ p = q := by
  cases p; cases q
  simp [eqP]
def eqPs (P Q : Nat → Pk) : Nat → Bool
  | 0 => true
  | i + 1 => eqPs P Q i && eqP (P i) (Q i)
theorem eqPs_no {P Q : Nat → Pk} {i : Nat} : ∀ {n : Nat}, i < n → eqP (P i) (Q i) = false → eqPs P Q n = false
  | n + 1, h, hb => by
    simp only [eqPs, Bool.and_eq_false_iff]
    by_cases e : i = n
    · subst e; exact .inr hb
    · exact .inl (eqPs_no (by omega) hb)
theorem eqPs_same {P Q : Nat → Pk} : ∀ {n : Nat}, (∀ i, i < n → P i = Q i) → eqPs P Q n = true
  | 0, _ => rfl
  | n + 1, h => by
    simp only [eqPs, Bool.and_eq_true]
    exact ⟨eqPs_same fun i hi => h i (by omega), eqP_iff.2 (h n (by omega))⟩
/-- How many good ones there are ahead of the first bad one. -/
def fb (x : Int) (P : Nat → Pk) : Nat → Nat
  | 0 => 0
  | n + 1 => bif anyBad x P n then fb x P n else bif badP (prv x P n) (P n) then n else n + 1
theorem fb_at {x : Int} {P : Nat → Pk} {i : Nat} (h1 : anyBad x P i = false) (h2 : badP (prv x P i) (P i) = true) : ∀ {n : Nat}, i < n → fb x P n = i
  | n + 1, h => by
    by_cases e : i = n
    · subst e
      simp only [fb, h1, h2, cond_false, cond_true]
    · simp only [fb, anyBad_of (n := n) (by omega) h2, cond_true]
      exact fb_at h1 h2 (by omega)
/-- What a search for a bad one answers, and the last number that it looked at. -/
def idxV (x : Int) (P : Nat → Pk) (n : Nat) : Int := bif anyBad x P n then (fb x P n : Int) else -1
def lastV (x : Int) (P : Nat → Pk) (n : Nat) : Int := bif anyBad x P n then prv x P (fb x P n + 1) else prv x P n
theorem idxV_sign (x : Int) (P : Nat → Pk) (n : Nat) : decide (0 ≤ idxV x P n) = anyBad x P n := by
  unfold idxV
  cases h : anyBad x P n with
  | true => simp
  | false => rfl
theorem bad15 {P : Nat → Pk} {i : Nat} (h : anyBad (-1) P i = false) : -1 ≤ prv (-1) P i := by
  cases i with
  | zero => exact Int.le_refl _
  | succ i =>
    have h1 := good_of h i (by omega)
    have h2 := bad15 (P := P) (i := i) (by simp only [anyBad, Bool.or_eq_false_iff] at h; exact h.1)
    unfold badP badV at h1
    simp only [Bool.or_eq_false_iff, decide_eq_false_iff_not] at h1
    show -1 ≤ (P i).n
    omega
end Go.Proofs.Ytcjfmkkfcbelpaa
