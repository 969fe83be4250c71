/-
  Plain functions and lemmas of layers 7 and 8 (how long it takes, how long to wait): no program in sight.
-/
namespace Go.Proofs.Ytfoogfhcjnpokaa

/-- A number, brought to be a time. -/
def timeV (n : Int) : Int := if n < 0 then 0 else if 9007199254740991 < n then 9007199254740991 else n
theorem timeV_range (n : Int) : 0 ≤ timeV n ∧ timeV n ≤ 9007199254740991 := by
  unfold timeV; (repeat' split) <;> omega
theorem timeV_in {n : Int} (h : 0 ≤ n) (h' : n ≤ 9007199254740991) : timeV n = n := by
  unfold timeV; (repeat' split) <;> omega

/-- Is that a time? -/
def isT (n : Int) : Bool := decide (0 ≤ n) && decide (n ≤ 9007199254740991)
theorem isT_iff {n : Int} : isT n = true ↔ 0 ≤ n ∧ n ≤ 9007199254740991 := by simp [isT]
theorem isT_true {n : Int} (h0 : 0 ≤ n) (h1 : n ≤ 9007199254740991) : isT n = true := isT_iff.2 ⟨h0, h1⟩
theorem isT_false {n : Int} (h : n < 0 ∨ 9007199254740991 < n) : isT n = false := by
  simp only [isT, Bool.and_eq_false_iff, decide_eq_false_iff_not]; omega

/-- May a measure be (Latest, Min, Smooth, Var, First)? -/
def okR (l m s v f : Int) : Bool :=
  if f = -1 then decide (l = 0 ∧ m = 0 ∧ 1000000 ≤ s ∧ s ≤ 60000000000 ∧ v = s / 2)
  else isT f && isT l && isT m && isT s && isT v && decide (m ≤ l ∧ m ≤ s)
def chkE (l m s v f : Int) : Int := if okR l m s v f then 0 else 2
theorem chkE_ok {l m s v f : Int} (h : okR l m s v f = true) : chkE l m s v f = 0 := by rw [chkE, if_pos h]
theorem chkE_bad {l m s v f : Int} (h : okR l m s v f = false) : chkE l m s v f = 2 := by rw [chkE, if_neg (by simp [h])]
/-- A measure's numbers are times, but for the first one's time. -/
theorem okR_range {l m s v f : Int} (h : okR l m s v f = true) : (0 ≤ l ∧ l ≤ 9007199254740991) ∧ (0 ≤ m ∧ m ≤ 9007199254740991) ∧ (0 ≤ s ∧ s ≤ 9007199254740991) ∧ (0 ≤ v ∧ v ≤ 9007199254740991) ∧ m ≤ s + 0 ∧ -1 ≤ f ∧ f ≤ 9007199254740991 := by
  unfold okR at h
  split at h
  · have h := of_decide_eq_true h; omega
  · simp only [Bool.and_eq_true, isT_iff, decide_eq_true_eq] at h; omega

/-- A first measure. -/
def newOk (n : Int) : Bool := decide (1000000 ≤ n) && decide (n ≤ 60000000000)
def newS (n : Int) : Int := if newOk n then n else 0
def newV (n : Int) : Int := if newOk n then n / 2 else 0
def newF (n : Int) : Int := if newOk n then -1 else 0
def newE (n : Int) : Int := if newOk n then 0 else 9
def zi (e v : Int) : Int := if e = 0 then v else 0

/-- What varies counts four times, a millisecond at least. -/
def varV (v : Int) : Int := if 4 * v < 1000000 then 1000000 else 4 * v
/-- How long to wait at first. -/
def baseV (l m s v f space delay : Int) : Int :=
  if okR l m s v f = true ∧ 0 ≤ space ∧ space < 3 then timeV (s + varV v + (if space = 2 then timeV delay else 0)) else 0
theorem baseV_range (l m s v f space delay : Int) : 0 ≤ baseV l m s v f space delay ∧ baseV l m s v f space delay ≤ 9007199254740991 := by
  unfold baseV; split
  · exact timeV_range _
  · omega
theorem baseV_bad {l m s v f space delay : Int} (h : okR l m s v f = false ∨ space < 0 ∨ 3 ≤ space) : baseV l m s v f space delay = 0 := by
  rw [baseV, if_neg]
  rintro ⟨h1, h2, h3⟩
  rcases h with h | h | h
  · simp [h] at h1
  · omega
  · omega
theorem baseV_two {l m s v f delay : Int} (h : okR l m s v f = true) : baseV l m s v f 2 delay = timeV (s + varV v + timeV delay) := by
  rw [baseV, if_pos ⟨h, by decide, by decide⟩, if_pos rfl]
theorem baseV_low {l m s v f space delay : Int} (h : okR l m s v f = true) (h0 : 0 ≤ space) (h1 : space < 2) : baseV l m s v f space delay = timeV (s + varV v) := by
  rw [baseV, if_pos ⟨h, h0, by omega⟩, if_neg (by omega), Int.add_zero]

/-- Doubled, so many times. -/
def dblN : Nat → Int → Int
  | 0, b => b
  | k + 1, b => timeV (2 * dblN k b)
theorem dblN_range (k : Nat) (b : Int) (h : 0 ≤ b ∧ b ≤ 9007199254740991) : 0 ≤ dblN k b ∧ dblN k b ≤ 9007199254740991 := by
  cases k with
  | zero => exact h
  | succ k => exact timeV_range _
theorem dblN_add (i j : Nat) (b : Int) : dblN (i + j) b = dblN j (dblN i b) := by
  induction j with
  | zero => rfl
  | succ j ih => rw [Nat.add_succ, dblN, ih, dblN]
theorem dblN_zero (k : Nat) : dblN k 0 = 0 := by
  induction k with
  | zero => rfl
  | succ k ih => rw [dblN, ih]; rfl
theorem dblN_top (k : Nat) : dblN k 9007199254740991 = 9007199254740991 := by
  induction k with
  | zero => rfl
  | succ k ih => rw [dblN, ih]; rfl
/-- Sixty times are as many as any. -/
theorem dblN_grow (k : Nat) (b : Int) (h1 : 1 ≤ b) (h2 : b ≤ 9007199254740991) : dblN k b = 9007199254740991 ∨ (2 : Int) ^ k ≤ dblN k b := by
  induction k with
  | zero => right; simpa [dblN] using h1
  | succ k ih =>
    rcases ih with h | h
    · left; rw [dblN, h]; rfl
    · have h3 := dblN_range k b ⟨by omega, h2⟩
      rw [dblN, Int.pow_succ]
      unfold timeV
      (repeat' split) <;> omega
theorem dblN_sixty (b : Int) (h1 : 0 ≤ b) (h2 : b ≤ 9007199254740991) (j : Nat) : dblN (60 + j) b = dblN 60 b := by
  rw [dblN_add]
  rcases Int.lt_or_le 0 b with h | h
  · have h3 : dblN 60 b = 9007199254740991 := by
      rcases dblN_grow 60 b h h2 with h3 | h3
      · exact h3
      · have := (dblN_range 60 b ⟨h1, h2⟩).2
        have h4 : (2 : Int) ^ 60 = 1152921504606846976 := by decide
        omega
    rw [h3, dblN_top]
  · obtain rfl : b = 0 := by omega
    rw [dblN_zero, dblN_zero]
theorem dblN_min (b : Int) (h1 : 0 ≤ b) (h2 : b ≤ 9007199254740991) (k : Nat) : dblN k b = dblN (min k 60) b := by
  rcases Nat.le_total k 60 with h | h
  · rw [Nat.min_eq_left h]
  · rw [Nat.min_eq_right h]
    obtain ⟨j, rfl⟩ : ∃ j, k = 60 + j := ⟨k - 60, by omega⟩
    exact dblN_sixty b h1 h2 j
/-- So many doublings. -/
def rndN (count most : Int) : Nat := (min count most).toNat
def backV (base count most : Int) : Int := dblN (rndN count most) (timeV base)
theorem backV_range (base count most : Int) : 0 ≤ backV base count most ∧ backV base count most ≤ 9007199254740991 := dblN_range _ _ (timeV_range _)

/-- When it is over. -/
def dueV (last wait : Int) : Int := if isT last then timeV (last + timeV wait) else -1
/-- How long nothing may come through. -/
def perV (l m s v f delay : Int) : Int := timeV (3 * baseV l m s v f 2 delay)
end Go.Proofs.Ytfoogfhcjnpokaa
