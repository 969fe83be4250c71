/-
  Plain functions of layer 7 (how long it takes): no program in sight.
-/
namespace Go.Proofs.Ytepmbiahnicooaa

/-- A number, brought to be a time. -/
def timeV (n : Int) : Int := if n < 0 then 0 else if 9007199254740991 < n then 9007199254740991 else n
theorem timeV_range (n : Int) : 0 ≤ timeV n ∧ timeV n ≤ 9007199254740991 := by
  unfold timeV; (repeat' split) <;> omega
/-- Is that a time? -/
def isT (n : Int) : Bool := decide (0 ≤ n) && decide (n ≤ 9007199254740991)
theorem isT_iff {n : Int} : isT n = true ↔ 0 ≤ n ∧ n ≤ 9007199254740991 := by simp [isT]
theorem isT_true {n : Int} (h0 : 0 ≤ n) (h1 : n ≤ 9007199254740991) : isT n = true := isT_iff.2 ⟨h0, h1⟩
/-- May a measure be (Latest, Min, Smooth, Var, First)? -/
def okR (l m s v f : Int) : Bool :=
  if f = -1 then decide (l = 0 ∧ m = 0 ∧ 1000000 ≤ s ∧ s ≤ 60000000000 ∧ v = s / 2)
  else isT f && isT l && isT m && isT s && isT v && decide (m ≤ l ∧ m ≤ s)
def chkE (l m s v f : Int) : Int := if okR l m s v f then 0 else 2
theorem okR_range {l m s v f : Int} (h : okR l m s v f = true) : (0 ≤ l ∧ l ≤ 9007199254740991) ∧ (0 ≤ m ∧ m ≤ 9007199254740991) ∧ (0 ≤ s ∧ s ≤ 9007199254740991) ∧ (0 ≤ v ∧ v ≤ 9007199254740991) ∧ -1 ≤ f ∧ f ≤ 9007199254740991 := by
  unfold okR at h
  split at h
  · have h := of_decide_eq_true h; omega
  · simp only [Bool.and_eq_true, isT_iff, decide_eq_true_eq] at h; omega
/-- A first measure. -/
def newOk (n : Int) : Bool := decide (1000000 ≤ n) && decide (n ≤ 60000000000)
def newE (n : Int) : Int := if newOk n then 0 else 9
def zi (e v : Int) : Int := if e = 0 then v else 0
/-- A sample: what counts of it, how far it is. -/
def mnI (a b : Int) : Int := if b < a then b else a
def cnt (m x d : Int) : Int := if mnI m x ≤ x - d then x - d else x
def absI (a : Int) : Int := if a < 0 then -a else a
def smL (x : Int) : Int := x
def smM (m f x : Int) : Int := if f = -1 then x else mnI m x
def smS (m s f x d : Int) : Int := if f = -1 then x else (7 * s + cnt m x d) / 8
def smV (m s v f x d : Int) : Int := if f = -1 then x / 2 else (3 * v + absI (s - cnt m x d)) / 4
def smF (f n : Int) : Int := if f = -1 then n else f
def smE (l m s v f x d n : Int) : Int := if okR l m s v f then (if isT x && isT d && isT n then 0 else 9) else 2
/-- How much of a delay counts. -/
def heldV (d m : Int) (k : Bool) : Int := if k then mnI (timeV d) (timeV m) else timeV d
def greatV (l m s v f : Int) : Int := if okR l m s v f then (if s < l then l else s) else 0
theorem cnt_range {m x d : Int} (hm : 0 ≤ m) (hx : 0 ≤ x) (hd : 0 ≤ d) : 0 ≤ cnt m x d ∧ cnt m x d ≤ x := by
  unfold cnt mnI; split <;> split <;> (try split) <;> omega
theorem absI_range {a n : Int} (h : -n ≤ a ∧ a ≤ n) : 0 ≤ absI a ∧ absI a ≤ n := by
  unfold absI; split <;> omega
end Go.Proofs.Ytepmbiahnicooaa
