/-
  Plain functions of layer 9 (what is lost): measures.
-/
namespace Go.Proofs.Ytcjfmkkfcbelpaa
/-- Is that a time? -/
def isT (n : Int) : Bool := decide (0 ≤ n) && decide (n ≤ 9007199254740991)
theorem isT_iff {n : Int} : isT n = true ↔ 0 ≤ n ∧ n ≤ 9007199254740991 := by simp [isT]
theorem isT_true {n : Int} (h0 : 0 ≤ n) (h1 : n ≤ 9007199254740991) : isT n = true := isT_iff.2 ⟨h0, h1⟩
/-- May a measure be (Latest, Min, Smooth, Var, First)? -/
def okR (l m s v f : Int) : Bool :=
  if f = -1 then decide (l = 0 ∧ m = 0 ∧ 1000000 ≤ s ∧ s ≤ 60000000000 ∧ v = s / 2)
  else isT f && isT l && isT m && isT s && isT v && decide (m ≤ l ∧ m ≤ s)
def chkE (l m s v f : Int) : Int := if okR l m s v f then 0 else 2
theorem okR_range {l m s v f : Int} (h : okR l m s v f = true) : (0 ≤ l ∧ l ≤ 9007199254740991) ∧ (0 ≤ m ∧ m ≤ 9007199254740991) ∧ (0 ≤ s ∧ s ≤ 9007199254740991) ∧ (0 ≤ v ∧ v ≤ 9007199254740991) ∧ -1 ≤ f ∧ f ≤ 9007199254740991 := by
  unfold okR at h
  split at h
  · have h := of_decide_eq_true h; omega
  · simp only [Bool.and_eq_true, isT_iff, decide_eq_true_eq] at h; omega
/-- A first measure. -/
def newOk (n : Int) : Bool := decide (1000000 ≤ n) && decide (n ≤ 60000000000)
def newE (n : Int) : Int := if newOk n then 0 else 9
def zi (e v : Int) : Int := if e = 0 then v else 0
def greatV (l m s v f : Int) : Int := if okR l m s v f then (if s < l then l else s) else 0
/-- How long a packet is waited for. -/
def waitV (l m s v f : Int) : Int := if okR l m s v f then (let w := 9 * greatV l m s v f / 8; let w' := if 9007199254740991 < w then 9007199254740991 else w; if w' < 1000000 then 1000000 else w') else 0
theorem greatV_range (l m s v f : Int) : 0 ≤ greatV l m s v f ∧ greatV l m s v f ≤ 9007199254740991 := by
  unfold greatV
  split
  · rename_i h
    have := okR_range h
    split <;> omega
  · omega
theorem waitV_range (l m s v f : Int) : 0 ≤ waitV l m s v f ∧ waitV l m s v f ≤ 9007199254740991 := by
  unfold waitV
  split
  · simp only
    split <;> split <;> omega
  · omega
end Go.Proofs.Ytcjfmkkfcbelpaa
