/-
  Plain functions of layer 19 (probes that must be sent): no program in sight.
-/
namespace Go.Proofs.Ytfhkmagpgbcnjaa

/-- May that be left? -/
def is2 (n : Int) : Bool := decide (0 ≤ n) && decide (n ≤ 2)
theorem is2_iff {n : Int} : is2 n = true ↔ 0 ≤ n ∧ n ≤ 2 := by simp [is2]
def ok3 (a b c : Int) : Bool := is2 a && is2 b && is2 c
def chk (a b c : Int) : Int := if ok3 a b c then 0 else 2
/-- What is wrong with what is left, and a space. -/
def mayE (a b c sp : Int) : Int := if ok3 a b c then (if 0 ≤ sp ∧ sp < 3 then 0 else 160) else 2
/-- The cell of a space. -/
def at3 (a b c sp : Int) : Int := if sp = 0 then a else if sp = 1 then b else c
/-- A cell, where its space is written. -/
def put (sp j v o : Int) : Int := if sp = j then v else o
def zi (e v : Int) : Int := if e = 0 then v else 0
/-- The errors of the three. -/
def dE (a b c sp m : Int) : Int := if mayE a b c sp = 0 then (if 1 ≤ m ∧ m ≤ 2 then 0 else 2) else mayE a b c sp
def kE (a b c sp : Int) : Int := if mayE a b c sp = 0 then (if at3 a b c sp = 0 then 5 else 0) else mayE a b c sp
def mx (a m : Int) : Int := if a < m then m else a
end Go.Proofs.Ytfhkmagpgbcnjaa
