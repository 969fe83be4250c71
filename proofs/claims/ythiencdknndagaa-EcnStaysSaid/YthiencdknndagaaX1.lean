/-
  Chapter 12 by the engine: the contracts that callers are given.
-/
import Derived.Test.YthiencdknndagaaEng
import Derived.Test.YthiencdknndagaaProg
import Derived.Test.YthiencdknndagaaP
namespace Go.Proofs.Ythiencdknndagaa
open Go.RowKit

/-- The numbers, and the truth values, of a row of one-cell rows. -/
def intsOf (f : Nat → List SV) : Nat → Nat → Option (List Int)
  | _, 0 => some []
  | i, n + 1 => match f i, intsOf f (i + 1) n with
    | [.int .i64 x], some l => some (x :: l)
    | _, _ => none
def boolsOf (f : Nat → List SV) : Nat → Nat → Option (List Bool)
  | _, 0 => some []
  | i, n + 1 => match f i, boolsOf f (i + 1) n with
    | [.bool x], some l => some (x :: l)
    | _, _ => none
def allB : List Bool → Bool
  | [] => true
  | b :: l => b && allB l
def anyB : List Bool → Bool
  | [] => false
  | b :: l => b || anyB l
def areN : List Int → Bool
  | [] => true
  | x :: l => isN x && areN l

def s16 : Spec := fun args _ _ k => match args with
  | [.int .i64 i, .int .i64 n] => bif decide (0 < n) && decide (n ≤ 9223372036854775807) then k (.int .i64 (bring i n)) [] [] else False
  | _ => False
def s18 : Spec := fun args h _ k => match args with
  | [.slice id row sz len] => match h id with
    | some b => bif Nat.beq row 0 && Nat.beq sz 1 && Nat.beq b.sz 1 && decide (row + len ≤ b.n) && decide (len ≤ 1000000) then (match intsOf b.rd row len with | some l => k (.bool (areN l)) [] [] | none => False) else False
    | none => False
  | _ => False
def s24 : Spec := fun args h _ k => match args with
  | [.slice id row sz len] => match h id with
    | some b => bif Nat.beq row 0 && Nat.beq sz 1 && Nat.beq b.sz 1 && decide (row + len ≤ b.n) && decide (len ≤ 1000000) then (match boolsOf b.rd row len with | some l => k (.bool (anyB l)) [] [] | none => False) else False
    | none => False
  | _ => False
def s21 : Spec := fun args _ _ k => match args with
  | [.int .i64 n] => k (.bool (isN n)) [] []
  | _ => False
def G1 : Gam := addGam (addGam (addGam (addGam noGam 16 s16) 18 s18) 24 s24) 21 s21
def eqs : List TypeId := [22, 24, 31]
noncomputable def C0 : Ctx := ⟨Try.prog, noGam, fun t => memN t eqs⟩
noncomputable def C1 : Ctx := ⟨Try.prog, G1, fun t => memN t eqs⟩
theorem eqs_ok : eqTypesOk Try.prog eqs = true := by kernel_rfl
theorem mixed : Try.prog.follows .mixedOrders = true := by kernel_rfl
end Go.Proofs.Ythiencdknndagaa
