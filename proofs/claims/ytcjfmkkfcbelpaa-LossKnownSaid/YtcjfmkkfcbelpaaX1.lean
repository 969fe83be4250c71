/-
  Chapter 9 by the engine: contexts, contracts of measures.
-/
import Derived.Test.YtcjfmkkfcbelpaaEng2
import Derived.Test.YtcjfmkkfcbelpaaProg
import Derived.Test.YtcjfmkkfcbelpaaP
namespace Go.Proofs.Ytcjfmkkfcbelpaa
open Go.RowKit
def eqs : List TypeId := [25, 33]
theorem eqs_ok : eqTypesOk Try.prog eqs = true := by kernel_rfl
theorem mixed : Try.prog.follows .mixedOrders = true := by kernel_rfl
noncomputable def C0 : Ctx := ⟨Try.prog, noGam, fun t => memN t eqs⟩
/-- Numbers in a row. -/
def bI (l : List Int) : Blk := ⟨1, l.length, fun r => [.int .i64 (l.getD r 0)], false, 0⟩
def rtt (l m s v f : Int) : SV := .agg [.int .i64 l, .int .i64 m, .int .i64 s, .int .i64 v, .int .i64 f]
def s25 : Spec := fun args _ _ k => match args with
  | [.int .i64 n] => k (.bool (isT n)) [] []
  | _ => False
def s35 : Spec := fun args _ _ k => match args with
  | [.int .i64 n] => k (.tuple [rtt 0 0 (zi (newE n) n) (zi (newE n) (n / 2)) (zi (newE n) (-1)), .int .i64 (newE n)]) [] []
  | _ => False
def s36 : Spec := fun args h _ k => match args with
  | [.slice id 0 1 5] => match h id with
    | some b => match b.sz, b.n, b.rd 0, b.rd 1, b.rd 2, b.rd 3, b.rd 4 with
      | 1, 5, [.int .i64 x0], [.int .i64 x1], [.int .i64 x2], [.int .i64 x3], [.int .i64 x4] => k (.bool (isT x0 && (isT x1 && (isT x2 && (isT x3 && isT x4))))) [] []
      | _, _, _, _, _, _, _ => False
    | none => False
  | _ => False
def G1 : Gam := addGam (addGam (addGam (addGam (addGam noGam 25 s25) 28 s25) 41 s25) 35 s35) 36 s36
noncomputable def C1 : Ctx := ⟨Try.prog, G1, fun t => memN t eqs⟩
def s26 : Spec := fun args _ _ k => match args with
  | [.agg [.int .i64 l, .int .i64 m, .int .i64 s, .int .i64 v, .int .i64 f]] => k (.int .i64 (chkE l m s v f)) [] []
  | _ => False
noncomputable def C2 : Ctx := ⟨Try.prog, addGam (addGam G1 26 s26) 29 s26, fun t => memN t eqs⟩
/-- The greatest, of which it is known that it is a time. -/
def s33 : Spec := fun args _ _ k => match args with
  | [.agg [.int .i64 l, .int .i64 m, .int .i64 s, .int .i64 v, .int .i64 f]] => k (.int .i64 (greatV l m s v f)) [] []
  | _ => False
noncomputable def C3 : Ctx := ⟨Try.prog, addGam (addGam (addGam (addGam G1 26 s26) 29 s26) 33 s33) 34 s33, fun t => memN t eqs⟩
def s17 : Spec := fun args _ _ k => match args with
  | [.agg [.int .i64 l, .int .i64 m, .int .i64 s, .int .i64 v, .int .i64 f]] => k (.int .i64 (waitV l m s v f)) [] []
  | _ => False
def s21 : Spec := fun args _ _ k => match args with
  | [.int .i64 i, .int .i64 n] => bif decide (0 < n) && decide (n ≤ 9223372036854775807) then k (.int .i64 (i % n)) [] [] else False
  | _ => False
def G4 : Gam := addGam (addGam (addGam (addGam (addGam (addGam (addGam G1 26 s26) 29 s26) 33 s33) 34 s33) 17 s17) 18 s17) 21 s21
noncomputable def C4 : Ctx := ⟨Try.prog, G4, fun t => memN t eqs⟩
end Go.Proofs.Ytcjfmkkfcbelpaa
