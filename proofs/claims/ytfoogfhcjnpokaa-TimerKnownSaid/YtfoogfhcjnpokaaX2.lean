/-
  Chapter 18 by the engine: contracts.
-/
import Derived.Test.YtfoogfhcjnpokaaX1
namespace Go.Proofs.Ytfoogfhcjnpokaa
open Go.RowKit
def rtt (l m s v f : Int) : SV := .agg [.int .i64 l, .int .i64 m, .int .i64 s, .int .i64 v, .int .i64 f]
def sIs : Spec := fun args _ _ k => match args with
  | [.int .i64 n] => k (.bool (isT n)) [] []
  | _ => False
def sTime : Spec := fun args _ _ k => match args with
  | [.int .i64 n] => k (.int .i64 (timeV n)) [] []
  | _ => False
def s39 : Spec := fun args _ _ k => match args with
  | [.int .i64 n] => k (.tuple [rtt 0 0 (zi (newE n) n) (zi (newE n) (n / 2)) (zi (newE n) (-1)), .int .i64 (newE n)]) [] []
  | _ => False
def s40 : Spec := fun args h _ k => match args with
  | [.slice id 0 1 5] => match h id with
    | some b => match b.sz, b.n, b.rd 0, b.rd 1, b.rd 2, b.rd 3, b.rd 4 with
      | 1, 5, [.int .i64 x0], [.int .i64 x1], [.int .i64 x2], [.int .i64 x3], [.int .i64 x4] => k (.bool (isT x0 && (isT x1 && (isT x2 && (isT x3 && isT x4))))) [] []
      | _, _, _, _, _, _, _ => False
    | none => False
  | _ => False
def clampV (n a b : Int) : Int := if (if b < n then b else n) > a then (if b < n then b else n) else a
def s47 : Spec := fun args _ _ k => match args with
  | [.int .i64 n, .int .i64 a, .int .i64 b] => k (.int .i64 (clampV n a b)) [] []
  | _ => False
def s11 : Spec := fun args _ _ k => match args with
  | [.int .i64 i, .int .i64 n] => bif decide (0 < n) && decide (n ≤ 9223372036854775807) then k (.int .i64 (i % n)) [] [] else False
  | _ => False
def s13 : Spec := fun args _ _ k => match args with
  | [] => k (.agg [.bool false, .int .i64 (-1), .int .i64 (-1), .int .i64 0]) [] []
  | _ => False
def s14 : Spec := fun args _ _ k => match args with
  | [] => k (rtt 100 100 2000000 300000 0) [] []
  | _ => False
def due (a b c : Int) : SV := .agg [.int .i64 a, .int .i64 b, .int .i64 c]
def s33 : Spec := fun args _ _ k => match args with
  | [] => k (due 0 0 (-1)) [] []
  | _ => False
def s27 : Spec := fun args _ _ k => match args with
  | [.agg [.int .i64 _, .int .i64 _, .int .i64 c]] => k (.int .i64 c) [] []
  | _ => False
def G1 : Gam := addGam (addGam (addGam (addGam (addGam (addGam (addGam (addGam (addGam (addGam (addGam (addGam noGam 43 sIs) 41 sTime) 44 sTime) 39 s39) 40 s40) 47 s47) 37 sIs) 11 s11) 13 s13) 14 s14) 33 s33) 27 s27
noncomputable def C1 : Ctx := ⟨Try.prog, G1, fun t => memN t eqs⟩
def sChk : Spec := fun args _ _ k => match args with
  | [.agg [.int .i64 l, .int .i64 m, .int .i64 s, .int .i64 v, .int .i64 f]] => k (.int .i64 (chkE l m s v f)) [] []
  | _ => False
def sDue : Spec := fun args _ _ k => match args with
  | [.int .i64 a, .int .i64 b] => k (.int .i64 (dueV a b)) [] []
  | _ => False
def isOrNever (n : Int) : Bool := n == -1 || isT n
def sIsT : Spec := fun args _ _ k => match args with
  | [.int .i64 n] => k (.bool (isOrNever n)) [] []
  | _ => False
def G2 : Gam := addGam (addGam (addGam (addGam (addGam (addGam G1 38 sTime) 23 sChk) 32 sChk) 34 sDue) 42 sDue) 36 sIsT
noncomputable def C2 : Ctx := ⟨Try.prog, G2, fun t => memN t eqs⟩
def sBase : Spec := fun args _ _ k => match args with
  | [.agg [.int .i64 l, .int .i64 m, .int .i64 s, .int .i64 v, .int .i64 f], .int .i64 sp, .int .i64 d] => k (.int .i64 (baseV l m s v f sp d)) [] []
  | _ => False
def G3 : Gam := addGam (addGam (addGam G2 22 sIs) 26 sBase) 46 sBase
noncomputable def C3 : Ctx := ⟨Try.prog, G3, fun t => memN t eqs⟩
end Go.Proofs.Ytfoogfhcjnpokaa
