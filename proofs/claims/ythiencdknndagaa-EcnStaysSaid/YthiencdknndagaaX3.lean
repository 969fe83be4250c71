/-
  Chapter 12 by the engine: more contracts.
-/
import Derived.Test.YthiencdknndagaaX2
namespace Go.Proofs.Ythiencdknndagaa
open Go.RowKit

def failW (s a b c x y z newly : Int) : Bool :=
  anyB [decide (x < a), y != b, decide (z < c), decide (s < IntKind.i64.wrap (x + z)), decide (IntKind.i64.wrap (IntKind.i64.wrap (x + z) - IntKind.i64.wrap (a + c)) < newly)]
def failR (m : Bool) (s a b c x y z newly : Int) : Bool :=
  bif !m then decide ((0 : Int) < newly) else
  decide (x < a) || decide (y < b) || decide (z < c) || decide (b < y) || decide (s < IntKind.i64.wrap (x + z)) || decide (IntKind.i64.wrap (IntKind.i64.wrap (IntKind.i64.wrap (x + z) - a) - c) < newly)
def s20 : Spec := fun args _ _ k => match args with
  | [.agg [.int .i64 s, .int .i64 a, .int .i64 b, .int .i64 c, .bool _], .agg [.int .i64 x, .int .i64 y, .int .i64 z], .int .i64 newly] => k (.bool (failW s a b c x y z newly)) [] []
  | _ => False
def okSl : SV → Bool | .raw _ | .nilSlice => true | _ => false
def s23 : Spec := fun args _ _ k => match args with
  | [.agg [.int .i64 s, .int .i64 a, .int .i64 b, .int .i64 c, .bool _], .agg [.int .i64 _, q, .bool m, .int .i64 x, .int .i64 y, .int .i64 z], .int .i64 newly] => bif okSl q then k (.bool (failR m s a b c x y z newly)) [] [] else False
  | _ => False
def cntE (e s a b c : Int) (f : Bool) : SV := .agg [.int .i64 (zi e s), .int .i64 (zi e a), .int .i64 (zi e b), .int .i64 (zi e c), .bool (zb e f)]
def s8 : Spec := fun args _ _ k => match args with
  | [.agg [.int .i64 s, .int .i64 a, .int .i64 b, .int .i64 c, .bool f]] => k (.tuple [cntE (mE s a b c) (s + 1) a b c f, .int .i64 (mE s a b c)]) [] []
  | _ => False
def G3 : Gam := addGam (addGam (addGam (addGam G2 20 s20) 23 s23) 8 s8) 9 s8
noncomputable def C3 : Ctx := ⟨Try.prog, G3, fun t => memN t eqs⟩
def s11 : Spec := fun args _ _ k => match args with
  | [.agg [.int .i64 s, .int .i64 a, .int .i64 b, .int .i64 c, .bool f], .agg [.int .i64 _, q, .bool m, .int .i64 x, .int .i64 y, .int .i64 z], .int .i64 newly] =>
    bif okSl q then k (.tuple [cntE (aE s a b c x y z newly) s (pk (aSee f m s a b c x y z newly) x a) (pk (aSee f m s a b c x y z newly) y b) (pk (aSee f m s a b c x y z newly) z c) (aFail f m s a b c x y z newly),
      .bool (zb (aE s a b c x y z newly) (aSee f m s a b c x y z newly && decide (c < z))), .int .i64 (aE s a b c x y z newly)]) [] [] else False
  | _ => False
def G4 : Gam := addGam (addGam G3 11 s11) 12 s11
noncomputable def C4 : Ctx := ⟨Try.prog, G4, fun t => memN t eqs⟩
def s15 : Spec := fun args _ _ k => match args with
  | [] => k (.bool true) [] []
  | _ => False
def G5 : Gam := addGam G4 15 s15
noncomputable def C5 : Ctx := ⟨Try.prog, G5, fun t => memN t eqs⟩
end Go.Proofs.Ythiencdknndagaa
