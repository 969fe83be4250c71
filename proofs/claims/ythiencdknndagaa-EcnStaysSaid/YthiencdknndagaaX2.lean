/-
  Chapter 12 by the engine: more contracts.
-/
import Derived.Test.YthiencdknndagaaX1
namespace Go.Proofs.Ythiencdknndagaa
open Go.RowKit

def cntS (s a b c : Int) (f : Bool) : SV := .agg [.int .i64 s, .int .i64 a, .int .i64 b, .int .i64 c, .bool f]
def s22 : Spec := fun args _ _ k => match args with
  | [.agg [.int .i64 a, .int .i64 b, .int .i64 c]] => k (.bool (isN a && isN b && isN c)) [] []
  | _ => False
def G1a : Gam := addGam G1 22 s22
noncomputable def C1a : Ctx := ⟨Try.prog, G1a, fun t => memN t eqs⟩
def s13 : Spec := fun args _ _ k => match args with
  | [.agg [.int .i64 s, .int .i64 a, .int .i64 b, .int .i64 c, .bool _]] => k (.int .i64 (chkE s a b c)) [] []
  | _ => False
def s10 : Spec := fun args _ _ k => match args with
  | [.agg [.int .i64 s, .int .i64 a, .int .i64 b, .int .i64 c, .bool f]] => k (.agg [.int .i64 s, .int .i64 a, .int .i64 b, .int .i64 c, .bool f]) [] []
  | _ => False
def s19 : Spec := fun args _ _ k => match args with
  | [.agg [.int .i64 a, .int .i64 _, .int .i64 c]] => k (.int .i64 (IntKind.i64.wrap (a + c))) [] []
  | _ => False
def s17 : Spec := fun args _ _ k => match args with
  | [.int .i64 a, .int .i64 b, .int .i64 c] => k (.agg [.int .i64 0, .nilSlice, .bool true, .int .i64 a, .int .i64 b, .int .i64 c]) [] []
  | _ => False
def G2 : Gam := addGam (addGam (addGam (addGam (addGam (addGam G1 22 s22) 13 s13) 14 s13) 10 s10) 19 s19) 17 s17
noncomputable def C2 : Ctx := ⟨Try.prog, G2, fun t => memN t eqs⟩
end Go.Proofs.Ythiencdknndagaa
