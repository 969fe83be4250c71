/-
  Chapter 19 by the engine: the tables of the laws.
-/
import Derived.Test.YtfhkmagpgbcnjaaX3
namespace Go.Proofs.Ytfhkmagpgbcnjaa
open Go.RowKit
def s11 : Spec := fun args _ _ k => match args with
  | [.agg [.int .i64 a, .int .i64 b, .int .i64 c]] => k (.agg [.int .i64 a, .int .i64 b, .int .i64 c]) [] []
  | _ => False
def s23 : Spec := fun args _ _ k => match args with
  | [.int .i64 i, .int .i64 n] => bif decide (0 < n) && decide (n ≤ 9223372036854775807) then k (.int .i64 (i % n)) [] [] else False
  | _ => False
def G5 : Gam := addGam (addGam (addGam (addGam (addGam (addGam (addGam (addGam (addGam (addGam (addGam (addGam (addGam (addGam noGam 16 s16) 17 s16) 18 s18) 19 s18) 20 s20) 21 s20) 9 s9) 10 s9) 12 s12) 13 s12) 14 s14) 15 s14) 11 s11) 23 s23
noncomputable def C5 : Ctx := ⟨Try.prog, G5, fun t => memN t eqs⟩
def s22 : Spec := fun args _ _ k => match args with
  | [] => k (.bool true) [] []
  | _ => False
noncomputable def C6 : Ctx := ⟨Try.prog, addGam G5 22 s22, fun t => memN t eqs⟩
end Go.Proofs.Ytfhkmagpgbcnjaa
