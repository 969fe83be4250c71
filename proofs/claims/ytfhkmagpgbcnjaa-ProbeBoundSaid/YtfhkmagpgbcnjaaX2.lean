/-
  Chapter 19 by the engine: contracts.
-/
import Derived.Test.YtfhkmagpgbcnjaaX1
import Derived.Test.YtfhkmagpgbcnjaaP
namespace Go.Proofs.Ytfhkmagpgbcnjaa
open Go.RowKit
def s16 : Spec := fun args _ _ k => match args with
  | [.agg [.int .i64 a, .int .i64 b, .int .i64 c]] => k (.int .i64 (chk a b c)) [] []
  | _ => False
/-- By the space. -/
def s26 : Spec := fun args _ _ k => match args with
  | [.agg [.int .i64 a, .int .i64 b, .int .i64 c], .int .i64 sp, .int .i64 n] => bif decide (0 ≤ sp) && decide (sp < 3) then k (.agg [.int .i64 (put sp 0 n a), .int .i64 (put sp 1 n b), .int .i64 (put sp 2 n c)]) [] [] else False
  | _ => False
def G1 : Gam := addGam (addGam noGam 16 s16) 17 s16
noncomputable def C1 : Ctx := ⟨Try.prog, G1, fun t => memN t eqs⟩
/-- What is wrong is known ahead. -/
def s25 (e : Int) : Spec := fun args _ _ k => match args with
  | [.agg [.int .i64 a, .int .i64 b, .int .i64 c], .int .i64 sp] => bif decide (mayE a b c sp = e) then k (.int .i64 e) [] [] else False
  | _ => False
def G2 (e : Int) : Gam := addGam (addGam (addGam (addGam noGam 25 (s25 e)) 27 (s25 e)) 26 s26) 28 s26
noncomputable def C2 (e : Int) : Ctx := ⟨Try.prog, G2 e, fun t => memN t eqs⟩
end Go.Proofs.Ytfhkmagpgbcnjaa
