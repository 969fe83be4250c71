/-
  Chapter 9 by the engine: works, by literal calls.
-/
import Derived.Test.YtcjfmkkfcbelpaaV14
namespace Go.Proofs.Ytcjfmkkfcbelpaa
open Go.RowKit
def s32 : Spec := fun args _ _ k => match args with
  | [.int .i64 5, .int .i64 1000, .int .i64 2, .int .i64 9000200] => k (.bool true) [] []
  | [.int .i64 4, .int .i64 1000, .int .i64 1, .int .i64 9000100] => k (.bool true) [] []
  | [.int .i64 (-1), .int .i64 1000, .int .i64 0, .int .i64 (-1)] => k (.bool true) [] []
  | [.int .i64 6, .int .i64 9000250, .int .i64 3, .int .i64 9000300] => k (.bool true) [] []
  | [.int .i64 9, .int .i64 0, .int .i64 4, .int .i64 (-1)] => k (.bool true) [] []
  | _ => False
def G15 : Gam := addGam G14 32 s32
noncomputable def C15 : Ctx := ⟨Try.prog, G15, fun t => memN t eqs⟩
end Go.Proofs.Ytcjfmkkfcbelpaa
