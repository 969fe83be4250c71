/-
  Chapter 18 by the engine: the contexts, the first contracts.
-/
import Derived.Test.YtfoogfhcjnpokaaEng
import Derived.Test.YtfoogfhcjnpokaaProg
import Derived.Test.YtfoogfhcjnpokaaP
namespace Go.Proofs.Ytfoogfhcjnpokaa
open Go.RowKit
def eqs : List TypeId := [41, 32]
theorem eqs_ok : eqTypesOk Try.prog eqs = true := by kernel_rfl
theorem mixed : Try.prog.follows .mixedOrders = true := by kernel_rfl
noncomputable def C0 : Ctx := ⟨Try.prog, noGam, fun t => memN t eqs⟩
/-- Numbers in a row. -/
def bI (l : List Int) : Blk := ⟨1, l.length, fun r => [.int .i64 (l.getD r 0)], false, 0⟩
end Go.Proofs.Ytfoogfhcjnpokaa
