/-
  Chapter 19 by the engine: the contexts.
-/
import Derived.Test.YtfhkmagpgbcnjaaEng
import Derived.Test.YtfhkmagpgbcnjaaProg
namespace Go.Proofs.Ytfhkmagpgbcnjaa
open Go.RowKit
def eqs : List TypeId := [23, 27]
noncomputable def C0 : Ctx := ⟨Try.prog, noGam, fun t => memN t eqs⟩
theorem eqs_ok : eqTypesOk Try.prog eqs = true := by kernel_rfl
theorem mixed : Try.prog.follows .mixedOrders = true := by kernel_rfl
end Go.Proofs.Ytfhkmagpgbcnjaa
