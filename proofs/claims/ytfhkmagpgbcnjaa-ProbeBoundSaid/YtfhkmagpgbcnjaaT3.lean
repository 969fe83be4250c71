/-
  What functions of the program come to, way by way: printed by a program, held by the kernel.
-/
import Derived.Test.YtfhkmagpgbcnjaaX5
namespace Go.Proofs.Ytfhkmagpgbcnjaa
open Go.RowKit
set_option maxRecDepth 100000

theorem t22  (kk : SV → Prop) : evalF C5 64 Try.f22 [] [] (fun v _ => kk v) = (
    kk (SV.bool true)) := by kernel_rfl
end Go.Proofs.Ytfhkmagpgbcnjaa
