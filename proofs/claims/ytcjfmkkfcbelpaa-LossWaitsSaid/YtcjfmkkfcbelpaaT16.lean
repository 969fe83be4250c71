/-
  What functions of the program come to, way by way: printed by a program, held by the kernel.
-/
import Derived.Test.YtcjfmkkfcbelpaaV15
namespace Go.Proofs.Ytcjfmkkfcbelpaa
open Go.RowKit
set_option maxRecDepth 100000

theorem t4 (l m s v f : Int) (kk : SV → Prop) : evalF C16 64 Try.f4 [rtt l m s v f] [] (fun v _ => kk v) = (
    bif waitV l m s v f == waitV l m s v f then kk (SV.bool true) else kk (SV.bool false)) := by kernel_rfl
end Go.Proofs.Ytcjfmkkfcbelpaa
