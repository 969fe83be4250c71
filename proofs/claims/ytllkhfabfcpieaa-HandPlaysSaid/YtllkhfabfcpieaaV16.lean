/-
  Chapter 16 by the engine: HandPlays, the law.
-/
import Derived.Test.YtllkhfabfcpieaaV15
namespace Go.Proofs.Ytllkhfabfcpieaa
open Go.RowKit
section
attribute [local irreducible] evalC
set_option maxRecDepth 100000
theorem plays_any (b : Bool) (s : Option Addr) (len cap : Nat) (w : World) (h : IsPairs w s len cap) : Calls Try.prog 6 #[.bool b, .slice s len cap] w fun e w' => e = .returned (.bool true) ∧ Below w.heap.size w w' :=
  lawP (pre := [.bool b]) (post := []) (vpre := [.bool b]) (vpost := []) (by simp [RL, R]) (by simp [RL]) (fun n g _ => canon6 b n g) (canon6e b) h
end
end Go.Proofs.Ytllkhfabfcpieaa
