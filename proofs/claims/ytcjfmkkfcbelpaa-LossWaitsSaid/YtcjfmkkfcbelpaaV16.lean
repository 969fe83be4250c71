/-
  Chapter 9 by the engine: LossWaits.
-/
import Derived.Test.YtcjfmkkfcbelpaaT16
namespace Go.Proofs.Ytcjfmkkfcbelpaa
open Go.RowKit
section
attribute [local irreducible] evalC
set_option maxRecDepth 100000
theorem canon4 (l m s v f : Int) : Canon Try.prog 4 [rtt l m s v f] [] fun v _ => v = .bool true := by
  refine evalF_ok (C := C16) ec gs16 mixed (u := 64) Try.func4 (by kernel_rfl) ?_
  show evalF C16 64 Try.f4 [rtt l m s v f] [] _
  rw [t4 l m s v f (fun v => v = .bool true), beq_self_eq_true]
  rfl
end
theorem waits_any (l m s v f : Int) (W : World) : Calls Try.prog 4 #[.agg #[.int .i64 l, .int .i64 m, .int .i64 s, .int .i64 v, .int .i64 f]] W fun e w' => e = .returned (.bool true) ∧ Below W.heap.size W w' :=
  lawOf (canon4 l m s v f) (RL.cons (by simp [R, RL, rtt]) RL.nil) W
end Go.Proofs.Ytcjfmkkfcbelpaa
