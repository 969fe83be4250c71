/-
  EcnTells: the walk, by the engine.
-/
import Derived.Test.YthiencdknndagaaV4
namespace Go.Proofs.Ythiencdknndagaa
open Go.RowKit

theorem tells_any (s a b c d x y z newly : Int) (f m : Bool) (q : Value) (w : World) :
    Calls Try.prog 3 #[.agg #[.int .i64 s, .int .i64 a, .int .i64 b, .int .i64 c, .bool f], .agg #[.int .i64 d, q, .bool m, .int .i64 x, .int .i64 y, .int .i64 z], .int .i64 newly] w fun e w' => e = .returned (.bool true) ∧ Below w.heap.size w w' := by
  refine lawOf (args := [cntS s a b c f, .agg [.int .i64 d, .raw q, .bool m, .int .i64 x, .int .i64 y, .int .i64 z], .int .i64 newly]) (evalF_ok (C := C5) ec gs5 mixed (u := 64) Try.func3 (by kernel_rfl) ?_)
    (vs := [.agg #[.int .i64 s, .int .i64 a, .int .i64 b, .int .i64 c, .bool f], .agg #[.int .i64 d, q, .bool m, .int .i64 x, .int .i64 y, .int .i64 z], .int .i64 newly]) ?_ w
  · rw [t3 s a b c f d q m x y z newly (fun v => v = _)]
    simp
  · simp [RL, R, cntS]
end Go.Proofs.Ythiencdknndagaa
