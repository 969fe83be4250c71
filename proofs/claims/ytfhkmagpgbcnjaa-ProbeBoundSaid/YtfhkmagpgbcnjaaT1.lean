/-
  What functions of the program come to, way by way: printed by a program, held by the kernel.
-/
import Derived.Test.YtfhkmagpgbcnjaaX1
namespace Go.Proofs.Ytfhkmagpgbcnjaa
open Go.RowKit
set_option maxRecDepth 100000

theorem t16 (a b c : Int) (kk : SV → Prop) : evalF C0 64 Try.f16 [.agg [.int .i64 a, .int .i64 b, .int .i64 c]] [] (fun v _ => kk v) = (
    bif decide (a < (0 : Int)) then kk (SV.int IntKind.i64 (2 : Int))
    else
      bif decide ((2 : Int) < a) then kk (SV.int IntKind.i64 (2 : Int))
      else
        bif decide (b < (0 : Int)) then kk (SV.int IntKind.i64 (2 : Int))
        else
          bif decide ((2 : Int) < b) then kk (SV.int IntKind.i64 (2 : Int))
          else
            bif decide (c < (0 : Int)) then kk (SV.int IntKind.i64 (2 : Int))
            else bif decide ((2 : Int) < c) then kk (SV.int IntKind.i64 (2 : Int)) else kk (SV.int IntKind.i64 (0 : Int))) := by kernel_rfl
theorem t17 (a b c : Int) (kk : SV → Prop) : evalF C0 64 Try.f17 [.agg [.int .i64 a, .int .i64 b, .int .i64 c]] [] (fun v _ => kk v) = (
    bif decide (a < (0 : Int)) then kk (SV.int IntKind.i64 (2 : Int))
    else
      bif decide ((2 : Int) < a) then kk (SV.int IntKind.i64 (2 : Int))
      else
        bif decide (b < (0 : Int)) then kk (SV.int IntKind.i64 (2 : Int))
        else
          bif decide ((2 : Int) < b) then kk (SV.int IntKind.i64 (2 : Int))
          else
            bif decide (c < (0 : Int)) then kk (SV.int IntKind.i64 (2 : Int))
            else bif decide ((2 : Int) < c) then kk (SV.int IntKind.i64 (2 : Int)) else kk (SV.int IntKind.i64 (0 : Int))) := by kernel_rfl
theorem t23 (i n : Int) (kk : SV → Prop) : evalF C0 64 Try.f23 [.int .i64 i, .int .i64 n] [] (fun v _ => kk v) = (
    bif n == (0 : Int) then False
    else
      bif decide (i.tmod n < (0 : Int)) then kk (SV.int IntKind.i64 (IntKind.i64.wrap (i.tmod n + n)))
      else kk (SV.int IntKind.i64 (i.tmod n))) := by kernel_rfl
theorem t26a (a b c n : Int) (kk : SV → Prop) : evalF C0 64 Try.f26 [.agg [.int .i64 a, .int .i64 b, .int .i64 c], .int .i64 0, .int .i64 n] [] (fun v _ => kk v) = (
    kk (SV.agg [SV.int IntKind.i64 n, SV.int IntKind.i64 b, SV.int IntKind.i64 c])) := by kernel_rfl
theorem t26b (a b c n : Int) (kk : SV → Prop) : evalF C0 64 Try.f26 [.agg [.int .i64 a, .int .i64 b, .int .i64 c], .int .i64 1, .int .i64 n] [] (fun v _ => kk v) = (
    kk (SV.agg [SV.int IntKind.i64 a, SV.int IntKind.i64 n, SV.int IntKind.i64 c])) := by kernel_rfl
theorem t26c (a b c n : Int) (kk : SV → Prop) : evalF C0 64 Try.f26 [.agg [.int .i64 a, .int .i64 b, .int .i64 c], .int .i64 2, .int .i64 n] [] (fun v _ => kk v) = (
    kk (SV.agg [SV.int IntKind.i64 a, SV.int IntKind.i64 b, SV.int IntKind.i64 n])) := by kernel_rfl
theorem t28a (a b c n : Int) (kk : SV → Prop) : evalF C0 64 Try.f28 [.agg [.int .i64 a, .int .i64 b, .int .i64 c], .int .i64 0, .int .i64 n] [] (fun v _ => kk v) = (
    kk (SV.agg [SV.int IntKind.i64 n, SV.int IntKind.i64 b, SV.int IntKind.i64 c])) := by kernel_rfl
theorem t11 (a b c : Int) (kk : SV → Prop) : evalF C0 64 Try.f11 [.agg [.int .i64 a, .int .i64 b, .int .i64 c]] [] (fun v _ => kk v) = (
    kk (SV.agg [SV.int IntKind.i64 a, SV.int IntKind.i64 b, SV.int IntKind.i64 c])) := by kernel_rfl
theorem t28b (a b c n : Int) (kk : SV → Prop) : evalF C0 64 Try.f28 [.agg [.int .i64 a, .int .i64 b, .int .i64 c], .int .i64 1, .int .i64 n] [] (fun v _ => kk v) = (
    kk (SV.agg [SV.int IntKind.i64 a, SV.int IntKind.i64 n, SV.int IntKind.i64 c])) := by kernel_rfl
theorem t28c (a b c n : Int) (kk : SV → Prop) : evalF C0 64 Try.f28 [.agg [.int .i64 a, .int .i64 b, .int .i64 c], .int .i64 2, .int .i64 n] [] (fun v _ => kk v) = (
    kk (SV.agg [SV.int IntKind.i64 a, SV.int IntKind.i64 b, SV.int IntKind.i64 n])) := by kernel_rfl
end Go.Proofs.Ytfhkmagpgbcnjaa
