/-
  What functions of the program come to, way by way: printed by a program, held by the kernel.
-/
import Derived.Test.YtfoogfhcjnpokaaX3
namespace Go.Proofs.Ytfoogfhcjnpokaa
open Go.RowKit
set_option maxRecDepth 100000

theorem p25_0 (b c m : Int) (Kt : KT) : evalC C1 0  0 c25_0 (enterS 25 [.int .i64 b, .int .i64 c, .int .i64 m]) [] ( obsN L25 [] Kt) = (
    Kt Ex.normal (25 : Nat) [SV.int IntKind.i64 b, SV.int IntKind.i64 c, SV.int IntKind.i64 m, SV.top, SV.top] []) := by kernel_rfl
theorem p25_1 (b c m : Int) (Kt : KT) : evalC C1 0  0 c25_1 (tplF 25 L25 [.int .i64 b, .int .i64 c, .int .i64 m, .top, .top]) [] ( obsN L25 [] Kt) = (
    Kt Ex.normal (25 : Nat) [SV.int IntKind.i64 (timeV b), SV.int IntKind.i64 c, SV.int IntKind.i64 m, SV.top, SV.top] []) := by kernel_rfl
theorem p25_2 (b c m : Int) (Kt : KT) : evalC C1 0  0 c25_2 (tplF 25 L25 [.int .i64 b, .int .i64 c, .int .i64 m, .top, .top]) [] ( obsN L25 [] Kt) = (
    Kt Ex.normal (25 : Nat)
      [SV.int IntKind.i64 b, SV.int IntKind.i64 c, SV.int IntKind.i64 m,
        SV.int IntKind.i64 (if (if m < c then m else c) > (0 : Int) then if m < c then m else c else (0 : Int)),
        SV.int IntKind.i64 (0 : Int)]
      []) := by kernel_rfl
theorem p25_3 (b c m : Int) (n i : Int) (Kt : KT) : evalC C1 0  0 c25_3 (tplF 25 L25 [.int .i64 b, .int .i64 c, .int .i64 m, .int .i64 n, .int .i64 i]) [] ( obsN L25 [] Kt) = (
    bif decide (i < n) then
      bif b == (0 : Int) then
        Kt (Ex.exit (0 : Nat)) (25 : Nat)
          [SV.int IntKind.i64 b, SV.int IntKind.i64 c, SV.int IntKind.i64 m, SV.int IntKind.i64 n, SV.int IntKind.i64 i] []
      else
        bif decide ((4503599627370495 : Int) < b) then
          Kt (Ex.exit (0 : Nat)) (25 : Nat)
            [SV.int IntKind.i64 (9007199254740991 : Int), SV.int IntKind.i64 c, SV.int IntKind.i64 m, SV.int IntKind.i64 n,
              SV.int IntKind.i64 i]
            []
        else
          Kt Ex.normal (25 : Nat)
            [SV.int IntKind.i64 (IntKind.i64.wrap (b * (2 : Int))), SV.int IntKind.i64 c, SV.int IntKind.i64 m,
              SV.int IntKind.i64 n, SV.int IntKind.i64 (IntKind.i64.wrap (i + (1 : Int)))]
            []
    else
      Kt (Ex.exit (0 : Nat)) (25 : Nat)
        [SV.int IntKind.i64 b, SV.int IntKind.i64 c, SV.int IntKind.i64 m, SV.int IntKind.i64 n, SV.int IntKind.i64 i] []) := by kernel_rfl
theorem p25_4 (b c m : Int) (Kt : KT) : evalC C1 0  0 c25_4 (tplF 25 L25 [.int .i64 b, .int .i64 c, .int .i64 m, .top, .top]) [] ( obs [6] [] Kt) = (
    Kt Ex.ret (25 : Nat) [SV.int IntKind.i64 b] []) := by kernel_rfl
theorem p45_0 (b c m : Int) (Kt : KT) : evalC C1 0  0 (.seq c45_0 (.seq c45_1 .skip)) (enterS 28 [.int .i64 b, .int .i64 c, .int .i64 m]) [] ( obsN L45 [] Kt) = (
    Kt Ex.normal (28 : Nat) [SV.int IntKind.i64 (timeV b), SV.int IntKind.i64 c, SV.int IntKind.i64 m, SV.top] []) := by kernel_rfl
theorem p45_2 (b c m : Int) (Kt : KT) : evalC C1 0  0 c45_2 (tplF 28 L45 [.int .i64 b, .int .i64 c, .int .i64 m, .top]) [] ( obsN L45 [] Kt) = (
    Kt Ex.normal (28 : Nat) [SV.int IntKind.i64 b, SV.int IntKind.i64 c, SV.int IntKind.i64 m, SV.int IntKind.i64 (0 : Int)]
      []) := by kernel_rfl
theorem p45_3 (b c m i : Int) (Kt : KT) : evalC C1 0  0 c45_3 (tplF 28 L45 [.int .i64 b, .int .i64 c, .int .i64 m, .int .i64 i]) [] ( obsN L45 [] Kt) = (
    bif decide (i < c) then
      bif decide (i < m) then
        bif decide (i < (60 : Int)) then
          Kt Ex.normal (28 : Nat)
            [SV.int IntKind.i64 (timeV (IntKind.i64.wrap ((2 : Int) * b))), SV.int IntKind.i64 c, SV.int IntKind.i64 m,
              SV.int IntKind.i64 (IntKind.i64.wrap (i + (1 : Int)))]
            []
        else
          Kt (Ex.exit (0 : Nat)) (28 : Nat)
            [SV.int IntKind.i64 b, SV.int IntKind.i64 c, SV.int IntKind.i64 m, SV.int IntKind.i64 i] []
      else
        Kt (Ex.exit (0 : Nat)) (28 : Nat)
          [SV.int IntKind.i64 b, SV.int IntKind.i64 c, SV.int IntKind.i64 m, SV.int IntKind.i64 i] []
    else
      Kt (Ex.exit (0 : Nat)) (28 : Nat)
        [SV.int IntKind.i64 b, SV.int IntKind.i64 c, SV.int IntKind.i64 m, SV.int IntKind.i64 i] []) := by kernel_rfl
theorem p45_4 (b c m : Int) (Kt : KT) : evalC C1 0  0 c45_4 (tplF 28 L45 [.int .i64 b, .int .i64 c, .int .i64 m, .top]) [] ( obs [6] [] Kt) = (
    Kt Ex.ret (28 : Nat) [SV.int IntKind.i64 b] []) := by kernel_rfl
end Go.Proofs.Ytfoogfhcjnpokaa
