/-
  What functions of the program come to, way by way: printed by a program, held by the kernel.
-/
import Derived.Test.YtfoogfhcjnpokaaX1
namespace Go.Proofs.Ytfoogfhcjnpokaa
open Go.RowKit
set_option maxRecDepth 100000

theorem t43 (n : Int) (kk : SV → Prop) : evalF C0 64 Try.f43 [.int .i64 n] [] (fun v _ => kk v) = (
    bif decide ((0 : Int) ≤ n) then kk (SV.bool (decide (n ≤ (9007199254740991 : Int)))) else kk (SV.bool false)) := by kernel_rfl
theorem t41 (n : Int) (kk : SV → Prop) : evalF C0 64 Try.f41 [.int .i64 n] [] (fun v _ => kk v) = (
    kk
      (SV.int IntKind.i64
        (if (if (9007199254740991 : Int) < n then (9007199254740991 : Int) else n) > (0 : Int) then
          if (9007199254740991 : Int) < n then (9007199254740991 : Int) else n
        else (0 : Int)))) := by kernel_rfl
theorem t44 (n : Int) (kk : SV → Prop) : evalF C0 64 Try.f44 [.int .i64 n] [] (fun v _ => kk v) = (
    kk
      (SV.int IntKind.i64
        (if (if (9007199254740991 : Int) < n then (9007199254740991 : Int) else n) > (0 : Int) then
          if (9007199254740991 : Int) < n then (9007199254740991 : Int) else n
        else (0 : Int)))) := by kernel_rfl
theorem t39 (n : Int) (kk : SV → Prop) : evalF C0 64 Try.f39 [.int .i64 n] [] (fun v _ => kk v) = (
    bif decide (n < (1000000 : Int)) then
      kk
        (SV.tuple
          [SV.agg
              [SV.int IntKind.i64 (0 : Int), SV.int IntKind.i64 (0 : Int), SV.int IntKind.i64 (0 : Int),
                SV.int IntKind.i64 (0 : Int), SV.int IntKind.i64 (0 : Int)],
            SV.int IntKind.i64 (9 : Int)])
    else
      bif decide ((60000000000 : Int) < n) then
        kk
          (SV.tuple
            [SV.agg
                [SV.int IntKind.i64 (0 : Int), SV.int IntKind.i64 (0 : Int), SV.int IntKind.i64 (0 : Int),
                  SV.int IntKind.i64 (0 : Int), SV.int IntKind.i64 (0 : Int)],
              SV.int IntKind.i64 (9 : Int)])
      else
        kk
          (SV.tuple
            [SV.agg
                [SV.int IntKind.i64 (0 : Int), SV.int IntKind.i64 (0 : Int), SV.int IntKind.i64 n,
                  SV.int IntKind.i64 (IntKind.i64.wrap (n.tdiv (2 : Int))), SV.int IntKind.i64 (-1 : Int)],
              SV.int IntKind.i64 (0 : Int)])) := by kernel_rfl
theorem t40_5 (a b c d e : Int) (kk : SV → Prop) : evalF C0 64 Try.f40 [.slice 0 0 1 5] [some (bI [a, b, c, d, e])] (fun v _ => kk v) = (
    bif decide ([a, b, c, d, e].getD (0 : Nat) (0 : Int) < (0 : Int)) then kk (SV.bool false)
    else
      bif decide ((9007199254740991 : Int) < [a, b, c, d, e].getD (0 : Nat) (0 : Int)) then kk (SV.bool false)
      else
        bif decide ([a, b, c, d, e].getD (1 : Nat) (0 : Int) < (0 : Int)) then kk (SV.bool false)
        else
          bif decide ((9007199254740991 : Int) < [a, b, c, d, e].getD (1 : Nat) (0 : Int)) then kk (SV.bool false)
          else
            bif decide ([a, b, c, d, e].getD (2 : Nat) (0 : Int) < (0 : Int)) then kk (SV.bool false)
            else
              bif decide ((9007199254740991 : Int) < [a, b, c, d, e].getD (2 : Nat) (0 : Int)) then kk (SV.bool false)
              else
                bif decide ([a, b, c, d, e].getD (3 : Nat) (0 : Int) < (0 : Int)) then kk (SV.bool false)
                else
                  bif decide ((9007199254740991 : Int) < [a, b, c, d, e].getD (3 : Nat) (0 : Int)) then kk (SV.bool false)
                  else
                    bif decide ([a, b, c, d, e].getD (4 : Nat) (0 : Int) < (0 : Int)) then kk (SV.bool false)
                    else
                      bif decide ((9007199254740991 : Int) < [a, b, c, d, e].getD (4 : Nat) (0 : Int)) then
                        kk (SV.bool false)
                      else kk (SV.bool true)) := by kernel_rfl
theorem t47 (n a b : Int) (kk : SV → Prop) : evalF C0 64 Try.f47 [.int .i64 n, .int .i64 a, .int .i64 b] [] (fun v _ => kk v) = (
    kk (SV.int IntKind.i64 (if (if b < n then b else n) > a then if b < n then b else n else a))) := by kernel_rfl
theorem t37 (n : Int) (kk : SV → Prop) : evalF C0 64 Try.f37 [.int .i64 n] [] (fun v _ => kk v) = (
    bif decide ((0 : Int) ≤ n) then kk (SV.bool (decide (n ≤ (9007199254740991 : Int)))) else kk (SV.bool false)) := by kernel_rfl
theorem t11 (i n : Int) (kk : SV → Prop) : evalF C0 64 Try.f11 [.int .i64 i, .int .i64 n] [] (fun v _ => kk v) = (
    bif n == (0 : Int) then False
    else
      bif decide (i.tmod n < (0 : Int)) then kk (SV.int IntKind.i64 (IntKind.i64.wrap (i.tmod n + n)))
      else kk (SV.int IntKind.i64 (i.tmod n))) := by kernel_rfl
theorem t13  (kk : SV → Prop) : evalF C0 64 Try.f13 [] [] (fun v _ => kk v) = (
    kk (SV.agg [SV.bool false, SV.int IntKind.i64 (-1 : Int), SV.int IntKind.i64 (-1 : Int), SV.int IntKind.i64 (0 : Int)])) := by kernel_rfl
theorem t14  (kk : SV → Prop) : evalF C0 64 Try.f14 [] [] (fun v _ => kk v) = (
    kk
      (SV.agg
        [SV.int IntKind.i64 (100 : Int), SV.int IntKind.i64 (100 : Int), SV.int IntKind.i64 (2000000 : Int),
          SV.int IntKind.i64 (300000 : Int), SV.int IntKind.i64 (0 : Int)])) := by kernel_rfl
theorem t33  (kk : SV → Prop) : evalF C0 64 Try.f33 [] [] (fun v _ => kk v) = (
    kk (SV.agg [SV.int IntKind.i64 (0 : Int), SV.int IntKind.i64 (0 : Int), SV.int IntKind.i64 (-1 : Int)])) := by kernel_rfl
theorem t27 (a b c : Int) (kk : SV → Prop) : evalF C0 64 Try.f27 [.agg [.int .i64 a, .int .i64 b, .int .i64 c]] [] (fun v _ => kk v) = (
    kk (SV.int IntKind.i64 c)) := by kernel_rfl
end Go.Proofs.Ytfoogfhcjnpokaa
