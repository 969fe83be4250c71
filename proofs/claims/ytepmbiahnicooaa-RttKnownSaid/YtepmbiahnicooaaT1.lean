/-
  What functions of the program come to, way by way: printed by a program, held by the kernel.
-/
import Derived.Test.YtepmbiahnicooaaX1
namespace Go.Proofs.Ytepmbiahnicooaa
open Go.RowKit
set_option maxRecDepth 100000

theorem t29 (n : Int) (kk : SV → Prop) : evalF C0 64 Try.f29 [.int .i64 n] [] (fun v _ => kk v) = (
    bif decide ((0 : Int) ≤ n) then kk (SV.bool (decide (n ≤ (9007199254740991 : Int)))) else kk (SV.bool false)) := by kernel_rfl
theorem t25 (n : Int) (kk : SV → Prop) : evalF C0 64 Try.f25 [.int .i64 n] [] (fun v _ => kk v) = (
    kk
      (SV.int IntKind.i64
        (if (if (9007199254740991 : Int) < n then (9007199254740991 : Int) else n) > (0 : Int) then
          if (9007199254740991 : Int) < n then (9007199254740991 : Int) else n
        else (0 : Int)))) := by kernel_rfl
theorem t14 (n : Int) (kk : SV → Prop) : evalF C0 64 Try.f14 [.int .i64 n] [] (fun v _ => kk v) = (
    bif decide (n < (1000000 : Int)) then
      kk
        (SV.tuple
          [SV.agg
              [SV.int IntKind.i64 (0 : Int), SV.int IntKind.i64 (0 : Int), SV.int IntKind.i64 (0 : Int),
                SV.int IntKind.i64 (0 : Int), SV.int IntKind.i64 (0 : Int)],
            SV.int IntKind.i64 (9 : Int)])
    else
      bif decide ((60000000000 : Int) < n) then
        kk
          (SV.tuple
            [SV.agg
                [SV.int IntKind.i64 (0 : Int), SV.int IntKind.i64 (0 : Int), SV.int IntKind.i64 (0 : Int),
                  SV.int IntKind.i64 (0 : Int), SV.int IntKind.i64 (0 : Int)],
              SV.int IntKind.i64 (9 : Int)])
      else
        kk
          (SV.tuple
            [SV.agg
                [SV.int IntKind.i64 (0 : Int), SV.int IntKind.i64 (0 : Int), SV.int IntKind.i64 n,
                  SV.int IntKind.i64 (IntKind.i64.wrap (n.tdiv (2 : Int))), SV.int IntKind.i64 (-1 : Int)],
              SV.int IntKind.i64 (0 : Int)])) := by kernel_rfl
theorem t15 (n : Int) (kk : SV → Prop) : evalF C0 64 Try.f15 [.int .i64 n] [] (fun v _ => kk v) = (
    bif decide (n < (1000000 : Int)) then
      kk
        (SV.tuple
          [SV.agg
              [SV.int IntKind.i64 (0 : Int), SV.int IntKind.i64 (0 : Int), SV.int IntKind.i64 (0 : Int),
                SV.int IntKind.i64 (0 : Int), SV.int IntKind.i64 (0 : Int)],
            SV.int IntKind.i64 (9 : Int)])
    else
      bif decide ((60000000000 : Int) < n) then
        kk
          (SV.tuple
            [SV.agg
                [SV.int IntKind.i64 (0 : Int), SV.int IntKind.i64 (0 : Int), SV.int IntKind.i64 (0 : Int),
                  SV.int IntKind.i64 (0 : Int), SV.int IntKind.i64 (0 : Int)],
              SV.int IntKind.i64 (9 : Int)])
      else
        kk
          (SV.tuple
            [SV.agg
                [SV.int IntKind.i64 (0 : Int), SV.int IntKind.i64 (0 : Int), SV.int IntKind.i64 n,
                  SV.int IntKind.i64 (IntKind.i64.wrap (n.tdiv (2 : Int))), SV.int IntKind.i64 (-1 : Int)],
              SV.int IntKind.i64 (0 : Int)])) := by kernel_rfl
theorem t26_5 (a b c d e : Int) (kk : SV → Prop) : evalF C0 64 Try.f26 [.slice 0 0 1 5] [some (bI [a, b, c, d, e])] (fun v _ => kk v) = (
    bif decide ([a, b, c, d, e].getD (0 : Nat) (0 : Int) < (0 : Int)) then kk (SV.bool false)
    else
      bif decide ((9007199254740991 : Int) < [a, b, c, d, e].getD (0 : Nat) (0 : Int)) then kk (SV.bool false)
      else
        bif decide ([a, b, c, d, e].getD (1 : Nat) (0 : Int) < (0 : Int)) then kk (SV.bool false)
        else
          bif decide ((9007199254740991 : Int) < [a, b, c, d, e].getD (1 : Nat) (0 : Int)) then kk (SV.bool false)
          else
            bif decide ([a, b, c, d, e].getD (2 : Nat) (0 : Int) < (0 : Int)) then kk (SV.bool false)
            else
              bif decide ((9007199254740991 : Int) < [a, b, c, d, e].getD (2 : Nat) (0 : Int)) then kk (SV.bool false)
              else
                bif decide ([a, b, c, d, e].getD (3 : Nat) (0 : Int) < (0 : Int)) then kk (SV.bool false)
                else
                  bif decide ((9007199254740991 : Int) < [a, b, c, d, e].getD (3 : Nat) (0 : Int)) then kk (SV.bool false)
                  else
                    bif decide ([a, b, c, d, e].getD (4 : Nat) (0 : Int) < (0 : Int)) then kk (SV.bool false)
                    else
                      bif decide ((9007199254740991 : Int) < [a, b, c, d, e].getD (4 : Nat) (0 : Int)) then
                        kk (SV.bool false)
                      else kk (SV.bool true)) := by kernel_rfl
theorem t26_3 (a b c : Int) (kk : SV → Prop) : evalF C0 64 Try.f26 [.slice 0 0 1 3] [some (bI [a, b, c])] (fun v _ => kk v) = (
    bif decide ([a, b, c].getD (0 : Nat) (0 : Int) < (0 : Int)) then kk (SV.bool false)
    else
      bif decide ((9007199254740991 : Int) < [a, b, c].getD (0 : Nat) (0 : Int)) then kk (SV.bool false)
      else
        bif decide ([a, b, c].getD (1 : Nat) (0 : Int) < (0 : Int)) then kk (SV.bool false)
        else
          bif decide ((9007199254740991 : Int) < [a, b, c].getD (1 : Nat) (0 : Int)) then kk (SV.bool false)
          else
            bif decide ([a, b, c].getD (2 : Nat) (0 : Int) < (0 : Int)) then kk (SV.bool false)
            else
              bif decide ((9007199254740991 : Int) < [a, b, c].getD (2 : Nat) (0 : Int)) then kk (SV.bool false)
              else kk (SV.bool true)) := by kernel_rfl
theorem t28 (l m s v f x d n : Int) (kk : SV → Prop) : evalF C0 64 Try.f28 [.agg [.int .i64 l, .int .i64 m, .int .i64 s, .int .i64 v, .int .i64 f], .int .i64 x, .int .i64 d, .int .i64 n] [] (fun v _ => kk v) = (
    kk
      (SV.agg
        [SV.int IntKind.i64 x, SV.int IntKind.i64 x, SV.int IntKind.i64 x,
          SV.int IntKind.i64 (IntKind.i64.wrap (x.tdiv (2 : Int))), SV.int IntKind.i64 n])) := by kernel_rfl
theorem t27 (l m s v f x d n : Int) (kk : SV → Prop) : evalF C0 64 Try.f27 [.agg [.int .i64 l, .int .i64 m, .int .i64 s, .int .i64 v, .int .i64 f], .int .i64 x, .int .i64 d, .int .i64 n] [] (fun v _ => kk v) = (
    bif decide ((if x < m then x else m) ≤ IntKind.i64.wrap (x - d)) then
      bif decide (IntKind.i64.wrap (s - IntKind.i64.wrap (x - d)) < (0 : Int)) then
        kk
          (SV.agg
            [SV.int IntKind.i64 x, SV.int IntKind.i64 (if x < m then x else m),
              SV.int IntKind.i64
                (IntKind.i64.wrap
                  ((IntKind.i64.wrap (IntKind.i64.wrap ((7 : Int) * s) + IntKind.i64.wrap (x - d))).tdiv (8 : Int))),
              SV.int IntKind.i64
                (IntKind.i64.wrap
                  ((IntKind.i64.wrap
                        (IntKind.i64.wrap ((3 : Int) * v) +
                          IntKind.i64.wrap ((0 : Int) - IntKind.i64.wrap (s - IntKind.i64.wrap (x - d))))).tdiv
                    (4 : Int))),
              SV.int IntKind.i64 f])
      else
        kk
          (SV.agg
            [SV.int IntKind.i64 x, SV.int IntKind.i64 (if x < m then x else m),
              SV.int IntKind.i64
                (IntKind.i64.wrap
                  ((IntKind.i64.wrap (IntKind.i64.wrap ((7 : Int) * s) + IntKind.i64.wrap (x - d))).tdiv (8 : Int))),
              SV.int IntKind.i64
                (IntKind.i64.wrap
                  ((IntKind.i64.wrap
                        (IntKind.i64.wrap ((3 : Int) * v) + IntKind.i64.wrap (s - IntKind.i64.wrap (x - d)))).tdiv
                    (4 : Int))),
              SV.int IntKind.i64 f])
    else
      bif decide (IntKind.i64.wrap (s - x) < (0 : Int)) then
        kk
          (SV.agg
            [SV.int IntKind.i64 x, SV.int IntKind.i64 (if x < m then x else m),
              SV.int IntKind.i64
                (IntKind.i64.wrap ((IntKind.i64.wrap (IntKind.i64.wrap ((7 : Int) * s) + x)).tdiv (8 : Int))),
              SV.int IntKind.i64
                (IntKind.i64.wrap
                  ((IntKind.i64.wrap
                        (IntKind.i64.wrap ((3 : Int) * v) + IntKind.i64.wrap ((0 : Int) - IntKind.i64.wrap (s - x)))).tdiv
                    (4 : Int))),
              SV.int IntKind.i64 f])
      else
        kk
          (SV.agg
            [SV.int IntKind.i64 x, SV.int IntKind.i64 (if x < m then x else m),
              SV.int IntKind.i64
                (IntKind.i64.wrap ((IntKind.i64.wrap (IntKind.i64.wrap ((7 : Int) * s) + x)).tdiv (8 : Int))),
              SV.int IntKind.i64
                (IntKind.i64.wrap
                  ((IntKind.i64.wrap (IntKind.i64.wrap ((3 : Int) * v) + IntKind.i64.wrap (s - x))).tdiv (4 : Int))),
              SV.int IntKind.i64 f])) := by kernel_rfl
theorem t18 (i n : Int) (kk : SV → Prop) : evalF C0 64 Try.f18 [.int .i64 i, .int .i64 n] [] (fun v _ => kk v) = (
    bif n == (0 : Int) then False
    else
      bif decide (i.tmod n < (0 : Int)) then kk (SV.int IntKind.i64 (IntKind.i64.wrap (i.tmod n + n)))
      else kk (SV.int IntKind.i64 (i.tmod n))) := by kernel_rfl
theorem t11 (d m : Int) (k : Bool) (kk : SV → Prop) : evalF C0 64 Try.f11 [.int .i64 d, .int .i64 m, .bool k] [] (fun v _ => kk v) = (
    bif k then
      bif
          decide
            ((if (if (9007199254740991 : Int) < m then (9007199254740991 : Int) else m) > (0 : Int) then
                if (9007199254740991 : Int) < m then (9007199254740991 : Int) else m
              else (0 : Int)) <
              if (if (9007199254740991 : Int) < d then (9007199254740991 : Int) else d) > (0 : Int) then
                if (9007199254740991 : Int) < d then (9007199254740991 : Int) else d
              else (0 : Int)) then
        kk
          (SV.int IntKind.i64
            (if (if (9007199254740991 : Int) < m then (9007199254740991 : Int) else m) > (0 : Int) then
              if (9007199254740991 : Int) < m then (9007199254740991 : Int) else m
            else (0 : Int)))
      else
        kk
          (SV.int IntKind.i64
            (if (if (9007199254740991 : Int) < d then (9007199254740991 : Int) else d) > (0 : Int) then
              if (9007199254740991 : Int) < d then (9007199254740991 : Int) else d
            else (0 : Int)))
    else
      kk
        (SV.int IntKind.i64
          (if (if (9007199254740991 : Int) < d then (9007199254740991 : Int) else d) > (0 : Int) then
            if (9007199254740991 : Int) < d then (9007199254740991 : Int) else d
          else (0 : Int)))) := by kernel_rfl
end Go.Proofs.Ytepmbiahnicooaa
