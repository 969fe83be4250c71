/-
  What functions of the program come to, way by way: printed by a program, held by the kernel.
-/
import Derived.Test.YtcjfmkkfcbelpaaX1
namespace Go.Proofs.Ytcjfmkkfcbelpaa
open Go.RowKit
set_option linter.unusedVariables false
set_option maxRecDepth 100000

theorem t25 (n : Int) (kk : SV → Prop) : evalF C0 64 Try.f25 [.int .i64 n] [] (fun v _ => kk v) = (
    bif decide ((0 : Int) ≤ n) then kk (SV.bool (decide (n ≤ (9007199254740991 : Int)))) else kk (SV.bool false)) := by kernel_rfl
theorem t28 (n : Int) (kk : SV → Prop) : evalF C0 64 Try.f28 [.int .i64 n] [] (fun v _ => kk v) = (
    bif decide ((0 : Int) ≤ n) then kk (SV.bool (decide (n ≤ (9007199254740991 : Int)))) else kk (SV.bool false)) := by kernel_rfl
theorem t41 (n : Int) (kk : SV → Prop) : evalF C0 64 Try.f41 [.int .i64 n] [] (fun v _ => kk v) = (
    bif decide ((0 : Int) ≤ n) then kk (SV.bool (decide (n ≤ (9007199254740991 : Int)))) else kk (SV.bool false)) := by kernel_rfl
theorem t35 (n : Int) (kk : SV → Prop) : evalF C0 64 Try.f35 [.int .i64 n] [] (fun v _ => kk v) = (
    bif decide (n < (1000000 : Int)) then
      kk
        (SV.tuple
          [SV.agg
              [SV.int IntKind.i64 (0 : Int), SV.int IntKind.i64 (0 : Int), SV.int IntKind.i64 (0 : Int),
                SV.int IntKind.i64 (0 : Int), SV.int IntKind.i64 (0 : Int)],
            SV.int IntKind.i64 (9 : Int)])
    else
      bif decide ((60000000000 : Int) < n) then
        kk
          (SV.tuple
            [SV.agg
                [SV.int IntKind.i64 (0 : Int), SV.int IntKind.i64 (0 : Int), SV.int IntKind.i64 (0 : Int),
                  SV.int IntKind.i64 (0 : Int), SV.int IntKind.i64 (0 : Int)],
              SV.int IntKind.i64 (9 : Int)])
      else
        kk
          (SV.tuple
            [SV.agg
                [SV.int IntKind.i64 (0 : Int), SV.int IntKind.i64 (0 : Int), SV.int IntKind.i64 n,
                  SV.int IntKind.i64 (IntKind.i64.wrap (n.tdiv (2 : Int))), SV.int IntKind.i64 (-1 : Int)],
              SV.int IntKind.i64 (0 : Int)])) := by kernel_rfl
theorem t36 (a b c d e : Int) (kk : SV → Prop) : evalF C0 64 Try.f36 [.slice 0 0 1 5] [some (bI [a, b, c, d, e])] (fun v _ => kk v) = (
    bif decide ([a, b, c, d, e].getD (0 : Nat) (0 : Int) < (0 : Int)) then kk (SV.bool false)
    else
      bif decide ((9007199254740991 : Int) < [a, b, c, d, e].getD (0 : Nat) (0 : Int)) then kk (SV.bool false)
      else
        bif decide ([a, b, c, d, e].getD (1 : Nat) (0 : Int) < (0 : Int)) then kk (SV.bool false)
        else
          bif decide ((9007199254740991 : Int) < [a, b, c, d, e].getD (1 : Nat) (0 : Int)) then kk (SV.bool false)
          else
            bif decide ([a, b, c, d, e].getD (2 : Nat) (0 : Int) < (0 : Int)) then kk (SV.bool false)
            else
              bif decide ((9007199254740991 : Int) < [a, b, c, d, e].getD (2 : Nat) (0 : Int)) then kk (SV.bool false)
              else
                bif decide ([a, b, c, d, e].getD (3 : Nat) (0 : Int) < (0 : Int)) then kk (SV.bool false)
                else
                  bif decide ((9007199254740991 : Int) < [a, b, c, d, e].getD (3 : Nat) (0 : Int)) then kk (SV.bool false)
                  else
                    bif decide ([a, b, c, d, e].getD (4 : Nat) (0 : Int) < (0 : Int)) then kk (SV.bool false)
                    else
                      bif decide ((9007199254740991 : Int) < [a, b, c, d, e].getD (4 : Nat) (0 : Int)) then
                        kk (SV.bool false)
                      else kk (SV.bool true)) := by kernel_rfl
theorem t26 (l m s v f : Int) (kk : SV → Prop) : evalF C1 64 Try.f26 [.agg [.int .i64 l, .int .i64 m, .int .i64 s, .int .i64 v, .int .i64 f]] [] (fun v _ => kk v) = (
    bif f == (-1 : Int) then
      bif newE s != (0 : Int) then kk (SV.int IntKind.i64 (2 : Int))
      else
        bif
            !((0 : Int) == l &&
                ((0 : Int) == m &&
                  (zi (newE s) s == s && (zi (newE s) (s / (2 : Int)) == v && (zi (newE s) (-1 : Int) == f && true))))) then
          kk (SV.int IntKind.i64 (2 : Int))
        else kk (SV.int IntKind.i64 (0 : Int))
    else
      bif !(isT f && (isT l && (isT m && (isT s && isT v)))) then kk (SV.int IntKind.i64 (2 : Int))
      else
        bif decide ((if s < l then s else l) < m) then kk (SV.int IntKind.i64 (2 : Int))
        else kk (SV.int IntKind.i64 (0 : Int))) := by kernel_rfl
theorem t29 (l m s v f : Int) (kk : SV → Prop) : evalF C1 64 Try.f29 [.agg [.int .i64 l, .int .i64 m, .int .i64 s, .int .i64 v, .int .i64 f]] [] (fun v _ => kk v) = (
    bif f == (-1 : Int) then
      bif l != (0 : Int) then kk (SV.int IntKind.i64 (2 : Int))
      else
        bif m != (0 : Int) then kk (SV.int IntKind.i64 (2 : Int))
        else
          bif decide (s < (1000000 : Int)) then kk (SV.int IntKind.i64 (2 : Int))
          else
            bif decide ((60000000000 : Int) < s) then kk (SV.int IntKind.i64 (2 : Int))
            else
              bif v != IntKind.i64.wrap (s.tdiv (2 : Int)) then kk (SV.int IntKind.i64 (2 : Int))
              else kk (SV.int IntKind.i64 (0 : Int))
    else
      bif !isT f then kk (SV.int IntKind.i64 (2 : Int))
      else
        bif !isT l then kk (SV.int IntKind.i64 (2 : Int))
        else
          bif !isT m then kk (SV.int IntKind.i64 (2 : Int))
          else
            bif !isT s then kk (SV.int IntKind.i64 (2 : Int))
            else
              bif !isT v then kk (SV.int IntKind.i64 (2 : Int))
              else
                bif decide (l < m) then kk (SV.int IntKind.i64 (2 : Int))
                else bif decide (s < m) then kk (SV.int IntKind.i64 (2 : Int)) else kk (SV.int IntKind.i64 (0 : Int))) := by kernel_rfl
theorem t33 (l m s v f : Int) (kk : SV → Prop) : evalF C2 64 Try.f33 [.agg [.int .i64 l, .int .i64 m, .int .i64 s, .int .i64 v, .int .i64 f]] [] (fun v _ => kk v) = (
    bif chkE l m s v f != (0 : Int) then kk (SV.int IntKind.i64 (0 : Int))
    else kk (SV.int IntKind.i64 (if l > s then l else s))) := by kernel_rfl
theorem t34 (l m s v f : Int) (kk : SV → Prop) : evalF C2 64 Try.f34 [.agg [.int .i64 l, .int .i64 m, .int .i64 s, .int .i64 v, .int .i64 f]] [] (fun v _ => kk v) = (
    bif chkE l m s v f != (0 : Int) then kk (SV.int IntKind.i64 (0 : Int))
    else kk (SV.int IntKind.i64 (if l > s then l else s))) := by kernel_rfl
theorem t17 (l m s v f : Int) (kk : SV → Prop) : evalF C3 64 Try.f17 [.agg [.int .i64 l, .int .i64 m, .int .i64 s, .int .i64 v, .int .i64 f]] [] (fun v _ => kk v) = (
    bif chkE l m s v f != (0 : Int) then kk (SV.int IntKind.i64 (0 : Int))
    else
      kk
        (SV.int IntKind.i64
          (if
              (if
                    (9007199254740991 : Int) <
                      IntKind.i64.wrap ((IntKind.i64.wrap ((9 : Int) * greatV l m s v f)).tdiv (8 : Int)) then
                  (9007199254740991 : Int)
                else IntKind.i64.wrap ((IntKind.i64.wrap ((9 : Int) * greatV l m s v f)).tdiv (8 : Int))) >
                (1000000 : Int) then
            if
                (9007199254740991 : Int) <
                  IntKind.i64.wrap ((IntKind.i64.wrap ((9 : Int) * greatV l m s v f)).tdiv (8 : Int)) then
              (9007199254740991 : Int)
            else IntKind.i64.wrap ((IntKind.i64.wrap ((9 : Int) * greatV l m s v f)).tdiv (8 : Int))
          else (1000000 : Int)))) := by kernel_rfl
theorem t18 (l m s v f : Int) (kk : SV → Prop) : evalF C3 64 Try.f18 [.agg [.int .i64 l, .int .i64 m, .int .i64 s, .int .i64 v, .int .i64 f]] [] (fun v _ => kk v) = (
    bif chkE l m s v f != (0 : Int) then kk (SV.int IntKind.i64 (0 : Int))
    else
      kk
        (SV.int IntKind.i64
          (if
              (if
                    (9007199254740991 : Int) <
                      IntKind.i64.wrap ((IntKind.i64.wrap ((9 : Int) * greatV l m s v f)).tdiv (8 : Int)) then
                  (9007199254740991 : Int)
                else IntKind.i64.wrap ((IntKind.i64.wrap ((9 : Int) * greatV l m s v f)).tdiv (8 : Int))) >
                (1000000 : Int) then
            if
                (9007199254740991 : Int) <
                  IntKind.i64.wrap ((IntKind.i64.wrap ((9 : Int) * greatV l m s v f)).tdiv (8 : Int)) then
              (9007199254740991 : Int)
            else IntKind.i64.wrap ((IntKind.i64.wrap ((9 : Int) * greatV l m s v f)).tdiv (8 : Int))
          else (1000000 : Int)))) := by kernel_rfl
theorem t21 (i n : Int) (kk : SV → Prop) : evalF C0 64 Try.f21 [.int .i64 i, .int .i64 n] [] (fun v _ => kk v) = (
    bif n == (0 : Int) then False
    else
      bif decide (i.tmod n < (0 : Int)) then kk (SV.int IntKind.i64 (IntKind.i64.wrap (i.tmod n + n)))
      else kk (SV.int IntKind.i64 (i.tmod n))) := by kernel_rfl
end Go.Proofs.Ytcjfmkkfcbelpaa
