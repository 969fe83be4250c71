/-
  What functions of the program come to, way by way: printed by a program, held by the kernel.
-/
import Derived.Test.YtepmbiahnicooaaX2
namespace Go.Proofs.Ytepmbiahnicooaa
open Go.RowKit
set_option maxRecDepth 100000

theorem t21 (l m s v f : Int) (kk : SV → Prop) : evalF C1 64 Try.f21 [.agg [.int .i64 l, .int .i64 m, .int .i64 s, .int .i64 v, .int .i64 f]] [] (fun v _ => kk v) = (
    bif f == (-1 : Int) then
      bif newE s != (0 : Int) then kk (SV.int IntKind.i64 (2 : Int))
      else
        bif
            !((0 : Int) == l &&
                ((0 : Int) == m &&
                  (zi (newE s) s == s && (zi (newE s) (s / (2 : Int)) == v && (zi (newE s) (-1 : Int) == f && true))))) then
          kk (SV.int IntKind.i64 (2 : Int))
        else kk (SV.int IntKind.i64 (0 : Int))
    else
      bif !(isT f && (isT l && (isT m && (isT s && isT v)))) then kk (SV.int IntKind.i64 (2 : Int))
      else
        bif decide ((if s < l then s else l) < m) then kk (SV.int IntKind.i64 (2 : Int))
        else kk (SV.int IntKind.i64 (0 : Int))) := by kernel_rfl
theorem t22 (l m s v f : Int) (kk : SV → Prop) : evalF C1 64 Try.f22 [.agg [.int .i64 l, .int .i64 m, .int .i64 s, .int .i64 v, .int .i64 f]] [] (fun v _ => kk v) = (
    bif f == (-1 : Int) then
      bif l != (0 : Int) then kk (SV.int IntKind.i64 (2 : Int))
      else
        bif m != (0 : Int) then kk (SV.int IntKind.i64 (2 : Int))
        else
          bif decide (s < (1000000 : Int)) then kk (SV.int IntKind.i64 (2 : Int))
          else
            bif decide ((60000000000 : Int) < s) then kk (SV.int IntKind.i64 (2 : Int))
            else
              bif v != IntKind.i64.wrap (s.tdiv (2 : Int)) then kk (SV.int IntKind.i64 (2 : Int))
              else kk (SV.int IntKind.i64 (0 : Int))
    else
      bif !isT f then kk (SV.int IntKind.i64 (2 : Int))
      else
        bif !isT l then kk (SV.int IntKind.i64 (2 : Int))
        else
          bif !isT m then kk (SV.int IntKind.i64 (2 : Int))
          else
            bif !isT s then kk (SV.int IntKind.i64 (2 : Int))
            else
              bif !isT v then kk (SV.int IntKind.i64 (2 : Int))
              else
                bif decide (l < m) then kk (SV.int IntKind.i64 (2 : Int))
                else bif decide (s < m) then kk (SV.int IntKind.i64 (2 : Int)) else kk (SV.int IntKind.i64 (0 : Int))) := by kernel_rfl
theorem t23 (l m s v f : Int) (kk : SV → Prop) : evalF C2 64 Try.f23 [.agg [.int .i64 l, .int .i64 m, .int .i64 s, .int .i64 v, .int .i64 f]] [] (fun v _ => kk v) = (
    bif chkE l m s v f != (0 : Int) then kk (SV.int IntKind.i64 (0 : Int))
    else kk (SV.int IntKind.i64 (if l > s then l else s))) := by kernel_rfl
theorem t24 (l m s v f : Int) (kk : SV → Prop) : evalF C2 64 Try.f24 [.agg [.int .i64 l, .int .i64 m, .int .i64 s, .int .i64 v, .int .i64 f]] [] (fun v _ => kk v) = (
    bif chkE l m s v f != (0 : Int) then kk (SV.int IntKind.i64 (0 : Int))
    else kk (SV.int IntKind.i64 (if l > s then l else s))) := by kernel_rfl
theorem t16 (l m s v f x d n : Int) (kk : SV → Prop) : evalF C2 64 Try.f16 [.agg [.int .i64 l, .int .i64 m, .int .i64 s, .int .i64 v, .int .i64 f], .int .i64 x, .int .i64 d, .int .i64 n] [] (fun v _ => kk v) = (
    bif chkE l m s v f != (0 : Int) then
      kk
        (SV.tuple
          [SV.agg
              [SV.int IntKind.i64 (0 : Int), SV.int IntKind.i64 (0 : Int), SV.int IntKind.i64 (0 : Int),
                SV.int IntKind.i64 (0 : Int), SV.int IntKind.i64 (0 : Int)],
            SV.int IntKind.i64 (chkE l m s v f)])
    else
      bif !(isT x && (isT d && isT n)) then
        kk
          (SV.tuple
            [SV.agg
                [SV.int IntKind.i64 (0 : Int), SV.int IntKind.i64 (0 : Int), SV.int IntKind.i64 (0 : Int),
                  SV.int IntKind.i64 (0 : Int), SV.int IntKind.i64 (0 : Int)],
              SV.int IntKind.i64 (9 : Int)])
      else
        bif f == (-1 : Int) then
          Tm x ∧
            kk
              (SV.tuple
                [SV.agg
                    [SV.int IntKind.i64 x, SV.int IntKind.i64 x, SV.int IntKind.i64 x, SV.int IntKind.i64 (x / (2 : Int)),
                      SV.int IntKind.i64 n],
                  SV.int IntKind.i64 (0 : Int)])
        else
          Times m s v x d ∧
            kk
              (SV.tuple
                [SV.agg
                    [SV.int IntKind.i64 x, SV.int IntKind.i64 (mnI m x),
                      SV.int IntKind.i64 (((7 : Int) * s + cnt m x d) / (8 : Int)),
                      SV.int IntKind.i64 (((3 : Int) * v + absI (s - cnt m x d)) / (4 : Int)), SV.int IntKind.i64 f],
                  SV.int IntKind.i64 (0 : Int)])) := by kernel_rfl
theorem t17 (l m s v f x d n : Int) (kk : SV → Prop) : evalF C2 64 Try.f17 [.agg [.int .i64 l, .int .i64 m, .int .i64 s, .int .i64 v, .int .i64 f], .int .i64 x, .int .i64 d, .int .i64 n] [] (fun v _ => kk v) = (
    bif chkE l m s v f != (0 : Int) then
      kk
        (SV.tuple
          [SV.agg
              [SV.int IntKind.i64 (0 : Int), SV.int IntKind.i64 (0 : Int), SV.int IntKind.i64 (0 : Int),
                SV.int IntKind.i64 (0 : Int), SV.int IntKind.i64 (0 : Int)],
            SV.int IntKind.i64 (chkE l m s v f)])
    else
      bif !isT x then
        kk
          (SV.tuple
            [SV.agg
                [SV.int IntKind.i64 (0 : Int), SV.int IntKind.i64 (0 : Int), SV.int IntKind.i64 (0 : Int),
                  SV.int IntKind.i64 (0 : Int), SV.int IntKind.i64 (0 : Int)],
              SV.int IntKind.i64 (9 : Int)])
      else
        bif !isT d then
          kk
            (SV.tuple
              [SV.agg
                  [SV.int IntKind.i64 (0 : Int), SV.int IntKind.i64 (0 : Int), SV.int IntKind.i64 (0 : Int),
                    SV.int IntKind.i64 (0 : Int), SV.int IntKind.i64 (0 : Int)],
                SV.int IntKind.i64 (9 : Int)])
        else
          bif !isT n then
            kk
              (SV.tuple
                [SV.agg
                    [SV.int IntKind.i64 (0 : Int), SV.int IntKind.i64 (0 : Int), SV.int IntKind.i64 (0 : Int),
                      SV.int IntKind.i64 (0 : Int), SV.int IntKind.i64 (0 : Int)],
                  SV.int IntKind.i64 (9 : Int)])
          else
            bif f == (-1 : Int) then
              kk
                (SV.tuple
                  [SV.agg
                      [SV.int IntKind.i64 x, SV.int IntKind.i64 x, SV.int IntKind.i64 x,
                        SV.int IntKind.i64 (IntKind.i64.wrap (x.tdiv (2 : Int))), SV.int IntKind.i64 n],
                    SV.int IntKind.i64 (0 : Int)])
            else
              bif decide (IntKind.i64.wrap ((if x < m then x else m) + d) ≤ x) then
                kk
                  (SV.tuple
                    [SV.agg
                        [SV.int IntKind.i64 x, SV.int IntKind.i64 (if x < m then x else m),
                          SV.int IntKind.i64
                            (IntKind.i64.wrap
                              ((IntKind.i64.wrap (IntKind.i64.wrap ((7 : Int) * s) + IntKind.i64.wrap (x - d))).tdiv
                                (8 : Int))),
                          SV.int IntKind.i64
                            (IntKind.i64.wrap
                              ((IntKind.i64.wrap
                                    (IntKind.i64.wrap ((3 : Int) * v) +
                                      if
                                          IntKind.i64.wrap (IntKind.i64.wrap (x - d) - s) >
                                            IntKind.i64.wrap (s - IntKind.i64.wrap (x - d)) then
                                        IntKind.i64.wrap (IntKind.i64.wrap (x - d) - s)
                                      else IntKind.i64.wrap (s - IntKind.i64.wrap (x - d)))).tdiv
                                (4 : Int))),
                          SV.int IntKind.i64 f],
                      SV.int IntKind.i64 (0 : Int)])
              else
                kk
                  (SV.tuple
                    [SV.agg
                        [SV.int IntKind.i64 x, SV.int IntKind.i64 (if x < m then x else m),
                          SV.int IntKind.i64
                            (IntKind.i64.wrap ((IntKind.i64.wrap (IntKind.i64.wrap ((7 : Int) * s) + x)).tdiv (8 : Int))),
                          SV.int IntKind.i64
                            (IntKind.i64.wrap
                              ((IntKind.i64.wrap
                                    (IntKind.i64.wrap ((3 : Int) * v) +
                                      if IntKind.i64.wrap (x - s) > IntKind.i64.wrap (s - x) then IntKind.i64.wrap (x - s)
                                      else IntKind.i64.wrap (s - x))).tdiv
                                (4 : Int))),
                          SV.int IntKind.i64 f],
                      SV.int IntKind.i64 (0 : Int)])) := by kernel_rfl
theorem t12 (d m : Int) (k : Bool) (kk : SV → Prop) : evalF C1 64 Try.f12 [.int .i64 d, .int .i64 m, .bool k] [] (fun v _ => kk v) = (
    bif k then kk (SV.int IntKind.i64 (if timeV m < timeV d then timeV m else timeV d))
    else kk (SV.int IntKind.i64 (timeV d))) := by kernel_rfl
theorem t13  (kk : SV → Prop) : evalF C3 64 Try.f13 [] [] (fun v _ => kk v) = (
    kk (SV.bool true)) := by kernel_rfl
end Go.Proofs.Ytepmbiahnicooaa
