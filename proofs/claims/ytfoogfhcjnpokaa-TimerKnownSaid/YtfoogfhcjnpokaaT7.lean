/-
  What functions of the program come to, way by way: printed by a program, held by the kernel.
-/
import Derived.Test.YtfoogfhcjnpokaaX7
namespace Go.Proofs.Ytfoogfhcjnpokaa
open Go.RowKit
set_option maxRecDepth 100000

theorem t35 (l m s v f i d c mo : Int) (kk : SV → Prop) : evalF C4 64 Try.f35 [rtt l m s v f, .int .i64 i, .agg [.int .i64 d, .int .i64 c, .int .i64 mo]] [] (fun v _ => kk v) = (
    kk (SV.int IntKind.i64 (backV (baseV l m s v f i d) c mo))) := by kernel_rfl
theorem p17a0 (F : Fc) (l m s v f d c mo : Int) (Kt : KT) : evalC C7 0  0 c17_0 (enterS 146 [fc F, rtt l m s v f, .int .i64 d, .int .i64 c, .int .i64 mo]) [] ( obsN (2 :: 3 :: 4 :: L17) [true, true, true] Kt) = (
    Kt Ex.normal (146 : Nat)
      [SV.int IntKind.i64 d, SV.int IntKind.i64 c, SV.int IntKind.i64 mo, SV.ptr (0 : Nat) (0 : Nat) (16 : Nat) (0 : Nat),
        SV.ptr (1 : Nat) (0 : Nat) (5 : Nat) (0 : Nat), SV.ptr (2 : Nat) (0 : Nat) (3 : Nat) (0 : Nat), SV.top, SV.top,
        SV.top, SV.top, SV.top]
      [BO.rows (16 : Nat) (1 : Nat) true (52 : Nat)
          [[SV.bool F.k0, SV.int IntKind.i64 F.a0, SV.int IntKind.i64 F.b0, SV.int IntKind.i64 F.n0, SV.bool F.k1,
              SV.int IntKind.i64 F.a1, SV.int IntKind.i64 F.b1, SV.int IntKind.i64 F.n1, SV.bool F.k2,
              SV.int IntKind.i64 F.a2, SV.int IntKind.i64 F.b2, SV.int IntKind.i64 F.n2, SV.bool F.cf, SV.bool F.lm,
              SV.bool F.pr, SV.int IntKind.i64 F.now]],
        BO.rows (5 : Nat) (1 : Nat) true (41 : Nat)
          [[SV.int IntKind.i64 l, SV.int IntKind.i64 m, SV.int IntKind.i64 s, SV.int IntKind.i64 v, SV.int IntKind.i64 f]],
        BO.rows (3 : Nat) (1 : Nat) true (47 : Nat)
          [[SV.int IntKind.i64 (0 : Int), SV.int IntKind.i64 (0 : Int), SV.int IntKind.i64 (0 : Int)]]]) := by kernel_rfl
theorem p17a1 (F : Fc) (l m s v f d c mo : Int) (Kt : KT) (kr : SV → Prop) : evalC C7 0  0 c17_1 (tplF 146 (2 :: 3 :: 4 :: L17) (.int .i64 d :: .int .i64 c :: .int .i64 mo :: v17a)) ((h17a F l m s v f).map mkB) ( obsE Try.prog Try.f17.results.toList (2 :: 3 :: 4 :: L17) [true, true, true] Kt kr) = (
    bif !mayF (Fc.mk F.k0 F.a0 F.b0 F.n0 F.k1 F.a1 F.b1 F.n1 F.k2 F.a2 F.b2 F.n2 F.cf F.lm F.pr F.now) then
      kr (SV.agg [SV.int IntKind.i64 (0 : Int), SV.int IntKind.i64 (0 : Int), SV.int IntKind.i64 (-1 : Int)])
    else
      bif chkE l m s v f != (0 : Int) then
        kr (SV.agg [SV.int IntKind.i64 (0 : Int), SV.int IntKind.i64 (0 : Int), SV.int IntKind.i64 (-1 : Int)])
      else
        Kt Ex.normal (146 : Nat)
          [SV.int IntKind.i64 d, SV.int IntKind.i64 c, SV.int IntKind.i64 mo,
            SV.ptr (0 : Nat) (0 : Nat) (16 : Nat) (0 : Nat), SV.ptr (1 : Nat) (0 : Nat) (5 : Nat) (0 : Nat),
            SV.ptr (2 : Nat) (0 : Nat) (3 : Nat) (0 : Nat), SV.top, SV.top, SV.top, SV.top, SV.top]
          [BO.rows (16 : Nat) (1 : Nat) true (52 : Nat)
              [[SV.bool F.k0, SV.int IntKind.i64 F.a0, SV.int IntKind.i64 F.b0, SV.int IntKind.i64 F.n0, SV.bool F.k1,
                  SV.int IntKind.i64 F.a1, SV.int IntKind.i64 F.b1, SV.int IntKind.i64 F.n1, SV.bool F.k2,
                  SV.int IntKind.i64 F.a2, SV.int IntKind.i64 F.b2, SV.int IntKind.i64 F.n2, SV.bool F.cf, SV.bool F.lm,
                  SV.bool F.pr, SV.int IntKind.i64 F.now]],
            BO.rows (5 : Nat) (1 : Nat) true (41 : Nat)
              [[SV.int IntKind.i64 l, SV.int IntKind.i64 m, SV.int IntKind.i64 s, SV.int IntKind.i64 v,
                  SV.int IntKind.i64 f]],
            BO.rows (3 : Nat) (1 : Nat) true (47 : Nat)
              [[SV.int IntKind.i64 (0 : Int), SV.int IntKind.i64 (0 : Int), SV.int IntKind.i64 (0 : Int)]]]) := by kernel_rfl
theorem p17a2 (F : Fc) (l m s v f d c mo : Int) (Kt : KT) : evalC C7 0  0 (.seq c17_2 (.seq c17_3 .skip)) (tplF 146 (2 :: 3 :: 4 :: L17) (.int .i64 d :: .int .i64 c :: .int .i64 mo :: v17a)) ((h17a F l m s v f).map mkB) ( obsN L17 M17 Kt) = (
    Kt Ex.normal (146 : Nat)
      [SV.ptr (0 : Nat) (0 : Nat) (16 : Nat) (0 : Nat), SV.ptr (1 : Nat) (0 : Nat) (5 : Nat) (0 : Nat),
        SV.ptr (2 : Nat) (0 : Nat) (3 : Nat) (0 : Nat), SV.ptr (3 : Nat) (0 : Nat) (3 : Nat) (0 : Nat),
        SV.ptr (4 : Nat) (0 : Nat) (3 : Nat) (0 : Nat), SV.top, SV.top, SV.top]
      [BO.rows (16 : Nat) (1 : Nat) true (52 : Nat)
          [[SV.bool F.k0, SV.int IntKind.i64 F.a0, SV.int IntKind.i64 F.b0, SV.int IntKind.i64 F.n0, SV.bool F.k1,
              SV.int IntKind.i64 F.a1, SV.int IntKind.i64 F.b1, SV.int IntKind.i64 F.n1, SV.bool F.k2,
              SV.int IntKind.i64 F.a2, SV.int IntKind.i64 F.b2, SV.int IntKind.i64 F.n2, SV.bool F.cf, SV.bool F.lm,
              SV.bool F.pr, SV.int IntKind.i64 F.now]],
        BO.rows (5 : Nat) (1 : Nat) true (41 : Nat)
          [[SV.int IntKind.i64 l, SV.int IntKind.i64 m, SV.int IntKind.i64 s, SV.int IntKind.i64 v, SV.int IntKind.i64 f]],
        BO.rows (3 : Nat) (1 : Nat) true (47 : Nat)
          [[SV.int IntKind.i64 (0 : Int), SV.int IntKind.i64 (0 : Int), SV.int IntKind.i64 (0 : Int)]],
        BO.rows (3 : Nat) (1 : Nat) true (76 : Nat) [[SV.int IntKind.i64 d, SV.int IntKind.i64 c, SV.int IntKind.i64 mo]],
        BO.rows (3 : Nat) (1 : Nat) true (47 : Nat)
          [[SV.int IntKind.i64 (0 : Int), SV.int IntKind.i64 (0 : Int), SV.int IntKind.i64 (-1 : Int)]]]) := by kernel_rfl
theorem p17b (F : Fc) (l m s v f d c mo : Int) (x y z : Int) (Kt : KT) : evalC C7 0  0 c17_4a (tplF 146 L17 (v17 .top .top .top)) ((h17 F l m s v f d c mo (x, y, z)).map mkB) ( obsN L17 M17 Kt) = (
    Kt Ex.normal (146 : Nat)
      [SV.ptr (0 : Nat) (0 : Nat) (16 : Nat) (0 : Nat), SV.ptr (1 : Nat) (0 : Nat) (5 : Nat) (0 : Nat),
        SV.ptr (2 : Nat) (0 : Nat) (3 : Nat) (0 : Nat), SV.ptr (3 : Nat) (0 : Nat) (3 : Nat) (0 : Nat),
        SV.ptr (4 : Nat) (0 : Nat) (3 : Nat) (0 : Nat), SV.int IntKind.i64 (0 : Int), SV.top, SV.top]
      [BO.rows (16 : Nat) (1 : Nat) true (52 : Nat)
          [[SV.bool F.k0, SV.int IntKind.i64 F.a0, SV.int IntKind.i64 F.b0, SV.int IntKind.i64 F.n0, SV.bool F.k1,
              SV.int IntKind.i64 F.a1, SV.int IntKind.i64 F.b1, SV.int IntKind.i64 F.n1, SV.bool F.k2,
              SV.int IntKind.i64 F.a2, SV.int IntKind.i64 F.b2, SV.int IntKind.i64 F.n2, SV.bool F.cf, SV.bool F.lm,
              SV.bool F.pr, SV.int IntKind.i64 F.now]],
        BO.rows (5 : Nat) (1 : Nat) true (41 : Nat)
          [[SV.int IntKind.i64 l, SV.int IntKind.i64 m, SV.int IntKind.i64 s, SV.int IntKind.i64 v, SV.int IntKind.i64 f]],
        BO.rows (3 : Nat) (1 : Nat) true (47 : Nat)
          [[SV.int IntKind.i64 (0 : Int), SV.int IntKind.i64 (0 : Int), SV.int IntKind.i64 (0 : Int)]],
        BO.rows (3 : Nat) (1 : Nat) true (76 : Nat) [[SV.int IntKind.i64 d, SV.int IntKind.i64 c, SV.int IntKind.i64 mo]],
        BO.rows (3 : Nat) (1 : Nat) true (47 : Nat) [[SV.int IntKind.i64 x, SV.int IntKind.i64 y, SV.int IntKind.i64 z]]]) := by kernel_rfl
theorem p17b0 (F : Fc) (l m s v f d c mo : Int) (x y z : Int) (Kt : KT) : evalC C7 0  0 c17_4b (tplF 146 L17 (v17 (.int .i64 0) .top .top)) ((h17 F l m s v f d c mo (x, y, z)).map mkB) ( obsN L17 M17 Kt) = (
    bif F.a0 != (-1 : Int) then
      bif z == (-1 : Int) then
        Kt Ex.normal (146 : Nat)
          [SV.ptr (0 : Nat) (0 : Nat) (16 : Nat) (0 : Nat), SV.ptr (1 : Nat) (0 : Nat) (5 : Nat) (0 : Nat),
            SV.ptr (2 : Nat) (0 : Nat) (3 : Nat) (0 : Nat), SV.ptr (3 : Nat) (0 : Nat) (3 : Nat) (0 : Nat),
            SV.ptr (4 : Nat) (0 : Nat) (3 : Nat) (0 : Nat), SV.int IntKind.i64 (1 : Int), SV.top, SV.top]
          [BO.rows (16 : Nat) (1 : Nat) true (52 : Nat)
              [[SV.bool F.k0, SV.int IntKind.i64 F.a0, SV.int IntKind.i64 F.b0, SV.int IntKind.i64 F.n0, SV.bool F.k1,
                  SV.int IntKind.i64 F.a1, SV.int IntKind.i64 F.b1, SV.int IntKind.i64 F.n1, SV.bool F.k2,
                  SV.int IntKind.i64 F.a2, SV.int IntKind.i64 F.b2, SV.int IntKind.i64 F.n2, SV.bool F.cf, SV.bool F.lm,
                  SV.bool F.pr, SV.int IntKind.i64 F.now]],
            BO.rows (5 : Nat) (1 : Nat) true (41 : Nat)
              [[SV.int IntKind.i64 l, SV.int IntKind.i64 m, SV.int IntKind.i64 s, SV.int IntKind.i64 v,
                  SV.int IntKind.i64 f]],
            BO.rows (3 : Nat) (1 : Nat) true (47 : Nat)
              [[SV.int IntKind.i64 (0 : Int), SV.int IntKind.i64 (0 : Int), SV.int IntKind.i64 (0 : Int)]],
            BO.rows (3 : Nat) (1 : Nat) true (76 : Nat)
              [[SV.int IntKind.i64 d, SV.int IntKind.i64 c, SV.int IntKind.i64 mo]],
            BO.rows (3 : Nat) (1 : Nat) true (47 : Nat)
              [[SV.int IntKind.i64 (1 : Int), SV.int IntKind.i64 (0 : Int), SV.int IntKind.i64 F.a0]]]
      else
        bif decide (F.a0 < z) then
          Kt Ex.normal (146 : Nat)
            [SV.ptr (0 : Nat) (0 : Nat) (16 : Nat) (0 : Nat), SV.ptr (1 : Nat) (0 : Nat) (5 : Nat) (0 : Nat),
              SV.ptr (2 : Nat) (0 : Nat) (3 : Nat) (0 : Nat), SV.ptr (3 : Nat) (0 : Nat) (3 : Nat) (0 : Nat),
              SV.ptr (4 : Nat) (0 : Nat) (3 : Nat) (0 : Nat), SV.int IntKind.i64 (1 : Int), SV.top, SV.top]
            [BO.rows (16 : Nat) (1 : Nat) true (52 : Nat)
                [[SV.bool F.k0, SV.int IntKind.i64 F.a0, SV.int IntKind.i64 F.b0, SV.int IntKind.i64 F.n0, SV.bool F.k1,
                    SV.int IntKind.i64 F.a1, SV.int IntKind.i64 F.b1, SV.int IntKind.i64 F.n1, SV.bool F.k2,
                    SV.int IntKind.i64 F.a2, SV.int IntKind.i64 F.b2, SV.int IntKind.i64 F.n2, SV.bool F.cf, SV.bool F.lm,
                    SV.bool F.pr, SV.int IntKind.i64 F.now]],
              BO.rows (5 : Nat) (1 : Nat) true (41 : Nat)
                [[SV.int IntKind.i64 l, SV.int IntKind.i64 m, SV.int IntKind.i64 s, SV.int IntKind.i64 v,
                    SV.int IntKind.i64 f]],
              BO.rows (3 : Nat) (1 : Nat) true (47 : Nat)
                [[SV.int IntKind.i64 (0 : Int), SV.int IntKind.i64 (0 : Int), SV.int IntKind.i64 (0 : Int)]],
              BO.rows (3 : Nat) (1 : Nat) true (76 : Nat)
                [[SV.int IntKind.i64 d, SV.int IntKind.i64 c, SV.int IntKind.i64 mo]],
              BO.rows (3 : Nat) (1 : Nat) true (47 : Nat)
                [[SV.int IntKind.i64 (1 : Int), SV.int IntKind.i64 (0 : Int), SV.int IntKind.i64 F.a0]]]
        else
          Kt Ex.normal (146 : Nat)
            [SV.ptr (0 : Nat) (0 : Nat) (16 : Nat) (0 : Nat), SV.ptr (1 : Nat) (0 : Nat) (5 : Nat) (0 : Nat),
              SV.ptr (2 : Nat) (0 : Nat) (3 : Nat) (0 : Nat), SV.ptr (3 : Nat) (0 : Nat) (3 : Nat) (0 : Nat),
              SV.ptr (4 : Nat) (0 : Nat) (3 : Nat) (0 : Nat), SV.int IntKind.i64 (1 : Int), SV.top, SV.top]
            [BO.rows (16 : Nat) (1 : Nat) true (52 : Nat)
                [[SV.bool F.k0, SV.int IntKind.i64 F.a0, SV.int IntKind.i64 F.b0, SV.int IntKind.i64 F.n0, SV.bool F.k1,
                    SV.int IntKind.i64 F.a1, SV.int IntKind.i64 F.b1, SV.int IntKind.i64 F.n1, SV.bool F.k2,
                    SV.int IntKind.i64 F.a2, SV.int IntKind.i64 F.b2, SV.int IntKind.i64 F.n2, SV.bool F.cf, SV.bool F.lm,
                    SV.bool F.pr, SV.int IntKind.i64 F.now]],
              BO.rows (5 : Nat) (1 : Nat) true (41 : Nat)
                [[SV.int IntKind.i64 l, SV.int IntKind.i64 m, SV.int IntKind.i64 s, SV.int IntKind.i64 v,
                    SV.int IntKind.i64 f]],
              BO.rows (3 : Nat) (1 : Nat) true (47 : Nat)
                [[SV.int IntKind.i64 (0 : Int), SV.int IntKind.i64 (0 : Int), SV.int IntKind.i64 (0 : Int)]],
              BO.rows (3 : Nat) (1 : Nat) true (76 : Nat)
                [[SV.int IntKind.i64 d, SV.int IntKind.i64 c, SV.int IntKind.i64 mo]],
              BO.rows (3 : Nat) (1 : Nat) true (47 : Nat)
                [[SV.int IntKind.i64 x, SV.int IntKind.i64 y, SV.int IntKind.i64 z]]]
    else
      Kt Ex.normal (146 : Nat)
        [SV.ptr (0 : Nat) (0 : Nat) (16 : Nat) (0 : Nat), SV.ptr (1 : Nat) (0 : Nat) (5 : Nat) (0 : Nat),
          SV.ptr (2 : Nat) (0 : Nat) (3 : Nat) (0 : Nat), SV.ptr (3 : Nat) (0 : Nat) (3 : Nat) (0 : Nat),
          SV.ptr (4 : Nat) (0 : Nat) (3 : Nat) (0 : Nat), SV.int IntKind.i64 (1 : Int), SV.top, SV.top]
        [BO.rows (16 : Nat) (1 : Nat) true (52 : Nat)
            [[SV.bool F.k0, SV.int IntKind.i64 F.a0, SV.int IntKind.i64 F.b0, SV.int IntKind.i64 F.n0, SV.bool F.k1,
                SV.int IntKind.i64 F.a1, SV.int IntKind.i64 F.b1, SV.int IntKind.i64 F.n1, SV.bool F.k2,
                SV.int IntKind.i64 F.a2, SV.int IntKind.i64 F.b2, SV.int IntKind.i64 F.n2, SV.bool F.cf, SV.bool F.lm,
                SV.bool F.pr, SV.int IntKind.i64 F.now]],
          BO.rows (5 : Nat) (1 : Nat) true (41 : Nat)
            [[SV.int IntKind.i64 l, SV.int IntKind.i64 m, SV.int IntKind.i64 s, SV.int IntKind.i64 v,
                SV.int IntKind.i64 f]],
          BO.rows (3 : Nat) (1 : Nat) true (47 : Nat)
            [[SV.int IntKind.i64 (0 : Int), SV.int IntKind.i64 (0 : Int), SV.int IntKind.i64 (0 : Int)]],
          BO.rows (3 : Nat) (1 : Nat) true (76 : Nat) [[SV.int IntKind.i64 d, SV.int IntKind.i64 c, SV.int IntKind.i64 mo]],
          BO.rows (3 : Nat) (1 : Nat) true (47 : Nat) [[SV.int IntKind.i64 x, SV.int IntKind.i64 y, SV.int IntKind.i64 z]]]) := by kernel_rfl
theorem p17b1 (F : Fc) (l m s v f d c mo : Int) (x y z : Int) (Kt : KT) : evalC C7 0  0 c17_4b (tplF 146 L17 (v17 (.int .i64 1) .top .top)) ((h17 F l m s v f d c mo (x, y, z)).map mkB) ( obsN L17 M17 Kt) = (
    bif F.a1 != (-1 : Int) then
      bif z == (-1 : Int) then
        Kt Ex.normal (146 : Nat)
          [SV.ptr (0 : Nat) (0 : Nat) (16 : Nat) (0 : Nat), SV.ptr (1 : Nat) (0 : Nat) (5 : Nat) (0 : Nat),
            SV.ptr (2 : Nat) (0 : Nat) (3 : Nat) (0 : Nat), SV.ptr (3 : Nat) (0 : Nat) (3 : Nat) (0 : Nat),
            SV.ptr (4 : Nat) (0 : Nat) (3 : Nat) (0 : Nat), SV.int IntKind.i64 (2 : Int), SV.top, SV.top]
          [BO.rows (16 : Nat) (1 : Nat) true (52 : Nat)
              [[SV.bool F.k0, SV.int IntKind.i64 F.a0, SV.int IntKind.i64 F.b0, SV.int IntKind.i64 F.n0, SV.bool F.k1,
                  SV.int IntKind.i64 F.a1, SV.int IntKind.i64 F.b1, SV.int IntKind.i64 F.n1, SV.bool F.k2,
                  SV.int IntKind.i64 F.a2, SV.int IntKind.i64 F.b2, SV.int IntKind.i64 F.n2, SV.bool F.cf, SV.bool F.lm,
                  SV.bool F.pr, SV.int IntKind.i64 F.now]],
            BO.rows (5 : Nat) (1 : Nat) true (41 : Nat)
              [[SV.int IntKind.i64 l, SV.int IntKind.i64 m, SV.int IntKind.i64 s, SV.int IntKind.i64 v,
                  SV.int IntKind.i64 f]],
            BO.rows (3 : Nat) (1 : Nat) true (47 : Nat)
              [[SV.int IntKind.i64 (0 : Int), SV.int IntKind.i64 (0 : Int), SV.int IntKind.i64 (0 : Int)]],
            BO.rows (3 : Nat) (1 : Nat) true (76 : Nat)
              [[SV.int IntKind.i64 d, SV.int IntKind.i64 c, SV.int IntKind.i64 mo]],
            BO.rows (3 : Nat) (1 : Nat) true (47 : Nat)
              [[SV.int IntKind.i64 (1 : Int), SV.int IntKind.i64 (1 : Int), SV.int IntKind.i64 F.a1]]]
      else
        bif decide (F.a1 < z) then
          Kt Ex.normal (146 : Nat)
            [SV.ptr (0 : Nat) (0 : Nat) (16 : Nat) (0 : Nat), SV.ptr (1 : Nat) (0 : Nat) (5 : Nat) (0 : Nat),
              SV.ptr (2 : Nat) (0 : Nat) (3 : Nat) (0 : Nat), SV.ptr (3 : Nat) (0 : Nat) (3 : Nat) (0 : Nat),
              SV.ptr (4 : Nat) (0 : Nat) (3 : Nat) (0 : Nat), SV.int IntKind.i64 (2 : Int), SV.top, SV.top]
            [BO.rows (16 : Nat) (1 : Nat) true (52 : Nat)
                [[SV.bool F.k0, SV.int IntKind.i64 F.a0, SV.int IntKind.i64 F.b0, SV.int IntKind.i64 F.n0, SV.bool F.k1,
                    SV.int IntKind.i64 F.a1, SV.int IntKind.i64 F.b1, SV.int IntKind.i64 F.n1, SV.bool F.k2,
                    SV.int IntKind.i64 F.a2, SV.int IntKind.i64 F.b2, SV.int IntKind.i64 F.n2, SV.bool F.cf, SV.bool F.lm,
                    SV.bool F.pr, SV.int IntKind.i64 F.now]],
              BO.rows (5 : Nat) (1 : Nat) true (41 : Nat)
                [[SV.int IntKind.i64 l, SV.int IntKind.i64 m, SV.int IntKind.i64 s, SV.int IntKind.i64 v,
                    SV.int IntKind.i64 f]],
              BO.rows (3 : Nat) (1 : Nat) true (47 : Nat)
                [[SV.int IntKind.i64 (0 : Int), SV.int IntKind.i64 (0 : Int), SV.int IntKind.i64 (0 : Int)]],
              BO.rows (3 : Nat) (1 : Nat) true (76 : Nat)
                [[SV.int IntKind.i64 d, SV.int IntKind.i64 c, SV.int IntKind.i64 mo]],
              BO.rows (3 : Nat) (1 : Nat) true (47 : Nat)
                [[SV.int IntKind.i64 (1 : Int), SV.int IntKind.i64 (1 : Int), SV.int IntKind.i64 F.a1]]]
        else
          Kt Ex.normal (146 : Nat)
            [SV.ptr (0 : Nat) (0 : Nat) (16 : Nat) (0 : Nat), SV.ptr (1 : Nat) (0 : Nat) (5 : Nat) (0 : Nat),
              SV.ptr (2 : Nat) (0 : Nat) (3 : Nat) (0 : Nat), SV.ptr (3 : Nat) (0 : Nat) (3 : Nat) (0 : Nat),
              SV.ptr (4 : Nat) (0 : Nat) (3 : Nat) (0 : Nat), SV.int IntKind.i64 (2 : Int), SV.top, SV.top]
            [BO.rows (16 : Nat) (1 : Nat) true (52 : Nat)
                [[SV.bool F.k0, SV.int IntKind.i64 F.a0, SV.int IntKind.i64 F.b0, SV.int IntKind.i64 F.n0, SV.bool F.k1,
                    SV.int IntKind.i64 F.a1, SV.int IntKind.i64 F.b1, SV.int IntKind.i64 F.n1, SV.bool F.k2,
                    SV.int IntKind.i64 F.a2, SV.int IntKind.i64 F.b2, SV.int IntKind.i64 F.n2, SV.bool F.cf, SV.bool F.lm,
                    SV.bool F.pr, SV.int IntKind.i64 F.now]],
              BO.rows (5 : Nat) (1 : Nat) true (41 : Nat)
                [[SV.int IntKind.i64 l, SV.int IntKind.i64 m, SV.int IntKind.i64 s, SV.int IntKind.i64 v,
                    SV.int IntKind.i64 f]],
              BO.rows (3 : Nat) (1 : Nat) true (47 : Nat)
                [[SV.int IntKind.i64 (0 : Int), SV.int IntKind.i64 (0 : Int), SV.int IntKind.i64 (0 : Int)]],
              BO.rows (3 : Nat) (1 : Nat) true (76 : Nat)
                [[SV.int IntKind.i64 d, SV.int IntKind.i64 c, SV.int IntKind.i64 mo]],
              BO.rows (3 : Nat) (1 : Nat) true (47 : Nat)
                [[SV.int IntKind.i64 x, SV.int IntKind.i64 y, SV.int IntKind.i64 z]]]
    else
      Kt Ex.normal (146 : Nat)
        [SV.ptr (0 : Nat) (0 : Nat) (16 : Nat) (0 : Nat), SV.ptr (1 : Nat) (0 : Nat) (5 : Nat) (0 : Nat),
          SV.ptr (2 : Nat) (0 : Nat) (3 : Nat) (0 : Nat), SV.ptr (3 : Nat) (0 : Nat) (3 : Nat) (0 : Nat),
          SV.ptr (4 : Nat) (0 : Nat) (3 : Nat) (0 : Nat), SV.int IntKind.i64 (2 : Int), SV.top, SV.top]
        [BO.rows (16 : Nat) (1 : Nat) true (52 : Nat)
            [[SV.bool F.k0, SV.int IntKind.i64 F.a0, SV.int IntKind.i64 F.b0, SV.int IntKind.i64 F.n0, SV.bool F.k1,
                SV.int IntKind.i64 F.a1, SV.int IntKind.i64 F.b1, SV.int IntKind.i64 F.n1, SV.bool F.k2,
                SV.int IntKind.i64 F.a2, SV.int IntKind.i64 F.b2, SV.int IntKind.i64 F.n2, SV.bool F.cf, SV.bool F.lm,
                SV.bool F.pr, SV.int IntKind.i64 F.now]],
          BO.rows (5 : Nat) (1 : Nat) true (41 : Nat)
            [[SV.int IntKind.i64 l, SV.int IntKind.i64 m, SV.int IntKind.i64 s, SV.int IntKind.i64 v,
                SV.int IntKind.i64 f]],
          BO.rows (3 : Nat) (1 : Nat) true (47 : Nat)
            [[SV.int IntKind.i64 (0 : Int), SV.int IntKind.i64 (0 : Int), SV.int IntKind.i64 (0 : Int)]],
          BO.rows (3 : Nat) (1 : Nat) true (76 : Nat) [[SV.int IntKind.i64 d, SV.int IntKind.i64 c, SV.int IntKind.i64 mo]],
          BO.rows (3 : Nat) (1 : Nat) true (47 : Nat) [[SV.int IntKind.i64 x, SV.int IntKind.i64 y, SV.int IntKind.i64 z]]]) := by kernel_rfl
theorem p17b2 (F : Fc) (l m s v f d c mo : Int) (x y z : Int) (Kt : KT) : evalC C7 0  0 c17_4b (tplF 146 L17 (v17 (.int .i64 2) .top .top)) ((h17 F l m s v f d c mo (x, y, z)).map mkB) ( obsN L17 M17 Kt) = (
    bif F.a2 != (-1 : Int) then
      bif z == (-1 : Int) then
        Kt Ex.normal (146 : Nat)
          [SV.ptr (0 : Nat) (0 : Nat) (16 : Nat) (0 : Nat), SV.ptr (1 : Nat) (0 : Nat) (5 : Nat) (0 : Nat),
            SV.ptr (2 : Nat) (0 : Nat) (3 : Nat) (0 : Nat), SV.ptr (3 : Nat) (0 : Nat) (3 : Nat) (0 : Nat),
            SV.ptr (4 : Nat) (0 : Nat) (3 : Nat) (0 : Nat), SV.int IntKind.i64 (3 : Int), SV.top, SV.top]
          [BO.rows (16 : Nat) (1 : Nat) true (52 : Nat)
              [[SV.bool F.k0, SV.int IntKind.i64 F.a0, SV.int IntKind.i64 F.b0, SV.int IntKind.i64 F.n0, SV.bool F.k1,
                  SV.int IntKind.i64 F.a1, SV.int IntKind.i64 F.b1, SV.int IntKind.i64 F.n1, SV.bool F.k2,
                  SV.int IntKind.i64 F.a2, SV.int IntKind.i64 F.b2, SV.int IntKind.i64 F.n2, SV.bool F.cf, SV.bool F.lm,
                  SV.bool F.pr, SV.int IntKind.i64 F.now]],
            BO.rows (5 : Nat) (1 : Nat) true (41 : Nat)
              [[SV.int IntKind.i64 l, SV.int IntKind.i64 m, SV.int IntKind.i64 s, SV.int IntKind.i64 v,
                  SV.int IntKind.i64 f]],
            BO.rows (3 : Nat) (1 : Nat) true (47 : Nat)
              [[SV.int IntKind.i64 (0 : Int), SV.int IntKind.i64 (0 : Int), SV.int IntKind.i64 (0 : Int)]],
            BO.rows (3 : Nat) (1 : Nat) true (76 : Nat)
              [[SV.int IntKind.i64 d, SV.int IntKind.i64 c, SV.int IntKind.i64 mo]],
            BO.rows (3 : Nat) (1 : Nat) true (47 : Nat)
              [[SV.int IntKind.i64 (1 : Int), SV.int IntKind.i64 (2 : Int), SV.int IntKind.i64 F.a2]]]
      else
        bif decide (F.a2 < z) then
          Kt Ex.normal (146 : Nat)
            [SV.ptr (0 : Nat) (0 : Nat) (16 : Nat) (0 : Nat), SV.ptr (1 : Nat) (0 : Nat) (5 : Nat) (0 : Nat),
              SV.ptr (2 : Nat) (0 : Nat) (3 : Nat) (0 : Nat), SV.ptr (3 : Nat) (0 : Nat) (3 : Nat) (0 : Nat),
              SV.ptr (4 : Nat) (0 : Nat) (3 : Nat) (0 : Nat), SV.int IntKind.i64 (3 : Int), SV.top, SV.top]
            [BO.rows (16 : Nat) (1 : Nat) true (52 : Nat)
                [[SV.bool F.k0, SV.int IntKind.i64 F.a0, SV.int IntKind.i64 F.b0, SV.int IntKind.i64 F.n0, SV.bool F.k1,
                    SV.int IntKind.i64 F.a1, SV.int IntKind.i64 F.b1, SV.int IntKind.i64 F.n1, SV.bool F.k2,
                    SV.int IntKind.i64 F.a2, SV.int IntKind.i64 F.b2, SV.int IntKind.i64 F.n2, SV.bool F.cf, SV.bool F.lm,
                    SV.bool F.pr, SV.int IntKind.i64 F.now]],
              BO.rows (5 : Nat) (1 : Nat) true (41 : Nat)
                [[SV.int IntKind.i64 l, SV.int IntKind.i64 m, SV.int IntKind.i64 s, SV.int IntKind.i64 v,
                    SV.int IntKind.i64 f]],
              BO.rows (3 : Nat) (1 : Nat) true (47 : Nat)
                [[SV.int IntKind.i64 (0 : Int), SV.int IntKind.i64 (0 : Int), SV.int IntKind.i64 (0 : Int)]],
              BO.rows (3 : Nat) (1 : Nat) true (76 : Nat)
                [[SV.int IntKind.i64 d, SV.int IntKind.i64 c, SV.int IntKind.i64 mo]],
              BO.rows (3 : Nat) (1 : Nat) true (47 : Nat)
                [[SV.int IntKind.i64 (1 : Int), SV.int IntKind.i64 (2 : Int), SV.int IntKind.i64 F.a2]]]
        else
          Kt Ex.normal (146 : Nat)
            [SV.ptr (0 : Nat) (0 : Nat) (16 : Nat) (0 : Nat), SV.ptr (1 : Nat) (0 : Nat) (5 : Nat) (0 : Nat),
              SV.ptr (2 : Nat) (0 : Nat) (3 : Nat) (0 : Nat), SV.ptr (3 : Nat) (0 : Nat) (3 : Nat) (0 : Nat),
              SV.ptr (4 : Nat) (0 : Nat) (3 : Nat) (0 : Nat), SV.int IntKind.i64 (3 : Int), SV.top, SV.top]
            [BO.rows (16 : Nat) (1 : Nat) true (52 : Nat)
                [[SV.bool F.k0, SV.int IntKind.i64 F.a0, SV.int IntKind.i64 F.b0, SV.int IntKind.i64 F.n0, SV.bool F.k1,
                    SV.int IntKind.i64 F.a1, SV.int IntKind.i64 F.b1, SV.int IntKind.i64 F.n1, SV.bool F.k2,
                    SV.int IntKind.i64 F.a2, SV.int IntKind.i64 F.b2, SV.int IntKind.i64 F.n2, SV.bool F.cf, SV.bool F.lm,
                    SV.bool F.pr, SV.int IntKind.i64 F.now]],
              BO.rows (5 : Nat) (1 : Nat) true (41 : Nat)
                [[SV.int IntKind.i64 l, SV.int IntKind.i64 m, SV.int IntKind.i64 s, SV.int IntKind.i64 v,
                    SV.int IntKind.i64 f]],
              BO.rows (3 : Nat) (1 : Nat) true (47 : Nat)
                [[SV.int IntKind.i64 (0 : Int), SV.int IntKind.i64 (0 : Int), SV.int IntKind.i64 (0 : Int)]],
              BO.rows (3 : Nat) (1 : Nat) true (76 : Nat)
                [[SV.int IntKind.i64 d, SV.int IntKind.i64 c, SV.int IntKind.i64 mo]],
              BO.rows (3 : Nat) (1 : Nat) true (47 : Nat)
                [[SV.int IntKind.i64 x, SV.int IntKind.i64 y, SV.int IntKind.i64 z]]]
    else
      Kt Ex.normal (146 : Nat)
        [SV.ptr (0 : Nat) (0 : Nat) (16 : Nat) (0 : Nat), SV.ptr (1 : Nat) (0 : Nat) (5 : Nat) (0 : Nat),
          SV.ptr (2 : Nat) (0 : Nat) (3 : Nat) (0 : Nat), SV.ptr (3 : Nat) (0 : Nat) (3 : Nat) (0 : Nat),
          SV.ptr (4 : Nat) (0 : Nat) (3 : Nat) (0 : Nat), SV.int IntKind.i64 (3 : Int), SV.top, SV.top]
        [BO.rows (16 : Nat) (1 : Nat) true (52 : Nat)
            [[SV.bool F.k0, SV.int IntKind.i64 F.a0, SV.int IntKind.i64 F.b0, SV.int IntKind.i64 F.n0, SV.bool F.k1,
                SV.int IntKind.i64 F.a1, SV.int IntKind.i64 F.b1, SV.int IntKind.i64 F.n1, SV.bool F.k2,
                SV.int IntKind.i64 F.a2, SV.int IntKind.i64 F.b2, SV.int IntKind.i64 F.n2, SV.bool F.cf, SV.bool F.lm,
                SV.bool F.pr, SV.int IntKind.i64 F.now]],
          BO.rows (5 : Nat) (1 : Nat) true (41 : Nat)
            [[SV.int IntKind.i64 l, SV.int IntKind.i64 m, SV.int IntKind.i64 s, SV.int IntKind.i64 v,
                SV.int IntKind.i64 f]],
          BO.rows (3 : Nat) (1 : Nat) true (47 : Nat)
            [[SV.int IntKind.i64 (0 : Int), SV.int IntKind.i64 (0 : Int), SV.int IntKind.i64 (0 : Int)]],
          BO.rows (3 : Nat) (1 : Nat) true (76 : Nat) [[SV.int IntKind.i64 d, SV.int IntKind.i64 c, SV.int IntKind.i64 mo]],
          BO.rows (3 : Nat) (1 : Nat) true (47 : Nat) [[SV.int IntKind.i64 x, SV.int IntKind.i64 y, SV.int IntKind.i64 z]]]) := by kernel_rfl
theorem p17b3 (F : Fc) (l m s v f d c mo : Int) (x y z : Int) (Kt : KT) : evalC C7 0  0 c17_4b (tplF 146 L17 (v17 (.int .i64 3) .top .top)) ((h17 F l m s v f d c mo (x, y, z)).map mkB) ( obsN L17 M17 Kt) = (
    Kt (Ex.exit (0 : Nat)) (146 : Nat)
      [SV.ptr (0 : Nat) (0 : Nat) (16 : Nat) (0 : Nat), SV.ptr (1 : Nat) (0 : Nat) (5 : Nat) (0 : Nat),
        SV.ptr (2 : Nat) (0 : Nat) (3 : Nat) (0 : Nat), SV.ptr (3 : Nat) (0 : Nat) (3 : Nat) (0 : Nat),
        SV.ptr (4 : Nat) (0 : Nat) (3 : Nat) (0 : Nat), SV.int IntKind.i64 (3 : Int), SV.top, SV.top]
      [BO.rows (16 : Nat) (1 : Nat) true (52 : Nat)
          [[SV.bool F.k0, SV.int IntKind.i64 F.a0, SV.int IntKind.i64 F.b0, SV.int IntKind.i64 F.n0, SV.bool F.k1,
              SV.int IntKind.i64 F.a1, SV.int IntKind.i64 F.b1, SV.int IntKind.i64 F.n1, SV.bool F.k2,
              SV.int IntKind.i64 F.a2, SV.int IntKind.i64 F.b2, SV.int IntKind.i64 F.n2, SV.bool F.cf, SV.bool F.lm,
              SV.bool F.pr, SV.int IntKind.i64 F.now]],
        BO.rows (5 : Nat) (1 : Nat) true (41 : Nat)
          [[SV.int IntKind.i64 l, SV.int IntKind.i64 m, SV.int IntKind.i64 s, SV.int IntKind.i64 v, SV.int IntKind.i64 f]],
        BO.rows (3 : Nat) (1 : Nat) true (47 : Nat)
          [[SV.int IntKind.i64 (0 : Int), SV.int IntKind.i64 (0 : Int), SV.int IntKind.i64 (0 : Int)]],
        BO.rows (3 : Nat) (1 : Nat) true (76 : Nat) [[SV.int IntKind.i64 d, SV.int IntKind.i64 c, SV.int IntKind.i64 mo]],
        BO.rows (3 : Nat) (1 : Nat) true (47 : Nat) [[SV.int IntKind.i64 x, SV.int IntKind.i64 y, SV.int IntKind.i64 z]]]) := by kernel_rfl
theorem p17c (F : Fc) (l m s v f d c mo : Int) (x y z : Int) (Kt : KT) (kr : SV → Prop) : evalC C7 0  0 c17_5 (tplF 146 L17 (v17 .top .top .top)) ((h17 F l m s v f d c mo (x, y, z)).map mkB) ( obsE Try.prog Try.f17.results.toList L17 M17 Kt kr) = (
    bif z != (-1 : Int) then kr (SV.agg [SV.int IntKind.i64 x, SV.int IntKind.i64 y, SV.int IntKind.i64 z])
    else
      bif F.lm then kr (SV.agg [SV.int IntKind.i64 x, SV.int IntKind.i64 y, SV.int IntKind.i64 z])
      else
        Kt Ex.normal (146 : Nat)
          [SV.ptr (0 : Nat) (0 : Nat) (16 : Nat) (0 : Nat), SV.ptr (1 : Nat) (0 : Nat) (5 : Nat) (0 : Nat),
            SV.ptr (2 : Nat) (0 : Nat) (3 : Nat) (0 : Nat), SV.ptr (3 : Nat) (0 : Nat) (3 : Nat) (0 : Nat),
            SV.ptr (4 : Nat) (0 : Nat) (3 : Nat) (0 : Nat), SV.top, SV.top, SV.top]
          [BO.rows (16 : Nat) (1 : Nat) true (52 : Nat)
              [[SV.bool F.k0, SV.int IntKind.i64 F.a0, SV.int IntKind.i64 F.b0, SV.int IntKind.i64 F.n0, SV.bool F.k1,
                  SV.int IntKind.i64 F.a1, SV.int IntKind.i64 F.b1, SV.int IntKind.i64 F.n1, SV.bool F.k2,
                  SV.int IntKind.i64 F.a2, SV.int IntKind.i64 F.b2, SV.int IntKind.i64 F.n2, SV.bool F.cf, SV.bool F.lm,
                  SV.bool F.pr, SV.int IntKind.i64 F.now]],
            BO.rows (5 : Nat) (1 : Nat) true (41 : Nat)
              [[SV.int IntKind.i64 l, SV.int IntKind.i64 m, SV.int IntKind.i64 s, SV.int IntKind.i64 v,
                  SV.int IntKind.i64 f]],
            BO.rows (3 : Nat) (1 : Nat) true (47 : Nat)
              [[SV.int IntKind.i64 (0 : Int), SV.int IntKind.i64 (0 : Int), SV.int IntKind.i64 (0 : Int)]],
            BO.rows (3 : Nat) (1 : Nat) true (76 : Nat)
              [[SV.int IntKind.i64 d, SV.int IntKind.i64 c, SV.int IntKind.i64 mo]],
            BO.rows (3 : Nat) (1 : Nat) true (47 : Nat)
              [[SV.int IntKind.i64 x, SV.int IntKind.i64 y, SV.int IntKind.i64 z]]]) := by kernel_rfl
theorem p17d (F : Fc) (l m s v f d c mo : Int) (x y z : Int) (Kt : KT) : evalC C7 0  0 c17_6 (tplF 146 L17 (v17 .top .top .top)) ((h17 F l m s v f d c mo (x, y, z)).map mkB) ( obsN L17 M17 Kt) = (
    Kt Ex.normal (146 : Nat)
      [SV.ptr (0 : Nat) (0 : Nat) (16 : Nat) (0 : Nat), SV.ptr (1 : Nat) (0 : Nat) (5 : Nat) (0 : Nat),
        SV.ptr (2 : Nat) (0 : Nat) (3 : Nat) (0 : Nat), SV.ptr (3 : Nat) (0 : Nat) (3 : Nat) (0 : Nat),
        SV.ptr (4 : Nat) (0 : Nat) (3 : Nat) (0 : Nat), SV.top, SV.int IntKind.i64 (0 : Int), SV.top]
      [BO.rows (16 : Nat) (1 : Nat) true (52 : Nat)
          [[SV.bool F.k0, SV.int IntKind.i64 F.a0, SV.int IntKind.i64 F.b0, SV.int IntKind.i64 F.n0, SV.bool F.k1,
              SV.int IntKind.i64 F.a1, SV.int IntKind.i64 F.b1, SV.int IntKind.i64 F.n1, SV.bool F.k2,
              SV.int IntKind.i64 F.a2, SV.int IntKind.i64 F.b2, SV.int IntKind.i64 F.n2, SV.bool F.cf, SV.bool F.lm,
              SV.bool F.pr, SV.int IntKind.i64 F.now]],
        BO.rows (5 : Nat) (1 : Nat) true (41 : Nat)
          [[SV.int IntKind.i64 l, SV.int IntKind.i64 m, SV.int IntKind.i64 s, SV.int IntKind.i64 v, SV.int IntKind.i64 f]],
        BO.rows (3 : Nat) (1 : Nat) true (47 : Nat)
          [[SV.int IntKind.i64 (0 : Int), SV.int IntKind.i64 (0 : Int), SV.int IntKind.i64 (0 : Int)]],
        BO.rows (3 : Nat) (1 : Nat) true (76 : Nat) [[SV.int IntKind.i64 d, SV.int IntKind.i64 c, SV.int IntKind.i64 mo]],
        BO.rows (3 : Nat) (1 : Nat) true (47 : Nat) [[SV.int IntKind.i64 x, SV.int IntKind.i64 y, SV.int IntKind.i64 z]]]) := by kernel_rfl
theorem p17da (F : Fc) (l m s v f d c mo : Int) (x y z : Int) (n : Int) (Kt : KT) : evalC C7 0  0 c17_7a (tplF 146 L17 (v17 .top (.int .i64 n) .top)) ((h17 F l m s v f d c mo (x, y, z)).map mkB) ( obsN L17 M17 Kt) = (
    Kt Ex.normal (146 : Nat)
      [SV.ptr (0 : Nat) (0 : Nat) (16 : Nat) (0 : Nat), SV.ptr (1 : Nat) (0 : Nat) (5 : Nat) (0 : Nat),
        SV.ptr (2 : Nat) (0 : Nat) (3 : Nat) (0 : Nat), SV.ptr (3 : Nat) (0 : Nat) (3 : Nat) (0 : Nat),
        SV.ptr (4 : Nat) (0 : Nat) (3 : Nat) (0 : Nat), SV.top, SV.int IntKind.i64 n, SV.int IntKind.i64 (0 : Int)]
      [BO.rows (16 : Nat) (1 : Nat) true (52 : Nat)
          [[SV.bool F.k0, SV.int IntKind.i64 F.a0, SV.int IntKind.i64 F.b0, SV.int IntKind.i64 F.n0, SV.bool F.k1,
              SV.int IntKind.i64 F.a1, SV.int IntKind.i64 F.b1, SV.int IntKind.i64 F.n1, SV.bool F.k2,
              SV.int IntKind.i64 F.a2, SV.int IntKind.i64 F.b2, SV.int IntKind.i64 F.n2, SV.bool F.cf, SV.bool F.lm,
              SV.bool F.pr, SV.int IntKind.i64 F.now]],
        BO.rows (5 : Nat) (1 : Nat) true (41 : Nat)
          [[SV.int IntKind.i64 l, SV.int IntKind.i64 m, SV.int IntKind.i64 s, SV.int IntKind.i64 v, SV.int IntKind.i64 f]],
        BO.rows (3 : Nat) (1 : Nat) true (47 : Nat)
          [[SV.int IntKind.i64 (0 : Int), SV.int IntKind.i64 (0 : Int), SV.int IntKind.i64 (0 : Int)]],
        BO.rows (3 : Nat) (1 : Nat) true (76 : Nat) [[SV.int IntKind.i64 d, SV.int IntKind.i64 c, SV.int IntKind.i64 mo]],
        BO.rows (3 : Nat) (1 : Nat) true (47 : Nat) [[SV.int IntKind.i64 x, SV.int IntKind.i64 y, SV.int IntKind.i64 z]]]) := by kernel_rfl
theorem p17d0 (F : Fc) (l m s v f d c mo : Int) (x y z : Int) (n : Int) (Kt : KT) : evalC C7 0  0 c17_7b (tplF 146 L17 (v17 .top (.int .i64 n) (.int .i64 0))) ((h17 F l m s v f d c mo (x, y, z)).map mkB) ( obsN L17 M17 Kt) = (
    bif F.n0 == (0 : Int) then
      Kt Ex.normal (146 : Nat)
        [SV.ptr (0 : Nat) (0 : Nat) (16 : Nat) (0 : Nat), SV.ptr (1 : Nat) (0 : Nat) (5 : Nat) (0 : Nat),
          SV.ptr (2 : Nat) (0 : Nat) (3 : Nat) (0 : Nat), SV.ptr (3 : Nat) (0 : Nat) (3 : Nat) (0 : Nat),
          SV.ptr (4 : Nat) (0 : Nat) (3 : Nat) (0 : Nat), SV.top, SV.int IntKind.i64 (IntKind.i64.wrap (n + F.n0)),
          SV.int IntKind.i64 (1 : Int)]
        [BO.rows (16 : Nat) (1 : Nat) true (52 : Nat)
            [[SV.bool F.k0, SV.int IntKind.i64 F.a0, SV.int IntKind.i64 F.b0, SV.int IntKind.i64 F.n0, SV.bool F.k1,
                SV.int IntKind.i64 F.a1, SV.int IntKind.i64 F.b1, SV.int IntKind.i64 F.n1, SV.bool F.k2,
                SV.int IntKind.i64 F.a2, SV.int IntKind.i64 F.b2, SV.int IntKind.i64 F.n2, SV.bool F.cf, SV.bool F.lm,
                SV.bool F.pr, SV.int IntKind.i64 F.now]],
          BO.rows (5 : Nat) (1 : Nat) true (41 : Nat)
            [[SV.int IntKind.i64 l, SV.int IntKind.i64 m, SV.int IntKind.i64 s, SV.int IntKind.i64 v,
                SV.int IntKind.i64 f]],
          BO.rows (3 : Nat) (1 : Nat) true (47 : Nat)
            [[SV.int IntKind.i64 (0 : Int), SV.int IntKind.i64 (0 : Int), SV.int IntKind.i64 (0 : Int)]],
          BO.rows (3 : Nat) (1 : Nat) true (76 : Nat) [[SV.int IntKind.i64 d, SV.int IntKind.i64 c, SV.int IntKind.i64 mo]],
          BO.rows (3 : Nat) (1 : Nat) true (47 : Nat) [[SV.int IntKind.i64 x, SV.int IntKind.i64 y, SV.int IntKind.i64 z]]]
    else
      bif F.b0 == (-1 : Int) then
        Kt Ex.normal (146 : Nat)
          [SV.ptr (0 : Nat) (0 : Nat) (16 : Nat) (0 : Nat), SV.ptr (1 : Nat) (0 : Nat) (5 : Nat) (0 : Nat),
            SV.ptr (2 : Nat) (0 : Nat) (3 : Nat) (0 : Nat), SV.ptr (3 : Nat) (0 : Nat) (3 : Nat) (0 : Nat),
            SV.ptr (4 : Nat) (0 : Nat) (3 : Nat) (0 : Nat), SV.top, SV.int IntKind.i64 (IntKind.i64.wrap (n + F.n0)),
            SV.int IntKind.i64 (1 : Int)]
          [BO.rows (16 : Nat) (1 : Nat) true (52 : Nat)
              [[SV.bool F.k0, SV.int IntKind.i64 F.a0, SV.int IntKind.i64 F.b0, SV.int IntKind.i64 F.n0, SV.bool F.k1,
                  SV.int IntKind.i64 F.a1, SV.int IntKind.i64 F.b1, SV.int IntKind.i64 F.n1, SV.bool F.k2,
                  SV.int IntKind.i64 F.a2, SV.int IntKind.i64 F.b2, SV.int IntKind.i64 F.n2, SV.bool F.cf, SV.bool F.lm,
                  SV.bool F.pr, SV.int IntKind.i64 F.now]],
            BO.rows (5 : Nat) (1 : Nat) true (41 : Nat)
              [[SV.int IntKind.i64 l, SV.int IntKind.i64 m, SV.int IntKind.i64 s, SV.int IntKind.i64 v,
                  SV.int IntKind.i64 f]],
            BO.rows (3 : Nat) (1 : Nat) true (47 : Nat)
              [[SV.int IntKind.i64 (0 : Int), SV.int IntKind.i64 (0 : Int), SV.int IntKind.i64 (0 : Int)]],
            BO.rows (3 : Nat) (1 : Nat) true (76 : Nat)
              [[SV.int IntKind.i64 d, SV.int IntKind.i64 c, SV.int IntKind.i64 mo]],
            BO.rows (3 : Nat) (1 : Nat) true (47 : Nat)
              [[SV.int IntKind.i64 x, SV.int IntKind.i64 y, SV.int IntKind.i64 z]]]
      else
        bif z == (-1 : Int) then
          Kt Ex.normal (146 : Nat)
            [SV.ptr (0 : Nat) (0 : Nat) (16 : Nat) (0 : Nat), SV.ptr (1 : Nat) (0 : Nat) (5 : Nat) (0 : Nat),
              SV.ptr (2 : Nat) (0 : Nat) (3 : Nat) (0 : Nat), SV.ptr (3 : Nat) (0 : Nat) (3 : Nat) (0 : Nat),
              SV.ptr (4 : Nat) (0 : Nat) (3 : Nat) (0 : Nat), SV.top, SV.int IntKind.i64 (IntKind.i64.wrap (n + F.n0)),
              SV.int IntKind.i64 (1 : Int)]
            [BO.rows (16 : Nat) (1 : Nat) true (52 : Nat)
                [[SV.bool F.k0, SV.int IntKind.i64 F.a0, SV.int IntKind.i64 F.b0, SV.int IntKind.i64 F.n0, SV.bool F.k1,
                    SV.int IntKind.i64 F.a1, SV.int IntKind.i64 F.b1, SV.int IntKind.i64 F.n1, SV.bool F.k2,
                    SV.int IntKind.i64 F.a2, SV.int IntKind.i64 F.b2, SV.int IntKind.i64 F.n2, SV.bool F.cf, SV.bool F.lm,
                    SV.bool F.pr, SV.int IntKind.i64 F.now]],
              BO.rows (5 : Nat) (1 : Nat) true (41 : Nat)
                [[SV.int IntKind.i64 l, SV.int IntKind.i64 m, SV.int IntKind.i64 s, SV.int IntKind.i64 v,
                    SV.int IntKind.i64 f]],
              BO.rows (3 : Nat) (1 : Nat) true (47 : Nat)
                [[SV.int IntKind.i64 (0 : Int), SV.int IntKind.i64 (0 : Int), SV.int IntKind.i64 (0 : Int)]],
              BO.rows (3 : Nat) (1 : Nat) true (76 : Nat)
                [[SV.int IntKind.i64 d, SV.int IntKind.i64 c, SV.int IntKind.i64 mo]],
              BO.rows (3 : Nat) (1 : Nat) true (47 : Nat)
                [[SV.int IntKind.i64 (2 : Int), SV.int IntKind.i64 (0 : Int),
                    SV.int IntKind.i64 (dueV F.b0 (waitV l m s v f d c mo (0 : Int)))]]]
        else
          bif decide (dueV F.b0 (waitV l m s v f d c mo (0 : Int)) < z) then
            Kt Ex.normal (146 : Nat)
              [SV.ptr (0 : Nat) (0 : Nat) (16 : Nat) (0 : Nat), SV.ptr (1 : Nat) (0 : Nat) (5 : Nat) (0 : Nat),
                SV.ptr (2 : Nat) (0 : Nat) (3 : Nat) (0 : Nat), SV.ptr (3 : Nat) (0 : Nat) (3 : Nat) (0 : Nat),
                SV.ptr (4 : Nat) (0 : Nat) (3 : Nat) (0 : Nat), SV.top, SV.int IntKind.i64 (IntKind.i64.wrap (n + F.n0)),
                SV.int IntKind.i64 (1 : Int)]
              [BO.rows (16 : Nat) (1 : Nat) true (52 : Nat)
                  [[SV.bool F.k0, SV.int IntKind.i64 F.a0, SV.int IntKind.i64 F.b0, SV.int IntKind.i64 F.n0, SV.bool F.k1,
                      SV.int IntKind.i64 F.a1, SV.int IntKind.i64 F.b1, SV.int IntKind.i64 F.n1, SV.bool F.k2,
                      SV.int IntKind.i64 F.a2, SV.int IntKind.i64 F.b2, SV.int IntKind.i64 F.n2, SV.bool F.cf, SV.bool F.lm,
                      SV.bool F.pr, SV.int IntKind.i64 F.now]],
                BO.rows (5 : Nat) (1 : Nat) true (41 : Nat)
                  [[SV.int IntKind.i64 l, SV.int IntKind.i64 m, SV.int IntKind.i64 s, SV.int IntKind.i64 v,
                      SV.int IntKind.i64 f]],
                BO.rows (3 : Nat) (1 : Nat) true (47 : Nat)
                  [[SV.int IntKind.i64 (0 : Int), SV.int IntKind.i64 (0 : Int), SV.int IntKind.i64 (0 : Int)]],
                BO.rows (3 : Nat) (1 : Nat) true (76 : Nat)
                  [[SV.int IntKind.i64 d, SV.int IntKind.i64 c, SV.int IntKind.i64 mo]],
                BO.rows (3 : Nat) (1 : Nat) true (47 : Nat)
                  [[SV.int IntKind.i64 (2 : Int), SV.int IntKind.i64 (0 : Int),
                      SV.int IntKind.i64 (dueV F.b0 (waitV l m s v f d c mo (0 : Int)))]]]
          else
            Kt Ex.normal (146 : Nat)
              [SV.ptr (0 : Nat) (0 : Nat) (16 : Nat) (0 : Nat), SV.ptr (1 : Nat) (0 : Nat) (5 : Nat) (0 : Nat),
                SV.ptr (2 : Nat) (0 : Nat) (3 : Nat) (0 : Nat), SV.ptr (3 : Nat) (0 : Nat) (3 : Nat) (0 : Nat),
                SV.ptr (4 : Nat) (0 : Nat) (3 : Nat) (0 : Nat), SV.top, SV.int IntKind.i64 (IntKind.i64.wrap (n + F.n0)),
                SV.int IntKind.i64 (1 : Int)]
              [BO.rows (16 : Nat) (1 : Nat) true (52 : Nat)
                  [[SV.bool F.k0, SV.int IntKind.i64 F.a0, SV.int IntKind.i64 F.b0, SV.int IntKind.i64 F.n0, SV.bool F.k1,
                      SV.int IntKind.i64 F.a1, SV.int IntKind.i64 F.b1, SV.int IntKind.i64 F.n1, SV.bool F.k2,
                      SV.int IntKind.i64 F.a2, SV.int IntKind.i64 F.b2, SV.int IntKind.i64 F.n2, SV.bool F.cf, SV.bool F.lm,
                      SV.bool F.pr, SV.int IntKind.i64 F.now]],
                BO.rows (5 : Nat) (1 : Nat) true (41 : Nat)
                  [[SV.int IntKind.i64 l, SV.int IntKind.i64 m, SV.int IntKind.i64 s, SV.int IntKind.i64 v,
                      SV.int IntKind.i64 f]],
                BO.rows (3 : Nat) (1 : Nat) true (47 : Nat)
                  [[SV.int IntKind.i64 (0 : Int), SV.int IntKind.i64 (0 : Int), SV.int IntKind.i64 (0 : Int)]],
                BO.rows (3 : Nat) (1 : Nat) true (76 : Nat)
                  [[SV.int IntKind.i64 d, SV.int IntKind.i64 c, SV.int IntKind.i64 mo]],
                BO.rows (3 : Nat) (1 : Nat) true (47 : Nat)
                  [[SV.int IntKind.i64 x, SV.int IntKind.i64 y, SV.int IntKind.i64 z]]]) := by kernel_rfl
theorem p17d1 (F : Fc) (l m s v f d c mo : Int) (x y z : Int) (n : Int) (Kt : KT) : evalC C7 0  0 c17_7b (tplF 146 L17 (v17 .top (.int .i64 n) (.int .i64 1))) ((h17 F l m s v f d c mo (x, y, z)).map mkB) ( obsN L17 M17 Kt) = (
    bif F.n1 == (0 : Int) then
      Kt Ex.normal (146 : Nat)
        [SV.ptr (0 : Nat) (0 : Nat) (16 : Nat) (0 : Nat), SV.ptr (1 : Nat) (0 : Nat) (5 : Nat) (0 : Nat),
          SV.ptr (2 : Nat) (0 : Nat) (3 : Nat) (0 : Nat), SV.ptr (3 : Nat) (0 : Nat) (3 : Nat) (0 : Nat),
          SV.ptr (4 : Nat) (0 : Nat) (3 : Nat) (0 : Nat), SV.top, SV.int IntKind.i64 (IntKind.i64.wrap (n + F.n1)),
          SV.int IntKind.i64 (2 : Int)]
        [BO.rows (16 : Nat) (1 : Nat) true (52 : Nat)
            [[SV.bool F.k0, SV.int IntKind.i64 F.a0, SV.int IntKind.i64 F.b0, SV.int IntKind.i64 F.n0, SV.bool F.k1,
                SV.int IntKind.i64 F.a1, SV.int IntKind.i64 F.b1, SV.int IntKind.i64 F.n1, SV.bool F.k2,
                SV.int IntKind.i64 F.a2, SV.int IntKind.i64 F.b2, SV.int IntKind.i64 F.n2, SV.bool F.cf, SV.bool F.lm,
                SV.bool F.pr, SV.int IntKind.i64 F.now]],
          BO.rows (5 : Nat) (1 : Nat) true (41 : Nat)
            [[SV.int IntKind.i64 l, SV.int IntKind.i64 m, SV.int IntKind.i64 s, SV.int IntKind.i64 v,
                SV.int IntKind.i64 f]],
          BO.rows (3 : Nat) (1 : Nat) true (47 : Nat)
            [[SV.int IntKind.i64 (0 : Int), SV.int IntKind.i64 (0 : Int), SV.int IntKind.i64 (0 : Int)]],
          BO.rows (3 : Nat) (1 : Nat) true (76 : Nat) [[SV.int IntKind.i64 d, SV.int IntKind.i64 c, SV.int IntKind.i64 mo]],
          BO.rows (3 : Nat) (1 : Nat) true (47 : Nat) [[SV.int IntKind.i64 x, SV.int IntKind.i64 y, SV.int IntKind.i64 z]]]
    else
      bif F.b1 == (-1 : Int) then
        Kt Ex.normal (146 : Nat)
          [SV.ptr (0 : Nat) (0 : Nat) (16 : Nat) (0 : Nat), SV.ptr (1 : Nat) (0 : Nat) (5 : Nat) (0 : Nat),
            SV.ptr (2 : Nat) (0 : Nat) (3 : Nat) (0 : Nat), SV.ptr (3 : Nat) (0 : Nat) (3 : Nat) (0 : Nat),
            SV.ptr (4 : Nat) (0 : Nat) (3 : Nat) (0 : Nat), SV.top, SV.int IntKind.i64 (IntKind.i64.wrap (n + F.n1)),
            SV.int IntKind.i64 (2 : Int)]
          [BO.rows (16 : Nat) (1 : Nat) true (52 : Nat)
              [[SV.bool F.k0, SV.int IntKind.i64 F.a0, SV.int IntKind.i64 F.b0, SV.int IntKind.i64 F.n0, SV.bool F.k1,
                  SV.int IntKind.i64 F.a1, SV.int IntKind.i64 F.b1, SV.int IntKind.i64 F.n1, SV.bool F.k2,
                  SV.int IntKind.i64 F.a2, SV.int IntKind.i64 F.b2, SV.int IntKind.i64 F.n2, SV.bool F.cf, SV.bool F.lm,
                  SV.bool F.pr, SV.int IntKind.i64 F.now]],
            BO.rows (5 : Nat) (1 : Nat) true (41 : Nat)
              [[SV.int IntKind.i64 l, SV.int IntKind.i64 m, SV.int IntKind.i64 s, SV.int IntKind.i64 v,
                  SV.int IntKind.i64 f]],
            BO.rows (3 : Nat) (1 : Nat) true (47 : Nat)
              [[SV.int IntKind.i64 (0 : Int), SV.int IntKind.i64 (0 : Int), SV.int IntKind.i64 (0 : Int)]],
            BO.rows (3 : Nat) (1 : Nat) true (76 : Nat)
              [[SV.int IntKind.i64 d, SV.int IntKind.i64 c, SV.int IntKind.i64 mo]],
            BO.rows (3 : Nat) (1 : Nat) true (47 : Nat)
              [[SV.int IntKind.i64 x, SV.int IntKind.i64 y, SV.int IntKind.i64 z]]]
      else
        bif z == (-1 : Int) then
          Kt Ex.normal (146 : Nat)
            [SV.ptr (0 : Nat) (0 : Nat) (16 : Nat) (0 : Nat), SV.ptr (1 : Nat) (0 : Nat) (5 : Nat) (0 : Nat),
              SV.ptr (2 : Nat) (0 : Nat) (3 : Nat) (0 : Nat), SV.ptr (3 : Nat) (0 : Nat) (3 : Nat) (0 : Nat),
              SV.ptr (4 : Nat) (0 : Nat) (3 : Nat) (0 : Nat), SV.top, SV.int IntKind.i64 (IntKind.i64.wrap (n + F.n1)),
              SV.int IntKind.i64 (2 : Int)]
            [BO.rows (16 : Nat) (1 : Nat) true (52 : Nat)
                [[SV.bool F.k0, SV.int IntKind.i64 F.a0, SV.int IntKind.i64 F.b0, SV.int IntKind.i64 F.n0, SV.bool F.k1,
                    SV.int IntKind.i64 F.a1, SV.int IntKind.i64 F.b1, SV.int IntKind.i64 F.n1, SV.bool F.k2,
                    SV.int IntKind.i64 F.a2, SV.int IntKind.i64 F.b2, SV.int IntKind.i64 F.n2, SV.bool F.cf, SV.bool F.lm,
                    SV.bool F.pr, SV.int IntKind.i64 F.now]],
              BO.rows (5 : Nat) (1 : Nat) true (41 : Nat)
                [[SV.int IntKind.i64 l, SV.int IntKind.i64 m, SV.int IntKind.i64 s, SV.int IntKind.i64 v,
                    SV.int IntKind.i64 f]],
              BO.rows (3 : Nat) (1 : Nat) true (47 : Nat)
                [[SV.int IntKind.i64 (0 : Int), SV.int IntKind.i64 (0 : Int), SV.int IntKind.i64 (0 : Int)]],
              BO.rows (3 : Nat) (1 : Nat) true (76 : Nat)
                [[SV.int IntKind.i64 d, SV.int IntKind.i64 c, SV.int IntKind.i64 mo]],
              BO.rows (3 : Nat) (1 : Nat) true (47 : Nat)
                [[SV.int IntKind.i64 (2 : Int), SV.int IntKind.i64 (1 : Int),
                    SV.int IntKind.i64 (dueV F.b1 (waitV l m s v f d c mo (1 : Int)))]]]
        else
          bif decide (dueV F.b1 (waitV l m s v f d c mo (1 : Int)) < z) then
            Kt Ex.normal (146 : Nat)
              [SV.ptr (0 : Nat) (0 : Nat) (16 : Nat) (0 : Nat), SV.ptr (1 : Nat) (0 : Nat) (5 : Nat) (0 : Nat),
                SV.ptr (2 : Nat) (0 : Nat) (3 : Nat) (0 : Nat), SV.ptr (3 : Nat) (0 : Nat) (3 : Nat) (0 : Nat),
                SV.ptr (4 : Nat) (0 : Nat) (3 : Nat) (0 : Nat), SV.top, SV.int IntKind.i64 (IntKind.i64.wrap (n + F.n1)),
                SV.int IntKind.i64 (2 : Int)]
              [BO.rows (16 : Nat) (1 : Nat) true (52 : Nat)
                  [[SV.bool F.k0, SV.int IntKind.i64 F.a0, SV.int IntKind.i64 F.b0, SV.int IntKind.i64 F.n0, SV.bool F.k1,
                      SV.int IntKind.i64 F.a1, SV.int IntKind.i64 F.b1, SV.int IntKind.i64 F.n1, SV.bool F.k2,
                      SV.int IntKind.i64 F.a2, SV.int IntKind.i64 F.b2, SV.int IntKind.i64 F.n2, SV.bool F.cf, SV.bool F.lm,
                      SV.bool F.pr, SV.int IntKind.i64 F.now]],
                BO.rows (5 : Nat) (1 : Nat) true (41 : Nat)
                  [[SV.int IntKind.i64 l, SV.int IntKind.i64 m, SV.int IntKind.i64 s, SV.int IntKind.i64 v,
                      SV.int IntKind.i64 f]],
                BO.rows (3 : Nat) (1 : Nat) true (47 : Nat)
                  [[SV.int IntKind.i64 (0 : Int), SV.int IntKind.i64 (0 : Int), SV.int IntKind.i64 (0 : Int)]],
                BO.rows (3 : Nat) (1 : Nat) true (76 : Nat)
                  [[SV.int IntKind.i64 d, SV.int IntKind.i64 c, SV.int IntKind.i64 mo]],
                BO.rows (3 : Nat) (1 : Nat) true (47 : Nat)
                  [[SV.int IntKind.i64 (2 : Int), SV.int IntKind.i64 (1 : Int),
                      SV.int IntKind.i64 (dueV F.b1 (waitV l m s v f d c mo (1 : Int)))]]]
          else
            Kt Ex.normal (146 : Nat)
              [SV.ptr (0 : Nat) (0 : Nat) (16 : Nat) (0 : Nat), SV.ptr (1 : Nat) (0 : Nat) (5 : Nat) (0 : Nat),
                SV.ptr (2 : Nat) (0 : Nat) (3 : Nat) (0 : Nat), SV.ptr (3 : Nat) (0 : Nat) (3 : Nat) (0 : Nat),
                SV.ptr (4 : Nat) (0 : Nat) (3 : Nat) (0 : Nat), SV.top, SV.int IntKind.i64 (IntKind.i64.wrap (n + F.n1)),
                SV.int IntKind.i64 (2 : Int)]
              [BO.rows (16 : Nat) (1 : Nat) true (52 : Nat)
                  [[SV.bool F.k0, SV.int IntKind.i64 F.a0, SV.int IntKind.i64 F.b0, SV.int IntKind.i64 F.n0, SV.bool F.k1,
                      SV.int IntKind.i64 F.a1, SV.int IntKind.i64 F.b1, SV.int IntKind.i64 F.n1, SV.bool F.k2,
                      SV.int IntKind.i64 F.a2, SV.int IntKind.i64 F.b2, SV.int IntKind.i64 F.n2, SV.bool F.cf, SV.bool F.lm,
                      SV.bool F.pr, SV.int IntKind.i64 F.now]],
                BO.rows (5 : Nat) (1 : Nat) true (41 : Nat)
                  [[SV.int IntKind.i64 l, SV.int IntKind.i64 m, SV.int IntKind.i64 s, SV.int IntKind.i64 v,
                      SV.int IntKind.i64 f]],
                BO.rows (3 : Nat) (1 : Nat) true (47 : Nat)
                  [[SV.int IntKind.i64 (0 : Int), SV.int IntKind.i64 (0 : Int), SV.int IntKind.i64 (0 : Int)]],
                BO.rows (3 : Nat) (1 : Nat) true (76 : Nat)
                  [[SV.int IntKind.i64 d, SV.int IntKind.i64 c, SV.int IntKind.i64 mo]],
                BO.rows (3 : Nat) (1 : Nat) true (47 : Nat)
                  [[SV.int IntKind.i64 x, SV.int IntKind.i64 y, SV.int IntKind.i64 z]]]) := by kernel_rfl
theorem p17d2 (F : Fc) (l m s v f d c mo : Int) (x y z : Int) (n : Int) (Kt : KT) : evalC C7 0  0 c17_7b (tplF 146 L17 (v17 .top (.int .i64 n) (.int .i64 2))) ((h17 F l m s v f d c mo (x, y, z)).map mkB) ( obsN L17 M17 Kt) = (
    bif F.n2 == (0 : Int) then
      Kt Ex.normal (146 : Nat)
        [SV.ptr (0 : Nat) (0 : Nat) (16 : Nat) (0 : Nat), SV.ptr (1 : Nat) (0 : Nat) (5 : Nat) (0 : Nat),
          SV.ptr (2 : Nat) (0 : Nat) (3 : Nat) (0 : Nat), SV.ptr (3 : Nat) (0 : Nat) (3 : Nat) (0 : Nat),
          SV.ptr (4 : Nat) (0 : Nat) (3 : Nat) (0 : Nat), SV.top, SV.int IntKind.i64 (IntKind.i64.wrap (n + F.n2)),
          SV.int IntKind.i64 (3 : Int)]
        [BO.rows (16 : Nat) (1 : Nat) true (52 : Nat)
            [[SV.bool F.k0, SV.int IntKind.i64 F.a0, SV.int IntKind.i64 F.b0, SV.int IntKind.i64 F.n0, SV.bool F.k1,
                SV.int IntKind.i64 F.a1, SV.int IntKind.i64 F.b1, SV.int IntKind.i64 F.n1, SV.bool F.k2,
                SV.int IntKind.i64 F.a2, SV.int IntKind.i64 F.b2, SV.int IntKind.i64 F.n2, SV.bool F.cf, SV.bool F.lm,
                SV.bool F.pr, SV.int IntKind.i64 F.now]],
          BO.rows (5 : Nat) (1 : Nat) true (41 : Nat)
            [[SV.int IntKind.i64 l, SV.int IntKind.i64 m, SV.int IntKind.i64 s, SV.int IntKind.i64 v,
                SV.int IntKind.i64 f]],
          BO.rows (3 : Nat) (1 : Nat) true (47 : Nat)
            [[SV.int IntKind.i64 (0 : Int), SV.int IntKind.i64 (0 : Int), SV.int IntKind.i64 (0 : Int)]],
          BO.rows (3 : Nat) (1 : Nat) true (76 : Nat) [[SV.int IntKind.i64 d, SV.int IntKind.i64 c, SV.int IntKind.i64 mo]],
          BO.rows (3 : Nat) (1 : Nat) true (47 : Nat) [[SV.int IntKind.i64 x, SV.int IntKind.i64 y, SV.int IntKind.i64 z]]]
    else
      bif F.b2 == (-1 : Int) then
        Kt Ex.normal (146 : Nat)
          [SV.ptr (0 : Nat) (0 : Nat) (16 : Nat) (0 : Nat), SV.ptr (1 : Nat) (0 : Nat) (5 : Nat) (0 : Nat),
            SV.ptr (2 : Nat) (0 : Nat) (3 : Nat) (0 : Nat), SV.ptr (3 : Nat) (0 : Nat) (3 : Nat) (0 : Nat),
            SV.ptr (4 : Nat) (0 : Nat) (3 : Nat) (0 : Nat), SV.top, SV.int IntKind.i64 (IntKind.i64.wrap (n + F.n2)),
            SV.int IntKind.i64 (3 : Int)]
          [BO.rows (16 : Nat) (1 : Nat) true (52 : Nat)
              [[SV.bool F.k0, SV.int IntKind.i64 F.a0, SV.int IntKind.i64 F.b0, SV.int IntKind.i64 F.n0, SV.bool F.k1,
                  SV.int IntKind.i64 F.a1, SV.int IntKind.i64 F.b1, SV.int IntKind.i64 F.n1, SV.bool F.k2,
                  SV.int IntKind.i64 F.a2, SV.int IntKind.i64 F.b2, SV.int IntKind.i64 F.n2, SV.bool F.cf, SV.bool F.lm,
                  SV.bool F.pr, SV.int IntKind.i64 F.now]],
            BO.rows (5 : Nat) (1 : Nat) true (41 : Nat)
              [[SV.int IntKind.i64 l, SV.int IntKind.i64 m, SV.int IntKind.i64 s, SV.int IntKind.i64 v,
                  SV.int IntKind.i64 f]],
            BO.rows (3 : Nat) (1 : Nat) true (47 : Nat)
              [[SV.int IntKind.i64 (0 : Int), SV.int IntKind.i64 (0 : Int), SV.int IntKind.i64 (0 : Int)]],
            BO.rows (3 : Nat) (1 : Nat) true (76 : Nat)
              [[SV.int IntKind.i64 d, SV.int IntKind.i64 c, SV.int IntKind.i64 mo]],
            BO.rows (3 : Nat) (1 : Nat) true (47 : Nat)
              [[SV.int IntKind.i64 x, SV.int IntKind.i64 y, SV.int IntKind.i64 z]]]
      else
        bif !F.cf then
          Kt Ex.normal (146 : Nat)
            [SV.ptr (0 : Nat) (0 : Nat) (16 : Nat) (0 : Nat), SV.ptr (1 : Nat) (0 : Nat) (5 : Nat) (0 : Nat),
              SV.ptr (2 : Nat) (0 : Nat) (3 : Nat) (0 : Nat), SV.ptr (3 : Nat) (0 : Nat) (3 : Nat) (0 : Nat),
              SV.ptr (4 : Nat) (0 : Nat) (3 : Nat) (0 : Nat), SV.top, SV.int IntKind.i64 (IntKind.i64.wrap (n + F.n2)),
              SV.int IntKind.i64 (3 : Int)]
            [BO.rows (16 : Nat) (1 : Nat) true (52 : Nat)
                [[SV.bool F.k0, SV.int IntKind.i64 F.a0, SV.int IntKind.i64 F.b0, SV.int IntKind.i64 F.n0, SV.bool F.k1,
                    SV.int IntKind.i64 F.a1, SV.int IntKind.i64 F.b1, SV.int IntKind.i64 F.n1, SV.bool F.k2,
                    SV.int IntKind.i64 F.a2, SV.int IntKind.i64 F.b2, SV.int IntKind.i64 F.n2, SV.bool F.cf, SV.bool F.lm,
                    SV.bool F.pr, SV.int IntKind.i64 F.now]],
              BO.rows (5 : Nat) (1 : Nat) true (41 : Nat)
                [[SV.int IntKind.i64 l, SV.int IntKind.i64 m, SV.int IntKind.i64 s, SV.int IntKind.i64 v,
                    SV.int IntKind.i64 f]],
              BO.rows (3 : Nat) (1 : Nat) true (47 : Nat)
                [[SV.int IntKind.i64 (0 : Int), SV.int IntKind.i64 (0 : Int), SV.int IntKind.i64 (0 : Int)]],
              BO.rows (3 : Nat) (1 : Nat) true (76 : Nat)
                [[SV.int IntKind.i64 d, SV.int IntKind.i64 c, SV.int IntKind.i64 mo]],
              BO.rows (3 : Nat) (1 : Nat) true (47 : Nat)
                [[SV.int IntKind.i64 x, SV.int IntKind.i64 y, SV.int IntKind.i64 z]]]
        else
          bif z == (-1 : Int) then
            Kt Ex.normal (146 : Nat)
              [SV.ptr (0 : Nat) (0 : Nat) (16 : Nat) (0 : Nat), SV.ptr (1 : Nat) (0 : Nat) (5 : Nat) (0 : Nat),
                SV.ptr (2 : Nat) (0 : Nat) (3 : Nat) (0 : Nat), SV.ptr (3 : Nat) (0 : Nat) (3 : Nat) (0 : Nat),
                SV.ptr (4 : Nat) (0 : Nat) (3 : Nat) (0 : Nat), SV.top, SV.int IntKind.i64 (IntKind.i64.wrap (n + F.n2)),
                SV.int IntKind.i64 (3 : Int)]
              [BO.rows (16 : Nat) (1 : Nat) true (52 : Nat)
                  [[SV.bool F.k0, SV.int IntKind.i64 F.a0, SV.int IntKind.i64 F.b0, SV.int IntKind.i64 F.n0, SV.bool F.k1,
                      SV.int IntKind.i64 F.a1, SV.int IntKind.i64 F.b1, SV.int IntKind.i64 F.n1, SV.bool F.k2,
                      SV.int IntKind.i64 F.a2, SV.int IntKind.i64 F.b2, SV.int IntKind.i64 F.n2, SV.bool F.cf, SV.bool F.lm,
                      SV.bool F.pr, SV.int IntKind.i64 F.now]],
                BO.rows (5 : Nat) (1 : Nat) true (41 : Nat)
                  [[SV.int IntKind.i64 l, SV.int IntKind.i64 m, SV.int IntKind.i64 s, SV.int IntKind.i64 v,
                      SV.int IntKind.i64 f]],
                BO.rows (3 : Nat) (1 : Nat) true (47 : Nat)
                  [[SV.int IntKind.i64 (0 : Int), SV.int IntKind.i64 (0 : Int), SV.int IntKind.i64 (0 : Int)]],
                BO.rows (3 : Nat) (1 : Nat) true (76 : Nat)
                  [[SV.int IntKind.i64 d, SV.int IntKind.i64 c, SV.int IntKind.i64 mo]],
                BO.rows (3 : Nat) (1 : Nat) true (47 : Nat)
                  [[SV.int IntKind.i64 (2 : Int), SV.int IntKind.i64 (2 : Int),
                      SV.int IntKind.i64 (dueV F.b2 (waitV l m s v f d c mo (2 : Int)))]]]
          else
            bif decide (dueV F.b2 (waitV l m s v f d c mo (2 : Int)) < z) then
              Kt Ex.normal (146 : Nat)
                [SV.ptr (0 : Nat) (0 : Nat) (16 : Nat) (0 : Nat), SV.ptr (1 : Nat) (0 : Nat) (5 : Nat) (0 : Nat),
                  SV.ptr (2 : Nat) (0 : Nat) (3 : Nat) (0 : Nat), SV.ptr (3 : Nat) (0 : Nat) (3 : Nat) (0 : Nat),
                  SV.ptr (4 : Nat) (0 : Nat) (3 : Nat) (0 : Nat), SV.top, SV.int IntKind.i64 (IntKind.i64.wrap (n + F.n2)),
                  SV.int IntKind.i64 (3 : Int)]
                [BO.rows (16 : Nat) (1 : Nat) true (52 : Nat)
                    [[SV.bool F.k0, SV.int IntKind.i64 F.a0, SV.int IntKind.i64 F.b0, SV.int IntKind.i64 F.n0, SV.bool F.k1,
                        SV.int IntKind.i64 F.a1, SV.int IntKind.i64 F.b1, SV.int IntKind.i64 F.n1, SV.bool F.k2,
                        SV.int IntKind.i64 F.a2, SV.int IntKind.i64 F.b2, SV.int IntKind.i64 F.n2, SV.bool F.cf,
                        SV.bool F.lm, SV.bool F.pr, SV.int IntKind.i64 F.now]],
                  BO.rows (5 : Nat) (1 : Nat) true (41 : Nat)
                    [[SV.int IntKind.i64 l, SV.int IntKind.i64 m, SV.int IntKind.i64 s, SV.int IntKind.i64 v,
                        SV.int IntKind.i64 f]],
                  BO.rows (3 : Nat) (1 : Nat) true (47 : Nat)
                    [[SV.int IntKind.i64 (0 : Int), SV.int IntKind.i64 (0 : Int), SV.int IntKind.i64 (0 : Int)]],
                  BO.rows (3 : Nat) (1 : Nat) true (76 : Nat)
                    [[SV.int IntKind.i64 d, SV.int IntKind.i64 c, SV.int IntKind.i64 mo]],
                  BO.rows (3 : Nat) (1 : Nat) true (47 : Nat)
                    [[SV.int IntKind.i64 (2 : Int), SV.int IntKind.i64 (2 : Int),
                        SV.int IntKind.i64 (dueV F.b2 (waitV l m s v f d c mo (2 : Int)))]]]
            else
              Kt Ex.normal (146 : Nat)
                [SV.ptr (0 : Nat) (0 : Nat) (16 : Nat) (0 : Nat), SV.ptr (1 : Nat) (0 : Nat) (5 : Nat) (0 : Nat),
                  SV.ptr (2 : Nat) (0 : Nat) (3 : Nat) (0 : Nat), SV.ptr (3 : Nat) (0 : Nat) (3 : Nat) (0 : Nat),
                  SV.ptr (4 : Nat) (0 : Nat) (3 : Nat) (0 : Nat), SV.top, SV.int IntKind.i64 (IntKind.i64.wrap (n + F.n2)),
                  SV.int IntKind.i64 (3 : Int)]
                [BO.rows (16 : Nat) (1 : Nat) true (52 : Nat)
                    [[SV.bool F.k0, SV.int IntKind.i64 F.a0, SV.int IntKind.i64 F.b0, SV.int IntKind.i64 F.n0, SV.bool F.k1,
                        SV.int IntKind.i64 F.a1, SV.int IntKind.i64 F.b1, SV.int IntKind.i64 F.n1, SV.bool F.k2,
                        SV.int IntKind.i64 F.a2, SV.int IntKind.i64 F.b2, SV.int IntKind.i64 F.n2, SV.bool F.cf,
                        SV.bool F.lm, SV.bool F.pr, SV.int IntKind.i64 F.now]],
                  BO.rows (5 : Nat) (1 : Nat) true (41 : Nat)
                    [[SV.int IntKind.i64 l, SV.int IntKind.i64 m, SV.int IntKind.i64 s, SV.int IntKind.i64 v,
                        SV.int IntKind.i64 f]],
                  BO.rows (3 : Nat) (1 : Nat) true (47 : Nat)
                    [[SV.int IntKind.i64 (0 : Int), SV.int IntKind.i64 (0 : Int), SV.int IntKind.i64 (0 : Int)]],
                  BO.rows (3 : Nat) (1 : Nat) true (76 : Nat)
                    [[SV.int IntKind.i64 d, SV.int IntKind.i64 c, SV.int IntKind.i64 mo]],
                  BO.rows (3 : Nat) (1 : Nat) true (47 : Nat)
                    [[SV.int IntKind.i64 x, SV.int IntKind.i64 y, SV.int IntKind.i64 z]]]) := by kernel_rfl
theorem p17d3 (F : Fc) (l m s v f d c mo : Int) (x y z : Int) (n : Int) (Kt : KT) : evalC C7 0  0 c17_7b (tplF 146 L17 (v17 .top (.int .i64 n) (.int .i64 3))) ((h17 F l m s v f d c mo (x, y, z)).map mkB) ( obsN L17 M17 Kt) = (
    Kt (Ex.exit (2 : Nat)) (146 : Nat)
      [SV.ptr (0 : Nat) (0 : Nat) (16 : Nat) (0 : Nat), SV.ptr (1 : Nat) (0 : Nat) (5 : Nat) (0 : Nat),
        SV.ptr (2 : Nat) (0 : Nat) (3 : Nat) (0 : Nat), SV.ptr (3 : Nat) (0 : Nat) (3 : Nat) (0 : Nat),
        SV.ptr (4 : Nat) (0 : Nat) (3 : Nat) (0 : Nat), SV.top, SV.int IntKind.i64 n, SV.int IntKind.i64 (3 : Int)]
      [BO.rows (16 : Nat) (1 : Nat) true (52 : Nat)
          [[SV.bool F.k0, SV.int IntKind.i64 F.a0, SV.int IntKind.i64 F.b0, SV.int IntKind.i64 F.n0, SV.bool F.k1,
              SV.int IntKind.i64 F.a1, SV.int IntKind.i64 F.b1, SV.int IntKind.i64 F.n1, SV.bool F.k2,
              SV.int IntKind.i64 F.a2, SV.int IntKind.i64 F.b2, SV.int IntKind.i64 F.n2, SV.bool F.cf, SV.bool F.lm,
              SV.bool F.pr, SV.int IntKind.i64 F.now]],
        BO.rows (5 : Nat) (1 : Nat) true (41 : Nat)
          [[SV.int IntKind.i64 l, SV.int IntKind.i64 m, SV.int IntKind.i64 s, SV.int IntKind.i64 v, SV.int IntKind.i64 f]],
        BO.rows (3 : Nat) (1 : Nat) true (47 : Nat)
          [[SV.int IntKind.i64 (0 : Int), SV.int IntKind.i64 (0 : Int), SV.int IntKind.i64 (0 : Int)]],
        BO.rows (3 : Nat) (1 : Nat) true (76 : Nat) [[SV.int IntKind.i64 d, SV.int IntKind.i64 c, SV.int IntKind.i64 mo]],
        BO.rows (3 : Nat) (1 : Nat) true (47 : Nat) [[SV.int IntKind.i64 x, SV.int IntKind.i64 y, SV.int IntKind.i64 z]]]) := by kernel_rfl
theorem p17e (F : Fc) (l m s v f d c mo : Int) (x y z : Int) (n : Int) (Kt : KT) (kr : SV → Prop) : evalC C7 0  0 c17_8 (tplF 146 L17 (v17 .top (.int .i64 n) .top)) ((h17 F l m s v f d c mo (x, y, z)).map mkB) ( obsE Try.prog Try.f17.results.toList L17 M17 Kt kr) = (
    bif z != (-1 : Int) then kr (SV.agg [SV.int IntKind.i64 x, SV.int IntKind.i64 y, SV.int IntKind.i64 z])
    else
      bif decide ((0 : Int) < n) then kr (SV.agg [SV.int IntKind.i64 x, SV.int IntKind.i64 y, SV.int IntKind.i64 z])
      else
        bif F.pr then kr (SV.agg [SV.int IntKind.i64 x, SV.int IntKind.i64 y, SV.int IntKind.i64 z])
        else
          Kt Ex.normal (146 : Nat)
            [SV.ptr (0 : Nat) (0 : Nat) (16 : Nat) (0 : Nat), SV.ptr (1 : Nat) (0 : Nat) (5 : Nat) (0 : Nat),
              SV.ptr (2 : Nat) (0 : Nat) (3 : Nat) (0 : Nat), SV.ptr (3 : Nat) (0 : Nat) (3 : Nat) (0 : Nat),
              SV.ptr (4 : Nat) (0 : Nat) (3 : Nat) (0 : Nat), SV.top, SV.int IntKind.i64 n, SV.top]
            [BO.rows (16 : Nat) (1 : Nat) true (52 : Nat)
                [[SV.bool F.k0, SV.int IntKind.i64 F.a0, SV.int IntKind.i64 F.b0, SV.int IntKind.i64 F.n0, SV.bool F.k1,
                    SV.int IntKind.i64 F.a1, SV.int IntKind.i64 F.b1, SV.int IntKind.i64 F.n1, SV.bool F.k2,
                    SV.int IntKind.i64 F.a2, SV.int IntKind.i64 F.b2, SV.int IntKind.i64 F.n2, SV.bool F.cf, SV.bool F.lm,
                    SV.bool F.pr, SV.int IntKind.i64 F.now]],
              BO.rows (5 : Nat) (1 : Nat) true (41 : Nat)
                [[SV.int IntKind.i64 l, SV.int IntKind.i64 m, SV.int IntKind.i64 s, SV.int IntKind.i64 v,
                    SV.int IntKind.i64 f]],
              BO.rows (3 : Nat) (1 : Nat) true (47 : Nat)
                [[SV.int IntKind.i64 (0 : Int), SV.int IntKind.i64 (0 : Int), SV.int IntKind.i64 (0 : Int)]],
              BO.rows (3 : Nat) (1 : Nat) true (76 : Nat)
                [[SV.int IntKind.i64 d, SV.int IntKind.i64 c, SV.int IntKind.i64 mo]],
              BO.rows (3 : Nat) (1 : Nat) true (47 : Nat)
                [[SV.int IntKind.i64 x, SV.int IntKind.i64 y, SV.int IntKind.i64 z]]]) := by kernel_rfl
theorem p17f (F : Fc) (l m s v f d c mo : Int) (Kt : KT) (kr : SV → Prop) : evalC C7 64  0 (.seq c17_9 c17_10) (tplF 146 L17 (v17 .top .top .top)) ((h17 F l m s v f d c mo (0, 0, -1)).map mkB) ( obsE Try.prog Try.f17.results.toList L17 M17 Kt kr) = (
    bif F.k1 then
      kr
        (SV.agg
          [SV.int IntKind.i64 (2 : Int), SV.int IntKind.i64 (1 : Int),
            SV.int IntKind.i64 (dueV F.now (waitV l m s v f d c mo (1 : Int)))])
    else
      bif F.k0 then
        kr
          (SV.agg
            [SV.int IntKind.i64 (2 : Int), SV.int IntKind.i64 (0 : Int),
              SV.int IntKind.i64 (dueV F.now (waitV l m s v f d c mo (0 : Int)))])
      else kr (SV.agg [SV.int IntKind.i64 (0 : Int), SV.int IntKind.i64 (0 : Int), SV.int IntKind.i64 (-1 : Int)])) := by kernel_rfl
end Go.Proofs.Ytfoogfhcjnpokaa
