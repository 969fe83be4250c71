/-
  What functions of the program come to, way by way: printed by a program, held by the kernel.
-/
import Derived.Test.YtfoogfhcjnpokaaX5
namespace Go.Proofs.Ytfoogfhcjnpokaa
open Go.RowKit
set_option maxRecDepth 100000

theorem t31_0  (kk : SV → Prop) : evalF C1 64 Try.f31 [.nilSlice, .func (.func 27) [] []] [] (fun v _ => kk v) = (
    kk
      (SV.tuple
        [SV.agg [SV.int IntKind.i64 (0 : Int), SV.int IntKind.i64 (0 : Int), SV.int IntKind.i64 (0 : Int)], SV.bool false])) := by kernel_rfl
theorem t31_1 (x0 y0 z0 : Int) (kk : SV → Prop) : evalF C1 64 Try.f31 [.slice 0 0 3 1, .func (.func 27) [] []] [some (b3 [(x0, y0, z0)])] (fun v _ => kk v) = (
    kk (SV.tuple [SV.agg [SV.int IntKind.i64 x0, SV.int IntKind.i64 y0, SV.int IntKind.i64 z0], SV.bool true])) := by kernel_rfl
theorem t31_2 (x0 y0 z0 x1 y1 z1 : Int) (kk : SV → Prop) : evalF C1 64 Try.f31 [.slice 0 0 3 2, .func (.func 27) [] []] [some (b3 [(x0, y0, z0), (x1, y1, z1)])] (fun v _ => kk v) = (
    bif decide (z1 < z0) then
      kk (SV.tuple [SV.agg [SV.int IntKind.i64 x1, SV.int IntKind.i64 y1, SV.int IntKind.i64 z1], SV.bool true])
    else kk (SV.tuple [SV.agg [SV.int IntKind.i64 x0, SV.int IntKind.i64 y0, SV.int IntKind.i64 z0], SV.bool true])) := by kernel_rfl
theorem t31_3 (x0 y0 z0 x1 y1 z1 x2 y2 z2 : Int) (kk : SV → Prop) : evalF C1 64 Try.f31 [.slice 0 0 3 3, .func (.func 27) [] []] [some (b3 [(x0, y0, z0), (x1, y1, z1), (x2, y2, z2)])] (fun v _ => kk v) = (
    bif decide (z1 < z0) then
      bif decide (z2 < z1) then
        kk (SV.tuple [SV.agg [SV.int IntKind.i64 x2, SV.int IntKind.i64 y2, SV.int IntKind.i64 z2], SV.bool true])
      else kk (SV.tuple [SV.agg [SV.int IntKind.i64 x1, SV.int IntKind.i64 y1, SV.int IntKind.i64 z1], SV.bool true])
    else
      bif decide (z2 < z0) then
        kk (SV.tuple [SV.agg [SV.int IntKind.i64 x2, SV.int IntKind.i64 y2, SV.int IntKind.i64 z2], SV.bool true])
      else kk (SV.tuple [SV.agg [SV.int IntKind.i64 x0, SV.int IntKind.i64 y0, SV.int IntKind.i64 z0], SV.bool true])) := by kernel_rfl
theorem t16 (F : Fc) (l m s v f d c mo : Int) (kk : SV → Prop) : evalF C6 64 Try.f16 [fc F, rtt l m s v f, .int .i64 d, .int .i64 c, .int .i64 mo] [] (fun v _ => kk v) = (
    bif !mayF (Fc.mk F.k0 F.a0 F.b0 F.n0 F.k1 F.a1 F.b1 F.n1 F.k2 F.a2 F.b2 F.n2 F.cf F.lm F.pr F.now) then
      kk (SV.agg [SV.int IntKind.i64 (0 : Int), SV.int IntKind.i64 (0 : Int), SV.int IntKind.i64 (-1 : Int)])
    else
      bif chkE l m s v f != (0 : Int) then
        kk (SV.agg [SV.int IntKind.i64 (0 : Int), SV.int IntKind.i64 (0 : Int), SV.int IntKind.i64 (-1 : Int)])
      else
        bif F.a0 != (-1 : Int) then
          bif F.a1 != (-1 : Int) then
            bif F.a2 != (-1 : Int) then
              bif decide (F.a1 < F.a0) then
                bif decide (F.a2 < F.a1) then
                  kk (SV.agg [SV.int IntKind.i64 (1 : Int), SV.int IntKind.i64 (2 : Int), SV.int IntKind.i64 F.a2])
                else kk (SV.agg [SV.int IntKind.i64 (1 : Int), SV.int IntKind.i64 (1 : Int), SV.int IntKind.i64 F.a1])
              else
                bif decide (F.a2 < F.a0) then
                  kk (SV.agg [SV.int IntKind.i64 (1 : Int), SV.int IntKind.i64 (2 : Int), SV.int IntKind.i64 F.a2])
                else kk (SV.agg [SV.int IntKind.i64 (1 : Int), SV.int IntKind.i64 (0 : Int), SV.int IntKind.i64 F.a0])
            else
              bif decide (F.a1 < F.a0) then
                kk (SV.agg [SV.int IntKind.i64 (1 : Int), SV.int IntKind.i64 (1 : Int), SV.int IntKind.i64 F.a1])
              else kk (SV.agg [SV.int IntKind.i64 (1 : Int), SV.int IntKind.i64 (0 : Int), SV.int IntKind.i64 F.a0])
          else
            bif F.a2 != (-1 : Int) then
              bif decide (F.a2 < F.a0) then
                kk (SV.agg [SV.int IntKind.i64 (1 : Int), SV.int IntKind.i64 (2 : Int), SV.int IntKind.i64 F.a2])
              else kk (SV.agg [SV.int IntKind.i64 (1 : Int), SV.int IntKind.i64 (0 : Int), SV.int IntKind.i64 F.a0])
            else kk (SV.agg [SV.int IntKind.i64 (1 : Int), SV.int IntKind.i64 (0 : Int), SV.int IntKind.i64 F.a0])
        else
          bif F.a1 != (-1 : Int) then
            bif F.a2 != (-1 : Int) then
              bif decide (F.a2 < F.a1) then
                kk (SV.agg [SV.int IntKind.i64 (1 : Int), SV.int IntKind.i64 (2 : Int), SV.int IntKind.i64 F.a2])
              else kk (SV.agg [SV.int IntKind.i64 (1 : Int), SV.int IntKind.i64 (1 : Int), SV.int IntKind.i64 F.a1])
            else kk (SV.agg [SV.int IntKind.i64 (1 : Int), SV.int IntKind.i64 (1 : Int), SV.int IntKind.i64 F.a1])
          else
            bif F.a2 != (-1 : Int) then
              kk (SV.agg [SV.int IntKind.i64 (1 : Int), SV.int IntKind.i64 (2 : Int), SV.int IntKind.i64 F.a2])
            else
              bif F.lm then
                kk (SV.agg [SV.int IntKind.i64 (0 : Int), SV.int IntKind.i64 (0 : Int), SV.int IntKind.i64 (-1 : Int)])
              else
                bif u0 (Fc.mk F.k0 F.a0 F.b0 F.n0 F.k1 F.a1 F.b1 F.n1 F.k2 F.a2 F.b2 F.n2 F.cf F.lm F.pr F.now) then
                  bif u1 (Fc.mk F.k0 F.a0 F.b0 F.n0 F.k1 F.a1 F.b1 F.n1 F.k2 F.a2 F.b2 F.n2 F.cf F.lm F.pr F.now) then
                    bif u2 (Fc.mk F.k0 F.a0 F.b0 F.n0 F.k1 F.a1 F.b1 F.n1 F.k2 F.a2 F.b2 F.n2 F.cf F.lm F.pr F.now) then
                      bif
                          decide
                            (dueV F.b1 (waitV l m s v f d c mo (1 : Int)) <
                              dueV F.b0 (waitV l m s v f d c mo (0 : Int))) then
                        bif
                            decide
                              (dueV F.b2 (waitV l m s v f d c mo (2 : Int)) <
                                dueV F.b1 (waitV l m s v f d c mo (1 : Int))) then
                          kk
                            (SV.agg
                              [SV.int IntKind.i64 (2 : Int), SV.int IntKind.i64 (2 : Int),
                                SV.int IntKind.i64 (dueV F.b2 (waitV l m s v f d c mo (2 : Int)))])
                        else
                          kk
                            (SV.agg
                              [SV.int IntKind.i64 (2 : Int), SV.int IntKind.i64 (1 : Int),
                                SV.int IntKind.i64 (dueV F.b1 (waitV l m s v f d c mo (1 : Int)))])
                      else
                        bif
                            decide
                              (dueV F.b2 (waitV l m s v f d c mo (2 : Int)) <
                                dueV F.b0 (waitV l m s v f d c mo (0 : Int))) then
                          kk
                            (SV.agg
                              [SV.int IntKind.i64 (2 : Int), SV.int IntKind.i64 (2 : Int),
                                SV.int IntKind.i64 (dueV F.b2 (waitV l m s v f d c mo (2 : Int)))])
                        else
                          kk
                            (SV.agg
                              [SV.int IntKind.i64 (2 : Int), SV.int IntKind.i64 (0 : Int),
                                SV.int IntKind.i64 (dueV F.b0 (waitV l m s v f d c mo (0 : Int)))])
                    else
                      bif
                          decide
                            (dueV F.b1 (waitV l m s v f d c mo (1 : Int)) <
                              dueV F.b0 (waitV l m s v f d c mo (0 : Int))) then
                        kk
                          (SV.agg
                            [SV.int IntKind.i64 (2 : Int), SV.int IntKind.i64 (1 : Int),
                              SV.int IntKind.i64 (dueV F.b1 (waitV l m s v f d c mo (1 : Int)))])
                      else
                        kk
                          (SV.agg
                            [SV.int IntKind.i64 (2 : Int), SV.int IntKind.i64 (0 : Int),
                              SV.int IntKind.i64 (dueV F.b0 (waitV l m s v f d c mo (0 : Int)))])
                  else
                    bif u2 (Fc.mk F.k0 F.a0 F.b0 F.n0 F.k1 F.a1 F.b1 F.n1 F.k2 F.a2 F.b2 F.n2 F.cf F.lm F.pr F.now) then
                      bif
                          decide
                            (dueV F.b2 (waitV l m s v f d c mo (2 : Int)) <
                              dueV F.b0 (waitV l m s v f d c mo (0 : Int))) then
                        kk
                          (SV.agg
                            [SV.int IntKind.i64 (2 : Int), SV.int IntKind.i64 (2 : Int),
                              SV.int IntKind.i64 (dueV F.b2 (waitV l m s v f d c mo (2 : Int)))])
                      else
                        kk
                          (SV.agg
                            [SV.int IntKind.i64 (2 : Int), SV.int IntKind.i64 (0 : Int),
                              SV.int IntKind.i64 (dueV F.b0 (waitV l m s v f d c mo (0 : Int)))])
                    else
                      kk
                        (SV.agg
                          [SV.int IntKind.i64 (2 : Int), SV.int IntKind.i64 (0 : Int),
                            SV.int IntKind.i64 (dueV F.b0 (waitV l m s v f d c mo (0 : Int)))])
                else
                  bif u1 (Fc.mk F.k0 F.a0 F.b0 F.n0 F.k1 F.a1 F.b1 F.n1 F.k2 F.a2 F.b2 F.n2 F.cf F.lm F.pr F.now) then
                    bif u2 (Fc.mk F.k0 F.a0 F.b0 F.n0 F.k1 F.a1 F.b1 F.n1 F.k2 F.a2 F.b2 F.n2 F.cf F.lm F.pr F.now) then
                      bif
                          decide
                            (dueV F.b2 (waitV l m s v f d c mo (2 : Int)) <
                              dueV F.b1 (waitV l m s v f d c mo (1 : Int))) then
                        kk
                          (SV.agg
                            [SV.int IntKind.i64 (2 : Int), SV.int IntKind.i64 (2 : Int),
                              SV.int IntKind.i64 (dueV F.b2 (waitV l m s v f d c mo (2 : Int)))])
                      else
                        kk
                          (SV.agg
                            [SV.int IntKind.i64 (2 : Int), SV.int IntKind.i64 (1 : Int),
                              SV.int IntKind.i64 (dueV F.b1 (waitV l m s v f d c mo (1 : Int)))])
                    else
                      kk
                        (SV.agg
                          [SV.int IntKind.i64 (2 : Int), SV.int IntKind.i64 (1 : Int),
                            SV.int IntKind.i64 (dueV F.b1 (waitV l m s v f d c mo (1 : Int)))])
                  else
                    bif u2 (Fc.mk F.k0 F.a0 F.b0 F.n0 F.k1 F.a1 F.b1 F.n1 F.k2 F.a2 F.b2 F.n2 F.cf F.lm F.pr F.now) then
                      kk
                        (SV.agg
                          [SV.int IntKind.i64 (2 : Int), SV.int IntKind.i64 (2 : Int),
                            SV.int IntKind.i64 (dueV F.b2 (waitV l m s v f d c mo (2 : Int)))])
                    else
                      bif F.lm then
                        kk
                          (SV.agg
                            [SV.int IntKind.i64 (0 : Int), SV.int IntKind.i64 (0 : Int), SV.int IntKind.i64 (-1 : Int)])
                      else
                        bif decide ((0 : Int) < F.n0) then
                          kk
                            (SV.agg
                              [SV.int IntKind.i64 (0 : Int), SV.int IntKind.i64 (0 : Int), SV.int IntKind.i64 (-1 : Int)])
                        else
                          bif decide ((0 : Int) < F.n1) then
                            kk
                              (SV.agg
                                [SV.int IntKind.i64 (0 : Int), SV.int IntKind.i64 (0 : Int), SV.int IntKind.i64 (-1 : Int)])
                          else
                            bif decide ((0 : Int) < F.n2) then
                              kk
                                (SV.agg
                                  [SV.int IntKind.i64 (0 : Int), SV.int IntKind.i64 (0 : Int),
                                    SV.int IntKind.i64 (-1 : Int)])
                            else
                              bif F.pr then
                                kk
                                  (SV.agg
                                    [SV.int IntKind.i64 (0 : Int), SV.int IntKind.i64 (0 : Int),
                                      SV.int IntKind.i64 (-1 : Int)])
                              else
                                bif F.k1 then
                                  kk
                                    (SV.agg
                                      [SV.int IntKind.i64 (2 : Int), SV.int IntKind.i64 (1 : Int),
                                        SV.int IntKind.i64 (dueV F.now (waitV l m s v f d c mo (1 : Int)))])
                                else
                                  bif F.k0 then
                                    kk
                                      (SV.agg
                                        [SV.int IntKind.i64 (2 : Int), SV.int IntKind.i64 (0 : Int),
                                          SV.int IntKind.i64 (dueV F.now (waitV l m s v f d c mo (0 : Int)))])
                                  else
                                    kk
                                      (SV.agg
                                        [SV.int IntKind.i64 (0 : Int), SV.int IntKind.i64 (0 : Int),
                                          SV.int IntKind.i64 (-1 : Int)])) := by kernel_rfl
end Go.Proofs.Ytfoogfhcjnpokaa
