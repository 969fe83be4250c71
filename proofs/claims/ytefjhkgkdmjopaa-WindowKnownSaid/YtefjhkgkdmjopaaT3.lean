/-
  What functions of the program come to, way by way: printed by a program, held by the kernel.
-/
import Derived.Test.YtefjhkgkdmjopaaX3
namespace Go.Proofs.Ytefjhkgkdmjopaa
open Go.RowKit
set_option maxRecDepth 100000

theorem p13a (w : Wn) (p : Pk) (full : Bool) (Kt : KT) (kr : SV → Prop) : evalC C5 0  0 (.seq c13_0 (.seq c13_1 (.seq c13_2 (.seq c13_3 (.seq c13_4 (.seq c13_5 .skip)))))) (enterS 79 [.agg (wC w), .agg (pC p), .bool full]) [] ( obsE Try.prog Try.f13.results.toList L13 M13 Kt kr) = (
    bif (bif mayW (Wn.mk w.d w.m w.c w.t w.s w.g) then (0 : Int) else (2 : Int)) != (0 : Int) then
      kr
        (SV.tuple
          [SV.agg
              [SV.int IntKind.i64 (0 : Int), SV.int IntKind.i64 (0 : Int), SV.int IntKind.i64 (0 : Int),
                SV.int IntKind.i64 (0 : Int), SV.int IntKind.i64 (0 : Int), SV.int IntKind.i64 (0 : Int)],
            SV.int IntKind.i64 (bif mayW (Wn.mk w.d w.m w.c w.t w.s w.g) then (0 : Int) else (2 : Int))])
    else
      bif !isT p.t then
        kr
          (SV.tuple
            [SV.agg
                [SV.int IntKind.i64 (0 : Int), SV.int IntKind.i64 (0 : Int), SV.int IntKind.i64 (0 : Int),
                  SV.int IntKind.i64 (0 : Int), SV.int IntKind.i64 (0 : Int), SV.int IntKind.i64 (0 : Int)],
              SV.int IntKind.i64 (9 : Int)])
      else
        bif decide (p.s < (1 : Int)) then
          kr
            (SV.tuple
              [SV.agg
                  [SV.int IntKind.i64 (0 : Int), SV.int IntKind.i64 (0 : Int), SV.int IntKind.i64 (0 : Int),
                    SV.int IntKind.i64 (0 : Int), SV.int IntKind.i64 (0 : Int), SV.int IntKind.i64 (0 : Int)],
                SV.int IntKind.i64 (9 : Int)])
        else
          bif decide ((65535 : Int) < p.s) then
            kr
              (SV.tuple
                [SV.agg
                    [SV.int IntKind.i64 (0 : Int), SV.int IntKind.i64 (0 : Int), SV.int IntKind.i64 (0 : Int),
                      SV.int IntKind.i64 (0 : Int), SV.int IntKind.i64 (0 : Int), SV.int IntKind.i64 (0 : Int)],
                  SV.int IntKind.i64 (9 : Int)])
          else
            bif !behV (Wn.mk w.d w.m w.c w.t w.s w.g) p.t then
              kr
                (SV.tuple
                  [SV.agg
                      [SV.int IntKind.i64 w.d, SV.int IntKind.i64 w.m, SV.int IntKind.i64 w.c, SV.int IntKind.i64 w.t,
                        SV.int IntKind.i64 w.s, SV.int IntKind.i64 w.g],
                    SV.int IntKind.i64 (0 : Int)])
            else
              bif !full then
                kr
                  (SV.tuple
                    [SV.agg
                        [SV.int IntKind.i64 w.d, SV.int IntKind.i64 w.m, SV.int IntKind.i64 w.c, SV.int IntKind.i64 w.t,
                          SV.int IntKind.i64 w.s, SV.int IntKind.i64 w.g],
                      SV.int IntKind.i64 (0 : Int)])
              else
                bif mayW (Wn.mk w.d w.m w.c w.t w.s w.g) && slowV (Wn.mk w.d w.m w.c w.t w.s w.g) then
                  kr
                    (SV.tuple
                      [SV.agg
                          [SV.int IntKind.i64 w.d, SV.int IntKind.i64 w.m,
                            SV.int IntKind.i64
                              (if w.m < IntKind.i64.wrap (w.c + p.s) then w.m else IntKind.i64.wrap (w.c + p.s)),
                            SV.int IntKind.i64 w.t, SV.int IntKind.i64 w.s, SV.int IntKind.i64 w.g],
                        SV.int IntKind.i64 (0 : Int)])
                else
                  Kt Ex.normal (79 : Nat)
                    [SV.ptr (0 : Nat) (0 : Nat) (6 : Nat) (0 : Nat), SV.ptr (2 : Nat) (0 : Nat) (6 : Nat) (0 : Nat)]
                    [BO.rows (6 : Nat) (1 : Nat) true (23 : Nat)
                        [[SV.int IntKind.i64 w.d, SV.int IntKind.i64 w.m, SV.int IntKind.i64 w.c, SV.int IntKind.i64 w.t,
                            SV.int IntKind.i64 w.s, SV.int IntKind.i64 (IntKind.i64.wrap (w.g + p.s))]],
                      BO.rows (6 : Nat) (1 : Nat) true (25 : Nat)
                        [[SV.int IntKind.i64 p.n, SV.int IntKind.i64 p.t, SV.int IntKind.i64 p.s, SV.bool p.a, SV.bool p.b,
                            SV.bool p.c]],
                      BO.rows (6 : Nat) (1 : Nat) true (23 : Nat)
                        [[SV.int IntKind.i64 (0 : Int), SV.int IntKind.i64 (0 : Int), SV.int IntKind.i64 (0 : Int),
                            SV.int IntKind.i64 (0 : Int), SV.int IntKind.i64 (0 : Int), SV.int IntKind.i64 (0 : Int)]]]) := by kernel_rfl
theorem p13b (w : Wn) (p : Pk) (Kt : KT) : evalC C5 0  0 c13_6 (tplF 79 L13 v13) ((h13 w p).map mkB) ( obsN L13 M13 Kt) = (
    bif decide (w.c ≤ w.g) then
      Kt Ex.normal (79 : Nat)
        [SV.ptr (0 : Nat) (0 : Nat) (6 : Nat) (0 : Nat), SV.ptr (2 : Nat) (0 : Nat) (6 : Nat) (0 : Nat)]
        [BO.rows (6 : Nat) (1 : Nat) true (23 : Nat)
            [[SV.int IntKind.i64 w.d, SV.int IntKind.i64 w.m,
                SV.int IntKind.i64 (if w.m < IntKind.i64.wrap (w.c + w.d) then w.m else IntKind.i64.wrap (w.c + w.d)),
                SV.int IntKind.i64 w.t, SV.int IntKind.i64 w.s, SV.int IntKind.i64 (IntKind.i64.wrap (w.g - w.c))]],
          BO.rows (6 : Nat) (1 : Nat) true (25 : Nat)
            [[SV.int IntKind.i64 p.n, SV.int IntKind.i64 p.t, SV.int IntKind.i64 p.s, SV.bool p.a, SV.bool p.b,
                SV.bool p.c]],
          BO.rows (6 : Nat) (1 : Nat) true (23 : Nat)
            [[SV.int IntKind.i64 (0 : Int), SV.int IntKind.i64 (0 : Int), SV.int IntKind.i64 (0 : Int),
                SV.int IntKind.i64 (0 : Int), SV.int IntKind.i64 (0 : Int), SV.int IntKind.i64 (0 : Int)]]]
    else
      Kt (Ex.exit (0 : Nat)) (79 : Nat)
        [SV.ptr (0 : Nat) (0 : Nat) (6 : Nat) (0 : Nat), SV.ptr (2 : Nat) (0 : Nat) (6 : Nat) (0 : Nat)]
        [BO.rows (6 : Nat) (1 : Nat) true (23 : Nat)
            [[SV.int IntKind.i64 w.d, SV.int IntKind.i64 w.m, SV.int IntKind.i64 w.c, SV.int IntKind.i64 w.t,
                SV.int IntKind.i64 w.s, SV.int IntKind.i64 w.g]],
          BO.rows (6 : Nat) (1 : Nat) true (25 : Nat)
            [[SV.int IntKind.i64 p.n, SV.int IntKind.i64 p.t, SV.int IntKind.i64 p.s, SV.bool p.a, SV.bool p.b,
                SV.bool p.c]],
          BO.rows (6 : Nat) (1 : Nat) true (23 : Nat)
            [[SV.int IntKind.i64 (0 : Int), SV.int IntKind.i64 (0 : Int), SV.int IntKind.i64 (0 : Int),
                SV.int IntKind.i64 (0 : Int), SV.int IntKind.i64 (0 : Int), SV.int IntKind.i64 (0 : Int)]]]) := by kernel_rfl
theorem p13c (w : Wn) (p : Pk) (kk : SV → Prop) : evalC C5 0  0 c13_7 (tplF 79 L13 v13) ((h13 w p).map mkB) ( endK Try.prog Try.f13.results.toList (fun v _ => kk v)) = (
    kk
      (SV.tuple
        [SV.agg
            [SV.int IntKind.i64 w.d, SV.int IntKind.i64 w.m, SV.int IntKind.i64 w.c, SV.int IntKind.i64 w.t,
              SV.int IntKind.i64 w.s, SV.int IntKind.i64 w.g],
          SV.int IntKind.i64 (0 : Int)])) := by kernel_rfl
end Go.Proofs.Ytefjhkgkdmjopaa
