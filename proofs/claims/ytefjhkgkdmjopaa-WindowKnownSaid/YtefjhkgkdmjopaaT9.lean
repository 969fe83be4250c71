/-
  What functions of the program come to, way by way: printed by a program, held by the kernel.
-/
import Derived.Test.YtefjhkgkdmjopaaX9
namespace Go.Proofs.Ytefjhkgkdmjopaa
open Go.RowKit
set_option maxRecDepth 100000

theorem p10a (Kt : KT) : evalC C10 0  0 (.seq c10_0 (.seq c10_1 (.seq c10_2 .skip))) (enterS 159 []) [] ( obsN L10 [true, true] Kt) = (
    Kt Ex.normal (159 : Nat)
      [SV.bool false, SV.slice (0 : Nat) (0 : Nat) (1 : Nat) (19 : Nat), SV.slice (1 : Nat) (0 : Nat) (6 : Nat) (3 : Nat),
        SV.top, SV.top, SV.top, SV.top, SV.top]
      [BO.rows (1 : Nat) (19 : Nat) true (3 : Nat)
          [[SV.int IntKind.i64 (-9223372036854775808 : Int)], [SV.int IntKind.i64 (-2 : Int)],
            [SV.int IntKind.i64 (-1 : Int)], [SV.int IntKind.i64 (0 : Int)], [SV.int IntKind.i64 (1 : Int)],
            [SV.int IntKind.i64 (1199 : Int)], [SV.int IntKind.i64 (1200 : Int)], [SV.int IntKind.i64 (2399 : Int)],
            [SV.int IntKind.i64 (2400 : Int)], [SV.int IntKind.i64 (65527 : Int)], [SV.int IntKind.i64 (65528 : Int)],
            [SV.int IntKind.i64 (65535 : Int)], [SV.int IntKind.i64 (65536 : Int)], [SV.int IntKind.i64 (131054 : Int)],
            [SV.int IntKind.i64 (1099511627776 : Int)], [SV.int IntKind.i64 (1099511627777 : Int)],
            [SV.int IntKind.i64 (9007199254740991 : Int)], [SV.int IntKind.i64 (9007199254740992 : Int)],
            [SV.int IntKind.i64 (9223372036854775807 : Int)]],
        BO.rows (6 : Nat) (3 : Nat) true (23 : Nat)
          [[SV.int IntKind.i64 (1200 : Int), SV.int IntKind.i64 (2400 : Int), SV.int IntKind.i64 (2400 : Int),
              SV.int IntKind.i64 (-1 : Int), SV.int IntKind.i64 (-1 : Int), SV.int IntKind.i64 (0 : Int)],
            [SV.int IntKind.i64 (65527 : Int), SV.int IntKind.i64 (1099511627776 : Int),
              SV.int IntKind.i64 (1099511627776 : Int), SV.int IntKind.i64 (549755813888 : Int),
              SV.int IntKind.i64 (9007199254740991 : Int), SV.int IntKind.i64 (1099511627775 : Int)],
            [SV.int IntKind.i64 (1200 : Int), SV.int IntKind.i64 (131054 : Int), SV.int IntKind.i64 (2500 : Int),
              SV.int IntKind.i64 (1200 : Int), SV.int IntKind.i64 (5 : Int), SV.int IntKind.i64 (2499 : Int)]]]) := by kernel_rfl
theorem p10_3 (e : Nat → Int) (d : Nat → Nat → Int) (Kt : KT) : evalC C10 0  0 c10_3 (tplF 159 L10 (v10 .top .top .top .top .top)) ((h10 e d).map mkB) ( obsN L10 [false, false] Kt) = (
    Kt Ex.normal (159 : Nat)
      [SV.bool false, SV.slice (0 : Nat) (0 : Nat) (1 : Nat) (19 : Nat), SV.slice (1 : Nat) (0 : Nat) (6 : Nat) (3 : Nat),
        SV.int IntKind.i64 (0 : Int), SV.top, SV.top, SV.top, SV.top]
      [BO.raw (some (Blk.mk (1 : Nat) (19 : Nat) (fun r => [SV.int IntKind.i64 (e r)]) true (3 : Nat))),
        BO.raw
          (some
            (Blk.mk (6 : Nat) (3 : Nat)
              (fun r =>
                [SV.int IntKind.i64 (d r (0 : Nat)), SV.int IntKind.i64 (d r (1 : Nat)), SV.int IntKind.i64 (d r (2 : Nat)),
                  SV.int IntKind.i64 (d r (3 : Nat)), SV.int IntKind.i64 (d r (4 : Nat)),
                  SV.int IntKind.i64 (d r (5 : Nat))])
              true (23 : Nat)))]) := by kernel_rfl
theorem p10_4 (e : Nat → Int) (d : Nat → Nat → Int) (i : Nat) (Kt : KT) : evalC C10 0  0 c10_4 (tplF 159 L10 (v10 (.int .i64 i) .top .top .top .top)) ((h10 e d).map mkB) ( obsN L10 [false, false] Kt) = (
    bif decide ((↑i : Int) < (3 : Int)) then
      Kt Ex.normal (159 : Nat)
        [SV.bool false, SV.slice (0 : Nat) (0 : Nat) (1 : Nat) (19 : Nat), SV.slice (1 : Nat) (0 : Nat) (6 : Nat) (3 : Nat),
          SV.int IntKind.i64 (↑i : Int), SV.top, SV.top, SV.top, SV.top]
        [BO.raw (some (Blk.mk (1 : Nat) (19 : Nat) (fun r => [SV.int IntKind.i64 (e r)]) true (3 : Nat))),
          BO.raw
            (some
              (Blk.mk (6 : Nat) (3 : Nat)
                (fun r =>
                  [SV.int IntKind.i64 (d r (0 : Nat)), SV.int IntKind.i64 (d r (1 : Nat)),
                    SV.int IntKind.i64 (d r (2 : Nat)), SV.int IntKind.i64 (d r (3 : Nat)),
                    SV.int IntKind.i64 (d r (4 : Nat)), SV.int IntKind.i64 (d r (5 : Nat))])
                true (23 : Nat)))]
    else
      Kt (Ex.exit (0 : Nat)) (159 : Nat)
        [SV.bool false, SV.slice (0 : Nat) (0 : Nat) (1 : Nat) (19 : Nat), SV.slice (1 : Nat) (0 : Nat) (6 : Nat) (3 : Nat),
          SV.int IntKind.i64 (↑i : Int), SV.top, SV.top, SV.top, SV.top]
        [BO.raw (some (Blk.mk (1 : Nat) (19 : Nat) (fun r => [SV.int IntKind.i64 (e r)]) true (3 : Nat))),
          BO.raw
            (some
              (Blk.mk (6 : Nat) (3 : Nat)
                (fun r =>
                  [SV.int IntKind.i64 (d r (0 : Nat)), SV.int IntKind.i64 (d r (1 : Nat)),
                    SV.int IntKind.i64 (d r (2 : Nat)), SV.int IntKind.i64 (d r (3 : Nat)),
                    SV.int IntKind.i64 (d r (4 : Nat)), SV.int IntKind.i64 (d r (5 : Nat))])
                true (23 : Nat)))]) := by kernel_rfl
theorem p10_5 (e : Nat → Int) (d : Nat → Nat → Int) (i : Nat) (Kt : KT) : evalC C10 0  0 c10_5 (tplF 159 L10 (v10 (.int .i64 i) .top .top .top .top)) ((h10 e d).map mkB) ( obsN L10 [false, false] Kt) = (
    Kt Ex.normal (159 : Nat)
      [SV.bool false, SV.slice (0 : Nat) (0 : Nat) (1 : Nat) (19 : Nat), SV.slice (1 : Nat) (0 : Nat) (6 : Nat) (3 : Nat),
        SV.int IntKind.i64 (↑i : Int), SV.int IntKind.i64 (0 : Int), SV.top, SV.top, SV.top]
      [BO.raw (some (Blk.mk (1 : Nat) (19 : Nat) (fun r => [SV.int IntKind.i64 (e r)]) true (3 : Nat))),
        BO.raw
          (some
            (Blk.mk (6 : Nat) (3 : Nat)
              (fun r =>
                [SV.int IntKind.i64 (d r (0 : Nat)), SV.int IntKind.i64 (d r (1 : Nat)), SV.int IntKind.i64 (d r (2 : Nat)),
                  SV.int IntKind.i64 (d r (3 : Nat)), SV.int IntKind.i64 (d r (4 : Nat)),
                  SV.int IntKind.i64 (d r (5 : Nat))])
              true (23 : Nat)))]) := by kernel_rfl
theorem p10_6 (e : Nat → Int) (d : Nat → Nat → Int) (i k : Nat) (Kt : KT) : evalC C10 0  0 c10_6 (tplF 159 L10 (v10 (.int .i64 i) (.int .i64 k) .top .top .top)) ((h10 e d).map mkB) ( obsN L10 [false, false] Kt) = (
    bif decide ((↑k : Int) < (19 : Int)) then
      Kt Ex.normal (159 : Nat)
        [SV.bool false, SV.slice (0 : Nat) (0 : Nat) (1 : Nat) (19 : Nat), SV.slice (1 : Nat) (0 : Nat) (6 : Nat) (3 : Nat),
          SV.int IntKind.i64 (↑i : Int), SV.int IntKind.i64 (↑k : Int), SV.top, SV.top, SV.top]
        [BO.raw (some (Blk.mk (1 : Nat) (19 : Nat) (fun r => [SV.int IntKind.i64 (e r)]) true (3 : Nat))),
          BO.raw
            (some
              (Blk.mk (6 : Nat) (3 : Nat)
                (fun r =>
                  [SV.int IntKind.i64 (d r (0 : Nat)), SV.int IntKind.i64 (d r (1 : Nat)),
                    SV.int IntKind.i64 (d r (2 : Nat)), SV.int IntKind.i64 (d r (3 : Nat)),
                    SV.int IntKind.i64 (d r (4 : Nat)), SV.int IntKind.i64 (d r (5 : Nat))])
                true (23 : Nat)))]
    else
      Kt (Ex.exit (2 : Nat)) (159 : Nat)
        [SV.bool false, SV.slice (0 : Nat) (0 : Nat) (1 : Nat) (19 : Nat), SV.slice (1 : Nat) (0 : Nat) (6 : Nat) (3 : Nat),
          SV.int IntKind.i64 (↑i : Int), SV.int IntKind.i64 (↑k : Int), SV.top, SV.top, SV.top]
        [BO.raw (some (Blk.mk (1 : Nat) (19 : Nat) (fun r => [SV.int IntKind.i64 (e r)]) true (3 : Nat))),
          BO.raw
            (some
              (Blk.mk (6 : Nat) (3 : Nat)
                (fun r =>
                  [SV.int IntKind.i64 (d r (0 : Nat)), SV.int IntKind.i64 (d r (1 : Nat)),
                    SV.int IntKind.i64 (d r (2 : Nat)), SV.int IntKind.i64 (d r (3 : Nat)),
                    SV.int IntKind.i64 (d r (4 : Nat)), SV.int IntKind.i64 (d r (5 : Nat))])
                true (23 : Nat)))]) := by kernel_rfl
theorem p10_7 (e : Nat → Int) (d : Nat → Nat → Int) (i k : Nat) (Kt : KT) : evalC C10 0  0 (.seq c10_7 (.seq c10_8 (.seq c10_9 .skip))) (tplF 159 L10 (v10 (.int .i64 i) (.int .i64 k) .top .top .top)) ((h10 e d).map mkB) ( obsN L10 [false, false, true] Kt) = (
    bif decide ((↑i : Int) < (3 : Int)) then
      bif decide ((0 : Nat) + (↑i : Int).toNat < (3 : Nat)) && true then
        bif decide ((↑i : Int) < (3 : Int)) then
          bif decide ((0 : Nat) + (↑i : Int).toNat < (3 : Nat)) && true then
            bif decide ((↑i : Int) < (3 : Int)) then
              bif decide ((0 : Nat) + (↑i : Int).toNat < (3 : Nat)) && true then
                bif decide ((↑i : Int) < (3 : Int)) then
                  bif decide ((0 : Nat) + (↑i : Int).toNat < (3 : Nat)) && true then
                    bif decide ((↑i : Int) < (3 : Int)) then
                      bif decide ((0 : Nat) + (↑i : Int).toNat < (3 : Nat)) && true then
                        bif decide ((↑i : Int) < (3 : Int)) then
                          bif decide ((0 : Nat) + (↑i : Int).toNat < (3 : Nat)) && true then
                            bif decide ((↑k : Int) < (19 : Int)) then
                              bif decide ((0 : Nat) + (↑k : Int).toNat < (19 : Nat)) && true then
                                bif decide ((↑k : Int) < (19 : Int)) then
                                  bif decide ((0 : Nat) + (↑k : Int).toNat < (19 : Nat)) && true then
                                    bif decide ((↑k : Int) < (19 : Int)) then
                                      bif decide ((0 : Nat) + (↑k : Int).toNat < (19 : Nat)) && true then
                                        bif decide ((↑k : Int) < (19 : Int)) then
                                          bif decide ((0 : Nat) + (↑k : Int).toNat < (19 : Nat)) && true then
                                            bif decide ((↑k : Int) < (19 : Int)) then
                                              bif decide ((0 : Nat) + (↑k : Int).toNat < (19 : Nat)) && true then
                                                bif decide ((↑k : Int) < (19 : Int)) then
                                                  bif decide ((0 : Nat) + (↑k : Int).toNat < (19 : Nat)) && true then
                                                    Kt Ex.normal (159 : Nat)
                                                      [SV.bool false, SV.slice (0 : Nat) (0 : Nat) (1 : Nat) (19 : Nat),
                                                        SV.slice (1 : Nat) (0 : Nat) (6 : Nat) (3 : Nat),
                                                        SV.int IntKind.i64 (↑i : Int), SV.int IntKind.i64 (↑k : Int),
                                                        SV.slice (2 : Nat) (0 : Nat) (6 : Nat) (6 : Nat),
                                                        SV.int IntKind.i64 (0 : Int), SV.top]
                                                      [BO.raw
                                                          (some
                                                            (Blk.mk (1 : Nat) (19 : Nat)
                                                              (fun r => [SV.int IntKind.i64 (e r)]) true (3 : Nat))),
                                                        BO.raw
                                                          (some
                                                            (Blk.mk (6 : Nat) (3 : Nat)
                                                              (fun r =>
                                                                [SV.int IntKind.i64 (d r (0 : Nat)),
                                                                  SV.int IntKind.i64 (d r (1 : Nat)),
                                                                  SV.int IntKind.i64 (d r (2 : Nat)),
                                                                  SV.int IntKind.i64 (d r (3 : Nat)),
                                                                  SV.int IntKind.i64 (d r (4 : Nat)),
                                                                  SV.int IntKind.i64 (d r (5 : Nat))])
                                                              true (23 : Nat))),
                                                        BO.rows (6 : Nat) (6 : Nat) true (23 : Nat)
                                                          [[SV.int IntKind.i64 (e ((0 : Nat) + (↑k : Int).toNat)),
                                                              SV.int IntKind.i64
                                                                (d ((0 : Nat) + (↑i : Int).toNat) (1 : Nat)),
                                                              SV.int IntKind.i64
                                                                (d ((0 : Nat) + (↑i : Int).toNat) (2 : Nat)),
                                                              SV.int IntKind.i64
                                                                (d ((0 : Nat) + (↑i : Int).toNat) (3 : Nat)),
                                                              SV.int IntKind.i64
                                                                (d ((0 : Nat) + (↑i : Int).toNat) (4 : Nat)),
                                                              SV.int IntKind.i64
                                                                (d ((0 : Nat) + (↑i : Int).toNat) (5 : Nat))],
                                                            [SV.int IntKind.i64
                                                                (d ((0 : Nat) + (↑i : Int).toNat) (0 : Nat)),
                                                              SV.int IntKind.i64 (e ((0 : Nat) + (↑k : Int).toNat)),
                                                              SV.int IntKind.i64
                                                                (d ((0 : Nat) + (↑i : Int).toNat) (2 : Nat)),
                                                              SV.int IntKind.i64
                                                                (d ((0 : Nat) + (↑i : Int).toNat) (3 : Nat)),
                                                              SV.int IntKind.i64
                                                                (d ((0 : Nat) + (↑i : Int).toNat) (4 : Nat)),
                                                              SV.int IntKind.i64
                                                                (d ((0 : Nat) + (↑i : Int).toNat) (5 : Nat))],
                                                            [SV.int IntKind.i64
                                                                (d ((0 : Nat) + (↑i : Int).toNat) (0 : Nat)),
                                                              SV.int IntKind.i64
                                                                (d ((0 : Nat) + (↑i : Int).toNat) (1 : Nat)),
                                                              SV.int IntKind.i64 (e ((0 : Nat) + (↑k : Int).toNat)),
                                                              SV.int IntKind.i64
                                                                (d ((0 : Nat) + (↑i : Int).toNat) (3 : Nat)),
                                                              SV.int IntKind.i64
                                                                (d ((0 : Nat) + (↑i : Int).toNat) (4 : Nat)),
                                                              SV.int IntKind.i64
                                                                (d ((0 : Nat) + (↑i : Int).toNat) (5 : Nat))],
                                                            [SV.int IntKind.i64
                                                                (d ((0 : Nat) + (↑i : Int).toNat) (0 : Nat)),
                                                              SV.int IntKind.i64
                                                                (d ((0 : Nat) + (↑i : Int).toNat) (1 : Nat)),
                                                              SV.int IntKind.i64
                                                                (d ((0 : Nat) + (↑i : Int).toNat) (2 : Nat)),
                                                              SV.int IntKind.i64 (e ((0 : Nat) + (↑k : Int).toNat)),
                                                              SV.int IntKind.i64
                                                                (d ((0 : Nat) + (↑i : Int).toNat) (4 : Nat)),
                                                              SV.int IntKind.i64
                                                                (d ((0 : Nat) + (↑i : Int).toNat) (5 : Nat))],
                                                            [SV.int IntKind.i64
                                                                (d ((0 : Nat) + (↑i : Int).toNat) (0 : Nat)),
                                                              SV.int IntKind.i64
                                                                (d ((0 : Nat) + (↑i : Int).toNat) (1 : Nat)),
                                                              SV.int IntKind.i64
                                                                (d ((0 : Nat) + (↑i : Int).toNat) (2 : Nat)),
                                                              SV.int IntKind.i64
                                                                (d ((0 : Nat) + (↑i : Int).toNat) (3 : Nat)),
                                                              SV.int IntKind.i64 (e ((0 : Nat) + (↑k : Int).toNat)),
                                                              SV.int IntKind.i64
                                                                (d ((0 : Nat) + (↑i : Int).toNat) (5 : Nat))],
                                                            [SV.int IntKind.i64
                                                                (d ((0 : Nat) + (↑i : Int).toNat) (0 : Nat)),
                                                              SV.int IntKind.i64
                                                                (d ((0 : Nat) + (↑i : Int).toNat) (1 : Nat)),
                                                              SV.int IntKind.i64
                                                                (d ((0 : Nat) + (↑i : Int).toNat) (2 : Nat)),
                                                              SV.int IntKind.i64
                                                                (d ((0 : Nat) + (↑i : Int).toNat) (3 : Nat)),
                                                              SV.int IntKind.i64
                                                                (d ((0 : Nat) + (↑i : Int).toNat) (4 : Nat)),
                                                              SV.int IntKind.i64 (e ((0 : Nat) + (↑k : Int).toNat))]]]
                                                  else False
                                                else False
                                              else False
                                            else False
                                          else False
                                        else False
                                      else False
                                    else False
                                  else False
                                else False
                              else False
                            else False
                          else False
                        else False
                      else False
                    else False
                  else False
                else False
              else False
            else False
          else False
        else False
      else False
    else False) := by kernel_rfl
theorem p10_10 (e : Nat → Int) (d q : Nat → Nat → Int) (i k n : Nat) (Kt : KT) : evalC C10 0  0 c10_10 (tplF 159 L10 (v10 (.int .i64 i) (.int .i64 k) (.slice 2 0 6 6) (.int .i64 n) .top)) ((h10l e d q).map mkB) ( obsN L10 [false, false, false] Kt) = (
    bif decide ((↑n : Int) < (6 : Int)) then
      Kt Ex.normal (159 : Nat)
        [SV.bool false, SV.slice (0 : Nat) (0 : Nat) (1 : Nat) (19 : Nat), SV.slice (1 : Nat) (0 : Nat) (6 : Nat) (3 : Nat),
          SV.int IntKind.i64 (↑i : Int), SV.int IntKind.i64 (↑k : Int), SV.slice (2 : Nat) (0 : Nat) (6 : Nat) (6 : Nat),
          SV.int IntKind.i64 (↑n : Int), SV.top]
        [BO.raw (some (Blk.mk (1 : Nat) (19 : Nat) (fun r => [SV.int IntKind.i64 (e r)]) true (3 : Nat))),
          BO.raw
            (some
              (Blk.mk (6 : Nat) (3 : Nat)
                (fun r =>
                  [SV.int IntKind.i64 (d r (0 : Nat)), SV.int IntKind.i64 (d r (1 : Nat)),
                    SV.int IntKind.i64 (d r (2 : Nat)), SV.int IntKind.i64 (d r (3 : Nat)),
                    SV.int IntKind.i64 (d r (4 : Nat)), SV.int IntKind.i64 (d r (5 : Nat))])
                true (23 : Nat))),
          BO.raw
            (some
              (Blk.mk (6 : Nat) (6 : Nat)
                (fun r =>
                  [SV.int IntKind.i64 (q r (0 : Nat)), SV.int IntKind.i64 (q r (1 : Nat)),
                    SV.int IntKind.i64 (q r (2 : Nat)), SV.int IntKind.i64 (q r (3 : Nat)),
                    SV.int IntKind.i64 (q r (4 : Nat)), SV.int IntKind.i64 (q r (5 : Nat))])
                true (23 : Nat)))]
    else
      Kt (Ex.exit (4 : Nat)) (159 : Nat)
        [SV.bool false, SV.slice (0 : Nat) (0 : Nat) (1 : Nat) (19 : Nat), SV.slice (1 : Nat) (0 : Nat) (6 : Nat) (3 : Nat),
          SV.int IntKind.i64 (↑i : Int), SV.int IntKind.i64 (↑k : Int), SV.slice (2 : Nat) (0 : Nat) (6 : Nat) (6 : Nat),
          SV.int IntKind.i64 (↑n : Int), SV.top]
        [BO.raw (some (Blk.mk (1 : Nat) (19 : Nat) (fun r => [SV.int IntKind.i64 (e r)]) true (3 : Nat))),
          BO.raw
            (some
              (Blk.mk (6 : Nat) (3 : Nat)
                (fun r =>
                  [SV.int IntKind.i64 (d r (0 : Nat)), SV.int IntKind.i64 (d r (1 : Nat)),
                    SV.int IntKind.i64 (d r (2 : Nat)), SV.int IntKind.i64 (d r (3 : Nat)),
                    SV.int IntKind.i64 (d r (4 : Nat)), SV.int IntKind.i64 (d r (5 : Nat))])
                true (23 : Nat))),
          BO.raw
            (some
              (Blk.mk (6 : Nat) (6 : Nat)
                (fun r =>
                  [SV.int IntKind.i64 (q r (0 : Nat)), SV.int IntKind.i64 (q r (1 : Nat)),
                    SV.int IntKind.i64 (q r (2 : Nat)), SV.int IntKind.i64 (q r (3 : Nat)),
                    SV.int IntKind.i64 (q r (4 : Nat)), SV.int IntKind.i64 (q r (5 : Nat))])
                true (23 : Nat)))]) := by kernel_rfl
theorem p10_11 (e : Nat → Int) (d q : Nat → Nat → Int) (i k n : Nat) (Kt : KT) : evalC C10 0  0 c10_11 (tplF 159 L10 (v10 (.int .i64 i) (.int .i64 k) (.slice 2 0 6 6) (.int .i64 n) .top)) ((h10l e d q).map mkB) ( obsN L10 [false, false, false] Kt) = (
    Kt Ex.normal (159 : Nat)
      [SV.bool false, SV.slice (0 : Nat) (0 : Nat) (1 : Nat) (19 : Nat), SV.slice (1 : Nat) (0 : Nat) (6 : Nat) (3 : Nat),
        SV.int IntKind.i64 (↑i : Int), SV.int IntKind.i64 (↑k : Int), SV.slice (2 : Nat) (0 : Nat) (6 : Nat) (6 : Nat),
        SV.int IntKind.i64 (↑n : Int), SV.int IntKind.i64 (0 : Int)]
      [BO.raw (some (Blk.mk (1 : Nat) (19 : Nat) (fun r => [SV.int IntKind.i64 (e r)]) true (3 : Nat))),
        BO.raw
          (some
            (Blk.mk (6 : Nat) (3 : Nat)
              (fun r =>
                [SV.int IntKind.i64 (d r (0 : Nat)), SV.int IntKind.i64 (d r (1 : Nat)), SV.int IntKind.i64 (d r (2 : Nat)),
                  SV.int IntKind.i64 (d r (3 : Nat)), SV.int IntKind.i64 (d r (4 : Nat)),
                  SV.int IntKind.i64 (d r (5 : Nat))])
              true (23 : Nat))),
        BO.raw
          (some
            (Blk.mk (6 : Nat) (6 : Nat)
              (fun r =>
                [SV.int IntKind.i64 (q r (0 : Nat)), SV.int IntKind.i64 (q r (1 : Nat)), SV.int IntKind.i64 (q r (2 : Nat)),
                  SV.int IntKind.i64 (q r (3 : Nat)), SV.int IntKind.i64 (q r (4 : Nat)),
                  SV.int IntKind.i64 (q r (5 : Nat))])
              true (23 : Nat)))]) := by kernel_rfl
theorem p10_12 (e : Nat → Int) (d q : Nat → Nat → Int) (i k n m : Nat) (Kt : KT) : evalC C10 0  0 c10_12 (tplF 159 L10 (v10 (.int .i64 i) (.int .i64 k) (.slice 2 0 6 6) (.int .i64 n) (.int .i64 m))) ((h10l e d q).map mkB) ( obsN L10 [false, false, false] Kt) = (
    bif decide ((↑m : Int) < (19 : Int)) then
      bif decide ((↑n : Int) < (6 : Int)) then
        bif decide ((0 : Nat) + (↑n : Int).toNat < (6 : Nat)) && true then
          bif decide ((↑m : Int) < (19 : Int)) then
            bif decide ((0 : Nat) + (↑m : Int).toNat < (19 : Nat)) && true then
              bif decide ((↑m : Int) < (19 : Int)) then
                bif decide ((0 : Nat) + (↑m : Int).toNat < (19 : Nat)) && true then
                  bif decide ((↑n : Int) < (6 : Int)) then
                    bif decide ((0 : Nat) + (↑n : Int).toNat < (6 : Nat)) && true then
                      bif decide ((↑m : Int) < (19 : Int)) then
                        bif decide ((0 : Nat) + (↑m : Int).toNat < (19 : Nat)) && true then
                          bif decide ((↑m : Int) < (19 : Int)) then
                            bif decide ((0 : Nat) + (↑m : Int).toNat < (19 : Nat)) && true then
                              bif decide ((↑i : Int) < (3 : Int)) then
                                bif decide ((0 : Nat) + (↑i : Int).toNat < (3 : Nat)) && true then
                                  bif decide ((↑m : Int) < (19 : Int)) then
                                    bif decide ((0 : Nat) + (↑m : Int).toNat < (19 : Nat)) && true then
                                      bif decide ((↑k : Int) < (19 : Int)) then
                                        bif decide ((0 : Nat) + (↑k : Int).toNat < (19 : Nat)) && true then
                                          Kt Ex.normal (159 : Nat)
                                            [SV.bool false, SV.slice (0 : Nat) (0 : Nat) (1 : Nat) (19 : Nat),
                                              SV.slice (1 : Nat) (0 : Nat) (6 : Nat) (3 : Nat),
                                              SV.int IntKind.i64 (↑i : Int), SV.int IntKind.i64 (↑k : Int),
                                              SV.slice (2 : Nat) (0 : Nat) (6 : Nat) (6 : Nat),
                                              SV.int IntKind.i64 (↑n : Int),
                                              SV.int IntKind.i64 (IntKind.i64.wrap ((↑m : Int) + (1 : Int)))]
                                            [BO.raw
                                                (some
                                                  (Blk.mk (1 : Nat) (19 : Nat) (fun r => [SV.int IntKind.i64 (e r)]) true
                                                    (3 : Nat))),
                                              BO.raw
                                                (some
                                                  (Blk.mk (6 : Nat) (3 : Nat)
                                                    (fun r =>
                                                      [SV.int IntKind.i64 (d r (0 : Nat)),
                                                        SV.int IntKind.i64 (d r (1 : Nat)),
                                                        SV.int IntKind.i64 (d r (2 : Nat)),
                                                        SV.int IntKind.i64 (d r (3 : Nat)),
                                                        SV.int IntKind.i64 (d r (4 : Nat)),
                                                        SV.int IntKind.i64 (d r (5 : Nat))])
                                                    true (23 : Nat))),
                                              BO.raw
                                                (some
                                                  (Blk.mk (6 : Nat) (6 : Nat)
                                                    (fun r =>
                                                      [SV.int IntKind.i64 (q r (0 : Nat)),
                                                        SV.int IntKind.i64 (q r (1 : Nat)),
                                                        SV.int IntKind.i64 (q r (2 : Nat)),
                                                        SV.int IntKind.i64 (q r (3 : Nat)),
                                                        SV.int IntKind.i64 (q r (4 : Nat)),
                                                        SV.int IntKind.i64 (q r (5 : Nat))])
                                                    true (23 : Nat)))]
                                        else False
                                      else False
                                    else False
                                  else False
                                else False
                              else False
                            else False
                          else False
                        else False
                      else False
                    else False
                  else False
                else False
              else False
            else False
          else False
        else False
      else False
    else
      Kt (Ex.exit (6 : Nat)) (159 : Nat)
        [SV.bool false, SV.slice (0 : Nat) (0 : Nat) (1 : Nat) (19 : Nat), SV.slice (1 : Nat) (0 : Nat) (6 : Nat) (3 : Nat),
          SV.int IntKind.i64 (↑i : Int), SV.int IntKind.i64 (↑k : Int), SV.slice (2 : Nat) (0 : Nat) (6 : Nat) (6 : Nat),
          SV.int IntKind.i64 (↑n : Int), SV.int IntKind.i64 (↑m : Int)]
        [BO.raw (some (Blk.mk (1 : Nat) (19 : Nat) (fun r => [SV.int IntKind.i64 (e r)]) true (3 : Nat))),
          BO.raw
            (some
              (Blk.mk (6 : Nat) (3 : Nat)
                (fun r =>
                  [SV.int IntKind.i64 (d r (0 : Nat)), SV.int IntKind.i64 (d r (1 : Nat)),
                    SV.int IntKind.i64 (d r (2 : Nat)), SV.int IntKind.i64 (d r (3 : Nat)),
                    SV.int IntKind.i64 (d r (4 : Nat)), SV.int IntKind.i64 (d r (5 : Nat))])
                true (23 : Nat))),
          BO.raw
            (some
              (Blk.mk (6 : Nat) (6 : Nat)
                (fun r =>
                  [SV.int IntKind.i64 (q r (0 : Nat)), SV.int IntKind.i64 (q r (1 : Nat)),
                    SV.int IntKind.i64 (q r (2 : Nat)), SV.int IntKind.i64 (q r (3 : Nat)),
                    SV.int IntKind.i64 (q r (4 : Nat)), SV.int IntKind.i64 (q r (5 : Nat))])
                true (23 : Nat)))]) := by kernel_rfl
theorem p10_13 (e : Nat → Int) (d q : Nat → Nat → Int) (i k n : Nat) (Kt : KT) : evalC C10 0  0 c10_13 (tplF 159 L10 (v10 (.int .i64 i) (.int .i64 k) (.slice 2 0 6 6) (.int .i64 n) .top)) ((h10l e d q).map mkB) ( obsN L10 [false, false, false] Kt) = (
    Kt Ex.normal (159 : Nat)
      [SV.bool false, SV.slice (0 : Nat) (0 : Nat) (1 : Nat) (19 : Nat), SV.slice (1 : Nat) (0 : Nat) (6 : Nat) (3 : Nat),
        SV.int IntKind.i64 (↑i : Int), SV.int IntKind.i64 (↑k : Int), SV.slice (2 : Nat) (0 : Nat) (6 : Nat) (6 : Nat),
        SV.int IntKind.i64 (IntKind.i64.wrap ((↑n : Int) + (1 : Int))), SV.top]
      [BO.raw (some (Blk.mk (1 : Nat) (19 : Nat) (fun r => [SV.int IntKind.i64 (e r)]) true (3 : Nat))),
        BO.raw
          (some
            (Blk.mk (6 : Nat) (3 : Nat)
              (fun r =>
                [SV.int IntKind.i64 (d r (0 : Nat)), SV.int IntKind.i64 (d r (1 : Nat)), SV.int IntKind.i64 (d r (2 : Nat)),
                  SV.int IntKind.i64 (d r (3 : Nat)), SV.int IntKind.i64 (d r (4 : Nat)),
                  SV.int IntKind.i64 (d r (5 : Nat))])
              true (23 : Nat))),
        BO.raw
          (some
            (Blk.mk (6 : Nat) (6 : Nat)
              (fun r =>
                [SV.int IntKind.i64 (q r (0 : Nat)), SV.int IntKind.i64 (q r (1 : Nat)), SV.int IntKind.i64 (q r (2 : Nat)),
                  SV.int IntKind.i64 (q r (3 : Nat)), SV.int IntKind.i64 (q r (4 : Nat)),
                  SV.int IntKind.i64 (q r (5 : Nat))])
              true (23 : Nat)))]) := by kernel_rfl
theorem p10_14 (e : Nat → Int) (d : Nat → Nat → Int) (i k : Nat) (Kt : KT) : evalC C10 0  0 c10_14 (tplF 159 L10 (v10 (.int .i64 i) (.int .i64 k) .top .top .top)) ((h10 e d).map mkB) ( obsN L10 [false, false] Kt) = (
    Kt Ex.normal (159 : Nat)
      [SV.bool false, SV.slice (0 : Nat) (0 : Nat) (1 : Nat) (19 : Nat), SV.slice (1 : Nat) (0 : Nat) (6 : Nat) (3 : Nat),
        SV.int IntKind.i64 (↑i : Int), SV.int IntKind.i64 (IntKind.i64.wrap ((↑k : Int) + (1 : Int))), SV.top, SV.top,
        SV.top]
      [BO.raw (some (Blk.mk (1 : Nat) (19 : Nat) (fun r => [SV.int IntKind.i64 (e r)]) true (3 : Nat))),
        BO.raw
          (some
            (Blk.mk (6 : Nat) (3 : Nat)
              (fun r =>
                [SV.int IntKind.i64 (d r (0 : Nat)), SV.int IntKind.i64 (d r (1 : Nat)), SV.int IntKind.i64 (d r (2 : Nat)),
                  SV.int IntKind.i64 (d r (3 : Nat)), SV.int IntKind.i64 (d r (4 : Nat)),
                  SV.int IntKind.i64 (d r (5 : Nat))])
              true (23 : Nat)))]) := by kernel_rfl
theorem p10_15 (e : Nat → Int) (d : Nat → Nat → Int) (i : Nat) (Kt : KT) : evalC C10 0  0 c10_15 (tplF 159 L10 (v10 (.int .i64 i) .top .top .top .top)) ((h10 e d).map mkB) ( obsN L10 [false, false] Kt) = (
    Kt Ex.normal (159 : Nat)
      [SV.bool false, SV.slice (0 : Nat) (0 : Nat) (1 : Nat) (19 : Nat), SV.slice (1 : Nat) (0 : Nat) (6 : Nat) (3 : Nat),
        SV.int IntKind.i64 (IntKind.i64.wrap ((↑i : Int) + (1 : Int))), SV.top, SV.top, SV.top, SV.top]
      [BO.raw (some (Blk.mk (1 : Nat) (19 : Nat) (fun r => [SV.int IntKind.i64 (e r)]) true (3 : Nat))),
        BO.raw
          (some
            (Blk.mk (6 : Nat) (3 : Nat)
              (fun r =>
                [SV.int IntKind.i64 (d r (0 : Nat)), SV.int IntKind.i64 (d r (1 : Nat)), SV.int IntKind.i64 (d r (2 : Nat)),
                  SV.int IntKind.i64 (d r (3 : Nat)), SV.int IntKind.i64 (d r (4 : Nat)),
                  SV.int IntKind.i64 (d r (5 : Nat))])
              true (23 : Nat)))]) := by kernel_rfl
theorem p10_16 (e : Nat → Int) (d : Nat → Nat → Int) (Kt : KT) : evalC C10 0  0 c10_16 (tplF 159 L10 (v10 .top .top .top .top .top)) ((h10 e d).map mkB) ( obs [0] [] Kt) = (
    Kt Ex.ret (159 : Nat) [SV.bool true] []) := by kernel_rfl
end Go.Proofs.Ytefjhkgkdmjopaa
