/-
  What functions of the program come to, way by way: printed by a program, held by the kernel.
-/
import Derived.Test.YtfoogfhcjnpokaaX10
namespace Go.Proofs.Ytfoogfhcjnpokaa
open Go.RowKit
set_option maxRecDepth 100000

theorem p4a (Kt : KT) : evalC C13 0  0 (.seq c4_0 (.seq c4_1 .skip)) (enterS 117 []) [] ( obsN L4 [true] Kt) = (
    Kt Ex.normal (117 : Nat) [SV.bool false, SV.slice (0 : Nat) (0 : Nat) (1 : Nat) (10 : Nat), SV.top, SV.top]
      [BO.rows (1 : Nat) (10 : Nat) true (3 : Nat)
          [[SV.int IntKind.i64 (-9223372036854775808 : Int)], [SV.int IntKind.i64 (-2 : Int)],
            [SV.int IntKind.i64 (-1 : Int)], [SV.int IntKind.i64 (0 : Int)], [SV.int IntKind.i64 (1 : Int)],
            [SV.int IntKind.i64 (256 : Int)], [SV.int IntKind.i64 (257 : Int)],
            [SV.int IntKind.i64 (9007199254740991 : Int)], [SV.int IntKind.i64 (9007199254740992 : Int)],
            [SV.int IntKind.i64 (9223372036854775807 : Int)]]]) := by kernel_rfl
theorem p4_2 (e : Nat → Int) (Kt : KT) : evalC C13 0  0 c4_2 (tplF 117 L4 (v4 .top .top)) ((h4 e).map mkB) ( obsN L4 [false] Kt) = (
    Kt Ex.normal (117 : Nat)
      [SV.bool false, SV.slice (0 : Nat) (0 : Nat) (1 : Nat) (10 : Nat), SV.int IntKind.i64 (0 : Int), SV.top]
      [BO.raw (some (Blk.mk (1 : Nat) (10 : Nat) (fun r => [SV.int IntKind.i64 (e r)]) true (3 : Nat)))]) := by kernel_rfl
theorem p4_3 (e : Nat → Int) (i : Nat) (Kt : KT) : evalC C13 0  0 c4_3 (tplF 117 L4 (v4 (.int .i64 i) .top)) ((h4 e).map mkB) ( obsN L4 [false] Kt) = (
    bif decide ((↑i : Int) < (10 : Int)) then
      Kt Ex.normal (117 : Nat)
        [SV.bool false, SV.slice (0 : Nat) (0 : Nat) (1 : Nat) (10 : Nat), SV.int IntKind.i64 (↑i : Int), SV.top]
        [BO.raw (some (Blk.mk (1 : Nat) (10 : Nat) (fun r => [SV.int IntKind.i64 (e r)]) true (3 : Nat)))]
    else
      Kt (Ex.exit (0 : Nat)) (117 : Nat)
        [SV.bool false, SV.slice (0 : Nat) (0 : Nat) (1 : Nat) (10 : Nat), SV.int IntKind.i64 (↑i : Int), SV.top]
        [BO.raw (some (Blk.mk (1 : Nat) (10 : Nat) (fun r => [SV.int IntKind.i64 (e r)]) true (3 : Nat)))]) := by kernel_rfl
theorem p4_4 (e : Nat → Int) (i : Nat) (Kt : KT) : evalC C13 0  0 c4_4 (tplF 117 L4 (v4 (.int .i64 i) .top)) ((h4 e).map mkB) ( obsN L4 [false] Kt) = (
    Kt Ex.normal (117 : Nat)
      [SV.bool false, SV.slice (0 : Nat) (0 : Nat) (1 : Nat) (10 : Nat), SV.int IntKind.i64 (↑i : Int),
        SV.int IntKind.i64 (0 : Int)]
      [BO.raw (some (Blk.mk (1 : Nat) (10 : Nat) (fun r => [SV.int IntKind.i64 (e r)]) true (3 : Nat)))]) := by kernel_rfl
theorem p4_5 (e : Nat → Int) (i k : Nat) (Kt : KT) : evalC C13 0  0 c4_5 (tplF 117 L4 (v4 (.int .i64 i) (.int .i64 k))) ((h4 e).map mkB) ( obsN L4 [false] Kt) = (
    bif decide ((↑k : Int) < (10 : Int)) then
      Kt Ex.normal (117 : Nat)
        [SV.bool false, SV.slice (0 : Nat) (0 : Nat) (1 : Nat) (10 : Nat), SV.int IntKind.i64 (↑i : Int),
          SV.int IntKind.i64 (↑k : Int)]
        [BO.raw (some (Blk.mk (1 : Nat) (10 : Nat) (fun r => [SV.int IntKind.i64 (e r)]) true (3 : Nat)))]
    else
      Kt (Ex.exit (2 : Nat)) (117 : Nat)
        [SV.bool false, SV.slice (0 : Nat) (0 : Nat) (1 : Nat) (10 : Nat), SV.int IntKind.i64 (↑i : Int),
          SV.int IntKind.i64 (↑k : Int)]
        [BO.raw (some (Blk.mk (1 : Nat) (10 : Nat) (fun r => [SV.int IntKind.i64 (e r)]) true (3 : Nat)))]) := by kernel_rfl
theorem p4_6 (e : Nat → Int) (i k : Nat) (Kt : KT) : evalC C13 64  0 (.seq c4_6 (.block 4 (.loop c4_7))) (tplF 117 L4 (v4 (.int .i64 i) (.int .i64 k))) ((h4 e).map mkB) ( obsN L4 [false] Kt) = (
    bif decide ((↑i : Int) < (10 : Int)) then
      bif decide ((0 : Nat) + (↑i : Int).toNat < (10 : Nat)) && true then
        bif decide ((↑k : Int) < (10 : Int)) then
          bif decide ((0 : Nat) + (↑k : Int).toNat < (10 : Nat)) && true then
            bif decide ((↑k : Int) < (10 : Int)) then
              bif decide ((0 : Nat) + (↑k : Int).toNat < (10 : Nat)) && true then
                bif decide ((↑i : Int) < (10 : Int)) then
                  bif decide ((0 : Nat) + (↑i : Int).toNat < (10 : Nat)) && true then
                    bif decide ((↑i : Int) < (10 : Int)) then
                      bif decide ((0 : Nat) + (↑i : Int).toNat < (10 : Nat)) && true then
                        bif decide ((↑k : Int) < (10 : Int)) then
                          bif decide ((0 : Nat) + (↑k : Int).toNat < (10 : Nat)) && true then
                            bif decide ((↑i : Int) < (10 : Int)) then
                              bif decide ((0 : Nat) + (↑i : Int).toNat < (10 : Nat)) && true then
                                bif decide ((↑k : Int) < (10 : Int)) then
                                  bif decide ((0 : Nat) + (↑k : Int).toNat < (10 : Nat)) && true then
                                    bif decide ((↑k : Int) < (10 : Int)) then
                                      bif decide ((0 : Nat) + (↑k : Int).toNat < (10 : Nat)) && true then
                                        bif decide ((↑i : Int) < (10 : Int)) then
                                          bif decide ((0 : Nat) + (↑i : Int).toNat < (10 : Nat)) && true then
                                            bif decide ((↑k : Int) < (10 : Int)) then
                                              bif decide ((0 : Nat) + (↑k : Int).toNat < (10 : Nat)) && true then
                                                bif decide ((↑k : Int) < (10 : Int)) then
                                                  bif decide ((0 : Nat) + (↑k : Int).toNat < (10 : Nat)) && true then
                                                    bif decide ((↑i : Int) < (10 : Int)) then
                                                      bif decide ((0 : Nat) + (↑i : Int).toNat < (10 : Nat)) && true then
                                                        bif decide ((↑i : Int) < (10 : Int)) then
                                                          bif
                                                              decide ((0 : Nat) + (↑i : Int).toNat < (10 : Nat)) &&
                                                                true then
                                                            bif decide ((↑k : Int) < (10 : Int)) then
                                                              bif
                                                                  decide ((0 : Nat) + (↑k : Int).toNat < (10 : Nat)) &&
                                                                    true then
                                                                bif decide ((↑i : Int) < (10 : Int)) then
                                                                  bif
                                                                      decide ((0 : Nat) + (↑i : Int).toNat < (10 : Nat)) &&
                                                                        true then
                                                                    bif decide ((↑k : Int) < (10 : Int)) then
                                                                      bif
                                                                          decide
                                                                              ((0 : Nat) + (↑k : Int).toNat < (10 : Nat)) &&
                                                                            true then
                                                                        bif decide ((↑k : Int) < (10 : Int)) then
                                                                          bif
                                                                              decide
                                                                                  ((0 : Nat) + (↑k : Int).toNat <
                                                                                    (10 : Nat)) &&
                                                                                true then
                                                                            bif decide ((↑i : Int) < (10 : Int)) then
                                                                              bif
                                                                                  decide
                                                                                      ((0 : Nat) + (↑i : Int).toNat <
                                                                                        (10 : Nat)) &&
                                                                                    true then
                                                                                bif decide ((↑k : Int) < (10 : Int)) then
                                                                                  bif
                                                                                      decide
                                                                                          ((0 : Nat) + (↑k : Int).toNat <
                                                                                            (10 : Nat)) &&
                                                                                        true then
                                                                                    bif
                                                                                        decide
                                                                                          ((↑k : Int) < (10 : Int)) then
                                                                                      bif
                                                                                          decide
                                                                                              ((0 : Nat) +
                                                                                                  (↑k : Int).toNat <
                                                                                                (10 : Nat)) &&
                                                                                            true then
                                                                                        bif
                                                                                            decide
                                                                                              ((↑i : Int) < (10 : Int)) then
                                                                                          bif
                                                                                              decide
                                                                                                  ((0 : Nat) +
                                                                                                      (↑i : Int).toNat <
                                                                                                    (10 : Nat)) &&
                                                                                                true then
                                                                                            bif
                                                                                                decide
                                                                                                  ((↑i : Int) <
                                                                                                    (10 : Int)) then
                                                                                              bif
                                                                                                  decide
                                                                                                      ((0 : Nat) +
                                                                                                          (↑i : Int).toNat <
                                                                                                        (10 : Nat)) &&
                                                                                                    true then
                                                                                                bif
                                                                                                    decide
                                                                                                      ((↑k : Int) <
                                                                                                        (10 : Int)) then
                                                                                                  bif
                                                                                                      decide
                                                                                                          ((0 : Nat) +
                                                                                                              (↑k :
                                                                                                                  Int).toNat <
                                                                                                            (10 : Nat)) &&
                                                                                                        true then
                                                                                                    bif
                                                                                                        decide
                                                                                                          ((↑i : Int) <
                                                                                                            (10 : Int)) then
                                                                                                      bif
                                                                                                          decide
                                                                                                              ((0 : Nat) +
                                                                                                                  (↑i :
                                                                                                                      Int).toNat <
                                                                                                                (10 :
                                                                                                                  Nat)) &&
                                                                                                            true then
                                                                                                        bif
                                                                                                            decide
                                                                                                              ((↑k : Int) <
                                                                                                                (10 :
                                                                                                                  Int)) then
                                                                                                          bif
                                                                                                              decide
                                                                                                                  ((0 :
                                                                                                                        Nat) +
                                                                                                                      (↑k :
                                                                                                                          Int).toNat <
                                                                                                                    (10 :
                                                                                                                      Nat)) &&
                                                                                                                true then
                                                                                                            bif
                                                                                                                decide
                                                                                                                  ((↑k :
                                                                                                                      Int) <
                                                                                                                    (10 :
                                                                                                                      Int)) then
                                                                                                              bif
                                                                                                                  decide
                                                                                                                      ((0 :
                                                                                                                            Nat) +
                                                                                                                          (↑k :
                                                                                                                              Int).toNat <
                                                                                                                        (10 :
                                                                                                                          Nat)) &&
                                                                                                                    true then
                                                                                                                Kt Ex.normal
                                                                                                                  (117 :
                                                                                                                    Nat)
                                                                                                                  [SV.bool
                                                                                                                      false,
                                                                                                                    SV.slice
                                                                                                                      (0 :
                                                                                                                        Nat)
                                                                                                                      (0 :
                                                                                                                        Nat)
                                                                                                                      (1 :
                                                                                                                        Nat)
                                                                                                                      (10 :
                                                                                                                        Nat),
                                                                                                                    SV.int
                                                                                                                      IntKind.i64
                                                                                                                      (↑i :
                                                                                                                        Int),
                                                                                                                    SV.int
                                                                                                                      IntKind.i64
                                                                                                                      (↑k :
                                                                                                                        Int)]
                                                                                                                  [BO.raw
                                                                                                                      (some
                                                                                                                        (Blk.mk
                                                                                                                          (1 :
                                                                                                                            Nat)
                                                                                                                          (10 :
                                                                                                                            Nat)
                                                                                                                          (fun
                                                                                                                              r =>
                                                                                                                            [SV.int
                                                                                                                                IntKind.i64
                                                                                                                                (e
                                                                                                                                  r)])
                                                                                                                          true
                                                                                                                          (3 :
                                                                                                                            Nat)))]
                                                                                                              else False
                                                                                                            else False
                                                                                                          else False
                                                                                                        else False
                                                                                                      else False
                                                                                                    else False
                                                                                                  else False
                                                                                                else False
                                                                                              else False
                                                                                            else False
                                                                                          else False
                                                                                        else False
                                                                                      else False
                                                                                    else False
                                                                                  else False
                                                                                else False
                                                                              else False
                                                                            else False
                                                                          else False
                                                                        else False
                                                                      else False
                                                                    else False
                                                                  else False
                                                                else False
                                                              else False
                                                            else False
                                                          else False
                                                        else False
                                                      else False
                                                    else False
                                                  else False
                                                else False
                                              else False
                                            else False
                                          else False
                                        else False
                                      else False
                                    else False
                                  else False
                                else False
                              else False
                            else False
                          else False
                        else False
                      else False
                    else False
                  else False
                else False
              else False
            else False
          else False
        else False
      else False
    else False) := by kernel_rfl
theorem p4_8 (e : Nat → Int) (i k : Nat) (Kt : KT) : evalC C13 0  0 c4_8 (tplF 117 L4 (v4 (.int .i64 i) (.int .i64 k))) ((h4 e).map mkB) ( obsN L4 [false] Kt) = (
    Kt Ex.normal (117 : Nat)
      [SV.bool false, SV.slice (0 : Nat) (0 : Nat) (1 : Nat) (10 : Nat), SV.int IntKind.i64 (↑i : Int),
        SV.int IntKind.i64 (IntKind.i64.wrap ((↑k : Int) + (1 : Int)))]
      [BO.raw (some (Blk.mk (1 : Nat) (10 : Nat) (fun r => [SV.int IntKind.i64 (e r)]) true (3 : Nat)))]) := by kernel_rfl
theorem p4_9 (e : Nat → Int) (i : Nat) (Kt : KT) : evalC C13 0  0 c4_9 (tplF 117 L4 (v4 (.int .i64 i) .top)) ((h4 e).map mkB) ( obsN L4 [false] Kt) = (
    Kt Ex.normal (117 : Nat)
      [SV.bool false, SV.slice (0 : Nat) (0 : Nat) (1 : Nat) (10 : Nat),
        SV.int IntKind.i64 (IntKind.i64.wrap ((↑i : Int) + (1 : Int))), SV.top]
      [BO.raw (some (Blk.mk (1 : Nat) (10 : Nat) (fun r => [SV.int IntKind.i64 (e r)]) true (3 : Nat)))]) := by kernel_rfl
theorem p4_10 (e : Nat → Int) (Kt : KT) : evalC C13 0  0 c4_10 (tplF 117 L4 (v4 .top .top)) ((h4 e).map mkB) ( obs [0] [] Kt) = (
    Kt Ex.ret (117 : Nat) [SV.bool true] []) := by kernel_rfl
end Go.Proofs.Ytfoogfhcjnpokaa
