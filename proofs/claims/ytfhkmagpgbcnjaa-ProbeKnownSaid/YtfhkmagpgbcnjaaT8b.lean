/-
  What functions of the program come to, way by way: printed by a program, held by the kernel.
-/
import Derived.Test.YtfhkmagpgbcnjaaX9
namespace Go.Proofs.Ytfhkmagpgbcnjaa
open Go.RowKit
set_option maxRecDepth 100000

theorem p8a (Kt : KT) : evalC C12 0  0 (.seq c8_0 (.seq c8_1 .skip)) (enterS 75 []) [] ( obsN L8 [true] Kt) = (
    Kt Ex.normal (75 : Nat) [SV.bool false, SV.slice (0 : Nat) (0 : Nat) (1 : Nat) (7 : Nat), SV.top, SV.top, SV.top]
      [BO.rows (1 : Nat) (7 : Nat) true (3 : Nat)
          [[SV.int IntKind.i64 (-9223372036854775808 : Int)], [SV.int IntKind.i64 (-1 : Int)],
            [SV.int IntKind.i64 (0 : Int)], [SV.int IntKind.i64 (1 : Int)], [SV.int IntKind.i64 (2 : Int)],
            [SV.int IntKind.i64 (3 : Int)], [SV.int IntKind.i64 (9223372036854775807 : Int)]]]) := by kernel_rfl
theorem p8_2 (e : Nat → Int) (Kt : KT) : evalC C12 0  0 c8_2 (tplF 75 L8 (v8 .top .top .top)) [some (b8 e)] ( obsN L8 [false] Kt) = (
    Kt Ex.normal (75 : Nat)
      [SV.bool false, SV.slice (0 : Nat) (0 : Nat) (1 : Nat) (7 : Nat), SV.int IntKind.i64 (0 : Int), SV.top, SV.top]
      [BO.raw (some (Blk.mk (1 : Nat) (7 : Nat) (fun r => [SV.int IntKind.i64 (e r)]) true (3 : Nat)))]) := by kernel_rfl
theorem p8_3 (e : Nat → Int) (i : Nat) (Kt : KT) : evalC C12 0  0 c8_3 (tplF 75 L8 (v8 (.int .i64 i) .top .top)) [some (b8 e)] ( obsN L8 [false] Kt) = (
    bif decide ((↑i : Int) < (7 : Int)) then
      Kt Ex.normal (75 : Nat)
        [SV.bool false, SV.slice (0 : Nat) (0 : Nat) (1 : Nat) (7 : Nat), SV.int IntKind.i64 (↑i : Int), SV.top, SV.top]
        [BO.raw (some (Blk.mk (1 : Nat) (7 : Nat) (fun r => [SV.int IntKind.i64 (e r)]) true (3 : Nat)))]
    else
      Kt (Ex.exit (0 : Nat)) (75 : Nat)
        [SV.bool false, SV.slice (0 : Nat) (0 : Nat) (1 : Nat) (7 : Nat), SV.int IntKind.i64 (↑i : Int), SV.top, SV.top]
        [BO.raw (some (Blk.mk (1 : Nat) (7 : Nat) (fun r => [SV.int IntKind.i64 (e r)]) true (3 : Nat)))]) := by kernel_rfl
theorem p8_4 (e : Nat → Int) (i : Nat) (Kt : KT) : evalC C12 0  0 c8_4 (tplF 75 L8 (v8 (.int .i64 i) .top .top)) [some (b8 e)] ( obsN L8 [false] Kt) = (
    Kt Ex.normal (75 : Nat)
      [SV.bool false, SV.slice (0 : Nat) (0 : Nat) (1 : Nat) (7 : Nat), SV.int IntKind.i64 (↑i : Int),
        SV.int IntKind.i64 (0 : Int), SV.top]
      [BO.raw (some (Blk.mk (1 : Nat) (7 : Nat) (fun r => [SV.int IntKind.i64 (e r)]) true (3 : Nat)))]) := by kernel_rfl
theorem p8_5 (e : Nat → Int) (i k : Nat) (Kt : KT) : evalC C12 0  0 c8_5 (tplF 75 L8 (v8 (.int .i64 i) (.int .i64 k) .top)) [some (b8 e)] ( obsN L8 [false] Kt) = (
    bif decide ((↑k : Int) < (7 : Int)) then
      Kt Ex.normal (75 : Nat)
        [SV.bool false, SV.slice (0 : Nat) (0 : Nat) (1 : Nat) (7 : Nat), SV.int IntKind.i64 (↑i : Int),
          SV.int IntKind.i64 (↑k : Int), SV.top]
        [BO.raw (some (Blk.mk (1 : Nat) (7 : Nat) (fun r => [SV.int IntKind.i64 (e r)]) true (3 : Nat)))]
    else
      Kt (Ex.exit (2 : Nat)) (75 : Nat)
        [SV.bool false, SV.slice (0 : Nat) (0 : Nat) (1 : Nat) (7 : Nat), SV.int IntKind.i64 (↑i : Int),
          SV.int IntKind.i64 (↑k : Int), SV.top]
        [BO.raw (some (Blk.mk (1 : Nat) (7 : Nat) (fun r => [SV.int IntKind.i64 (e r)]) true (3 : Nat)))]) := by kernel_rfl
theorem p8_6 (e : Nat → Int) (i k : Nat) (Kt : KT) : evalC C12 0  0 c8_6 (tplF 75 L8 (v8 (.int .i64 i) (.int .i64 k) .top)) [some (b8 e)] ( obsN L8 [false] Kt) = (
    Kt Ex.normal (75 : Nat)
      [SV.bool false, SV.slice (0 : Nat) (0 : Nat) (1 : Nat) (7 : Nat), SV.int IntKind.i64 (↑i : Int),
        SV.int IntKind.i64 (↑k : Int), SV.int IntKind.i64 (0 : Int)]
      [BO.raw (some (Blk.mk (1 : Nat) (7 : Nat) (fun r => [SV.int IntKind.i64 (e r)]) true (3 : Nat)))]) := by kernel_rfl
theorem p8_7 (e : Nat → Int) (i k j : Nat) (Kt : KT) : evalC C12 0  0 c8_7 (tplF 75 L8 (v8 (.int .i64 i) (.int .i64 k) (.int .i64 j))) [some (b8 e)] ( obsN L8 [false] Kt) = (
    bif decide ((↑j : Int) < (7 : Int)) then
      bif decide ((0 : Int) ≤ (↑i : Int)) && decide ((↑i : Int) < (7 : Int)) then
        bif decide ((0 : Nat) + (↑i : Int).toNat < (7 : Nat)) && true then
          bif decide ((0 : Int) ≤ (↑k : Int)) && decide ((↑k : Int) < (7 : Int)) then
            bif decide ((0 : Nat) + (↑k : Int).toNat < (7 : Nat)) && true then
              bif decide ((0 : Int) ≤ (↑j : Int)) && decide ((↑j : Int) < (7 : Int)) then
                bif decide ((0 : Nat) + (↑j : Int).toNat < (7 : Nat)) && true then
                  bif
                      decide ((0 : Int) ≤ (IntKind.i64.wrap ((↑i : Int) + (↑k : Int))).tmod (7 : Int)) &&
                        decide ((IntKind.i64.wrap ((↑i : Int) + (↑k : Int))).tmod (7 : Int) < (7 : Int)) then
                    bif
                        decide
                            ((0 : Nat) + ((IntKind.i64.wrap ((↑i : Int) + (↑k : Int))).tmod (7 : Int)).toNat < (7 : Nat)) &&
                          true then
                      bif
                          decide ((0 : Int) ≤ (IntKind.i64.wrap ((↑k : Int) + (↑j : Int))).tmod (7 : Int)) &&
                            decide ((IntKind.i64.wrap ((↑k : Int) + (↑j : Int))).tmod (7 : Int) < (7 : Int)) then
                        bif
                            decide
                                ((0 : Nat) + ((IntKind.i64.wrap ((↑k : Int) + (↑j : Int))).tmod (7 : Int)).toNat <
                                  (7 : Nat)) &&
                              true then
                          bif decide ((0 : Int) ≤ (↑i : Int)) && decide ((↑i : Int) < (7 : Int)) then
                            bif decide ((0 : Nat) + (↑i : Int).toNat < (7 : Nat)) && true then
                              bif decide ((0 : Int) ≤ (↑k : Int)) && decide ((↑k : Int) < (7 : Int)) then
                                bif decide ((0 : Nat) + (↑k : Int).toNat < (7 : Nat)) && true then
                                  Kt Ex.normal (75 : Nat)
                                    [SV.bool false, SV.slice (0 : Nat) (0 : Nat) (1 : Nat) (7 : Nat),
                                      SV.int IntKind.i64 (↑i : Int), SV.int IntKind.i64 (↑k : Int),
                                      SV.int IntKind.i64 (IntKind.i64.wrap ((↑j : Int) + (1 : Int)))]
                                    [BO.raw
                                        (some
                                          (Blk.mk (1 : Nat) (7 : Nat) (fun r => [SV.int IntKind.i64 (e r)]) true
                                            (3 : Nat)))]
                                else False
                              else False
                            else False
                          else False
                        else False
                      else False
                    else False
                  else False
                else False
              else False
            else False
          else False
        else False
      else False
    else
      Kt (Ex.exit (4 : Nat)) (75 : Nat)
        [SV.bool false, SV.slice (0 : Nat) (0 : Nat) (1 : Nat) (7 : Nat), SV.int IntKind.i64 (↑i : Int),
          SV.int IntKind.i64 (↑k : Int), SV.int IntKind.i64 (↑j : Int)]
        [BO.raw (some (Blk.mk (1 : Nat) (7 : Nat) (fun r => [SV.int IntKind.i64 (e r)]) true (3 : Nat)))]) := by kernel_rfl
theorem p8_8 (e : Nat → Int) (i k : Nat) (Kt : KT) : evalC C12 0  0 c8_8 (tplF 75 L8 (v8 (.int .i64 i) (.int .i64 k) .top)) [some (b8 e)] ( obsN L8 [false] Kt) = (
    Kt Ex.normal (75 : Nat)
      [SV.bool false, SV.slice (0 : Nat) (0 : Nat) (1 : Nat) (7 : Nat), SV.int IntKind.i64 (↑i : Int),
        SV.int IntKind.i64 (IntKind.i64.wrap ((↑k : Int) + (1 : Int))), SV.top]
      [BO.raw (some (Blk.mk (1 : Nat) (7 : Nat) (fun r => [SV.int IntKind.i64 (e r)]) true (3 : Nat)))]) := by kernel_rfl
theorem p8_9 (e : Nat → Int) (i : Nat) (Kt : KT) : evalC C12 0  0 c8_9 (tplF 75 L8 (v8 (.int .i64 i) .top .top)) [some (b8 e)] ( obsN L8 [false] Kt) = (
    Kt Ex.normal (75 : Nat)
      [SV.bool false, SV.slice (0 : Nat) (0 : Nat) (1 : Nat) (7 : Nat),
        SV.int IntKind.i64 (IntKind.i64.wrap ((↑i : Int) + (1 : Int))), SV.top, SV.top]
      [BO.raw (some (Blk.mk (1 : Nat) (7 : Nat) (fun r => [SV.int IntKind.i64 (e r)]) true (3 : Nat)))]) := by kernel_rfl
theorem p8_10 (e : Nat → Int) (Kt : KT) : evalC C12 0  0 c8_10 (tplF 75 L8 (v8 .top .top .top)) [some (b8 e)] ( obs [0] [] Kt) = (
    Kt Ex.ret (75 : Nat) [SV.bool true] []) := by kernel_rfl
end Go.Proofs.Ytfhkmagpgbcnjaa
