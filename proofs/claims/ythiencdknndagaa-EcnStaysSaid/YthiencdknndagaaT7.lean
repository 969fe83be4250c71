/-
  What functions of the program come to, way by way: printed by a program, held by the kernel.
-/
import Derived.Test.YthiencdknndagaaX7
namespace Go.Proofs.Ythiencdknndagaa
open Go.RowKit
set_option maxRecDepth 100000

theorem p7_1 (Kt : KT) : evalC C7 0  0 c7_1 (.bool false :: List.replicate 74 .top) [] ( keepK Kt 2 1) = (
    Kt Ex.normal (75 : Nat) [SV.bool false, SV.slice (0 : Nat) (0 : Nat) (1 : Nat) (9 : Nat)] (1 : Nat)
      [((1 : Nat), (9 : Nat), true, (3 : Nat),
          [[SV.int IntKind.i64 (-9223372036854775808 : Int)], [SV.int IntKind.i64 (-1 : Int)],
            [SV.int IntKind.i64 (0 : Int)], [SV.int IntKind.i64 (1 : Int)], [SV.int IntKind.i64 (2 : Int)],
            [SV.int IntKind.i64 (9007199254740990 : Int)], [SV.int IntKind.i64 (9007199254740991 : Int)],
            [SV.int IntKind.i64 (9007199254740992 : Int)], [SV.int IntKind.i64 (9223372036854775807 : Int)]])]) := by kernel_rfl
theorem p7_2 (e : Nat → Int) (Kt : KT) : evalC C7 0  0 c7_2 (fr7 []) (hp7 e) ( keepK Kt 3 1) = (
    Kt Ex.normal (75 : Nat) [SV.bool false, SV.slice (0 : Nat) (0 : Nat) (1 : Nat) (9 : Nat), SV.int IntKind.i64 (0 : Int)]
      (1 : Nat)
      [((1 : Nat), (9 : Nat), true, (3 : Nat),
          [[SV.int IntKind.i64 (e (0 : Nat))], [SV.int IntKind.i64 (e (1 : Nat))], [SV.int IntKind.i64 (e (2 : Nat))],
            [SV.int IntKind.i64 (e (3 : Nat))], [SV.int IntKind.i64 (e (4 : Nat))], [SV.int IntKind.i64 (e (5 : Nat))],
            [SV.int IntKind.i64 (e (6 : Nat))], [SV.int IntKind.i64 (e (7 : Nat))], [SV.int IntKind.i64 (e (8 : Nat))]])]) := by kernel_rfl
theorem p7_3 (e : Nat → Int) (i : Nat) (Kt : KT) : evalC C7 0  0 c7_3 (fI i) (hp7 e) ( keepK Kt 3 1) = (
    bif decide ((↑i : Int) < (9 : Int)) then
      Kt Ex.normal (75 : Nat)
        [SV.bool false, SV.slice (0 : Nat) (0 : Nat) (1 : Nat) (9 : Nat), SV.int IntKind.i64 (↑i : Int)] (1 : Nat)
        [((1 : Nat), (9 : Nat), true, (3 : Nat),
            [[SV.int IntKind.i64 (e (0 : Nat))], [SV.int IntKind.i64 (e (1 : Nat))], [SV.int IntKind.i64 (e (2 : Nat))],
              [SV.int IntKind.i64 (e (3 : Nat))], [SV.int IntKind.i64 (e (4 : Nat))], [SV.int IntKind.i64 (e (5 : Nat))],
              [SV.int IntKind.i64 (e (6 : Nat))], [SV.int IntKind.i64 (e (7 : Nat))], [SV.int IntKind.i64 (e (8 : Nat))]])]
    else
      Kt (Ex.exit (0 : Nat)) (75 : Nat)
        [SV.bool false, SV.slice (0 : Nat) (0 : Nat) (1 : Nat) (9 : Nat), SV.int IntKind.i64 (↑i : Int)] (1 : Nat)
        [((1 : Nat), (9 : Nat), true, (3 : Nat),
            [[SV.int IntKind.i64 (e (0 : Nat))], [SV.int IntKind.i64 (e (1 : Nat))], [SV.int IntKind.i64 (e (2 : Nat))],
              [SV.int IntKind.i64 (e (3 : Nat))], [SV.int IntKind.i64 (e (4 : Nat))], [SV.int IntKind.i64 (e (5 : Nat))],
              [SV.int IntKind.i64 (e (6 : Nat))], [SV.int IntKind.i64 (e (7 : Nat))], [SV.int IntKind.i64 (e (8 : Nat))]])]) := by kernel_rfl
theorem p7_4 (e : Nat → Int) (i : Nat) (Kt : KT) : evalC C7 0  0 c7_4 (fI i) (hp7 e) ( keepK Kt 4 1) = (
    Kt Ex.normal (75 : Nat)
      [SV.bool false, SV.slice (0 : Nat) (0 : Nat) (1 : Nat) (9 : Nat), SV.int IntKind.i64 (↑i : Int),
        SV.int IntKind.i64 (0 : Int)]
      (1 : Nat)
      [((1 : Nat), (9 : Nat), true, (3 : Nat),
          [[SV.int IntKind.i64 (e (0 : Nat))], [SV.int IntKind.i64 (e (1 : Nat))], [SV.int IntKind.i64 (e (2 : Nat))],
            [SV.int IntKind.i64 (e (3 : Nat))], [SV.int IntKind.i64 (e (4 : Nat))], [SV.int IntKind.i64 (e (5 : Nat))],
            [SV.int IntKind.i64 (e (6 : Nat))], [SV.int IntKind.i64 (e (7 : Nat))], [SV.int IntKind.i64 (e (8 : Nat))]])]) := by kernel_rfl
theorem p7_5 (e : Nat → Int) (i k : Nat) (Kt : KT) : evalC C7 0  0 c7_5 (fK i k) (hp7 e) ( keepK Kt 4 1) = (
    bif decide ((↑k : Int) < (9 : Int)) then
      Kt Ex.normal (75 : Nat)
        [SV.bool false, SV.slice (0 : Nat) (0 : Nat) (1 : Nat) (9 : Nat), SV.int IntKind.i64 (↑i : Int),
          SV.int IntKind.i64 (↑k : Int)]
        (1 : Nat)
        [((1 : Nat), (9 : Nat), true, (3 : Nat),
            [[SV.int IntKind.i64 (e (0 : Nat))], [SV.int IntKind.i64 (e (1 : Nat))], [SV.int IntKind.i64 (e (2 : Nat))],
              [SV.int IntKind.i64 (e (3 : Nat))], [SV.int IntKind.i64 (e (4 : Nat))], [SV.int IntKind.i64 (e (5 : Nat))],
              [SV.int IntKind.i64 (e (6 : Nat))], [SV.int IntKind.i64 (e (7 : Nat))], [SV.int IntKind.i64 (e (8 : Nat))]])]
    else
      Kt (Ex.exit (2 : Nat)) (75 : Nat)
        [SV.bool false, SV.slice (0 : Nat) (0 : Nat) (1 : Nat) (9 : Nat), SV.int IntKind.i64 (↑i : Int),
          SV.int IntKind.i64 (↑k : Int)]
        (1 : Nat)
        [((1 : Nat), (9 : Nat), true, (3 : Nat),
            [[SV.int IntKind.i64 (e (0 : Nat))], [SV.int IntKind.i64 (e (1 : Nat))], [SV.int IntKind.i64 (e (2 : Nat))],
              [SV.int IntKind.i64 (e (3 : Nat))], [SV.int IntKind.i64 (e (4 : Nat))], [SV.int IntKind.i64 (e (5 : Nat))],
              [SV.int IntKind.i64 (e (6 : Nat))], [SV.int IntKind.i64 (e (7 : Nat))], [SV.int IntKind.i64 (e (8 : Nat))]])]) := by kernel_rfl
theorem p7_6 (e : Nat → Int) (i k : Nat) (Kt : KT) : evalC C7 0  0 c7_6 (fK i k) (hp7 e) ( keepK Kt 5 1) = (
    Kt Ex.normal (75 : Nat)
      [SV.bool false, SV.slice (0 : Nat) (0 : Nat) (1 : Nat) (9 : Nat), SV.int IntKind.i64 (↑i : Int),
        SV.int IntKind.i64 (↑k : Int), SV.int IntKind.i64 (0 : Int)]
      (1 : Nat)
      [((1 : Nat), (9 : Nat), true, (3 : Nat),
          [[SV.int IntKind.i64 (e (0 : Nat))], [SV.int IntKind.i64 (e (1 : Nat))], [SV.int IntKind.i64 (e (2 : Nat))],
            [SV.int IntKind.i64 (e (3 : Nat))], [SV.int IntKind.i64 (e (4 : Nat))], [SV.int IntKind.i64 (e (5 : Nat))],
            [SV.int IntKind.i64 (e (6 : Nat))], [SV.int IntKind.i64 (e (7 : Nat))], [SV.int IntKind.i64 (e (8 : Nat))]])]) := by kernel_rfl
theorem p7_7a (e : Nat → Int) (i k : Nat) (Kt : KT) : evalC C7 0  0 c7_7 (fJ i k 0) (hp7 e) ( keepK Kt 5 1) = (
    bif decide ((0 : Int) ≤ (↑i : Int)) && decide ((↑i : Int) < (9 : Int)) then
      bif decide ((0 : Nat) + (↑i : Int).toNat < (9 : Nat)) && true then
        bif decide ((0 : Int) ≤ (↑k : Int)) && decide ((↑k : Int) < (9 : Int)) then
          bif decide ((0 : Nat) + (↑k : Int).toNat < (9 : Nat)) && true then
            bif decide ((0 : Int) ≤ (↑i : Int)) && decide ((↑i : Int) < (9 : Int)) then
              bif decide ((0 : Nat) + (↑i : Int).toNat < (9 : Nat)) && true then
                bif decide ((0 : Int) ≤ (↑k : Int)) && decide ((↑k : Int) < (9 : Int)) then
                  bif decide ((0 : Nat) + (↑k : Int).toNat < (9 : Nat)) && true then
                    Kt Ex.normal (75 : Nat)
                      [SV.bool false, SV.slice (0 : Nat) (0 : Nat) (1 : Nat) (9 : Nat), SV.int IntKind.i64 (↑i : Int),
                        SV.int IntKind.i64 (↑k : Int), SV.int IntKind.i64 (1 : Int)]
                      (3 : Nat)
                      [((1 : Nat), (9 : Nat), true, (3 : Nat),
                          [[SV.int IntKind.i64 (e (0 : Nat))], [SV.int IntKind.i64 (e (1 : Nat))],
                            [SV.int IntKind.i64 (e (2 : Nat))], [SV.int IntKind.i64 (e (3 : Nat))],
                            [SV.int IntKind.i64 (e (4 : Nat))], [SV.int IntKind.i64 (e (5 : Nat))],
                            [SV.int IntKind.i64 (e (6 : Nat))], [SV.int IntKind.i64 (e (7 : Nat))],
                            [SV.int IntKind.i64 (e (8 : Nat))]])]
                  else False
                else False
              else False
            else False
          else False
        else False
      else False
    else False) := by kernel_rfl
theorem p7_7b (e : Nat → Int) (i k : Nat) (Kt : KT) : evalC C7 0  0 c7_7 (fJ i k 1) (hp7 e) ( keepK Kt 5 1) = (
    bif decide ((0 : Int) ≤ (↑i : Int)) && decide ((↑i : Int) < (9 : Int)) then
      bif decide ((0 : Nat) + (↑i : Int).toNat < (9 : Nat)) && true then
        bif decide ((0 : Int) ≤ (↑k : Int)) && decide ((↑k : Int) < (9 : Int)) then
          bif decide ((0 : Nat) + (↑k : Int).toNat < (9 : Nat)) && true then
            bif decide ((0 : Int) ≤ (↑i : Int)) && decide ((↑i : Int) < (9 : Int)) then
              bif decide ((0 : Nat) + (↑i : Int).toNat < (9 : Nat)) && true then
                bif decide ((0 : Int) ≤ (↑k : Int)) && decide ((↑k : Int) < (9 : Int)) then
                  bif decide ((0 : Nat) + (↑k : Int).toNat < (9 : Nat)) && true then
                    Kt Ex.normal (75 : Nat)
                      [SV.bool false, SV.slice (0 : Nat) (0 : Nat) (1 : Nat) (9 : Nat), SV.int IntKind.i64 (↑i : Int),
                        SV.int IntKind.i64 (↑k : Int), SV.int IntKind.i64 (2 : Int)]
                      (3 : Nat)
                      [((1 : Nat), (9 : Nat), true, (3 : Nat),
                          [[SV.int IntKind.i64 (e (0 : Nat))], [SV.int IntKind.i64 (e (1 : Nat))],
                            [SV.int IntKind.i64 (e (2 : Nat))], [SV.int IntKind.i64 (e (3 : Nat))],
                            [SV.int IntKind.i64 (e (4 : Nat))], [SV.int IntKind.i64 (e (5 : Nat))],
                            [SV.int IntKind.i64 (e (6 : Nat))], [SV.int IntKind.i64 (e (7 : Nat))],
                            [SV.int IntKind.i64 (e (8 : Nat))]])]
                  else False
                else False
              else False
            else False
          else False
        else False
      else False
    else False) := by kernel_rfl
theorem p7_7c (e : Nat → Int) (i k : Nat) (Kt : KT) : evalC C7 0  0 c7_7 (fJ i k 2) (hp7 e) ( keepK Kt 5 1) = (
    bif decide ((0 : Int) ≤ (↑i : Int)) && decide ((↑i : Int) < (9 : Int)) then
      bif decide ((0 : Nat) + (↑i : Int).toNat < (9 : Nat)) && true then
        bif decide ((0 : Int) ≤ (↑k : Int)) && decide ((↑k : Int) < (9 : Int)) then
          bif decide ((0 : Nat) + (↑k : Int).toNat < (9 : Nat)) && true then
            bif decide ((0 : Int) ≤ (↑i : Int)) && decide ((↑i : Int) < (9 : Int)) then
              bif decide ((0 : Nat) + (↑i : Int).toNat < (9 : Nat)) && true then
                bif decide ((0 : Int) ≤ (↑k : Int)) && decide ((↑k : Int) < (9 : Int)) then
                  bif decide ((0 : Nat) + (↑k : Int).toNat < (9 : Nat)) && true then
                    Kt Ex.normal (75 : Nat)
                      [SV.bool false, SV.slice (0 : Nat) (0 : Nat) (1 : Nat) (9 : Nat), SV.int IntKind.i64 (↑i : Int),
                        SV.int IntKind.i64 (↑k : Int), SV.int IntKind.i64 (3 : Int)]
                      (3 : Nat)
                      [((1 : Nat), (9 : Nat), true, (3 : Nat),
                          [[SV.int IntKind.i64 (e (0 : Nat))], [SV.int IntKind.i64 (e (1 : Nat))],
                            [SV.int IntKind.i64 (e (2 : Nat))], [SV.int IntKind.i64 (e (3 : Nat))],
                            [SV.int IntKind.i64 (e (4 : Nat))], [SV.int IntKind.i64 (e (5 : Nat))],
                            [SV.int IntKind.i64 (e (6 : Nat))], [SV.int IntKind.i64 (e (7 : Nat))],
                            [SV.int IntKind.i64 (e (8 : Nat))]])]
                  else False
                else False
              else False
            else False
          else False
        else False
      else False
    else False) := by kernel_rfl
theorem p7_7d (e : Nat → Int) (i k : Nat) (Kt : KT) : evalC C7 0  0 c7_7 (fJ i k 3) (hp7 e) ( keepK Kt 5 1) = (
    Kt (Ex.exit (4 : Nat)) (75 : Nat)
      [SV.bool false, SV.slice (0 : Nat) (0 : Nat) (1 : Nat) (9 : Nat), SV.int IntKind.i64 (↑i : Int),
        SV.int IntKind.i64 (↑k : Int), SV.int IntKind.i64 (3 : Int)]
      (1 : Nat)
      [((1 : Nat), (9 : Nat), true, (3 : Nat),
          [[SV.int IntKind.i64 (e (0 : Nat))], [SV.int IntKind.i64 (e (1 : Nat))], [SV.int IntKind.i64 (e (2 : Nat))],
            [SV.int IntKind.i64 (e (3 : Nat))], [SV.int IntKind.i64 (e (4 : Nat))], [SV.int IntKind.i64 (e (5 : Nat))],
            [SV.int IntKind.i64 (e (6 : Nat))], [SV.int IntKind.i64 (e (7 : Nat))], [SV.int IntKind.i64 (e (8 : Nat))]])]) := by kernel_rfl
theorem p7_8 (e : Nat → Int) (i k : Nat) (Kt : KT) : evalC C7 0  0 c7_8 (fK i k) (hp7 e) ( keepK Kt 4 1) = (
    Kt Ex.normal (75 : Nat)
      [SV.bool false, SV.slice (0 : Nat) (0 : Nat) (1 : Nat) (9 : Nat), SV.int IntKind.i64 (↑i : Int),
        SV.int IntKind.i64 (IntKind.i64.wrap ((↑k : Int) + (1 : Int)))]
      (1 : Nat)
      [((1 : Nat), (9 : Nat), true, (3 : Nat),
          [[SV.int IntKind.i64 (e (0 : Nat))], [SV.int IntKind.i64 (e (1 : Nat))], [SV.int IntKind.i64 (e (2 : Nat))],
            [SV.int IntKind.i64 (e (3 : Nat))], [SV.int IntKind.i64 (e (4 : Nat))], [SV.int IntKind.i64 (e (5 : Nat))],
            [SV.int IntKind.i64 (e (6 : Nat))], [SV.int IntKind.i64 (e (7 : Nat))], [SV.int IntKind.i64 (e (8 : Nat))]])]) := by kernel_rfl
theorem p7_9 (e : Nat → Int) (i : Nat) (Kt : KT) : evalC C7 0  0 c7_9 (fI i) (hp7 e) ( keepK Kt 3 1) = (
    Kt Ex.normal (75 : Nat)
      [SV.bool false, SV.slice (0 : Nat) (0 : Nat) (1 : Nat) (9 : Nat),
        SV.int IntKind.i64 (IntKind.i64.wrap ((↑i : Int) + (1 : Int)))]
      (1 : Nat)
      [((1 : Nat), (9 : Nat), true, (3 : Nat),
          [[SV.int IntKind.i64 (e (0 : Nat))], [SV.int IntKind.i64 (e (1 : Nat))], [SV.int IntKind.i64 (e (2 : Nat))],
            [SV.int IntKind.i64 (e (3 : Nat))], [SV.int IntKind.i64 (e (4 : Nat))], [SV.int IntKind.i64 (e (5 : Nat))],
            [SV.int IntKind.i64 (e (6 : Nat))], [SV.int IntKind.i64 (e (7 : Nat))], [SV.int IntKind.i64 (e (8 : Nat))]])]) := by kernel_rfl
theorem p7_10 (e : Nat → Int) (Kt : KT) : evalC C7 0  0 c7_10 (fr7 []) (hp7 e) ( keepK Kt 1 0) = (
    Kt Ex.ret (75 : Nat) [SV.bool true] (1 : Nat) []) := by kernel_rfl
end Go.Proofs.Ythiencdknndagaa
