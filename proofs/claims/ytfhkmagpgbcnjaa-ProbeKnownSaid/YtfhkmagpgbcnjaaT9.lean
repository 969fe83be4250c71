/-
  What functions of the program come to, way by way: printed by a program, held by the kernel.
-/
import Derived.Test.YtfhkmagpgbcnjaaX9
namespace Go.Proofs.Ytfhkmagpgbcnjaa
open Go.RowKit
set_option maxRecDepth 100000

theorem p3a (a b c sp m : Int) (Kt : KT) : evalC C7 0  0 (.seq c3_0 (.seq c3_1 (.seq c3_2 (.seq c3_3 (.seq c3_4 (.seq c3_5 (.seq c3_6 (.seq c3_7 .skip)))))))) (enterS 124 [.agg [.int .i64 a, .int .i64 b, .int .i64 c], .int .i64 sp, .int .i64 m]) [] ( obsN L3 [true, true, true, true, true, true, true, true] Kt) = (
    ∀ (x y z e : Int),
      AnsP (dE a b c sp m) sp (mx (at3 a b c sp) m) a b c x y z e →
        ∀ (x_1 y_1 z_1 e_1 : Int),
          AnsP (dE a b c sp m) sp (mx (at3 a b c sp) m) a b c x_1 y_1 z_1 e_1 →
            ∀ (x_2 y_2 z_2 e_2 : Int),
              AnsP (kE a b c sp) sp (at3 a b c sp - (1 : Int)) a b c x_2 y_2 z_2 e_2 →
                ∀ (x_3 y_3 z_3 e_3 : Int),
                  AnsP (kE a b c sp) sp (at3 a b c sp - (1 : Int)) a b c x_3 y_3 z_3 e_3 →
                    ∀ (x_4 y_4 z_4 e_4 : Int),
                      AnsP (mayE a b c sp) sp (0 : Int) a b c x_4 y_4 z_4 e_4 →
                        ∀ (x_5 y_5 z_5 e_5 : Int),
                          AnsP (mayE a b c sp) sp (0 : Int) a b c x_5 y_5 z_5 e_5 →
                            Kt Ex.normal (124 : Nat)
                              [SV.bool false, SV.ptr (1 : Nat) (0 : Nat) (3 : Nat) (0 : Nat),
                                SV.ptr (2 : Nat) (0 : Nat) (3 : Nat) (0 : Nat), SV.int IntKind.i64 e,
                                SV.ptr (3 : Nat) (0 : Nat) (3 : Nat) (0 : Nat), SV.int IntKind.i64 e_1,
                                SV.ptr (4 : Nat) (0 : Nat) (3 : Nat) (0 : Nat), SV.int IntKind.i64 e_2,
                                SV.ptr (5 : Nat) (0 : Nat) (3 : Nat) (0 : Nat), SV.int IntKind.i64 e_3,
                                SV.ptr (6 : Nat) (0 : Nat) (3 : Nat) (0 : Nat), SV.int IntKind.i64 e_4,
                                SV.ptr (7 : Nat) (0 : Nat) (3 : Nat) (0 : Nat), SV.int IntKind.i64 e_5]
                              [BO.rows (3 : Nat) (1 : Nat) true (22 : Nat)
                                  [[SV.int IntKind.i64 a, SV.int IntKind.i64 b, SV.int IntKind.i64 c]],
                                BO.rows (3 : Nat) (1 : Nat) true (23 : Nat)
                                  [[SV.int IntKind.i64 a, SV.int IntKind.i64 b, SV.int IntKind.i64 c]],
                                BO.rows (3 : Nat) (1 : Nat) true (23 : Nat)
                                  [[SV.int IntKind.i64 x, SV.int IntKind.i64 y, SV.int IntKind.i64 z]],
                                BO.rows (3 : Nat) (1 : Nat) true (27 : Nat)
                                  [[SV.int IntKind.i64 x_1, SV.int IntKind.i64 y_1, SV.int IntKind.i64 z_1]],
                                BO.rows (3 : Nat) (1 : Nat) true (23 : Nat)
                                  [[SV.int IntKind.i64 x_2, SV.int IntKind.i64 y_2, SV.int IntKind.i64 z_2]],
                                BO.rows (3 : Nat) (1 : Nat) true (27 : Nat)
                                  [[SV.int IntKind.i64 x_3, SV.int IntKind.i64 y_3, SV.int IntKind.i64 z_3]],
                                BO.rows (3 : Nat) (1 : Nat) true (23 : Nat)
                                  [[SV.int IntKind.i64 x_4, SV.int IntKind.i64 y_4, SV.int IntKind.i64 z_4]],
                                BO.rows (3 : Nat) (1 : Nat) true (27 : Nat)
                                  [[SV.int IntKind.i64 x_5, SV.int IntKind.i64 y_5, SV.int IntKind.i64 z_5]]]) := by kernel_rfl
theorem p3b (a b c x y z u v w p q r e f g : Int) (Kt : KT) : evalC C7 0  0 c3_8 (tplF 124 L3 (vb3 e f g)) ((hb3 a b c x y z u v w p q r).map mkB) ( obsN [7] [true, true] Kt) = (
    bif !(x == x && (y == y && (z == z && true))) then False
    else
      bif e != e then False
      else
        bif !(u == u && (v == v && (w == w && true))) then False
        else
          bif f != f then False
          else
            bif !(p == p && (q == q && (r == r && true))) then False
            else
              bif g != g then False
              else
                Kt Ex.normal (124 : Nat) [SV.ptr (1 : Nat) (0 : Nat) (3 : Nat) (0 : Nat)]
                  [BO.rows (3 : Nat) (1 : Nat) true (22 : Nat)
                      [[SV.int IntKind.i64 a, SV.int IntKind.i64 b, SV.int IntKind.i64 c]],
                    BO.rows (3 : Nat) (1 : Nat) true (23 : Nat)
                      [[SV.int IntKind.i64 a, SV.int IntKind.i64 b, SV.int IntKind.i64 c]]]) := by kernel_rfl
theorem p3d (a b c : Int) (Kt : KT) : evalC C7 0  0 (.seq c3_9 c3_10) (tplF 124 [7] [.ptr 1 0 3 0]) (([o3 a b c 22, o3 a b c 23] : List BO).map mkB) ( obs [6] [] Kt) = (
    bif chk a b c == chk a b c then
      bif fst3 a b c == fst3 a b c then
        bif sum3 a b c == sum3 a b c then Kt Ex.ret (124 : Nat) [SV.bool true] []
        else Kt Ex.ret (124 : Nat) [SV.bool false] []
      else Kt Ex.ret (124 : Nat) [SV.bool false] []
    else Kt Ex.ret (124 : Nat) [SV.bool false] []) := by kernel_rfl
end Go.Proofs.Ytfhkmagpgbcnjaa
