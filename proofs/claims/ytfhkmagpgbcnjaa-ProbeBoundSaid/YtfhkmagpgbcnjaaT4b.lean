/-
  What functions of the program come to, way by way: printed by a program, held by the kernel.
-/
import Derived.Test.YtfhkmagpgbcnjaaX9
namespace Go.Proofs.Ytfhkmagpgbcnjaa
open Go.RowKit
set_option maxRecDepth 100000

theorem p4a (n : Nat) (g : Nat → Nat → Int) (Kt : KT) : evalC C11 0  1 (.seq c4_0 (.seq c4_1 (.seq c4_2 (.seq c4_3 .skip)))) (enterS 117 [.slice 0 0 2 n]) [some (bR4 n g)] ( obsN L4 [false, true, true] Kt) = (
    Kt Ex.normal (117 : Nat)
      [SV.slice (0 : Nat) (0 : Nat) (2 : Nat) n, SV.bool false, SV.ptr (1 : Nat) (0 : Nat) (3 : Nat) (0 : Nat),
        SV.ptr (2 : Nat) (0 : Nat) (3 : Nat) (0 : Nat), SV.top]
      [BO.raw
          (some
            (Blk.mk (2 : Nat) n (fun r => [SV.int IntKind.i64 (g r (0 : Nat)), SV.int IntKind.i64 (g r (1 : Nat))]) false
              (0 : Nat))),
        BO.rows (3 : Nat) (1 : Nat) true (23 : Nat)
          [[SV.int IntKind.i64 (0 : Int), SV.int IntKind.i64 (0 : Int), SV.int IntKind.i64 (0 : Int)]],
        BO.rows (3 : Nat) (1 : Nat) true (22 : Nat)
          [[SV.int IntKind.i64 (0 : Int), SV.int IntKind.i64 (0 : Int), SV.int IntKind.i64 (0 : Int)]]]) := by kernel_rfl
theorem p4s (n : Nat) (g : Nat → Nat → Int) (Kt : KT) : evalC C11 0  1 c4_4 (tplF 117 L4 [.slice 0 0 2 n, .bool false, .ptr 1 0 3 0, .ptr 2 0 3 0, .top]) ((hb4 n g 0 0 0).map mkB) ( obsN L4 [false, true, true] Kt) = (
    Kt Ex.normal (117 : Nat)
      [SV.slice (0 : Nat) (0 : Nat) (2 : Nat) n, SV.bool false, SV.ptr (1 : Nat) (0 : Nat) (3 : Nat) (0 : Nat),
        SV.ptr (2 : Nat) (0 : Nat) (3 : Nat) (0 : Nat), SV.int IntKind.i64 (0 : Int)]
      [BO.raw
          (some
            (Blk.mk (2 : Nat) n (fun r => [SV.int IntKind.i64 (g r (0 : Nat)), SV.int IntKind.i64 (g r (1 : Nat))]) false
              (0 : Nat))),
        BO.rows (3 : Nat) (1 : Nat) true (23 : Nat)
          [[SV.int IntKind.i64 (0 : Int), SV.int IntKind.i64 (0 : Int), SV.int IntKind.i64 (0 : Int)]],
        BO.rows (3 : Nat) (1 : Nat) true (22 : Nat)
          [[SV.int IntKind.i64 (0 : Int), SV.int IntKind.i64 (0 : Int), SV.int IntKind.i64 (0 : Int)]]]) := by kernel_rfl
theorem p4h (n : Nat) (g : Nat → Nat → Int) (i : Nat) (a b c : Int) (Kt : KT) : evalC C11 0  1 (sq1 c4_5) (tplF 117 L4 (v4 n i)) ((hb4 n g a b c).map mkB) ( obsN L4 [false, true, true] Kt) = (
    bif decide ((↑i : Int) < (↑n : Int)) then
      bif decide ((↑i : Int) < (80 : Int)) then
        Kt Ex.normal (117 : Nat)
          [SV.slice (0 : Nat) (0 : Nat) (2 : Nat) n, SV.bool false, SV.ptr (1 : Nat) (0 : Nat) (3 : Nat) (0 : Nat),
            SV.ptr (2 : Nat) (0 : Nat) (3 : Nat) (0 : Nat), SV.int IntKind.i64 (↑i : Int)]
          [BO.raw
              (some
                (Blk.mk (2 : Nat) n (fun r => [SV.int IntKind.i64 (g r (0 : Nat)), SV.int IntKind.i64 (g r (1 : Nat))])
                  false (0 : Nat))),
            BO.rows (3 : Nat) (1 : Nat) true (23 : Nat)
              [[SV.int IntKind.i64 a, SV.int IntKind.i64 b, SV.int IntKind.i64 c]],
            BO.rows (3 : Nat) (1 : Nat) true (22 : Nat)
              [[SV.int IntKind.i64 a, SV.int IntKind.i64 b, SV.int IntKind.i64 c]]]
      else
        Kt (Ex.exit (0 : Nat)) (117 : Nat)
          [SV.slice (0 : Nat) (0 : Nat) (2 : Nat) n, SV.bool false, SV.ptr (1 : Nat) (0 : Nat) (3 : Nat) (0 : Nat),
            SV.ptr (2 : Nat) (0 : Nat) (3 : Nat) (0 : Nat), SV.int IntKind.i64 (↑i : Int)]
          [BO.raw
              (some
                (Blk.mk (2 : Nat) n (fun r => [SV.int IntKind.i64 (g r (0 : Nat)), SV.int IntKind.i64 (g r (1 : Nat))])
                  false (0 : Nat))),
            BO.rows (3 : Nat) (1 : Nat) true (23 : Nat)
              [[SV.int IntKind.i64 a, SV.int IntKind.i64 b, SV.int IntKind.i64 c]],
            BO.rows (3 : Nat) (1 : Nat) true (22 : Nat)
              [[SV.int IntKind.i64 a, SV.int IntKind.i64 b, SV.int IntKind.i64 c]]]
    else
      Kt (Ex.exit (0 : Nat)) (117 : Nat)
        [SV.slice (0 : Nat) (0 : Nat) (2 : Nat) n, SV.bool false, SV.ptr (1 : Nat) (0 : Nat) (3 : Nat) (0 : Nat),
          SV.ptr (2 : Nat) (0 : Nat) (3 : Nat) (0 : Nat), SV.int IntKind.i64 (↑i : Int)]
        [BO.raw
            (some
              (Blk.mk (2 : Nat) n (fun r => [SV.int IntKind.i64 (g r (0 : Nat)), SV.int IntKind.i64 (g r (1 : Nat))]) false
                (0 : Nat))),
          BO.rows (3 : Nat) (1 : Nat) true (23 : Nat) [[SV.int IntKind.i64 a, SV.int IntKind.i64 b, SV.int IntKind.i64 c]],
          BO.rows (3 : Nat) (1 : Nat) true (22 : Nat) [[SV.int IntKind.i64 a, SV.int IntKind.i64 b, SV.int IntKind.i64 c]]]) := by kernel_rfl
theorem p4b (n : Nat) (g : Nat → Nat → Int) (i : Nat) (a b c : Int) (Kt : KT) : evalC C11 0  1 (sq1 (sq2 c4_5)) (tplF 117 L4 (v4 n i)) ((hb4 n g a b c).map mkB) ( obsN L4 [false, true, true] Kt) = (
    bif decide ((0 : Int) ≤ (↑i : Int)) && decide ((↑i : Int) < (↑n : Int)) then
      bif decide ((0 : Nat) + (↑i : Int).toNat < n) && true then
        (g ((0 : Nat) + (↑i : Int).toNat) (1 : Nat) % (3 : Int) = (0 : Int) →
            bif decide ((0 : Int) ≤ (↑i : Int)) && decide ((↑i : Int) < (↑n : Int)) then
              bif decide ((0 : Nat) + (↑i : Int).toNat < n) && true then
                (g ((0 : Nat) + (↑i : Int).toNat) (0 : Nat) % (4 : Int) = (0 : Int) →
                    bif decide ((0 : Int) ≤ (↑i : Int)) && decide ((↑i : Int) < (↑n : Int)) then
                      bif decide ((0 : Nat) + (↑i : Int).toNat < n) && true then
                        ok3 a b c = true ∧
                          ∀ (x y z e : Int),
                            AnsP
                                (gE a b c (g ((0 : Nat) + (↑i : Int).toNat) (1 : Nat) % (3 : Int))
                                  (g ((0 : Nat) + (↑i : Int).toNat) (0 : Nat) % (4 : Int)))
                                (g ((0 : Nat) + (↑i : Int).toNat) (1 : Nat) % (3 : Int))
                                (gV a b c (g ((0 : Nat) + (↑i : Int).toNat) (1 : Nat) % (3 : Int))
                                  (g ((0 : Nat) + (↑i : Int).toNat) (0 : Nat) % (4 : Int)))
                                a b c x y z e →
                              bif e != (0 : Int) then False
                              else
                                bif !((x == if (1 : Int) > a then (1 : Int) else a) && (y == b && (z == c && true))) then
                                  False
                                else
                                  bif decide ((2 : Int) < if (1 : Int) > a then (1 : Int) else a) then False
                                  else
                                    bif
                                        sum3 x y z !=
                                          IntKind.i64.wrap
                                            (IntKind.i64.wrap ((if (1 : Int) > a then (1 : Int) else a) + b) + c) then
                                      False
                                    else
                                      bif chk x y z != (0 : Int) then False
                                      else
                                        Kt Ex.normal (117 : Nat)
                                          [SV.slice (0 : Nat) (0 : Nat) (2 : Nat) n, SV.bool false,
                                            SV.ptr (1 : Nat) (0 : Nat) (3 : Nat) (0 : Nat),
                                            SV.ptr (2 : Nat) (0 : Nat) (3 : Nat) (0 : Nat), SV.int IntKind.i64 (↑i : Int)]
                                          [BO.raw
                                              (some
                                                (Blk.mk (2 : Nat) n
                                                  (fun r =>
                                                    [SV.int IntKind.i64 (g r (0 : Nat)),
                                                      SV.int IntKind.i64 (g r (1 : Nat))])
                                                  false (0 : Nat))),
                                            BO.rows (3 : Nat) (1 : Nat)
                                              (Blk.mk (3 : Nat) (1 : Nat)
                                                  (fun r =>
                                                    [[SV.int IntKind.i64 a, SV.int IntKind.i64 b,
                                                            SV.int IntKind.i64 c]].getD
                                                      r [])
                                                  true (23 : Nat)).rw
                                              (23 : Nat)
                                              [[SV.int IntKind.i64 x, SV.int IntKind.i64 y, SV.int IntKind.i64 z]],
                                            BO.rows (3 : Nat) (1 : Nat)
                                              (Blk.mk (3 : Nat) (1 : Nat)
                                                  (fun r =>
                                                    [[SV.int IntKind.i64 a, SV.int IntKind.i64 b,
                                                            SV.int IntKind.i64 c]].getD
                                                      r [])
                                                  true (22 : Nat)).rw
                                              (22 : Nat)
                                              [[SV.int IntKind.i64 (if (1 : Int) > a then (1 : Int) else a),
                                                  SV.int IntKind.i64 b, SV.int IntKind.i64 c]]]
                      else False
                    else False) ∧
                  (g ((0 : Nat) + (↑i : Int).toNat) (0 : Nat) % (4 : Int) = (1 : Int) →
                      bif decide ((0 : Int) ≤ (↑i : Int)) && decide ((↑i : Int) < (↑n : Int)) then
                        bif decide ((0 : Nat) + (↑i : Int).toNat < n) && true then
                          ok3 a b c = true ∧
                            ∀ (x y z e : Int),
                              AnsP
                                  (gE a b c (g ((0 : Nat) + (↑i : Int).toNat) (1 : Nat) % (3 : Int))
                                    (g ((0 : Nat) + (↑i : Int).toNat) (0 : Nat) % (4 : Int)))
                                  (g ((0 : Nat) + (↑i : Int).toNat) (1 : Nat) % (3 : Int))
                                  (gV a b c (g ((0 : Nat) + (↑i : Int).toNat) (1 : Nat) % (3 : Int))
                                    (g ((0 : Nat) + (↑i : Int).toNat) (0 : Nat) % (4 : Int)))
                                  a b c x y z e →
                                bif e != (0 : Int) then False
                                else
                                  bif !((x == if (2 : Int) > a then (2 : Int) else a) && (y == b && (z == c && true))) then
                                    False
                                  else
                                    bif decide ((2 : Int) < if (2 : Int) > a then (2 : Int) else a) then False
                                    else
                                      bif
                                          sum3 x y z !=
                                            IntKind.i64.wrap
                                              (IntKind.i64.wrap ((if (2 : Int) > a then (2 : Int) else a) + b) + c) then
                                        False
                                      else
                                        bif chk x y z != (0 : Int) then False
                                        else
                                          Kt Ex.normal (117 : Nat)
                                            [SV.slice (0 : Nat) (0 : Nat) (2 : Nat) n, SV.bool false,
                                              SV.ptr (1 : Nat) (0 : Nat) (3 : Nat) (0 : Nat),
                                              SV.ptr (2 : Nat) (0 : Nat) (3 : Nat) (0 : Nat), SV.int IntKind.i64 (↑i : Int)]
                                            [BO.raw
                                                (some
                                                  (Blk.mk (2 : Nat) n
                                                    (fun r =>
                                                      [SV.int IntKind.i64 (g r (0 : Nat)),
                                                        SV.int IntKind.i64 (g r (1 : Nat))])
                                                    false (0 : Nat))),
                                              BO.rows (3 : Nat) (1 : Nat)
                                                (Blk.mk (3 : Nat) (1 : Nat)
                                                    (fun r =>
                                                      [[SV.int IntKind.i64 a, SV.int IntKind.i64 b,
                                                              SV.int IntKind.i64 c]].getD
                                                        r [])
                                                    true (23 : Nat)).rw
                                                (23 : Nat)
                                                [[SV.int IntKind.i64 x, SV.int IntKind.i64 y, SV.int IntKind.i64 z]],
                                              BO.rows (3 : Nat) (1 : Nat)
                                                (Blk.mk (3 : Nat) (1 : Nat)
                                                    (fun r =>
                                                      [[SV.int IntKind.i64 a, SV.int IntKind.i64 b,
                                                              SV.int IntKind.i64 c]].getD
                                                        r [])
                                                    true (22 : Nat)).rw
                                                (22 : Nat)
                                                [[SV.int IntKind.i64 (if (2 : Int) > a then (2 : Int) else a),
                                                    SV.int IntKind.i64 b, SV.int IntKind.i64 c]]]
                        else False
                      else False) ∧
                    (g ((0 : Nat) + (↑i : Int).toNat) (0 : Nat) % (4 : Int) = (2 : Int) →
                        bif decide ((0 : Int) ≤ (↑i : Int)) && decide ((↑i : Int) < (↑n : Int)) then
                          bif decide ((0 : Nat) + (↑i : Int).toNat < n) && true then
                            ok3 a b c = true ∧
                              ∀ (x y z e : Int),
                                AnsP
                                    (gE a b c (g ((0 : Nat) + (↑i : Int).toNat) (1 : Nat) % (3 : Int))
                                      (g ((0 : Nat) + (↑i : Int).toNat) (0 : Nat) % (4 : Int)))
                                    (g ((0 : Nat) + (↑i : Int).toNat) (1 : Nat) % (3 : Int))
                                    (gV a b c (g ((0 : Nat) + (↑i : Int).toNat) (1 : Nat) % (3 : Int))
                                      (g ((0 : Nat) + (↑i : Int).toNat) (0 : Nat) % (4 : Int)))
                                    a b c x y z e →
                                  bif a == (0 : Int) then
                                    bif e != (5 : Int) then False
                                    else
                                      bif !(x == (0 : Int) && (y == (0 : Int) && (z == (0 : Int) && true))) then False
                                      else
                                        Kt Ex.normal (117 : Nat)
                                          [SV.slice (0 : Nat) (0 : Nat) (2 : Nat) n, SV.bool false,
                                            SV.ptr (1 : Nat) (0 : Nat) (3 : Nat) (0 : Nat),
                                            SV.ptr (2 : Nat) (0 : Nat) (3 : Nat) (0 : Nat), SV.int IntKind.i64 (↑i : Int)]
                                          [BO.raw
                                              (some
                                                (Blk.mk (2 : Nat) n
                                                  (fun r =>
                                                    [SV.int IntKind.i64 (g r (0 : Nat)),
                                                      SV.int IntKind.i64 (g r (1 : Nat))])
                                                  false (0 : Nat))),
                                            BO.rows (3 : Nat) (1 : Nat) true (23 : Nat)
                                              [[SV.int IntKind.i64 a, SV.int IntKind.i64 b, SV.int IntKind.i64 c]],
                                            BO.rows (3 : Nat) (1 : Nat) true (22 : Nat)
                                              [[SV.int IntKind.i64 a, SV.int IntKind.i64 b, SV.int IntKind.i64 c]]]
                                  else
                                    bif e != (0 : Int) then False
                                    else
                                      bif !(x == IntKind.i64.wrap (a - (1 : Int)) && (y == b && (z == c && true))) then
                                        False
                                      else
                                        bif decide ((2 : Int) < IntKind.i64.wrap (a - (1 : Int))) then False
                                        else
                                          bif
                                              sum3 x y z !=
                                                IntKind.i64.wrap
                                                  (IntKind.i64.wrap (IntKind.i64.wrap (a - (1 : Int)) + b) + c) then
                                            False
                                          else
                                            bif chk x y z != (0 : Int) then False
                                            else
                                              Kt Ex.normal (117 : Nat)
                                                [SV.slice (0 : Nat) (0 : Nat) (2 : Nat) n, SV.bool false,
                                                  SV.ptr (1 : Nat) (0 : Nat) (3 : Nat) (0 : Nat),
                                                  SV.ptr (2 : Nat) (0 : Nat) (3 : Nat) (0 : Nat),
                                                  SV.int IntKind.i64 (↑i : Int)]
                                                [BO.raw
                                                    (some
                                                      (Blk.mk (2 : Nat) n
                                                        (fun r =>
                                                          [SV.int IntKind.i64 (g r (0 : Nat)),
                                                            SV.int IntKind.i64 (g r (1 : Nat))])
                                                        false (0 : Nat))),
                                                  BO.rows (3 : Nat) (1 : Nat)
                                                    (Blk.mk (3 : Nat) (1 : Nat)
                                                        (fun r =>
                                                          [[SV.int IntKind.i64 a, SV.int IntKind.i64 b,
                                                                  SV.int IntKind.i64 c]].getD
                                                            r [])
                                                        true (23 : Nat)).rw
                                                    (23 : Nat)
                                                    [[SV.int IntKind.i64 x, SV.int IntKind.i64 y, SV.int IntKind.i64 z]],
                                                  BO.rows (3 : Nat) (1 : Nat)
                                                    (Blk.mk (3 : Nat) (1 : Nat)
                                                        (fun r =>
                                                          [[SV.int IntKind.i64 a, SV.int IntKind.i64 b,
                                                                  SV.int IntKind.i64 c]].getD
                                                            r [])
                                                        true (22 : Nat)).rw
                                                    (22 : Nat)
                                                    [[SV.int IntKind.i64 (IntKind.i64.wrap (a - (1 : Int))),
                                                        SV.int IntKind.i64 b, SV.int IntKind.i64 c]]]
                          else False
                        else False) ∧
                      (g ((0 : Nat) + (↑i : Int).toNat) (0 : Nat) % (4 : Int) = (3 : Int) →
                        bif decide ((0 : Int) ≤ (↑i : Int)) && decide ((↑i : Int) < (↑n : Int)) then
                          bif decide ((0 : Nat) + (↑i : Int).toNat < n) && true then
                            ok3 a b c = true ∧
                              ∀ (x y z e : Int),
                                AnsP
                                    (gE a b c (g ((0 : Nat) + (↑i : Int).toNat) (1 : Nat) % (3 : Int))
                                      (g ((0 : Nat) + (↑i : Int).toNat) (0 : Nat) % (4 : Int)))
                                    (g ((0 : Nat) + (↑i : Int).toNat) (1 : Nat) % (3 : Int))
                                    (gV a b c (g ((0 : Nat) + (↑i : Int).toNat) (1 : Nat) % (3 : Int))
                                      (g ((0 : Nat) + (↑i : Int).toNat) (0 : Nat) % (4 : Int)))
                                    a b c x y z e →
                                  bif e != (0 : Int) then False
                                  else
                                    bif !(x == (0 : Int) && (y == b && (z == c && true))) then False
                                    else
                                      bif sum3 x y z != IntKind.i64.wrap (IntKind.i64.wrap ((0 : Int) + b) + c) then False
                                      else
                                        bif chk x y z != (0 : Int) then False
                                        else
                                          Kt Ex.normal (117 : Nat)
                                            [SV.slice (0 : Nat) (0 : Nat) (2 : Nat) n, SV.bool false,
                                              SV.ptr (1 : Nat) (0 : Nat) (3 : Nat) (0 : Nat),
                                              SV.ptr (2 : Nat) (0 : Nat) (3 : Nat) (0 : Nat), SV.int IntKind.i64 (↑i : Int)]
                                            [BO.raw
                                                (some
                                                  (Blk.mk (2 : Nat) n
                                                    (fun r =>
                                                      [SV.int IntKind.i64 (g r (0 : Nat)),
                                                        SV.int IntKind.i64 (g r (1 : Nat))])
                                                    false (0 : Nat))),
                                              BO.rows (3 : Nat) (1 : Nat)
                                                (Blk.mk (3 : Nat) (1 : Nat)
                                                    (fun r =>
                                                      [[SV.int IntKind.i64 a, SV.int IntKind.i64 b,
                                                              SV.int IntKind.i64 c]].getD
                                                        r [])
                                                    true (23 : Nat)).rw
                                                (23 : Nat)
                                                [[SV.int IntKind.i64 x, SV.int IntKind.i64 y, SV.int IntKind.i64 z]],
                                              BO.rows (3 : Nat) (1 : Nat)
                                                (Blk.mk (3 : Nat) (1 : Nat)
                                                    (fun r =>
                                                      [[SV.int IntKind.i64 a, SV.int IntKind.i64 b,
                                                              SV.int IntKind.i64 c]].getD
                                                        r [])
                                                    true (22 : Nat)).rw
                                                (22 : Nat)
                                                [[SV.int IntKind.i64 (0 : Int), SV.int IntKind.i64 b,
                                                    SV.int IntKind.i64 c]]]
                          else False
                        else False)
              else False
            else False) ∧
          (g ((0 : Nat) + (↑i : Int).toNat) (1 : Nat) % (3 : Int) = (1 : Int) →
              bif decide ((0 : Int) ≤ (↑i : Int)) && decide ((↑i : Int) < (↑n : Int)) then
                bif decide ((0 : Nat) + (↑i : Int).toNat < n) && true then
                  (g ((0 : Nat) + (↑i : Int).toNat) (0 : Nat) % (4 : Int) = (0 : Int) →
                      bif decide ((0 : Int) ≤ (↑i : Int)) && decide ((↑i : Int) < (↑n : Int)) then
                        bif decide ((0 : Nat) + (↑i : Int).toNat < n) && true then
                          ok3 a b c = true ∧
                            ∀ (x y z e : Int),
                              AnsP
                                  (gE a b c (g ((0 : Nat) + (↑i : Int).toNat) (1 : Nat) % (3 : Int))
                                    (g ((0 : Nat) + (↑i : Int).toNat) (0 : Nat) % (4 : Int)))
                                  (g ((0 : Nat) + (↑i : Int).toNat) (1 : Nat) % (3 : Int))
                                  (gV a b c (g ((0 : Nat) + (↑i : Int).toNat) (1 : Nat) % (3 : Int))
                                    (g ((0 : Nat) + (↑i : Int).toNat) (0 : Nat) % (4 : Int)))
                                  a b c x y z e →
                                bif e != (0 : Int) then False
                                else
                                  bif !(x == a && ((y == if (1 : Int) > b then (1 : Int) else b) && (z == c && true))) then
                                    False
                                  else
                                    bif decide ((2 : Int) < if (1 : Int) > b then (1 : Int) else b) then False
                                    else
                                      bif
                                          sum3 x y z !=
                                            IntKind.i64.wrap
                                              (IntKind.i64.wrap (a + if (1 : Int) > b then (1 : Int) else b) + c) then
                                        False
                                      else
                                        bif chk x y z != (0 : Int) then False
                                        else
                                          Kt Ex.normal (117 : Nat)
                                            [SV.slice (0 : Nat) (0 : Nat) (2 : Nat) n, SV.bool false,
                                              SV.ptr (1 : Nat) (0 : Nat) (3 : Nat) (0 : Nat),
                                              SV.ptr (2 : Nat) (0 : Nat) (3 : Nat) (0 : Nat), SV.int IntKind.i64 (↑i : Int)]
                                            [BO.raw
                                                (some
                                                  (Blk.mk (2 : Nat) n
                                                    (fun r =>
                                                      [SV.int IntKind.i64 (g r (0 : Nat)),
                                                        SV.int IntKind.i64 (g r (1 : Nat))])
                                                    false (0 : Nat))),
                                              BO.rows (3 : Nat) (1 : Nat)
                                                (Blk.mk (3 : Nat) (1 : Nat)
                                                    (fun r =>
                                                      [[SV.int IntKind.i64 a, SV.int IntKind.i64 b,
                                                              SV.int IntKind.i64 c]].getD
                                                        r [])
                                                    true (23 : Nat)).rw
                                                (23 : Nat)
                                                [[SV.int IntKind.i64 x, SV.int IntKind.i64 y, SV.int IntKind.i64 z]],
                                              BO.rows (3 : Nat) (1 : Nat)
                                                (Blk.mk (3 : Nat) (1 : Nat)
                                                    (fun r =>
                                                      [[SV.int IntKind.i64 a, SV.int IntKind.i64 b,
                                                              SV.int IntKind.i64 c]].getD
                                                        r [])
                                                    true (22 : Nat)).rw
                                                (22 : Nat)
                                                [[SV.int IntKind.i64 a,
                                                    SV.int IntKind.i64 (if (1 : Int) > b then (1 : Int) else b),
                                                    SV.int IntKind.i64 c]]]
                        else False
                      else False) ∧
                    (g ((0 : Nat) + (↑i : Int).toNat) (0 : Nat) % (4 : Int) = (1 : Int) →
                        bif decide ((0 : Int) ≤ (↑i : Int)) && decide ((↑i : Int) < (↑n : Int)) then
                          bif decide ((0 : Nat) + (↑i : Int).toNat < n) && true then
                            ok3 a b c = true ∧
                              ∀ (x y z e : Int),
                                AnsP
                                    (gE a b c (g ((0 : Nat) + (↑i : Int).toNat) (1 : Nat) % (3 : Int))
                                      (g ((0 : Nat) + (↑i : Int).toNat) (0 : Nat) % (4 : Int)))
                                    (g ((0 : Nat) + (↑i : Int).toNat) (1 : Nat) % (3 : Int))
                                    (gV a b c (g ((0 : Nat) + (↑i : Int).toNat) (1 : Nat) % (3 : Int))
                                      (g ((0 : Nat) + (↑i : Int).toNat) (0 : Nat) % (4 : Int)))
                                    a b c x y z e →
                                  bif e != (0 : Int) then False
                                  else
                                    bif
                                        !(x == a &&
                                            ((y == if (2 : Int) > b then (2 : Int) else b) && (z == c && true))) then
                                      False
                                    else
                                      bif decide ((2 : Int) < if (2 : Int) > b then (2 : Int) else b) then False
                                      else
                                        bif
                                            sum3 x y z !=
                                              IntKind.i64.wrap
                                                (IntKind.i64.wrap (a + if (2 : Int) > b then (2 : Int) else b) + c) then
                                          False
                                        else
                                          bif chk x y z != (0 : Int) then False
                                          else
                                            Kt Ex.normal (117 : Nat)
                                              [SV.slice (0 : Nat) (0 : Nat) (2 : Nat) n, SV.bool false,
                                                SV.ptr (1 : Nat) (0 : Nat) (3 : Nat) (0 : Nat),
                                                SV.ptr (2 : Nat) (0 : Nat) (3 : Nat) (0 : Nat),
                                                SV.int IntKind.i64 (↑i : Int)]
                                              [BO.raw
                                                  (some
                                                    (Blk.mk (2 : Nat) n
                                                      (fun r =>
                                                        [SV.int IntKind.i64 (g r (0 : Nat)),
                                                          SV.int IntKind.i64 (g r (1 : Nat))])
                                                      false (0 : Nat))),
                                                BO.rows (3 : Nat) (1 : Nat)
                                                  (Blk.mk (3 : Nat) (1 : Nat)
                                                      (fun r =>
                                                        [[SV.int IntKind.i64 a, SV.int IntKind.i64 b,
                                                                SV.int IntKind.i64 c]].getD
                                                          r [])
                                                      true (23 : Nat)).rw
                                                  (23 : Nat)
                                                  [[SV.int IntKind.i64 x, SV.int IntKind.i64 y, SV.int IntKind.i64 z]],
                                                BO.rows (3 : Nat) (1 : Nat)
                                                  (Blk.mk (3 : Nat) (1 : Nat)
                                                      (fun r =>
                                                        [[SV.int IntKind.i64 a, SV.int IntKind.i64 b,
                                                                SV.int IntKind.i64 c]].getD
                                                          r [])
                                                      true (22 : Nat)).rw
                                                  (22 : Nat)
                                                  [[SV.int IntKind.i64 a,
                                                      SV.int IntKind.i64 (if (2 : Int) > b then (2 : Int) else b),
                                                      SV.int IntKind.i64 c]]]
                          else False
                        else False) ∧
                      (g ((0 : Nat) + (↑i : Int).toNat) (0 : Nat) % (4 : Int) = (2 : Int) →
                          bif decide ((0 : Int) ≤ (↑i : Int)) && decide ((↑i : Int) < (↑n : Int)) then
                            bif decide ((0 : Nat) + (↑i : Int).toNat < n) && true then
                              ok3 a b c = true ∧
                                ∀ (x y z e : Int),
                                  AnsP
                                      (gE a b c (g ((0 : Nat) + (↑i : Int).toNat) (1 : Nat) % (3 : Int))
                                        (g ((0 : Nat) + (↑i : Int).toNat) (0 : Nat) % (4 : Int)))
                                      (g ((0 : Nat) + (↑i : Int).toNat) (1 : Nat) % (3 : Int))
                                      (gV a b c (g ((0 : Nat) + (↑i : Int).toNat) (1 : Nat) % (3 : Int))
                                        (g ((0 : Nat) + (↑i : Int).toNat) (0 : Nat) % (4 : Int)))
                                      a b c x y z e →
                                    bif b == (0 : Int) then
                                      bif e != (5 : Int) then False
                                      else
                                        bif !(x == (0 : Int) && (y == (0 : Int) && (z == (0 : Int) && true))) then False
                                        else
                                          Kt Ex.normal (117 : Nat)
                                            [SV.slice (0 : Nat) (0 : Nat) (2 : Nat) n, SV.bool false,
                                              SV.ptr (1 : Nat) (0 : Nat) (3 : Nat) (0 : Nat),
                                              SV.ptr (2 : Nat) (0 : Nat) (3 : Nat) (0 : Nat), SV.int IntKind.i64 (↑i : Int)]
                                            [BO.raw
                                                (some
                                                  (Blk.mk (2 : Nat) n
                                                    (fun r =>
                                                      [SV.int IntKind.i64 (g r (0 : Nat)),
                                                        SV.int IntKind.i64 (g r (1 : Nat))])
                                                    false (0 : Nat))),
                                              BO.rows (3 : Nat) (1 : Nat) true (23 : Nat)
                                                [[SV.int IntKind.i64 a, SV.int IntKind.i64 b, SV.int IntKind.i64 c]],
                                              BO.rows (3 : Nat) (1 : Nat) true (22 : Nat)
                                                [[SV.int IntKind.i64 a, SV.int IntKind.i64 b, SV.int IntKind.i64 c]]]
                                    else
                                      bif e != (0 : Int) then False
                                      else
                                        bif !(x == a && (y == IntKind.i64.wrap (b - (1 : Int)) && (z == c && true))) then
                                          False
                                        else
                                          bif decide ((2 : Int) < IntKind.i64.wrap (b - (1 : Int))) then False
                                          else
                                            bif
                                                sum3 x y z !=
                                                  IntKind.i64.wrap
                                                    (IntKind.i64.wrap (a + IntKind.i64.wrap (b - (1 : Int))) + c) then
                                              False
                                            else
                                              bif chk x y z != (0 : Int) then False
                                              else
                                                Kt Ex.normal (117 : Nat)
                                                  [SV.slice (0 : Nat) (0 : Nat) (2 : Nat) n, SV.bool false,
                                                    SV.ptr (1 : Nat) (0 : Nat) (3 : Nat) (0 : Nat),
                                                    SV.ptr (2 : Nat) (0 : Nat) (3 : Nat) (0 : Nat),
                                                    SV.int IntKind.i64 (↑i : Int)]
                                                  [BO.raw
                                                      (some
                                                        (Blk.mk (2 : Nat) n
                                                          (fun r =>
                                                            [SV.int IntKind.i64 (g r (0 : Nat)),
                                                              SV.int IntKind.i64 (g r (1 : Nat))])
                                                          false (0 : Nat))),
                                                    BO.rows (3 : Nat) (1 : Nat)
                                                      (Blk.mk (3 : Nat) (1 : Nat)
                                                          (fun r =>
                                                            [[SV.int IntKind.i64 a, SV.int IntKind.i64 b,
                                                                    SV.int IntKind.i64 c]].getD
                                                              r [])
                                                          true (23 : Nat)).rw
                                                      (23 : Nat)
                                                      [[SV.int IntKind.i64 x, SV.int IntKind.i64 y, SV.int IntKind.i64 z]],
                                                    BO.rows (3 : Nat) (1 : Nat)
                                                      (Blk.mk (3 : Nat) (1 : Nat)
                                                          (fun r =>
                                                            [[SV.int IntKind.i64 a, SV.int IntKind.i64 b,
                                                                    SV.int IntKind.i64 c]].getD
                                                              r [])
                                                          true (22 : Nat)).rw
                                                      (22 : Nat)
                                                      [[SV.int IntKind.i64 a,
                                                          SV.int IntKind.i64 (IntKind.i64.wrap (b - (1 : Int))),
                                                          SV.int IntKind.i64 c]]]
                            else False
                          else False) ∧
                        (g ((0 : Nat) + (↑i : Int).toNat) (0 : Nat) % (4 : Int) = (3 : Int) →
                          bif decide ((0 : Int) ≤ (↑i : Int)) && decide ((↑i : Int) < (↑n : Int)) then
                            bif decide ((0 : Nat) + (↑i : Int).toNat < n) && true then
                              ok3 a b c = true ∧
                                ∀ (x y z e : Int),
                                  AnsP
                                      (gE a b c (g ((0 : Nat) + (↑i : Int).toNat) (1 : Nat) % (3 : Int))
                                        (g ((0 : Nat) + (↑i : Int).toNat) (0 : Nat) % (4 : Int)))
                                      (g ((0 : Nat) + (↑i : Int).toNat) (1 : Nat) % (3 : Int))
                                      (gV a b c (g ((0 : Nat) + (↑i : Int).toNat) (1 : Nat) % (3 : Int))
                                        (g ((0 : Nat) + (↑i : Int).toNat) (0 : Nat) % (4 : Int)))
                                      a b c x y z e →
                                    bif e != (0 : Int) then False
                                    else
                                      bif !(x == a && (y == (0 : Int) && (z == c && true))) then False
                                      else
                                        bif sum3 x y z != IntKind.i64.wrap (IntKind.i64.wrap (a + (0 : Int)) + c) then False
                                        else
                                          bif chk x y z != (0 : Int) then False
                                          else
                                            Kt Ex.normal (117 : Nat)
                                              [SV.slice (0 : Nat) (0 : Nat) (2 : Nat) n, SV.bool false,
                                                SV.ptr (1 : Nat) (0 : Nat) (3 : Nat) (0 : Nat),
                                                SV.ptr (2 : Nat) (0 : Nat) (3 : Nat) (0 : Nat),
                                                SV.int IntKind.i64 (↑i : Int)]
                                              [BO.raw
                                                  (some
                                                    (Blk.mk (2 : Nat) n
                                                      (fun r =>
                                                        [SV.int IntKind.i64 (g r (0 : Nat)),
                                                          SV.int IntKind.i64 (g r (1 : Nat))])
                                                      false (0 : Nat))),
                                                BO.rows (3 : Nat) (1 : Nat)
                                                  (Blk.mk (3 : Nat) (1 : Nat)
                                                      (fun r =>
                                                        [[SV.int IntKind.i64 a, SV.int IntKind.i64 b,
                                                                SV.int IntKind.i64 c]].getD
                                                          r [])
                                                      true (23 : Nat)).rw
                                                  (23 : Nat)
                                                  [[SV.int IntKind.i64 x, SV.int IntKind.i64 y, SV.int IntKind.i64 z]],
                                                BO.rows (3 : Nat) (1 : Nat)
                                                  (Blk.mk (3 : Nat) (1 : Nat)
                                                      (fun r =>
                                                        [[SV.int IntKind.i64 a, SV.int IntKind.i64 b,
                                                                SV.int IntKind.i64 c]].getD
                                                          r [])
                                                      true (22 : Nat)).rw
                                                  (22 : Nat)
                                                  [[SV.int IntKind.i64 a, SV.int IntKind.i64 (0 : Int),
                                                      SV.int IntKind.i64 c]]]
                            else False
                          else False)
                else False
              else False) ∧
            (g ((0 : Nat) + (↑i : Int).toNat) (1 : Nat) % (3 : Int) = (2 : Int) →
              bif decide ((0 : Int) ≤ (↑i : Int)) && decide ((↑i : Int) < (↑n : Int)) then
                bif decide ((0 : Nat) + (↑i : Int).toNat < n) && true then
                  (g ((0 : Nat) + (↑i : Int).toNat) (0 : Nat) % (4 : Int) = (0 : Int) →
                      bif decide ((0 : Int) ≤ (↑i : Int)) && decide ((↑i : Int) < (↑n : Int)) then
                        bif decide ((0 : Nat) + (↑i : Int).toNat < n) && true then
                          ok3 a b c = true ∧
                            ∀ (x y z e : Int),
                              AnsP
                                  (gE a b c (g ((0 : Nat) + (↑i : Int).toNat) (1 : Nat) % (3 : Int))
                                    (g ((0 : Nat) + (↑i : Int).toNat) (0 : Nat) % (4 : Int)))
                                  (g ((0 : Nat) + (↑i : Int).toNat) (1 : Nat) % (3 : Int))
                                  (gV a b c (g ((0 : Nat) + (↑i : Int).toNat) (1 : Nat) % (3 : Int))
                                    (g ((0 : Nat) + (↑i : Int).toNat) (0 : Nat) % (4 : Int)))
                                  a b c x y z e →
                                bif e != (0 : Int) then False
                                else
                                  bif !(x == a && (y == b && ((z == if (1 : Int) > c then (1 : Int) else c) && true))) then
                                    False
                                  else
                                    bif decide ((2 : Int) < if (1 : Int) > c then (1 : Int) else c) then False
                                    else
                                      bif
                                          sum3 x y z !=
                                            IntKind.i64.wrap
                                              (IntKind.i64.wrap (a + b) + if (1 : Int) > c then (1 : Int) else c) then
                                        False
                                      else
                                        bif chk x y z != (0 : Int) then False
                                        else
                                          Kt Ex.normal (117 : Nat)
                                            [SV.slice (0 : Nat) (0 : Nat) (2 : Nat) n, SV.bool false,
                                              SV.ptr (1 : Nat) (0 : Nat) (3 : Nat) (0 : Nat),
                                              SV.ptr (2 : Nat) (0 : Nat) (3 : Nat) (0 : Nat), SV.int IntKind.i64 (↑i : Int)]
                                            [BO.raw
                                                (some
                                                  (Blk.mk (2 : Nat) n
                                                    (fun r =>
                                                      [SV.int IntKind.i64 (g r (0 : Nat)),
                                                        SV.int IntKind.i64 (g r (1 : Nat))])
                                                    false (0 : Nat))),
                                              BO.rows (3 : Nat) (1 : Nat)
                                                (Blk.mk (3 : Nat) (1 : Nat)
                                                    (fun r =>
                                                      [[SV.int IntKind.i64 a, SV.int IntKind.i64 b,
                                                              SV.int IntKind.i64 c]].getD
                                                        r [])
                                                    true (23 : Nat)).rw
                                                (23 : Nat)
                                                [[SV.int IntKind.i64 x, SV.int IntKind.i64 y, SV.int IntKind.i64 z]],
                                              BO.rows (3 : Nat) (1 : Nat)
                                                (Blk.mk (3 : Nat) (1 : Nat)
                                                    (fun r =>
                                                      [[SV.int IntKind.i64 a, SV.int IntKind.i64 b,
                                                              SV.int IntKind.i64 c]].getD
                                                        r [])
                                                    true (22 : Nat)).rw
                                                (22 : Nat)
                                                [[SV.int IntKind.i64 a, SV.int IntKind.i64 b,
                                                    SV.int IntKind.i64 (if (1 : Int) > c then (1 : Int) else c)]]]
                        else False
                      else False) ∧
                    (g ((0 : Nat) + (↑i : Int).toNat) (0 : Nat) % (4 : Int) = (1 : Int) →
                        bif decide ((0 : Int) ≤ (↑i : Int)) && decide ((↑i : Int) < (↑n : Int)) then
                          bif decide ((0 : Nat) + (↑i : Int).toNat < n) && true then
                            ok3 a b c = true ∧
                              ∀ (x y z e : Int),
                                AnsP
                                    (gE a b c (g ((0 : Nat) + (↑i : Int).toNat) (1 : Nat) % (3 : Int))
                                      (g ((0 : Nat) + (↑i : Int).toNat) (0 : Nat) % (4 : Int)))
                                    (g ((0 : Nat) + (↑i : Int).toNat) (1 : Nat) % (3 : Int))
                                    (gV a b c (g ((0 : Nat) + (↑i : Int).toNat) (1 : Nat) % (3 : Int))
                                      (g ((0 : Nat) + (↑i : Int).toNat) (0 : Nat) % (4 : Int)))
                                    a b c x y z e →
                                  bif e != (0 : Int) then False
                                  else
                                    bif
                                        !(x == a &&
                                            (y == b && ((z == if (2 : Int) > c then (2 : Int) else c) && true))) then
                                      False
                                    else
                                      bif decide ((2 : Int) < if (2 : Int) > c then (2 : Int) else c) then False
                                      else
                                        bif
                                            sum3 x y z !=
                                              IntKind.i64.wrap
                                                (IntKind.i64.wrap (a + b) + if (2 : Int) > c then (2 : Int) else c) then
                                          False
                                        else
                                          bif chk x y z != (0 : Int) then False
                                          else
                                            Kt Ex.normal (117 : Nat)
                                              [SV.slice (0 : Nat) (0 : Nat) (2 : Nat) n, SV.bool false,
                                                SV.ptr (1 : Nat) (0 : Nat) (3 : Nat) (0 : Nat),
                                                SV.ptr (2 : Nat) (0 : Nat) (3 : Nat) (0 : Nat),
                                                SV.int IntKind.i64 (↑i : Int)]
                                              [BO.raw
                                                  (some
                                                    (Blk.mk (2 : Nat) n
                                                      (fun r =>
                                                        [SV.int IntKind.i64 (g r (0 : Nat)),
                                                          SV.int IntKind.i64 (g r (1 : Nat))])
                                                      false (0 : Nat))),
                                                BO.rows (3 : Nat) (1 : Nat)
                                                  (Blk.mk (3 : Nat) (1 : Nat)
                                                      (fun r =>
                                                        [[SV.int IntKind.i64 a, SV.int IntKind.i64 b,
                                                                SV.int IntKind.i64 c]].getD
                                                          r [])
                                                      true (23 : Nat)).rw
                                                  (23 : Nat)
                                                  [[SV.int IntKind.i64 x, SV.int IntKind.i64 y, SV.int IntKind.i64 z]],
                                                BO.rows (3 : Nat) (1 : Nat)
                                                  (Blk.mk (3 : Nat) (1 : Nat)
                                                      (fun r =>
                                                        [[SV.int IntKind.i64 a, SV.int IntKind.i64 b,
                                                                SV.int IntKind.i64 c]].getD
                                                          r [])
                                                      true (22 : Nat)).rw
                                                  (22 : Nat)
                                                  [[SV.int IntKind.i64 a, SV.int IntKind.i64 b,
                                                      SV.int IntKind.i64 (if (2 : Int) > c then (2 : Int) else c)]]]
                          else False
                        else False) ∧
                      (g ((0 : Nat) + (↑i : Int).toNat) (0 : Nat) % (4 : Int) = (2 : Int) →
                          bif decide ((0 : Int) ≤ (↑i : Int)) && decide ((↑i : Int) < (↑n : Int)) then
                            bif decide ((0 : Nat) + (↑i : Int).toNat < n) && true then
                              ok3 a b c = true ∧
                                ∀ (x y z e : Int),
                                  AnsP
                                      (gE a b c (g ((0 : Nat) + (↑i : Int).toNat) (1 : Nat) % (3 : Int))
                                        (g ((0 : Nat) + (↑i : Int).toNat) (0 : Nat) % (4 : Int)))
                                      (g ((0 : Nat) + (↑i : Int).toNat) (1 : Nat) % (3 : Int))
                                      (gV a b c (g ((0 : Nat) + (↑i : Int).toNat) (1 : Nat) % (3 : Int))
                                        (g ((0 : Nat) + (↑i : Int).toNat) (0 : Nat) % (4 : Int)))
                                      a b c x y z e →
                                    bif c == (0 : Int) then
                                      bif e != (5 : Int) then False
                                      else
                                        bif !(x == (0 : Int) && (y == (0 : Int) && (z == (0 : Int) && true))) then False
                                        else
                                          Kt Ex.normal (117 : Nat)
                                            [SV.slice (0 : Nat) (0 : Nat) (2 : Nat) n, SV.bool false,
                                              SV.ptr (1 : Nat) (0 : Nat) (3 : Nat) (0 : Nat),
                                              SV.ptr (2 : Nat) (0 : Nat) (3 : Nat) (0 : Nat), SV.int IntKind.i64 (↑i : Int)]
                                            [BO.raw
                                                (some
                                                  (Blk.mk (2 : Nat) n
                                                    (fun r =>
                                                      [SV.int IntKind.i64 (g r (0 : Nat)),
                                                        SV.int IntKind.i64 (g r (1 : Nat))])
                                                    false (0 : Nat))),
                                              BO.rows (3 : Nat) (1 : Nat) true (23 : Nat)
                                                [[SV.int IntKind.i64 a, SV.int IntKind.i64 b, SV.int IntKind.i64 c]],
                                              BO.rows (3 : Nat) (1 : Nat) true (22 : Nat)
                                                [[SV.int IntKind.i64 a, SV.int IntKind.i64 b, SV.int IntKind.i64 c]]]
                                    else
                                      bif e != (0 : Int) then False
                                      else
                                        bif !(x == a && (y == b && (z == IntKind.i64.wrap (c - (1 : Int)) && true))) then
                                          False
                                        else
                                          bif decide ((2 : Int) < IntKind.i64.wrap (c - (1 : Int))) then False
                                          else
                                            bif
                                                sum3 x y z !=
                                                  IntKind.i64.wrap
                                                    (IntKind.i64.wrap (a + b) + IntKind.i64.wrap (c - (1 : Int))) then
                                              False
                                            else
                                              bif chk x y z != (0 : Int) then False
                                              else
                                                Kt Ex.normal (117 : Nat)
                                                  [SV.slice (0 : Nat) (0 : Nat) (2 : Nat) n, SV.bool false,
                                                    SV.ptr (1 : Nat) (0 : Nat) (3 : Nat) (0 : Nat),
                                                    SV.ptr (2 : Nat) (0 : Nat) (3 : Nat) (0 : Nat),
                                                    SV.int IntKind.i64 (↑i : Int)]
                                                  [BO.raw
                                                      (some
                                                        (Blk.mk (2 : Nat) n
                                                          (fun r =>
                                                            [SV.int IntKind.i64 (g r (0 : Nat)),
                                                              SV.int IntKind.i64 (g r (1 : Nat))])
                                                          false (0 : Nat))),
                                                    BO.rows (3 : Nat) (1 : Nat)
                                                      (Blk.mk (3 : Nat) (1 : Nat)
                                                          (fun r =>
                                                            [[SV.int IntKind.i64 a, SV.int IntKind.i64 b,
                                                                    SV.int IntKind.i64 c]].getD
                                                              r [])
                                                          true (23 : Nat)).rw
                                                      (23 : Nat)
                                                      [[SV.int IntKind.i64 x, SV.int IntKind.i64 y, SV.int IntKind.i64 z]],
                                                    BO.rows (3 : Nat) (1 : Nat)
                                                      (Blk.mk (3 : Nat) (1 : Nat)
                                                          (fun r =>
                                                            [[SV.int IntKind.i64 a, SV.int IntKind.i64 b,
                                                                    SV.int IntKind.i64 c]].getD
                                                              r [])
                                                          true (22 : Nat)).rw
                                                      (22 : Nat)
                                                      [[SV.int IntKind.i64 a, SV.int IntKind.i64 b,
                                                          SV.int IntKind.i64 (IntKind.i64.wrap (c - (1 : Int)))]]]
                            else False
                          else False) ∧
                        (g ((0 : Nat) + (↑i : Int).toNat) (0 : Nat) % (4 : Int) = (3 : Int) →
                          bif decide ((0 : Int) ≤ (↑i : Int)) && decide ((↑i : Int) < (↑n : Int)) then
                            bif decide ((0 : Nat) + (↑i : Int).toNat < n) && true then
                              ok3 a b c = true ∧
                                ∀ (x y z e : Int),
                                  AnsP
                                      (gE a b c (g ((0 : Nat) + (↑i : Int).toNat) (1 : Nat) % (3 : Int))
                                        (g ((0 : Nat) + (↑i : Int).toNat) (0 : Nat) % (4 : Int)))
                                      (g ((0 : Nat) + (↑i : Int).toNat) (1 : Nat) % (3 : Int))
                                      (gV a b c (g ((0 : Nat) + (↑i : Int).toNat) (1 : Nat) % (3 : Int))
                                        (g ((0 : Nat) + (↑i : Int).toNat) (0 : Nat) % (4 : Int)))
                                      a b c x y z e →
                                    bif e != (0 : Int) then False
                                    else
                                      bif !(x == a && (y == b && (z == (0 : Int) && true))) then False
                                      else
                                        bif sum3 x y z != IntKind.i64.wrap (IntKind.i64.wrap (a + b) + (0 : Int)) then False
                                        else
                                          bif chk x y z != (0 : Int) then False
                                          else
                                            Kt Ex.normal (117 : Nat)
                                              [SV.slice (0 : Nat) (0 : Nat) (2 : Nat) n, SV.bool false,
                                                SV.ptr (1 : Nat) (0 : Nat) (3 : Nat) (0 : Nat),
                                                SV.ptr (2 : Nat) (0 : Nat) (3 : Nat) (0 : Nat),
                                                SV.int IntKind.i64 (↑i : Int)]
                                              [BO.raw
                                                  (some
                                                    (Blk.mk (2 : Nat) n
                                                      (fun r =>
                                                        [SV.int IntKind.i64 (g r (0 : Nat)),
                                                          SV.int IntKind.i64 (g r (1 : Nat))])
                                                      false (0 : Nat))),
                                                BO.rows (3 : Nat) (1 : Nat)
                                                  (Blk.mk (3 : Nat) (1 : Nat)
                                                      (fun r =>
                                                        [[SV.int IntKind.i64 a, SV.int IntKind.i64 b,
                                                                SV.int IntKind.i64 c]].getD
                                                          r [])
                                                      true (23 : Nat)).rw
                                                  (23 : Nat)
                                                  [[SV.int IntKind.i64 x, SV.int IntKind.i64 y, SV.int IntKind.i64 z]],
                                                BO.rows (3 : Nat) (1 : Nat)
                                                  (Blk.mk (3 : Nat) (1 : Nat)
                                                      (fun r =>
                                                        [[SV.int IntKind.i64 a, SV.int IntKind.i64 b,
                                                                SV.int IntKind.i64 c]].getD
                                                          r [])
                                                      true (22 : Nat)).rw
                                                  (22 : Nat)
                                                  [[SV.int IntKind.i64 a, SV.int IntKind.i64 b,
                                                      SV.int IntKind.i64 (0 : Int)]]]
                            else False
                          else False)
                else False
              else False)
      else False
    else False) := by kernel_rfl
theorem p4n (n : Nat) (g : Nat → Nat → Int) (i : Nat) (a b c : Int) (Kt : KT) : evalC C11 0  1 (sq2 (sq2 c4_5)) (tplF 117 L4 (v4 n i)) ((hb4 n g a b c).map mkB) ( obsN L4 [false, true, true] Kt) = (
    Kt Ex.normal (117 : Nat)
      [SV.slice (0 : Nat) (0 : Nat) (2 : Nat) n, SV.bool false, SV.ptr (1 : Nat) (0 : Nat) (3 : Nat) (0 : Nat),
        SV.ptr (2 : Nat) (0 : Nat) (3 : Nat) (0 : Nat), SV.int IntKind.i64 (IntKind.i64.wrap ((↑i : Int) + (1 : Int)))]
      [BO.raw
          (some
            (Blk.mk (2 : Nat) n (fun r => [SV.int IntKind.i64 (g r (0 : Nat)), SV.int IntKind.i64 (g r (1 : Nat))]) false
              (0 : Nat))),
        BO.rows (3 : Nat) (1 : Nat) true (23 : Nat) [[SV.int IntKind.i64 a, SV.int IntKind.i64 b, SV.int IntKind.i64 c]],
        BO.rows (3 : Nat) (1 : Nat) true (22 : Nat) [[SV.int IntKind.i64 a, SV.int IntKind.i64 b, SV.int IntKind.i64 c]]]) := by kernel_rfl
theorem p4e (n : Nat) (g : Nat → Nat → Int) (i : Nat) (a b c : Int) (Kt : KT) : evalC C11 0  1 c4_6 (tplF 117 L4 (v4 n i)) ((hb4 n g a b c).map mkB) ( obs [2] [] Kt) = (
    Kt Ex.ret (117 : Nat) [SV.bool true] []) := by kernel_rfl
end Go.Proofs.Ytfhkmagpgbcnjaa
