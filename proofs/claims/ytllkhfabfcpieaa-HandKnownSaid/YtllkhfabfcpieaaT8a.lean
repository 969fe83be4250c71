/-
  What functions of the program come to, way by way: printed by a program, held by the kernel.
-/
import Derived.Test.YtllkhfabfcpieaaX8
namespace Go.Proofs.Ytllkhfabfcpieaa
open Go.RowKit
set_option maxRecDepth 100000

theorem p8sa (b : Bool) (n m : Nat) (g g2 : Nat → Nat → Int) (Kt : KT) : evalC C7 0  2 (.seq c8_0 (.seq c8_1 (.seq c8_2 (.seq c8_3 (.seq c8_4 .skip))))) (enterS 130 [.bool b, .slice 0 0 2 n, .slice 1 0 2 m]) [some (bD n g), some (bD m g2)] ( obsE Try.prog Try.f8.results.toList L8 M8s Kt (fun _ => False)) = (
    IsDo
        (Blk.mk (2 : Nat) n (fun r => [SV.int IntKind.i64 (g r (0 : Nat)), SV.int IntKind.i64 (g r (1 : Nat))]) false
          (0 : Nat))
        n ∧
      ∀ (hd : Hd),
        hd = playB b (bD n g) n →
          IsDo
              (Blk.mk (2 : Nat) n (fun r => [SV.int IntKind.i64 (g r (0 : Nat)), SV.int IntKind.i64 (g r (1 : Nat))]) false
                (0 : Nat))
              n ∧
            ∀ (hd_1 : Hd),
              hd_1 = playB b (bD n g) n →
                bif nothV (Hd.mk hd.sv hd.e0 hd.e1 hd.e2 hd.va hd.cf hd.an) then False
                else
                  bif
                      decide ((0 : Int) ≤ if (60 : Int) < (↑n : Int) then (60 : Int) else (↑n : Int)) &&
                        decide ((if (60 : Int) < (↑n : Int) then (60 : Int) else (↑n : Int)) ≤ (↑n : Int)) then
                    bif decide ((0 : Int) < if (60 : Int) < (↑n : Int) then (60 : Int) else (↑n : Int)) then
                      bif
                          decide
                            ((0 : Nat) + ((if (60 : Int) < (↑n : Int) then (60 : Int) else (↑n : Int)).toNat - (0 : Nat)) ≤
                              n) then
                        bif
                            decide
                              ((if (60 : Int) < (↑n : Int) then (60 : Int) else (↑n : Int)).toNat - (0 : Nat) =
                                (0 : Nat)) then
                          bif decide ((0 : Nat) + m ≤ m) then
                            bif decide (m = (0 : Nat)) then
                              Kt Ex.normal (130 : Nat)
                                [SV.bool b, SV.slice (0 : Nat) (0 : Nat) (2 : Nat) n,
                                  SV.slice (1 : Nat) (0 : Nat) (2 : Nat) m, SV.ptr (2 : Nat) (0 : Nat) (7 : Nat) (0 : Nat),
                                  SV.ptr (3 : Nat) (0 : Nat) (7 : Nat) (0 : Nat),
                                  SV.ptr (4 : Nat) (0 : Nat) (7 : Nat) (0 : Nat),
                                  SV.slice (5 : Nat) (0 : Nat) (2 : Nat) (0 : Nat), SV.top]
                                [BO.raw
                                    (some
                                      (Blk.mk (2 : Nat) n
                                        (fun r => [SV.int IntKind.i64 (g r (0 : Nat)), SV.int IntKind.i64 (g r (1 : Nat))])
                                        false (0 : Nat))),
                                  BO.raw
                                    (some
                                      (Blk.mk (2 : Nat) m
                                        (fun r =>
                                          [SV.int IntKind.i64 (g2 r (0 : Nat)), SV.int IntKind.i64 (g2 r (1 : Nat))])
                                        false (0 : Nat))),
                                  BO.rows (7 : Nat) (1 : Nat) true (54 : Nat)
                                    [[SV.bool hd.sv, SV.int IntKind.i64 hd.e0, SV.int IntKind.i64 hd.e1,
                                        SV.int IntKind.i64 hd.e2, SV.bool hd.va, SV.bool hd.cf, SV.bool hd.an]],
                                  BO.rows (7 : Nat) (1 : Nat) true (54 : Nat)
                                    [[SV.bool hd_1.sv, SV.int IntKind.i64 hd_1.e0, SV.int IntKind.i64 hd_1.e1,
                                        SV.int IntKind.i64 hd_1.e2, SV.bool hd_1.va, SV.bool hd_1.cf, SV.bool hd_1.an]],
                                  BO.rows (7 : Nat) (1 : Nat) true (54 : Nat)
                                    [[SV.bool hd.sv, SV.int IntKind.i64 hd.e0, SV.int IntKind.i64 hd.e1,
                                        SV.int IntKind.i64 hd.e2, SV.bool hd.va, SV.bool hd.cf, SV.bool hd.an]],
                                  BO.raw
                                    (some
                                      (Blk.mk (2 : Nat) (0 : Nat)
                                        (fun r =>
                                          List.take C7.P.types[(27 : Nat)].size
                                            (List.drop (r * C7.P.types[(27 : Nat)].size) []))
                                        true (27 : Nat))),
                                  BO.raw none, BO.raw none]
                            else
                              bif
                                  allOne (fun i => (bD m g2).rd ((0 : Nat) + i)) m && true && true &&
                                                  decide ((0 : Nat) + m ≤ (9223372036854775807 : Nat)) &&
                                                decide (((0 : Nat) + m) * (16 : Nat) ≤ (140737488355328 : Nat)) &&
                                              true &&
                                            true &&
                                          true &&
                                        true &&
                                      true &&
                                    true then
                                Kt Ex.normal (130 : Nat)
                                  [SV.bool b, SV.slice (0 : Nat) (0 : Nat) (2 : Nat) n,
                                    SV.slice (1 : Nat) (0 : Nat) (2 : Nat) m,
                                    SV.ptr (2 : Nat) (0 : Nat) (7 : Nat) (0 : Nat),
                                    SV.ptr (3 : Nat) (0 : Nat) (7 : Nat) (0 : Nat),
                                    SV.ptr (4 : Nat) (0 : Nat) (7 : Nat) (0 : Nat),
                                    SV.slice (6 : Nat) (0 : Nat) (2 : Nat) ((0 : Nat) + m), SV.top]
                                  [BO.raw
                                      (some
                                        (Blk.mk (2 : Nat) n
                                          (fun r =>
                                            [SV.int IntKind.i64 (g r (0 : Nat)), SV.int IntKind.i64 (g r (1 : Nat))])
                                          false (0 : Nat))),
                                    BO.raw
                                      (some
                                        (Blk.mk (2 : Nat) m
                                          (fun r =>
                                            [SV.int IntKind.i64 (g2 r (0 : Nat)), SV.int IntKind.i64 (g2 r (1 : Nat))])
                                          false (0 : Nat))),
                                    BO.rows (7 : Nat) (1 : Nat) true (54 : Nat)
                                      [[SV.bool hd.sv, SV.int IntKind.i64 hd.e0, SV.int IntKind.i64 hd.e1,
                                          SV.int IntKind.i64 hd.e2, SV.bool hd.va, SV.bool hd.cf, SV.bool hd.an]],
                                    BO.rows (7 : Nat) (1 : Nat) true (54 : Nat)
                                      [[SV.bool hd_1.sv, SV.int IntKind.i64 hd_1.e0, SV.int IntKind.i64 hd_1.e1,
                                          SV.int IntKind.i64 hd_1.e2, SV.bool hd_1.va, SV.bool hd_1.cf, SV.bool hd_1.an]],
                                    BO.rows (7 : Nat) (1 : Nat) true (54 : Nat)
                                      [[SV.bool hd.sv, SV.int IntKind.i64 hd.e0, SV.int IntKind.i64 hd.e1,
                                          SV.int IntKind.i64 hd.e2, SV.bool hd.va, SV.bool hd.cf, SV.bool hd.an]],
                                    BO.raw none,
                                    BO.raw
                                      (some
                                        (Blk.mk (2 : Nat) ((0 : Nat) + m)
                                          (fun r =>
                                            [SV.int IntKind.i64 (g2 ((0 : Nat) + (r - (0 : Nat))) (0 : Nat)),
                                              SV.int IntKind.i64 (g2 ((0 : Nat) + (r - (0 : Nat))) (1 : Nat))])
                                          true (27 : Nat))),
                                    BO.raw none]
                              else False
                          else False
                        else
                          bif
                              allOne (fun i => (bD n g).rd ((0 : Nat) + Int.toNat (0 : Int) + i))
                                                    ((if (60 : Int) < (↑n : Int) then (60 : Int) else (↑n : Int)).toNat -
                                                      (0 : Nat)) &&
                                                  true &&
                                                true &&
                                              decide
                                                ((0 : Nat) +
                                                    ((if (60 : Int) < (↑n : Int) then (60 : Int) else (↑n : Int)).toNat -
                                                      (0 : Nat)) ≤
                                                  (9223372036854775807 : Nat)) &&
                                            decide
                                              (((0 : Nat) +
                                                    ((if (60 : Int) < (↑n : Int) then (60 : Int) else (↑n : Int)).toNat -
                                                      (0 : Nat))) *
                                                  (16 : Nat) ≤
                                                (140737488355328 : Nat)) &&
                                          true &&
                                        true &&
                                      true &&
                                    true &&
                                  true &&
                                true then
                            bif decide ((0 : Nat) + m ≤ m) then
                              bif decide (m = (0 : Nat)) then
                                Kt Ex.normal (130 : Nat)
                                  [SV.bool b, SV.slice (0 : Nat) (0 : Nat) (2 : Nat) n,
                                    SV.slice (1 : Nat) (0 : Nat) (2 : Nat) m,
                                    SV.ptr (2 : Nat) (0 : Nat) (7 : Nat) (0 : Nat),
                                    SV.ptr (3 : Nat) (0 : Nat) (7 : Nat) (0 : Nat),
                                    SV.ptr (4 : Nat) (0 : Nat) (7 : Nat) (0 : Nat),
                                    SV.slice (6 : Nat) (0 : Nat) (2 : Nat)
                                      ((0 : Nat) +
                                        ((if (60 : Int) < (↑n : Int) then (60 : Int) else (↑n : Int)).toNat - (0 : Nat))),
                                    SV.top]
                                  [BO.raw
                                      (some
                                        (Blk.mk (2 : Nat) n
                                          (fun r =>
                                            [SV.int IntKind.i64 (g r (0 : Nat)), SV.int IntKind.i64 (g r (1 : Nat))])
                                          false (0 : Nat))),
                                    BO.raw
                                      (some
                                        (Blk.mk (2 : Nat) m
                                          (fun r =>
                                            [SV.int IntKind.i64 (g2 r (0 : Nat)), SV.int IntKind.i64 (g2 r (1 : Nat))])
                                          false (0 : Nat))),
                                    BO.rows (7 : Nat) (1 : Nat) true (54 : Nat)
                                      [[SV.bool hd.sv, SV.int IntKind.i64 hd.e0, SV.int IntKind.i64 hd.e1,
                                          SV.int IntKind.i64 hd.e2, SV.bool hd.va, SV.bool hd.cf, SV.bool hd.an]],
                                    BO.rows (7 : Nat) (1 : Nat) true (54 : Nat)
                                      [[SV.bool hd_1.sv, SV.int IntKind.i64 hd_1.e0, SV.int IntKind.i64 hd_1.e1,
                                          SV.int IntKind.i64 hd_1.e2, SV.bool hd_1.va, SV.bool hd_1.cf, SV.bool hd_1.an]],
                                    BO.rows (7 : Nat) (1 : Nat) true (54 : Nat)
                                      [[SV.bool hd.sv, SV.int IntKind.i64 hd.e0, SV.int IntKind.i64 hd.e1,
                                          SV.int IntKind.i64 hd.e2, SV.bool hd.va, SV.bool hd.cf, SV.bool hd.an]],
                                    BO.raw none,
                                    BO.raw
                                      (some
                                        (Blk.mk (2 : Nat)
                                          ((0 : Nat) +
                                            ((if (60 : Int) < (↑n : Int) then (60 : Int) else (↑n : Int)).toNat -
                                              (0 : Nat)))
                                          (fun r =>
                                            [SV.int IntKind.i64 (g ((0 : Nat) + (r - (0 : Nat))) (0 : Nat)),
                                              SV.int IntKind.i64 (g ((0 : Nat) + (r - (0 : Nat))) (1 : Nat))])
                                          true (27 : Nat))),
                                    BO.raw none]
                              else
                                bif
                                    allOne (fun i => (bD m g2).rd ((0 : Nat) + i)) m && true && true &&
                                                    decide
                                                      ((0 : Nat) +
                                                            ((if (60 : Int) < (↑n : Int) then (60 : Int)
                                                                else (↑n : Int)).toNat -
                                                              (0 : Nat)) +
                                                          m ≤
                                                        (9223372036854775807 : Nat)) &&
                                                  decide
                                                    (((0 : Nat) +
                                                            ((if (60 : Int) < (↑n : Int) then (60 : Int)
                                                                else (↑n : Int)).toNat -
                                                              (0 : Nat)) +
                                                          m) *
                                                        (16 : Nat) ≤
                                                      (140737488355328 : Nat)) &&
                                                true &&
                                              true &&
                                            true &&
                                          true &&
                                        decide
                                          ((0 : Nat) +
                                              ((if (60 : Int) < (↑n : Int) then (60 : Int) else (↑n : Int)).toNat -
                                                (0 : Nat)) =
                                            (0 : Nat) +
                                              ((if (60 : Int) < (↑n : Int) then (60 : Int) else (↑n : Int)).toNat -
                                                (0 : Nat))) &&
                                      true then
                                  Kt Ex.normal (130 : Nat)
                                    [SV.bool b, SV.slice (0 : Nat) (0 : Nat) (2 : Nat) n,
                                      SV.slice (1 : Nat) (0 : Nat) (2 : Nat) m,
                                      SV.ptr (2 : Nat) (0 : Nat) (7 : Nat) (0 : Nat),
                                      SV.ptr (3 : Nat) (0 : Nat) (7 : Nat) (0 : Nat),
                                      SV.ptr (4 : Nat) (0 : Nat) (7 : Nat) (0 : Nat),
                                      SV.slice (7 : Nat) (0 : Nat) (2 : Nat)
                                        ((0 : Nat) +
                                            ((if (60 : Int) < (↑n : Int) then (60 : Int) else (↑n : Int)).toNat -
                                              (0 : Nat)) +
                                          m),
                                      SV.top]
                                    [BO.raw
                                        (some
                                          (Blk.mk (2 : Nat) n
                                            (fun r =>
                                              [SV.int IntKind.i64 (g r (0 : Nat)), SV.int IntKind.i64 (g r (1 : Nat))])
                                            false (0 : Nat))),
                                      BO.raw
                                        (some
                                          (Blk.mk (2 : Nat) m
                                            (fun r =>
                                              [SV.int IntKind.i64 (g2 r (0 : Nat)), SV.int IntKind.i64 (g2 r (1 : Nat))])
                                            false (0 : Nat))),
                                      BO.rows (7 : Nat) (1 : Nat) true (54 : Nat)
                                        [[SV.bool hd.sv, SV.int IntKind.i64 hd.e0, SV.int IntKind.i64 hd.e1,
                                            SV.int IntKind.i64 hd.e2, SV.bool hd.va, SV.bool hd.cf, SV.bool hd.an]],
                                      BO.rows (7 : Nat) (1 : Nat) true (54 : Nat)
                                        [[SV.bool hd_1.sv, SV.int IntKind.i64 hd_1.e0, SV.int IntKind.i64 hd_1.e1,
                                            SV.int IntKind.i64 hd_1.e2, SV.bool hd_1.va, SV.bool hd_1.cf, SV.bool hd_1.an]],
                                      BO.rows (7 : Nat) (1 : Nat) true (54 : Nat)
                                        [[SV.bool hd.sv, SV.int IntKind.i64 hd.e0, SV.int IntKind.i64 hd.e1,
                                            SV.int IntKind.i64 hd.e2, SV.bool hd.va, SV.bool hd.cf, SV.bool hd.an]],
                                      BO.raw none, BO.raw none,
                                      BO.raw
                                        (some
                                          (Blk.mk (2 : Nat)
                                            ((0 : Nat) +
                                                ((if (60 : Int) < (↑n : Int) then (60 : Int) else (↑n : Int)).toNat -
                                                  (0 : Nat)) +
                                              m)
                                            (fun r =>
                                              bif
                                                  decide
                                                    (r <
                                                      (0 : Nat) +
                                                        ((if (60 : Int) < (↑n : Int) then (60 : Int)
                                                            else (↑n : Int)).toNat -
                                                          Int.toNat (0 : Int))) then
                                                (Blk.mk C7.P.types[(27 : Nat)].size
                                                      ((0 : Nat) +
                                                        ((if (60 : Int) < (↑n : Int) then (60 : Int)
                                                            else (↑n : Int)).toNat -
                                                          Int.toNat (0 : Int)))
                                                      (fun r =>
                                                        bif decide (r < (0 : Nat)) then
                                                          (Blk.mk C7.P.types[(27 : Nat)].size (0 : Nat)
                                                                (fun r =>
                                                                  List.take C7.P.types[(27 : Nat)].size
                                                                    (List.drop (r * C7.P.types[(27 : Nat)].size) []))
                                                                true (27 : Nat)).rd
                                                            r
                                                        else
                                                          (fun i => (bD n g).rd ((0 : Nat) + Int.toNat (0 : Int) + i))
                                                            (r - (0 : Nat)))
                                                      true (27 : Nat)).rd
                                                  r
                                              else
                                                (fun i => (bD m g2).rd ((0 : Nat) + i))
                                                  (r -
                                                    ((0 : Nat) +
                                                      ((if (60 : Int) < (↑n : Int) then (60 : Int) else (↑n : Int)).toNat -
                                                        Int.toNat (0 : Int)))))
                                            true (27 : Nat)))]
                                else False
                            else False
                          else False
                      else False
                    else
                      bif decide ((0 : Nat) + m ≤ m) then
                        bif decide (m = (0 : Nat)) then
                          Kt Ex.normal (130 : Nat)
                            [SV.bool b, SV.slice (0 : Nat) (0 : Nat) (2 : Nat) n, SV.slice (1 : Nat) (0 : Nat) (2 : Nat) m,
                              SV.ptr (2 : Nat) (0 : Nat) (7 : Nat) (0 : Nat),
                              SV.ptr (3 : Nat) (0 : Nat) (7 : Nat) (0 : Nat),
                              SV.ptr (4 : Nat) (0 : Nat) (7 : Nat) (0 : Nat),
                              SV.slice (5 : Nat) (0 : Nat) (2 : Nat) (0 : Nat), SV.top]
                            [BO.raw
                                (some
                                  (Blk.mk (2 : Nat) n
                                    (fun r => [SV.int IntKind.i64 (g r (0 : Nat)), SV.int IntKind.i64 (g r (1 : Nat))])
                                    false (0 : Nat))),
                              BO.raw
                                (some
                                  (Blk.mk (2 : Nat) m
                                    (fun r => [SV.int IntKind.i64 (g2 r (0 : Nat)), SV.int IntKind.i64 (g2 r (1 : Nat))])
                                    false (0 : Nat))),
                              BO.rows (7 : Nat) (1 : Nat) true (54 : Nat)
                                [[SV.bool hd.sv, SV.int IntKind.i64 hd.e0, SV.int IntKind.i64 hd.e1,
                                    SV.int IntKind.i64 hd.e2, SV.bool hd.va, SV.bool hd.cf, SV.bool hd.an]],
                              BO.rows (7 : Nat) (1 : Nat) true (54 : Nat)
                                [[SV.bool hd_1.sv, SV.int IntKind.i64 hd_1.e0, SV.int IntKind.i64 hd_1.e1,
                                    SV.int IntKind.i64 hd_1.e2, SV.bool hd_1.va, SV.bool hd_1.cf, SV.bool hd_1.an]],
                              BO.rows (7 : Nat) (1 : Nat) true (54 : Nat)
                                [[SV.bool hd.sv, SV.int IntKind.i64 hd.e0, SV.int IntKind.i64 hd.e1,
                                    SV.int IntKind.i64 hd.e2, SV.bool hd.va, SV.bool hd.cf, SV.bool hd.an]],
                              BO.raw
                                (some
                                  (Blk.mk (2 : Nat) (0 : Nat)
                                    (fun r =>
                                      List.take C7.P.types[(27 : Nat)].size
                                        (List.drop (r * C7.P.types[(27 : Nat)].size) []))
                                    true (27 : Nat))),
                              BO.raw none, BO.raw none]
                        else
                          bif
                              allOne (fun i => (bD m g2).rd ((0 : Nat) + i)) m && true && true &&
                                              decide ((0 : Nat) + m ≤ (9223372036854775807 : Nat)) &&
                                            decide (((0 : Nat) + m) * (16 : Nat) ≤ (140737488355328 : Nat)) &&
                                          true &&
                                        true &&
                                      true &&
                                    true &&
                                  true &&
                                true then
                            Kt Ex.normal (130 : Nat)
                              [SV.bool b, SV.slice (0 : Nat) (0 : Nat) (2 : Nat) n,
                                SV.slice (1 : Nat) (0 : Nat) (2 : Nat) m, SV.ptr (2 : Nat) (0 : Nat) (7 : Nat) (0 : Nat),
                                SV.ptr (3 : Nat) (0 : Nat) (7 : Nat) (0 : Nat),
                                SV.ptr (4 : Nat) (0 : Nat) (7 : Nat) (0 : Nat),
                                SV.slice (6 : Nat) (0 : Nat) (2 : Nat) ((0 : Nat) + m), SV.top]
                              [BO.raw
                                  (some
                                    (Blk.mk (2 : Nat) n
                                      (fun r => [SV.int IntKind.i64 (g r (0 : Nat)), SV.int IntKind.i64 (g r (1 : Nat))])
                                      false (0 : Nat))),
                                BO.raw
                                  (some
                                    (Blk.mk (2 : Nat) m
                                      (fun r => [SV.int IntKind.i64 (g2 r (0 : Nat)), SV.int IntKind.i64 (g2 r (1 : Nat))])
                                      false (0 : Nat))),
                                BO.rows (7 : Nat) (1 : Nat) true (54 : Nat)
                                  [[SV.bool hd.sv, SV.int IntKind.i64 hd.e0, SV.int IntKind.i64 hd.e1,
                                      SV.int IntKind.i64 hd.e2, SV.bool hd.va, SV.bool hd.cf, SV.bool hd.an]],
                                BO.rows (7 : Nat) (1 : Nat) true (54 : Nat)
                                  [[SV.bool hd_1.sv, SV.int IntKind.i64 hd_1.e0, SV.int IntKind.i64 hd_1.e1,
                                      SV.int IntKind.i64 hd_1.e2, SV.bool hd_1.va, SV.bool hd_1.cf, SV.bool hd_1.an]],
                                BO.rows (7 : Nat) (1 : Nat) true (54 : Nat)
                                  [[SV.bool hd.sv, SV.int IntKind.i64 hd.e0, SV.int IntKind.i64 hd.e1,
                                      SV.int IntKind.i64 hd.e2, SV.bool hd.va, SV.bool hd.cf, SV.bool hd.an]],
                                BO.raw none,
                                BO.raw
                                  (some
                                    (Blk.mk (2 : Nat) ((0 : Nat) + m)
                                      (fun r =>
                                        [SV.int IntKind.i64 (g2 ((0 : Nat) + (r - (0 : Nat))) (0 : Nat)),
                                          SV.int IntKind.i64 (g2 ((0 : Nat) + (r - (0 : Nat))) (1 : Nat))])
                                      true (27 : Nat))),
                                BO.raw none]
                          else False
                      else False
                  else False) := by kernel_rfl
end Go.Proofs.Ytllkhfabfcpieaa
