/-
  What functions of the program come to, way by way: printed by a program, held by the kernel.
-/
import Derived.Test.YtllkhfabfcpieaaX8
namespace Go.Proofs.Ytllkhfabfcpieaa
open Go.RowKit
set_option maxRecDepth 100000

theorem t8se (b : Bool) (n : Nat) (g : Nat → Nat → Int) (kk : SV → Prop) : evalC C7 64  1 (bodF Try.f8) (enterS 130 [.bool b, .slice 0 0 2 n, .eslice]) [some (bD n g)] ( endK Try.prog Try.f8.results.toList (fun v _ => kk v)) = (
    IsDo
        (Blk.mk (2 : Nat) n (fun r => [SV.int IntKind.i64 (g r (0 : Nat)), SV.int IntKind.i64 (g r (1 : Nat))]) false
          (0 : Nat))
        n ∧
      ∀ (hd : Hd),
        hd = playB b (bD n g) n →
          IsDo
              (Blk.mk (2 : Nat) n (fun r => [SV.int IntKind.i64 (g r (0 : Nat)), SV.int IntKind.i64 (g r (1 : Nat))]) false
                (0 : Nat))
              n ∧
            ∀ (hd_1 : Hd),
              hd_1 = playB b (bD n g) n →
                bif nothV (Hd.mk hd.sv hd.e0 hd.e1 hd.e2 hd.va hd.cf hd.an) then kk (SV.bool false)
                else
                  bif
                      decide ((0 : Int) ≤ if (60 : Int) < (↑n : Int) then (60 : Int) else (↑n : Int)) &&
                        decide ((if (60 : Int) < (↑n : Int) then (60 : Int) else (↑n : Int)) ≤ (↑n : Int)) then
                    bif decide ((0 : Int) < if (60 : Int) < (↑n : Int) then (60 : Int) else (↑n : Int)) then
                      bif
                          decide
                            ((0 : Nat) + ((if (60 : Int) < (↑n : Int) then (60 : Int) else (↑n : Int)).toNat - (0 : Nat)) ≤
                              n) then
                        bif
                            decide
                              ((if (60 : Int) < (↑n : Int) then (60 : Int) else (↑n : Int)).toNat - (0 : Nat) =
                                (0 : Nat)) then
                          IsDo
                              (Blk.mk (2 : Nat) (0 : Nat)
                                (fun r =>
                                  List.take C7.P.types[(27 : Nat)].size (List.drop (r * C7.P.types[(27 : Nat)].size) []))
                                true (27 : Nat))
                              (0 : Nat) ∧
                            ∀ (hd_2 : Hd),
                              hd_2 =
                                  playB b
                                    (Blk.mk C7.P.types[(27 : Nat)].size (0 : Nat)
                                      (fun r =>
                                        List.take C7.P.types[(27 : Nat)].size
                                          (List.drop (r * C7.P.types[(27 : Nat)].size) []))
                                      true (27 : Nat))
                                    (0 : Nat) →
                                bif
                                    livesV (Hd.mk hd.sv hd.e0 hd.e1 hd.e2 hd.va hd.cf hd.an) (0 : Int) !=
                                      livesV (Hd.mk hd_1.sv hd_1.e0 hd_1.e1 hd_1.e2 hd_1.va hd_1.cf hd_1.an) (0 : Int) then
                                  kk (SV.bool false)
                                else
                                  bif
                                      livesV
                                          (Hd.mk (Hd.mk hd.sv hd.e0 hd.e1 hd.e2 hd.va hd.cf hd.an).sv
                                            (Hd.mk hd.sv hd.e0 hd.e1 hd.e2 hd.va hd.cf hd.an).e0
                                            (Hd.mk hd.sv hd.e0 hd.e1 hd.e2 hd.va hd.cf hd.an).e1
                                            (Hd.mk hd.sv hd.e0 hd.e1 hd.e2 hd.va hd.cf hd.an).e2
                                            (Hd.mk hd.sv hd.e0 hd.e1 hd.e2 hd.va hd.cf hd.an).va
                                            (Hd.mk hd.sv hd.e0 hd.e1 hd.e2 hd.va hd.cf hd.an).cf
                                            (Hd.mk hd.sv hd.e0 hd.e1 hd.e2 hd.va hd.cf hd.an).an)
                                          (0 : Int) !=
                                        livesV (Hd.mk hd_2.sv hd_2.e0 hd_2.e1 hd_2.e2 hd_2.va hd_2.cf hd_2.an)
                                          (0 : Int) then
                                    kk (SV.bool false)
                                  else
                                    bif
                                        hasV (Hd.mk hd.sv hd.e0 hd.e1 hd.e2 hd.va hd.cf hd.an) (0 : Int) !=
                                          hasV (Hd.mk hd_1.sv hd_1.e0 hd_1.e1 hd_1.e2 hd_1.va hd_1.cf hd_1.an)
                                            (0 : Int) then
                                      kk (SV.bool false)
                                    else
                                      bif
                                          hasV
                                              (Hd.mk (Hd.mk hd.sv hd.e0 hd.e1 hd.e2 hd.va hd.cf hd.an).sv
                                                (Hd.mk hd.sv hd.e0 hd.e1 hd.e2 hd.va hd.cf hd.an).e0
                                                (Hd.mk hd.sv hd.e0 hd.e1 hd.e2 hd.va hd.cf hd.an).e1
                                                (Hd.mk hd.sv hd.e0 hd.e1 hd.e2 hd.va hd.cf hd.an).e2
                                                (Hd.mk hd.sv hd.e0 hd.e1 hd.e2 hd.va hd.cf hd.an).va
                                                (Hd.mk hd.sv hd.e0 hd.e1 hd.e2 hd.va hd.cf hd.an).cf
                                                (Hd.mk hd.sv hd.e0 hd.e1 hd.e2 hd.va hd.cf hd.an).an)
                                              (0 : Int) !=
                                            hasV (Hd.mk hd_2.sv hd_2.e0 hd_2.e1 hd_2.e2 hd_2.va hd_2.cf hd_2.an)
                                              (0 : Int) then
                                        kk (SV.bool false)
                                      else
                                        bif
                                            livesV (Hd.mk hd.sv hd.e0 hd.e1 hd.e2 hd.va hd.cf hd.an) (1 : Int) !=
                                              livesV (Hd.mk hd_1.sv hd_1.e0 hd_1.e1 hd_1.e2 hd_1.va hd_1.cf hd_1.an)
                                                (1 : Int) then
                                          kk (SV.bool false)
                                        else
                                          bif
                                              livesV
                                                  (Hd.mk (Hd.mk hd.sv hd.e0 hd.e1 hd.e2 hd.va hd.cf hd.an).sv
                                                    (Hd.mk hd.sv hd.e0 hd.e1 hd.e2 hd.va hd.cf hd.an).e0
                                                    (Hd.mk hd.sv hd.e0 hd.e1 hd.e2 hd.va hd.cf hd.an).e1
                                                    (Hd.mk hd.sv hd.e0 hd.e1 hd.e2 hd.va hd.cf hd.an).e2
                                                    (Hd.mk hd.sv hd.e0 hd.e1 hd.e2 hd.va hd.cf hd.an).va
                                                    (Hd.mk hd.sv hd.e0 hd.e1 hd.e2 hd.va hd.cf hd.an).cf
                                                    (Hd.mk hd.sv hd.e0 hd.e1 hd.e2 hd.va hd.cf hd.an).an)
                                                  (1 : Int) !=
                                                livesV (Hd.mk hd_2.sv hd_2.e0 hd_2.e1 hd_2.e2 hd_2.va hd_2.cf hd_2.an)
                                                  (1 : Int) then
                                            kk (SV.bool false)
                                          else
                                            bif
                                                hasV (Hd.mk hd.sv hd.e0 hd.e1 hd.e2 hd.va hd.cf hd.an) (1 : Int) !=
                                                  hasV (Hd.mk hd_1.sv hd_1.e0 hd_1.e1 hd_1.e2 hd_1.va hd_1.cf hd_1.an)
                                                    (1 : Int) then
                                              kk (SV.bool false)
                                            else
                                              bif
                                                  hasV
                                                      (Hd.mk (Hd.mk hd.sv hd.e0 hd.e1 hd.e2 hd.va hd.cf hd.an).sv
                                                        (Hd.mk hd.sv hd.e0 hd.e1 hd.e2 hd.va hd.cf hd.an).e0
                                                        (Hd.mk hd.sv hd.e0 hd.e1 hd.e2 hd.va hd.cf hd.an).e1
                                                        (Hd.mk hd.sv hd.e0 hd.e1 hd.e2 hd.va hd.cf hd.an).e2
                                                        (Hd.mk hd.sv hd.e0 hd.e1 hd.e2 hd.va hd.cf hd.an).va
                                                        (Hd.mk hd.sv hd.e0 hd.e1 hd.e2 hd.va hd.cf hd.an).cf
                                                        (Hd.mk hd.sv hd.e0 hd.e1 hd.e2 hd.va hd.cf hd.an).an)
                                                      (1 : Int) !=
                                                    hasV (Hd.mk hd_2.sv hd_2.e0 hd_2.e1 hd_2.e2 hd_2.va hd_2.cf hd_2.an)
                                                      (1 : Int) then
                                                kk (SV.bool false)
                                              else
                                                bif
                                                    livesV (Hd.mk hd.sv hd.e0 hd.e1 hd.e2 hd.va hd.cf hd.an) (2 : Int) !=
                                                      livesV (Hd.mk hd_1.sv hd_1.e0 hd_1.e1 hd_1.e2 hd_1.va hd_1.cf hd_1.an)
                                                        (2 : Int) then
                                                  kk (SV.bool false)
                                                else
                                                  bif
                                                      livesV
                                                          (Hd.mk (Hd.mk hd.sv hd.e0 hd.e1 hd.e2 hd.va hd.cf hd.an).sv
                                                            (Hd.mk hd.sv hd.e0 hd.e1 hd.e2 hd.va hd.cf hd.an).e0
                                                            (Hd.mk hd.sv hd.e0 hd.e1 hd.e2 hd.va hd.cf hd.an).e1
                                                            (Hd.mk hd.sv hd.e0 hd.e1 hd.e2 hd.va hd.cf hd.an).e2
                                                            (Hd.mk hd.sv hd.e0 hd.e1 hd.e2 hd.va hd.cf hd.an).va
                                                            (Hd.mk hd.sv hd.e0 hd.e1 hd.e2 hd.va hd.cf hd.an).cf
                                                            (Hd.mk hd.sv hd.e0 hd.e1 hd.e2 hd.va hd.cf hd.an).an)
                                                          (2 : Int) !=
                                                        livesV
                                                          (Hd.mk hd_2.sv hd_2.e0 hd_2.e1 hd_2.e2 hd_2.va hd_2.cf hd_2.an)
                                                          (2 : Int) then
                                                    kk (SV.bool false)
                                                  else
                                                    bif
                                                        hasV (Hd.mk hd.sv hd.e0 hd.e1 hd.e2 hd.va hd.cf hd.an) (2 : Int) !=
                                                          hasV
                                                            (Hd.mk hd_1.sv hd_1.e0 hd_1.e1 hd_1.e2 hd_1.va hd_1.cf hd_1.an)
                                                            (2 : Int) then
                                                      kk (SV.bool false)
                                                    else
                                                      bif
                                                          hasV
                                                              (Hd.mk (Hd.mk hd.sv hd.e0 hd.e1 hd.e2 hd.va hd.cf hd.an).sv
                                                                (Hd.mk hd.sv hd.e0 hd.e1 hd.e2 hd.va hd.cf hd.an).e0
                                                                (Hd.mk hd.sv hd.e0 hd.e1 hd.e2 hd.va hd.cf hd.an).e1
                                                                (Hd.mk hd.sv hd.e0 hd.e1 hd.e2 hd.va hd.cf hd.an).e2
                                                                (Hd.mk hd.sv hd.e0 hd.e1 hd.e2 hd.va hd.cf hd.an).va
                                                                (Hd.mk hd.sv hd.e0 hd.e1 hd.e2 hd.va hd.cf hd.an).cf
                                                                (Hd.mk hd.sv hd.e0 hd.e1 hd.e2 hd.va hd.cf hd.an).an)
                                                              (2 : Int) !=
                                                            hasV
                                                              (Hd.mk hd_2.sv hd_2.e0 hd_2.e1 hd_2.e2 hd_2.va hd_2.cf
                                                                hd_2.an)
                                                              (2 : Int) then
                                                        kk (SV.bool false)
                                                      else
                                                        bif
                                                            validV (Hd.mk hd.sv hd.e0 hd.e1 hd.e2 hd.va hd.cf hd.an) ==
                                                              validV
                                                                (Hd.mk hd_1.sv hd_1.e0 hd_1.e1 hd_1.e2 hd_1.va hd_1.cf
                                                                  hd_1.an) then
                                                          bif
                                                              sureV (Hd.mk hd.sv hd.e0 hd.e1 hd.e2 hd.va hd.cf hd.an) ==
                                                                sureV
                                                                  (Hd.mk hd_1.sv hd_1.e0 hd_1.e1 hd_1.e2 hd_1.va hd_1.cf
                                                                    hd_1.an) then
                                                            bif
                                                                validV
                                                                    (Hd.mk
                                                                      (Hd.mk hd.sv hd.e0 hd.e1 hd.e2 hd.va hd.cf hd.an).sv
                                                                      (Hd.mk hd.sv hd.e0 hd.e1 hd.e2 hd.va hd.cf hd.an).e0
                                                                      (Hd.mk hd.sv hd.e0 hd.e1 hd.e2 hd.va hd.cf hd.an).e1
                                                                      (Hd.mk hd.sv hd.e0 hd.e1 hd.e2 hd.va hd.cf hd.an).e2
                                                                      (Hd.mk hd.sv hd.e0 hd.e1 hd.e2 hd.va hd.cf hd.an).va
                                                                      (Hd.mk hd.sv hd.e0 hd.e1 hd.e2 hd.va hd.cf hd.an).cf
                                                                      (Hd.mk hd.sv hd.e0 hd.e1 hd.e2 hd.va hd.cf
                                                                          hd.an).an) ==
                                                                  validV
                                                                    (Hd.mk hd_2.sv hd_2.e0 hd_2.e1 hd_2.e2 hd_2.va hd_2.cf
                                                                      hd_2.an) then
                                                              bif
                                                                  sureV
                                                                      (Hd.mk
                                                                        (Hd.mk hd.sv hd.e0 hd.e1 hd.e2 hd.va hd.cf hd.an).sv
                                                                        (Hd.mk hd.sv hd.e0 hd.e1 hd.e2 hd.va hd.cf hd.an).e0
                                                                        (Hd.mk hd.sv hd.e0 hd.e1 hd.e2 hd.va hd.cf hd.an).e1
                                                                        (Hd.mk hd.sv hd.e0 hd.e1 hd.e2 hd.va hd.cf hd.an).e2
                                                                        (Hd.mk hd.sv hd.e0 hd.e1 hd.e2 hd.va hd.cf hd.an).va
                                                                        (Hd.mk hd.sv hd.e0 hd.e1 hd.e2 hd.va hd.cf hd.an).cf
                                                                        (Hd.mk hd.sv hd.e0 hd.e1 hd.e2 hd.va hd.cf
                                                                            hd.an).an) ==
                                                                    sureV
                                                                      (Hd.mk hd_2.sv hd_2.e0 hd_2.e1 hd_2.e2 hd_2.va hd_2.cf
                                                                        hd_2.an) then
                                                                bif
                                                                    confV
                                                                        (Hd.mk
                                                                          (Hd.mk hd.sv hd.e0 hd.e1 hd.e2 hd.va hd.cf
                                                                              hd.an).sv
                                                                          (Hd.mk hd.sv hd.e0 hd.e1 hd.e2 hd.va hd.cf
                                                                              hd.an).e0
                                                                          (Hd.mk hd.sv hd.e0 hd.e1 hd.e2 hd.va hd.cf
                                                                              hd.an).e1
                                                                          (Hd.mk hd.sv hd.e0 hd.e1 hd.e2 hd.va hd.cf
                                                                              hd.an).e2
                                                                          (Hd.mk hd.sv hd.e0 hd.e1 hd.e2 hd.va hd.cf
                                                                              hd.an).va
                                                                          (Hd.mk hd.sv hd.e0 hd.e1 hd.e2 hd.va hd.cf
                                                                              hd.an).cf
                                                                          (Hd.mk hd.sv hd.e0 hd.e1 hd.e2 hd.va hd.cf
                                                                              hd.an).an) ==
                                                                      confV
                                                                        (Hd.mk hd_2.sv hd_2.e0 hd_2.e1 hd_2.e2 hd_2.va
                                                                          hd_2.cf hd_2.an) then
                                                                  kk (SV.bool true)
                                                                else kk (SV.bool false)
                                                              else kk (SV.bool false)
                                                            else kk (SV.bool false)
                                                          else kk (SV.bool false)
                                                        else kk (SV.bool false)
                        else
                          bif
                              allOne (fun i => (bD n g).rd ((0 : Nat) + Int.toNat (0 : Int) + i))
                                                    ((if (60 : Int) < (↑n : Int) then (60 : Int) else (↑n : Int)).toNat -
                                                      (0 : Nat)) &&
                                                  true &&
                                                true &&
                                              decide
                                                ((0 : Nat) +
                                                    ((if (60 : Int) < (↑n : Int) then (60 : Int) else (↑n : Int)).toNat -
                                                      (0 : Nat)) ≤
                                                  (9223372036854775807 : Nat)) &&
                                            decide
                                              (((0 : Nat) +
                                                    ((if (60 : Int) < (↑n : Int) then (60 : Int) else (↑n : Int)).toNat -
                                                      (0 : Nat))) *
                                                  (16 : Nat) ≤
                                                (140737488355328 : Nat)) &&
                                          true &&
                                        true &&
                                      true &&
                                    true &&
                                  true &&
                                true then
                            IsDo
                                (Blk.mk (2 : Nat)
                                  ((0 : Nat) +
                                    ((if (60 : Int) < (↑n : Int) then (60 : Int) else (↑n : Int)).toNat - (0 : Nat)))
                                  (fun r =>
                                    [SV.int IntKind.i64 (g ((0 : Nat) + (r - (0 : Nat))) (0 : Nat)),
                                      SV.int IntKind.i64 (g ((0 : Nat) + (r - (0 : Nat))) (1 : Nat))])
                                  true (27 : Nat))
                                ((0 : Nat) +
                                  ((if (60 : Int) < (↑n : Int) then (60 : Int) else (↑n : Int)).toNat - (0 : Nat))) ∧
                              ∀ (hd_2 : Hd),
                                hd_2 =
                                    playB b
                                      (Blk.mk C7.P.types[(27 : Nat)].size
                                        ((0 : Nat) +
                                          ((if (60 : Int) < (↑n : Int) then (60 : Int) else (↑n : Int)).toNat -
                                            Int.toNat (0 : Int)))
                                        (fun r =>
                                          bif decide (r < (0 : Nat)) then
                                            (Blk.mk C7.P.types[(27 : Nat)].size (0 : Nat)
                                                  (fun r =>
                                                    List.take C7.P.types[(27 : Nat)].size
                                                      (List.drop (r * C7.P.types[(27 : Nat)].size) []))
                                                  true (27 : Nat)).rd
                                              r
                                          else (fun i => (bD n g).rd ((0 : Nat) + Int.toNat (0 : Int) + i)) (r - (0 : Nat)))
                                        true (27 : Nat))
                                      ((0 : Nat) +
                                        ((if (60 : Int) < (↑n : Int) then (60 : Int) else (↑n : Int)).toNat -
                                          Int.toNat (0 : Int))) →
                                  bif
                                      livesV (Hd.mk hd.sv hd.e0 hd.e1 hd.e2 hd.va hd.cf hd.an) (0 : Int) !=
                                        livesV (Hd.mk hd_1.sv hd_1.e0 hd_1.e1 hd_1.e2 hd_1.va hd_1.cf hd_1.an)
                                          (0 : Int) then
                                    kk (SV.bool false)
                                  else
                                    bif
                                        livesV
                                            (Hd.mk (Hd.mk hd.sv hd.e0 hd.e1 hd.e2 hd.va hd.cf hd.an).sv
                                              (Hd.mk hd.sv hd.e0 hd.e1 hd.e2 hd.va hd.cf hd.an).e0
                                              (Hd.mk hd.sv hd.e0 hd.e1 hd.e2 hd.va hd.cf hd.an).e1
                                              (Hd.mk hd.sv hd.e0 hd.e1 hd.e2 hd.va hd.cf hd.an).e2
                                              (Hd.mk hd.sv hd.e0 hd.e1 hd.e2 hd.va hd.cf hd.an).va
                                              (Hd.mk hd.sv hd.e0 hd.e1 hd.e2 hd.va hd.cf hd.an).cf
                                              (Hd.mk hd.sv hd.e0 hd.e1 hd.e2 hd.va hd.cf hd.an).an)
                                            (0 : Int) !=
                                          livesV (Hd.mk hd_2.sv hd_2.e0 hd_2.e1 hd_2.e2 hd_2.va hd_2.cf hd_2.an)
                                            (0 : Int) then
                                      kk (SV.bool false)
                                    else
                                      bif
                                          hasV (Hd.mk hd.sv hd.e0 hd.e1 hd.e2 hd.va hd.cf hd.an) (0 : Int) !=
                                            hasV (Hd.mk hd_1.sv hd_1.e0 hd_1.e1 hd_1.e2 hd_1.va hd_1.cf hd_1.an)
                                              (0 : Int) then
                                        kk (SV.bool false)
                                      else
                                        bif
                                            hasV
                                                (Hd.mk (Hd.mk hd.sv hd.e0 hd.e1 hd.e2 hd.va hd.cf hd.an).sv
                                                  (Hd.mk hd.sv hd.e0 hd.e1 hd.e2 hd.va hd.cf hd.an).e0
                                                  (Hd.mk hd.sv hd.e0 hd.e1 hd.e2 hd.va hd.cf hd.an).e1
                                                  (Hd.mk hd.sv hd.e0 hd.e1 hd.e2 hd.va hd.cf hd.an).e2
                                                  (Hd.mk hd.sv hd.e0 hd.e1 hd.e2 hd.va hd.cf hd.an).va
                                                  (Hd.mk hd.sv hd.e0 hd.e1 hd.e2 hd.va hd.cf hd.an).cf
                                                  (Hd.mk hd.sv hd.e0 hd.e1 hd.e2 hd.va hd.cf hd.an).an)
                                                (0 : Int) !=
                                              hasV (Hd.mk hd_2.sv hd_2.e0 hd_2.e1 hd_2.e2 hd_2.va hd_2.cf hd_2.an)
                                                (0 : Int) then
                                          kk (SV.bool false)
                                        else
                                          bif
                                              livesV (Hd.mk hd.sv hd.e0 hd.e1 hd.e2 hd.va hd.cf hd.an) (1 : Int) !=
                                                livesV (Hd.mk hd_1.sv hd_1.e0 hd_1.e1 hd_1.e2 hd_1.va hd_1.cf hd_1.an)
                                                  (1 : Int) then
                                            kk (SV.bool false)
                                          else
                                            bif
                                                livesV
                                                    (Hd.mk (Hd.mk hd.sv hd.e0 hd.e1 hd.e2 hd.va hd.cf hd.an).sv
                                                      (Hd.mk hd.sv hd.e0 hd.e1 hd.e2 hd.va hd.cf hd.an).e0
                                                      (Hd.mk hd.sv hd.e0 hd.e1 hd.e2 hd.va hd.cf hd.an).e1
                                                      (Hd.mk hd.sv hd.e0 hd.e1 hd.e2 hd.va hd.cf hd.an).e2
                                                      (Hd.mk hd.sv hd.e0 hd.e1 hd.e2 hd.va hd.cf hd.an).va
                                                      (Hd.mk hd.sv hd.e0 hd.e1 hd.e2 hd.va hd.cf hd.an).cf
                                                      (Hd.mk hd.sv hd.e0 hd.e1 hd.e2 hd.va hd.cf hd.an).an)
                                                    (1 : Int) !=
                                                  livesV (Hd.mk hd_2.sv hd_2.e0 hd_2.e1 hd_2.e2 hd_2.va hd_2.cf hd_2.an)
                                                    (1 : Int) then
                                              kk (SV.bool false)
                                            else
                                              bif
                                                  hasV (Hd.mk hd.sv hd.e0 hd.e1 hd.e2 hd.va hd.cf hd.an) (1 : Int) !=
                                                    hasV (Hd.mk hd_1.sv hd_1.e0 hd_1.e1 hd_1.e2 hd_1.va hd_1.cf hd_1.an)
                                                      (1 : Int) then
                                                kk (SV.bool false)
                                              else
                                                bif
                                                    hasV
                                                        (Hd.mk (Hd.mk hd.sv hd.e0 hd.e1 hd.e2 hd.va hd.cf hd.an).sv
                                                          (Hd.mk hd.sv hd.e0 hd.e1 hd.e2 hd.va hd.cf hd.an).e0
                                                          (Hd.mk hd.sv hd.e0 hd.e1 hd.e2 hd.va hd.cf hd.an).e1
                                                          (Hd.mk hd.sv hd.e0 hd.e1 hd.e2 hd.va hd.cf hd.an).e2
                                                          (Hd.mk hd.sv hd.e0 hd.e1 hd.e2 hd.va hd.cf hd.an).va
                                                          (Hd.mk hd.sv hd.e0 hd.e1 hd.e2 hd.va hd.cf hd.an).cf
                                                          (Hd.mk hd.sv hd.e0 hd.e1 hd.e2 hd.va hd.cf hd.an).an)
                                                        (1 : Int) !=
                                                      hasV (Hd.mk hd_2.sv hd_2.e0 hd_2.e1 hd_2.e2 hd_2.va hd_2.cf hd_2.an)
                                                        (1 : Int) then
                                                  kk (SV.bool false)
                                                else
                                                  bif
                                                      livesV (Hd.mk hd.sv hd.e0 hd.e1 hd.e2 hd.va hd.cf hd.an) (2 : Int) !=
                                                        livesV
                                                          (Hd.mk hd_1.sv hd_1.e0 hd_1.e1 hd_1.e2 hd_1.va hd_1.cf hd_1.an)
                                                          (2 : Int) then
                                                    kk (SV.bool false)
                                                  else
                                                    bif
                                                        livesV
                                                            (Hd.mk (Hd.mk hd.sv hd.e0 hd.e1 hd.e2 hd.va hd.cf hd.an).sv
                                                              (Hd.mk hd.sv hd.e0 hd.e1 hd.e2 hd.va hd.cf hd.an).e0
                                                              (Hd.mk hd.sv hd.e0 hd.e1 hd.e2 hd.va hd.cf hd.an).e1
                                                              (Hd.mk hd.sv hd.e0 hd.e1 hd.e2 hd.va hd.cf hd.an).e2
                                                              (Hd.mk hd.sv hd.e0 hd.e1 hd.e2 hd.va hd.cf hd.an).va
                                                              (Hd.mk hd.sv hd.e0 hd.e1 hd.e2 hd.va hd.cf hd.an).cf
                                                              (Hd.mk hd.sv hd.e0 hd.e1 hd.e2 hd.va hd.cf hd.an).an)
                                                            (2 : Int) !=
                                                          livesV
                                                            (Hd.mk hd_2.sv hd_2.e0 hd_2.e1 hd_2.e2 hd_2.va hd_2.cf hd_2.an)
                                                            (2 : Int) then
                                                      kk (SV.bool false)
                                                    else
                                                      bif
                                                          hasV (Hd.mk hd.sv hd.e0 hd.e1 hd.e2 hd.va hd.cf hd.an)
                                                              (2 : Int) !=
                                                            hasV
                                                              (Hd.mk hd_1.sv hd_1.e0 hd_1.e1 hd_1.e2 hd_1.va hd_1.cf
                                                                hd_1.an)
                                                              (2 : Int) then
                                                        kk (SV.bool false)
                                                      else
                                                        bif
                                                            hasV
                                                                (Hd.mk (Hd.mk hd.sv hd.e0 hd.e1 hd.e2 hd.va hd.cf hd.an).sv
                                                                  (Hd.mk hd.sv hd.e0 hd.e1 hd.e2 hd.va hd.cf hd.an).e0
                                                                  (Hd.mk hd.sv hd.e0 hd.e1 hd.e2 hd.va hd.cf hd.an).e1
                                                                  (Hd.mk hd.sv hd.e0 hd.e1 hd.e2 hd.va hd.cf hd.an).e2
                                                                  (Hd.mk hd.sv hd.e0 hd.e1 hd.e2 hd.va hd.cf hd.an).va
                                                                  (Hd.mk hd.sv hd.e0 hd.e1 hd.e2 hd.va hd.cf hd.an).cf
                                                                  (Hd.mk hd.sv hd.e0 hd.e1 hd.e2 hd.va hd.cf hd.an).an)
                                                                (2 : Int) !=
                                                              hasV
                                                                (Hd.mk hd_2.sv hd_2.e0 hd_2.e1 hd_2.e2 hd_2.va hd_2.cf
                                                                  hd_2.an)
                                                                (2 : Int) then
                                                          kk (SV.bool false)
                                                        else
                                                          bif
                                                              validV (Hd.mk hd.sv hd.e0 hd.e1 hd.e2 hd.va hd.cf hd.an) ==
                                                                validV
                                                                  (Hd.mk hd_1.sv hd_1.e0 hd_1.e1 hd_1.e2 hd_1.va hd_1.cf
                                                                    hd_1.an) then
                                                            bif
                                                                sureV (Hd.mk hd.sv hd.e0 hd.e1 hd.e2 hd.va hd.cf hd.an) ==
                                                                  sureV
                                                                    (Hd.mk hd_1.sv hd_1.e0 hd_1.e1 hd_1.e2 hd_1.va hd_1.cf
                                                                      hd_1.an) then
                                                              bif
                                                                  validV
                                                                      (Hd.mk
                                                                        (Hd.mk hd.sv hd.e0 hd.e1 hd.e2 hd.va hd.cf hd.an).sv
                                                                        (Hd.mk hd.sv hd.e0 hd.e1 hd.e2 hd.va hd.cf hd.an).e0
                                                                        (Hd.mk hd.sv hd.e0 hd.e1 hd.e2 hd.va hd.cf hd.an).e1
                                                                        (Hd.mk hd.sv hd.e0 hd.e1 hd.e2 hd.va hd.cf hd.an).e2
                                                                        (Hd.mk hd.sv hd.e0 hd.e1 hd.e2 hd.va hd.cf hd.an).va
                                                                        (Hd.mk hd.sv hd.e0 hd.e1 hd.e2 hd.va hd.cf hd.an).cf
                                                                        (Hd.mk hd.sv hd.e0 hd.e1 hd.e2 hd.va hd.cf
                                                                            hd.an).an) ==
                                                                    validV
                                                                      (Hd.mk hd_2.sv hd_2.e0 hd_2.e1 hd_2.e2 hd_2.va hd_2.cf
                                                                        hd_2.an) then
                                                                bif
                                                                    sureV
                                                                        (Hd.mk
                                                                          (Hd.mk hd.sv hd.e0 hd.e1 hd.e2 hd.va hd.cf
                                                                              hd.an).sv
                                                                          (Hd.mk hd.sv hd.e0 hd.e1 hd.e2 hd.va hd.cf
                                                                              hd.an).e0
                                                                          (Hd.mk hd.sv hd.e0 hd.e1 hd.e2 hd.va hd.cf
                                                                              hd.an).e1
                                                                          (Hd.mk hd.sv hd.e0 hd.e1 hd.e2 hd.va hd.cf
                                                                              hd.an).e2
                                                                          (Hd.mk hd.sv hd.e0 hd.e1 hd.e2 hd.va hd.cf
                                                                              hd.an).va
                                                                          (Hd.mk hd.sv hd.e0 hd.e1 hd.e2 hd.va hd.cf
                                                                              hd.an).cf
                                                                          (Hd.mk hd.sv hd.e0 hd.e1 hd.e2 hd.va hd.cf
                                                                              hd.an).an) ==
                                                                      sureV
                                                                        (Hd.mk hd_2.sv hd_2.e0 hd_2.e1 hd_2.e2 hd_2.va
                                                                          hd_2.cf hd_2.an) then
                                                                  bif
                                                                      confV
                                                                          (Hd.mk
                                                                            (Hd.mk hd.sv hd.e0 hd.e1 hd.e2 hd.va hd.cf
                                                                                hd.an).sv
                                                                            (Hd.mk hd.sv hd.e0 hd.e1 hd.e2 hd.va hd.cf
                                                                                hd.an).e0
                                                                            (Hd.mk hd.sv hd.e0 hd.e1 hd.e2 hd.va hd.cf
                                                                                hd.an).e1
                                                                            (Hd.mk hd.sv hd.e0 hd.e1 hd.e2 hd.va hd.cf
                                                                                hd.an).e2
                                                                            (Hd.mk hd.sv hd.e0 hd.e1 hd.e2 hd.va hd.cf
                                                                                hd.an).va
                                                                            (Hd.mk hd.sv hd.e0 hd.e1 hd.e2 hd.va hd.cf
                                                                                hd.an).cf
                                                                            (Hd.mk hd.sv hd.e0 hd.e1 hd.e2 hd.va hd.cf
                                                                                hd.an).an) ==
                                                                        confV
                                                                          (Hd.mk hd_2.sv hd_2.e0 hd_2.e1 hd_2.e2 hd_2.va
                                                                            hd_2.cf hd_2.an) then
                                                                    kk (SV.bool true)
                                                                  else kk (SV.bool false)
                                                                else kk (SV.bool false)
                                                              else kk (SV.bool false)
                                                            else kk (SV.bool false)
                                                          else kk (SV.bool false)
                          else False
                      else False
                    else
                      IsDo
                          (Blk.mk (2 : Nat) (0 : Nat)
                            (fun r =>
                              List.take C7.P.types[(27 : Nat)].size (List.drop (r * C7.P.types[(27 : Nat)].size) []))
                            true (27 : Nat))
                          (0 : Nat) ∧
                        ∀ (hd_2 : Hd),
                          hd_2 =
                              playB b
                                (Blk.mk C7.P.types[(27 : Nat)].size (0 : Nat)
                                  (fun r =>
                                    List.take C7.P.types[(27 : Nat)].size (List.drop (r * C7.P.types[(27 : Nat)].size) []))
                                  true (27 : Nat))
                                (0 : Nat) →
                            bif
                                livesV (Hd.mk hd.sv hd.e0 hd.e1 hd.e2 hd.va hd.cf hd.an) (0 : Int) !=
                                  livesV (Hd.mk hd_1.sv hd_1.e0 hd_1.e1 hd_1.e2 hd_1.va hd_1.cf hd_1.an) (0 : Int) then
                              kk (SV.bool false)
                            else
                              bif
                                  livesV
                                      (Hd.mk (Hd.mk hd.sv hd.e0 hd.e1 hd.e2 hd.va hd.cf hd.an).sv
                                        (Hd.mk hd.sv hd.e0 hd.e1 hd.e2 hd.va hd.cf hd.an).e0
                                        (Hd.mk hd.sv hd.e0 hd.e1 hd.e2 hd.va hd.cf hd.an).e1
                                        (Hd.mk hd.sv hd.e0 hd.e1 hd.e2 hd.va hd.cf hd.an).e2
                                        (Hd.mk hd.sv hd.e0 hd.e1 hd.e2 hd.va hd.cf hd.an).va
                                        (Hd.mk hd.sv hd.e0 hd.e1 hd.e2 hd.va hd.cf hd.an).cf
                                        (Hd.mk hd.sv hd.e0 hd.e1 hd.e2 hd.va hd.cf hd.an).an)
                                      (0 : Int) !=
                                    livesV (Hd.mk hd_2.sv hd_2.e0 hd_2.e1 hd_2.e2 hd_2.va hd_2.cf hd_2.an) (0 : Int) then
                                kk (SV.bool false)
                              else
                                bif
                                    hasV (Hd.mk hd.sv hd.e0 hd.e1 hd.e2 hd.va hd.cf hd.an) (0 : Int) !=
                                      hasV (Hd.mk hd_1.sv hd_1.e0 hd_1.e1 hd_1.e2 hd_1.va hd_1.cf hd_1.an) (0 : Int) then
                                  kk (SV.bool false)
                                else
                                  bif
                                      hasV
                                          (Hd.mk (Hd.mk hd.sv hd.e0 hd.e1 hd.e2 hd.va hd.cf hd.an).sv
                                            (Hd.mk hd.sv hd.e0 hd.e1 hd.e2 hd.va hd.cf hd.an).e0
                                            (Hd.mk hd.sv hd.e0 hd.e1 hd.e2 hd.va hd.cf hd.an).e1
                                            (Hd.mk hd.sv hd.e0 hd.e1 hd.e2 hd.va hd.cf hd.an).e2
                                            (Hd.mk hd.sv hd.e0 hd.e1 hd.e2 hd.va hd.cf hd.an).va
                                            (Hd.mk hd.sv hd.e0 hd.e1 hd.e2 hd.va hd.cf hd.an).cf
                                            (Hd.mk hd.sv hd.e0 hd.e1 hd.e2 hd.va hd.cf hd.an).an)
                                          (0 : Int) !=
                                        hasV (Hd.mk hd_2.sv hd_2.e0 hd_2.e1 hd_2.e2 hd_2.va hd_2.cf hd_2.an) (0 : Int) then
                                    kk (SV.bool false)
                                  else
                                    bif
                                        livesV (Hd.mk hd.sv hd.e0 hd.e1 hd.e2 hd.va hd.cf hd.an) (1 : Int) !=
                                          livesV (Hd.mk hd_1.sv hd_1.e0 hd_1.e1 hd_1.e2 hd_1.va hd_1.cf hd_1.an)
                                            (1 : Int) then
                                      kk (SV.bool false)
                                    else
                                      bif
                                          livesV
                                              (Hd.mk (Hd.mk hd.sv hd.e0 hd.e1 hd.e2 hd.va hd.cf hd.an).sv
                                                (Hd.mk hd.sv hd.e0 hd.e1 hd.e2 hd.va hd.cf hd.an).e0
                                                (Hd.mk hd.sv hd.e0 hd.e1 hd.e2 hd.va hd.cf hd.an).e1
                                                (Hd.mk hd.sv hd.e0 hd.e1 hd.e2 hd.va hd.cf hd.an).e2
                                                (Hd.mk hd.sv hd.e0 hd.e1 hd.e2 hd.va hd.cf hd.an).va
                                                (Hd.mk hd.sv hd.e0 hd.e1 hd.e2 hd.va hd.cf hd.an).cf
                                                (Hd.mk hd.sv hd.e0 hd.e1 hd.e2 hd.va hd.cf hd.an).an)
                                              (1 : Int) !=
                                            livesV (Hd.mk hd_2.sv hd_2.e0 hd_2.e1 hd_2.e2 hd_2.va hd_2.cf hd_2.an)
                                              (1 : Int) then
                                        kk (SV.bool false)
                                      else
                                        bif
                                            hasV (Hd.mk hd.sv hd.e0 hd.e1 hd.e2 hd.va hd.cf hd.an) (1 : Int) !=
                                              hasV (Hd.mk hd_1.sv hd_1.e0 hd_1.e1 hd_1.e2 hd_1.va hd_1.cf hd_1.an)
                                                (1 : Int) then
                                          kk (SV.bool false)
                                        else
                                          bif
                                              hasV
                                                  (Hd.mk (Hd.mk hd.sv hd.e0 hd.e1 hd.e2 hd.va hd.cf hd.an).sv
                                                    (Hd.mk hd.sv hd.e0 hd.e1 hd.e2 hd.va hd.cf hd.an).e0
                                                    (Hd.mk hd.sv hd.e0 hd.e1 hd.e2 hd.va hd.cf hd.an).e1
                                                    (Hd.mk hd.sv hd.e0 hd.e1 hd.e2 hd.va hd.cf hd.an).e2
                                                    (Hd.mk hd.sv hd.e0 hd.e1 hd.e2 hd.va hd.cf hd.an).va
                                                    (Hd.mk hd.sv hd.e0 hd.e1 hd.e2 hd.va hd.cf hd.an).cf
                                                    (Hd.mk hd.sv hd.e0 hd.e1 hd.e2 hd.va hd.cf hd.an).an)
                                                  (1 : Int) !=
                                                hasV (Hd.mk hd_2.sv hd_2.e0 hd_2.e1 hd_2.e2 hd_2.va hd_2.cf hd_2.an)
                                                  (1 : Int) then
                                            kk (SV.bool false)
                                          else
                                            bif
                                                livesV (Hd.mk hd.sv hd.e0 hd.e1 hd.e2 hd.va hd.cf hd.an) (2 : Int) !=
                                                  livesV (Hd.mk hd_1.sv hd_1.e0 hd_1.e1 hd_1.e2 hd_1.va hd_1.cf hd_1.an)
                                                    (2 : Int) then
                                              kk (SV.bool false)
                                            else
                                              bif
                                                  livesV
                                                      (Hd.mk (Hd.mk hd.sv hd.e0 hd.e1 hd.e2 hd.va hd.cf hd.an).sv
                                                        (Hd.mk hd.sv hd.e0 hd.e1 hd.e2 hd.va hd.cf hd.an).e0
                                                        (Hd.mk hd.sv hd.e0 hd.e1 hd.e2 hd.va hd.cf hd.an).e1
                                                        (Hd.mk hd.sv hd.e0 hd.e1 hd.e2 hd.va hd.cf hd.an).e2
                                                        (Hd.mk hd.sv hd.e0 hd.e1 hd.e2 hd.va hd.cf hd.an).va
                                                        (Hd.mk hd.sv hd.e0 hd.e1 hd.e2 hd.va hd.cf hd.an).cf
                                                        (Hd.mk hd.sv hd.e0 hd.e1 hd.e2 hd.va hd.cf hd.an).an)
                                                      (2 : Int) !=
                                                    livesV (Hd.mk hd_2.sv hd_2.e0 hd_2.e1 hd_2.e2 hd_2.va hd_2.cf hd_2.an)
                                                      (2 : Int) then
                                                kk (SV.bool false)
                                              else
                                                bif
                                                    hasV (Hd.mk hd.sv hd.e0 hd.e1 hd.e2 hd.va hd.cf hd.an) (2 : Int) !=
                                                      hasV (Hd.mk hd_1.sv hd_1.e0 hd_1.e1 hd_1.e2 hd_1.va hd_1.cf hd_1.an)
                                                        (2 : Int) then
                                                  kk (SV.bool false)
                                                else
                                                  bif
                                                      hasV
                                                          (Hd.mk (Hd.mk hd.sv hd.e0 hd.e1 hd.e2 hd.va hd.cf hd.an).sv
                                                            (Hd.mk hd.sv hd.e0 hd.e1 hd.e2 hd.va hd.cf hd.an).e0
                                                            (Hd.mk hd.sv hd.e0 hd.e1 hd.e2 hd.va hd.cf hd.an).e1
                                                            (Hd.mk hd.sv hd.e0 hd.e1 hd.e2 hd.va hd.cf hd.an).e2
                                                            (Hd.mk hd.sv hd.e0 hd.e1 hd.e2 hd.va hd.cf hd.an).va
                                                            (Hd.mk hd.sv hd.e0 hd.e1 hd.e2 hd.va hd.cf hd.an).cf
                                                            (Hd.mk hd.sv hd.e0 hd.e1 hd.e2 hd.va hd.cf hd.an).an)
                                                          (2 : Int) !=
                                                        hasV (Hd.mk hd_2.sv hd_2.e0 hd_2.e1 hd_2.e2 hd_2.va hd_2.cf hd_2.an)
                                                          (2 : Int) then
                                                    kk (SV.bool false)
                                                  else
                                                    bif
                                                        validV (Hd.mk hd.sv hd.e0 hd.e1 hd.e2 hd.va hd.cf hd.an) ==
                                                          validV
                                                            (Hd.mk hd_1.sv hd_1.e0 hd_1.e1 hd_1.e2 hd_1.va hd_1.cf
                                                              hd_1.an) then
                                                      bif
                                                          sureV (Hd.mk hd.sv hd.e0 hd.e1 hd.e2 hd.va hd.cf hd.an) ==
                                                            sureV
                                                              (Hd.mk hd_1.sv hd_1.e0 hd_1.e1 hd_1.e2 hd_1.va hd_1.cf
                                                                hd_1.an) then
                                                        bif
                                                            validV
                                                                (Hd.mk (Hd.mk hd.sv hd.e0 hd.e1 hd.e2 hd.va hd.cf hd.an).sv
                                                                  (Hd.mk hd.sv hd.e0 hd.e1 hd.e2 hd.va hd.cf hd.an).e0
                                                                  (Hd.mk hd.sv hd.e0 hd.e1 hd.e2 hd.va hd.cf hd.an).e1
                                                                  (Hd.mk hd.sv hd.e0 hd.e1 hd.e2 hd.va hd.cf hd.an).e2
                                                                  (Hd.mk hd.sv hd.e0 hd.e1 hd.e2 hd.va hd.cf hd.an).va
                                                                  (Hd.mk hd.sv hd.e0 hd.e1 hd.e2 hd.va hd.cf hd.an).cf
                                                                  (Hd.mk hd.sv hd.e0 hd.e1 hd.e2 hd.va hd.cf hd.an).an) ==
                                                              validV
                                                                (Hd.mk hd_2.sv hd_2.e0 hd_2.e1 hd_2.e2 hd_2.va hd_2.cf
                                                                  hd_2.an) then
                                                          bif
                                                              sureV
                                                                  (Hd.mk
                                                                    (Hd.mk hd.sv hd.e0 hd.e1 hd.e2 hd.va hd.cf hd.an).sv
                                                                    (Hd.mk hd.sv hd.e0 hd.e1 hd.e2 hd.va hd.cf hd.an).e0
                                                                    (Hd.mk hd.sv hd.e0 hd.e1 hd.e2 hd.va hd.cf hd.an).e1
                                                                    (Hd.mk hd.sv hd.e0 hd.e1 hd.e2 hd.va hd.cf hd.an).e2
                                                                    (Hd.mk hd.sv hd.e0 hd.e1 hd.e2 hd.va hd.cf hd.an).va
                                                                    (Hd.mk hd.sv hd.e0 hd.e1 hd.e2 hd.va hd.cf hd.an).cf
                                                                    (Hd.mk hd.sv hd.e0 hd.e1 hd.e2 hd.va hd.cf hd.an).an) ==
                                                                sureV
                                                                  (Hd.mk hd_2.sv hd_2.e0 hd_2.e1 hd_2.e2 hd_2.va hd_2.cf
                                                                    hd_2.an) then
                                                            bif
                                                                confV
                                                                    (Hd.mk
                                                                      (Hd.mk hd.sv hd.e0 hd.e1 hd.e2 hd.va hd.cf hd.an).sv
                                                                      (Hd.mk hd.sv hd.e0 hd.e1 hd.e2 hd.va hd.cf hd.an).e0
                                                                      (Hd.mk hd.sv hd.e0 hd.e1 hd.e2 hd.va hd.cf hd.an).e1
                                                                      (Hd.mk hd.sv hd.e0 hd.e1 hd.e2 hd.va hd.cf hd.an).e2
                                                                      (Hd.mk hd.sv hd.e0 hd.e1 hd.e2 hd.va hd.cf hd.an).va
                                                                      (Hd.mk hd.sv hd.e0 hd.e1 hd.e2 hd.va hd.cf hd.an).cf
                                                                      (Hd.mk hd.sv hd.e0 hd.e1 hd.e2 hd.va hd.cf
                                                                          hd.an).an) ==
                                                                  confV
                                                                    (Hd.mk hd_2.sv hd_2.e0 hd_2.e1 hd_2.e2 hd_2.va hd_2.cf
                                                                      hd_2.an) then
                                                              kk (SV.bool true)
                                                            else kk (SV.bool false)
                                                          else kk (SV.bool false)
                                                        else kk (SV.bool false)
                                                      else kk (SV.bool false)
                                                    else kk (SV.bool false)
                  else False) := by kernel_rfl
theorem t8ee (b : Bool) (kk : SV → Prop) : evalF C7 64 Try.f8 [.bool b, .eslice, .eslice] [] (fun v _ => kk v) = (
    IsDo
        (Blk.mk (2 : Nat) (0 : Nat)
          (fun r => List.take C7.P.types[(27 : Nat)].size (List.drop (r * C7.P.types[(27 : Nat)].size) [])) true (27 : Nat))
        (0 : Nat) ∧
      ∀ (hd : Hd),
        hd =
            playB b
              (Blk.mk C7.P.types[(27 : Nat)].size (0 : Nat)
                (fun r => List.take C7.P.types[(27 : Nat)].size (List.drop (r * C7.P.types[(27 : Nat)].size) [])) true
                (27 : Nat))
              (0 : Nat) →
          bif true != livesV (Hd.mk hd.sv hd.e0 hd.e1 hd.e2 hd.va hd.cf hd.an) (0 : Int) then kk (SV.bool false)
          else
            bif true != hasV (Hd.mk hd.sv hd.e0 hd.e1 hd.e2 hd.va hd.cf hd.an) (0 : Int) then kk (SV.bool false)
            else
              bif false != livesV (Hd.mk hd.sv hd.e0 hd.e1 hd.e2 hd.va hd.cf hd.an) (1 : Int) then kk (SV.bool false)
              else
                bif false != hasV (Hd.mk hd.sv hd.e0 hd.e1 hd.e2 hd.va hd.cf hd.an) (1 : Int) then kk (SV.bool false)
                else
                  bif false != livesV (Hd.mk hd.sv hd.e0 hd.e1 hd.e2 hd.va hd.cf hd.an) (2 : Int) then kk (SV.bool false)
                  else
                    bif false != hasV (Hd.mk hd.sv hd.e0 hd.e1 hd.e2 hd.va hd.cf hd.an) (2 : Int) then kk (SV.bool false)
                    else
                      bif
                          validV
                              (Hd.mk (newH b).sv (newH b).e0 (newH b).e1 (newH b).e2 (newH b).va (newH b).cf (newH b).an) ==
                            validV
                              (Hd.mk (newH b).sv (newH b).e0 (newH b).e1 (newH b).e2 (newH b).va (newH b).cf
                                (newH b).an) then
                        bif
                            sureV
                                (Hd.mk (newH b).sv (newH b).e0 (newH b).e1 (newH b).e2 (newH b).va (newH b).cf
                                  (newH b).an) ==
                              sureV
                                (Hd.mk (newH b).sv (newH b).e0 (newH b).e1 (newH b).e2 (newH b).va (newH b).cf
                                  (newH b).an) then
                          bif
                              validV
                                  (Hd.mk
                                    (Hd.mk (newH b).sv (newH b).e0 (newH b).e1 (newH b).e2 (newH b).va (newH b).cf
                                        (newH b).an).sv
                                    (Hd.mk (newH b).sv (newH b).e0 (newH b).e1 (newH b).e2 (newH b).va (newH b).cf
                                        (newH b).an).e0
                                    (Hd.mk (newH b).sv (newH b).e0 (newH b).e1 (newH b).e2 (newH b).va (newH b).cf
                                        (newH b).an).e1
                                    (Hd.mk (newH b).sv (newH b).e0 (newH b).e1 (newH b).e2 (newH b).va (newH b).cf
                                        (newH b).an).e2
                                    (Hd.mk (newH b).sv (newH b).e0 (newH b).e1 (newH b).e2 (newH b).va (newH b).cf
                                        (newH b).an).va
                                    (Hd.mk (newH b).sv (newH b).e0 (newH b).e1 (newH b).e2 (newH b).va (newH b).cf
                                        (newH b).an).cf
                                    (Hd.mk (newH b).sv (newH b).e0 (newH b).e1 (newH b).e2 (newH b).va (newH b).cf
                                        (newH b).an).an) ==
                                validV (Hd.mk hd.sv hd.e0 hd.e1 hd.e2 hd.va hd.cf hd.an) then
                            bif
                                sureV
                                    (Hd.mk
                                      (Hd.mk (newH b).sv (newH b).e0 (newH b).e1 (newH b).e2 (newH b).va (newH b).cf
                                          (newH b).an).sv
                                      (Hd.mk (newH b).sv (newH b).e0 (newH b).e1 (newH b).e2 (newH b).va (newH b).cf
                                          (newH b).an).e0
                                      (Hd.mk (newH b).sv (newH b).e0 (newH b).e1 (newH b).e2 (newH b).va (newH b).cf
                                          (newH b).an).e1
                                      (Hd.mk (newH b).sv (newH b).e0 (newH b).e1 (newH b).e2 (newH b).va (newH b).cf
                                          (newH b).an).e2
                                      (Hd.mk (newH b).sv (newH b).e0 (newH b).e1 (newH b).e2 (newH b).va (newH b).cf
                                          (newH b).an).va
                                      (Hd.mk (newH b).sv (newH b).e0 (newH b).e1 (newH b).e2 (newH b).va (newH b).cf
                                          (newH b).an).cf
                                      (Hd.mk (newH b).sv (newH b).e0 (newH b).e1 (newH b).e2 (newH b).va (newH b).cf
                                          (newH b).an).an) ==
                                  sureV (Hd.mk hd.sv hd.e0 hd.e1 hd.e2 hd.va hd.cf hd.an) then
                              bif false == confV (Hd.mk hd.sv hd.e0 hd.e1 hd.e2 hd.va hd.cf hd.an) then kk (SV.bool true)
                              else kk (SV.bool false)
                            else kk (SV.bool false)
                          else kk (SV.bool false)
                        else kk (SV.bool false)
                      else kk (SV.bool false)) := by kernel_rfl
theorem p8ea (b : Bool) (m : Nat) (g2 : Nat → Nat → Int) (Kt : KT) : evalC C7 0  1 (.seq c8_0 (.seq c8_1 (.seq c8_2 (.seq c8_3 (.seq c8_4 .skip))))) (enterS 130 [.bool b, .eslice, .slice 0 0 2 m]) [some (bD m g2)] ( obsE Try.prog Try.f8.results.toList L8 M8e Kt (fun _ => False)) = (
    bif decide ((0 : Nat) + m ≤ m) then
      bif decide (m = (0 : Nat)) then
        Kt Ex.normal (130 : Nat)
          [SV.bool b, SV.eslice, SV.slice (0 : Nat) (0 : Nat) (2 : Nat) m, SV.ptr (1 : Nat) (0 : Nat) (7 : Nat) (0 : Nat),
            SV.ptr (2 : Nat) (0 : Nat) (7 : Nat) (0 : Nat), SV.ptr (3 : Nat) (0 : Nat) (7 : Nat) (0 : Nat),
            SV.slice (4 : Nat) (0 : Nat) (2 : Nat) (0 : Nat), SV.top]
          [BO.raw
              (some
                (Blk.mk (2 : Nat) m (fun r => [SV.int IntKind.i64 (g2 r (0 : Nat)), SV.int IntKind.i64 (g2 r (1 : Nat))])
                  false (0 : Nat))),
            BO.rows (7 : Nat) (1 : Nat) true (54 : Nat)
              [[SV.bool b, SV.int IntKind.i64 (1 : Int), SV.int IntKind.i64 (0 : Int), SV.int IntKind.i64 (0 : Int),
                  SV.bool !b, SV.bool false, SV.bool false]],
            BO.rows (7 : Nat) (1 : Nat) true (54 : Nat)
              [[SV.bool b, SV.int IntKind.i64 (1 : Int), SV.int IntKind.i64 (0 : Int), SV.int IntKind.i64 (0 : Int),
                  SV.bool !b, SV.bool false, SV.bool false]],
            BO.rows (7 : Nat) (1 : Nat) true (54 : Nat)
              [[SV.bool b, SV.int IntKind.i64 (1 : Int), SV.int IntKind.i64 (0 : Int), SV.int IntKind.i64 (0 : Int),
                  SV.bool !b, SV.bool false, SV.bool false]],
            BO.raw
              (some
                (Blk.mk (2 : Nat) (0 : Nat)
                  (fun r => List.take C7.P.types[(27 : Nat)].size (List.drop (r * C7.P.types[(27 : Nat)].size) [])) true
                  (27 : Nat))),
            BO.raw none]
      else
        bif
            allOne (fun i => (bD m g2).rd ((0 : Nat) + i)) m && true && true &&
                            decide ((0 : Nat) + m ≤ (9223372036854775807 : Nat)) &&
                          decide (((0 : Nat) + m) * (16 : Nat) ≤ (140737488355328 : Nat)) &&
                        true &&
                      true &&
                    true &&
                  true &&
                true &&
              true then
          Kt Ex.normal (130 : Nat)
            [SV.bool b, SV.eslice, SV.slice (0 : Nat) (0 : Nat) (2 : Nat) m, SV.ptr (1 : Nat) (0 : Nat) (7 : Nat) (0 : Nat),
              SV.ptr (2 : Nat) (0 : Nat) (7 : Nat) (0 : Nat), SV.ptr (3 : Nat) (0 : Nat) (7 : Nat) (0 : Nat),
              SV.slice (5 : Nat) (0 : Nat) (2 : Nat) ((0 : Nat) + m), SV.top]
            [BO.raw
                (some
                  (Blk.mk (2 : Nat) m (fun r => [SV.int IntKind.i64 (g2 r (0 : Nat)), SV.int IntKind.i64 (g2 r (1 : Nat))])
                    false (0 : Nat))),
              BO.rows (7 : Nat) (1 : Nat) true (54 : Nat)
                [[SV.bool b, SV.int IntKind.i64 (1 : Int), SV.int IntKind.i64 (0 : Int), SV.int IntKind.i64 (0 : Int),
                    SV.bool !b, SV.bool false, SV.bool false]],
              BO.rows (7 : Nat) (1 : Nat) true (54 : Nat)
                [[SV.bool b, SV.int IntKind.i64 (1 : Int), SV.int IntKind.i64 (0 : Int), SV.int IntKind.i64 (0 : Int),
                    SV.bool !b, SV.bool false, SV.bool false]],
              BO.rows (7 : Nat) (1 : Nat) true (54 : Nat)
                [[SV.bool b, SV.int IntKind.i64 (1 : Int), SV.int IntKind.i64 (0 : Int), SV.int IntKind.i64 (0 : Int),
                    SV.bool !b, SV.bool false, SV.bool false]],
              BO.raw none,
              BO.raw
                (some
                  (Blk.mk (2 : Nat) ((0 : Nat) + m)
                    (fun r =>
                      [SV.int IntKind.i64 (g2 ((0 : Nat) + (r - (0 : Nat))) (0 : Nat)),
                        SV.int IntKind.i64 (g2 ((0 : Nat) + (r - (0 : Nat))) (1 : Nat))])
                    true (27 : Nat)))]
        else False
    else False) := by kernel_rfl
theorem p8sb (b : Bool) (n m q : Nat) (g g2 : Nat → Nat → Int) (h c : Hd) (A : Blk) (Kt : KT) : evalC C7 0  2 c8_5 (tplF 130 L8 (v8s b n m q .top)) ((h8s n m g g2 h c A).map mkB) ( obsN L8 M8s Kt) = (
    Kt Ex.normal (130 : Nat)
      [SV.bool b, SV.slice (0 : Nat) (0 : Nat) (2 : Nat) n, SV.slice (1 : Nat) (0 : Nat) (2 : Nat) m,
        SV.ptr (2 : Nat) (0 : Nat) (7 : Nat) (0 : Nat), SV.ptr (3 : Nat) (0 : Nat) (7 : Nat) (0 : Nat),
        SV.ptr (4 : Nat) (0 : Nat) (7 : Nat) (0 : Nat), SV.slice (7 : Nat) (0 : Nat) (2 : Nat) q,
        SV.int IntKind.i64 (0 : Int)]
      [BO.raw
          (some
            (Blk.mk (2 : Nat) n (fun r => [SV.int IntKind.i64 (g r (0 : Nat)), SV.int IntKind.i64 (g r (1 : Nat))]) false
              (0 : Nat))),
        BO.raw
          (some
            (Blk.mk (2 : Nat) m (fun r => [SV.int IntKind.i64 (g2 r (0 : Nat)), SV.int IntKind.i64 (g2 r (1 : Nat))]) false
              (0 : Nat))),
        BO.rows (7 : Nat) (1 : Nat) true (54 : Nat)
          [[SV.bool h.sv, SV.int IntKind.i64 h.e0, SV.int IntKind.i64 h.e1, SV.int IntKind.i64 h.e2, SV.bool h.va,
              SV.bool h.cf, SV.bool h.an]],
        BO.rows (7 : Nat) (1 : Nat) true (54 : Nat)
          [[SV.bool h.sv, SV.int IntKind.i64 h.e0, SV.int IntKind.i64 h.e1, SV.int IntKind.i64 h.e2, SV.bool h.va,
              SV.bool h.cf, SV.bool h.an]],
        BO.rows (7 : Nat) (1 : Nat) true (54 : Nat)
          [[SV.bool c.sv, SV.int IntKind.i64 c.e0, SV.int IntKind.i64 c.e1, SV.int IntKind.i64 c.e2, SV.bool c.va,
              SV.bool c.cf, SV.bool c.an]],
        BO.raw none, BO.raw none, BO.raw (some A)]) := by kernel_rfl
theorem p8eb (b : Bool) (m q : Nat) (g2 : Nat → Nat → Int) (h c : Hd) (A : Blk) (Kt : KT) : evalC C7 0  1 c8_5 (tplF 130 L8 (v8e b m q .top)) ((h8e m g2 h c A).map mkB) ( obsN L8 M8e Kt) = (
    Kt Ex.normal (130 : Nat)
      [SV.bool b, SV.eslice, SV.slice (0 : Nat) (0 : Nat) (2 : Nat) m, SV.ptr (1 : Nat) (0 : Nat) (7 : Nat) (0 : Nat),
        SV.ptr (2 : Nat) (0 : Nat) (7 : Nat) (0 : Nat), SV.ptr (3 : Nat) (0 : Nat) (7 : Nat) (0 : Nat),
        SV.slice (5 : Nat) (0 : Nat) (2 : Nat) q, SV.int IntKind.i64 (0 : Int)]
      [BO.raw
          (some
            (Blk.mk (2 : Nat) m (fun r => [SV.int IntKind.i64 (g2 r (0 : Nat)), SV.int IntKind.i64 (g2 r (1 : Nat))]) false
              (0 : Nat))),
        BO.rows (7 : Nat) (1 : Nat) true (54 : Nat)
          [[SV.bool h.sv, SV.int IntKind.i64 h.e0, SV.int IntKind.i64 h.e1, SV.int IntKind.i64 h.e2, SV.bool h.va,
              SV.bool h.cf, SV.bool h.an]],
        BO.rows (7 : Nat) (1 : Nat) true (54 : Nat)
          [[SV.bool h.sv, SV.int IntKind.i64 h.e0, SV.int IntKind.i64 h.e1, SV.int IntKind.i64 h.e2, SV.bool h.va,
              SV.bool h.cf, SV.bool h.an]],
        BO.rows (7 : Nat) (1 : Nat) true (54 : Nat)
          [[SV.bool c.sv, SV.int IntKind.i64 c.e0, SV.int IntKind.i64 c.e1, SV.int IntKind.i64 c.e2, SV.bool c.va,
              SV.bool c.cf, SV.bool c.an]],
        BO.raw none, BO.raw (some A)]) := by kernel_rfl
theorem p8sc (b : Bool) (n m q : Nat) (g g2 : Nat → Nat → Int) (h c : Hd) (A : Blk) (i : Nat) (Kt : KT) : evalC C7 0  2 c8_6 (tplF 130 L8 (v8s b n m q (.int .i64 i))) ((h8s n m g g2 h c A).map mkB) ( obsN L8 M8s Kt) = (
    bif decide ((↑i : Int) < (↑m : Int)) then
      bif
          decide
            ((↑i : Int) < IntKind.i64.wrap ((60 : Int) - if (60 : Int) < (↑n : Int) then (60 : Int) else (↑n : Int))) then
        bif decide ((↑i : Int) < (↑m : Int)) then
          bif decide ((0 : Nat) + (↑i : Int).toNat < m) && true then
            ∀ (h' : Hd) (e : Int),
              h' =
                  callH (Hd.mk c.sv c.e0 c.e1 c.e2 c.va c.cf c.an) (g2 ((0 : Nat) + (↑i : Int).toNat) (0 : Nat))
                    (g2 ((0 : Nat) + (↑i : Int).toNat) (1 : Nat)) →
                e =
                    callE (Hd.mk c.sv c.e0 c.e1 c.e2 c.va c.cf c.an) (g2 ((0 : Nat) + (↑i : Int).toNat) (0 : Nat))
                      (g2 ((0 : Nat) + (↑i : Int).toNat) (1 : Nat)) →
                  Kt Ex.normal (130 : Nat)
                    [SV.bool b, SV.slice (0 : Nat) (0 : Nat) (2 : Nat) n, SV.slice (1 : Nat) (0 : Nat) (2 : Nat) m,
                      SV.ptr (2 : Nat) (0 : Nat) (7 : Nat) (0 : Nat), SV.ptr (3 : Nat) (0 : Nat) (7 : Nat) (0 : Nat),
                      SV.ptr (4 : Nat) (0 : Nat) (7 : Nat) (0 : Nat), SV.slice (7 : Nat) (0 : Nat) (2 : Nat) q,
                      SV.int IntKind.i64 (IntKind.i64.wrap ((↑i : Int) + (1 : Int)))]
                    [BO.raw
                        (some
                          (Blk.mk (2 : Nat) n
                            (fun r => [SV.int IntKind.i64 (g r (0 : Nat)), SV.int IntKind.i64 (g r (1 : Nat))]) false
                            (0 : Nat))),
                      BO.raw
                        (some
                          (Blk.mk (2 : Nat) m
                            (fun r => [SV.int IntKind.i64 (g2 r (0 : Nat)), SV.int IntKind.i64 (g2 r (1 : Nat))]) false
                            (0 : Nat))),
                      BO.rows (7 : Nat) (1 : Nat) true (54 : Nat)
                        [[SV.bool h.sv, SV.int IntKind.i64 h.e0, SV.int IntKind.i64 h.e1, SV.int IntKind.i64 h.e2,
                            SV.bool h.va, SV.bool h.cf, SV.bool h.an]],
                      BO.rows (7 : Nat) (1 : Nat) true (54 : Nat)
                        [[SV.bool h.sv, SV.int IntKind.i64 h.e0, SV.int IntKind.i64 h.e1, SV.int IntKind.i64 h.e2,
                            SV.bool h.va, SV.bool h.cf, SV.bool h.an]],
                      BO.rows (7 : Nat) (1 : Nat) true (54 : Nat)
                        [[SV.bool h'.sv, SV.int IntKind.i64 h'.e0, SV.int IntKind.i64 h'.e1, SV.int IntKind.i64 h'.e2,
                            SV.bool h'.va, SV.bool h'.cf, SV.bool h'.an]],
                      BO.raw none, BO.raw none, BO.raw (some A)]
          else False
        else False
      else
        Kt (Ex.exit (0 : Nat)) (130 : Nat)
          [SV.bool b, SV.slice (0 : Nat) (0 : Nat) (2 : Nat) n, SV.slice (1 : Nat) (0 : Nat) (2 : Nat) m,
            SV.ptr (2 : Nat) (0 : Nat) (7 : Nat) (0 : Nat), SV.ptr (3 : Nat) (0 : Nat) (7 : Nat) (0 : Nat),
            SV.ptr (4 : Nat) (0 : Nat) (7 : Nat) (0 : Nat), SV.slice (7 : Nat) (0 : Nat) (2 : Nat) q,
            SV.int IntKind.i64 (↑i : Int)]
          [BO.raw
              (some
                (Blk.mk (2 : Nat) n (fun r => [SV.int IntKind.i64 (g r (0 : Nat)), SV.int IntKind.i64 (g r (1 : Nat))])
                  false (0 : Nat))),
            BO.raw
              (some
                (Blk.mk (2 : Nat) m (fun r => [SV.int IntKind.i64 (g2 r (0 : Nat)), SV.int IntKind.i64 (g2 r (1 : Nat))])
                  false (0 : Nat))),
            BO.rows (7 : Nat) (1 : Nat) true (54 : Nat)
              [[SV.bool h.sv, SV.int IntKind.i64 h.e0, SV.int IntKind.i64 h.e1, SV.int IntKind.i64 h.e2, SV.bool h.va,
                  SV.bool h.cf, SV.bool h.an]],
            BO.rows (7 : Nat) (1 : Nat) true (54 : Nat)
              [[SV.bool h.sv, SV.int IntKind.i64 h.e0, SV.int IntKind.i64 h.e1, SV.int IntKind.i64 h.e2, SV.bool h.va,
                  SV.bool h.cf, SV.bool h.an]],
            BO.rows (7 : Nat) (1 : Nat) true (54 : Nat)
              [[SV.bool c.sv, SV.int IntKind.i64 c.e0, SV.int IntKind.i64 c.e1, SV.int IntKind.i64 c.e2, SV.bool c.va,
                  SV.bool c.cf, SV.bool c.an]],
            BO.raw none, BO.raw none, BO.raw (some A)]
    else
      Kt (Ex.exit (0 : Nat)) (130 : Nat)
        [SV.bool b, SV.slice (0 : Nat) (0 : Nat) (2 : Nat) n, SV.slice (1 : Nat) (0 : Nat) (2 : Nat) m,
          SV.ptr (2 : Nat) (0 : Nat) (7 : Nat) (0 : Nat), SV.ptr (3 : Nat) (0 : Nat) (7 : Nat) (0 : Nat),
          SV.ptr (4 : Nat) (0 : Nat) (7 : Nat) (0 : Nat), SV.slice (7 : Nat) (0 : Nat) (2 : Nat) q,
          SV.int IntKind.i64 (↑i : Int)]
        [BO.raw
            (some
              (Blk.mk (2 : Nat) n (fun r => [SV.int IntKind.i64 (g r (0 : Nat)), SV.int IntKind.i64 (g r (1 : Nat))]) false
                (0 : Nat))),
          BO.raw
            (some
              (Blk.mk (2 : Nat) m (fun r => [SV.int IntKind.i64 (g2 r (0 : Nat)), SV.int IntKind.i64 (g2 r (1 : Nat))])
                false (0 : Nat))),
          BO.rows (7 : Nat) (1 : Nat) true (54 : Nat)
            [[SV.bool h.sv, SV.int IntKind.i64 h.e0, SV.int IntKind.i64 h.e1, SV.int IntKind.i64 h.e2, SV.bool h.va,
                SV.bool h.cf, SV.bool h.an]],
          BO.rows (7 : Nat) (1 : Nat) true (54 : Nat)
            [[SV.bool h.sv, SV.int IntKind.i64 h.e0, SV.int IntKind.i64 h.e1, SV.int IntKind.i64 h.e2, SV.bool h.va,
                SV.bool h.cf, SV.bool h.an]],
          BO.rows (7 : Nat) (1 : Nat) true (54 : Nat)
            [[SV.bool c.sv, SV.int IntKind.i64 c.e0, SV.int IntKind.i64 c.e1, SV.int IntKind.i64 c.e2, SV.bool c.va,
                SV.bool c.cf, SV.bool c.an]],
          BO.raw none, BO.raw none, BO.raw (some A)]) := by kernel_rfl
theorem p8ec (b : Bool) (m q : Nat) (g2 : Nat → Nat → Int) (h c : Hd) (A : Blk) (i : Nat) (Kt : KT) : evalC C7 0  1 c8_6 (tplF 130 L8 (v8e b m q (.int .i64 i))) ((h8e m g2 h c A).map mkB) ( obsN L8 M8e Kt) = (
    bif decide ((↑i : Int) < (↑m : Int)) then
      bif decide ((↑i : Int) < (60 : Int)) then
        bif decide ((↑i : Int) < (↑m : Int)) then
          bif decide ((0 : Nat) + (↑i : Int).toNat < m) && true then
            ∀ (h' : Hd) (e : Int),
              h' =
                  callH (Hd.mk c.sv c.e0 c.e1 c.e2 c.va c.cf c.an) (g2 ((0 : Nat) + (↑i : Int).toNat) (0 : Nat))
                    (g2 ((0 : Nat) + (↑i : Int).toNat) (1 : Nat)) →
                e =
                    callE (Hd.mk c.sv c.e0 c.e1 c.e2 c.va c.cf c.an) (g2 ((0 : Nat) + (↑i : Int).toNat) (0 : Nat))
                      (g2 ((0 : Nat) + (↑i : Int).toNat) (1 : Nat)) →
                  Kt Ex.normal (130 : Nat)
                    [SV.bool b, SV.eslice, SV.slice (0 : Nat) (0 : Nat) (2 : Nat) m,
                      SV.ptr (1 : Nat) (0 : Nat) (7 : Nat) (0 : Nat), SV.ptr (2 : Nat) (0 : Nat) (7 : Nat) (0 : Nat),
                      SV.ptr (3 : Nat) (0 : Nat) (7 : Nat) (0 : Nat), SV.slice (5 : Nat) (0 : Nat) (2 : Nat) q,
                      SV.int IntKind.i64 (IntKind.i64.wrap ((↑i : Int) + (1 : Int)))]
                    [BO.raw
                        (some
                          (Blk.mk (2 : Nat) m
                            (fun r => [SV.int IntKind.i64 (g2 r (0 : Nat)), SV.int IntKind.i64 (g2 r (1 : Nat))]) false
                            (0 : Nat))),
                      BO.rows (7 : Nat) (1 : Nat) true (54 : Nat)
                        [[SV.bool h.sv, SV.int IntKind.i64 h.e0, SV.int IntKind.i64 h.e1, SV.int IntKind.i64 h.e2,
                            SV.bool h.va, SV.bool h.cf, SV.bool h.an]],
                      BO.rows (7 : Nat) (1 : Nat) true (54 : Nat)
                        [[SV.bool h.sv, SV.int IntKind.i64 h.e0, SV.int IntKind.i64 h.e1, SV.int IntKind.i64 h.e2,
                            SV.bool h.va, SV.bool h.cf, SV.bool h.an]],
                      BO.rows (7 : Nat) (1 : Nat) true (54 : Nat)
                        [[SV.bool h'.sv, SV.int IntKind.i64 h'.e0, SV.int IntKind.i64 h'.e1, SV.int IntKind.i64 h'.e2,
                            SV.bool h'.va, SV.bool h'.cf, SV.bool h'.an]],
                      BO.raw none, BO.raw (some A)]
          else False
        else False
      else
        Kt (Ex.exit (0 : Nat)) (130 : Nat)
          [SV.bool b, SV.eslice, SV.slice (0 : Nat) (0 : Nat) (2 : Nat) m, SV.ptr (1 : Nat) (0 : Nat) (7 : Nat) (0 : Nat),
            SV.ptr (2 : Nat) (0 : Nat) (7 : Nat) (0 : Nat), SV.ptr (3 : Nat) (0 : Nat) (7 : Nat) (0 : Nat),
            SV.slice (5 : Nat) (0 : Nat) (2 : Nat) q, SV.int IntKind.i64 (↑i : Int)]
          [BO.raw
              (some
                (Blk.mk (2 : Nat) m (fun r => [SV.int IntKind.i64 (g2 r (0 : Nat)), SV.int IntKind.i64 (g2 r (1 : Nat))])
                  false (0 : Nat))),
            BO.rows (7 : Nat) (1 : Nat) true (54 : Nat)
              [[SV.bool h.sv, SV.int IntKind.i64 h.e0, SV.int IntKind.i64 h.e1, SV.int IntKind.i64 h.e2, SV.bool h.va,
                  SV.bool h.cf, SV.bool h.an]],
            BO.rows (7 : Nat) (1 : Nat) true (54 : Nat)
              [[SV.bool h.sv, SV.int IntKind.i64 h.e0, SV.int IntKind.i64 h.e1, SV.int IntKind.i64 h.e2, SV.bool h.va,
                  SV.bool h.cf, SV.bool h.an]],
            BO.rows (7 : Nat) (1 : Nat) true (54 : Nat)
              [[SV.bool c.sv, SV.int IntKind.i64 c.e0, SV.int IntKind.i64 c.e1, SV.int IntKind.i64 c.e2, SV.bool c.va,
                  SV.bool c.cf, SV.bool c.an]],
            BO.raw none, BO.raw (some A)]
    else
      Kt (Ex.exit (0 : Nat)) (130 : Nat)
        [SV.bool b, SV.eslice, SV.slice (0 : Nat) (0 : Nat) (2 : Nat) m, SV.ptr (1 : Nat) (0 : Nat) (7 : Nat) (0 : Nat),
          SV.ptr (2 : Nat) (0 : Nat) (7 : Nat) (0 : Nat), SV.ptr (3 : Nat) (0 : Nat) (7 : Nat) (0 : Nat),
          SV.slice (5 : Nat) (0 : Nat) (2 : Nat) q, SV.int IntKind.i64 (↑i : Int)]
        [BO.raw
            (some
              (Blk.mk (2 : Nat) m (fun r => [SV.int IntKind.i64 (g2 r (0 : Nat)), SV.int IntKind.i64 (g2 r (1 : Nat))])
                false (0 : Nat))),
          BO.rows (7 : Nat) (1 : Nat) true (54 : Nat)
            [[SV.bool h.sv, SV.int IntKind.i64 h.e0, SV.int IntKind.i64 h.e1, SV.int IntKind.i64 h.e2, SV.bool h.va,
                SV.bool h.cf, SV.bool h.an]],
          BO.rows (7 : Nat) (1 : Nat) true (54 : Nat)
            [[SV.bool h.sv, SV.int IntKind.i64 h.e0, SV.int IntKind.i64 h.e1, SV.int IntKind.i64 h.e2, SV.bool h.va,
                SV.bool h.cf, SV.bool h.an]],
          BO.rows (7 : Nat) (1 : Nat) true (54 : Nat)
            [[SV.bool c.sv, SV.int IntKind.i64 c.e0, SV.int IntKind.i64 c.e1, SV.int IntKind.i64 c.e2, SV.bool c.va,
                SV.bool c.cf, SV.bool c.an]],
          BO.raw none, BO.raw (some A)]) := by kernel_rfl
theorem p8sd (b : Bool) (n m q : Nat) (g g2 : Nat → Nat → Int) (h c : Hd) (A : Blk) (kk : SV → Prop) : evalC C7 64  2 (.seq c8_7 (.seq (.seq c8_8 (.block 2 (.loop c8_9))) c8_10)) (tplF 130 L8 (v8s b n m q .top)) ((h8s n m g g2 h c A).map mkB) ( endK Try.prog Try.f8.results.toList (fun v _ => kk v)) = (
    IsDo A q ∧
      ∀ (hd : Hd),
        hd = playB b A q →
          bif
              livesV (Hd.mk h.sv h.e0 h.e1 h.e2 h.va h.cf h.an) (0 : Int) !=
                livesV (Hd.mk h.sv h.e0 h.e1 h.e2 h.va h.cf h.an) (0 : Int) then
            kk (SV.bool false)
          else
            bif
                livesV (Hd.mk c.sv c.e0 c.e1 c.e2 c.va c.cf c.an) (0 : Int) !=
                  livesV (Hd.mk hd.sv hd.e0 hd.e1 hd.e2 hd.va hd.cf hd.an) (0 : Int) then
              kk (SV.bool false)
            else
              bif
                  hasV (Hd.mk h.sv h.e0 h.e1 h.e2 h.va h.cf h.an) (0 : Int) !=
                    hasV (Hd.mk h.sv h.e0 h.e1 h.e2 h.va h.cf h.an) (0 : Int) then
                kk (SV.bool false)
              else
                bif
                    hasV (Hd.mk c.sv c.e0 c.e1 c.e2 c.va c.cf c.an) (0 : Int) !=
                      hasV (Hd.mk hd.sv hd.e0 hd.e1 hd.e2 hd.va hd.cf hd.an) (0 : Int) then
                  kk (SV.bool false)
                else
                  bif
                      livesV (Hd.mk h.sv h.e0 h.e1 h.e2 h.va h.cf h.an) (1 : Int) !=
                        livesV (Hd.mk h.sv h.e0 h.e1 h.e2 h.va h.cf h.an) (1 : Int) then
                    kk (SV.bool false)
                  else
                    bif
                        livesV (Hd.mk c.sv c.e0 c.e1 c.e2 c.va c.cf c.an) (1 : Int) !=
                          livesV (Hd.mk hd.sv hd.e0 hd.e1 hd.e2 hd.va hd.cf hd.an) (1 : Int) then
                      kk (SV.bool false)
                    else
                      bif
                          hasV (Hd.mk h.sv h.e0 h.e1 h.e2 h.va h.cf h.an) (1 : Int) !=
                            hasV (Hd.mk h.sv h.e0 h.e1 h.e2 h.va h.cf h.an) (1 : Int) then
                        kk (SV.bool false)
                      else
                        bif
                            hasV (Hd.mk c.sv c.e0 c.e1 c.e2 c.va c.cf c.an) (1 : Int) !=
                              hasV (Hd.mk hd.sv hd.e0 hd.e1 hd.e2 hd.va hd.cf hd.an) (1 : Int) then
                          kk (SV.bool false)
                        else
                          bif
                              livesV (Hd.mk h.sv h.e0 h.e1 h.e2 h.va h.cf h.an) (2 : Int) !=
                                livesV (Hd.mk h.sv h.e0 h.e1 h.e2 h.va h.cf h.an) (2 : Int) then
                            kk (SV.bool false)
                          else
                            bif
                                livesV (Hd.mk c.sv c.e0 c.e1 c.e2 c.va c.cf c.an) (2 : Int) !=
                                  livesV (Hd.mk hd.sv hd.e0 hd.e1 hd.e2 hd.va hd.cf hd.an) (2 : Int) then
                              kk (SV.bool false)
                            else
                              bif
                                  hasV (Hd.mk h.sv h.e0 h.e1 h.e2 h.va h.cf h.an) (2 : Int) !=
                                    hasV (Hd.mk h.sv h.e0 h.e1 h.e2 h.va h.cf h.an) (2 : Int) then
                                kk (SV.bool false)
                              else
                                bif
                                    hasV (Hd.mk c.sv c.e0 c.e1 c.e2 c.va c.cf c.an) (2 : Int) !=
                                      hasV (Hd.mk hd.sv hd.e0 hd.e1 hd.e2 hd.va hd.cf hd.an) (2 : Int) then
                                  kk (SV.bool false)
                                else
                                  bif
                                      validV (Hd.mk h.sv h.e0 h.e1 h.e2 h.va h.cf h.an) ==
                                        validV (Hd.mk h.sv h.e0 h.e1 h.e2 h.va h.cf h.an) then
                                    bif
                                        sureV (Hd.mk h.sv h.e0 h.e1 h.e2 h.va h.cf h.an) ==
                                          sureV (Hd.mk h.sv h.e0 h.e1 h.e2 h.va h.cf h.an) then
                                      bif
                                          validV (Hd.mk c.sv c.e0 c.e1 c.e2 c.va c.cf c.an) ==
                                            validV (Hd.mk hd.sv hd.e0 hd.e1 hd.e2 hd.va hd.cf hd.an) then
                                        bif
                                            sureV (Hd.mk c.sv c.e0 c.e1 c.e2 c.va c.cf c.an) ==
                                              sureV (Hd.mk hd.sv hd.e0 hd.e1 hd.e2 hd.va hd.cf hd.an) then
                                          bif
                                              confV (Hd.mk c.sv c.e0 c.e1 c.e2 c.va c.cf c.an) ==
                                                confV (Hd.mk hd.sv hd.e0 hd.e1 hd.e2 hd.va hd.cf hd.an) then
                                            kk (SV.bool true)
                                          else kk (SV.bool false)
                                        else kk (SV.bool false)
                                      else kk (SV.bool false)
                                    else kk (SV.bool false)
                                  else kk (SV.bool false)) := by kernel_rfl
theorem p8ed (b : Bool) (m q : Nat) (g2 : Nat → Nat → Int) (h c : Hd) (A : Blk) (kk : SV → Prop) : evalC C7 64  1 (.seq c8_7 (.seq (.seq c8_8 (.block 2 (.loop c8_9))) c8_10)) (tplF 130 L8 (v8e b m q .top)) ((h8e m g2 h c A).map mkB) ( endK Try.prog Try.f8.results.toList (fun v _ => kk v)) = (
    IsDo A q ∧
      ∀ (hd : Hd),
        hd = playB b A q →
          bif
              livesV (Hd.mk h.sv h.e0 h.e1 h.e2 h.va h.cf h.an) (0 : Int) !=
                livesV (Hd.mk h.sv h.e0 h.e1 h.e2 h.va h.cf h.an) (0 : Int) then
            kk (SV.bool false)
          else
            bif
                livesV (Hd.mk c.sv c.e0 c.e1 c.e2 c.va c.cf c.an) (0 : Int) !=
                  livesV (Hd.mk hd.sv hd.e0 hd.e1 hd.e2 hd.va hd.cf hd.an) (0 : Int) then
              kk (SV.bool false)
            else
              bif
                  hasV (Hd.mk h.sv h.e0 h.e1 h.e2 h.va h.cf h.an) (0 : Int) !=
                    hasV (Hd.mk h.sv h.e0 h.e1 h.e2 h.va h.cf h.an) (0 : Int) then
                kk (SV.bool false)
              else
                bif
                    hasV (Hd.mk c.sv c.e0 c.e1 c.e2 c.va c.cf c.an) (0 : Int) !=
                      hasV (Hd.mk hd.sv hd.e0 hd.e1 hd.e2 hd.va hd.cf hd.an) (0 : Int) then
                  kk (SV.bool false)
                else
                  bif
                      livesV (Hd.mk h.sv h.e0 h.e1 h.e2 h.va h.cf h.an) (1 : Int) !=
                        livesV (Hd.mk h.sv h.e0 h.e1 h.e2 h.va h.cf h.an) (1 : Int) then
                    kk (SV.bool false)
                  else
                    bif
                        livesV (Hd.mk c.sv c.e0 c.e1 c.e2 c.va c.cf c.an) (1 : Int) !=
                          livesV (Hd.mk hd.sv hd.e0 hd.e1 hd.e2 hd.va hd.cf hd.an) (1 : Int) then
                      kk (SV.bool false)
                    else
                      bif
                          hasV (Hd.mk h.sv h.e0 h.e1 h.e2 h.va h.cf h.an) (1 : Int) !=
                            hasV (Hd.mk h.sv h.e0 h.e1 h.e2 h.va h.cf h.an) (1 : Int) then
                        kk (SV.bool false)
                      else
                        bif
                            hasV (Hd.mk c.sv c.e0 c.e1 c.e2 c.va c.cf c.an) (1 : Int) !=
                              hasV (Hd.mk hd.sv hd.e0 hd.e1 hd.e2 hd.va hd.cf hd.an) (1 : Int) then
                          kk (SV.bool false)
                        else
                          bif
                              livesV (Hd.mk h.sv h.e0 h.e1 h.e2 h.va h.cf h.an) (2 : Int) !=
                                livesV (Hd.mk h.sv h.e0 h.e1 h.e2 h.va h.cf h.an) (2 : Int) then
                            kk (SV.bool false)
                          else
                            bif
                                livesV (Hd.mk c.sv c.e0 c.e1 c.e2 c.va c.cf c.an) (2 : Int) !=
                                  livesV (Hd.mk hd.sv hd.e0 hd.e1 hd.e2 hd.va hd.cf hd.an) (2 : Int) then
                              kk (SV.bool false)
                            else
                              bif
                                  hasV (Hd.mk h.sv h.e0 h.e1 h.e2 h.va h.cf h.an) (2 : Int) !=
                                    hasV (Hd.mk h.sv h.e0 h.e1 h.e2 h.va h.cf h.an) (2 : Int) then
                                kk (SV.bool false)
                              else
                                bif
                                    hasV (Hd.mk c.sv c.e0 c.e1 c.e2 c.va c.cf c.an) (2 : Int) !=
                                      hasV (Hd.mk hd.sv hd.e0 hd.e1 hd.e2 hd.va hd.cf hd.an) (2 : Int) then
                                  kk (SV.bool false)
                                else
                                  bif
                                      validV (Hd.mk h.sv h.e0 h.e1 h.e2 h.va h.cf h.an) ==
                                        validV (Hd.mk h.sv h.e0 h.e1 h.e2 h.va h.cf h.an) then
                                    bif
                                        sureV (Hd.mk h.sv h.e0 h.e1 h.e2 h.va h.cf h.an) ==
                                          sureV (Hd.mk h.sv h.e0 h.e1 h.e2 h.va h.cf h.an) then
                                      bif
                                          validV (Hd.mk c.sv c.e0 c.e1 c.e2 c.va c.cf c.an) ==
                                            validV (Hd.mk hd.sv hd.e0 hd.e1 hd.e2 hd.va hd.cf hd.an) then
                                        bif
                                            sureV (Hd.mk c.sv c.e0 c.e1 c.e2 c.va c.cf c.an) ==
                                              sureV (Hd.mk hd.sv hd.e0 hd.e1 hd.e2 hd.va hd.cf hd.an) then
                                          bif
                                              confV (Hd.mk c.sv c.e0 c.e1 c.e2 c.va c.cf c.an) ==
                                                confV (Hd.mk hd.sv hd.e0 hd.e1 hd.e2 hd.va hd.cf hd.an) then
                                            kk (SV.bool true)
                                          else kk (SV.bool false)
                                        else kk (SV.bool false)
                                      else kk (SV.bool false)
                                    else kk (SV.bool false)
                                  else kk (SV.bool false)) := by kernel_rfl
end Go.Proofs.Ytllkhfabfcpieaa
