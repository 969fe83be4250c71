/-
  What functions of the program come to, way by way: printed by a program, held by the kernel.
-/
import Derived.Test.YtllkhfabfcpieaaX5
namespace Go.Proofs.Ytllkhfabfcpieaa
open Go.RowKit
set_option maxRecDepth 100000

theorem t4 (b : Bool) (n : Nat) (g : Nat → Nat → Int) (x y : Int) (kk : SV → Prop) : evalC C7 64  1 (bodF Try.f4) (enterS 89 [.bool b, .slice 0 0 2 n, .agg [.int .i64 x, .int .i64 y]]) [some (bD n g)] ( endK Try.prog Try.f4.results.toList (fun v _ => kk v)) = (
    IsDo
        (Blk.mk (2 : Nat) n (fun r => [SV.int IntKind.i64 (g r (0 : Nat)), SV.int IntKind.i64 (g r (1 : Nat))]) false
          (0 : Nat))
        n ∧
      ∀ (hd : Hd),
        hd = playB b (bD n g) n →
          IsDo
              (Blk.mk (2 : Nat) n (fun r => [SV.int IntKind.i64 (g r (0 : Nat)), SV.int IntKind.i64 (g r (1 : Nat))]) false
                (0 : Nat))
              n ∧
            ∀ (hd_1 : Hd),
              hd_1 = playB b (bD n g) n →
                ∀ (h' : Hd) (e : Int),
                  h' = callH (Hd.mk hd.sv hd.e0 hd.e1 hd.e2 hd.va hd.cf hd.an) x y →
                    e = callE (Hd.mk hd.sv hd.e0 hd.e1 hd.e2 hd.va hd.cf hd.an) x y →
                      bif e != (0 : Int) then
                        bif
                            livesV (Hd.mk h'.sv h'.e0 h'.e1 h'.e2 h'.va h'.cf h'.an) (0 : Int) !=
                              livesV (Hd.mk hd_1.sv hd_1.e0 hd_1.e1 hd_1.e2 hd_1.va hd_1.cf hd_1.an) (0 : Int) then
                          kk (SV.bool false)
                        else
                          bif
                              hasV (Hd.mk h'.sv h'.e0 h'.e1 h'.e2 h'.va h'.cf h'.an) (0 : Int) !=
                                hasV (Hd.mk hd_1.sv hd_1.e0 hd_1.e1 hd_1.e2 hd_1.va hd_1.cf hd_1.an) (0 : Int) then
                            kk (SV.bool false)
                          else
                            bif
                                livesV (Hd.mk h'.sv h'.e0 h'.e1 h'.e2 h'.va h'.cf h'.an) (1 : Int) !=
                                  livesV (Hd.mk hd_1.sv hd_1.e0 hd_1.e1 hd_1.e2 hd_1.va hd_1.cf hd_1.an) (1 : Int) then
                              kk (SV.bool false)
                            else
                              bif
                                  hasV (Hd.mk h'.sv h'.e0 h'.e1 h'.e2 h'.va h'.cf h'.an) (1 : Int) !=
                                    hasV (Hd.mk hd_1.sv hd_1.e0 hd_1.e1 hd_1.e2 hd_1.va hd_1.cf hd_1.an) (1 : Int) then
                                kk (SV.bool false)
                              else
                                bif
                                    livesV (Hd.mk h'.sv h'.e0 h'.e1 h'.e2 h'.va h'.cf h'.an) (2 : Int) !=
                                      livesV (Hd.mk hd_1.sv hd_1.e0 hd_1.e1 hd_1.e2 hd_1.va hd_1.cf hd_1.an) (2 : Int) then
                                  kk (SV.bool false)
                                else
                                  bif
                                      hasV (Hd.mk h'.sv h'.e0 h'.e1 h'.e2 h'.va h'.cf h'.an) (2 : Int) !=
                                        hasV (Hd.mk hd_1.sv hd_1.e0 hd_1.e1 hd_1.e2 hd_1.va hd_1.cf hd_1.an) (2 : Int) then
                                    kk (SV.bool false)
                                  else
                                    bif
                                        validV (Hd.mk h'.sv h'.e0 h'.e1 h'.e2 h'.va h'.cf h'.an) ==
                                          validV (Hd.mk hd_1.sv hd_1.e0 hd_1.e1 hd_1.e2 hd_1.va hd_1.cf hd_1.an) then
                                      bif
                                          confV (Hd.mk h'.sv h'.e0 h'.e1 h'.e2 h'.va h'.cf h'.an) ==
                                            confV (Hd.mk hd_1.sv hd_1.e0 hd_1.e1 hd_1.e2 hd_1.va hd_1.cf hd_1.an) then
                                        bif
                                            sureV (Hd.mk h'.sv h'.e0 h'.e1 h'.e2 h'.va h'.cf h'.an) ==
                                              sureV (Hd.mk hd_1.sv hd_1.e0 hd_1.e1 hd_1.e2 hd_1.va hd_1.cf hd_1.an) then
                                          ∀ (h'_1 : Hd) (e_1 : Int),
                                            h'_1 = callH (Hd.mk h'.sv h'.e0 h'.e1 h'.e2 h'.va h'.cf h'.an) x y →
                                              e_1 = callE (Hd.mk h'.sv h'.e0 h'.e1 h'.e2 h'.va h'.cf h'.an) x y →
                                                bif e_1 == e then kk (SV.bool true) else kk (SV.bool false)
                                        else kk (SV.bool false)
                                      else kk (SV.bool false)
                                    else kk (SV.bool false)
                      else
                        ∀ (h'_1 : Hd) (e : Int),
                          h'_1 = callH (Hd.mk h'.sv h'.e0 h'.e1 h'.e2 h'.va h'.cf h'.an) x y →
                            e = callE (Hd.mk h'.sv h'.e0 h'.e1 h'.e2 h'.va h'.cf h'.an) x y →
                              bif x % (6 : Int) == (2 : Int) then
                                bif e == (160 : Int) then kk (SV.bool true) else kk (SV.bool false)
                              else bif e == (0 : Int) then kk (SV.bool true) else kk (SV.bool false)) := by kernel_rfl
theorem t4e (b : Bool) (x y : Int) (kk : SV → Prop) : evalF C7 64 Try.f4 [.bool b, .eslice, .agg [.int .i64 x, .int .i64 y]] [] (fun v _ => kk v) = (
    ∀ (h' : Hd) (e : Int),
      h' = callH (Hd.mk (newH b).sv (newH b).e0 (newH b).e1 (newH b).e2 (newH b).va (newH b).cf (newH b).an) x y →
        e = callE (Hd.mk (newH b).sv (newH b).e0 (newH b).e1 (newH b).e2 (newH b).va (newH b).cf (newH b).an) x y →
          bif e != (0 : Int) then
            bif livesV (Hd.mk h'.sv h'.e0 h'.e1 h'.e2 h'.va h'.cf h'.an) (0 : Int) != true then kk (SV.bool false)
            else
              bif hasV (Hd.mk h'.sv h'.e0 h'.e1 h'.e2 h'.va h'.cf h'.an) (0 : Int) != true then kk (SV.bool false)
              else
                bif livesV (Hd.mk h'.sv h'.e0 h'.e1 h'.e2 h'.va h'.cf h'.an) (1 : Int) != false then kk (SV.bool false)
                else
                  bif hasV (Hd.mk h'.sv h'.e0 h'.e1 h'.e2 h'.va h'.cf h'.an) (1 : Int) != false then kk (SV.bool false)
                  else
                    bif livesV (Hd.mk h'.sv h'.e0 h'.e1 h'.e2 h'.va h'.cf h'.an) (2 : Int) != false then kk (SV.bool false)
                    else
                      bif hasV (Hd.mk h'.sv h'.e0 h'.e1 h'.e2 h'.va h'.cf h'.an) (2 : Int) != false then kk (SV.bool false)
                      else
                        bif
                            validV (Hd.mk h'.sv h'.e0 h'.e1 h'.e2 h'.va h'.cf h'.an) ==
                              validV
                                (Hd.mk (newH b).sv (newH b).e0 (newH b).e1 (newH b).e2 (newH b).va (newH b).cf
                                  (newH b).an) then
                          bif confV (Hd.mk h'.sv h'.e0 h'.e1 h'.e2 h'.va h'.cf h'.an) == false then
                            bif
                                sureV (Hd.mk h'.sv h'.e0 h'.e1 h'.e2 h'.va h'.cf h'.an) ==
                                  sureV
                                    (Hd.mk (newH b).sv (newH b).e0 (newH b).e1 (newH b).e2 (newH b).va (newH b).cf
                                      (newH b).an) then
                              ∀ (h'_1 : Hd) (e_1 : Int),
                                h'_1 = callH (Hd.mk h'.sv h'.e0 h'.e1 h'.e2 h'.va h'.cf h'.an) x y →
                                  e_1 = callE (Hd.mk h'.sv h'.e0 h'.e1 h'.e2 h'.va h'.cf h'.an) x y →
                                    bif e_1 == e then kk (SV.bool true) else kk (SV.bool false)
                            else kk (SV.bool false)
                          else kk (SV.bool false)
                        else kk (SV.bool false)
          else
            ∀ (h'_1 : Hd) (e : Int),
              h'_1 = callH (Hd.mk h'.sv h'.e0 h'.e1 h'.e2 h'.va h'.cf h'.an) x y →
                e = callE (Hd.mk h'.sv h'.e0 h'.e1 h'.e2 h'.va h'.cf h'.an) x y →
                  bif x % (6 : Int) == (2 : Int) then bif e == (160 : Int) then kk (SV.bool true) else kk (SV.bool false)
                  else bif e == (0 : Int) then kk (SV.bool true) else kk (SV.bool false)) := by kernel_rfl
theorem p5a (b : Bool) (n : Nat) (g : Nat → Nat → Int) (Kt : KT) : evalC C7 0  1 (.seq c5_0 (.seq c5_1 (.seq c5_2 .skip))) (enterS 106 [.bool b, .slice 0 0 2 n]) [some (bD n g)] ( obsN L5 M5 Kt) = (
    IsDo
        (Blk.mk (2 : Nat) n (fun r => [SV.int IntKind.i64 (g r (0 : Nat)), SV.int IntKind.i64 (g r (1 : Nat))]) false
          (0 : Nat))
        n ∧
      ∀ (hd : Hd),
        hd = playB b (bD n g) n →
          Kt Ex.normal (106 : Nat)
            [SV.slice (0 : Nat) (0 : Nat) (2 : Nat) n, SV.bool false, SV.ptr (1 : Nat) (0 : Nat) (7 : Nat) (0 : Nat),
              SV.ptr (2 : Nat) (0 : Nat) (3 : Nat) (0 : Nat), SV.ptr (3 : Nat) (0 : Nat) (3 : Nat) (0 : Nat), SV.top]
            [BO.raw
                (some
                  (Blk.mk (2 : Nat) n (fun r => [SV.int IntKind.i64 (g r (0 : Nat)), SV.int IntKind.i64 (g r (1 : Nat))])
                    false (0 : Nat))),
              BO.rows (7 : Nat) (1 : Nat) true (54 : Nat)
                [[SV.bool hd.sv, SV.int IntKind.i64 hd.e0, SV.int IntKind.i64 hd.e1, SV.int IntKind.i64 hd.e2,
                    SV.bool hd.va, SV.bool hd.cf, SV.bool hd.an]],
              BO.rows (3 : Nat) (1 : Nat) true (35 : Nat) [[SV.bool true, SV.bool false, SV.bool false]],
              BO.rows (3 : Nat) (1 : Nat) true (35 : Nat) [[SV.bool false, SV.bool false, SV.bool false]]]) := by kernel_rfl
theorem p5b (n : Nat) (g : Nat → Nat → Int) (h : Hd) (k0 k1 k2 g0 g1 g2 : Bool) (Kt : KT) : evalC C7 0  1 c5_3 (tplF 106 L5 (v5 n .top)) ((h5 n g h k0 k1 k2 g0 g1 g2).map mkB) ( obsN L5 M5 Kt) = (
    Kt Ex.normal (106 : Nat)
      [SV.slice (0 : Nat) (0 : Nat) (2 : Nat) n, SV.bool false, SV.ptr (1 : Nat) (0 : Nat) (7 : Nat) (0 : Nat),
        SV.ptr (2 : Nat) (0 : Nat) (3 : Nat) (0 : Nat), SV.ptr (3 : Nat) (0 : Nat) (3 : Nat) (0 : Nat),
        SV.int IntKind.i64 (0 : Int)]
      [BO.raw
          (some
            (Blk.mk (2 : Nat) n (fun r => [SV.int IntKind.i64 (g r (0 : Nat)), SV.int IntKind.i64 (g r (1 : Nat))]) false
              (0 : Nat))),
        BO.rows (7 : Nat) (1 : Nat) true (54 : Nat)
          [[SV.bool h.sv, SV.int IntKind.i64 h.e0, SV.int IntKind.i64 h.e1, SV.int IntKind.i64 h.e2, SV.bool h.va,
              SV.bool h.cf, SV.bool h.an]],
        BO.rows (3 : Nat) (1 : Nat) true (35 : Nat) [[SV.bool k0, SV.bool k1, SV.bool k2]],
        BO.rows (3 : Nat) (1 : Nat) true (35 : Nat) [[SV.bool g0, SV.bool g1, SV.bool g2]]]) := by kernel_rfl
theorem p5c (n : Nat) (g : Nat → Nat → Int) (h : Hd) (k0 k1 k2 g0 g1 g2 : Bool) (i : Nat) (Kt : KT) : evalC C8 0  1 c5_4 (tplF 106 L5 (v5 n (.int .i64 i))) ((h5 n g h k0 k1 k2 g0 g1 g2).map mkB) ( obsN L5 M5 Kt) = (
    bif decide ((↑i : Int) < (↑n : Int)) then
      bif decide ((↑i : Int) < (60 : Int)) then
        bif decide ((↑i : Int) < (↑n : Int)) then
          bif decide ((0 : Nat) + (↑i : Int).toNat < n) && true then
            (g ((0 : Nat) + (↑i : Int).toNat) (1 : Nat) % (3 : Int) = (0 : Int) →
                bif decide ((↑i : Int) < (↑n : Int)) then
                  bif decide ((0 : Nat) + (↑i : Int).toNat < n) && true then
                    bif g ((0 : Nat) + (↑i : Int).toNat) (0 : Nat) % (6 : Int) == (0 : Int) then
                      Kt Ex.normal (106 : Nat)
                        [SV.slice (0 : Nat) (0 : Nat) (2 : Nat) n, SV.bool false,
                          SV.ptr (1 : Nat) (0 : Nat) (7 : Nat) (0 : Nat), SV.ptr (2 : Nat) (0 : Nat) (3 : Nat) (0 : Nat),
                          SV.ptr (3 : Nat) (0 : Nat) (3 : Nat) (0 : Nat),
                          SV.int IntKind.i64 (IntKind.i64.wrap ((↑i : Int) + (1 : Int)))]
                        [BO.raw
                            (some
                              (Blk.mk (2 : Nat) n
                                (fun r => [SV.int IntKind.i64 (g r (0 : Nat)), SV.int IntKind.i64 (g r (1 : Nat))]) false
                                (0 : Nat))),
                          BO.rows (7 : Nat) (1 : Nat) true (54 : Nat)
                            [[SV.bool h.sv, SV.int IntKind.i64 h.e0, SV.int IntKind.i64 h.e1, SV.int IntKind.i64 h.e2,
                                SV.bool h.va, SV.bool h.cf, SV.bool h.an]],
                          BO.rows (3 : Nat) (1 : Nat) true (35 : Nat) [[SV.bool true, SV.bool k1, SV.bool k2]],
                          BO.rows (3 : Nat) (1 : Nat) true (35 : Nat) [[SV.bool g0, SV.bool g1, SV.bool g2]]]
                    else
                      bif g ((0 : Nat) + (↑i : Int).toNat) (0 : Nat) % (6 : Int) == (1 : Int) then
                        Kt Ex.normal (106 : Nat)
                          [SV.slice (0 : Nat) (0 : Nat) (2 : Nat) n, SV.bool false,
                            SV.ptr (1 : Nat) (0 : Nat) (7 : Nat) (0 : Nat), SV.ptr (2 : Nat) (0 : Nat) (3 : Nat) (0 : Nat),
                            SV.ptr (3 : Nat) (0 : Nat) (3 : Nat) (0 : Nat),
                            SV.int IntKind.i64 (IntKind.i64.wrap ((↑i : Int) + (1 : Int)))]
                          [BO.raw
                              (some
                                (Blk.mk (2 : Nat) n
                                  (fun r => [SV.int IntKind.i64 (g r (0 : Nat)), SV.int IntKind.i64 (g r (1 : Nat))]) false
                                  (0 : Nat))),
                            BO.rows (7 : Nat) (1 : Nat) true (54 : Nat)
                              [[SV.bool h.sv, SV.int IntKind.i64 h.e0, SV.int IntKind.i64 h.e1, SV.int IntKind.i64 h.e2,
                                  SV.bool h.va, SV.bool h.cf, SV.bool h.an]],
                            BO.rows (3 : Nat) (1 : Nat) true (35 : Nat) [[SV.bool true, SV.bool k1, SV.bool k2]],
                            BO.rows (3 : Nat) (1 : Nat) true (35 : Nat) [[SV.bool g0, SV.bool g1, SV.bool g2]]]
                      else
                        bif g ((0 : Nat) + (↑i : Int).toNat) (0 : Nat) % (6 : Int) == (2 : Int) then
                          bif g0 then
                            Kt Ex.normal (106 : Nat)
                              [SV.slice (0 : Nat) (0 : Nat) (2 : Nat) n, SV.bool false,
                                SV.ptr (1 : Nat) (0 : Nat) (7 : Nat) (0 : Nat),
                                SV.ptr (2 : Nat) (0 : Nat) (3 : Nat) (0 : Nat),
                                SV.ptr (3 : Nat) (0 : Nat) (3 : Nat) (0 : Nat),
                                SV.int IntKind.i64 (IntKind.i64.wrap ((↑i : Int) + (1 : Int)))]
                              [BO.raw
                                  (some
                                    (Blk.mk (2 : Nat) n
                                      (fun r => [SV.int IntKind.i64 (g r (0 : Nat)), SV.int IntKind.i64 (g r (1 : Nat))])
                                      false (0 : Nat))),
                                BO.rows (7 : Nat) (1 : Nat) true (54 : Nat)
                                  [[SV.bool h.sv, SV.int IntKind.i64 h.e0, SV.int IntKind.i64 h.e1, SV.int IntKind.i64 h.e2,
                                      SV.bool h.va, SV.bool h.cf, SV.bool h.an]],
                                BO.rows (3 : Nat) (1 : Nat) true (35 : Nat) [[SV.bool k0, SV.bool k1, SV.bool k2]],
                                BO.rows (3 : Nat) (1 : Nat) true (35 : Nat) [[SV.bool true, SV.bool g1, SV.bool g2]]]
                          else
                            bif k0 then
                              Kt Ex.normal (106 : Nat)
                                [SV.slice (0 : Nat) (0 : Nat) (2 : Nat) n, SV.bool false,
                                  SV.ptr (1 : Nat) (0 : Nat) (7 : Nat) (0 : Nat),
                                  SV.ptr (2 : Nat) (0 : Nat) (3 : Nat) (0 : Nat),
                                  SV.ptr (3 : Nat) (0 : Nat) (3 : Nat) (0 : Nat),
                                  SV.int IntKind.i64 (IntKind.i64.wrap ((↑i : Int) + (1 : Int)))]
                                [BO.raw
                                    (some
                                      (Blk.mk (2 : Nat) n
                                        (fun r => [SV.int IntKind.i64 (g r (0 : Nat)), SV.int IntKind.i64 (g r (1 : Nat))])
                                        false (0 : Nat))),
                                  BO.rows (7 : Nat) (1 : Nat) true (54 : Nat)
                                    [[SV.bool h.sv, SV.int IntKind.i64 h.e0, SV.int IntKind.i64 h.e1,
                                        SV.int IntKind.i64 h.e2, SV.bool h.va, SV.bool h.cf, SV.bool h.an]],
                                  BO.rows (3 : Nat) (1 : Nat) true (35 : Nat) [[SV.bool k0, SV.bool k1, SV.bool k2]],
                                  BO.rows (3 : Nat) (1 : Nat) true (35 : Nat) [[SV.bool true, SV.bool g1, SV.bool g2]]]
                            else
                              Kt Ex.normal (106 : Nat)
                                [SV.slice (0 : Nat) (0 : Nat) (2 : Nat) n, SV.bool false,
                                  SV.ptr (1 : Nat) (0 : Nat) (7 : Nat) (0 : Nat),
                                  SV.ptr (2 : Nat) (0 : Nat) (3 : Nat) (0 : Nat),
                                  SV.ptr (3 : Nat) (0 : Nat) (3 : Nat) (0 : Nat),
                                  SV.int IntKind.i64 (IntKind.i64.wrap ((↑i : Int) + (1 : Int)))]
                                [BO.raw
                                    (some
                                      (Blk.mk (2 : Nat) n
                                        (fun r => [SV.int IntKind.i64 (g r (0 : Nat)), SV.int IntKind.i64 (g r (1 : Nat))])
                                        false (0 : Nat))),
                                  BO.rows (7 : Nat) (1 : Nat) true (54 : Nat)
                                    [[SV.bool h.sv, SV.int IntKind.i64 h.e0, SV.int IntKind.i64 h.e1,
                                        SV.int IntKind.i64 h.e2, SV.bool h.va, SV.bool h.cf, SV.bool h.an]],
                                  BO.rows (3 : Nat) (1 : Nat) true (35 : Nat) [[SV.bool k0, SV.bool k1, SV.bool k2]],
                                  BO.rows (3 : Nat) (1 : Nat) true (35 : Nat) [[SV.bool false, SV.bool g1, SV.bool g2]]]
                        else
                          Kt Ex.normal (106 : Nat)
                            [SV.slice (0 : Nat) (0 : Nat) (2 : Nat) n, SV.bool false,
                              SV.ptr (1 : Nat) (0 : Nat) (7 : Nat) (0 : Nat),
                              SV.ptr (2 : Nat) (0 : Nat) (3 : Nat) (0 : Nat),
                              SV.ptr (3 : Nat) (0 : Nat) (3 : Nat) (0 : Nat),
                              SV.int IntKind.i64 (IntKind.i64.wrap ((↑i : Int) + (1 : Int)))]
                            [BO.raw
                                (some
                                  (Blk.mk (2 : Nat) n
                                    (fun r => [SV.int IntKind.i64 (g r (0 : Nat)), SV.int IntKind.i64 (g r (1 : Nat))])
                                    false (0 : Nat))),
                              BO.rows (7 : Nat) (1 : Nat) true (54 : Nat)
                                [[SV.bool h.sv, SV.int IntKind.i64 h.e0, SV.int IntKind.i64 h.e1, SV.int IntKind.i64 h.e2,
                                    SV.bool h.va, SV.bool h.cf, SV.bool h.an]],
                              BO.rows (3 : Nat) (1 : Nat) true (35 : Nat) [[SV.bool k0, SV.bool k1, SV.bool k2]],
                              BO.rows (3 : Nat) (1 : Nat) true (35 : Nat) [[SV.bool g0, SV.bool g1, SV.bool g2]]]
                  else False
                else False) ∧
              (g ((0 : Nat) + (↑i : Int).toNat) (1 : Nat) % (3 : Int) = (1 : Int) →
                  bif decide ((↑i : Int) < (↑n : Int)) then
                    bif decide ((0 : Nat) + (↑i : Int).toNat < n) && true then
                      bif g ((0 : Nat) + (↑i : Int).toNat) (0 : Nat) % (6 : Int) == (0 : Int) then
                        Kt Ex.normal (106 : Nat)
                          [SV.slice (0 : Nat) (0 : Nat) (2 : Nat) n, SV.bool false,
                            SV.ptr (1 : Nat) (0 : Nat) (7 : Nat) (0 : Nat), SV.ptr (2 : Nat) (0 : Nat) (3 : Nat) (0 : Nat),
                            SV.ptr (3 : Nat) (0 : Nat) (3 : Nat) (0 : Nat),
                            SV.int IntKind.i64 (IntKind.i64.wrap ((↑i : Int) + (1 : Int)))]
                          [BO.raw
                              (some
                                (Blk.mk (2 : Nat) n
                                  (fun r => [SV.int IntKind.i64 (g r (0 : Nat)), SV.int IntKind.i64 (g r (1 : Nat))]) false
                                  (0 : Nat))),
                            BO.rows (7 : Nat) (1 : Nat) true (54 : Nat)
                              [[SV.bool h.sv, SV.int IntKind.i64 h.e0, SV.int IntKind.i64 h.e1, SV.int IntKind.i64 h.e2,
                                  SV.bool h.va, SV.bool h.cf, SV.bool h.an]],
                            BO.rows (3 : Nat) (1 : Nat) true (35 : Nat) [[SV.bool k0, SV.bool true, SV.bool k2]],
                            BO.rows (3 : Nat) (1 : Nat) true (35 : Nat) [[SV.bool g0, SV.bool g1, SV.bool g2]]]
                      else
                        bif g ((0 : Nat) + (↑i : Int).toNat) (0 : Nat) % (6 : Int) == (1 : Int) then
                          Kt Ex.normal (106 : Nat)
                            [SV.slice (0 : Nat) (0 : Nat) (2 : Nat) n, SV.bool false,
                              SV.ptr (1 : Nat) (0 : Nat) (7 : Nat) (0 : Nat),
                              SV.ptr (2 : Nat) (0 : Nat) (3 : Nat) (0 : Nat),
                              SV.ptr (3 : Nat) (0 : Nat) (3 : Nat) (0 : Nat),
                              SV.int IntKind.i64 (IntKind.i64.wrap ((↑i : Int) + (1 : Int)))]
                            [BO.raw
                                (some
                                  (Blk.mk (2 : Nat) n
                                    (fun r => [SV.int IntKind.i64 (g r (0 : Nat)), SV.int IntKind.i64 (g r (1 : Nat))])
                                    false (0 : Nat))),
                              BO.rows (7 : Nat) (1 : Nat) true (54 : Nat)
                                [[SV.bool h.sv, SV.int IntKind.i64 h.e0, SV.int IntKind.i64 h.e1, SV.int IntKind.i64 h.e2,
                                    SV.bool h.va, SV.bool h.cf, SV.bool h.an]],
                              BO.rows (3 : Nat) (1 : Nat) true (35 : Nat) [[SV.bool k0, SV.bool true, SV.bool k2]],
                              BO.rows (3 : Nat) (1 : Nat) true (35 : Nat) [[SV.bool g0, SV.bool g1, SV.bool g2]]]
                        else
                          bif g ((0 : Nat) + (↑i : Int).toNat) (0 : Nat) % (6 : Int) == (2 : Int) then
                            bif g1 then
                              Kt Ex.normal (106 : Nat)
                                [SV.slice (0 : Nat) (0 : Nat) (2 : Nat) n, SV.bool false,
                                  SV.ptr (1 : Nat) (0 : Nat) (7 : Nat) (0 : Nat),
                                  SV.ptr (2 : Nat) (0 : Nat) (3 : Nat) (0 : Nat),
                                  SV.ptr (3 : Nat) (0 : Nat) (3 : Nat) (0 : Nat),
                                  SV.int IntKind.i64 (IntKind.i64.wrap ((↑i : Int) + (1 : Int)))]
                                [BO.raw
                                    (some
                                      (Blk.mk (2 : Nat) n
                                        (fun r => [SV.int IntKind.i64 (g r (0 : Nat)), SV.int IntKind.i64 (g r (1 : Nat))])
                                        false (0 : Nat))),
                                  BO.rows (7 : Nat) (1 : Nat) true (54 : Nat)
                                    [[SV.bool h.sv, SV.int IntKind.i64 h.e0, SV.int IntKind.i64 h.e1,
                                        SV.int IntKind.i64 h.e2, SV.bool h.va, SV.bool h.cf, SV.bool h.an]],
                                  BO.rows (3 : Nat) (1 : Nat) true (35 : Nat) [[SV.bool k0, SV.bool k1, SV.bool k2]],
                                  BO.rows (3 : Nat) (1 : Nat) true (35 : Nat) [[SV.bool g0, SV.bool true, SV.bool g2]]]
                            else
                              bif k1 then
                                Kt Ex.normal (106 : Nat)
                                  [SV.slice (0 : Nat) (0 : Nat) (2 : Nat) n, SV.bool false,
                                    SV.ptr (1 : Nat) (0 : Nat) (7 : Nat) (0 : Nat),
                                    SV.ptr (2 : Nat) (0 : Nat) (3 : Nat) (0 : Nat),
                                    SV.ptr (3 : Nat) (0 : Nat) (3 : Nat) (0 : Nat),
                                    SV.int IntKind.i64 (IntKind.i64.wrap ((↑i : Int) + (1 : Int)))]
                                  [BO.raw
                                      (some
                                        (Blk.mk (2 : Nat) n
                                          (fun r =>
                                            [SV.int IntKind.i64 (g r (0 : Nat)), SV.int IntKind.i64 (g r (1 : Nat))])
                                          false (0 : Nat))),
                                    BO.rows (7 : Nat) (1 : Nat) true (54 : Nat)
                                      [[SV.bool h.sv, SV.int IntKind.i64 h.e0, SV.int IntKind.i64 h.e1,
                                          SV.int IntKind.i64 h.e2, SV.bool h.va, SV.bool h.cf, SV.bool h.an]],
                                    BO.rows (3 : Nat) (1 : Nat) true (35 : Nat) [[SV.bool k0, SV.bool k1, SV.bool k2]],
                                    BO.rows (3 : Nat) (1 : Nat) true (35 : Nat) [[SV.bool g0, SV.bool true, SV.bool g2]]]
                              else
                                Kt Ex.normal (106 : Nat)
                                  [SV.slice (0 : Nat) (0 : Nat) (2 : Nat) n, SV.bool false,
                                    SV.ptr (1 : Nat) (0 : Nat) (7 : Nat) (0 : Nat),
                                    SV.ptr (2 : Nat) (0 : Nat) (3 : Nat) (0 : Nat),
                                    SV.ptr (3 : Nat) (0 : Nat) (3 : Nat) (0 : Nat),
                                    SV.int IntKind.i64 (IntKind.i64.wrap ((↑i : Int) + (1 : Int)))]
                                  [BO.raw
                                      (some
                                        (Blk.mk (2 : Nat) n
                                          (fun r =>
                                            [SV.int IntKind.i64 (g r (0 : Nat)), SV.int IntKind.i64 (g r (1 : Nat))])
                                          false (0 : Nat))),
                                    BO.rows (7 : Nat) (1 : Nat) true (54 : Nat)
                                      [[SV.bool h.sv, SV.int IntKind.i64 h.e0, SV.int IntKind.i64 h.e1,
                                          SV.int IntKind.i64 h.e2, SV.bool h.va, SV.bool h.cf, SV.bool h.an]],
                                    BO.rows (3 : Nat) (1 : Nat) true (35 : Nat) [[SV.bool k0, SV.bool k1, SV.bool k2]],
                                    BO.rows (3 : Nat) (1 : Nat) true (35 : Nat) [[SV.bool g0, SV.bool false, SV.bool g2]]]
                          else
                            Kt Ex.normal (106 : Nat)
                              [SV.slice (0 : Nat) (0 : Nat) (2 : Nat) n, SV.bool false,
                                SV.ptr (1 : Nat) (0 : Nat) (7 : Nat) (0 : Nat),
                                SV.ptr (2 : Nat) (0 : Nat) (3 : Nat) (0 : Nat),
                                SV.ptr (3 : Nat) (0 : Nat) (3 : Nat) (0 : Nat),
                                SV.int IntKind.i64 (IntKind.i64.wrap ((↑i : Int) + (1 : Int)))]
                              [BO.raw
                                  (some
                                    (Blk.mk (2 : Nat) n
                                      (fun r => [SV.int IntKind.i64 (g r (0 : Nat)), SV.int IntKind.i64 (g r (1 : Nat))])
                                      false (0 : Nat))),
                                BO.rows (7 : Nat) (1 : Nat) true (54 : Nat)
                                  [[SV.bool h.sv, SV.int IntKind.i64 h.e0, SV.int IntKind.i64 h.e1, SV.int IntKind.i64 h.e2,
                                      SV.bool h.va, SV.bool h.cf, SV.bool h.an]],
                                BO.rows (3 : Nat) (1 : Nat) true (35 : Nat) [[SV.bool k0, SV.bool k1, SV.bool k2]],
                                BO.rows (3 : Nat) (1 : Nat) true (35 : Nat) [[SV.bool g0, SV.bool g1, SV.bool g2]]]
                    else False
                  else False) ∧
                (g ((0 : Nat) + (↑i : Int).toNat) (1 : Nat) % (3 : Int) = (2 : Int) →
                  bif decide ((↑i : Int) < (↑n : Int)) then
                    bif decide ((0 : Nat) + (↑i : Int).toNat < n) && true then
                      bif g ((0 : Nat) + (↑i : Int).toNat) (0 : Nat) % (6 : Int) == (0 : Int) then
                        Kt Ex.normal (106 : Nat)
                          [SV.slice (0 : Nat) (0 : Nat) (2 : Nat) n, SV.bool false,
                            SV.ptr (1 : Nat) (0 : Nat) (7 : Nat) (0 : Nat), SV.ptr (2 : Nat) (0 : Nat) (3 : Nat) (0 : Nat),
                            SV.ptr (3 : Nat) (0 : Nat) (3 : Nat) (0 : Nat),
                            SV.int IntKind.i64 (IntKind.i64.wrap ((↑i : Int) + (1 : Int)))]
                          [BO.raw
                              (some
                                (Blk.mk (2 : Nat) n
                                  (fun r => [SV.int IntKind.i64 (g r (0 : Nat)), SV.int IntKind.i64 (g r (1 : Nat))]) false
                                  (0 : Nat))),
                            BO.rows (7 : Nat) (1 : Nat) true (54 : Nat)
                              [[SV.bool h.sv, SV.int IntKind.i64 h.e0, SV.int IntKind.i64 h.e1, SV.int IntKind.i64 h.e2,
                                  SV.bool h.va, SV.bool h.cf, SV.bool h.an]],
                            BO.rows (3 : Nat) (1 : Nat) true (35 : Nat) [[SV.bool k0, SV.bool k1, SV.bool true]],
                            BO.rows (3 : Nat) (1 : Nat) true (35 : Nat) [[SV.bool g0, SV.bool g1, SV.bool g2]]]
                      else
                        bif g ((0 : Nat) + (↑i : Int).toNat) (0 : Nat) % (6 : Int) == (1 : Int) then
                          Kt Ex.normal (106 : Nat)
                            [SV.slice (0 : Nat) (0 : Nat) (2 : Nat) n, SV.bool false,
                              SV.ptr (1 : Nat) (0 : Nat) (7 : Nat) (0 : Nat),
                              SV.ptr (2 : Nat) (0 : Nat) (3 : Nat) (0 : Nat),
                              SV.ptr (3 : Nat) (0 : Nat) (3 : Nat) (0 : Nat),
                              SV.int IntKind.i64 (IntKind.i64.wrap ((↑i : Int) + (1 : Int)))]
                            [BO.raw
                                (some
                                  (Blk.mk (2 : Nat) n
                                    (fun r => [SV.int IntKind.i64 (g r (0 : Nat)), SV.int IntKind.i64 (g r (1 : Nat))])
                                    false (0 : Nat))),
                              BO.rows (7 : Nat) (1 : Nat) true (54 : Nat)
                                [[SV.bool h.sv, SV.int IntKind.i64 h.e0, SV.int IntKind.i64 h.e1, SV.int IntKind.i64 h.e2,
                                    SV.bool h.va, SV.bool h.cf, SV.bool h.an]],
                              BO.rows (3 : Nat) (1 : Nat) true (35 : Nat) [[SV.bool k0, SV.bool k1, SV.bool true]],
                              BO.rows (3 : Nat) (1 : Nat) true (35 : Nat) [[SV.bool g0, SV.bool g1, SV.bool g2]]]
                        else
                          bif g ((0 : Nat) + (↑i : Int).toNat) (0 : Nat) % (6 : Int) == (2 : Int) then
                            bif g2 then
                              Kt Ex.normal (106 : Nat)
                                [SV.slice (0 : Nat) (0 : Nat) (2 : Nat) n, SV.bool false,
                                  SV.ptr (1 : Nat) (0 : Nat) (7 : Nat) (0 : Nat),
                                  SV.ptr (2 : Nat) (0 : Nat) (3 : Nat) (0 : Nat),
                                  SV.ptr (3 : Nat) (0 : Nat) (3 : Nat) (0 : Nat),
                                  SV.int IntKind.i64 (IntKind.i64.wrap ((↑i : Int) + (1 : Int)))]
                                [BO.raw
                                    (some
                                      (Blk.mk (2 : Nat) n
                                        (fun r => [SV.int IntKind.i64 (g r (0 : Nat)), SV.int IntKind.i64 (g r (1 : Nat))])
                                        false (0 : Nat))),
                                  BO.rows (7 : Nat) (1 : Nat) true (54 : Nat)
                                    [[SV.bool h.sv, SV.int IntKind.i64 h.e0, SV.int IntKind.i64 h.e1,
                                        SV.int IntKind.i64 h.e2, SV.bool h.va, SV.bool h.cf, SV.bool h.an]],
                                  BO.rows (3 : Nat) (1 : Nat) true (35 : Nat) [[SV.bool k0, SV.bool k1, SV.bool k2]],
                                  BO.rows (3 : Nat) (1 : Nat) true (35 : Nat) [[SV.bool g0, SV.bool g1, SV.bool true]]]
                            else
                              bif k2 then
                                Kt Ex.normal (106 : Nat)
                                  [SV.slice (0 : Nat) (0 : Nat) (2 : Nat) n, SV.bool false,
                                    SV.ptr (1 : Nat) (0 : Nat) (7 : Nat) (0 : Nat),
                                    SV.ptr (2 : Nat) (0 : Nat) (3 : Nat) (0 : Nat),
                                    SV.ptr (3 : Nat) (0 : Nat) (3 : Nat) (0 : Nat),
                                    SV.int IntKind.i64 (IntKind.i64.wrap ((↑i : Int) + (1 : Int)))]
                                  [BO.raw
                                      (some
                                        (Blk.mk (2 : Nat) n
                                          (fun r =>
                                            [SV.int IntKind.i64 (g r (0 : Nat)), SV.int IntKind.i64 (g r (1 : Nat))])
                                          false (0 : Nat))),
                                    BO.rows (7 : Nat) (1 : Nat) true (54 : Nat)
                                      [[SV.bool h.sv, SV.int IntKind.i64 h.e0, SV.int IntKind.i64 h.e1,
                                          SV.int IntKind.i64 h.e2, SV.bool h.va, SV.bool h.cf, SV.bool h.an]],
                                    BO.rows (3 : Nat) (1 : Nat) true (35 : Nat) [[SV.bool k0, SV.bool k1, SV.bool k2]],
                                    BO.rows (3 : Nat) (1 : Nat) true (35 : Nat) [[SV.bool g0, SV.bool g1, SV.bool false]]]
                              else
                                Kt Ex.normal (106 : Nat)
                                  [SV.slice (0 : Nat) (0 : Nat) (2 : Nat) n, SV.bool false,
                                    SV.ptr (1 : Nat) (0 : Nat) (7 : Nat) (0 : Nat),
                                    SV.ptr (2 : Nat) (0 : Nat) (3 : Nat) (0 : Nat),
                                    SV.ptr (3 : Nat) (0 : Nat) (3 : Nat) (0 : Nat),
                                    SV.int IntKind.i64 (IntKind.i64.wrap ((↑i : Int) + (1 : Int)))]
                                  [BO.raw
                                      (some
                                        (Blk.mk (2 : Nat) n
                                          (fun r =>
                                            [SV.int IntKind.i64 (g r (0 : Nat)), SV.int IntKind.i64 (g r (1 : Nat))])
                                          false (0 : Nat))),
                                    BO.rows (7 : Nat) (1 : Nat) true (54 : Nat)
                                      [[SV.bool h.sv, SV.int IntKind.i64 h.e0, SV.int IntKind.i64 h.e1,
                                          SV.int IntKind.i64 h.e2, SV.bool h.va, SV.bool h.cf, SV.bool h.an]],
                                    BO.rows (3 : Nat) (1 : Nat) true (35 : Nat) [[SV.bool k0, SV.bool k1, SV.bool k2]],
                                    BO.rows (3 : Nat) (1 : Nat) true (35 : Nat) [[SV.bool g0, SV.bool g1, SV.bool false]]]
                          else
                            Kt Ex.normal (106 : Nat)
                              [SV.slice (0 : Nat) (0 : Nat) (2 : Nat) n, SV.bool false,
                                SV.ptr (1 : Nat) (0 : Nat) (7 : Nat) (0 : Nat),
                                SV.ptr (2 : Nat) (0 : Nat) (3 : Nat) (0 : Nat),
                                SV.ptr (3 : Nat) (0 : Nat) (3 : Nat) (0 : Nat),
                                SV.int IntKind.i64 (IntKind.i64.wrap ((↑i : Int) + (1 : Int)))]
                              [BO.raw
                                  (some
                                    (Blk.mk (2 : Nat) n
                                      (fun r => [SV.int IntKind.i64 (g r (0 : Nat)), SV.int IntKind.i64 (g r (1 : Nat))])
                                      false (0 : Nat))),
                                BO.rows (7 : Nat) (1 : Nat) true (54 : Nat)
                                  [[SV.bool h.sv, SV.int IntKind.i64 h.e0, SV.int IntKind.i64 h.e1, SV.int IntKind.i64 h.e2,
                                      SV.bool h.va, SV.bool h.cf, SV.bool h.an]],
                                BO.rows (3 : Nat) (1 : Nat) true (35 : Nat) [[SV.bool k0, SV.bool k1, SV.bool k2]],
                                BO.rows (3 : Nat) (1 : Nat) true (35 : Nat) [[SV.bool g0, SV.bool g1, SV.bool g2]]]
                    else False
                  else False)
          else False
        else False
      else
        Kt (Ex.exit (0 : Nat)) (106 : Nat)
          [SV.slice (0 : Nat) (0 : Nat) (2 : Nat) n, SV.bool false, SV.ptr (1 : Nat) (0 : Nat) (7 : Nat) (0 : Nat),
            SV.ptr (2 : Nat) (0 : Nat) (3 : Nat) (0 : Nat), SV.ptr (3 : Nat) (0 : Nat) (3 : Nat) (0 : Nat),
            SV.int IntKind.i64 (↑i : Int)]
          [BO.raw
              (some
                (Blk.mk (2 : Nat) n (fun r => [SV.int IntKind.i64 (g r (0 : Nat)), SV.int IntKind.i64 (g r (1 : Nat))])
                  false (0 : Nat))),
            BO.rows (7 : Nat) (1 : Nat) true (54 : Nat)
              [[SV.bool h.sv, SV.int IntKind.i64 h.e0, SV.int IntKind.i64 h.e1, SV.int IntKind.i64 h.e2, SV.bool h.va,
                  SV.bool h.cf, SV.bool h.an]],
            BO.rows (3 : Nat) (1 : Nat) true (35 : Nat) [[SV.bool k0, SV.bool k1, SV.bool k2]],
            BO.rows (3 : Nat) (1 : Nat) true (35 : Nat) [[SV.bool g0, SV.bool g1, SV.bool g2]]]
    else
      Kt (Ex.exit (0 : Nat)) (106 : Nat)
        [SV.slice (0 : Nat) (0 : Nat) (2 : Nat) n, SV.bool false, SV.ptr (1 : Nat) (0 : Nat) (7 : Nat) (0 : Nat),
          SV.ptr (2 : Nat) (0 : Nat) (3 : Nat) (0 : Nat), SV.ptr (3 : Nat) (0 : Nat) (3 : Nat) (0 : Nat),
          SV.int IntKind.i64 (↑i : Int)]
        [BO.raw
            (some
              (Blk.mk (2 : Nat) n (fun r => [SV.int IntKind.i64 (g r (0 : Nat)), SV.int IntKind.i64 (g r (1 : Nat))]) false
                (0 : Nat))),
          BO.rows (7 : Nat) (1 : Nat) true (54 : Nat)
            [[SV.bool h.sv, SV.int IntKind.i64 h.e0, SV.int IntKind.i64 h.e1, SV.int IntKind.i64 h.e2, SV.bool h.va,
                SV.bool h.cf, SV.bool h.an]],
          BO.rows (3 : Nat) (1 : Nat) true (35 : Nat) [[SV.bool k0, SV.bool k1, SV.bool k2]],
          BO.rows (3 : Nat) (1 : Nat) true (35 : Nat) [[SV.bool g0, SV.bool g1, SV.bool g2]]]) := by kernel_rfl
theorem t5e (b : Bool) (kk : SV → Prop) : evalF C7 64 Try.f5 [.bool b, .eslice] [] (fun v _ => kk v) = (
    kk (SV.bool true)) := by kernel_rfl
theorem p7a (b : Bool) (n : Nat) (g : Nat → Nat → Int) (Kt : KT) : evalC C7 0  1 (.seq c7_0 (.seq c7_1 (.seq c7_2 .skip))) (enterS 115 [.bool b, .slice 0 0 2 n]) [some (bD n g)] ( obsN L7 [false, true] Kt) = (
    Kt Ex.normal (115 : Nat)
      [SV.slice (0 : Nat) (0 : Nat) (2 : Nat) n, SV.bool false, SV.ptr (1 : Nat) (0 : Nat) (7 : Nat) (0 : Nat), SV.top,
        SV.top, SV.top]
      [BO.raw
          (some
            (Blk.mk (2 : Nat) n (fun r => [SV.int IntKind.i64 (g r (0 : Nat)), SV.int IntKind.i64 (g r (1 : Nat))]) false
              (0 : Nat))),
        BO.rows (7 : Nat) (1 : Nat) true (54 : Nat)
          [[SV.bool b, SV.int IntKind.i64 (1 : Int), SV.int IntKind.i64 (0 : Int), SV.int IntKind.i64 (0 : Int), SV.bool !b,
              SV.bool false, SV.bool false]]]) := by kernel_rfl
theorem p7_3 (n : Nat) (g : Nat → Nat → Int) (h : Hd) (Kt : KT) : evalC C7 0  1 c7_3 (tplF 115 L7 (v7 n .top .top .top)) ((h7 n g h).map mkB) ( obsN L7 [false, true] Kt) = (
    Kt Ex.normal (115 : Nat)
      [SV.slice (0 : Nat) (0 : Nat) (2 : Nat) n, SV.bool false, SV.ptr (1 : Nat) (0 : Nat) (7 : Nat) (0 : Nat),
        SV.int IntKind.i64 (0 : Int), SV.top, SV.top]
      [BO.raw
          (some
            (Blk.mk (2 : Nat) n (fun r => [SV.int IntKind.i64 (g r (0 : Nat)), SV.int IntKind.i64 (g r (1 : Nat))]) false
              (0 : Nat))),
        BO.rows (7 : Nat) (1 : Nat) true (54 : Nat)
          [[SV.bool h.sv, SV.int IntKind.i64 h.e0, SV.int IntKind.i64 h.e1, SV.int IntKind.i64 h.e2, SV.bool h.va,
              SV.bool h.cf, SV.bool h.an]]]) := by kernel_rfl
theorem p7_4 (n : Nat) (g : Nat → Nat → Int) (h : Hd) (i : Nat) (Kt : KT) : evalC C7 0  1 c7_4 (tplF 115 L7 (v7 n (.int .i64 i) .top .top)) ((h7 n g h).map mkB) ( obsN L7 [false, true] Kt) = (
    bif decide ((↑i : Int) < (↑n : Int)) then
      bif decide ((↑i : Int) < (60 : Int)) then
        Kt Ex.normal (115 : Nat)
          [SV.slice (0 : Nat) (0 : Nat) (2 : Nat) n, SV.bool false, SV.ptr (1 : Nat) (0 : Nat) (7 : Nat) (0 : Nat),
            SV.int IntKind.i64 (↑i : Int), SV.top, SV.top]
          [BO.raw
              (some
                (Blk.mk (2 : Nat) n (fun r => [SV.int IntKind.i64 (g r (0 : Nat)), SV.int IntKind.i64 (g r (1 : Nat))])
                  false (0 : Nat))),
            BO.rows (7 : Nat) (1 : Nat) true (54 : Nat)
              [[SV.bool h.sv, SV.int IntKind.i64 h.e0, SV.int IntKind.i64 h.e1, SV.int IntKind.i64 h.e2, SV.bool h.va,
                  SV.bool h.cf, SV.bool h.an]]]
      else
        Kt (Ex.exit (0 : Nat)) (115 : Nat)
          [SV.slice (0 : Nat) (0 : Nat) (2 : Nat) n, SV.bool false, SV.ptr (1 : Nat) (0 : Nat) (7 : Nat) (0 : Nat),
            SV.int IntKind.i64 (↑i : Int), SV.top, SV.top]
          [BO.raw
              (some
                (Blk.mk (2 : Nat) n (fun r => [SV.int IntKind.i64 (g r (0 : Nat)), SV.int IntKind.i64 (g r (1 : Nat))])
                  false (0 : Nat))),
            BO.rows (7 : Nat) (1 : Nat) true (54 : Nat)
              [[SV.bool h.sv, SV.int IntKind.i64 h.e0, SV.int IntKind.i64 h.e1, SV.int IntKind.i64 h.e2, SV.bool h.va,
                  SV.bool h.cf, SV.bool h.an]]]
    else
      Kt (Ex.exit (0 : Nat)) (115 : Nat)
        [SV.slice (0 : Nat) (0 : Nat) (2 : Nat) n, SV.bool false, SV.ptr (1 : Nat) (0 : Nat) (7 : Nat) (0 : Nat),
          SV.int IntKind.i64 (↑i : Int), SV.top, SV.top]
        [BO.raw
            (some
              (Blk.mk (2 : Nat) n (fun r => [SV.int IntKind.i64 (g r (0 : Nat)), SV.int IntKind.i64 (g r (1 : Nat))]) false
                (0 : Nat))),
          BO.rows (7 : Nat) (1 : Nat) true (54 : Nat)
            [[SV.bool h.sv, SV.int IntKind.i64 h.e0, SV.int IntKind.i64 h.e1, SV.int IntKind.i64 h.e2, SV.bool h.va,
                SV.bool h.cf, SV.bool h.an]]]) := by kernel_rfl
theorem p7_5 (n : Nat) (g : Nat → Nat → Int) (h : Hd) (i : Nat) (Kt : KT) : evalC C7 0  1 (.seq c7_5 (.seq c7_6 (.seq c7_7 .skip))) (tplF 115 L7 (v7 n (.int .i64 i) .top .top)) ((h7 n g h).map mkB) ( obsN L7 [false, true, true] Kt) = (
    bif nothV (Hd.mk h.sv h.e0 h.e1 h.e2 h.va h.cf h.an) then False
    else
      bif decide ((↑i : Int) < (↑n : Int)) then
        bif decide ((0 : Nat) + (↑i : Int).toNat < n) && true then
          ∀ (h' : Hd) (e : Int),
            h' =
                callH (Hd.mk h.sv h.e0 h.e1 h.e2 h.va h.cf h.an) (g ((0 : Nat) + (↑i : Int).toNat) (0 : Nat))
                  (g ((0 : Nat) + (↑i : Int).toNat) (1 : Nat)) →
              e =
                  callE (Hd.mk h.sv h.e0 h.e1 h.e2 h.va h.cf h.an) (g ((0 : Nat) + (↑i : Int).toNat) (0 : Nat))
                    (g ((0 : Nat) + (↑i : Int).toNat) (1 : Nat)) →
                Kt Ex.normal (115 : Nat)
                  [SV.slice (0 : Nat) (0 : Nat) (2 : Nat) n, SV.bool false, SV.ptr (1 : Nat) (0 : Nat) (7 : Nat) (0 : Nat),
                    SV.int IntKind.i64 (↑i : Int), SV.ptr (2 : Nat) (0 : Nat) (7 : Nat) (0 : Nat), SV.top]
                  [BO.raw
                      (some
                        (Blk.mk (2 : Nat) n
                          (fun r => [SV.int IntKind.i64 (g r (0 : Nat)), SV.int IntKind.i64 (g r (1 : Nat))]) false
                          (0 : Nat))),
                    BO.rows (7 : Nat) (1 : Nat) true (54 : Nat)
                      [[SV.bool h'.sv, SV.int IntKind.i64 h'.e0, SV.int IntKind.i64 h'.e1, SV.int IntKind.i64 h'.e2,
                          SV.bool h'.va, SV.bool h'.cf, SV.bool h'.an]],
                    BO.rows (7 : Nat) (1 : Nat) true (54 : Nat)
                      [[SV.bool h.sv, SV.int IntKind.i64 h.e0, SV.int IntKind.i64 h.e1, SV.int IntKind.i64 h.e2,
                          SV.bool h.va, SV.bool h.cf, SV.bool h.an]]]
        else False
      else False) := by kernel_rfl
theorem p7_8 (n : Nat) (g : Nat → Nat → Int) (h w : Hd) (i : Nat) (Kt : KT) : evalC C7 0  1 c7_8 (tplF 115 L7 (v7 n (.int .i64 i) (.ptr 2 0 7 0) .top)) ((h7w n g h w).map mkB) ( obsN L7 [false, true, true] Kt) = (
    Kt Ex.normal (115 : Nat)
      [SV.slice (0 : Nat) (0 : Nat) (2 : Nat) n, SV.bool false, SV.ptr (1 : Nat) (0 : Nat) (7 : Nat) (0 : Nat),
        SV.int IntKind.i64 (↑i : Int), SV.ptr (2 : Nat) (0 : Nat) (7 : Nat) (0 : Nat), SV.int IntKind.i64 (0 : Int)]
      [BO.raw
          (some
            (Blk.mk (2 : Nat) n (fun r => [SV.int IntKind.i64 (g r (0 : Nat)), SV.int IntKind.i64 (g r (1 : Nat))]) false
              (0 : Nat))),
        BO.rows (7 : Nat) (1 : Nat) true (54 : Nat)
          [[SV.bool h.sv, SV.int IntKind.i64 h.e0, SV.int IntKind.i64 h.e1, SV.int IntKind.i64 h.e2, SV.bool h.va,
              SV.bool h.cf, SV.bool h.an]],
        BO.rows (7 : Nat) (1 : Nat) true (54 : Nat)
          [[SV.bool w.sv, SV.int IntKind.i64 w.e0, SV.int IntKind.i64 w.e1, SV.int IntKind.i64 w.e2, SV.bool w.va,
              SV.bool w.cf, SV.bool w.an]]]) := by kernel_rfl
theorem p7_9 (n : Nat) (g : Nat → Nat → Int) (h w : Hd) (i : Nat) (s : Nat) (Kt : KT) : evalC C7 0  1 c7_9 (tplF 115 L7 (v7 n (.int .i64 i) (.ptr 2 0 7 0) (.int .i64 s))) ((h7w n g h w).map mkB) ( obsN L7 [false, true, true] Kt) = (
    bif decide ((↑s : Int) < (3 : Int)) then
      bif hasV (Hd.mk w.sv w.e0 w.e1 w.e2 w.va w.cf w.an) (↑s : Int) then
        bif !hasV (Hd.mk h.sv h.e0 h.e1 h.e2 h.va h.cf h.an) (↑s : Int) then False
        else
          bif hasV (Hd.mk w.sv w.e0 w.e1 w.e2 w.va w.cf w.an) (↑s : Int) then
            bif !livesV (Hd.mk w.sv w.e0 w.e1 w.e2 w.va w.cf w.an) (↑s : Int) then
              bif livesV (Hd.mk h.sv h.e0 h.e1 h.e2 h.va h.cf h.an) (↑s : Int) then False
              else
                bif livesV (Hd.mk h.sv h.e0 h.e1 h.e2 h.va h.cf h.an) (↑s : Int) then
                  bif !hasV (Hd.mk h.sv h.e0 h.e1 h.e2 h.va h.cf h.an) (↑s : Int) then False
                  else
                    Kt Ex.normal (115 : Nat)
                      [SV.slice (0 : Nat) (0 : Nat) (2 : Nat) n, SV.bool false,
                        SV.ptr (1 : Nat) (0 : Nat) (7 : Nat) (0 : Nat), SV.int IntKind.i64 (↑i : Int),
                        SV.ptr (2 : Nat) (0 : Nat) (7 : Nat) (0 : Nat),
                        SV.int IntKind.i64 (IntKind.i64.wrap ((↑s : Int) + (1 : Int)))]
                      [BO.raw
                          (some
                            (Blk.mk (2 : Nat) n
                              (fun r => [SV.int IntKind.i64 (g r (0 : Nat)), SV.int IntKind.i64 (g r (1 : Nat))]) false
                              (0 : Nat))),
                        BO.rows (7 : Nat) (1 : Nat) true (54 : Nat)
                          [[SV.bool h.sv, SV.int IntKind.i64 h.e0, SV.int IntKind.i64 h.e1, SV.int IntKind.i64 h.e2,
                              SV.bool h.va, SV.bool h.cf, SV.bool h.an]],
                        BO.rows (7 : Nat) (1 : Nat) true (54 : Nat)
                          [[SV.bool w.sv, SV.int IntKind.i64 w.e0, SV.int IntKind.i64 w.e1, SV.int IntKind.i64 w.e2,
                              SV.bool w.va, SV.bool w.cf, SV.bool w.an]]]
                else
                  Kt Ex.normal (115 : Nat)
                    [SV.slice (0 : Nat) (0 : Nat) (2 : Nat) n, SV.bool false,
                      SV.ptr (1 : Nat) (0 : Nat) (7 : Nat) (0 : Nat), SV.int IntKind.i64 (↑i : Int),
                      SV.ptr (2 : Nat) (0 : Nat) (7 : Nat) (0 : Nat),
                      SV.int IntKind.i64 (IntKind.i64.wrap ((↑s : Int) + (1 : Int)))]
                    [BO.raw
                        (some
                          (Blk.mk (2 : Nat) n
                            (fun r => [SV.int IntKind.i64 (g r (0 : Nat)), SV.int IntKind.i64 (g r (1 : Nat))]) false
                            (0 : Nat))),
                      BO.rows (7 : Nat) (1 : Nat) true (54 : Nat)
                        [[SV.bool h.sv, SV.int IntKind.i64 h.e0, SV.int IntKind.i64 h.e1, SV.int IntKind.i64 h.e2,
                            SV.bool h.va, SV.bool h.cf, SV.bool h.an]],
                      BO.rows (7 : Nat) (1 : Nat) true (54 : Nat)
                        [[SV.bool w.sv, SV.int IntKind.i64 w.e0, SV.int IntKind.i64 w.e1, SV.int IntKind.i64 w.e2,
                            SV.bool w.va, SV.bool w.cf, SV.bool w.an]]]
            else
              bif livesV (Hd.mk h.sv h.e0 h.e1 h.e2 h.va h.cf h.an) (↑s : Int) then
                bif !hasV (Hd.mk h.sv h.e0 h.e1 h.e2 h.va h.cf h.an) (↑s : Int) then False
                else
                  Kt Ex.normal (115 : Nat)
                    [SV.slice (0 : Nat) (0 : Nat) (2 : Nat) n, SV.bool false,
                      SV.ptr (1 : Nat) (0 : Nat) (7 : Nat) (0 : Nat), SV.int IntKind.i64 (↑i : Int),
                      SV.ptr (2 : Nat) (0 : Nat) (7 : Nat) (0 : Nat),
                      SV.int IntKind.i64 (IntKind.i64.wrap ((↑s : Int) + (1 : Int)))]
                    [BO.raw
                        (some
                          (Blk.mk (2 : Nat) n
                            (fun r => [SV.int IntKind.i64 (g r (0 : Nat)), SV.int IntKind.i64 (g r (1 : Nat))]) false
                            (0 : Nat))),
                      BO.rows (7 : Nat) (1 : Nat) true (54 : Nat)
                        [[SV.bool h.sv, SV.int IntKind.i64 h.e0, SV.int IntKind.i64 h.e1, SV.int IntKind.i64 h.e2,
                            SV.bool h.va, SV.bool h.cf, SV.bool h.an]],
                      BO.rows (7 : Nat) (1 : Nat) true (54 : Nat)
                        [[SV.bool w.sv, SV.int IntKind.i64 w.e0, SV.int IntKind.i64 w.e1, SV.int IntKind.i64 w.e2,
                            SV.bool w.va, SV.bool w.cf, SV.bool w.an]]]
              else
                Kt Ex.normal (115 : Nat)
                  [SV.slice (0 : Nat) (0 : Nat) (2 : Nat) n, SV.bool false, SV.ptr (1 : Nat) (0 : Nat) (7 : Nat) (0 : Nat),
                    SV.int IntKind.i64 (↑i : Int), SV.ptr (2 : Nat) (0 : Nat) (7 : Nat) (0 : Nat),
                    SV.int IntKind.i64 (IntKind.i64.wrap ((↑s : Int) + (1 : Int)))]
                  [BO.raw
                      (some
                        (Blk.mk (2 : Nat) n
                          (fun r => [SV.int IntKind.i64 (g r (0 : Nat)), SV.int IntKind.i64 (g r (1 : Nat))]) false
                          (0 : Nat))),
                    BO.rows (7 : Nat) (1 : Nat) true (54 : Nat)
                      [[SV.bool h.sv, SV.int IntKind.i64 h.e0, SV.int IntKind.i64 h.e1, SV.int IntKind.i64 h.e2,
                          SV.bool h.va, SV.bool h.cf, SV.bool h.an]],
                    BO.rows (7 : Nat) (1 : Nat) true (54 : Nat)
                      [[SV.bool w.sv, SV.int IntKind.i64 w.e0, SV.int IntKind.i64 w.e1, SV.int IntKind.i64 w.e2,
                          SV.bool w.va, SV.bool w.cf, SV.bool w.an]]]
          else
            bif livesV (Hd.mk h.sv h.e0 h.e1 h.e2 h.va h.cf h.an) (↑s : Int) then
              bif !hasV (Hd.mk h.sv h.e0 h.e1 h.e2 h.va h.cf h.an) (↑s : Int) then False
              else
                Kt Ex.normal (115 : Nat)
                  [SV.slice (0 : Nat) (0 : Nat) (2 : Nat) n, SV.bool false, SV.ptr (1 : Nat) (0 : Nat) (7 : Nat) (0 : Nat),
                    SV.int IntKind.i64 (↑i : Int), SV.ptr (2 : Nat) (0 : Nat) (7 : Nat) (0 : Nat),
                    SV.int IntKind.i64 (IntKind.i64.wrap ((↑s : Int) + (1 : Int)))]
                  [BO.raw
                      (some
                        (Blk.mk (2 : Nat) n
                          (fun r => [SV.int IntKind.i64 (g r (0 : Nat)), SV.int IntKind.i64 (g r (1 : Nat))]) false
                          (0 : Nat))),
                    BO.rows (7 : Nat) (1 : Nat) true (54 : Nat)
                      [[SV.bool h.sv, SV.int IntKind.i64 h.e0, SV.int IntKind.i64 h.e1, SV.int IntKind.i64 h.e2,
                          SV.bool h.va, SV.bool h.cf, SV.bool h.an]],
                    BO.rows (7 : Nat) (1 : Nat) true (54 : Nat)
                      [[SV.bool w.sv, SV.int IntKind.i64 w.e0, SV.int IntKind.i64 w.e1, SV.int IntKind.i64 w.e2,
                          SV.bool w.va, SV.bool w.cf, SV.bool w.an]]]
            else
              Kt Ex.normal (115 : Nat)
                [SV.slice (0 : Nat) (0 : Nat) (2 : Nat) n, SV.bool false, SV.ptr (1 : Nat) (0 : Nat) (7 : Nat) (0 : Nat),
                  SV.int IntKind.i64 (↑i : Int), SV.ptr (2 : Nat) (0 : Nat) (7 : Nat) (0 : Nat),
                  SV.int IntKind.i64 (IntKind.i64.wrap ((↑s : Int) + (1 : Int)))]
                [BO.raw
                    (some
                      (Blk.mk (2 : Nat) n
                        (fun r => [SV.int IntKind.i64 (g r (0 : Nat)), SV.int IntKind.i64 (g r (1 : Nat))]) false
                        (0 : Nat))),
                  BO.rows (7 : Nat) (1 : Nat) true (54 : Nat)
                    [[SV.bool h.sv, SV.int IntKind.i64 h.e0, SV.int IntKind.i64 h.e1, SV.int IntKind.i64 h.e2, SV.bool h.va,
                        SV.bool h.cf, SV.bool h.an]],
                  BO.rows (7 : Nat) (1 : Nat) true (54 : Nat)
                    [[SV.bool w.sv, SV.int IntKind.i64 w.e0, SV.int IntKind.i64 w.e1, SV.int IntKind.i64 w.e2, SV.bool w.va,
                        SV.bool w.cf, SV.bool w.an]]]
      else
        bif hasV (Hd.mk w.sv w.e0 w.e1 w.e2 w.va w.cf w.an) (↑s : Int) then
          bif !livesV (Hd.mk w.sv w.e0 w.e1 w.e2 w.va w.cf w.an) (↑s : Int) then
            bif livesV (Hd.mk h.sv h.e0 h.e1 h.e2 h.va h.cf h.an) (↑s : Int) then False
            else
              bif livesV (Hd.mk h.sv h.e0 h.e1 h.e2 h.va h.cf h.an) (↑s : Int) then
                bif !hasV (Hd.mk h.sv h.e0 h.e1 h.e2 h.va h.cf h.an) (↑s : Int) then False
                else
                  Kt Ex.normal (115 : Nat)
                    [SV.slice (0 : Nat) (0 : Nat) (2 : Nat) n, SV.bool false,
                      SV.ptr (1 : Nat) (0 : Nat) (7 : Nat) (0 : Nat), SV.int IntKind.i64 (↑i : Int),
                      SV.ptr (2 : Nat) (0 : Nat) (7 : Nat) (0 : Nat),
                      SV.int IntKind.i64 (IntKind.i64.wrap ((↑s : Int) + (1 : Int)))]
                    [BO.raw
                        (some
                          (Blk.mk (2 : Nat) n
                            (fun r => [SV.int IntKind.i64 (g r (0 : Nat)), SV.int IntKind.i64 (g r (1 : Nat))]) false
                            (0 : Nat))),
                      BO.rows (7 : Nat) (1 : Nat) true (54 : Nat)
                        [[SV.bool h.sv, SV.int IntKind.i64 h.e0, SV.int IntKind.i64 h.e1, SV.int IntKind.i64 h.e2,
                            SV.bool h.va, SV.bool h.cf, SV.bool h.an]],
                      BO.rows (7 : Nat) (1 : Nat) true (54 : Nat)
                        [[SV.bool w.sv, SV.int IntKind.i64 w.e0, SV.int IntKind.i64 w.e1, SV.int IntKind.i64 w.e2,
                            SV.bool w.va, SV.bool w.cf, SV.bool w.an]]]
              else
                Kt Ex.normal (115 : Nat)
                  [SV.slice (0 : Nat) (0 : Nat) (2 : Nat) n, SV.bool false, SV.ptr (1 : Nat) (0 : Nat) (7 : Nat) (0 : Nat),
                    SV.int IntKind.i64 (↑i : Int), SV.ptr (2 : Nat) (0 : Nat) (7 : Nat) (0 : Nat),
                    SV.int IntKind.i64 (IntKind.i64.wrap ((↑s : Int) + (1 : Int)))]
                  [BO.raw
                      (some
                        (Blk.mk (2 : Nat) n
                          (fun r => [SV.int IntKind.i64 (g r (0 : Nat)), SV.int IntKind.i64 (g r (1 : Nat))]) false
                          (0 : Nat))),
                    BO.rows (7 : Nat) (1 : Nat) true (54 : Nat)
                      [[SV.bool h.sv, SV.int IntKind.i64 h.e0, SV.int IntKind.i64 h.e1, SV.int IntKind.i64 h.e2,
                          SV.bool h.va, SV.bool h.cf, SV.bool h.an]],
                    BO.rows (7 : Nat) (1 : Nat) true (54 : Nat)
                      [[SV.bool w.sv, SV.int IntKind.i64 w.e0, SV.int IntKind.i64 w.e1, SV.int IntKind.i64 w.e2,
                          SV.bool w.va, SV.bool w.cf, SV.bool w.an]]]
          else
            bif livesV (Hd.mk h.sv h.e0 h.e1 h.e2 h.va h.cf h.an) (↑s : Int) then
              bif !hasV (Hd.mk h.sv h.e0 h.e1 h.e2 h.va h.cf h.an) (↑s : Int) then False
              else
                Kt Ex.normal (115 : Nat)
                  [SV.slice (0 : Nat) (0 : Nat) (2 : Nat) n, SV.bool false, SV.ptr (1 : Nat) (0 : Nat) (7 : Nat) (0 : Nat),
                    SV.int IntKind.i64 (↑i : Int), SV.ptr (2 : Nat) (0 : Nat) (7 : Nat) (0 : Nat),
                    SV.int IntKind.i64 (IntKind.i64.wrap ((↑s : Int) + (1 : Int)))]
                  [BO.raw
                      (some
                        (Blk.mk (2 : Nat) n
                          (fun r => [SV.int IntKind.i64 (g r (0 : Nat)), SV.int IntKind.i64 (g r (1 : Nat))]) false
                          (0 : Nat))),
                    BO.rows (7 : Nat) (1 : Nat) true (54 : Nat)
                      [[SV.bool h.sv, SV.int IntKind.i64 h.e0, SV.int IntKind.i64 h.e1, SV.int IntKind.i64 h.e2,
                          SV.bool h.va, SV.bool h.cf, SV.bool h.an]],
                    BO.rows (7 : Nat) (1 : Nat) true (54 : Nat)
                      [[SV.bool w.sv, SV.int IntKind.i64 w.e0, SV.int IntKind.i64 w.e1, SV.int IntKind.i64 w.e2,
                          SV.bool w.va, SV.bool w.cf, SV.bool w.an]]]
            else
              Kt Ex.normal (115 : Nat)
                [SV.slice (0 : Nat) (0 : Nat) (2 : Nat) n, SV.bool false, SV.ptr (1 : Nat) (0 : Nat) (7 : Nat) (0 : Nat),
                  SV.int IntKind.i64 (↑i : Int), SV.ptr (2 : Nat) (0 : Nat) (7 : Nat) (0 : Nat),
                  SV.int IntKind.i64 (IntKind.i64.wrap ((↑s : Int) + (1 : Int)))]
                [BO.raw
                    (some
                      (Blk.mk (2 : Nat) n
                        (fun r => [SV.int IntKind.i64 (g r (0 : Nat)), SV.int IntKind.i64 (g r (1 : Nat))]) false
                        (0 : Nat))),
                  BO.rows (7 : Nat) (1 : Nat) true (54 : Nat)
                    [[SV.bool h.sv, SV.int IntKind.i64 h.e0, SV.int IntKind.i64 h.e1, SV.int IntKind.i64 h.e2, SV.bool h.va,
                        SV.bool h.cf, SV.bool h.an]],
                  BO.rows (7 : Nat) (1 : Nat) true (54 : Nat)
                    [[SV.bool w.sv, SV.int IntKind.i64 w.e0, SV.int IntKind.i64 w.e1, SV.int IntKind.i64 w.e2, SV.bool w.va,
                        SV.bool w.cf, SV.bool w.an]]]
        else
          bif livesV (Hd.mk h.sv h.e0 h.e1 h.e2 h.va h.cf h.an) (↑s : Int) then
            bif !hasV (Hd.mk h.sv h.e0 h.e1 h.e2 h.va h.cf h.an) (↑s : Int) then False
            else
              Kt Ex.normal (115 : Nat)
                [SV.slice (0 : Nat) (0 : Nat) (2 : Nat) n, SV.bool false, SV.ptr (1 : Nat) (0 : Nat) (7 : Nat) (0 : Nat),
                  SV.int IntKind.i64 (↑i : Int), SV.ptr (2 : Nat) (0 : Nat) (7 : Nat) (0 : Nat),
                  SV.int IntKind.i64 (IntKind.i64.wrap ((↑s : Int) + (1 : Int)))]
                [BO.raw
                    (some
                      (Blk.mk (2 : Nat) n
                        (fun r => [SV.int IntKind.i64 (g r (0 : Nat)), SV.int IntKind.i64 (g r (1 : Nat))]) false
                        (0 : Nat))),
                  BO.rows (7 : Nat) (1 : Nat) true (54 : Nat)
                    [[SV.bool h.sv, SV.int IntKind.i64 h.e0, SV.int IntKind.i64 h.e1, SV.int IntKind.i64 h.e2, SV.bool h.va,
                        SV.bool h.cf, SV.bool h.an]],
                  BO.rows (7 : Nat) (1 : Nat) true (54 : Nat)
                    [[SV.bool w.sv, SV.int IntKind.i64 w.e0, SV.int IntKind.i64 w.e1, SV.int IntKind.i64 w.e2, SV.bool w.va,
                        SV.bool w.cf, SV.bool w.an]]]
          else
            Kt Ex.normal (115 : Nat)
              [SV.slice (0 : Nat) (0 : Nat) (2 : Nat) n, SV.bool false, SV.ptr (1 : Nat) (0 : Nat) (7 : Nat) (0 : Nat),
                SV.int IntKind.i64 (↑i : Int), SV.ptr (2 : Nat) (0 : Nat) (7 : Nat) (0 : Nat),
                SV.int IntKind.i64 (IntKind.i64.wrap ((↑s : Int) + (1 : Int)))]
              [BO.raw
                  (some
                    (Blk.mk (2 : Nat) n (fun r => [SV.int IntKind.i64 (g r (0 : Nat)), SV.int IntKind.i64 (g r (1 : Nat))])
                      false (0 : Nat))),
                BO.rows (7 : Nat) (1 : Nat) true (54 : Nat)
                  [[SV.bool h.sv, SV.int IntKind.i64 h.e0, SV.int IntKind.i64 h.e1, SV.int IntKind.i64 h.e2, SV.bool h.va,
                      SV.bool h.cf, SV.bool h.an]],
                BO.rows (7 : Nat) (1 : Nat) true (54 : Nat)
                  [[SV.bool w.sv, SV.int IntKind.i64 w.e0, SV.int IntKind.i64 w.e1, SV.int IntKind.i64 w.e2, SV.bool w.va,
                      SV.bool w.cf, SV.bool w.an]]]
    else
      Kt (Ex.exit (2 : Nat)) (115 : Nat)
        [SV.slice (0 : Nat) (0 : Nat) (2 : Nat) n, SV.bool false, SV.ptr (1 : Nat) (0 : Nat) (7 : Nat) (0 : Nat),
          SV.int IntKind.i64 (↑i : Int), SV.ptr (2 : Nat) (0 : Nat) (7 : Nat) (0 : Nat), SV.int IntKind.i64 (↑s : Int)]
        [BO.raw
            (some
              (Blk.mk (2 : Nat) n (fun r => [SV.int IntKind.i64 (g r (0 : Nat)), SV.int IntKind.i64 (g r (1 : Nat))]) false
                (0 : Nat))),
          BO.rows (7 : Nat) (1 : Nat) true (54 : Nat)
            [[SV.bool h.sv, SV.int IntKind.i64 h.e0, SV.int IntKind.i64 h.e1, SV.int IntKind.i64 h.e2, SV.bool h.va,
                SV.bool h.cf, SV.bool h.an]],
          BO.rows (7 : Nat) (1 : Nat) true (54 : Nat)
            [[SV.bool w.sv, SV.int IntKind.i64 w.e0, SV.int IntKind.i64 w.e1, SV.int IntKind.i64 w.e2, SV.bool w.va,
                SV.bool w.cf, SV.bool w.an]]]) := by kernel_rfl
theorem p7_10 (n : Nat) (g : Nat → Nat → Int) (h w : Hd) (i : Nat) (Kt : KT) : evalC C7 0  1 c7_10 (tplF 115 L7 (v7 n (.int .i64 i) (.ptr 2 0 7 0) .top)) ((h7w n g h w).map mkB) ( obsN L7 [false, true, true] Kt) = (
    bif validV (Hd.mk w.sv w.e0 w.e1 w.e2 w.va w.cf w.an) then
      bif !validV (Hd.mk h.sv h.e0 h.e1 h.e2 h.va h.cf h.an) then False
      else
        bif confV (Hd.mk w.sv w.e0 w.e1 w.e2 w.va w.cf w.an) then
          bif !confV (Hd.mk h.sv h.e0 h.e1 h.e2 h.va h.cf h.an) then False
          else
            bif sureV (Hd.mk w.sv w.e0 w.e1 w.e2 w.va w.cf w.an) then
              bif !sureV (Hd.mk h.sv h.e0 h.e1 h.e2 h.va h.cf h.an) then False
              else
                bif confV (Hd.mk h.sv h.e0 h.e1 h.e2 h.va h.cf h.an) then
                  bif !validV (Hd.mk h.sv h.e0 h.e1 h.e2 h.va h.cf h.an) then False
                  else
                    bif !sureV (Hd.mk h.sv h.e0 h.e1 h.e2 h.va h.cf h.an) then False
                    else
                      bif !livesV (Hd.mk h.sv h.e0 h.e1 h.e2 h.va h.cf h.an) (2 : Int) then False
                      else
                        Kt Ex.normal (115 : Nat)
                          [SV.slice (0 : Nat) (0 : Nat) (2 : Nat) n, SV.bool false,
                            SV.ptr (1 : Nat) (0 : Nat) (7 : Nat) (0 : Nat), SV.int IntKind.i64 (↑i : Int),
                            SV.ptr (2 : Nat) (0 : Nat) (7 : Nat) (0 : Nat), SV.top]
                          [BO.raw
                              (some
                                (Blk.mk (2 : Nat) n
                                  (fun r => [SV.int IntKind.i64 (g r (0 : Nat)), SV.int IntKind.i64 (g r (1 : Nat))]) false
                                  (0 : Nat))),
                            BO.rows (7 : Nat) (1 : Nat) true (54 : Nat)
                              [[SV.bool h.sv, SV.int IntKind.i64 h.e0, SV.int IntKind.i64 h.e1, SV.int IntKind.i64 h.e2,
                                  SV.bool h.va, SV.bool h.cf, SV.bool h.an]],
                            BO.rows (7 : Nat) (1 : Nat) true (54 : Nat)
                              [[SV.bool w.sv, SV.int IntKind.i64 w.e0, SV.int IntKind.i64 w.e1, SV.int IntKind.i64 w.e2,
                                  SV.bool w.va, SV.bool w.cf, SV.bool w.an]]]
                else
                  Kt Ex.normal (115 : Nat)
                    [SV.slice (0 : Nat) (0 : Nat) (2 : Nat) n, SV.bool false,
                      SV.ptr (1 : Nat) (0 : Nat) (7 : Nat) (0 : Nat), SV.int IntKind.i64 (↑i : Int),
                      SV.ptr (2 : Nat) (0 : Nat) (7 : Nat) (0 : Nat), SV.top]
                    [BO.raw
                        (some
                          (Blk.mk (2 : Nat) n
                            (fun r => [SV.int IntKind.i64 (g r (0 : Nat)), SV.int IntKind.i64 (g r (1 : Nat))]) false
                            (0 : Nat))),
                      BO.rows (7 : Nat) (1 : Nat) true (54 : Nat)
                        [[SV.bool h.sv, SV.int IntKind.i64 h.e0, SV.int IntKind.i64 h.e1, SV.int IntKind.i64 h.e2,
                            SV.bool h.va, SV.bool h.cf, SV.bool h.an]],
                      BO.rows (7 : Nat) (1 : Nat) true (54 : Nat)
                        [[SV.bool w.sv, SV.int IntKind.i64 w.e0, SV.int IntKind.i64 w.e1, SV.int IntKind.i64 w.e2,
                            SV.bool w.va, SV.bool w.cf, SV.bool w.an]]]
            else
              bif confV (Hd.mk h.sv h.e0 h.e1 h.e2 h.va h.cf h.an) then
                bif !validV (Hd.mk h.sv h.e0 h.e1 h.e2 h.va h.cf h.an) then False
                else
                  bif !sureV (Hd.mk h.sv h.e0 h.e1 h.e2 h.va h.cf h.an) then False
                  else
                    bif !livesV (Hd.mk h.sv h.e0 h.e1 h.e2 h.va h.cf h.an) (2 : Int) then False
                    else
                      Kt Ex.normal (115 : Nat)
                        [SV.slice (0 : Nat) (0 : Nat) (2 : Nat) n, SV.bool false,
                          SV.ptr (1 : Nat) (0 : Nat) (7 : Nat) (0 : Nat), SV.int IntKind.i64 (↑i : Int),
                          SV.ptr (2 : Nat) (0 : Nat) (7 : Nat) (0 : Nat), SV.top]
                        [BO.raw
                            (some
                              (Blk.mk (2 : Nat) n
                                (fun r => [SV.int IntKind.i64 (g r (0 : Nat)), SV.int IntKind.i64 (g r (1 : Nat))]) false
                                (0 : Nat))),
                          BO.rows (7 : Nat) (1 : Nat) true (54 : Nat)
                            [[SV.bool h.sv, SV.int IntKind.i64 h.e0, SV.int IntKind.i64 h.e1, SV.int IntKind.i64 h.e2,
                                SV.bool h.va, SV.bool h.cf, SV.bool h.an]],
                          BO.rows (7 : Nat) (1 : Nat) true (54 : Nat)
                            [[SV.bool w.sv, SV.int IntKind.i64 w.e0, SV.int IntKind.i64 w.e1, SV.int IntKind.i64 w.e2,
                                SV.bool w.va, SV.bool w.cf, SV.bool w.an]]]
              else
                Kt Ex.normal (115 : Nat)
                  [SV.slice (0 : Nat) (0 : Nat) (2 : Nat) n, SV.bool false, SV.ptr (1 : Nat) (0 : Nat) (7 : Nat) (0 : Nat),
                    SV.int IntKind.i64 (↑i : Int), SV.ptr (2 : Nat) (0 : Nat) (7 : Nat) (0 : Nat), SV.top]
                  [BO.raw
                      (some
                        (Blk.mk (2 : Nat) n
                          (fun r => [SV.int IntKind.i64 (g r (0 : Nat)), SV.int IntKind.i64 (g r (1 : Nat))]) false
                          (0 : Nat))),
                    BO.rows (7 : Nat) (1 : Nat) true (54 : Nat)
                      [[SV.bool h.sv, SV.int IntKind.i64 h.e0, SV.int IntKind.i64 h.e1, SV.int IntKind.i64 h.e2,
                          SV.bool h.va, SV.bool h.cf, SV.bool h.an]],
                    BO.rows (7 : Nat) (1 : Nat) true (54 : Nat)
                      [[SV.bool w.sv, SV.int IntKind.i64 w.e0, SV.int IntKind.i64 w.e1, SV.int IntKind.i64 w.e2,
                          SV.bool w.va, SV.bool w.cf, SV.bool w.an]]]
        else
          bif sureV (Hd.mk w.sv w.e0 w.e1 w.e2 w.va w.cf w.an) then
            bif !sureV (Hd.mk h.sv h.e0 h.e1 h.e2 h.va h.cf h.an) then False
            else
              bif confV (Hd.mk h.sv h.e0 h.e1 h.e2 h.va h.cf h.an) then
                bif !validV (Hd.mk h.sv h.e0 h.e1 h.e2 h.va h.cf h.an) then False
                else
                  bif !sureV (Hd.mk h.sv h.e0 h.e1 h.e2 h.va h.cf h.an) then False
                  else
                    bif !livesV (Hd.mk h.sv h.e0 h.e1 h.e2 h.va h.cf h.an) (2 : Int) then False
                    else
                      Kt Ex.normal (115 : Nat)
                        [SV.slice (0 : Nat) (0 : Nat) (2 : Nat) n, SV.bool false,
                          SV.ptr (1 : Nat) (0 : Nat) (7 : Nat) (0 : Nat), SV.int IntKind.i64 (↑i : Int),
                          SV.ptr (2 : Nat) (0 : Nat) (7 : Nat) (0 : Nat), SV.top]
                        [BO.raw
                            (some
                              (Blk.mk (2 : Nat) n
                                (fun r => [SV.int IntKind.i64 (g r (0 : Nat)), SV.int IntKind.i64 (g r (1 : Nat))]) false
                                (0 : Nat))),
                          BO.rows (7 : Nat) (1 : Nat) true (54 : Nat)
                            [[SV.bool h.sv, SV.int IntKind.i64 h.e0, SV.int IntKind.i64 h.e1, SV.int IntKind.i64 h.e2,
                                SV.bool h.va, SV.bool h.cf, SV.bool h.an]],
                          BO.rows (7 : Nat) (1 : Nat) true (54 : Nat)
                            [[SV.bool w.sv, SV.int IntKind.i64 w.e0, SV.int IntKind.i64 w.e1, SV.int IntKind.i64 w.e2,
                                SV.bool w.va, SV.bool w.cf, SV.bool w.an]]]
              else
                Kt Ex.normal (115 : Nat)
                  [SV.slice (0 : Nat) (0 : Nat) (2 : Nat) n, SV.bool false, SV.ptr (1 : Nat) (0 : Nat) (7 : Nat) (0 : Nat),
                    SV.int IntKind.i64 (↑i : Int), SV.ptr (2 : Nat) (0 : Nat) (7 : Nat) (0 : Nat), SV.top]
                  [BO.raw
                      (some
                        (Blk.mk (2 : Nat) n
                          (fun r => [SV.int IntKind.i64 (g r (0 : Nat)), SV.int IntKind.i64 (g r (1 : Nat))]) false
                          (0 : Nat))),
                    BO.rows (7 : Nat) (1 : Nat) true (54 : Nat)
                      [[SV.bool h.sv, SV.int IntKind.i64 h.e0, SV.int IntKind.i64 h.e1, SV.int IntKind.i64 h.e2,
                          SV.bool h.va, SV.bool h.cf, SV.bool h.an]],
                    BO.rows (7 : Nat) (1 : Nat) true (54 : Nat)
                      [[SV.bool w.sv, SV.int IntKind.i64 w.e0, SV.int IntKind.i64 w.e1, SV.int IntKind.i64 w.e2,
                          SV.bool w.va, SV.bool w.cf, SV.bool w.an]]]
          else
            bif confV (Hd.mk h.sv h.e0 h.e1 h.e2 h.va h.cf h.an) then
              bif !validV (Hd.mk h.sv h.e0 h.e1 h.e2 h.va h.cf h.an) then False
              else
                bif !sureV (Hd.mk h.sv h.e0 h.e1 h.e2 h.va h.cf h.an) then False
                else
                  bif !livesV (Hd.mk h.sv h.e0 h.e1 h.e2 h.va h.cf h.an) (2 : Int) then False
                  else
                    Kt Ex.normal (115 : Nat)
                      [SV.slice (0 : Nat) (0 : Nat) (2 : Nat) n, SV.bool false,
                        SV.ptr (1 : Nat) (0 : Nat) (7 : Nat) (0 : Nat), SV.int IntKind.i64 (↑i : Int),
                        SV.ptr (2 : Nat) (0 : Nat) (7 : Nat) (0 : Nat), SV.top]
                      [BO.raw
                          (some
                            (Blk.mk (2 : Nat) n
                              (fun r => [SV.int IntKind.i64 (g r (0 : Nat)), SV.int IntKind.i64 (g r (1 : Nat))]) false
                              (0 : Nat))),
                        BO.rows (7 : Nat) (1 : Nat) true (54 : Nat)
                          [[SV.bool h.sv, SV.int IntKind.i64 h.e0, SV.int IntKind.i64 h.e1, SV.int IntKind.i64 h.e2,
                              SV.bool h.va, SV.bool h.cf, SV.bool h.an]],
                        BO.rows (7 : Nat) (1 : Nat) true (54 : Nat)
                          [[SV.bool w.sv, SV.int IntKind.i64 w.e0, SV.int IntKind.i64 w.e1, SV.int IntKind.i64 w.e2,
                              SV.bool w.va, SV.bool w.cf, SV.bool w.an]]]
            else
              Kt Ex.normal (115 : Nat)
                [SV.slice (0 : Nat) (0 : Nat) (2 : Nat) n, SV.bool false, SV.ptr (1 : Nat) (0 : Nat) (7 : Nat) (0 : Nat),
                  SV.int IntKind.i64 (↑i : Int), SV.ptr (2 : Nat) (0 : Nat) (7 : Nat) (0 : Nat), SV.top]
                [BO.raw
                    (some
                      (Blk.mk (2 : Nat) n
                        (fun r => [SV.int IntKind.i64 (g r (0 : Nat)), SV.int IntKind.i64 (g r (1 : Nat))]) false
                        (0 : Nat))),
                  BO.rows (7 : Nat) (1 : Nat) true (54 : Nat)
                    [[SV.bool h.sv, SV.int IntKind.i64 h.e0, SV.int IntKind.i64 h.e1, SV.int IntKind.i64 h.e2, SV.bool h.va,
                        SV.bool h.cf, SV.bool h.an]],
                  BO.rows (7 : Nat) (1 : Nat) true (54 : Nat)
                    [[SV.bool w.sv, SV.int IntKind.i64 w.e0, SV.int IntKind.i64 w.e1, SV.int IntKind.i64 w.e2, SV.bool w.va,
                        SV.bool w.cf, SV.bool w.an]]]
    else
      bif confV (Hd.mk w.sv w.e0 w.e1 w.e2 w.va w.cf w.an) then
        bif !confV (Hd.mk h.sv h.e0 h.e1 h.e2 h.va h.cf h.an) then False
        else
          bif sureV (Hd.mk w.sv w.e0 w.e1 w.e2 w.va w.cf w.an) then
            bif !sureV (Hd.mk h.sv h.e0 h.e1 h.e2 h.va h.cf h.an) then False
            else
              bif confV (Hd.mk h.sv h.e0 h.e1 h.e2 h.va h.cf h.an) then
                bif !validV (Hd.mk h.sv h.e0 h.e1 h.e2 h.va h.cf h.an) then False
                else
                  bif !sureV (Hd.mk h.sv h.e0 h.e1 h.e2 h.va h.cf h.an) then False
                  else
                    bif !livesV (Hd.mk h.sv h.e0 h.e1 h.e2 h.va h.cf h.an) (2 : Int) then False
                    else
                      Kt Ex.normal (115 : Nat)
                        [SV.slice (0 : Nat) (0 : Nat) (2 : Nat) n, SV.bool false,
                          SV.ptr (1 : Nat) (0 : Nat) (7 : Nat) (0 : Nat), SV.int IntKind.i64 (↑i : Int),
                          SV.ptr (2 : Nat) (0 : Nat) (7 : Nat) (0 : Nat), SV.top]
                        [BO.raw
                            (some
                              (Blk.mk (2 : Nat) n
                                (fun r => [SV.int IntKind.i64 (g r (0 : Nat)), SV.int IntKind.i64 (g r (1 : Nat))]) false
                                (0 : Nat))),
                          BO.rows (7 : Nat) (1 : Nat) true (54 : Nat)
                            [[SV.bool h.sv, SV.int IntKind.i64 h.e0, SV.int IntKind.i64 h.e1, SV.int IntKind.i64 h.e2,
                                SV.bool h.va, SV.bool h.cf, SV.bool h.an]],
                          BO.rows (7 : Nat) (1 : Nat) true (54 : Nat)
                            [[SV.bool w.sv, SV.int IntKind.i64 w.e0, SV.int IntKind.i64 w.e1, SV.int IntKind.i64 w.e2,
                                SV.bool w.va, SV.bool w.cf, SV.bool w.an]]]
              else
                Kt Ex.normal (115 : Nat)
                  [SV.slice (0 : Nat) (0 : Nat) (2 : Nat) n, SV.bool false, SV.ptr (1 : Nat) (0 : Nat) (7 : Nat) (0 : Nat),
                    SV.int IntKind.i64 (↑i : Int), SV.ptr (2 : Nat) (0 : Nat) (7 : Nat) (0 : Nat), SV.top]
                  [BO.raw
                      (some
                        (Blk.mk (2 : Nat) n
                          (fun r => [SV.int IntKind.i64 (g r (0 : Nat)), SV.int IntKind.i64 (g r (1 : Nat))]) false
                          (0 : Nat))),
                    BO.rows (7 : Nat) (1 : Nat) true (54 : Nat)
                      [[SV.bool h.sv, SV.int IntKind.i64 h.e0, SV.int IntKind.i64 h.e1, SV.int IntKind.i64 h.e2,
                          SV.bool h.va, SV.bool h.cf, SV.bool h.an]],
                    BO.rows (7 : Nat) (1 : Nat) true (54 : Nat)
                      [[SV.bool w.sv, SV.int IntKind.i64 w.e0, SV.int IntKind.i64 w.e1, SV.int IntKind.i64 w.e2,
                          SV.bool w.va, SV.bool w.cf, SV.bool w.an]]]
          else
            bif confV (Hd.mk h.sv h.e0 h.e1 h.e2 h.va h.cf h.an) then
              bif !validV (Hd.mk h.sv h.e0 h.e1 h.e2 h.va h.cf h.an) then False
              else
                bif !sureV (Hd.mk h.sv h.e0 h.e1 h.e2 h.va h.cf h.an) then False
                else
                  bif !livesV (Hd.mk h.sv h.e0 h.e1 h.e2 h.va h.cf h.an) (2 : Int) then False
                  else
                    Kt Ex.normal (115 : Nat)
                      [SV.slice (0 : Nat) (0 : Nat) (2 : Nat) n, SV.bool false,
                        SV.ptr (1 : Nat) (0 : Nat) (7 : Nat) (0 : Nat), SV.int IntKind.i64 (↑i : Int),
                        SV.ptr (2 : Nat) (0 : Nat) (7 : Nat) (0 : Nat), SV.top]
                      [BO.raw
                          (some
                            (Blk.mk (2 : Nat) n
                              (fun r => [SV.int IntKind.i64 (g r (0 : Nat)), SV.int IntKind.i64 (g r (1 : Nat))]) false
                              (0 : Nat))),
                        BO.rows (7 : Nat) (1 : Nat) true (54 : Nat)
                          [[SV.bool h.sv, SV.int IntKind.i64 h.e0, SV.int IntKind.i64 h.e1, SV.int IntKind.i64 h.e2,
                              SV.bool h.va, SV.bool h.cf, SV.bool h.an]],
                        BO.rows (7 : Nat) (1 : Nat) true (54 : Nat)
                          [[SV.bool w.sv, SV.int IntKind.i64 w.e0, SV.int IntKind.i64 w.e1, SV.int IntKind.i64 w.e2,
                              SV.bool w.va, SV.bool w.cf, SV.bool w.an]]]
            else
              Kt Ex.normal (115 : Nat)
                [SV.slice (0 : Nat) (0 : Nat) (2 : Nat) n, SV.bool false, SV.ptr (1 : Nat) (0 : Nat) (7 : Nat) (0 : Nat),
                  SV.int IntKind.i64 (↑i : Int), SV.ptr (2 : Nat) (0 : Nat) (7 : Nat) (0 : Nat), SV.top]
                [BO.raw
                    (some
                      (Blk.mk (2 : Nat) n
                        (fun r => [SV.int IntKind.i64 (g r (0 : Nat)), SV.int IntKind.i64 (g r (1 : Nat))]) false
                        (0 : Nat))),
                  BO.rows (7 : Nat) (1 : Nat) true (54 : Nat)
                    [[SV.bool h.sv, SV.int IntKind.i64 h.e0, SV.int IntKind.i64 h.e1, SV.int IntKind.i64 h.e2, SV.bool h.va,
                        SV.bool h.cf, SV.bool h.an]],
                  BO.rows (7 : Nat) (1 : Nat) true (54 : Nat)
                    [[SV.bool w.sv, SV.int IntKind.i64 w.e0, SV.int IntKind.i64 w.e1, SV.int IntKind.i64 w.e2, SV.bool w.va,
                        SV.bool w.cf, SV.bool w.an]]]
      else
        bif sureV (Hd.mk w.sv w.e0 w.e1 w.e2 w.va w.cf w.an) then
          bif !sureV (Hd.mk h.sv h.e0 h.e1 h.e2 h.va h.cf h.an) then False
          else
            bif confV (Hd.mk h.sv h.e0 h.e1 h.e2 h.va h.cf h.an) then
              bif !validV (Hd.mk h.sv h.e0 h.e1 h.e2 h.va h.cf h.an) then False
              else
                bif !sureV (Hd.mk h.sv h.e0 h.e1 h.e2 h.va h.cf h.an) then False
                else
                  bif !livesV (Hd.mk h.sv h.e0 h.e1 h.e2 h.va h.cf h.an) (2 : Int) then False
                  else
                    Kt Ex.normal (115 : Nat)
                      [SV.slice (0 : Nat) (0 : Nat) (2 : Nat) n, SV.bool false,
                        SV.ptr (1 : Nat) (0 : Nat) (7 : Nat) (0 : Nat), SV.int IntKind.i64 (↑i : Int),
                        SV.ptr (2 : Nat) (0 : Nat) (7 : Nat) (0 : Nat), SV.top]
                      [BO.raw
                          (some
                            (Blk.mk (2 : Nat) n
                              (fun r => [SV.int IntKind.i64 (g r (0 : Nat)), SV.int IntKind.i64 (g r (1 : Nat))]) false
                              (0 : Nat))),
                        BO.rows (7 : Nat) (1 : Nat) true (54 : Nat)
                          [[SV.bool h.sv, SV.int IntKind.i64 h.e0, SV.int IntKind.i64 h.e1, SV.int IntKind.i64 h.e2,
                              SV.bool h.va, SV.bool h.cf, SV.bool h.an]],
                        BO.rows (7 : Nat) (1 : Nat) true (54 : Nat)
                          [[SV.bool w.sv, SV.int IntKind.i64 w.e0, SV.int IntKind.i64 w.e1, SV.int IntKind.i64 w.e2,
                              SV.bool w.va, SV.bool w.cf, SV.bool w.an]]]
            else
              Kt Ex.normal (115 : Nat)
                [SV.slice (0 : Nat) (0 : Nat) (2 : Nat) n, SV.bool false, SV.ptr (1 : Nat) (0 : Nat) (7 : Nat) (0 : Nat),
                  SV.int IntKind.i64 (↑i : Int), SV.ptr (2 : Nat) (0 : Nat) (7 : Nat) (0 : Nat), SV.top]
                [BO.raw
                    (some
                      (Blk.mk (2 : Nat) n
                        (fun r => [SV.int IntKind.i64 (g r (0 : Nat)), SV.int IntKind.i64 (g r (1 : Nat))]) false
                        (0 : Nat))),
                  BO.rows (7 : Nat) (1 : Nat) true (54 : Nat)
                    [[SV.bool h.sv, SV.int IntKind.i64 h.e0, SV.int IntKind.i64 h.e1, SV.int IntKind.i64 h.e2, SV.bool h.va,
                        SV.bool h.cf, SV.bool h.an]],
                  BO.rows (7 : Nat) (1 : Nat) true (54 : Nat)
                    [[SV.bool w.sv, SV.int IntKind.i64 w.e0, SV.int IntKind.i64 w.e1, SV.int IntKind.i64 w.e2, SV.bool w.va,
                        SV.bool w.cf, SV.bool w.an]]]
        else
          bif confV (Hd.mk h.sv h.e0 h.e1 h.e2 h.va h.cf h.an) then
            bif !validV (Hd.mk h.sv h.e0 h.e1 h.e2 h.va h.cf h.an) then False
            else
              bif !sureV (Hd.mk h.sv h.e0 h.e1 h.e2 h.va h.cf h.an) then False
              else
                bif !livesV (Hd.mk h.sv h.e0 h.e1 h.e2 h.va h.cf h.an) (2 : Int) then False
                else
                  Kt Ex.normal (115 : Nat)
                    [SV.slice (0 : Nat) (0 : Nat) (2 : Nat) n, SV.bool false,
                      SV.ptr (1 : Nat) (0 : Nat) (7 : Nat) (0 : Nat), SV.int IntKind.i64 (↑i : Int),
                      SV.ptr (2 : Nat) (0 : Nat) (7 : Nat) (0 : Nat), SV.top]
                    [BO.raw
                        (some
                          (Blk.mk (2 : Nat) n
                            (fun r => [SV.int IntKind.i64 (g r (0 : Nat)), SV.int IntKind.i64 (g r (1 : Nat))]) false
                            (0 : Nat))),
                      BO.rows (7 : Nat) (1 : Nat) true (54 : Nat)
                        [[SV.bool h.sv, SV.int IntKind.i64 h.e0, SV.int IntKind.i64 h.e1, SV.int IntKind.i64 h.e2,
                            SV.bool h.va, SV.bool h.cf, SV.bool h.an]],
                      BO.rows (7 : Nat) (1 : Nat) true (54 : Nat)
                        [[SV.bool w.sv, SV.int IntKind.i64 w.e0, SV.int IntKind.i64 w.e1, SV.int IntKind.i64 w.e2,
                            SV.bool w.va, SV.bool w.cf, SV.bool w.an]]]
          else
            Kt Ex.normal (115 : Nat)
              [SV.slice (0 : Nat) (0 : Nat) (2 : Nat) n, SV.bool false, SV.ptr (1 : Nat) (0 : Nat) (7 : Nat) (0 : Nat),
                SV.int IntKind.i64 (↑i : Int), SV.ptr (2 : Nat) (0 : Nat) (7 : Nat) (0 : Nat), SV.top]
              [BO.raw
                  (some
                    (Blk.mk (2 : Nat) n (fun r => [SV.int IntKind.i64 (g r (0 : Nat)), SV.int IntKind.i64 (g r (1 : Nat))])
                      false (0 : Nat))),
                BO.rows (7 : Nat) (1 : Nat) true (54 : Nat)
                  [[SV.bool h.sv, SV.int IntKind.i64 h.e0, SV.int IntKind.i64 h.e1, SV.int IntKind.i64 h.e2, SV.bool h.va,
                      SV.bool h.cf, SV.bool h.an]],
                BO.rows (7 : Nat) (1 : Nat) true (54 : Nat)
                  [[SV.bool w.sv, SV.int IntKind.i64 w.e0, SV.int IntKind.i64 w.e1, SV.int IntKind.i64 w.e2, SV.bool w.va,
                      SV.bool w.cf, SV.bool w.an]]]) := by kernel_rfl
theorem p7_11 (n : Nat) (g : Nat → Nat → Int) (h : Hd) (i : Nat) (Kt : KT) : evalC C7 0  1 c7_11 (tplF 115 L7 (v7 n (.int .i64 i) .top .top)) ((h7 n g h).map mkB) ( obsN L7 [false, true] Kt) = (
    Kt Ex.normal (115 : Nat)
      [SV.slice (0 : Nat) (0 : Nat) (2 : Nat) n, SV.bool false, SV.ptr (1 : Nat) (0 : Nat) (7 : Nat) (0 : Nat),
        SV.int IntKind.i64 (IntKind.i64.wrap ((↑i : Int) + (1 : Int))), SV.top, SV.top]
      [BO.raw
          (some
            (Blk.mk (2 : Nat) n (fun r => [SV.int IntKind.i64 (g r (0 : Nat)), SV.int IntKind.i64 (g r (1 : Nat))]) false
              (0 : Nat))),
        BO.rows (7 : Nat) (1 : Nat) true (54 : Nat)
          [[SV.bool h.sv, SV.int IntKind.i64 h.e0, SV.int IntKind.i64 h.e1, SV.int IntKind.i64 h.e2, SV.bool h.va,
              SV.bool h.cf, SV.bool h.an]]]) := by kernel_rfl
theorem p7_12 (n : Nat) (g : Nat → Nat → Int) (h : Hd) (kk : SV → Prop) : evalC C7 0  1 c7_12 (tplF 115 L7 (v7 n .top .top .top)) ((h7 n g h).map mkB) ( endK Try.prog Try.f7.results.toList (fun v _ => kk v)) = (
    kk (SV.bool true)) := by kernel_rfl
theorem t7e (b : Bool) (kk : SV → Prop) : evalF C7 64 Try.f7 [.bool b, .eslice] [] (fun v _ => kk v) = (
    kk (SV.bool true)) := by kernel_rfl
end Go.Proofs.Ytllkhfabfcpieaa
