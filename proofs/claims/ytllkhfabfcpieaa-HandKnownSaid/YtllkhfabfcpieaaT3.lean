/-
  What functions of the program come to, way by way: printed by a program, held by the kernel.
-/
import Derived.Test.YtllkhfabfcpieaaX3
namespace Go.Proofs.Ytllkhfabfcpieaa
open Go.RowKit
set_option maxRecDepth 100000

theorem n21 (kk : SV → Prop) : evalC C3 64  0 (bodF Try.f21) (enterS 16 [.nilPtr]) [] ( endK Try.prog Try.f21.results.toList (fun v _ => kk v)) = (
    kk SV.nilSlice) := by kernel_rfl
theorem t34 (h : Hd) (b : Bool) (kk : SV → Prop) : evalC C4 64  1 (bodF Try.f34) (enterS 31 [.ptr 0 0 7 0, .bool b]) (rB h) ( endK Try.prog Try.f34.results.toList (fun v _ => kk v)) = (
    bif livesV (Hd.mk h.sv h.e0 h.e1 h.e2 h.va h.cf h.an) (0 : Int) then
      bif livesV (Hd.mk h.sv h.e0 h.e1 h.e2 h.va h.cf h.an) (1 : Int) then
        bif livesV (Hd.mk h.sv h.e0 h.e1 h.e2 h.va h.cf h.an) (2 : Int) then kk (SV.bool false) else kk (SV.bool false)
      else
        bif livesV (Hd.mk h.sv h.e0 h.e1 h.e2 h.va h.cf h.an) (2 : Int) then kk (SV.bool false)
        else
          bif validV (Hd.mk h.sv h.e0 h.e1 h.e2 h.va h.cf h.an) == !b then
            bif sureV (Hd.mk h.sv h.e0 h.e1 h.e2 h.va h.cf h.an) == b then
              kk (SV.bool !confV (Hd.mk h.sv h.e0 h.e1 h.e2 h.va h.cf h.an))
            else kk (SV.bool false)
          else kk (SV.bool false)
    else
      bif livesV (Hd.mk h.sv h.e0 h.e1 h.e2 h.va h.cf h.an) (1 : Int) then
        bif livesV (Hd.mk h.sv h.e0 h.e1 h.e2 h.va h.cf h.an) (2 : Int) then kk (SV.bool false) else kk (SV.bool false)
      else bif livesV (Hd.mk h.sv h.e0 h.e1 h.e2 h.va h.cf h.an) (2 : Int) then kk (SV.bool false) else kk (SV.bool false)) := by kernel_rfl
theorem t17  (kk : SV → Prop) : evalF C5 64 Try.f17 [] [] (fun v _ => kk v) = (
    kk (SV.bool true)) := by kernel_rfl
theorem p18a (n : Nat) (g : Nat → Nat → Int) (b : Bool) (Kt : KT) : evalC C4 0  1 (.seq c18_0 (.seq c18_1 .skip)) (enterS 26 [.bool b, .slice 0 0 2 n]) [some (bD n g)] ( obsN L18 M18 Kt) = (
    Kt Ex.normal (26 : Nat)
      [SV.slice (0 : Nat) (0 : Nat) (2 : Nat) n, SV.nilPtr, SV.ptr (1 : Nat) (0 : Nat) (7 : Nat) (0 : Nat), SV.top]
      [BO.raw
          (some
            (Blk.mk (2 : Nat) n (fun r => [SV.int IntKind.i64 (g r (0 : Nat)), SV.int IntKind.i64 (g r (1 : Nat))]) false
              (0 : Nat))),
        BO.rows (7 : Nat) (1 : Nat) true (54 : Nat)
          [[SV.bool b, SV.int IntKind.i64 (1 : Int), SV.int IntKind.i64 (0 : Int), SV.int IntKind.i64 (0 : Int), SV.bool !b,
              SV.bool false, SV.bool false]]]) := by kernel_rfl
theorem p18b (n : Nat) (g : Nat → Nat → Int) (h : Hd) (Kt : KT) : evalC C4 0  1 c18_2 (tplF 26 L18 (v18 n .top)) ((h18 n g h).map mkB) ( obsN L18 M18 Kt) = (
    Kt Ex.normal (26 : Nat)
      [SV.slice (0 : Nat) (0 : Nat) (2 : Nat) n, SV.nilPtr, SV.ptr (1 : Nat) (0 : Nat) (7 : Nat) (0 : Nat),
        SV.int IntKind.i64 (0 : Int)]
      [BO.raw
          (some
            (Blk.mk (2 : Nat) n (fun r => [SV.int IntKind.i64 (g r (0 : Nat)), SV.int IntKind.i64 (g r (1 : Nat))]) false
              (0 : Nat))),
        BO.rows (7 : Nat) (1 : Nat) true (54 : Nat)
          [[SV.bool h.sv, SV.int IntKind.i64 h.e0, SV.int IntKind.i64 h.e1, SV.int IntKind.i64 h.e2, SV.bool h.va,
              SV.bool h.cf, SV.bool h.an]]]) := by kernel_rfl
theorem p18c (n : Nat) (g : Nat → Nat → Int) (h : Hd) (i : Nat) (Kt : KT) : evalC C4 0  1 c18_3 (tplF 26 L18 (v18 n (.int .i64 i))) ((h18 n g h).map mkB) ( obsN L18 M18 Kt) = (
    bif decide ((↑i : Int) < (↑n : Int)) then
      bif decide ((↑i : Int) < (60 : Int)) then
        bif decide ((↑i : Int) < (↑n : Int)) then
          bif decide ((0 : Nat) + (↑i : Int).toNat < n) && true then
            ∀ (h' : Hd) (e : Int),
              h' =
                  callH (Hd.mk h.sv h.e0 h.e1 h.e2 h.va h.cf h.an) (g ((0 : Nat) + (↑i : Int).toNat) (0 : Nat))
                    (g ((0 : Nat) + (↑i : Int).toNat) (1 : Nat)) →
                e =
                    callE (Hd.mk h.sv h.e0 h.e1 h.e2 h.va h.cf h.an) (g ((0 : Nat) + (↑i : Int).toNat) (0 : Nat))
                      (g ((0 : Nat) + (↑i : Int).toNat) (1 : Nat)) →
                  Kt Ex.normal (26 : Nat)
                    [SV.slice (0 : Nat) (0 : Nat) (2 : Nat) n, SV.nilPtr, SV.ptr (1 : Nat) (0 : Nat) (7 : Nat) (0 : Nat),
                      SV.int IntKind.i64 (IntKind.i64.wrap ((↑i : Int) + (1 : Int)))]
                    [BO.raw
                        (some
                          (Blk.mk (2 : Nat) n
                            (fun r => [SV.int IntKind.i64 (g r (0 : Nat)), SV.int IntKind.i64 (g r (1 : Nat))]) false
                            (0 : Nat))),
                      BO.rows (7 : Nat) (1 : Nat) true (54 : Nat)
                        [[SV.bool h'.sv, SV.int IntKind.i64 h'.e0, SV.int IntKind.i64 h'.e1, SV.int IntKind.i64 h'.e2,
                            SV.bool h'.va, SV.bool h'.cf, SV.bool h'.an]]]
          else False
        else False
      else
        Kt (Ex.exit (0 : Nat)) (26 : Nat)
          [SV.slice (0 : Nat) (0 : Nat) (2 : Nat) n, SV.nilPtr, SV.ptr (1 : Nat) (0 : Nat) (7 : Nat) (0 : Nat),
            SV.int IntKind.i64 (↑i : Int)]
          [BO.raw
              (some
                (Blk.mk (2 : Nat) n (fun r => [SV.int IntKind.i64 (g r (0 : Nat)), SV.int IntKind.i64 (g r (1 : Nat))])
                  false (0 : Nat))),
            BO.rows (7 : Nat) (1 : Nat) true (54 : Nat)
              [[SV.bool h.sv, SV.int IntKind.i64 h.e0, SV.int IntKind.i64 h.e1, SV.int IntKind.i64 h.e2, SV.bool h.va,
                  SV.bool h.cf, SV.bool h.an]]]
    else
      Kt (Ex.exit (0 : Nat)) (26 : Nat)
        [SV.slice (0 : Nat) (0 : Nat) (2 : Nat) n, SV.nilPtr, SV.ptr (1 : Nat) (0 : Nat) (7 : Nat) (0 : Nat),
          SV.int IntKind.i64 (↑i : Int)]
        [BO.raw
            (some
              (Blk.mk (2 : Nat) n (fun r => [SV.int IntKind.i64 (g r (0 : Nat)), SV.int IntKind.i64 (g r (1 : Nat))]) false
                (0 : Nat))),
          BO.rows (7 : Nat) (1 : Nat) true (54 : Nat)
            [[SV.bool h.sv, SV.int IntKind.i64 h.e0, SV.int IntKind.i64 h.e1, SV.int IntKind.i64 h.e2, SV.bool h.va,
                SV.bool h.cf, SV.bool h.an]]]) := by kernel_rfl
theorem p18d (n : Nat) (g : Nat → Nat → Int) (h : Hd) (kk : SV → BO → Prop) : evalC C4 0  1 c18_4 (tplF 26 L18 (v18 n .top)) ((h18 n g h).map mkB) ( endK Try.prog Try.f18.results.toList (fun v hp => kk v (obsP v hp))) = (
    kk (SV.ptr (1 : Nat) (0 : Nat) (7 : Nat) (0 : Nat))
      (BO.rows (7 : Nat) (1 : Nat) true (54 : Nat)
        [[SV.bool h.sv, SV.int IntKind.i64 h.e0, SV.int IntKind.i64 h.e1, SV.int IntKind.i64 h.e2, SV.bool h.va,
            SV.bool h.cf, SV.bool h.an]])) := by kernel_rfl
theorem n18 (b : Bool) (kk : SV → BO → Prop) : evalC C4 64  0 (bodF Try.f18) (enterS 26 [.bool b, .nilSlice]) [] ( endK Try.prog Try.f18.results.toList (fun v hp => kk v (obsP v hp))) = (
    kk (SV.ptr (0 : Nat) (0 : Nat) (7 : Nat) (0 : Nat))
      (BO.rows (7 : Nat) (1 : Nat) true (54 : Nat)
        [[SV.bool b, SV.int IntKind.i64 (1 : Int), SV.int IntKind.i64 (0 : Int), SV.int IntKind.i64 (0 : Int), SV.bool !b,
            SV.bool false, SV.bool false]])) := by kernel_rfl
theorem e18 (b : Bool) (kk : SV → BO → Prop) : evalC C4 64  0 (bodF Try.f18) (enterS 26 [.bool b, .eslice]) [] ( endK Try.prog Try.f18.results.toList (fun v hp => kk v (obsP v hp))) = (
    kk (SV.ptr (0 : Nat) (0 : Nat) (7 : Nat) (0 : Nat))
      (BO.rows (7 : Nat) (1 : Nat) true (54 : Nat)
        [[SV.bool b, SV.int IntKind.i64 (1 : Int), SV.int IntKind.i64 (0 : Int), SV.int IntKind.i64 (0 : Int), SV.bool !b,
            SV.bool false, SV.bool false]])) := by kernel_rfl
theorem p3a (n : Nat) (g : Nat → Nat → Int) (Kt : KT) : evalC C6 0  1 (.seq c3_0 (.seq c3_1 (.seq c3_2 .skip))) (enterS 93 [.slice 0 0 2 n]) [some (bD n g)] ( obsN L3 M3 Kt) = (
    Kt Ex.normal (93 : Nat)
      [SV.slice (0 : Nat) (0 : Nat) (2 : Nat) n, SV.bool false, SV.ptr (1 : Nat) (0 : Nat) (7 : Nat) (0 : Nat),
        SV.ptr (2 : Nat) (0 : Nat) (7 : Nat) (0 : Nat), SV.bool false, SV.top]
      [BO.raw
          (some
            (Blk.mk (2 : Nat) n (fun r => [SV.int IntKind.i64 (g r (0 : Nat)), SV.int IntKind.i64 (g r (1 : Nat))]) false
              (0 : Nat))),
        BO.rows (7 : Nat) (1 : Nat) true (54 : Nat)
          [[SV.bool false, SV.int IntKind.i64 (1 : Int), SV.int IntKind.i64 (0 : Int), SV.int IntKind.i64 (0 : Int),
              SV.bool true, SV.bool false, SV.bool false]],
        BO.rows (7 : Nat) (1 : Nat) true (54 : Nat)
          [[SV.bool true, SV.int IntKind.i64 (1 : Int), SV.int IntKind.i64 (0 : Int), SV.int IntKind.i64 (0 : Int),
              SV.bool false, SV.bool false, SV.bool false]]]) := by kernel_rfl
theorem p3b (n : Nat) (g : Nat → Nat → Int) (h m : Hd) (b : Bool) (Kt : KT) : evalC C6 0  1 c3_3 (tplF 93 L3 (v3 n b .top)) ((h3 n g h m).map mkB) ( obsN L3 M3 Kt) = (
    Kt Ex.normal (93 : Nat)
      [SV.slice (0 : Nat) (0 : Nat) (2 : Nat) n, SV.bool false, SV.ptr (1 : Nat) (0 : Nat) (7 : Nat) (0 : Nat),
        SV.ptr (2 : Nat) (0 : Nat) (7 : Nat) (0 : Nat), SV.bool b, SV.int IntKind.i64 (0 : Int)]
      [BO.raw
          (some
            (Blk.mk (2 : Nat) n (fun r => [SV.int IntKind.i64 (g r (0 : Nat)), SV.int IntKind.i64 (g r (1 : Nat))]) false
              (0 : Nat))),
        BO.rows (7 : Nat) (1 : Nat) true (54 : Nat)
          [[SV.bool h.sv, SV.int IntKind.i64 h.e0, SV.int IntKind.i64 h.e1, SV.int IntKind.i64 h.e2, SV.bool h.va,
              SV.bool h.cf, SV.bool h.an]],
        BO.rows (7 : Nat) (1 : Nat) true (54 : Nat)
          [[SV.bool m.sv, SV.int IntKind.i64 m.e0, SV.int IntKind.i64 m.e1, SV.int IntKind.i64 m.e2, SV.bool m.va,
              SV.bool m.cf, SV.bool m.an]]]) := by kernel_rfl
theorem p3c (n : Nat) (g : Nat → Nat → Int) (h m : Hd) (b : Bool) (i : Nat) (Kt : KT) (kr : SV → Prop) : evalC C6 0  1 c3_4 (tplF 93 L3 (v3 n b (.int .i64 i))) ((h3 n g h m).map mkB) ( obsE Try.prog Try.f3.results.toList L3 M3 Kt kr) = (
    bif decide ((↑i : Int) < (↑n : Int)) then
      bif decide ((↑i : Int) < (60 : Int)) then
        bif decide ((↑i : Int) < (↑n : Int)) then
          bif decide ((0 : Nat) + (↑i : Int).toNat < n) && true then
            bif decide ((↑i : Int) < (↑n : Int)) then
              bif decide ((0 : Nat) + (↑i : Int).toNat < n) && true then
                bif decide ((↑i : Int) < (↑n : Int)) then
                  bif decide ((0 : Nat) + (↑i : Int).toNat < n) && true then
                    ∀ (h' : Hd) (e : Int),
                      h' =
                          callH (Hd.mk h.sv h.e0 h.e1 h.e2 h.va h.cf h.an) (g ((0 : Nat) + (↑i : Int).toNat) (0 : Nat))
                            (g ((0 : Nat) + (↑i : Int).toNat) (1 : Nat)) →
                        e =
                            callE (Hd.mk h.sv h.e0 h.e1 h.e2 h.va h.cf h.an) (g ((0 : Nat) + (↑i : Int).toNat) (0 : Nat))
                              (g ((0 : Nat) + (↑i : Int).toNat) (1 : Nat)) →
                          bif decide ((↑i : Int) < (↑n : Int)) then
                            bif decide ((0 : Nat) + (↑i : Int).toNat < n) && true then
                              ∀ (h'_1 : Hd) (e : Int),
                                h'_1 =
                                    callH (Hd.mk m.sv m.e0 m.e1 m.e2 m.va m.cf m.an)
                                      (g ((0 : Nat) + (↑i : Int).toNat) (0 : Nat))
                                      (g ((0 : Nat) + (↑i : Int).toNat) (1 : Nat)) →
                                  e =
                                      callE (Hd.mk m.sv m.e0 m.e1 m.e2 m.va m.cf m.an)
                                        (g ((0 : Nat) + (↑i : Int).toNat) (0 : Nat))
                                        (g ((0 : Nat) + (↑i : Int).toNat) (1 : Nat)) →
                                    bif b then
                                      bif sureV (Hd.mk h'.sv h'.e0 h'.e1 h'.e2 h'.va h'.cf h'.an) != true then
                                        kr (SV.bool false)
                                      else
                                        bif !sureV (Hd.mk h'_1.sv h'_1.e0 h'_1.e1 h'_1.e2 h'_1.va h'_1.cf h'_1.an) then
                                          kr (SV.bool false)
                                        else
                                          bif !validV (Hd.mk h'.sv h'.e0 h'.e1 h'.e2 h'.va h'.cf h'.an) then
                                            kr (SV.bool false)
                                          else
                                            bif
                                                confV (Hd.mk h'.sv h'.e0 h'.e1 h'.e2 h'.va h'.cf h'.an) !=
                                                  confV (Hd.mk h'_1.sv h'_1.e0 h'_1.e1 h'_1.e2 h'_1.va h'_1.cf h'_1.an) then
                                              kr (SV.bool false)
                                            else
                                              Kt Ex.normal (93 : Nat)
                                                [SV.slice (0 : Nat) (0 : Nat) (2 : Nat) n, SV.bool false,
                                                  SV.ptr (1 : Nat) (0 : Nat) (7 : Nat) (0 : Nat),
                                                  SV.ptr (2 : Nat) (0 : Nat) (7 : Nat) (0 : Nat), SV.bool true,
                                                  SV.int IntKind.i64 (IntKind.i64.wrap ((↑i : Int) + (1 : Int)))]
                                                [BO.raw
                                                    (some
                                                      (Blk.mk (2 : Nat) n
                                                        (fun r =>
                                                          [SV.int IntKind.i64 (g r (0 : Nat)),
                                                            SV.int IntKind.i64 (g r (1 : Nat))])
                                                        false (0 : Nat))),
                                                  BO.rows (7 : Nat) (1 : Nat) true (54 : Nat)
                                                    [[SV.bool h'.sv, SV.int IntKind.i64 h'.e0, SV.int IntKind.i64 h'.e1,
                                                        SV.int IntKind.i64 h'.e2, SV.bool h'.va, SV.bool h'.cf,
                                                        SV.bool h'.an]],
                                                  BO.rows (7 : Nat) (1 : Nat) true (54 : Nat)
                                                    [[SV.bool h'_1.sv, SV.int IntKind.i64 h'_1.e0,
                                                        SV.int IntKind.i64 h'_1.e1, SV.int IntKind.i64 h'_1.e2,
                                                        SV.bool h'_1.va, SV.bool h'_1.cf, SV.bool h'_1.an]]]
                                    else
                                      bif g ((0 : Nat) + (↑i : Int).toNat) (0 : Nat) % (6 : Int) == (5 : Int) then
                                        bif decide ((0 : Int) < g ((0 : Nat) + (↑i : Int).toNat) (1 : Nat) % (3 : Int)) then
                                          bif
                                              livesV (Hd.mk h.sv h.e0 h.e1 h.e2 h.va h.cf h.an)
                                                (g ((0 : Nat) + (↑i : Int).toNat) (1 : Nat) % (3 : Int)) then
                                            bif sureV (Hd.mk h'.sv h'.e0 h'.e1 h'.e2 h'.va h'.cf h'.an) != true then
                                              kr (SV.bool false)
                                            else
                                              bif
                                                  !sureV
                                                      (Hd.mk h'_1.sv h'_1.e0 h'_1.e1 h'_1.e2 h'_1.va h'_1.cf h'_1.an) then
                                                kr (SV.bool false)
                                              else
                                                bif !validV (Hd.mk h'.sv h'.e0 h'.e1 h'.e2 h'.va h'.cf h'.an) then
                                                  kr (SV.bool false)
                                                else
                                                  bif
                                                      confV (Hd.mk h'.sv h'.e0 h'.e1 h'.e2 h'.va h'.cf h'.an) !=
                                                        confV
                                                          (Hd.mk h'_1.sv h'_1.e0 h'_1.e1 h'_1.e2 h'_1.va h'_1.cf
                                                            h'_1.an) then
                                                    kr (SV.bool false)
                                                  else
                                                    Kt Ex.normal (93 : Nat)
                                                      [SV.slice (0 : Nat) (0 : Nat) (2 : Nat) n, SV.bool false,
                                                        SV.ptr (1 : Nat) (0 : Nat) (7 : Nat) (0 : Nat),
                                                        SV.ptr (2 : Nat) (0 : Nat) (7 : Nat) (0 : Nat), SV.bool true,
                                                        SV.int IntKind.i64 (IntKind.i64.wrap ((↑i : Int) + (1 : Int)))]
                                                      [BO.raw
                                                          (some
                                                            (Blk.mk (2 : Nat) n
                                                              (fun r =>
                                                                [SV.int IntKind.i64 (g r (0 : Nat)),
                                                                  SV.int IntKind.i64 (g r (1 : Nat))])
                                                              false (0 : Nat))),
                                                        BO.rows (7 : Nat) (1 : Nat) true (54 : Nat)
                                                          [[SV.bool h'.sv, SV.int IntKind.i64 h'.e0,
                                                              SV.int IntKind.i64 h'.e1, SV.int IntKind.i64 h'.e2,
                                                              SV.bool h'.va, SV.bool h'.cf, SV.bool h'.an]],
                                                        BO.rows (7 : Nat) (1 : Nat) true (54 : Nat)
                                                          [[SV.bool h'_1.sv, SV.int IntKind.i64 h'_1.e0,
                                                              SV.int IntKind.i64 h'_1.e1, SV.int IntKind.i64 h'_1.e2,
                                                              SV.bool h'_1.va, SV.bool h'_1.cf, SV.bool h'_1.an]]]
                                          else
                                            bif g ((0 : Nat) + (↑i : Int).toNat) (0 : Nat) % (6 : Int) == (4 : Int) then
                                              bif
                                                  sureV (Hd.mk h'.sv h'.e0 h'.e1 h'.e2 h'.va h'.cf h'.an) !=
                                                    livesV (Hd.mk h.sv h.e0 h.e1 h.e2 h.va h.cf h.an) (2 : Int) then
                                                kr (SV.bool false)
                                              else
                                                bif
                                                    !sureV
                                                        (Hd.mk h'_1.sv h'_1.e0 h'_1.e1 h'_1.e2 h'_1.va h'_1.cf h'_1.an) then
                                                  kr (SV.bool false)
                                                else
                                                  bif !validV (Hd.mk h'.sv h'.e0 h'.e1 h'.e2 h'.va h'.cf h'.an) then
                                                    kr (SV.bool false)
                                                  else
                                                    bif
                                                        confV (Hd.mk h'.sv h'.e0 h'.e1 h'.e2 h'.va h'.cf h'.an) !=
                                                          confV
                                                            (Hd.mk h'_1.sv h'_1.e0 h'_1.e1 h'_1.e2 h'_1.va h'_1.cf
                                                              h'_1.an) then
                                                      kr (SV.bool false)
                                                    else
                                                      Kt Ex.normal (93 : Nat)
                                                        [SV.slice (0 : Nat) (0 : Nat) (2 : Nat) n, SV.bool false,
                                                          SV.ptr (1 : Nat) (0 : Nat) (7 : Nat) (0 : Nat),
                                                          SV.ptr (2 : Nat) (0 : Nat) (7 : Nat) (0 : Nat),
                                                          SV.bool
                                                            (livesV (Hd.mk h.sv h.e0 h.e1 h.e2 h.va h.cf h.an) (2 : Int)),
                                                          SV.int IntKind.i64 (IntKind.i64.wrap ((↑i : Int) + (1 : Int)))]
                                                        [BO.raw
                                                            (some
                                                              (Blk.mk (2 : Nat) n
                                                                (fun r =>
                                                                  [SV.int IntKind.i64 (g r (0 : Nat)),
                                                                    SV.int IntKind.i64 (g r (1 : Nat))])
                                                                false (0 : Nat))),
                                                          BO.rows (7 : Nat) (1 : Nat) true (54 : Nat)
                                                            [[SV.bool h'.sv, SV.int IntKind.i64 h'.e0,
                                                                SV.int IntKind.i64 h'.e1, SV.int IntKind.i64 h'.e2,
                                                                SV.bool h'.va, SV.bool h'.cf, SV.bool h'.an]],
                                                          BO.rows (7 : Nat) (1 : Nat) true (54 : Nat)
                                                            [[SV.bool h'_1.sv, SV.int IntKind.i64 h'_1.e0,
                                                                SV.int IntKind.i64 h'_1.e1, SV.int IntKind.i64 h'_1.e2,
                                                                SV.bool h'_1.va, SV.bool h'_1.cf, SV.bool h'_1.an]]]
                                            else
                                              bif sureV (Hd.mk h'.sv h'.e0 h'.e1 h'.e2 h'.va h'.cf h'.an) != false then
                                                kr (SV.bool false)
                                              else
                                                bif
                                                    !sureV
                                                        (Hd.mk h'_1.sv h'_1.e0 h'_1.e1 h'_1.e2 h'_1.va h'_1.cf h'_1.an) then
                                                  kr (SV.bool false)
                                                else
                                                  bif !validV (Hd.mk h'.sv h'.e0 h'.e1 h'.e2 h'.va h'.cf h'.an) then
                                                    kr (SV.bool false)
                                                  else
                                                    bif
                                                        confV (Hd.mk h'.sv h'.e0 h'.e1 h'.e2 h'.va h'.cf h'.an) !=
                                                          confV
                                                            (Hd.mk h'_1.sv h'_1.e0 h'_1.e1 h'_1.e2 h'_1.va h'_1.cf
                                                              h'_1.an) then
                                                      kr (SV.bool false)
                                                    else
                                                      Kt Ex.normal (93 : Nat)
                                                        [SV.slice (0 : Nat) (0 : Nat) (2 : Nat) n, SV.bool false,
                                                          SV.ptr (1 : Nat) (0 : Nat) (7 : Nat) (0 : Nat),
                                                          SV.ptr (2 : Nat) (0 : Nat) (7 : Nat) (0 : Nat), SV.bool false,
                                                          SV.int IntKind.i64 (IntKind.i64.wrap ((↑i : Int) + (1 : Int)))]
                                                        [BO.raw
                                                            (some
                                                              (Blk.mk (2 : Nat) n
                                                                (fun r =>
                                                                  [SV.int IntKind.i64 (g r (0 : Nat)),
                                                                    SV.int IntKind.i64 (g r (1 : Nat))])
                                                                false (0 : Nat))),
                                                          BO.rows (7 : Nat) (1 : Nat) true (54 : Nat)
                                                            [[SV.bool h'.sv, SV.int IntKind.i64 h'.e0,
                                                                SV.int IntKind.i64 h'.e1, SV.int IntKind.i64 h'.e2,
                                                                SV.bool h'.va, SV.bool h'.cf, SV.bool h'.an]],
                                                          BO.rows (7 : Nat) (1 : Nat) true (54 : Nat)
                                                            [[SV.bool h'_1.sv, SV.int IntKind.i64 h'_1.e0,
                                                                SV.int IntKind.i64 h'_1.e1, SV.int IntKind.i64 h'_1.e2,
                                                                SV.bool h'_1.va, SV.bool h'_1.cf, SV.bool h'_1.an]]]
                                        else
                                          bif g ((0 : Nat) + (↑i : Int).toNat) (0 : Nat) % (6 : Int) == (4 : Int) then
                                            bif
                                                sureV (Hd.mk h'.sv h'.e0 h'.e1 h'.e2 h'.va h'.cf h'.an) !=
                                                  livesV (Hd.mk h.sv h.e0 h.e1 h.e2 h.va h.cf h.an) (2 : Int) then
                                              kr (SV.bool false)
                                            else
                                              bif
                                                  !sureV
                                                      (Hd.mk h'_1.sv h'_1.e0 h'_1.e1 h'_1.e2 h'_1.va h'_1.cf h'_1.an) then
                                                kr (SV.bool false)
                                              else
                                                bif !validV (Hd.mk h'.sv h'.e0 h'.e1 h'.e2 h'.va h'.cf h'.an) then
                                                  kr (SV.bool false)
                                                else
                                                  bif
                                                      confV (Hd.mk h'.sv h'.e0 h'.e1 h'.e2 h'.va h'.cf h'.an) !=
                                                        confV
                                                          (Hd.mk h'_1.sv h'_1.e0 h'_1.e1 h'_1.e2 h'_1.va h'_1.cf
                                                            h'_1.an) then
                                                    kr (SV.bool false)
                                                  else
                                                    Kt Ex.normal (93 : Nat)
                                                      [SV.slice (0 : Nat) (0 : Nat) (2 : Nat) n, SV.bool false,
                                                        SV.ptr (1 : Nat) (0 : Nat) (7 : Nat) (0 : Nat),
                                                        SV.ptr (2 : Nat) (0 : Nat) (7 : Nat) (0 : Nat),
                                                        SV.bool
                                                          (livesV (Hd.mk h.sv h.e0 h.e1 h.e2 h.va h.cf h.an) (2 : Int)),
                                                        SV.int IntKind.i64 (IntKind.i64.wrap ((↑i : Int) + (1 : Int)))]
                                                      [BO.raw
                                                          (some
                                                            (Blk.mk (2 : Nat) n
                                                              (fun r =>
                                                                [SV.int IntKind.i64 (g r (0 : Nat)),
                                                                  SV.int IntKind.i64 (g r (1 : Nat))])
                                                              false (0 : Nat))),
                                                        BO.rows (7 : Nat) (1 : Nat) true (54 : Nat)
                                                          [[SV.bool h'.sv, SV.int IntKind.i64 h'.e0,
                                                              SV.int IntKind.i64 h'.e1, SV.int IntKind.i64 h'.e2,
                                                              SV.bool h'.va, SV.bool h'.cf, SV.bool h'.an]],
                                                        BO.rows (7 : Nat) (1 : Nat) true (54 : Nat)
                                                          [[SV.bool h'_1.sv, SV.int IntKind.i64 h'_1.e0,
                                                              SV.int IntKind.i64 h'_1.e1, SV.int IntKind.i64 h'_1.e2,
                                                              SV.bool h'_1.va, SV.bool h'_1.cf, SV.bool h'_1.an]]]
                                          else
                                            bif sureV (Hd.mk h'.sv h'.e0 h'.e1 h'.e2 h'.va h'.cf h'.an) != false then
                                              kr (SV.bool false)
                                            else
                                              bif
                                                  !sureV
                                                      (Hd.mk h'_1.sv h'_1.e0 h'_1.e1 h'_1.e2 h'_1.va h'_1.cf h'_1.an) then
                                                kr (SV.bool false)
                                              else
                                                bif !validV (Hd.mk h'.sv h'.e0 h'.e1 h'.e2 h'.va h'.cf h'.an) then
                                                  kr (SV.bool false)
                                                else
                                                  bif
                                                      confV (Hd.mk h'.sv h'.e0 h'.e1 h'.e2 h'.va h'.cf h'.an) !=
                                                        confV
                                                          (Hd.mk h'_1.sv h'_1.e0 h'_1.e1 h'_1.e2 h'_1.va h'_1.cf
                                                            h'_1.an) then
                                                    kr (SV.bool false)
                                                  else
                                                    Kt Ex.normal (93 : Nat)
                                                      [SV.slice (0 : Nat) (0 : Nat) (2 : Nat) n, SV.bool false,
                                                        SV.ptr (1 : Nat) (0 : Nat) (7 : Nat) (0 : Nat),
                                                        SV.ptr (2 : Nat) (0 : Nat) (7 : Nat) (0 : Nat), SV.bool false,
                                                        SV.int IntKind.i64 (IntKind.i64.wrap ((↑i : Int) + (1 : Int)))]
                                                      [BO.raw
                                                          (some
                                                            (Blk.mk (2 : Nat) n
                                                              (fun r =>
                                                                [SV.int IntKind.i64 (g r (0 : Nat)),
                                                                  SV.int IntKind.i64 (g r (1 : Nat))])
                                                              false (0 : Nat))),
                                                        BO.rows (7 : Nat) (1 : Nat) true (54 : Nat)
                                                          [[SV.bool h'.sv, SV.int IntKind.i64 h'.e0,
                                                              SV.int IntKind.i64 h'.e1, SV.int IntKind.i64 h'.e2,
                                                              SV.bool h'.va, SV.bool h'.cf, SV.bool h'.an]],
                                                        BO.rows (7 : Nat) (1 : Nat) true (54 : Nat)
                                                          [[SV.bool h'_1.sv, SV.int IntKind.i64 h'_1.e0,
                                                              SV.int IntKind.i64 h'_1.e1, SV.int IntKind.i64 h'_1.e2,
                                                              SV.bool h'_1.va, SV.bool h'_1.cf, SV.bool h'_1.an]]]
                                      else
                                        bif g ((0 : Nat) + (↑i : Int).toNat) (0 : Nat) % (6 : Int) == (4 : Int) then
                                          bif
                                              sureV (Hd.mk h'.sv h'.e0 h'.e1 h'.e2 h'.va h'.cf h'.an) !=
                                                livesV (Hd.mk h.sv h.e0 h.e1 h.e2 h.va h.cf h.an) (2 : Int) then
                                            kr (SV.bool false)
                                          else
                                            bif !sureV (Hd.mk h'_1.sv h'_1.e0 h'_1.e1 h'_1.e2 h'_1.va h'_1.cf h'_1.an) then
                                              kr (SV.bool false)
                                            else
                                              bif !validV (Hd.mk h'.sv h'.e0 h'.e1 h'.e2 h'.va h'.cf h'.an) then
                                                kr (SV.bool false)
                                              else
                                                bif
                                                    confV (Hd.mk h'.sv h'.e0 h'.e1 h'.e2 h'.va h'.cf h'.an) !=
                                                      confV
                                                        (Hd.mk h'_1.sv h'_1.e0 h'_1.e1 h'_1.e2 h'_1.va h'_1.cf h'_1.an) then
                                                  kr (SV.bool false)
                                                else
                                                  Kt Ex.normal (93 : Nat)
                                                    [SV.slice (0 : Nat) (0 : Nat) (2 : Nat) n, SV.bool false,
                                                      SV.ptr (1 : Nat) (0 : Nat) (7 : Nat) (0 : Nat),
                                                      SV.ptr (2 : Nat) (0 : Nat) (7 : Nat) (0 : Nat),
                                                      SV.bool (livesV (Hd.mk h.sv h.e0 h.e1 h.e2 h.va h.cf h.an) (2 : Int)),
                                                      SV.int IntKind.i64 (IntKind.i64.wrap ((↑i : Int) + (1 : Int)))]
                                                    [BO.raw
                                                        (some
                                                          (Blk.mk (2 : Nat) n
                                                            (fun r =>
                                                              [SV.int IntKind.i64 (g r (0 : Nat)),
                                                                SV.int IntKind.i64 (g r (1 : Nat))])
                                                            false (0 : Nat))),
                                                      BO.rows (7 : Nat) (1 : Nat) true (54 : Nat)
                                                        [[SV.bool h'.sv, SV.int IntKind.i64 h'.e0, SV.int IntKind.i64 h'.e1,
                                                            SV.int IntKind.i64 h'.e2, SV.bool h'.va, SV.bool h'.cf,
                                                            SV.bool h'.an]],
                                                      BO.rows (7 : Nat) (1 : Nat) true (54 : Nat)
                                                        [[SV.bool h'_1.sv, SV.int IntKind.i64 h'_1.e0,
                                                            SV.int IntKind.i64 h'_1.e1, SV.int IntKind.i64 h'_1.e2,
                                                            SV.bool h'_1.va, SV.bool h'_1.cf, SV.bool h'_1.an]]]
                                        else
                                          bif sureV (Hd.mk h'.sv h'.e0 h'.e1 h'.e2 h'.va h'.cf h'.an) != false then
                                            kr (SV.bool false)
                                          else
                                            bif !sureV (Hd.mk h'_1.sv h'_1.e0 h'_1.e1 h'_1.e2 h'_1.va h'_1.cf h'_1.an) then
                                              kr (SV.bool false)
                                            else
                                              bif !validV (Hd.mk h'.sv h'.e0 h'.e1 h'.e2 h'.va h'.cf h'.an) then
                                                kr (SV.bool false)
                                              else
                                                bif
                                                    confV (Hd.mk h'.sv h'.e0 h'.e1 h'.e2 h'.va h'.cf h'.an) !=
                                                      confV
                                                        (Hd.mk h'_1.sv h'_1.e0 h'_1.e1 h'_1.e2 h'_1.va h'_1.cf h'_1.an) then
                                                  kr (SV.bool false)
                                                else
                                                  Kt Ex.normal (93 : Nat)
                                                    [SV.slice (0 : Nat) (0 : Nat) (2 : Nat) n, SV.bool false,
                                                      SV.ptr (1 : Nat) (0 : Nat) (7 : Nat) (0 : Nat),
                                                      SV.ptr (2 : Nat) (0 : Nat) (7 : Nat) (0 : Nat), SV.bool false,
                                                      SV.int IntKind.i64 (IntKind.i64.wrap ((↑i : Int) + (1 : Int)))]
                                                    [BO.raw
                                                        (some
                                                          (Blk.mk (2 : Nat) n
                                                            (fun r =>
                                                              [SV.int IntKind.i64 (g r (0 : Nat)),
                                                                SV.int IntKind.i64 (g r (1 : Nat))])
                                                            false (0 : Nat))),
                                                      BO.rows (7 : Nat) (1 : Nat) true (54 : Nat)
                                                        [[SV.bool h'.sv, SV.int IntKind.i64 h'.e0, SV.int IntKind.i64 h'.e1,
                                                            SV.int IntKind.i64 h'.e2, SV.bool h'.va, SV.bool h'.cf,
                                                            SV.bool h'.an]],
                                                      BO.rows (7 : Nat) (1 : Nat) true (54 : Nat)
                                                        [[SV.bool h'_1.sv, SV.int IntKind.i64 h'_1.e0,
                                                            SV.int IntKind.i64 h'_1.e1, SV.int IntKind.i64 h'_1.e2,
                                                            SV.bool h'_1.va, SV.bool h'_1.cf, SV.bool h'_1.an]]]
                            else False
                          else False
                  else False
                else False
              else False
            else False
          else False
        else False
      else
        Kt (Ex.exit (0 : Nat)) (93 : Nat)
          [SV.slice (0 : Nat) (0 : Nat) (2 : Nat) n, SV.bool false, SV.ptr (1 : Nat) (0 : Nat) (7 : Nat) (0 : Nat),
            SV.ptr (2 : Nat) (0 : Nat) (7 : Nat) (0 : Nat), SV.bool b, SV.int IntKind.i64 (↑i : Int)]
          [BO.raw
              (some
                (Blk.mk (2 : Nat) n (fun r => [SV.int IntKind.i64 (g r (0 : Nat)), SV.int IntKind.i64 (g r (1 : Nat))])
                  false (0 : Nat))),
            BO.rows (7 : Nat) (1 : Nat) true (54 : Nat)
              [[SV.bool h.sv, SV.int IntKind.i64 h.e0, SV.int IntKind.i64 h.e1, SV.int IntKind.i64 h.e2, SV.bool h.va,
                  SV.bool h.cf, SV.bool h.an]],
            BO.rows (7 : Nat) (1 : Nat) true (54 : Nat)
              [[SV.bool m.sv, SV.int IntKind.i64 m.e0, SV.int IntKind.i64 m.e1, SV.int IntKind.i64 m.e2, SV.bool m.va,
                  SV.bool m.cf, SV.bool m.an]]]
    else
      Kt (Ex.exit (0 : Nat)) (93 : Nat)
        [SV.slice (0 : Nat) (0 : Nat) (2 : Nat) n, SV.bool false, SV.ptr (1 : Nat) (0 : Nat) (7 : Nat) (0 : Nat),
          SV.ptr (2 : Nat) (0 : Nat) (7 : Nat) (0 : Nat), SV.bool b, SV.int IntKind.i64 (↑i : Int)]
        [BO.raw
            (some
              (Blk.mk (2 : Nat) n (fun r => [SV.int IntKind.i64 (g r (0 : Nat)), SV.int IntKind.i64 (g r (1 : Nat))]) false
                (0 : Nat))),
          BO.rows (7 : Nat) (1 : Nat) true (54 : Nat)
            [[SV.bool h.sv, SV.int IntKind.i64 h.e0, SV.int IntKind.i64 h.e1, SV.int IntKind.i64 h.e2, SV.bool h.va,
                SV.bool h.cf, SV.bool h.an]],
          BO.rows (7 : Nat) (1 : Nat) true (54 : Nat)
            [[SV.bool m.sv, SV.int IntKind.i64 m.e0, SV.int IntKind.i64 m.e1, SV.int IntKind.i64 m.e2, SV.bool m.va,
                SV.bool m.cf, SV.bool m.an]]]) := by kernel_rfl
theorem p3d (n : Nat) (g : Nat → Nat → Int) (h m : Hd) (b : Bool) (kk : SV → Prop) : evalC C6 0  1 c3_5 (tplF 93 L3 (v3 n b .top)) ((h3 n g h m).map mkB) ( endK Try.prog Try.f3.results.toList (fun v _ => kk v)) = (
    kk (SV.bool true)) := by kernel_rfl
theorem n3 (kk : SV → Prop) : evalC C6 64  0 (bodF Try.f3) (enterS 93 [.nilSlice]) [] ( endK Try.prog Try.f3.results.toList (fun v _ => kk v)) = (
    kk (SV.bool true)) := by kernel_rfl
theorem e3 (kk : SV → Prop) : evalC C6 64  0 (bodF Try.f3) (enterS 93 [.eslice]) [] ( endK Try.prog Try.f3.results.toList (fun v _ => kk v)) = (
    kk (SV.bool true)) := by kernel_rfl
end Go.Proofs.Ytllkhfabfcpieaa
