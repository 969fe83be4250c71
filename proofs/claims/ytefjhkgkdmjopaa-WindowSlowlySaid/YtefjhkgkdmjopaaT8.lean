/-
  What functions of the program come to, way by way: printed by a program, held by the kernel.
-/
import Derived.Test.YtefjhkgkdmjopaaX8
namespace Go.Proofs.Ytefjhkgkdmjopaa
open Go.RowKit
set_option maxRecDepth 100000

theorem p7sa (n : Nat) (p : Nat → Int) (x y z : Int) (Kt : KT) : evalC C8 0  1 (.seq c7_0 (.seq c7_1 (.seq c7_2 (.seq c7_3 .skip)))) (enterS 62 [.agg [.int .i64 x, .int .i64 y, .int .i64 z], .slice 0 0 1 n]) [some (bI n p)] ( obsN L7 M7s Kt) = (
    ∀ (r' : Wn),
      r' = madeW x y z →
        Kt Ex.normal (62 : Nat)
          [SV.slice (0 : Nat) (0 : Nat) (1 : Nat) n, SV.ptr (2 : Nat) (0 : Nat) (6 : Nat) (0 : Nat),
            SV.int IntKind.i64 (if (4000000 : Int) < r'.c then (4000000 : Int) else r'.c),
            SV.int IntKind.i64
              (if r'.m < IntKind.i64.wrap (r'.c + if (4000000 : Int) < r'.c then (4000000 : Int) else r'.c) then r'.m
              else IntKind.i64.wrap (r'.c + if (4000000 : Int) < r'.c then (4000000 : Int) else r'.c)),
            SV.top]
          [BO.raw (some (Blk.mk (1 : Nat) n (fun r => [SV.int IntKind.i64 (p r)]) false (0 : Nat))),
            BO.rows (3 : Nat) (1 : Nat) true (26 : Nat)
              [[SV.int IntKind.i64 x, SV.int IntKind.i64 y, SV.int IntKind.i64 z]],
            BO.rows (6 : Nat) (1 : Nat) true (23 : Nat)
              [[SV.int IntKind.i64 r'.d, SV.int IntKind.i64 r'.m, SV.int IntKind.i64 r'.c, SV.int IntKind.i64 r'.t,
                  SV.int IntKind.i64 r'.s, SV.int IntKind.i64 r'.g]]]) := by kernel_rfl
theorem p7sb (n : Nat) (p : Nat → Int) (x y z : Int) (w : Wn) (rest want : Int) (Kt : KT) : evalC C8 0  1 c7_4 (tplF 62 L7 (v7s n rest want .top)) ((h7s n p x y z w).map mkB) ( obsN L7 M7s Kt) = (
    Kt Ex.normal (62 : Nat)
      [SV.slice (0 : Nat) (0 : Nat) (1 : Nat) n, SV.ptr (2 : Nat) (0 : Nat) (6 : Nat) (0 : Nat), SV.int IntKind.i64 rest,
        SV.int IntKind.i64 want, SV.int IntKind.i64 (0 : Int)]
      [BO.raw (some (Blk.mk (1 : Nat) n (fun r => [SV.int IntKind.i64 (p r)]) false (0 : Nat))),
        BO.rows (3 : Nat) (1 : Nat) true (26 : Nat) [[SV.int IntKind.i64 x, SV.int IntKind.i64 y, SV.int IntKind.i64 z]],
        BO.rows (6 : Nat) (1 : Nat) true (23 : Nat)
          [[SV.int IntKind.i64 w.d, SV.int IntKind.i64 w.m, SV.int IntKind.i64 w.c, SV.int IntKind.i64 w.t,
              SV.int IntKind.i64 w.s, SV.int IntKind.i64 w.g]]]) := by kernel_rfl
theorem p7sc (n : Nat) (p : Nat → Int) (x y z : Int) (w : Wn) (rest want : Int) (i : Nat) (Kt : KT) : evalC C8 0  1 c7_5 (tplF 62 L7 (v7s n rest want (.int .i64 i))) ((h7s n p x y z w).map mkB) ( obsN L7 M7s Kt) = (
    bif decide ((0 : Int) < rest) then
      bif decide ((↑i : Int) < (↑n : Int)) then
        bif decide ((↑i : Int) < (50 : Int)) then
          bif decide ((↑i : Int) < (↑n : Int)) then
            bif decide ((0 : Nat) + (↑i : Int).toNat < n) && true then
              bif
                  decide ((0 : Int) < if (65535 : Int) < rest then (65535 : Int) else rest) &&
                    decide ((if (65535 : Int) < rest then (65535 : Int) else rest) ≤ (9223372036854775807 : Int)) then
                ∀ (r' : Wn),
                  r' =
                      chW (Wn.mk w.d w.m w.c w.t w.s w.g)
                        (ackOk (↑i : Int)
                          (IntKind.i64.wrap
                            ((1 : Int) +
                              p ((0 : Nat) + (↑i : Int).toNat) % if (65535 : Int) < rest then (65535 : Int) else rest)))
                        (ack1 (Wn.mk w.d w.m w.c w.t w.s w.g) (↑i : Int)
                          (IntKind.i64.wrap
                            ((1 : Int) +
                              p ((0 : Nat) + (↑i : Int).toNat) % if (65535 : Int) < rest then (65535 : Int) else rest))
                          true) →
                    Kt Ex.normal (62 : Nat)
                      [SV.slice (0 : Nat) (0 : Nat) (1 : Nat) n, SV.ptr (2 : Nat) (0 : Nat) (6 : Nat) (0 : Nat),
                        SV.int IntKind.i64
                          (IntKind.i64.wrap
                            (rest -
                              IntKind.i64.wrap
                                ((1 : Int) +
                                  p ((0 : Nat) + (↑i : Int).toNat) %
                                    if (65535 : Int) < rest then (65535 : Int) else rest))),
                        SV.int IntKind.i64 want, SV.int IntKind.i64 (IntKind.i64.wrap ((↑i : Int) + (1 : Int)))]
                      [BO.raw (some (Blk.mk (1 : Nat) n (fun r => [SV.int IntKind.i64 (p r)]) false (0 : Nat))),
                        BO.rows (3 : Nat) (1 : Nat) true (26 : Nat)
                          [[SV.int IntKind.i64 x, SV.int IntKind.i64 y, SV.int IntKind.i64 z]],
                        BO.rows (6 : Nat) (1 : Nat) true (23 : Nat)
                          [[SV.int IntKind.i64 r'.d, SV.int IntKind.i64 r'.m, SV.int IntKind.i64 r'.c,
                              SV.int IntKind.i64 r'.t, SV.int IntKind.i64 r'.s, SV.int IntKind.i64 r'.g]]]
              else False
            else False
          else False
        else
          ∀ (r' : Wn),
            r' =
                chW (Wn.mk w.d w.m w.c w.t w.s w.g)
                  (ackOk (↑i : Int) (if (65535 : Int) < rest then (65535 : Int) else rest))
                  (ack1 (Wn.mk w.d w.m w.c w.t w.s w.g) (↑i : Int) (if (65535 : Int) < rest then (65535 : Int) else rest)
                    true) →
              Kt Ex.normal (62 : Nat)
                [SV.slice (0 : Nat) (0 : Nat) (1 : Nat) n, SV.ptr (2 : Nat) (0 : Nat) (6 : Nat) (0 : Nat),
                  SV.int IntKind.i64 (IntKind.i64.wrap (rest - if (65535 : Int) < rest then (65535 : Int) else rest)),
                  SV.int IntKind.i64 want, SV.int IntKind.i64 (IntKind.i64.wrap ((↑i : Int) + (1 : Int)))]
                [BO.raw (some (Blk.mk (1 : Nat) n (fun r => [SV.int IntKind.i64 (p r)]) false (0 : Nat))),
                  BO.rows (3 : Nat) (1 : Nat) true (26 : Nat)
                    [[SV.int IntKind.i64 x, SV.int IntKind.i64 y, SV.int IntKind.i64 z]],
                  BO.rows (6 : Nat) (1 : Nat) true (23 : Nat)
                    [[SV.int IntKind.i64 r'.d, SV.int IntKind.i64 r'.m, SV.int IntKind.i64 r'.c, SV.int IntKind.i64 r'.t,
                        SV.int IntKind.i64 r'.s, SV.int IntKind.i64 r'.g]]]
      else
        ∀ (r' : Wn),
          r' =
              chW (Wn.mk w.d w.m w.c w.t w.s w.g) (ackOk (↑i : Int) (if (65535 : Int) < rest then (65535 : Int) else rest))
                (ack1 (Wn.mk w.d w.m w.c w.t w.s w.g) (↑i : Int) (if (65535 : Int) < rest then (65535 : Int) else rest)
                  true) →
            Kt Ex.normal (62 : Nat)
              [SV.slice (0 : Nat) (0 : Nat) (1 : Nat) n, SV.ptr (2 : Nat) (0 : Nat) (6 : Nat) (0 : Nat),
                SV.int IntKind.i64 (IntKind.i64.wrap (rest - if (65535 : Int) < rest then (65535 : Int) else rest)),
                SV.int IntKind.i64 want, SV.int IntKind.i64 (IntKind.i64.wrap ((↑i : Int) + (1 : Int)))]
              [BO.raw (some (Blk.mk (1 : Nat) n (fun r => [SV.int IntKind.i64 (p r)]) false (0 : Nat))),
                BO.rows (3 : Nat) (1 : Nat) true (26 : Nat)
                  [[SV.int IntKind.i64 x, SV.int IntKind.i64 y, SV.int IntKind.i64 z]],
                BO.rows (6 : Nat) (1 : Nat) true (23 : Nat)
                  [[SV.int IntKind.i64 r'.d, SV.int IntKind.i64 r'.m, SV.int IntKind.i64 r'.c, SV.int IntKind.i64 r'.t,
                      SV.int IntKind.i64 r'.s, SV.int IntKind.i64 r'.g]]]
    else
      Kt (Ex.exit (0 : Nat)) (62 : Nat)
        [SV.slice (0 : Nat) (0 : Nat) (1 : Nat) n, SV.ptr (2 : Nat) (0 : Nat) (6 : Nat) (0 : Nat), SV.int IntKind.i64 rest,
          SV.int IntKind.i64 want, SV.int IntKind.i64 (↑i : Int)]
        [BO.raw (some (Blk.mk (1 : Nat) n (fun r => [SV.int IntKind.i64 (p r)]) false (0 : Nat))),
          BO.rows (3 : Nat) (1 : Nat) true (26 : Nat) [[SV.int IntKind.i64 x, SV.int IntKind.i64 y, SV.int IntKind.i64 z]],
          BO.rows (6 : Nat) (1 : Nat) true (23 : Nat)
            [[SV.int IntKind.i64 w.d, SV.int IntKind.i64 w.m, SV.int IntKind.i64 w.c, SV.int IntKind.i64 w.t,
                SV.int IntKind.i64 w.s, SV.int IntKind.i64 w.g]]]) := by kernel_rfl
theorem p7sd (n : Nat) (p : Nat → Int) (x y z : Int) (w : Wn) (rest want : Int) (kk : SV → Prop) : evalC C8 0  1 c7_6 (tplF 62 L7 (v7s n rest want .top)) ((h7s n p x y z w).map mkB) ( endK Try.prog Try.f7.results.toList (fun v _ => kk v)) = (
    bif w.c == want then bif w.g == (0 : Int) then kk (SV.bool true) else kk (SV.bool false) else kk (SV.bool false)) := by kernel_rfl
theorem p8sa (n : Nat) (p : Nat → Int) (x y z : Int) (Kt : KT) (kr : SV → Prop) : evalC C8 0  1 (.seq c8_0 (.seq c8_1 (.seq c8_2 (.seq c8_3 (.seq c8_4 (.seq c8_5 .skip)))))) (enterS 99 [.agg [.int .i64 x, .int .i64 y, .int .i64 z], .slice 0 0 1 n]) [some (bI n p)] ( obsE Try.prog Try.f8.results.toList L8 M8s Kt kr) = (
    ∀ (r' : Wn),
      r' = madeW x y z →
        ∀ (r'_1 : Wn),
          r'_1 =
              chW (Wn.mk r'.d r'.m r'.c r'.t r'.s r'.g) (isT (0 : Int) && isT (0 : Int))
                (bad1 (Wn.mk r'.d r'.m r'.c r'.t r'.s r'.g) (0 : Int) (0 : Int)) →
            bif
                mayW (Wn.mk r'_1.d r'_1.m r'_1.c r'_1.t r'_1.s r'_1.g) &&
                  slowV (Wn.mk r'_1.d r'_1.m r'_1.c r'_1.t r'_1.s r'_1.g) then
              bif
                  (bif mayW (Wn.mk r'_1.d r'_1.m r'_1.c r'_1.t r'_1.s r'_1.g) then (0 : Int) else (2 : Int)) ==
                    (0 : Int) then
                kr (SV.bool true)
              else kr (SV.bool false)
            else
              bif decide ((4000000 : Int) < r'_1.c) then
                bif
                    (bif mayW (Wn.mk r'_1.d r'_1.m r'_1.c r'_1.t r'_1.s r'_1.g) then (0 : Int) else (2 : Int)) ==
                      (0 : Int) then
                  kr (SV.bool true)
                else kr (SV.bool false)
              else
                Kt Ex.normal (99 : Nat)
                  [SV.slice (0 : Nat) (0 : Nat) (1 : Nat) n, SV.ptr (2 : Nat) (0 : Nat) (6 : Nat) (0 : Nat),
                    SV.ptr (3 : Nat) (0 : Nat) (6 : Nat) (0 : Nat), SV.int IntKind.i64 r'_1.c, SV.top]
                  [BO.raw (some (Blk.mk (1 : Nat) n (fun r => [SV.int IntKind.i64 (p r)]) false (0 : Nat))),
                    BO.rows (3 : Nat) (1 : Nat) true (26 : Nat)
                      [[SV.int IntKind.i64 x, SV.int IntKind.i64 y, SV.int IntKind.i64 z]],
                    BO.rows (6 : Nat) (1 : Nat) true (23 : Nat)
                      [[SV.int IntKind.i64 r'_1.d, SV.int IntKind.i64 r'_1.m, SV.int IntKind.i64 r'_1.c,
                          SV.int IntKind.i64 r'_1.t, SV.int IntKind.i64 r'_1.s, SV.int IntKind.i64 r'_1.g]],
                    BO.rows (6 : Nat) (1 : Nat) true (23 : Nat)
                      [[SV.int IntKind.i64 r'_1.d, SV.int IntKind.i64 r'_1.m, SV.int IntKind.i64 r'_1.c,
                          SV.int IntKind.i64 r'_1.t, SV.int IntKind.i64 r'_1.s, SV.int IntKind.i64 r'_1.g]]]) := by kernel_rfl
theorem p8sb (n : Nat) (p : Nat → Int) (x y z : Int) (w u : Wn) (rest : Int) (Kt : KT) : evalC C8 0  1 c8_6 (tplF 99 L8 (v8s n rest .top)) ((h8s n p x y z w u).map mkB) ( obsN L8 M8s Kt) = (
    Kt Ex.normal (99 : Nat)
      [SV.slice (0 : Nat) (0 : Nat) (1 : Nat) n, SV.ptr (2 : Nat) (0 : Nat) (6 : Nat) (0 : Nat),
        SV.ptr (3 : Nat) (0 : Nat) (6 : Nat) (0 : Nat), SV.int IntKind.i64 rest, SV.int IntKind.i64 (0 : Int)]
      [BO.raw (some (Blk.mk (1 : Nat) n (fun r => [SV.int IntKind.i64 (p r)]) false (0 : Nat))),
        BO.rows (3 : Nat) (1 : Nat) true (26 : Nat) [[SV.int IntKind.i64 x, SV.int IntKind.i64 y, SV.int IntKind.i64 z]],
        BO.rows (6 : Nat) (1 : Nat) true (23 : Nat)
          [[SV.int IntKind.i64 w.d, SV.int IntKind.i64 w.m, SV.int IntKind.i64 w.c, SV.int IntKind.i64 w.t,
              SV.int IntKind.i64 w.s, SV.int IntKind.i64 w.g]],
        BO.rows (6 : Nat) (1 : Nat) true (23 : Nat)
          [[SV.int IntKind.i64 u.d, SV.int IntKind.i64 u.m, SV.int IntKind.i64 u.c, SV.int IntKind.i64 u.t,
              SV.int IntKind.i64 u.s, SV.int IntKind.i64 u.g]]]) := by kernel_rfl
theorem p8sc (n : Nat) (p : Nat → Int) (x y z : Int) (w u : Wn) (rest : Int) (i : Nat) (Kt : KT) (kr : SV → Prop) : evalC C8 0  1 c8_7 (tplF 99 L8 (v8s n rest (.int .i64 i))) ((h8s n p x y z w u).map mkB) ( obsE Try.prog Try.f8.results.toList L8 M8s Kt kr) = (
    bif decide ((0 : Int) < rest) then
      bif decide ((↑i : Int) < (↑n : Int)) then
        bif decide ((↑i : Int) < (50 : Int)) then
          bif decide ((↑i : Int) < (↑n : Int)) then
            bif decide ((0 : Nat) + (↑i : Int).toNat < n) && true then
              bif
                  decide ((0 : Int) < if (65535 : Int) < rest then (65535 : Int) else rest) &&
                    decide ((if (65535 : Int) < rest then (65535 : Int) else rest) ≤ (9223372036854775807 : Int)) then
                bif w.c != u.c then kr (SV.bool false)
                else
                  bif w.g != IntKind.i64.wrap (u.c - rest) then kr (SV.bool false)
                  else
                    ∀ (r' : Wn),
                      r' =
                          chW (Wn.mk w.d w.m w.c w.t w.s w.g)
                            (ackOk (IntKind.i64.wrap ((1 : Int) + (↑i : Int)))
                              (IntKind.i64.wrap
                                ((1 : Int) +
                                  p ((0 : Nat) + (↑i : Int).toNat) % if (65535 : Int) < rest then (65535 : Int) else rest)))
                            (ack1 (Wn.mk w.d w.m w.c w.t w.s w.g) (IntKind.i64.wrap ((1 : Int) + (↑i : Int)))
                              (IntKind.i64.wrap
                                ((1 : Int) +
                                  p ((0 : Nat) + (↑i : Int).toNat) % if (65535 : Int) < rest then (65535 : Int) else rest))
                              true) →
                        Kt Ex.normal (99 : Nat)
                          [SV.slice (0 : Nat) (0 : Nat) (1 : Nat) n, SV.ptr (2 : Nat) (0 : Nat) (6 : Nat) (0 : Nat),
                            SV.ptr (3 : Nat) (0 : Nat) (6 : Nat) (0 : Nat),
                            SV.int IntKind.i64
                              (IntKind.i64.wrap
                                (rest -
                                  IntKind.i64.wrap
                                    ((1 : Int) +
                                      p ((0 : Nat) + (↑i : Int).toNat) %
                                        if (65535 : Int) < rest then (65535 : Int) else rest))),
                            SV.int IntKind.i64 (IntKind.i64.wrap ((↑i : Int) + (1 : Int)))]
                          [BO.raw (some (Blk.mk (1 : Nat) n (fun r => [SV.int IntKind.i64 (p r)]) false (0 : Nat))),
                            BO.rows (3 : Nat) (1 : Nat) true (26 : Nat)
                              [[SV.int IntKind.i64 x, SV.int IntKind.i64 y, SV.int IntKind.i64 z]],
                            BO.rows (6 : Nat) (1 : Nat) true (23 : Nat)
                              [[SV.int IntKind.i64 r'.d, SV.int IntKind.i64 r'.m, SV.int IntKind.i64 r'.c,
                                  SV.int IntKind.i64 r'.t, SV.int IntKind.i64 r'.s, SV.int IntKind.i64 r'.g]],
                            BO.rows (6 : Nat) (1 : Nat) true (23 : Nat)
                              [[SV.int IntKind.i64 u.d, SV.int IntKind.i64 u.m, SV.int IntKind.i64 u.c,
                                  SV.int IntKind.i64 u.t, SV.int IntKind.i64 u.s, SV.int IntKind.i64 u.g]]]
              else False
            else False
          else False
        else
          bif w.c != u.c then kr (SV.bool false)
          else
            bif w.g != IntKind.i64.wrap (u.c - rest) then kr (SV.bool false)
            else
              ∀ (r' : Wn),
                r' =
                    chW (Wn.mk w.d w.m w.c w.t w.s w.g)
                      (ackOk (IntKind.i64.wrap ((1 : Int) + (↑i : Int)))
                        (if (65535 : Int) < rest then (65535 : Int) else rest))
                      (ack1 (Wn.mk w.d w.m w.c w.t w.s w.g) (IntKind.i64.wrap ((1 : Int) + (↑i : Int)))
                        (if (65535 : Int) < rest then (65535 : Int) else rest) true) →
                  Kt Ex.normal (99 : Nat)
                    [SV.slice (0 : Nat) (0 : Nat) (1 : Nat) n, SV.ptr (2 : Nat) (0 : Nat) (6 : Nat) (0 : Nat),
                      SV.ptr (3 : Nat) (0 : Nat) (6 : Nat) (0 : Nat),
                      SV.int IntKind.i64 (IntKind.i64.wrap (rest - if (65535 : Int) < rest then (65535 : Int) else rest)),
                      SV.int IntKind.i64 (IntKind.i64.wrap ((↑i : Int) + (1 : Int)))]
                    [BO.raw (some (Blk.mk (1 : Nat) n (fun r => [SV.int IntKind.i64 (p r)]) false (0 : Nat))),
                      BO.rows (3 : Nat) (1 : Nat) true (26 : Nat)
                        [[SV.int IntKind.i64 x, SV.int IntKind.i64 y, SV.int IntKind.i64 z]],
                      BO.rows (6 : Nat) (1 : Nat) true (23 : Nat)
                        [[SV.int IntKind.i64 r'.d, SV.int IntKind.i64 r'.m, SV.int IntKind.i64 r'.c,
                            SV.int IntKind.i64 r'.t, SV.int IntKind.i64 r'.s, SV.int IntKind.i64 r'.g]],
                      BO.rows (6 : Nat) (1 : Nat) true (23 : Nat)
                        [[SV.int IntKind.i64 u.d, SV.int IntKind.i64 u.m, SV.int IntKind.i64 u.c, SV.int IntKind.i64 u.t,
                            SV.int IntKind.i64 u.s, SV.int IntKind.i64 u.g]]]
      else
        bif w.c != u.c then kr (SV.bool false)
        else
          bif w.g != IntKind.i64.wrap (u.c - rest) then kr (SV.bool false)
          else
            ∀ (r' : Wn),
              r' =
                  chW (Wn.mk w.d w.m w.c w.t w.s w.g)
                    (ackOk (IntKind.i64.wrap ((1 : Int) + (↑i : Int)))
                      (if (65535 : Int) < rest then (65535 : Int) else rest))
                    (ack1 (Wn.mk w.d w.m w.c w.t w.s w.g) (IntKind.i64.wrap ((1 : Int) + (↑i : Int)))
                      (if (65535 : Int) < rest then (65535 : Int) else rest) true) →
                Kt Ex.normal (99 : Nat)
                  [SV.slice (0 : Nat) (0 : Nat) (1 : Nat) n, SV.ptr (2 : Nat) (0 : Nat) (6 : Nat) (0 : Nat),
                    SV.ptr (3 : Nat) (0 : Nat) (6 : Nat) (0 : Nat),
                    SV.int IntKind.i64 (IntKind.i64.wrap (rest - if (65535 : Int) < rest then (65535 : Int) else rest)),
                    SV.int IntKind.i64 (IntKind.i64.wrap ((↑i : Int) + (1 : Int)))]
                  [BO.raw (some (Blk.mk (1 : Nat) n (fun r => [SV.int IntKind.i64 (p r)]) false (0 : Nat))),
                    BO.rows (3 : Nat) (1 : Nat) true (26 : Nat)
                      [[SV.int IntKind.i64 x, SV.int IntKind.i64 y, SV.int IntKind.i64 z]],
                    BO.rows (6 : Nat) (1 : Nat) true (23 : Nat)
                      [[SV.int IntKind.i64 r'.d, SV.int IntKind.i64 r'.m, SV.int IntKind.i64 r'.c, SV.int IntKind.i64 r'.t,
                          SV.int IntKind.i64 r'.s, SV.int IntKind.i64 r'.g]],
                    BO.rows (6 : Nat) (1 : Nat) true (23 : Nat)
                      [[SV.int IntKind.i64 u.d, SV.int IntKind.i64 u.m, SV.int IntKind.i64 u.c, SV.int IntKind.i64 u.t,
                          SV.int IntKind.i64 u.s, SV.int IntKind.i64 u.g]]]
    else
      Kt (Ex.exit (0 : Nat)) (99 : Nat)
        [SV.slice (0 : Nat) (0 : Nat) (1 : Nat) n, SV.ptr (2 : Nat) (0 : Nat) (6 : Nat) (0 : Nat),
          SV.ptr (3 : Nat) (0 : Nat) (6 : Nat) (0 : Nat), SV.int IntKind.i64 rest, SV.int IntKind.i64 (↑i : Int)]
        [BO.raw (some (Blk.mk (1 : Nat) n (fun r => [SV.int IntKind.i64 (p r)]) false (0 : Nat))),
          BO.rows (3 : Nat) (1 : Nat) true (26 : Nat) [[SV.int IntKind.i64 x, SV.int IntKind.i64 y, SV.int IntKind.i64 z]],
          BO.rows (6 : Nat) (1 : Nat) true (23 : Nat)
            [[SV.int IntKind.i64 w.d, SV.int IntKind.i64 w.m, SV.int IntKind.i64 w.c, SV.int IntKind.i64 w.t,
                SV.int IntKind.i64 w.s, SV.int IntKind.i64 w.g]],
          BO.rows (6 : Nat) (1 : Nat) true (23 : Nat)
            [[SV.int IntKind.i64 u.d, SV.int IntKind.i64 u.m, SV.int IntKind.i64 u.c, SV.int IntKind.i64 u.t,
                SV.int IntKind.i64 u.s, SV.int IntKind.i64 u.g]]]) := by kernel_rfl
theorem p8sd (n : Nat) (p : Nat → Int) (x y z : Int) (w u : Wn) (rest : Int) (kk : SV → Prop) : evalC C8 0  1 c8_8 (tplF 99 L8 (v8s n rest .top)) ((h8s n p x y z w u).map mkB) ( endK Try.prog Try.f8.results.toList (fun v _ => kk v)) = (
    bif w.c == if w.m < IntKind.i64.wrap (u.c + w.d) then w.m else IntKind.i64.wrap (u.c + w.d) then
      bif w.g == (0 : Int) then bif w.t == u.t then kk (SV.bool true) else kk (SV.bool false) else kk (SV.bool false)
    else kk (SV.bool false)) := by kernel_rfl
theorem p7ea (x y z : Int) (Kt : KT) : evalC C8 0  0 (.seq c7_0 (.seq c7_1 (.seq c7_2 (.seq c7_3 .skip)))) (enterS 62 [.agg [.int .i64 x, .int .i64 y, .int .i64 z], .eslice]) [] ( obsN L7 M7e Kt) = (
    ∀ (r' : Wn),
      r' = madeW x y z →
        Kt Ex.normal (62 : Nat)
          [SV.eslice, SV.ptr (1 : Nat) (0 : Nat) (6 : Nat) (0 : Nat),
            SV.int IntKind.i64 (if (4000000 : Int) < r'.c then (4000000 : Int) else r'.c),
            SV.int IntKind.i64
              (if r'.m < IntKind.i64.wrap (r'.c + if (4000000 : Int) < r'.c then (4000000 : Int) else r'.c) then r'.m
              else IntKind.i64.wrap (r'.c + if (4000000 : Int) < r'.c then (4000000 : Int) else r'.c)),
            SV.top]
          [BO.rows (3 : Nat) (1 : Nat) true (26 : Nat) [[SV.int IntKind.i64 x, SV.int IntKind.i64 y, SV.int IntKind.i64 z]],
            BO.rows (6 : Nat) (1 : Nat) true (23 : Nat)
              [[SV.int IntKind.i64 r'.d, SV.int IntKind.i64 r'.m, SV.int IntKind.i64 r'.c, SV.int IntKind.i64 r'.t,
                  SV.int IntKind.i64 r'.s, SV.int IntKind.i64 r'.g]]]) := by kernel_rfl
theorem p7eb (x y z : Int) (w : Wn) (rest want : Int) (Kt : KT) : evalC C8 0  0 c7_4 (tplF 62 L7 (v7e rest want .top)) ((h7e x y z w).map mkB) ( obsN L7 M7e Kt) = (
    Kt Ex.normal (62 : Nat)
      [SV.eslice, SV.ptr (1 : Nat) (0 : Nat) (6 : Nat) (0 : Nat), SV.int IntKind.i64 rest, SV.int IntKind.i64 want,
        SV.int IntKind.i64 (0 : Int)]
      [BO.rows (3 : Nat) (1 : Nat) true (26 : Nat) [[SV.int IntKind.i64 x, SV.int IntKind.i64 y, SV.int IntKind.i64 z]],
        BO.rows (6 : Nat) (1 : Nat) true (23 : Nat)
          [[SV.int IntKind.i64 w.d, SV.int IntKind.i64 w.m, SV.int IntKind.i64 w.c, SV.int IntKind.i64 w.t,
              SV.int IntKind.i64 w.s, SV.int IntKind.i64 w.g]]]) := by kernel_rfl
theorem p7ec (x y z : Int) (w : Wn) (rest want : Int) (i : Nat) (Kt : KT) : evalC C8 0  0 c7_5 (tplF 62 L7 (v7e rest want (.int .i64 i))) ((h7e x y z w).map mkB) ( obsN L7 M7e Kt) = (
    bif decide ((0 : Int) < rest) then
      ∀ (r' : Wn),
        r' =
            chW (Wn.mk w.d w.m w.c w.t w.s w.g) (ackOk (↑i : Int) (if (65535 : Int) < rest then (65535 : Int) else rest))
              (ack1 (Wn.mk w.d w.m w.c w.t w.s w.g) (↑i : Int) (if (65535 : Int) < rest then (65535 : Int) else rest)
                true) →
          Kt Ex.normal (62 : Nat)
            [SV.eslice, SV.ptr (1 : Nat) (0 : Nat) (6 : Nat) (0 : Nat),
              SV.int IntKind.i64 (IntKind.i64.wrap (rest - if (65535 : Int) < rest then (65535 : Int) else rest)),
              SV.int IntKind.i64 want, SV.int IntKind.i64 (IntKind.i64.wrap ((↑i : Int) + (1 : Int)))]
            [BO.rows (3 : Nat) (1 : Nat) true (26 : Nat)
                [[SV.int IntKind.i64 x, SV.int IntKind.i64 y, SV.int IntKind.i64 z]],
              BO.rows (6 : Nat) (1 : Nat) true (23 : Nat)
                [[SV.int IntKind.i64 r'.d, SV.int IntKind.i64 r'.m, SV.int IntKind.i64 r'.c, SV.int IntKind.i64 r'.t,
                    SV.int IntKind.i64 r'.s, SV.int IntKind.i64 r'.g]]]
    else
      Kt (Ex.exit (0 : Nat)) (62 : Nat)
        [SV.eslice, SV.ptr (1 : Nat) (0 : Nat) (6 : Nat) (0 : Nat), SV.int IntKind.i64 rest, SV.int IntKind.i64 want,
          SV.int IntKind.i64 (↑i : Int)]
        [BO.rows (3 : Nat) (1 : Nat) true (26 : Nat) [[SV.int IntKind.i64 x, SV.int IntKind.i64 y, SV.int IntKind.i64 z]],
          BO.rows (6 : Nat) (1 : Nat) true (23 : Nat)
            [[SV.int IntKind.i64 w.d, SV.int IntKind.i64 w.m, SV.int IntKind.i64 w.c, SV.int IntKind.i64 w.t,
                SV.int IntKind.i64 w.s, SV.int IntKind.i64 w.g]]]) := by kernel_rfl
theorem p7ed (x y z : Int) (w : Wn) (rest want : Int) (kk : SV → Prop) : evalC C8 0  0 c7_6 (tplF 62 L7 (v7e rest want .top)) ((h7e x y z w).map mkB) ( endK Try.prog Try.f7.results.toList (fun v _ => kk v)) = (
    bif w.c == want then bif w.g == (0 : Int) then kk (SV.bool true) else kk (SV.bool false) else kk (SV.bool false)) := by kernel_rfl
theorem p8ea (x y z : Int) (Kt : KT) (kr : SV → Prop) : evalC C8 0  0 (.seq c8_0 (.seq c8_1 (.seq c8_2 (.seq c8_3 (.seq c8_4 (.seq c8_5 .skip)))))) (enterS 99 [.agg [.int .i64 x, .int .i64 y, .int .i64 z], .eslice]) [] ( obsE Try.prog Try.f8.results.toList L8 M8e Kt kr) = (
    ∀ (r' : Wn),
      r' = madeW x y z →
        ∀ (r'_1 : Wn),
          r'_1 =
              chW (Wn.mk r'.d r'.m r'.c r'.t r'.s r'.g) (isT (0 : Int) && isT (0 : Int))
                (bad1 (Wn.mk r'.d r'.m r'.c r'.t r'.s r'.g) (0 : Int) (0 : Int)) →
            bif
                mayW (Wn.mk r'_1.d r'_1.m r'_1.c r'_1.t r'_1.s r'_1.g) &&
                  slowV (Wn.mk r'_1.d r'_1.m r'_1.c r'_1.t r'_1.s r'_1.g) then
              bif
                  (bif mayW (Wn.mk r'_1.d r'_1.m r'_1.c r'_1.t r'_1.s r'_1.g) then (0 : Int) else (2 : Int)) ==
                    (0 : Int) then
                kr (SV.bool true)
              else kr (SV.bool false)
            else
              bif decide ((4000000 : Int) < r'_1.c) then
                bif
                    (bif mayW (Wn.mk r'_1.d r'_1.m r'_1.c r'_1.t r'_1.s r'_1.g) then (0 : Int) else (2 : Int)) ==
                      (0 : Int) then
                  kr (SV.bool true)
                else kr (SV.bool false)
              else
                Kt Ex.normal (99 : Nat)
                  [SV.eslice, SV.ptr (1 : Nat) (0 : Nat) (6 : Nat) (0 : Nat),
                    SV.ptr (2 : Nat) (0 : Nat) (6 : Nat) (0 : Nat), SV.int IntKind.i64 r'_1.c, SV.top]
                  [BO.rows (3 : Nat) (1 : Nat) true (26 : Nat)
                      [[SV.int IntKind.i64 x, SV.int IntKind.i64 y, SV.int IntKind.i64 z]],
                    BO.rows (6 : Nat) (1 : Nat) true (23 : Nat)
                      [[SV.int IntKind.i64 r'_1.d, SV.int IntKind.i64 r'_1.m, SV.int IntKind.i64 r'_1.c,
                          SV.int IntKind.i64 r'_1.t, SV.int IntKind.i64 r'_1.s, SV.int IntKind.i64 r'_1.g]],
                    BO.rows (6 : Nat) (1 : Nat) true (23 : Nat)
                      [[SV.int IntKind.i64 r'_1.d, SV.int IntKind.i64 r'_1.m, SV.int IntKind.i64 r'_1.c,
                          SV.int IntKind.i64 r'_1.t, SV.int IntKind.i64 r'_1.s, SV.int IntKind.i64 r'_1.g]]]) := by kernel_rfl
theorem p8eb (x y z : Int) (w u : Wn) (rest : Int) (Kt : KT) : evalC C8 0  0 c8_6 (tplF 99 L8 (v8e rest .top)) ((h8e x y z w u).map mkB) ( obsN L8 M8e Kt) = (
    Kt Ex.normal (99 : Nat)
      [SV.eslice, SV.ptr (1 : Nat) (0 : Nat) (6 : Nat) (0 : Nat), SV.ptr (2 : Nat) (0 : Nat) (6 : Nat) (0 : Nat),
        SV.int IntKind.i64 rest, SV.int IntKind.i64 (0 : Int)]
      [BO.rows (3 : Nat) (1 : Nat) true (26 : Nat) [[SV.int IntKind.i64 x, SV.int IntKind.i64 y, SV.int IntKind.i64 z]],
        BO.rows (6 : Nat) (1 : Nat) true (23 : Nat)
          [[SV.int IntKind.i64 w.d, SV.int IntKind.i64 w.m, SV.int IntKind.i64 w.c, SV.int IntKind.i64 w.t,
              SV.int IntKind.i64 w.s, SV.int IntKind.i64 w.g]],
        BO.rows (6 : Nat) (1 : Nat) true (23 : Nat)
          [[SV.int IntKind.i64 u.d, SV.int IntKind.i64 u.m, SV.int IntKind.i64 u.c, SV.int IntKind.i64 u.t,
              SV.int IntKind.i64 u.s, SV.int IntKind.i64 u.g]]]) := by kernel_rfl
theorem p8ec (x y z : Int) (w u : Wn) (rest : Int) (i : Nat) (Kt : KT) (kr : SV → Prop) : evalC C8 0  0 c8_7 (tplF 99 L8 (v8e rest (.int .i64 i))) ((h8e x y z w u).map mkB) ( obsE Try.prog Try.f8.results.toList L8 M8e Kt kr) = (
    bif decide ((0 : Int) < rest) then
      bif w.c != u.c then kr (SV.bool false)
      else
        bif w.g != IntKind.i64.wrap (u.c - rest) then kr (SV.bool false)
        else
          ∀ (r' : Wn),
            r' =
                chW (Wn.mk w.d w.m w.c w.t w.s w.g)
                  (ackOk (IntKind.i64.wrap ((1 : Int) + (↑i : Int))) (if (65535 : Int) < rest then (65535 : Int) else rest))
                  (ack1 (Wn.mk w.d w.m w.c w.t w.s w.g) (IntKind.i64.wrap ((1 : Int) + (↑i : Int)))
                    (if (65535 : Int) < rest then (65535 : Int) else rest) true) →
              Kt Ex.normal (99 : Nat)
                [SV.eslice, SV.ptr (1 : Nat) (0 : Nat) (6 : Nat) (0 : Nat), SV.ptr (2 : Nat) (0 : Nat) (6 : Nat) (0 : Nat),
                  SV.int IntKind.i64 (IntKind.i64.wrap (rest - if (65535 : Int) < rest then (65535 : Int) else rest)),
                  SV.int IntKind.i64 (IntKind.i64.wrap ((↑i : Int) + (1 : Int)))]
                [BO.rows (3 : Nat) (1 : Nat) true (26 : Nat)
                    [[SV.int IntKind.i64 x, SV.int IntKind.i64 y, SV.int IntKind.i64 z]],
                  BO.rows (6 : Nat) (1 : Nat) true (23 : Nat)
                    [[SV.int IntKind.i64 r'.d, SV.int IntKind.i64 r'.m, SV.int IntKind.i64 r'.c, SV.int IntKind.i64 r'.t,
                        SV.int IntKind.i64 r'.s, SV.int IntKind.i64 r'.g]],
                  BO.rows (6 : Nat) (1 : Nat) true (23 : Nat)
                    [[SV.int IntKind.i64 u.d, SV.int IntKind.i64 u.m, SV.int IntKind.i64 u.c, SV.int IntKind.i64 u.t,
                        SV.int IntKind.i64 u.s, SV.int IntKind.i64 u.g]]]
    else
      Kt (Ex.exit (0 : Nat)) (99 : Nat)
        [SV.eslice, SV.ptr (1 : Nat) (0 : Nat) (6 : Nat) (0 : Nat), SV.ptr (2 : Nat) (0 : Nat) (6 : Nat) (0 : Nat),
          SV.int IntKind.i64 rest, SV.int IntKind.i64 (↑i : Int)]
        [BO.rows (3 : Nat) (1 : Nat) true (26 : Nat) [[SV.int IntKind.i64 x, SV.int IntKind.i64 y, SV.int IntKind.i64 z]],
          BO.rows (6 : Nat) (1 : Nat) true (23 : Nat)
            [[SV.int IntKind.i64 w.d, SV.int IntKind.i64 w.m, SV.int IntKind.i64 w.c, SV.int IntKind.i64 w.t,
                SV.int IntKind.i64 w.s, SV.int IntKind.i64 w.g]],
          BO.rows (6 : Nat) (1 : Nat) true (23 : Nat)
            [[SV.int IntKind.i64 u.d, SV.int IntKind.i64 u.m, SV.int IntKind.i64 u.c, SV.int IntKind.i64 u.t,
                SV.int IntKind.i64 u.s, SV.int IntKind.i64 u.g]]]) := by kernel_rfl
theorem p8ed (x y z : Int) (w u : Wn) (rest : Int) (kk : SV → Prop) : evalC C8 0  0 c8_8 (tplF 99 L8 (v8e rest .top)) ((h8e x y z w u).map mkB) ( endK Try.prog Try.f8.results.toList (fun v _ => kk v)) = (
    bif w.c == if w.m < IntKind.i64.wrap (u.c + w.d) then w.m else IntKind.i64.wrap (u.c + w.d) then
      bif w.g == (0 : Int) then bif w.t == u.t then kk (SV.bool true) else kk (SV.bool false) else kk (SV.bool false)
    else kk (SV.bool false)) := by kernel_rfl
end Go.Proofs.Ytefjhkgkdmjopaa
