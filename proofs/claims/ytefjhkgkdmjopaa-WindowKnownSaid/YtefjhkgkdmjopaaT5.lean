/-
  What functions of the program come to, way by way: printed by a program, held by the kernel.
-/
import Derived.Test.YtefjhkgkdmjopaaX5
namespace Go.Proofs.Ytefjhkgkdmjopaa
open Go.RowKit
set_option maxRecDepth 100000

theorem p5a (n : Nat) (g : Nat → Th) (x y z : Int) (Kt : KT) : evalC C8 0  1 (.seq c5_0 (.seq c5_1 (.seq c5_2 .skip))) (enterS 78 [.agg [.int .i64 x, .int .i64 y, .int .i64 z], .slice 0 0 5 n]) [some (bT n g)] ( obsN L5 M5 Kt) = (
    ∀ (r' : Wn),
      r' = madeW x y z →
        Kt Ex.normal (78 : Nat)
          [SV.slice (0 : Nat) (0 : Nat) (5 : Nat) n, SV.ptr (1 : Nat) (0 : Nat) (3 : Nat) (0 : Nat),
            SV.ptr (2 : Nat) (0 : Nat) (6 : Nat) (0 : Nat), SV.top]
          [BO.raw
              (some
                (Blk.mk (5 : Nat) n
                  (fun r =>
                    [SV.int IntKind.i64 (g r).k, SV.int IntKind.i64 (g r).t, SV.int IntKind.i64 (g r).n,
                      SV.int IntKind.i64 (g r).s, SV.bool (g r).f])
                  false (0 : Nat))),
            BO.rows (3 : Nat) (1 : Nat) true (26 : Nat)
              [[SV.int IntKind.i64 x, SV.int IntKind.i64 y, SV.int IntKind.i64 z]],
            BO.rows (6 : Nat) (1 : Nat) true (23 : Nat)
              [[SV.int IntKind.i64 r'.d, SV.int IntKind.i64 r'.m, SV.int IntKind.i64 r'.c, SV.int IntKind.i64 r'.t,
                  SV.int IntKind.i64 r'.s, SV.int IntKind.i64 r'.g]]]) := by kernel_rfl
theorem p5b (n : Nat) (g : Nat → Th) (x y z : Int) (w : Wn) (Kt : KT) : evalC C8 0  1 c5_3 (tplF 78 L5 (v5 n .top)) ((h5 n g x y z w).map mkB) ( obsN L5 M5 Kt) = (
    Kt Ex.normal (78 : Nat)
      [SV.slice (0 : Nat) (0 : Nat) (5 : Nat) n, SV.ptr (1 : Nat) (0 : Nat) (3 : Nat) (0 : Nat),
        SV.ptr (2 : Nat) (0 : Nat) (6 : Nat) (0 : Nat), SV.int IntKind.i64 (0 : Int)]
      [BO.raw
          (some
            (Blk.mk (5 : Nat) n
              (fun r =>
                [SV.int IntKind.i64 (g r).k, SV.int IntKind.i64 (g r).t, SV.int IntKind.i64 (g r).n,
                  SV.int IntKind.i64 (g r).s, SV.bool (g r).f])
              false (0 : Nat))),
        BO.rows (3 : Nat) (1 : Nat) true (26 : Nat) [[SV.int IntKind.i64 x, SV.int IntKind.i64 y, SV.int IntKind.i64 z]],
        BO.rows (6 : Nat) (1 : Nat) true (23 : Nat)
          [[SV.int IntKind.i64 w.d, SV.int IntKind.i64 w.m, SV.int IntKind.i64 w.c, SV.int IntKind.i64 w.t,
              SV.int IntKind.i64 w.s, SV.int IntKind.i64 w.g]]]) := by kernel_rfl
theorem p5c (n : Nat) (g : Nat → Th) (x y z : Int) (w : Wn) (i : Nat) (Kt : KT) (kr : SV → Prop) : evalC C8 0  1 c5_4 (tplF 78 L5 (v5 n (.int .i64 i))) ((h5 n g x y z w).map mkB) ( obsE Try.prog Try.f5.results.toList L5 M5 Kt kr) = (
    bif decide ((↑i : Int) ≤ (↑n : Int)) then
      bif decide ((↑i : Int) ≤ (100 : Int)) then
        bif (bif mayW (Wn.mk w.d w.m w.c w.t w.s w.g) then (0 : Int) else (2 : Int)) != (0 : Int) then kr (SV.bool false)
        else
          bif decide (w.c < IntKind.i64.wrap ((2 : Int) * w.d)) then kr (SV.bool false)
          else
            bif decide (w.m < w.c) then kr (SV.bool false)
            else
              bif decide (w.g < (0 : Int)) then kr (SV.bool false)
              else
                bif decide (w.c ≤ w.g) then kr (SV.bool false)
                else
                  bif w.d != IntKind.i64.wrap ((1200 : Int) + x % (64328 : Int)) then kr (SV.bool false)
                  else
                    bif decide ((↑i : Int) < (↑n : Int)) then
                      bif decide ((↑i : Int) < (↑n : Int)) then
                        bif decide ((0 : Nat) + (↑i : Int).toNat < n) && true then
                          mayW (Wn.mk w.d w.m w.c w.t w.s w.g) = true ∧
                            ∀ (r' : Wn),
                              r' =
                                  stepW (Wn.mk w.d w.m w.c w.t w.s w.g)
                                    (Th.mk (g ((0 : Nat) + (↑i : Int).toNat)).k (g ((0 : Nat) + (↑i : Int).toNat)).t
                                      (g ((0 : Nat) + (↑i : Int).toNat)).n (g ((0 : Nat) + (↑i : Int).toNat)).s
                                      (g ((0 : Nat) + (↑i : Int).toNat)).f) →
                                Kt Ex.normal (78 : Nat)
                                  [SV.slice (0 : Nat) (0 : Nat) (5 : Nat) n, SV.ptr (1 : Nat) (0 : Nat) (3 : Nat) (0 : Nat),
                                    SV.ptr (2 : Nat) (0 : Nat) (6 : Nat) (0 : Nat),
                                    SV.int IntKind.i64 (IntKind.i64.wrap ((↑i : Int) + (1 : Int)))]
                                  [BO.raw
                                      (some
                                        (Blk.mk (5 : Nat) n
                                          (fun r =>
                                            [SV.int IntKind.i64 (g r).k, SV.int IntKind.i64 (g r).t,
                                              SV.int IntKind.i64 (g r).n, SV.int IntKind.i64 (g r).s, SV.bool (g r).f])
                                          false (0 : Nat))),
                                    BO.rows (3 : Nat) (1 : Nat) true (26 : Nat)
                                      [[SV.int IntKind.i64 x, SV.int IntKind.i64 y, SV.int IntKind.i64 z]],
                                    BO.rows (6 : Nat) (1 : Nat) true (23 : Nat)
                                      [[SV.int IntKind.i64 r'.d, SV.int IntKind.i64 r'.m, SV.int IntKind.i64 r'.c,
                                          SV.int IntKind.i64 r'.t, SV.int IntKind.i64 r'.s, SV.int IntKind.i64 r'.g]]]
                        else False
                      else False
                    else
                      Kt Ex.normal (78 : Nat)
                        [SV.slice (0 : Nat) (0 : Nat) (5 : Nat) n, SV.ptr (1 : Nat) (0 : Nat) (3 : Nat) (0 : Nat),
                          SV.ptr (2 : Nat) (0 : Nat) (6 : Nat) (0 : Nat),
                          SV.int IntKind.i64 (IntKind.i64.wrap ((↑i : Int) + (1 : Int)))]
                        [BO.raw
                            (some
                              (Blk.mk (5 : Nat) n
                                (fun r =>
                                  [SV.int IntKind.i64 (g r).k, SV.int IntKind.i64 (g r).t, SV.int IntKind.i64 (g r).n,
                                    SV.int IntKind.i64 (g r).s, SV.bool (g r).f])
                                false (0 : Nat))),
                          BO.rows (3 : Nat) (1 : Nat) true (26 : Nat)
                            [[SV.int IntKind.i64 x, SV.int IntKind.i64 y, SV.int IntKind.i64 z]],
                          BO.rows (6 : Nat) (1 : Nat) true (23 : Nat)
                            [[SV.int IntKind.i64 w.d, SV.int IntKind.i64 w.m, SV.int IntKind.i64 w.c,
                                SV.int IntKind.i64 w.t, SV.int IntKind.i64 w.s, SV.int IntKind.i64 w.g]]]
      else
        Kt (Ex.exit (0 : Nat)) (78 : Nat)
          [SV.slice (0 : Nat) (0 : Nat) (5 : Nat) n, SV.ptr (1 : Nat) (0 : Nat) (3 : Nat) (0 : Nat),
            SV.ptr (2 : Nat) (0 : Nat) (6 : Nat) (0 : Nat), SV.int IntKind.i64 (↑i : Int)]
          [BO.raw
              (some
                (Blk.mk (5 : Nat) n
                  (fun r =>
                    [SV.int IntKind.i64 (g r).k, SV.int IntKind.i64 (g r).t, SV.int IntKind.i64 (g r).n,
                      SV.int IntKind.i64 (g r).s, SV.bool (g r).f])
                  false (0 : Nat))),
            BO.rows (3 : Nat) (1 : Nat) true (26 : Nat)
              [[SV.int IntKind.i64 x, SV.int IntKind.i64 y, SV.int IntKind.i64 z]],
            BO.rows (6 : Nat) (1 : Nat) true (23 : Nat)
              [[SV.int IntKind.i64 w.d, SV.int IntKind.i64 w.m, SV.int IntKind.i64 w.c, SV.int IntKind.i64 w.t,
                  SV.int IntKind.i64 w.s, SV.int IntKind.i64 w.g]]]
    else
      Kt (Ex.exit (0 : Nat)) (78 : Nat)
        [SV.slice (0 : Nat) (0 : Nat) (5 : Nat) n, SV.ptr (1 : Nat) (0 : Nat) (3 : Nat) (0 : Nat),
          SV.ptr (2 : Nat) (0 : Nat) (6 : Nat) (0 : Nat), SV.int IntKind.i64 (↑i : Int)]
        [BO.raw
            (some
              (Blk.mk (5 : Nat) n
                (fun r =>
                  [SV.int IntKind.i64 (g r).k, SV.int IntKind.i64 (g r).t, SV.int IntKind.i64 (g r).n,
                    SV.int IntKind.i64 (g r).s, SV.bool (g r).f])
                false (0 : Nat))),
          BO.rows (3 : Nat) (1 : Nat) true (26 : Nat) [[SV.int IntKind.i64 x, SV.int IntKind.i64 y, SV.int IntKind.i64 z]],
          BO.rows (6 : Nat) (1 : Nat) true (23 : Nat)
            [[SV.int IntKind.i64 w.d, SV.int IntKind.i64 w.m, SV.int IntKind.i64 w.c, SV.int IntKind.i64 w.t,
                SV.int IntKind.i64 w.s, SV.int IntKind.i64 w.g]]]) := by kernel_rfl
theorem p5d (n : Nat) (g : Nat → Th) (x y z : Int) (w : Wn) (kk : SV → Prop) : evalC C8 0  1 c5_5 (tplF 78 L5 (v5 n .top)) ((h5 n g x y z w).map mkB) ( endK Try.prog Try.f5.results.toList (fun v _ => kk v)) = (
    kk (SV.bool true)) := by kernel_rfl
theorem t5e (x y z : Int) (kk : SV → Prop) : evalF C8 64 Try.f5 [.agg [.int .i64 x, .int .i64 y, .int .i64 z], .eslice] [] (fun v _ => kk v) = (
    ∀ (r' : Wn),
      r' = madeW x y z →
        bif (bif mayW (Wn.mk r'.d r'.m r'.c r'.t r'.s r'.g) then (0 : Int) else (2 : Int)) != (0 : Int) then
          kk (SV.bool false)
        else
          bif decide (r'.c < IntKind.i64.wrap ((2 : Int) * r'.d)) then kk (SV.bool false)
          else
            bif decide (r'.m < r'.c) then kk (SV.bool false)
            else
              bif decide (r'.g < (0 : Int)) then kk (SV.bool false)
              else
                bif decide (r'.c ≤ r'.g) then kk (SV.bool false)
                else
                  bif r'.d != IntKind.i64.wrap ((1200 : Int) + x % (64328 : Int)) then kk (SV.bool false)
                  else kk (SV.bool true)) := by kernel_rfl
theorem p9a (n : Nat) (g : Nat → Th) (x y z a b : Int) (Kt : KT) : evalC C8 0  1 (.seq c9_0 (.seq c9_1 .skip)) (enterS 95 [.agg [.int .i64 x, .int .i64 y, .int .i64 z], .slice 0 0 5 n, .agg [.int .i64 a, .int .i64 b]]) [some (bT n g)] ( obsN L9 M9 Kt) = (
    ∀ (r' : Wn),
      r' = madeW x y z →
        Kt Ex.normal (95 : Nat)
          [SV.slice (0 : Nat) (0 : Nat) (5 : Nat) n, SV.ptr (2 : Nat) (0 : Nat) (2 : Nat) (0 : Nat),
            SV.ptr (3 : Nat) (0 : Nat) (6 : Nat) (0 : Nat), SV.top]
          [BO.raw
              (some
                (Blk.mk (5 : Nat) n
                  (fun r =>
                    [SV.int IntKind.i64 (g r).k, SV.int IntKind.i64 (g r).t, SV.int IntKind.i64 (g r).n,
                      SV.int IntKind.i64 (g r).s, SV.bool (g r).f])
                  false (0 : Nat))),
            BO.rows (3 : Nat) (1 : Nat) true (26 : Nat)
              [[SV.int IntKind.i64 x, SV.int IntKind.i64 y, SV.int IntKind.i64 z]],
            BO.rows (2 : Nat) (1 : Nat) true (46 : Nat) [[SV.int IntKind.i64 a, SV.int IntKind.i64 b]],
            BO.rows (6 : Nat) (1 : Nat) true (23 : Nat)
              [[SV.int IntKind.i64 r'.d, SV.int IntKind.i64 r'.m, SV.int IntKind.i64 r'.c, SV.int IntKind.i64 r'.t,
                  SV.int IntKind.i64 r'.s, SV.int IntKind.i64 r'.g]]]) := by kernel_rfl
theorem p9b (n : Nat) (g : Nat → Th) (x y z a b : Int) (w : Wn) (Kt : KT) : evalC C8 0  1 c9_2 (tplF 95 L9 (v9 n .top)) ((h9 n g x y z a b w).map mkB) ( obsN L9 M9 Kt) = (
    Kt Ex.normal (95 : Nat)
      [SV.slice (0 : Nat) (0 : Nat) (5 : Nat) n, SV.ptr (2 : Nat) (0 : Nat) (2 : Nat) (0 : Nat),
        SV.ptr (3 : Nat) (0 : Nat) (6 : Nat) (0 : Nat), SV.int IntKind.i64 (0 : Int)]
      [BO.raw
          (some
            (Blk.mk (5 : Nat) n
              (fun r =>
                [SV.int IntKind.i64 (g r).k, SV.int IntKind.i64 (g r).t, SV.int IntKind.i64 (g r).n,
                  SV.int IntKind.i64 (g r).s, SV.bool (g r).f])
              false (0 : Nat))),
        BO.rows (3 : Nat) (1 : Nat) true (26 : Nat) [[SV.int IntKind.i64 x, SV.int IntKind.i64 y, SV.int IntKind.i64 z]],
        BO.rows (2 : Nat) (1 : Nat) true (46 : Nat) [[SV.int IntKind.i64 a, SV.int IntKind.i64 b]],
        BO.rows (6 : Nat) (1 : Nat) true (23 : Nat)
          [[SV.int IntKind.i64 w.d, SV.int IntKind.i64 w.m, SV.int IntKind.i64 w.c, SV.int IntKind.i64 w.t,
              SV.int IntKind.i64 w.s, SV.int IntKind.i64 w.g]]]) := by kernel_rfl
theorem p9c (n : Nat) (g : Nat → Th) (x y z a b : Int) (w : Wn) (i : Nat) (Kt : KT) (kr : SV → Prop) : evalC C8 0  1 c9_3 (tplF 95 L9 (v9 n (.int .i64 i))) ((h9 n g x y z a b w).map mkB) ( obsE Try.prog Try.f9.results.toList L9 M9 Kt kr) = (
    bif decide ((↑i : Int) < (↑n : Int)) then
      bif decide ((↑i : Int) < (60 : Int)) then
        bif decide ((↑i : Int) < (↑n : Int)) then
          bif decide ((0 : Nat) + (↑i : Int).toNat < n) && true then
            mayW (Wn.mk w.d w.m w.c w.t w.s w.g) = true ∧
              ∀ (r' : Wn),
                r' =
                    stepW (Wn.mk w.d w.m w.c w.t w.s w.g)
                      (Th.mk (g ((0 : Nat) + (↑i : Int).toNat)).k (g ((0 : Nat) + (↑i : Int).toNat)).t
                        (g ((0 : Nat) + (↑i : Int).toNat)).n (g ((0 : Nat) + (↑i : Int).toNat)).s
                        (g ((0 : Nat) + (↑i : Int).toNat)).f) →
                  Kt Ex.normal (95 : Nat)
                    [SV.slice (0 : Nat) (0 : Nat) (5 : Nat) n, SV.ptr (2 : Nat) (0 : Nat) (2 : Nat) (0 : Nat),
                      SV.ptr (3 : Nat) (0 : Nat) (6 : Nat) (0 : Nat),
                      SV.int IntKind.i64 (IntKind.i64.wrap ((↑i : Int) + (1 : Int)))]
                    [BO.raw
                        (some
                          (Blk.mk (5 : Nat) n
                            (fun r =>
                              [SV.int IntKind.i64 (g r).k, SV.int IntKind.i64 (g r).t, SV.int IntKind.i64 (g r).n,
                                SV.int IntKind.i64 (g r).s, SV.bool (g r).f])
                            false (0 : Nat))),
                      BO.rows (3 : Nat) (1 : Nat) true (26 : Nat)
                        [[SV.int IntKind.i64 x, SV.int IntKind.i64 y, SV.int IntKind.i64 z]],
                      BO.rows (2 : Nat) (1 : Nat) true (46 : Nat) [[SV.int IntKind.i64 a, SV.int IntKind.i64 b]],
                      BO.rows (6 : Nat) (1 : Nat) true (23 : Nat)
                        [[SV.int IntKind.i64 r'.d, SV.int IntKind.i64 r'.m, SV.int IntKind.i64 r'.c,
                            SV.int IntKind.i64 r'.t, SV.int IntKind.i64 r'.s, SV.int IntKind.i64 r'.g]]]
          else False
        else False
      else
        Kt (Ex.exit (0 : Nat)) (95 : Nat)
          [SV.slice (0 : Nat) (0 : Nat) (5 : Nat) n, SV.ptr (2 : Nat) (0 : Nat) (2 : Nat) (0 : Nat),
            SV.ptr (3 : Nat) (0 : Nat) (6 : Nat) (0 : Nat), SV.int IntKind.i64 (↑i : Int)]
          [BO.raw
              (some
                (Blk.mk (5 : Nat) n
                  (fun r =>
                    [SV.int IntKind.i64 (g r).k, SV.int IntKind.i64 (g r).t, SV.int IntKind.i64 (g r).n,
                      SV.int IntKind.i64 (g r).s, SV.bool (g r).f])
                  false (0 : Nat))),
            BO.rows (3 : Nat) (1 : Nat) true (26 : Nat)
              [[SV.int IntKind.i64 x, SV.int IntKind.i64 y, SV.int IntKind.i64 z]],
            BO.rows (2 : Nat) (1 : Nat) true (46 : Nat) [[SV.int IntKind.i64 a, SV.int IntKind.i64 b]],
            BO.rows (6 : Nat) (1 : Nat) true (23 : Nat)
              [[SV.int IntKind.i64 w.d, SV.int IntKind.i64 w.m, SV.int IntKind.i64 w.c, SV.int IntKind.i64 w.t,
                  SV.int IntKind.i64 w.s, SV.int IntKind.i64 w.g]]]
    else
      Kt (Ex.exit (0 : Nat)) (95 : Nat)
        [SV.slice (0 : Nat) (0 : Nat) (5 : Nat) n, SV.ptr (2 : Nat) (0 : Nat) (2 : Nat) (0 : Nat),
          SV.ptr (3 : Nat) (0 : Nat) (6 : Nat) (0 : Nat), SV.int IntKind.i64 (↑i : Int)]
        [BO.raw
            (some
              (Blk.mk (5 : Nat) n
                (fun r =>
                  [SV.int IntKind.i64 (g r).k, SV.int IntKind.i64 (g r).t, SV.int IntKind.i64 (g r).n,
                    SV.int IntKind.i64 (g r).s, SV.bool (g r).f])
                false (0 : Nat))),
          BO.rows (3 : Nat) (1 : Nat) true (26 : Nat) [[SV.int IntKind.i64 x, SV.int IntKind.i64 y, SV.int IntKind.i64 z]],
          BO.rows (2 : Nat) (1 : Nat) true (46 : Nat) [[SV.int IntKind.i64 a, SV.int IntKind.i64 b]],
          BO.rows (6 : Nat) (1 : Nat) true (23 : Nat)
            [[SV.int IntKind.i64 w.d, SV.int IntKind.i64 w.m, SV.int IntKind.i64 w.c, SV.int IntKind.i64 w.t,
                SV.int IntKind.i64 w.s, SV.int IntKind.i64 w.g]]]) := by kernel_rfl
theorem p9d (n : Nat) (g : Nat → Th) (x y z a b : Int) (w : Wn) (kk : SV → Prop) : evalC C8 0  1 c9_4 (tplF 95 L9 (v9 n .top)) ((h9 n g x y z a b w).map mkB) ( endK Try.prog Try.f9.results.toList (fun v _ => kk v)) = (
    ∀ (r' : Wn) (e : Int),
      r' =
          chW (Wn.mk w.d w.m w.c w.t w.s w.g)
            (ackOk
              (Pk.mk (0 : Int) (a % (9007199254740992 : Int)) (IntKind.i64.wrap ((1 : Int) + b % (65535 : Int))) false false
                  false).t
              (Pk.mk (0 : Int) (a % (9007199254740992 : Int)) (IntKind.i64.wrap ((1 : Int) + b % (65535 : Int))) false false
                  false).s)
            (ack1 (Wn.mk w.d w.m w.c w.t w.s w.g)
              (Pk.mk (0 : Int) (a % (9007199254740992 : Int)) (IntKind.i64.wrap ((1 : Int) + b % (65535 : Int))) false false
                  false).t
              (Pk.mk (0 : Int) (a % (9007199254740992 : Int)) (IntKind.i64.wrap ((1 : Int) + b % (65535 : Int))) false false
                  false).s
              false) →
        e =
            chE (Wn.mk w.d w.m w.c w.t w.s w.g)
              (ackOk (a % (9007199254740992 : Int)) (IntKind.i64.wrap ((1 : Int) + b % (65535 : Int)))) →
          ∀ (r'_1 : Wn) (e_1 : Int),
            r'_1 =
                chW (Wn.mk w.d w.m w.c w.t w.s w.g)
                  (ackOk
                    (Pk.mk (0 : Int) (a % (9007199254740992 : Int)) (IntKind.i64.wrap ((1 : Int) + b % (65535 : Int))) false
                        false false).t
                    (Pk.mk (0 : Int) (a % (9007199254740992 : Int)) (IntKind.i64.wrap ((1 : Int) + b % (65535 : Int))) false
                        false false).s)
                  (ack1 (Wn.mk w.d w.m w.c w.t w.s w.g)
                    (Pk.mk (0 : Int) (a % (9007199254740992 : Int)) (IntKind.i64.wrap ((1 : Int) + b % (65535 : Int))) false
                        false false).t
                    (Pk.mk (0 : Int) (a % (9007199254740992 : Int)) (IntKind.i64.wrap ((1 : Int) + b % (65535 : Int))) false
                        false false).s
                    true) →
              e_1 =
                  chE (Wn.mk w.d w.m w.c w.t w.s w.g)
                    (ackOk (a % (9007199254740992 : Int)) (IntKind.i64.wrap ((1 : Int) + b % (65535 : Int)))) →
                bif e == (0 : Int) then
                  bif e_1 == (0 : Int) then
                    bif
                        r'.d == w.d &&
                          (r'.m == w.m && (r'.c == w.c && (r'.t == w.t && (r'.s == w.s && (r'.g == w.g && true))))) then
                      bif decide (w.c ≤ r'_1.c) then
                        bif r'_1.t == w.t then bif r'_1.s == w.s then kk (SV.bool true) else kk (SV.bool false)
                        else kk (SV.bool false)
                      else kk (SV.bool false)
                    else kk (SV.bool false)
                  else kk (SV.bool false)
                else kk (SV.bool false)) := by kernel_rfl
theorem t9e (x y z a b : Int) (kk : SV → Prop) : evalF C8 64 Try.f9 [.agg [.int .i64 x, .int .i64 y, .int .i64 z], .eslice, .agg [.int .i64 a, .int .i64 b]] [] (fun v _ => kk v) = (
    ∀ (r' : Wn),
      r' = madeW x y z →
        ∀ (r'_1 : Wn) (e : Int),
          r'_1 =
              chW (Wn.mk r'.d r'.m r'.c r'.t r'.s r'.g)
                (ackOk
                  (Pk.mk (0 : Int) (a % (9007199254740992 : Int)) (IntKind.i64.wrap ((1 : Int) + b % (65535 : Int))) false
                      false false).t
                  (Pk.mk (0 : Int) (a % (9007199254740992 : Int)) (IntKind.i64.wrap ((1 : Int) + b % (65535 : Int))) false
                      false false).s)
                (ack1 (Wn.mk r'.d r'.m r'.c r'.t r'.s r'.g)
                  (Pk.mk (0 : Int) (a % (9007199254740992 : Int)) (IntKind.i64.wrap ((1 : Int) + b % (65535 : Int))) false
                      false false).t
                  (Pk.mk (0 : Int) (a % (9007199254740992 : Int)) (IntKind.i64.wrap ((1 : Int) + b % (65535 : Int))) false
                      false false).s
                  false) →
            e =
                chE (Wn.mk r'.d r'.m r'.c r'.t r'.s r'.g)
                  (ackOk (a % (9007199254740992 : Int)) (IntKind.i64.wrap ((1 : Int) + b % (65535 : Int)))) →
              ∀ (r'_2 : Wn) (e_1 : Int),
                r'_2 =
                    chW (Wn.mk r'.d r'.m r'.c r'.t r'.s r'.g)
                      (ackOk
                        (Pk.mk (0 : Int) (a % (9007199254740992 : Int)) (IntKind.i64.wrap ((1 : Int) + b % (65535 : Int)))
                            false false false).t
                        (Pk.mk (0 : Int) (a % (9007199254740992 : Int)) (IntKind.i64.wrap ((1 : Int) + b % (65535 : Int)))
                            false false false).s)
                      (ack1 (Wn.mk r'.d r'.m r'.c r'.t r'.s r'.g)
                        (Pk.mk (0 : Int) (a % (9007199254740992 : Int)) (IntKind.i64.wrap ((1 : Int) + b % (65535 : Int)))
                            false false false).t
                        (Pk.mk (0 : Int) (a % (9007199254740992 : Int)) (IntKind.i64.wrap ((1 : Int) + b % (65535 : Int)))
                            false false false).s
                        true) →
                  e_1 =
                      chE (Wn.mk r'.d r'.m r'.c r'.t r'.s r'.g)
                        (ackOk (a % (9007199254740992 : Int)) (IntKind.i64.wrap ((1 : Int) + b % (65535 : Int)))) →
                    bif e == (0 : Int) then
                      bif e_1 == (0 : Int) then
                        bif
                            r'_1.d == r'.d &&
                              (r'_1.m == r'.m &&
                                (r'_1.c == r'.c && (r'_1.t == r'.t && (r'_1.s == r'.s && (r'_1.g == r'.g && true))))) then
                          bif decide (r'.c ≤ r'_2.c) then
                            bif r'_2.t == r'.t then bif r'_2.s == r'.s then kk (SV.bool true) else kk (SV.bool false)
                            else kk (SV.bool false)
                          else kk (SV.bool false)
                        else kk (SV.bool false)
                      else kk (SV.bool false)
                    else kk (SV.bool false)) := by kernel_rfl
end Go.Proofs.Ytefjhkgkdmjopaa
