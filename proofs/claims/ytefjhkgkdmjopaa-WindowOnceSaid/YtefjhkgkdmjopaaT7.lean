/-
  What functions of the program come to, way by way: printed by a program, held by the kernel.
-/
import Derived.Test.YtefjhkgkdmjopaaX7
namespace Go.Proofs.Ytefjhkgkdmjopaa
open Go.RowKit
set_option maxRecDepth 100000

theorem p6sa (n m : Nat) (g : Nat → Th) (k : Nat → Nat → Int) (x y z : Int) (Kt : KT) : evalC C8 0  2 (.seq c6_0 (.seq c6_1 .skip)) (enterS 132 [.agg [.int .i64 x, .int .i64 y, .int .i64 z], .slice 0 0 5 n, .slice 1 0 2 m]) [some (bT n g), some (bP m k)] ( obsN L6 M6s Kt) = (
    ∀ (r' : Wn),
      r' = madeW x y z →
        Kt Ex.normal (132 : Nat)
          [SV.slice (0 : Nat) (0 : Nat) (5 : Nat) n, SV.slice (1 : Nat) (0 : Nat) (2 : Nat) m,
            SV.ptr (3 : Nat) (0 : Nat) (6 : Nat) (0 : Nat), SV.top]
          [BO.raw
              (some
                (Blk.mk (5 : Nat) n
                  (fun r =>
                    [SV.int IntKind.i64 (g r).k, SV.int IntKind.i64 (g r).t, SV.int IntKind.i64 (g r).n,
                      SV.int IntKind.i64 (g r).s, SV.bool (g r).f])
                  false (0 : Nat))),
            BO.raw
              (some
                (Blk.mk (2 : Nat) m (fun r => [SV.int IntKind.i64 (k r (0 : Nat)), SV.int IntKind.i64 (k r (1 : Nat))])
                  false (0 : Nat))),
            BO.rows (3 : Nat) (1 : Nat) true (26 : Nat)
              [[SV.int IntKind.i64 x, SV.int IntKind.i64 y, SV.int IntKind.i64 z]],
            BO.rows (6 : Nat) (1 : Nat) true (23 : Nat)
              [[SV.int IntKind.i64 r'.d, SV.int IntKind.i64 r'.m, SV.int IntKind.i64 r'.c, SV.int IntKind.i64 r'.t,
                  SV.int IntKind.i64 r'.s, SV.int IntKind.i64 r'.g]]]) := by kernel_rfl
theorem p6ea (n : Nat) (g : Nat → Th) (x y z : Int) (Kt : KT) : evalC C8 0  1 (.seq c6_0 (.seq c6_1 .skip)) (enterS 132 [.agg [.int .i64 x, .int .i64 y, .int .i64 z], .slice 0 0 5 n, .eslice]) [some (bT n g)] ( obsN L6 M6e Kt) = (
    ∀ (r' : Wn),
      r' = madeW x y z →
        Kt Ex.normal (132 : Nat)
          [SV.slice (0 : Nat) (0 : Nat) (5 : Nat) n, SV.eslice, SV.ptr (2 : Nat) (0 : Nat) (6 : Nat) (0 : Nat), SV.top]
          [BO.raw
              (some
                (Blk.mk (5 : Nat) n
                  (fun r =>
                    [SV.int IntKind.i64 (g r).k, SV.int IntKind.i64 (g r).t, SV.int IntKind.i64 (g r).n,
                      SV.int IntKind.i64 (g r).s, SV.bool (g r).f])
                  false (0 : Nat))),
            BO.rows (3 : Nat) (1 : Nat) true (26 : Nat)
              [[SV.int IntKind.i64 x, SV.int IntKind.i64 y, SV.int IntKind.i64 z]],
            BO.rows (6 : Nat) (1 : Nat) true (23 : Nat)
              [[SV.int IntKind.i64 r'.d, SV.int IntKind.i64 r'.m, SV.int IntKind.i64 r'.c, SV.int IntKind.i64 r'.t,
                  SV.int IntKind.i64 r'.s, SV.int IntKind.i64 r'.g]]]) := by kernel_rfl
theorem p6sb (n m : Nat) (g : Nat → Th) (k : Nat → Nat → Int) (x y z : Int) (w : Wn) (Kt : KT) : evalC C8 0  2 c6_2 (tplF 132 L6 (v6s n m .top)) ((h6s n m g k x y z w).map mkB) ( obsN L6 M6s Kt) = (
    Kt Ex.normal (132 : Nat)
      [SV.slice (0 : Nat) (0 : Nat) (5 : Nat) n, SV.slice (1 : Nat) (0 : Nat) (2 : Nat) m,
        SV.ptr (3 : Nat) (0 : Nat) (6 : Nat) (0 : Nat), SV.int IntKind.i64 (0 : Int)]
      [BO.raw
          (some
            (Blk.mk (5 : Nat) n
              (fun r =>
                [SV.int IntKind.i64 (g r).k, SV.int IntKind.i64 (g r).t, SV.int IntKind.i64 (g r).n,
                  SV.int IntKind.i64 (g r).s, SV.bool (g r).f])
              false (0 : Nat))),
        BO.raw
          (some
            (Blk.mk (2 : Nat) m (fun r => [SV.int IntKind.i64 (k r (0 : Nat)), SV.int IntKind.i64 (k r (1 : Nat))]) false
              (0 : Nat))),
        BO.rows (3 : Nat) (1 : Nat) true (26 : Nat) [[SV.int IntKind.i64 x, SV.int IntKind.i64 y, SV.int IntKind.i64 z]],
        BO.rows (6 : Nat) (1 : Nat) true (23 : Nat)
          [[SV.int IntKind.i64 w.d, SV.int IntKind.i64 w.m, SV.int IntKind.i64 w.c, SV.int IntKind.i64 w.t,
              SV.int IntKind.i64 w.s, SV.int IntKind.i64 w.g]]]) := by kernel_rfl
theorem p6eb (n : Nat) (g : Nat → Th) (x y z : Int) (w : Wn) (Kt : KT) : evalC C8 0  1 c6_2 (tplF 132 L6 (v6e n .top)) ((h6e n g x y z w).map mkB) ( obsN L6 M6e Kt) = (
    Kt Ex.normal (132 : Nat)
      [SV.slice (0 : Nat) (0 : Nat) (5 : Nat) n, SV.eslice, SV.ptr (2 : Nat) (0 : Nat) (6 : Nat) (0 : Nat),
        SV.int IntKind.i64 (0 : Int)]
      [BO.raw
          (some
            (Blk.mk (5 : Nat) n
              (fun r =>
                [SV.int IntKind.i64 (g r).k, SV.int IntKind.i64 (g r).t, SV.int IntKind.i64 (g r).n,
                  SV.int IntKind.i64 (g r).s, SV.bool (g r).f])
              false (0 : Nat))),
        BO.rows (3 : Nat) (1 : Nat) true (26 : Nat) [[SV.int IntKind.i64 x, SV.int IntKind.i64 y, SV.int IntKind.i64 z]],
        BO.rows (6 : Nat) (1 : Nat) true (23 : Nat)
          [[SV.int IntKind.i64 w.d, SV.int IntKind.i64 w.m, SV.int IntKind.i64 w.c, SV.int IntKind.i64 w.t,
              SV.int IntKind.i64 w.s, SV.int IntKind.i64 w.g]]]) := by kernel_rfl
theorem p6sc (n m : Nat) (g : Nat → Th) (k : Nat → Nat → Int) (x y z : Int) (w : Wn) (i : Nat) (Kt : KT) (kr : SV → Prop) : evalC C8 0  2 c6_3 (tplF 132 L6 (v6s n m (.int .i64 i))) ((h6s n m g k x y z w).map mkB) ( obsE Try.prog Try.f6.results.toList L6 M6s Kt kr) = (
    bif decide ((↑i : Int) < (↑n : Int)) then
      bif decide ((↑i : Int) < (60 : Int)) then
        bif decide ((↑i : Int) < (↑n : Int)) then
          bif decide ((0 : Nat) + (↑i : Int).toNat < n) && true then
            mayW (Wn.mk w.d w.m w.c w.t w.s w.g) = true ∧
              ∀ (r' : Wn),
                r' =
                    stepW (Wn.mk w.d w.m w.c w.t w.s w.g)
                      (Th.mk (g ((0 : Nat) + (↑i : Int).toNat)).k (g ((0 : Nat) + (↑i : Int).toNat)).t
                        (g ((0 : Nat) + (↑i : Int).toNat)).n (g ((0 : Nat) + (↑i : Int).toNat)).s
                        (g ((0 : Nat) + (↑i : Int).toNat)).f) →
                  Kt Ex.normal (132 : Nat)
                    [SV.slice (0 : Nat) (0 : Nat) (5 : Nat) n, SV.slice (1 : Nat) (0 : Nat) (2 : Nat) m,
                      SV.ptr (3 : Nat) (0 : Nat) (6 : Nat) (0 : Nat),
                      SV.int IntKind.i64 (IntKind.i64.wrap ((↑i : Int) + (1 : Int)))]
                    [BO.raw
                        (some
                          (Blk.mk (5 : Nat) n
                            (fun r =>
                              [SV.int IntKind.i64 (g r).k, SV.int IntKind.i64 (g r).t, SV.int IntKind.i64 (g r).n,
                                SV.int IntKind.i64 (g r).s, SV.bool (g r).f])
                            false (0 : Nat))),
                      BO.raw
                        (some
                          (Blk.mk (2 : Nat) m
                            (fun r => [SV.int IntKind.i64 (k r (0 : Nat)), SV.int IntKind.i64 (k r (1 : Nat))]) false
                            (0 : Nat))),
                      BO.rows (3 : Nat) (1 : Nat) true (26 : Nat)
                        [[SV.int IntKind.i64 x, SV.int IntKind.i64 y, SV.int IntKind.i64 z]],
                      BO.rows (6 : Nat) (1 : Nat) true (23 : Nat)
                        [[SV.int IntKind.i64 r'.d, SV.int IntKind.i64 r'.m, SV.int IntKind.i64 r'.c,
                            SV.int IntKind.i64 r'.t, SV.int IntKind.i64 r'.s, SV.int IntKind.i64 r'.g]]]
          else False
        else False
      else
        Kt (Ex.exit (0 : Nat)) (132 : Nat)
          [SV.slice (0 : Nat) (0 : Nat) (5 : Nat) n, SV.slice (1 : Nat) (0 : Nat) (2 : Nat) m,
            SV.ptr (3 : Nat) (0 : Nat) (6 : Nat) (0 : Nat), SV.int IntKind.i64 (↑i : Int)]
          [BO.raw
              (some
                (Blk.mk (5 : Nat) n
                  (fun r =>
                    [SV.int IntKind.i64 (g r).k, SV.int IntKind.i64 (g r).t, SV.int IntKind.i64 (g r).n,
                      SV.int IntKind.i64 (g r).s, SV.bool (g r).f])
                  false (0 : Nat))),
            BO.raw
              (some
                (Blk.mk (2 : Nat) m (fun r => [SV.int IntKind.i64 (k r (0 : Nat)), SV.int IntKind.i64 (k r (1 : Nat))])
                  false (0 : Nat))),
            BO.rows (3 : Nat) (1 : Nat) true (26 : Nat)
              [[SV.int IntKind.i64 x, SV.int IntKind.i64 y, SV.int IntKind.i64 z]],
            BO.rows (6 : Nat) (1 : Nat) true (23 : Nat)
              [[SV.int IntKind.i64 w.d, SV.int IntKind.i64 w.m, SV.int IntKind.i64 w.c, SV.int IntKind.i64 w.t,
                  SV.int IntKind.i64 w.s, SV.int IntKind.i64 w.g]]]
    else
      Kt (Ex.exit (0 : Nat)) (132 : Nat)
        [SV.slice (0 : Nat) (0 : Nat) (5 : Nat) n, SV.slice (1 : Nat) (0 : Nat) (2 : Nat) m,
          SV.ptr (3 : Nat) (0 : Nat) (6 : Nat) (0 : Nat), SV.int IntKind.i64 (↑i : Int)]
        [BO.raw
            (some
              (Blk.mk (5 : Nat) n
                (fun r =>
                  [SV.int IntKind.i64 (g r).k, SV.int IntKind.i64 (g r).t, SV.int IntKind.i64 (g r).n,
                    SV.int IntKind.i64 (g r).s, SV.bool (g r).f])
                false (0 : Nat))),
          BO.raw
            (some
              (Blk.mk (2 : Nat) m (fun r => [SV.int IntKind.i64 (k r (0 : Nat)), SV.int IntKind.i64 (k r (1 : Nat))]) false
                (0 : Nat))),
          BO.rows (3 : Nat) (1 : Nat) true (26 : Nat) [[SV.int IntKind.i64 x, SV.int IntKind.i64 y, SV.int IntKind.i64 z]],
          BO.rows (6 : Nat) (1 : Nat) true (23 : Nat)
            [[SV.int IntKind.i64 w.d, SV.int IntKind.i64 w.m, SV.int IntKind.i64 w.c, SV.int IntKind.i64 w.t,
                SV.int IntKind.i64 w.s, SV.int IntKind.i64 w.g]]]) := by kernel_rfl
theorem p6ec (n : Nat) (g : Nat → Th) (x y z : Int) (w : Wn) (i : Nat) (Kt : KT) (kr : SV → Prop) : evalC C8 0  1 c6_3 (tplF 132 L6 (v6e n (.int .i64 i))) ((h6e n g x y z w).map mkB) ( obsE Try.prog Try.f6.results.toList L6 M6e Kt kr) = (
    bif decide ((↑i : Int) < (↑n : Int)) then
      bif decide ((↑i : Int) < (60 : Int)) then
        bif decide ((↑i : Int) < (↑n : Int)) then
          bif decide ((0 : Nat) + (↑i : Int).toNat < n) && true then
            mayW (Wn.mk w.d w.m w.c w.t w.s w.g) = true ∧
              ∀ (r' : Wn),
                r' =
                    stepW (Wn.mk w.d w.m w.c w.t w.s w.g)
                      (Th.mk (g ((0 : Nat) + (↑i : Int).toNat)).k (g ((0 : Nat) + (↑i : Int).toNat)).t
                        (g ((0 : Nat) + (↑i : Int).toNat)).n (g ((0 : Nat) + (↑i : Int).toNat)).s
                        (g ((0 : Nat) + (↑i : Int).toNat)).f) →
                  Kt Ex.normal (132 : Nat)
                    [SV.slice (0 : Nat) (0 : Nat) (5 : Nat) n, SV.eslice, SV.ptr (2 : Nat) (0 : Nat) (6 : Nat) (0 : Nat),
                      SV.int IntKind.i64 (IntKind.i64.wrap ((↑i : Int) + (1 : Int)))]
                    [BO.raw
                        (some
                          (Blk.mk (5 : Nat) n
                            (fun r =>
                              [SV.int IntKind.i64 (g r).k, SV.int IntKind.i64 (g r).t, SV.int IntKind.i64 (g r).n,
                                SV.int IntKind.i64 (g r).s, SV.bool (g r).f])
                            false (0 : Nat))),
                      BO.rows (3 : Nat) (1 : Nat) true (26 : Nat)
                        [[SV.int IntKind.i64 x, SV.int IntKind.i64 y, SV.int IntKind.i64 z]],
                      BO.rows (6 : Nat) (1 : Nat) true (23 : Nat)
                        [[SV.int IntKind.i64 r'.d, SV.int IntKind.i64 r'.m, SV.int IntKind.i64 r'.c,
                            SV.int IntKind.i64 r'.t, SV.int IntKind.i64 r'.s, SV.int IntKind.i64 r'.g]]]
          else False
        else False
      else
        Kt (Ex.exit (0 : Nat)) (132 : Nat)
          [SV.slice (0 : Nat) (0 : Nat) (5 : Nat) n, SV.eslice, SV.ptr (2 : Nat) (0 : Nat) (6 : Nat) (0 : Nat),
            SV.int IntKind.i64 (↑i : Int)]
          [BO.raw
              (some
                (Blk.mk (5 : Nat) n
                  (fun r =>
                    [SV.int IntKind.i64 (g r).k, SV.int IntKind.i64 (g r).t, SV.int IntKind.i64 (g r).n,
                      SV.int IntKind.i64 (g r).s, SV.bool (g r).f])
                  false (0 : Nat))),
            BO.rows (3 : Nat) (1 : Nat) true (26 : Nat)
              [[SV.int IntKind.i64 x, SV.int IntKind.i64 y, SV.int IntKind.i64 z]],
            BO.rows (6 : Nat) (1 : Nat) true (23 : Nat)
              [[SV.int IntKind.i64 w.d, SV.int IntKind.i64 w.m, SV.int IntKind.i64 w.c, SV.int IntKind.i64 w.t,
                  SV.int IntKind.i64 w.s, SV.int IntKind.i64 w.g]]]
    else
      Kt (Ex.exit (0 : Nat)) (132 : Nat)
        [SV.slice (0 : Nat) (0 : Nat) (5 : Nat) n, SV.eslice, SV.ptr (2 : Nat) (0 : Nat) (6 : Nat) (0 : Nat),
          SV.int IntKind.i64 (↑i : Int)]
        [BO.raw
            (some
              (Blk.mk (5 : Nat) n
                (fun r =>
                  [SV.int IntKind.i64 (g r).k, SV.int IntKind.i64 (g r).t, SV.int IntKind.i64 (g r).n,
                    SV.int IntKind.i64 (g r).s, SV.bool (g r).f])
                false (0 : Nat))),
          BO.rows (3 : Nat) (1 : Nat) true (26 : Nat) [[SV.int IntKind.i64 x, SV.int IntKind.i64 y, SV.int IntKind.i64 z]],
          BO.rows (6 : Nat) (1 : Nat) true (23 : Nat)
            [[SV.int IntKind.i64 w.d, SV.int IntKind.i64 w.m, SV.int IntKind.i64 w.c, SV.int IntKind.i64 w.t,
                SV.int IntKind.i64 w.s, SV.int IntKind.i64 w.g]]]) := by kernel_rfl
theorem p6sd (n m : Nat) (g : Nat → Th) (k : Nat → Nat → Int) (x y z : Int) (w : Wn) (Kt : KT) (kr : SV → Prop) : evalC C8 0  2 (.seq c6_4 (.seq c6_5 (.seq c6_6 (.seq c6_7 (.seq c6_8 .skip))))) (tplF 132 L6 (v6s n (m + 1) .top)) ((h6s n (m + 1) g k x y z w).map mkB) ( obsE Try.prog Try.f6.results.toList L6b N6s Kt kr) = (
    bif decide ((0 : Int) < (↑(m + (1 : Nat)) : Int)) then
      bif decide ((0 : Int) < (↑(m + (1 : Nat)) : Int)) then
        ∀ (r' : Wn),
          r' =
              chW (Wn.mk w.d w.m w.c w.t w.s w.g)
                (isT (9007199254740991 : Int) &&
                  isT (k ((0 : Nat) + Int.toNat (0 : Int)) (0 : Nat) % (9007199254740992 : Int)))
                (bad1 (Wn.mk w.d w.m w.c w.t w.s w.g) (9007199254740991 : Int)
                  (k ((0 : Nat) + Int.toNat (0 : Int)) (0 : Nat) % (9007199254740992 : Int))) →
            bif decide (w.s < (9007199254740991 : Int)) then
              bif r'.s != k (0 : Nat) (0 : Nat) % (9007199254740992 : Int) then kr (SV.bool false)
              else
                bif r'.t != IntKind.i64.wrap (w.c.tdiv (2 : Int)) then kr (SV.bool false)
                else
                  bif
                      r'.c !=
                        if IntKind.i64.wrap ((2 : Int) * w.d) > IntKind.i64.wrap (w.c.tdiv (2 : Int)) then
                          IntKind.i64.wrap ((2 : Int) * w.d)
                        else IntKind.i64.wrap (w.c.tdiv (2 : Int)) then
                    kr (SV.bool false)
                  else
                    bif w.s == (9007199254740991 : Int) then
                      bif
                          r'.d == w.d &&
                            (r'.m == w.m && (r'.c == w.c && (r'.t == w.t && (r'.s == w.s && (r'.g == w.g && true))))) then
                        kr (SV.bool true)
                      else kr (SV.bool false)
                    else
                      Kt Ex.normal (132 : Nat)
                        [SV.slice (1 : Nat) (0 : Nat) (2 : Nat) (m + (1 : Nat)),
                          SV.int IntKind.i64 (k (0 : Nat) (0 : Nat) % (9007199254740992 : Int)),
                          SV.ptr (4 : Nat) (0 : Nat) (6 : Nat) (0 : Nat), SV.top]
                        [BO.raw
                            (some
                              (Blk.mk (5 : Nat) n
                                (fun r =>
                                  [SV.int IntKind.i64 (g r).k, SV.int IntKind.i64 (g r).t, SV.int IntKind.i64 (g r).n,
                                    SV.int IntKind.i64 (g r).s, SV.bool (g r).f])
                                false (0 : Nat))),
                          BO.raw
                            (some
                              (Blk.mk (2 : Nat) (m + (1 : Nat))
                                (fun r => [SV.int IntKind.i64 (k r (0 : Nat)), SV.int IntKind.i64 (k r (1 : Nat))]) false
                                (0 : Nat))),
                          BO.rows (3 : Nat) (1 : Nat) true (26 : Nat)
                            [[SV.int IntKind.i64 x, SV.int IntKind.i64 y, SV.int IntKind.i64 z]],
                          BO.rows (6 : Nat) (1 : Nat) true (23 : Nat)
                            [[SV.int IntKind.i64 w.d, SV.int IntKind.i64 w.m, SV.int IntKind.i64 w.c,
                                SV.int IntKind.i64 w.t, SV.int IntKind.i64 w.s, SV.int IntKind.i64 w.g]],
                          BO.rows (6 : Nat) (1 : Nat) true (23 : Nat)
                            [[SV.int IntKind.i64 r'.d, SV.int IntKind.i64 r'.m, SV.int IntKind.i64 r'.c,
                                SV.int IntKind.i64 r'.t, SV.int IntKind.i64 r'.s, SV.int IntKind.i64 r'.g]]]
            else
              bif w.s == (9007199254740991 : Int) then
                bif
                    r'.d == w.d &&
                      (r'.m == w.m && (r'.c == w.c && (r'.t == w.t && (r'.s == w.s && (r'.g == w.g && true))))) then
                  kr (SV.bool true)
                else kr (SV.bool false)
              else
                Kt Ex.normal (132 : Nat)
                  [SV.slice (1 : Nat) (0 : Nat) (2 : Nat) (m + (1 : Nat)),
                    SV.int IntKind.i64 (k (0 : Nat) (0 : Nat) % (9007199254740992 : Int)),
                    SV.ptr (4 : Nat) (0 : Nat) (6 : Nat) (0 : Nat), SV.top]
                  [BO.raw
                      (some
                        (Blk.mk (5 : Nat) n
                          (fun r =>
                            [SV.int IntKind.i64 (g r).k, SV.int IntKind.i64 (g r).t, SV.int IntKind.i64 (g r).n,
                              SV.int IntKind.i64 (g r).s, SV.bool (g r).f])
                          false (0 : Nat))),
                    BO.raw
                      (some
                        (Blk.mk (2 : Nat) (m + (1 : Nat))
                          (fun r => [SV.int IntKind.i64 (k r (0 : Nat)), SV.int IntKind.i64 (k r (1 : Nat))]) false
                          (0 : Nat))),
                    BO.rows (3 : Nat) (1 : Nat) true (26 : Nat)
                      [[SV.int IntKind.i64 x, SV.int IntKind.i64 y, SV.int IntKind.i64 z]],
                    BO.rows (6 : Nat) (1 : Nat) true (23 : Nat)
                      [[SV.int IntKind.i64 w.d, SV.int IntKind.i64 w.m, SV.int IntKind.i64 w.c, SV.int IntKind.i64 w.t,
                          SV.int IntKind.i64 w.s, SV.int IntKind.i64 w.g]],
                    BO.rows (6 : Nat) (1 : Nat) true (23 : Nat)
                      [[SV.int IntKind.i64 r'.d, SV.int IntKind.i64 r'.m, SV.int IntKind.i64 r'.c, SV.int IntKind.i64 r'.t,
                          SV.int IntKind.i64 r'.s, SV.int IntKind.i64 r'.g]]]
      else False
    else
      ∀ (r' : Wn),
        r' =
            chW (Wn.mk w.d w.m w.c w.t w.s w.g) (isT (9007199254740991 : Int) && isT (0 : Int))
              (bad1 (Wn.mk w.d w.m w.c w.t w.s w.g) (9007199254740991 : Int) (0 : Int)) →
          bif decide (w.s < (9007199254740991 : Int)) then
            bif r'.s != (0 : Int) then kr (SV.bool false)
            else
              bif r'.t != IntKind.i64.wrap (w.c.tdiv (2 : Int)) then kr (SV.bool false)
              else
                bif
                    r'.c !=
                      if IntKind.i64.wrap ((2 : Int) * w.d) > IntKind.i64.wrap (w.c.tdiv (2 : Int)) then
                        IntKind.i64.wrap ((2 : Int) * w.d)
                      else IntKind.i64.wrap (w.c.tdiv (2 : Int)) then
                  kr (SV.bool false)
                else
                  bif w.s == (9007199254740991 : Int) then
                    bif
                        r'.d == w.d &&
                          (r'.m == w.m && (r'.c == w.c && (r'.t == w.t && (r'.s == w.s && (r'.g == w.g && true))))) then
                      kr (SV.bool true)
                    else kr (SV.bool false)
                  else
                    Kt Ex.normal (132 : Nat)
                      [SV.slice (1 : Nat) (0 : Nat) (2 : Nat) (m + (1 : Nat)), SV.int IntKind.i64 (0 : Int),
                        SV.ptr (4 : Nat) (0 : Nat) (6 : Nat) (0 : Nat), SV.top]
                      [BO.raw
                          (some
                            (Blk.mk (5 : Nat) n
                              (fun r =>
                                [SV.int IntKind.i64 (g r).k, SV.int IntKind.i64 (g r).t, SV.int IntKind.i64 (g r).n,
                                  SV.int IntKind.i64 (g r).s, SV.bool (g r).f])
                              false (0 : Nat))),
                        BO.raw
                          (some
                            (Blk.mk (2 : Nat) (m + (1 : Nat))
                              (fun r => [SV.int IntKind.i64 (k r (0 : Nat)), SV.int IntKind.i64 (k r (1 : Nat))]) false
                              (0 : Nat))),
                        BO.rows (3 : Nat) (1 : Nat) true (26 : Nat)
                          [[SV.int IntKind.i64 x, SV.int IntKind.i64 y, SV.int IntKind.i64 z]],
                        BO.rows (6 : Nat) (1 : Nat) true (23 : Nat)
                          [[SV.int IntKind.i64 w.d, SV.int IntKind.i64 w.m, SV.int IntKind.i64 w.c, SV.int IntKind.i64 w.t,
                              SV.int IntKind.i64 w.s, SV.int IntKind.i64 w.g]],
                        BO.rows (6 : Nat) (1 : Nat) true (23 : Nat)
                          [[SV.int IntKind.i64 r'.d, SV.int IntKind.i64 r'.m, SV.int IntKind.i64 r'.c,
                              SV.int IntKind.i64 r'.t, SV.int IntKind.i64 r'.s, SV.int IntKind.i64 r'.g]]]
          else
            bif w.s == (9007199254740991 : Int) then
              bif
                  r'.d == w.d &&
                    (r'.m == w.m && (r'.c == w.c && (r'.t == w.t && (r'.s == w.s && (r'.g == w.g && true))))) then
                kr (SV.bool true)
              else kr (SV.bool false)
            else
              Kt Ex.normal (132 : Nat)
                [SV.slice (1 : Nat) (0 : Nat) (2 : Nat) (m + (1 : Nat)), SV.int IntKind.i64 (0 : Int),
                  SV.ptr (4 : Nat) (0 : Nat) (6 : Nat) (0 : Nat), SV.top]
                [BO.raw
                    (some
                      (Blk.mk (5 : Nat) n
                        (fun r =>
                          [SV.int IntKind.i64 (g r).k, SV.int IntKind.i64 (g r).t, SV.int IntKind.i64 (g r).n,
                            SV.int IntKind.i64 (g r).s, SV.bool (g r).f])
                        false (0 : Nat))),
                  BO.raw
                    (some
                      (Blk.mk (2 : Nat) (m + (1 : Nat))
                        (fun r => [SV.int IntKind.i64 (k r (0 : Nat)), SV.int IntKind.i64 (k r (1 : Nat))]) false
                        (0 : Nat))),
                  BO.rows (3 : Nat) (1 : Nat) true (26 : Nat)
                    [[SV.int IntKind.i64 x, SV.int IntKind.i64 y, SV.int IntKind.i64 z]],
                  BO.rows (6 : Nat) (1 : Nat) true (23 : Nat)
                    [[SV.int IntKind.i64 w.d, SV.int IntKind.i64 w.m, SV.int IntKind.i64 w.c, SV.int IntKind.i64 w.t,
                        SV.int IntKind.i64 w.s, SV.int IntKind.i64 w.g]],
                  BO.rows (6 : Nat) (1 : Nat) true (23 : Nat)
                    [[SV.int IntKind.i64 r'.d, SV.int IntKind.i64 r'.m, SV.int IntKind.i64 r'.c, SV.int IntKind.i64 r'.t,
                        SV.int IntKind.i64 r'.s, SV.int IntKind.i64 r'.g]]]) := by kernel_rfl
theorem p6ed (n : Nat) (g : Nat → Th) (x y z : Int) (w : Wn) (kk : SV → Prop) : evalC C8 64  1 (.seq c6_4 (.seq c6_5 (.seq c6_6 (.seq c6_7 (.seq c6_8 (.seq (.seq c6_9 (.block 2 (.loop c6_10))) c6_11)))))) (tplF 132 L6 (v6e n .top)) ((h6e n g x y z w).map mkB) ( endK Try.prog Try.f6.results.toList (fun v _ => kk v)) = (
    ∀ (r' : Wn),
      r' =
          chW (Wn.mk w.d w.m w.c w.t w.s w.g) (isT (9007199254740991 : Int) && isT (0 : Int))
            (bad1 (Wn.mk w.d w.m w.c w.t w.s w.g) (9007199254740991 : Int) (0 : Int)) →
        bif decide (w.s < (9007199254740991 : Int)) then
          bif r'.s != (0 : Int) then kk (SV.bool false)
          else
            bif r'.t != IntKind.i64.wrap (w.c.tdiv (2 : Int)) then kk (SV.bool false)
            else
              bif
                  r'.c !=
                    if IntKind.i64.wrap ((2 : Int) * w.d) > IntKind.i64.wrap (w.c.tdiv (2 : Int)) then
                      IntKind.i64.wrap ((2 : Int) * w.d)
                    else IntKind.i64.wrap (w.c.tdiv (2 : Int)) then
                kk (SV.bool false)
              else
                bif w.s == (9007199254740991 : Int) then
                  bif
                      r'.d == w.d &&
                        (r'.m == w.m && (r'.c == w.c && (r'.t == w.t && (r'.s == w.s && (r'.g == w.g && true))))) then
                    kk (SV.bool true)
                  else kk (SV.bool false)
                else kk (SV.bool true)
        else
          bif w.s == (9007199254740991 : Int) then
            bif
                r'.d == w.d &&
                  (r'.m == w.m && (r'.c == w.c && (r'.t == w.t && (r'.s == w.s && (r'.g == w.g && true))))) then
              kk (SV.bool true)
            else kk (SV.bool false)
          else kk (SV.bool true)) := by kernel_rfl
theorem q6ea (m : Nat) (k : Nat → Nat → Int) (x y z : Int) (Kt : KT) (kr : SV → Prop) : evalC C8 64  1 (.seq c6_0 (.seq c6_1 (.seq (.seq c6_2 (.block 0 (.loop c6_3))) (.seq c6_4 (.seq c6_5 (.seq c6_6 (.seq c6_7 (.seq c6_8 .skip)))))))) (enterS 132 [.agg [.int .i64 x, .int .i64 y, .int .i64 z], .eslice, .slice 0 0 2 (m + 1)]) [some (bP (m + 1) k)] ( obsE Try.prog Try.f6.results.toList L6b N6e Kt kr) = (
    ∀ (r' : Wn),
      r' = madeW x y z →
        bif decide ((0 : Int) < (↑(m + (1 : Nat)) : Int)) then
          bif decide ((0 : Int) < (↑(m + (1 : Nat)) : Int)) then
            ∀ (r'_1 : Wn),
              r'_1 =
                  chW (Wn.mk r'.d r'.m r'.c r'.t r'.s r'.g)
                    (isT (9007199254740991 : Int) &&
                      isT (k ((0 : Nat) + Int.toNat (0 : Int)) (0 : Nat) % (9007199254740992 : Int)))
                    (bad1 (Wn.mk r'.d r'.m r'.c r'.t r'.s r'.g) (9007199254740991 : Int)
                      (k ((0 : Nat) + Int.toNat (0 : Int)) (0 : Nat) % (9007199254740992 : Int))) →
                bif decide (r'.s < (9007199254740991 : Int)) then
                  bif r'_1.s != k (0 : Nat) (0 : Nat) % (9007199254740992 : Int) then kr (SV.bool false)
                  else
                    bif r'_1.t != IntKind.i64.wrap (r'.c.tdiv (2 : Int)) then kr (SV.bool false)
                    else
                      bif
                          r'_1.c !=
                            if IntKind.i64.wrap ((2 : Int) * r'.d) > IntKind.i64.wrap (r'.c.tdiv (2 : Int)) then
                              IntKind.i64.wrap ((2 : Int) * r'.d)
                            else IntKind.i64.wrap (r'.c.tdiv (2 : Int)) then
                        kr (SV.bool false)
                      else
                        bif r'.s == (9007199254740991 : Int) then
                          bif
                              r'_1.d == r'.d &&
                                (r'_1.m == r'.m &&
                                  (r'_1.c == r'.c && (r'_1.t == r'.t && (r'_1.s == r'.s && (r'_1.g == r'.g && true))))) then
                            kr (SV.bool true)
                          else kr (SV.bool false)
                        else
                          Kt Ex.normal (132 : Nat)
                            [SV.slice (0 : Nat) (0 : Nat) (2 : Nat) (m + (1 : Nat)),
                              SV.int IntKind.i64 (k (0 : Nat) (0 : Nat) % (9007199254740992 : Int)),
                              SV.ptr (3 : Nat) (0 : Nat) (6 : Nat) (0 : Nat), SV.top]
                            [BO.raw
                                (some
                                  (Blk.mk (2 : Nat) (m + (1 : Nat))
                                    (fun r => [SV.int IntKind.i64 (k r (0 : Nat)), SV.int IntKind.i64 (k r (1 : Nat))])
                                    false (0 : Nat))),
                              BO.rows (3 : Nat) (1 : Nat) true (26 : Nat)
                                [[SV.int IntKind.i64 x, SV.int IntKind.i64 y, SV.int IntKind.i64 z]],
                              BO.rows (6 : Nat) (1 : Nat) true (23 : Nat)
                                [[SV.int IntKind.i64 r'.d, SV.int IntKind.i64 r'.m, SV.int IntKind.i64 r'.c,
                                    SV.int IntKind.i64 r'.t, SV.int IntKind.i64 r'.s, SV.int IntKind.i64 r'.g]],
                              BO.rows (6 : Nat) (1 : Nat) true (23 : Nat)
                                [[SV.int IntKind.i64 r'_1.d, SV.int IntKind.i64 r'_1.m, SV.int IntKind.i64 r'_1.c,
                                    SV.int IntKind.i64 r'_1.t, SV.int IntKind.i64 r'_1.s, SV.int IntKind.i64 r'_1.g]]]
                else
                  bif r'.s == (9007199254740991 : Int) then
                    bif
                        r'_1.d == r'.d &&
                          (r'_1.m == r'.m &&
                            (r'_1.c == r'.c && (r'_1.t == r'.t && (r'_1.s == r'.s && (r'_1.g == r'.g && true))))) then
                      kr (SV.bool true)
                    else kr (SV.bool false)
                  else
                    Kt Ex.normal (132 : Nat)
                      [SV.slice (0 : Nat) (0 : Nat) (2 : Nat) (m + (1 : Nat)),
                        SV.int IntKind.i64 (k (0 : Nat) (0 : Nat) % (9007199254740992 : Int)),
                        SV.ptr (3 : Nat) (0 : Nat) (6 : Nat) (0 : Nat), SV.top]
                      [BO.raw
                          (some
                            (Blk.mk (2 : Nat) (m + (1 : Nat))
                              (fun r => [SV.int IntKind.i64 (k r (0 : Nat)), SV.int IntKind.i64 (k r (1 : Nat))]) false
                              (0 : Nat))),
                        BO.rows (3 : Nat) (1 : Nat) true (26 : Nat)
                          [[SV.int IntKind.i64 x, SV.int IntKind.i64 y, SV.int IntKind.i64 z]],
                        BO.rows (6 : Nat) (1 : Nat) true (23 : Nat)
                          [[SV.int IntKind.i64 r'.d, SV.int IntKind.i64 r'.m, SV.int IntKind.i64 r'.c,
                              SV.int IntKind.i64 r'.t, SV.int IntKind.i64 r'.s, SV.int IntKind.i64 r'.g]],
                        BO.rows (6 : Nat) (1 : Nat) true (23 : Nat)
                          [[SV.int IntKind.i64 r'_1.d, SV.int IntKind.i64 r'_1.m, SV.int IntKind.i64 r'_1.c,
                              SV.int IntKind.i64 r'_1.t, SV.int IntKind.i64 r'_1.s, SV.int IntKind.i64 r'_1.g]]]
          else False
        else
          ∀ (r'_1 : Wn),
            r'_1 =
                chW (Wn.mk r'.d r'.m r'.c r'.t r'.s r'.g) (isT (9007199254740991 : Int) && isT (0 : Int))
                  (bad1 (Wn.mk r'.d r'.m r'.c r'.t r'.s r'.g) (9007199254740991 : Int) (0 : Int)) →
              bif decide (r'.s < (9007199254740991 : Int)) then
                bif r'_1.s != (0 : Int) then kr (SV.bool false)
                else
                  bif r'_1.t != IntKind.i64.wrap (r'.c.tdiv (2 : Int)) then kr (SV.bool false)
                  else
                    bif
                        r'_1.c !=
                          if IntKind.i64.wrap ((2 : Int) * r'.d) > IntKind.i64.wrap (r'.c.tdiv (2 : Int)) then
                            IntKind.i64.wrap ((2 : Int) * r'.d)
                          else IntKind.i64.wrap (r'.c.tdiv (2 : Int)) then
                      kr (SV.bool false)
                    else
                      bif r'.s == (9007199254740991 : Int) then
                        bif
                            r'_1.d == r'.d &&
                              (r'_1.m == r'.m &&
                                (r'_1.c == r'.c && (r'_1.t == r'.t && (r'_1.s == r'.s && (r'_1.g == r'.g && true))))) then
                          kr (SV.bool true)
                        else kr (SV.bool false)
                      else
                        Kt Ex.normal (132 : Nat)
                          [SV.slice (0 : Nat) (0 : Nat) (2 : Nat) (m + (1 : Nat)), SV.int IntKind.i64 (0 : Int),
                            SV.ptr (3 : Nat) (0 : Nat) (6 : Nat) (0 : Nat), SV.top]
                          [BO.raw
                              (some
                                (Blk.mk (2 : Nat) (m + (1 : Nat))
                                  (fun r => [SV.int IntKind.i64 (k r (0 : Nat)), SV.int IntKind.i64 (k r (1 : Nat))]) false
                                  (0 : Nat))),
                            BO.rows (3 : Nat) (1 : Nat) true (26 : Nat)
                              [[SV.int IntKind.i64 x, SV.int IntKind.i64 y, SV.int IntKind.i64 z]],
                            BO.rows (6 : Nat) (1 : Nat) true (23 : Nat)
                              [[SV.int IntKind.i64 r'.d, SV.int IntKind.i64 r'.m, SV.int IntKind.i64 r'.c,
                                  SV.int IntKind.i64 r'.t, SV.int IntKind.i64 r'.s, SV.int IntKind.i64 r'.g]],
                            BO.rows (6 : Nat) (1 : Nat) true (23 : Nat)
                              [[SV.int IntKind.i64 r'_1.d, SV.int IntKind.i64 r'_1.m, SV.int IntKind.i64 r'_1.c,
                                  SV.int IntKind.i64 r'_1.t, SV.int IntKind.i64 r'_1.s, SV.int IntKind.i64 r'_1.g]]]
              else
                bif r'.s == (9007199254740991 : Int) then
                  bif
                      r'_1.d == r'.d &&
                        (r'_1.m == r'.m &&
                          (r'_1.c == r'.c && (r'_1.t == r'.t && (r'_1.s == r'.s && (r'_1.g == r'.g && true))))) then
                    kr (SV.bool true)
                  else kr (SV.bool false)
                else
                  Kt Ex.normal (132 : Nat)
                    [SV.slice (0 : Nat) (0 : Nat) (2 : Nat) (m + (1 : Nat)), SV.int IntKind.i64 (0 : Int),
                      SV.ptr (3 : Nat) (0 : Nat) (6 : Nat) (0 : Nat), SV.top]
                    [BO.raw
                        (some
                          (Blk.mk (2 : Nat) (m + (1 : Nat))
                            (fun r => [SV.int IntKind.i64 (k r (0 : Nat)), SV.int IntKind.i64 (k r (1 : Nat))]) false
                            (0 : Nat))),
                      BO.rows (3 : Nat) (1 : Nat) true (26 : Nat)
                        [[SV.int IntKind.i64 x, SV.int IntKind.i64 y, SV.int IntKind.i64 z]],
                      BO.rows (6 : Nat) (1 : Nat) true (23 : Nat)
                        [[SV.int IntKind.i64 r'.d, SV.int IntKind.i64 r'.m, SV.int IntKind.i64 r'.c,
                            SV.int IntKind.i64 r'.t, SV.int IntKind.i64 r'.s, SV.int IntKind.i64 r'.g]],
                      BO.rows (6 : Nat) (1 : Nat) true (23 : Nat)
                        [[SV.int IntKind.i64 r'_1.d, SV.int IntKind.i64 r'_1.m, SV.int IntKind.i64 r'_1.c,
                            SV.int IntKind.i64 r'_1.t, SV.int IntKind.i64 r'_1.s, SV.int IntKind.i64 r'_1.g]]]) := by kernel_rfl
theorem q6sb (n m : Nat) (g : Nat → Th) (k : Nat → Nat → Int) (x y z : Int) (w v : Wn) (now : Int) (Kt : KT) : evalC C8 0  2 c6_9 (tplF 132 L6b (u6s m now .top)) ((k6s n m g k x y z w v).map mkB) ( obsN L6b N6s Kt) = (
    Kt Ex.normal (132 : Nat)
      [SV.slice (1 : Nat) (0 : Nat) (2 : Nat) m, SV.int IntKind.i64 now, SV.ptr (4 : Nat) (0 : Nat) (6 : Nat) (0 : Nat),
        SV.int IntKind.i64 (0 : Int)]
      [BO.raw
          (some
            (Blk.mk (5 : Nat) n
              (fun r =>
                [SV.int IntKind.i64 (g r).k, SV.int IntKind.i64 (g r).t, SV.int IntKind.i64 (g r).n,
                  SV.int IntKind.i64 (g r).s, SV.bool (g r).f])
              false (0 : Nat))),
        BO.raw
          (some
            (Blk.mk (2 : Nat) m (fun r => [SV.int IntKind.i64 (k r (0 : Nat)), SV.int IntKind.i64 (k r (1 : Nat))]) false
              (0 : Nat))),
        BO.rows (3 : Nat) (1 : Nat) true (26 : Nat) [[SV.int IntKind.i64 x, SV.int IntKind.i64 y, SV.int IntKind.i64 z]],
        BO.rows (6 : Nat) (1 : Nat) true (23 : Nat)
          [[SV.int IntKind.i64 w.d, SV.int IntKind.i64 w.m, SV.int IntKind.i64 w.c, SV.int IntKind.i64 w.t,
              SV.int IntKind.i64 w.s, SV.int IntKind.i64 w.g]],
        BO.rows (6 : Nat) (1 : Nat) true (23 : Nat)
          [[SV.int IntKind.i64 v.d, SV.int IntKind.i64 v.m, SV.int IntKind.i64 v.c, SV.int IntKind.i64 v.t,
              SV.int IntKind.i64 v.s, SV.int IntKind.i64 v.g]]]) := by kernel_rfl
theorem q6eb (m : Nat) (k : Nat → Nat → Int) (x y z : Int) (w v : Wn) (now : Int) (Kt : KT) : evalC C8 0  1 c6_9 (tplF 132 L6b (u6e m now .top)) ((k6e m k x y z w v).map mkB) ( obsN L6b N6e Kt) = (
    Kt Ex.normal (132 : Nat)
      [SV.slice (0 : Nat) (0 : Nat) (2 : Nat) m, SV.int IntKind.i64 now, SV.ptr (3 : Nat) (0 : Nat) (6 : Nat) (0 : Nat),
        SV.int IntKind.i64 (0 : Int)]
      [BO.raw
          (some
            (Blk.mk (2 : Nat) m (fun r => [SV.int IntKind.i64 (k r (0 : Nat)), SV.int IntKind.i64 (k r (1 : Nat))]) false
              (0 : Nat))),
        BO.rows (3 : Nat) (1 : Nat) true (26 : Nat) [[SV.int IntKind.i64 x, SV.int IntKind.i64 y, SV.int IntKind.i64 z]],
        BO.rows (6 : Nat) (1 : Nat) true (23 : Nat)
          [[SV.int IntKind.i64 w.d, SV.int IntKind.i64 w.m, SV.int IntKind.i64 w.c, SV.int IntKind.i64 w.t,
              SV.int IntKind.i64 w.s, SV.int IntKind.i64 w.g]],
        BO.rows (6 : Nat) (1 : Nat) true (23 : Nat)
          [[SV.int IntKind.i64 v.d, SV.int IntKind.i64 v.m, SV.int IntKind.i64 v.c, SV.int IntKind.i64 v.t,
              SV.int IntKind.i64 v.s, SV.int IntKind.i64 v.g]]]) := by kernel_rfl
theorem q6sc (n m : Nat) (g : Nat → Th) (k : Nat → Nat → Int) (x y z : Int) (w v : Wn) (now : Int) (i : Nat) (Kt : KT) (kr : SV → Prop) : evalC C8 0  2 c6_10 (tplF 132 L6b (u6s m now (.int .i64 i))) ((k6s n m g k x y z w v).map mkB) ( obsE Try.prog Try.f6.results.toList L6b N6s Kt kr) = (
    bif decide ((↑i : Int) < (↑m : Int)) then
      bif decide ((↑i : Int) < (20 : Int)) then
        bif decide ((↑i : Int) < (↑m : Int)) then
          bif decide ((0 : Nat) + (↑i : Int).toNat < m) && true then
            bif
                decide ((0 : Int) < IntKind.i64.wrap (now + (1 : Int))) &&
                  decide (IntKind.i64.wrap (now + (1 : Int)) ≤ (9223372036854775807 : Int)) then
              bif decide ((↑i : Int) < (↑m : Int)) then
                bif decide ((0 : Nat) + (↑i : Int).toNat < m) && true then
                  ∀ (r' : Wn),
                    r' =
                        chW (Wn.mk v.d v.m v.c v.t v.s v.g)
                          (isT (k ((0 : Nat) + (↑i : Int).toNat) (0 : Nat) % IntKind.i64.wrap (now + (1 : Int))) &&
                            isT (k ((0 : Nat) + (↑i : Int).toNat) (1 : Nat) % (9007199254740992 : Int)))
                          (bad1 (Wn.mk v.d v.m v.c v.t v.s v.g)
                            (k ((0 : Nat) + (↑i : Int).toNat) (0 : Nat) % IntKind.i64.wrap (now + (1 : Int)))
                            (k ((0 : Nat) + (↑i : Int).toNat) (1 : Nat) % (9007199254740992 : Int))) →
                      bif
                          !(r'.d == v.d &&
                              (r'.m == v.m &&
                                (r'.c == v.c && (r'.t == v.t && (r'.s == v.s && (r'.g == v.g && true)))))) then
                        kr (SV.bool false)
                      else
                        bif decide ((↑i : Int) < (↑m : Int)) then
                          bif decide ((0 : Nat) + (↑i : Int).toNat < m) && true then
                            ∀ (r' : Wn),
                              r' =
                                  chW (Wn.mk v.d v.m v.c v.t v.s v.g)
                                    (ackOk (k ((0 : Nat) + (↑i : Int).toNat) (0 : Nat) % IntKind.i64.wrap (now + (1 : Int)))
                                      (IntKind.i64.wrap
                                        ((1 : Int) + k ((0 : Nat) + (↑i : Int).toNat) (1 : Nat) % (65535 : Int))))
                                    (ack1 (Wn.mk v.d v.m v.c v.t v.s v.g)
                                      (k ((0 : Nat) + (↑i : Int).toNat) (0 : Nat) % IntKind.i64.wrap (now + (1 : Int)))
                                      (IntKind.i64.wrap
                                        ((1 : Int) + k ((0 : Nat) + (↑i : Int).toNat) (1 : Nat) % (65535 : Int)))
                                      true) →
                                bif
                                    !(r'.d == v.d &&
                                        (r'.m == v.m &&
                                          (r'.c == v.c && (r'.t == v.t && (r'.s == v.s && (r'.g == v.g && true)))))) then
                                  kr (SV.bool false)
                                else
                                  Kt Ex.normal (132 : Nat)
                                    [SV.slice (1 : Nat) (0 : Nat) (2 : Nat) m, SV.int IntKind.i64 now,
                                      SV.ptr (4 : Nat) (0 : Nat) (6 : Nat) (0 : Nat),
                                      SV.int IntKind.i64 (IntKind.i64.wrap ((↑i : Int) + (1 : Int)))]
                                    [BO.raw
                                        (some
                                          (Blk.mk (5 : Nat) n
                                            (fun r =>
                                              [SV.int IntKind.i64 (g r).k, SV.int IntKind.i64 (g r).t,
                                                SV.int IntKind.i64 (g r).n, SV.int IntKind.i64 (g r).s, SV.bool (g r).f])
                                            false (0 : Nat))),
                                      BO.raw
                                        (some
                                          (Blk.mk (2 : Nat) m
                                            (fun r =>
                                              [SV.int IntKind.i64 (k r (0 : Nat)), SV.int IntKind.i64 (k r (1 : Nat))])
                                            false (0 : Nat))),
                                      BO.rows (3 : Nat) (1 : Nat) true (26 : Nat)
                                        [[SV.int IntKind.i64 x, SV.int IntKind.i64 y, SV.int IntKind.i64 z]],
                                      BO.rows (6 : Nat) (1 : Nat) true (23 : Nat)
                                        [[SV.int IntKind.i64 w.d, SV.int IntKind.i64 w.m, SV.int IntKind.i64 w.c,
                                            SV.int IntKind.i64 w.t, SV.int IntKind.i64 w.s, SV.int IntKind.i64 w.g]],
                                      BO.rows (6 : Nat) (1 : Nat) true (23 : Nat)
                                        [[SV.int IntKind.i64 v.d, SV.int IntKind.i64 v.m, SV.int IntKind.i64 v.c,
                                            SV.int IntKind.i64 v.t, SV.int IntKind.i64 v.s, SV.int IntKind.i64 v.g]]]
                          else False
                        else False
                else False
              else False
            else False
          else False
        else False
      else
        Kt (Ex.exit (2 : Nat)) (132 : Nat)
          [SV.slice (1 : Nat) (0 : Nat) (2 : Nat) m, SV.int IntKind.i64 now, SV.ptr (4 : Nat) (0 : Nat) (6 : Nat) (0 : Nat),
            SV.int IntKind.i64 (↑i : Int)]
          [BO.raw
              (some
                (Blk.mk (5 : Nat) n
                  (fun r =>
                    [SV.int IntKind.i64 (g r).k, SV.int IntKind.i64 (g r).t, SV.int IntKind.i64 (g r).n,
                      SV.int IntKind.i64 (g r).s, SV.bool (g r).f])
                  false (0 : Nat))),
            BO.raw
              (some
                (Blk.mk (2 : Nat) m (fun r => [SV.int IntKind.i64 (k r (0 : Nat)), SV.int IntKind.i64 (k r (1 : Nat))])
                  false (0 : Nat))),
            BO.rows (3 : Nat) (1 : Nat) true (26 : Nat)
              [[SV.int IntKind.i64 x, SV.int IntKind.i64 y, SV.int IntKind.i64 z]],
            BO.rows (6 : Nat) (1 : Nat) true (23 : Nat)
              [[SV.int IntKind.i64 w.d, SV.int IntKind.i64 w.m, SV.int IntKind.i64 w.c, SV.int IntKind.i64 w.t,
                  SV.int IntKind.i64 w.s, SV.int IntKind.i64 w.g]],
            BO.rows (6 : Nat) (1 : Nat) true (23 : Nat)
              [[SV.int IntKind.i64 v.d, SV.int IntKind.i64 v.m, SV.int IntKind.i64 v.c, SV.int IntKind.i64 v.t,
                  SV.int IntKind.i64 v.s, SV.int IntKind.i64 v.g]]]
    else
      Kt (Ex.exit (2 : Nat)) (132 : Nat)
        [SV.slice (1 : Nat) (0 : Nat) (2 : Nat) m, SV.int IntKind.i64 now, SV.ptr (4 : Nat) (0 : Nat) (6 : Nat) (0 : Nat),
          SV.int IntKind.i64 (↑i : Int)]
        [BO.raw
            (some
              (Blk.mk (5 : Nat) n
                (fun r =>
                  [SV.int IntKind.i64 (g r).k, SV.int IntKind.i64 (g r).t, SV.int IntKind.i64 (g r).n,
                    SV.int IntKind.i64 (g r).s, SV.bool (g r).f])
                false (0 : Nat))),
          BO.raw
            (some
              (Blk.mk (2 : Nat) m (fun r => [SV.int IntKind.i64 (k r (0 : Nat)), SV.int IntKind.i64 (k r (1 : Nat))]) false
                (0 : Nat))),
          BO.rows (3 : Nat) (1 : Nat) true (26 : Nat) [[SV.int IntKind.i64 x, SV.int IntKind.i64 y, SV.int IntKind.i64 z]],
          BO.rows (6 : Nat) (1 : Nat) true (23 : Nat)
            [[SV.int IntKind.i64 w.d, SV.int IntKind.i64 w.m, SV.int IntKind.i64 w.c, SV.int IntKind.i64 w.t,
                SV.int IntKind.i64 w.s, SV.int IntKind.i64 w.g]],
          BO.rows (6 : Nat) (1 : Nat) true (23 : Nat)
            [[SV.int IntKind.i64 v.d, SV.int IntKind.i64 v.m, SV.int IntKind.i64 v.c, SV.int IntKind.i64 v.t,
                SV.int IntKind.i64 v.s, SV.int IntKind.i64 v.g]]]) := by kernel_rfl
theorem q6ec (m : Nat) (k : Nat → Nat → Int) (x y z : Int) (w v : Wn) (now : Int) (i : Nat) (Kt : KT) (kr : SV → Prop) : evalC C8 0  1 c6_10 (tplF 132 L6b (u6e m now (.int .i64 i))) ((k6e m k x y z w v).map mkB) ( obsE Try.prog Try.f6.results.toList L6b N6e Kt kr) = (
    bif decide ((↑i : Int) < (↑m : Int)) then
      bif decide ((↑i : Int) < (20 : Int)) then
        bif decide ((↑i : Int) < (↑m : Int)) then
          bif decide ((0 : Nat) + (↑i : Int).toNat < m) && true then
            bif
                decide ((0 : Int) < IntKind.i64.wrap (now + (1 : Int))) &&
                  decide (IntKind.i64.wrap (now + (1 : Int)) ≤ (9223372036854775807 : Int)) then
              bif decide ((↑i : Int) < (↑m : Int)) then
                bif decide ((0 : Nat) + (↑i : Int).toNat < m) && true then
                  ∀ (r' : Wn),
                    r' =
                        chW (Wn.mk v.d v.m v.c v.t v.s v.g)
                          (isT (k ((0 : Nat) + (↑i : Int).toNat) (0 : Nat) % IntKind.i64.wrap (now + (1 : Int))) &&
                            isT (k ((0 : Nat) + (↑i : Int).toNat) (1 : Nat) % (9007199254740992 : Int)))
                          (bad1 (Wn.mk v.d v.m v.c v.t v.s v.g)
                            (k ((0 : Nat) + (↑i : Int).toNat) (0 : Nat) % IntKind.i64.wrap (now + (1 : Int)))
                            (k ((0 : Nat) + (↑i : Int).toNat) (1 : Nat) % (9007199254740992 : Int))) →
                      bif
                          !(r'.d == v.d &&
                              (r'.m == v.m &&
                                (r'.c == v.c && (r'.t == v.t && (r'.s == v.s && (r'.g == v.g && true)))))) then
                        kr (SV.bool false)
                      else
                        bif decide ((↑i : Int) < (↑m : Int)) then
                          bif decide ((0 : Nat) + (↑i : Int).toNat < m) && true then
                            ∀ (r' : Wn),
                              r' =
                                  chW (Wn.mk v.d v.m v.c v.t v.s v.g)
                                    (ackOk (k ((0 : Nat) + (↑i : Int).toNat) (0 : Nat) % IntKind.i64.wrap (now + (1 : Int)))
                                      (IntKind.i64.wrap
                                        ((1 : Int) + k ((0 : Nat) + (↑i : Int).toNat) (1 : Nat) % (65535 : Int))))
                                    (ack1 (Wn.mk v.d v.m v.c v.t v.s v.g)
                                      (k ((0 : Nat) + (↑i : Int).toNat) (0 : Nat) % IntKind.i64.wrap (now + (1 : Int)))
                                      (IntKind.i64.wrap
                                        ((1 : Int) + k ((0 : Nat) + (↑i : Int).toNat) (1 : Nat) % (65535 : Int)))
                                      true) →
                                bif
                                    !(r'.d == v.d &&
                                        (r'.m == v.m &&
                                          (r'.c == v.c && (r'.t == v.t && (r'.s == v.s && (r'.g == v.g && true)))))) then
                                  kr (SV.bool false)
                                else
                                  Kt Ex.normal (132 : Nat)
                                    [SV.slice (0 : Nat) (0 : Nat) (2 : Nat) m, SV.int IntKind.i64 now,
                                      SV.ptr (3 : Nat) (0 : Nat) (6 : Nat) (0 : Nat),
                                      SV.int IntKind.i64 (IntKind.i64.wrap ((↑i : Int) + (1 : Int)))]
                                    [BO.raw
                                        (some
                                          (Blk.mk (2 : Nat) m
                                            (fun r =>
                                              [SV.int IntKind.i64 (k r (0 : Nat)), SV.int IntKind.i64 (k r (1 : Nat))])
                                            false (0 : Nat))),
                                      BO.rows (3 : Nat) (1 : Nat) true (26 : Nat)
                                        [[SV.int IntKind.i64 x, SV.int IntKind.i64 y, SV.int IntKind.i64 z]],
                                      BO.rows (6 : Nat) (1 : Nat) true (23 : Nat)
                                        [[SV.int IntKind.i64 w.d, SV.int IntKind.i64 w.m, SV.int IntKind.i64 w.c,
                                            SV.int IntKind.i64 w.t, SV.int IntKind.i64 w.s, SV.int IntKind.i64 w.g]],
                                      BO.rows (6 : Nat) (1 : Nat) true (23 : Nat)
                                        [[SV.int IntKind.i64 v.d, SV.int IntKind.i64 v.m, SV.int IntKind.i64 v.c,
                                            SV.int IntKind.i64 v.t, SV.int IntKind.i64 v.s, SV.int IntKind.i64 v.g]]]
                          else False
                        else False
                else False
              else False
            else False
          else False
        else False
      else
        Kt (Ex.exit (2 : Nat)) (132 : Nat)
          [SV.slice (0 : Nat) (0 : Nat) (2 : Nat) m, SV.int IntKind.i64 now, SV.ptr (3 : Nat) (0 : Nat) (6 : Nat) (0 : Nat),
            SV.int IntKind.i64 (↑i : Int)]
          [BO.raw
              (some
                (Blk.mk (2 : Nat) m (fun r => [SV.int IntKind.i64 (k r (0 : Nat)), SV.int IntKind.i64 (k r (1 : Nat))])
                  false (0 : Nat))),
            BO.rows (3 : Nat) (1 : Nat) true (26 : Nat)
              [[SV.int IntKind.i64 x, SV.int IntKind.i64 y, SV.int IntKind.i64 z]],
            BO.rows (6 : Nat) (1 : Nat) true (23 : Nat)
              [[SV.int IntKind.i64 w.d, SV.int IntKind.i64 w.m, SV.int IntKind.i64 w.c, SV.int IntKind.i64 w.t,
                  SV.int IntKind.i64 w.s, SV.int IntKind.i64 w.g]],
            BO.rows (6 : Nat) (1 : Nat) true (23 : Nat)
              [[SV.int IntKind.i64 v.d, SV.int IntKind.i64 v.m, SV.int IntKind.i64 v.c, SV.int IntKind.i64 v.t,
                  SV.int IntKind.i64 v.s, SV.int IntKind.i64 v.g]]]
    else
      Kt (Ex.exit (2 : Nat)) (132 : Nat)
        [SV.slice (0 : Nat) (0 : Nat) (2 : Nat) m, SV.int IntKind.i64 now, SV.ptr (3 : Nat) (0 : Nat) (6 : Nat) (0 : Nat),
          SV.int IntKind.i64 (↑i : Int)]
        [BO.raw
            (some
              (Blk.mk (2 : Nat) m (fun r => [SV.int IntKind.i64 (k r (0 : Nat)), SV.int IntKind.i64 (k r (1 : Nat))]) false
                (0 : Nat))),
          BO.rows (3 : Nat) (1 : Nat) true (26 : Nat) [[SV.int IntKind.i64 x, SV.int IntKind.i64 y, SV.int IntKind.i64 z]],
          BO.rows (6 : Nat) (1 : Nat) true (23 : Nat)
            [[SV.int IntKind.i64 w.d, SV.int IntKind.i64 w.m, SV.int IntKind.i64 w.c, SV.int IntKind.i64 w.t,
                SV.int IntKind.i64 w.s, SV.int IntKind.i64 w.g]],
          BO.rows (6 : Nat) (1 : Nat) true (23 : Nat)
            [[SV.int IntKind.i64 v.d, SV.int IntKind.i64 v.m, SV.int IntKind.i64 v.c, SV.int IntKind.i64 v.t,
                SV.int IntKind.i64 v.s, SV.int IntKind.i64 v.g]]]) := by kernel_rfl
theorem q6sd (n m : Nat) (g : Nat → Th) (k : Nat → Nat → Int) (x y z : Int) (w v : Wn) (now : Int) (kk : SV → Prop) : evalC C8 0  2 c6_11 (tplF 132 L6b (u6s m now .top)) ((k6s n m g k x y z w v).map mkB) ( endK Try.prog Try.f6.results.toList (fun v _ => kk v)) = (
    kk (SV.bool true)) := by kernel_rfl
theorem q6ed (m : Nat) (k : Nat → Nat → Int) (x y z : Int) (w v : Wn) (now : Int) (kk : SV → Prop) : evalC C8 0  1 c6_11 (tplF 132 L6b (u6e m now .top)) ((k6e m k x y z w v).map mkB) ( endK Try.prog Try.f6.results.toList (fun v _ => kk v)) = (
    kk (SV.bool true)) := by kernel_rfl
theorem t6ee (x y z : Int) (kk : SV → Prop) : evalF C8 64 Try.f6 [.agg [.int .i64 x, .int .i64 y, .int .i64 z], .eslice, .eslice] [] (fun v _ => kk v) = (
    ∀ (r' : Wn),
      r' = madeW x y z →
        ∀ (r'_1 : Wn),
          r'_1 =
              chW (Wn.mk r'.d r'.m r'.c r'.t r'.s r'.g) (isT (9007199254740991 : Int) && isT (0 : Int))
                (bad1 (Wn.mk r'.d r'.m r'.c r'.t r'.s r'.g) (9007199254740991 : Int) (0 : Int)) →
            bif decide (r'.s < (9007199254740991 : Int)) then
              bif r'_1.s != (0 : Int) then kk (SV.bool false)
              else
                bif r'_1.t != IntKind.i64.wrap (r'.c.tdiv (2 : Int)) then kk (SV.bool false)
                else
                  bif
                      r'_1.c !=
                        if IntKind.i64.wrap ((2 : Int) * r'.d) > IntKind.i64.wrap (r'.c.tdiv (2 : Int)) then
                          IntKind.i64.wrap ((2 : Int) * r'.d)
                        else IntKind.i64.wrap (r'.c.tdiv (2 : Int)) then
                    kk (SV.bool false)
                  else
                    bif r'.s == (9007199254740991 : Int) then
                      bif
                          r'_1.d == r'.d &&
                            (r'_1.m == r'.m &&
                              (r'_1.c == r'.c && (r'_1.t == r'.t && (r'_1.s == r'.s && (r'_1.g == r'.g && true))))) then
                        kk (SV.bool true)
                      else kk (SV.bool false)
                    else kk (SV.bool true)
            else
              bif r'.s == (9007199254740991 : Int) then
                bif
                    r'_1.d == r'.d &&
                      (r'_1.m == r'.m &&
                        (r'_1.c == r'.c && (r'_1.t == r'.t && (r'_1.s == r'.s && (r'_1.g == r'.g && true))))) then
                  kk (SV.bool true)
                else kk (SV.bool false)
              else kk (SV.bool true)) := by kernel_rfl
end Go.Proofs.Ytefjhkgkdmjopaa
