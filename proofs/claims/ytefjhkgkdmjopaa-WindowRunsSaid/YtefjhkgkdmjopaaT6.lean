/-
  What functions of the program come to, way by way: printed by a program, held by the kernel.
-/
import Derived.Test.YtefjhkgkdmjopaaX6
namespace Go.Proofs.Ytefjhkgkdmjopaa
open Go.RowKit
set_option maxRecDepth 100000

theorem p4a (n : Nat) (g : Nat → Th) (x y z : Int) (Kt : KT) (kr : SV → Prop) : evalC C8 0  1 (.seq c4_0 (.seq c4_1 (.seq c4_2 (.seq c4_3 .skip)))) (enterS 154 [.agg [.int .i64 x, .int .i64 y, .int .i64 z], .slice 0 0 5 n]) [some (bT n g)] ( obsE Try.prog Try.f4.results.toList L4 M4 Kt kr) = (
    ∀ (r' : Wn) (e : Int),
      r' = chW (newW x y z) true (newW x y z) →
        e = chE (newW x y z) true →
          ∀ (r'_1 : Wn) (e_1 : Int),
            r'_1 = chW (newW x y z) true (newW x y z) →
              e_1 = chE (newW x y z) true →
                bif
                    !(r'.d == r'_1.d &&
                        (r'.m == r'_1.m &&
                          (r'.c == r'_1.c && (r'.t == r'_1.t && (r'.s == r'_1.s && (r'.g == r'_1.g && true)))))) then
                  kr (SV.bool false)
                else
                  bif e != e_1 then kr (SV.bool false)
                  else
                    Kt Ex.normal (154 : Nat)
                      [SV.slice (0 : Nat) (0 : Nat) (5 : Nat) n, SV.ptr (2 : Nat) (0 : Nat) (6 : Nat) (0 : Nat),
                        SV.int IntKind.i64 e, SV.ptr (3 : Nat) (0 : Nat) (6 : Nat) (0 : Nat), SV.int IntKind.i64 e_1,
                        SV.top]
                      [BO.raw
                          (some
                            (Blk.mk (5 : Nat) n
                              (fun r =>
                                [SV.int IntKind.i64 (g r).k, SV.int IntKind.i64 (g r).t, SV.int IntKind.i64 (g r).n,
                                  SV.int IntKind.i64 (g r).s, SV.bool (g r).f])
                              false (0 : Nat))),
                        BO.rows (3 : Nat) (1 : Nat) true (26 : Nat)
                          [[SV.int IntKind.i64 x, SV.int IntKind.i64 y, SV.int IntKind.i64 z]],
                        BO.rows (6 : Nat) (1 : Nat) true (23 : Nat)
                          [[SV.int IntKind.i64 r'.d, SV.int IntKind.i64 r'.m, SV.int IntKind.i64 r'.c,
                              SV.int IntKind.i64 r'.t, SV.int IntKind.i64 r'.s, SV.int IntKind.i64 r'.g]],
                        BO.rows (6 : Nat) (1 : Nat) true (23 : Nat)
                          [[SV.int IntKind.i64 r'_1.d, SV.int IntKind.i64 r'_1.m, SV.int IntKind.i64 r'_1.c,
                              SV.int IntKind.i64 r'_1.t, SV.int IntKind.i64 r'_1.s, SV.int IntKind.i64 r'_1.g]]]) := by kernel_rfl
theorem p4b (n : Nat) (g : Nat → Th) (x y z : Int) (w : Wn) (e : Int) (Kt : KT) : evalC C8 0  1 c4_4 (tplF 154 L4 (v4 n e .top)) ((h4 n g x y z w).map mkB) ( obsN L4 M4 Kt) = (
    Kt Ex.normal (154 : Nat)
      [SV.slice (0 : Nat) (0 : Nat) (5 : Nat) n, SV.ptr (2 : Nat) (0 : Nat) (6 : Nat) (0 : Nat), SV.int IntKind.i64 e,
        SV.ptr (3 : Nat) (0 : Nat) (6 : Nat) (0 : Nat), SV.int IntKind.i64 e, SV.int IntKind.i64 (0 : Int)]
      [BO.raw
          (some
            (Blk.mk (5 : Nat) n
              (fun r =>
                [SV.int IntKind.i64 (g r).k, SV.int IntKind.i64 (g r).t, SV.int IntKind.i64 (g r).n,
                  SV.int IntKind.i64 (g r).s, SV.bool (g r).f])
              false (0 : Nat))),
        BO.rows (3 : Nat) (1 : Nat) true (26 : Nat) [[SV.int IntKind.i64 x, SV.int IntKind.i64 y, SV.int IntKind.i64 z]],
        BO.rows (6 : Nat) (1 : Nat) true (23 : Nat)
          [[SV.int IntKind.i64 w.d, SV.int IntKind.i64 w.m, SV.int IntKind.i64 w.c, SV.int IntKind.i64 w.t,
              SV.int IntKind.i64 w.s, SV.int IntKind.i64 w.g]],
        BO.rows (6 : Nat) (1 : Nat) true (23 : Nat)
          [[SV.int IntKind.i64 w.d, SV.int IntKind.i64 w.m, SV.int IntKind.i64 w.c, SV.int IntKind.i64 w.t,
              SV.int IntKind.i64 w.s, SV.int IntKind.i64 w.g]]]) := by kernel_rfl
theorem p4c (n : Nat) (g : Nat → Th) (x y z : Int) (w : Wn) (e : Int) (i : Nat) (Kt : KT) (kr : SV → Prop) : evalC C8 0  1 c4_5 (tplF 154 L4 (v4 n e (.int .i64 i))) ((h4 n g x y z w).map mkB) ( obsE Try.prog Try.f4.results.toList L4 M4 Kt kr) = (
    bif decide ((↑i : Int) < (↑n : Int)) then
      bif decide ((↑i : Int) < (100 : Int)) then
        bif e == (0 : Int) then
          bif decide ((↑i : Int) < (↑n : Int)) then
            bif decide ((0 : Nat) + (↑i : Int).toNat < n) && true then
              bif decide ((↑i : Int) < (↑n : Int)) then
                bif decide ((0 : Nat) + (↑i : Int).toNat < n) && true then
                  bif decide ((↑i : Int) < (↑n : Int)) then
                    bif decide ((0 : Nat) + (↑i : Int).toNat < n) && true then
                      bif (g ((0 : Nat) + (↑i : Int).toNat)).k % (8 : Int) == (5 : Int) then
                        bif decide ((↑i : Int) < (↑n : Int)) then
                          bif decide ((0 : Nat) + (↑i : Int).toNat < n) && true then
                            bif decide ((↑i : Int) < (↑n : Int)) then
                              bif decide ((0 : Nat) + (↑i : Int).toNat < n) && true then
                                ∀ (r' : Wn) (e_1 : Int),
                                  r' =
                                      chW (Wn.mk w.d w.m w.c w.t w.s w.g)
                                        (isT (g ((0 : Nat) + (↑i : Int).toNat)).t &&
                                          isT (g ((0 : Nat) + (↑i : Int).toNat)).n)
                                        (bad1 (Wn.mk w.d w.m w.c w.t w.s w.g) (g ((0 : Nat) + (↑i : Int).toNat)).t
                                          (g ((0 : Nat) + (↑i : Int).toNat)).n) →
                                    e_1 =
                                        chE (Wn.mk w.d w.m w.c w.t w.s w.g)
                                          (isT (g ((0 : Nat) + (↑i : Int).toNat)).t &&
                                            isT (g ((0 : Nat) + (↑i : Int).toNat)).n) →
                                      bif decide ((↑i : Int) < (↑n : Int)) then
                                        bif decide ((0 : Nat) + (↑i : Int).toNat < n) && true then
                                          bif decide ((↑i : Int) < (↑n : Int)) then
                                            bif decide ((0 : Nat) + (↑i : Int).toNat < n) && true then
                                              ∀ (r'_1 : Wn) (e_2 : Int),
                                                r'_1 =
                                                    chW (Wn.mk w.d w.m w.c w.t w.s w.g)
                                                      (isT (g ((0 : Nat) + (↑i : Int).toNat)).t &&
                                                        isT (g ((0 : Nat) + (↑i : Int).toNat)).n)
                                                      (bad1 (Wn.mk w.d w.m w.c w.t w.s w.g)
                                                        (g ((0 : Nat) + (↑i : Int).toNat)).t
                                                        (g ((0 : Nat) + (↑i : Int).toNat)).n) →
                                                  e_2 =
                                                      chE (Wn.mk w.d w.m w.c w.t w.s w.g)
                                                        (isT (g ((0 : Nat) + (↑i : Int).toNat)).t &&
                                                          isT (g ((0 : Nat) + (↑i : Int).toNat)).n) →
                                                    bif
                                                        !(r'.d == r'_1.d &&
                                                            (r'.m == r'_1.m &&
                                                              (r'.c == r'_1.c &&
                                                                (r'.t == r'_1.t &&
                                                                  (r'.s == r'_1.s && (r'.g == r'_1.g && true)))))) then
                                                      kr (SV.bool false)
                                                    else
                                                      bif e_1 != e_2 then kr (SV.bool false)
                                                      else
                                                        bif e_2 == (0 : Int) then
                                                          Kt Ex.normal (154 : Nat)
                                                            [SV.slice (0 : Nat) (0 : Nat) (5 : Nat) n,
                                                              SV.ptr (2 : Nat) (0 : Nat) (6 : Nat) (0 : Nat),
                                                              SV.int IntKind.i64 e,
                                                              SV.ptr (3 : Nat) (0 : Nat) (6 : Nat) (0 : Nat),
                                                              SV.int IntKind.i64 e,
                                                              SV.int IntKind.i64
                                                                (IntKind.i64.wrap ((↑i : Int) + (1 : Int)))]
                                                            [BO.raw
                                                                (some
                                                                  (Blk.mk (5 : Nat) n
                                                                    (fun r =>
                                                                      [SV.int IntKind.i64 (g r).k,
                                                                        SV.int IntKind.i64 (g r).t,
                                                                        SV.int IntKind.i64 (g r).n,
                                                                        SV.int IntKind.i64 (g r).s, SV.bool (g r).f])
                                                                    false (0 : Nat))),
                                                              BO.rows (3 : Nat) (1 : Nat) true (26 : Nat)
                                                                [[SV.int IntKind.i64 x, SV.int IntKind.i64 y,
                                                                    SV.int IntKind.i64 z]],
                                                              BO.rows (6 : Nat) (1 : Nat) true (23 : Nat)
                                                                [[SV.int IntKind.i64 r'.d, SV.int IntKind.i64 r'.m,
                                                                    SV.int IntKind.i64 r'.c, SV.int IntKind.i64 r'.t,
                                                                    SV.int IntKind.i64 r'.s, SV.int IntKind.i64 r'.g]],
                                                              BO.rows (6 : Nat) (1 : Nat) true (23 : Nat)
                                                                [[SV.int IntKind.i64 r'_1.d, SV.int IntKind.i64 r'_1.m,
                                                                    SV.int IntKind.i64 r'_1.c, SV.int IntKind.i64 r'_1.t,
                                                                    SV.int IntKind.i64 r'_1.s, SV.int IntKind.i64 r'_1.g]]]
                                                        else
                                                          Kt Ex.normal (154 : Nat)
                                                            [SV.slice (0 : Nat) (0 : Nat) (5 : Nat) n,
                                                              SV.ptr (2 : Nat) (0 : Nat) (6 : Nat) (0 : Nat),
                                                              SV.int IntKind.i64 e,
                                                              SV.ptr (3 : Nat) (0 : Nat) (6 : Nat) (0 : Nat),
                                                              SV.int IntKind.i64 e,
                                                              SV.int IntKind.i64
                                                                (IntKind.i64.wrap ((↑i : Int) + (1 : Int)))]
                                                            [BO.raw
                                                                (some
                                                                  (Blk.mk (5 : Nat) n
                                                                    (fun r =>
                                                                      [SV.int IntKind.i64 (g r).k,
                                                                        SV.int IntKind.i64 (g r).t,
                                                                        SV.int IntKind.i64 (g r).n,
                                                                        SV.int IntKind.i64 (g r).s, SV.bool (g r).f])
                                                                    false (0 : Nat))),
                                                              BO.rows (3 : Nat) (1 : Nat) true (26 : Nat)
                                                                [[SV.int IntKind.i64 x, SV.int IntKind.i64 y,
                                                                    SV.int IntKind.i64 z]],
                                                              BO.rows (6 : Nat) (1 : Nat) true (23 : Nat)
                                                                [[SV.int IntKind.i64 w.d, SV.int IntKind.i64 w.m,
                                                                    SV.int IntKind.i64 w.c, SV.int IntKind.i64 w.t,
                                                                    SV.int IntKind.i64 w.s, SV.int IntKind.i64 w.g]],
                                                              BO.rows (6 : Nat) (1 : Nat) true (23 : Nat)
                                                                [[SV.int IntKind.i64 w.d, SV.int IntKind.i64 w.m,
                                                                    SV.int IntKind.i64 w.c, SV.int IntKind.i64 w.t,
                                                                    SV.int IntKind.i64 w.s, SV.int IntKind.i64 w.g]]]
                                            else False
                                          else False
                                        else False
                                      else False
                              else False
                            else False
                          else False
                        else False
                      else
                        bif (g ((0 : Nat) + (↑i : Int).toNat)).k % (8 : Int) == (6 : Int) then
                          bif decide ((↑i : Int) < (↑n : Int)) then
                            bif decide ((0 : Nat) + (↑i : Int).toNat < n) && true then
                              bif decide ((↑i : Int) < (↑n : Int)) then
                                bif decide ((0 : Nat) + (↑i : Int).toNat < n) && true then
                                  ∀ (r' : Wn) (e_1 : Int),
                                    r' =
                                        chW (Wn.mk w.d w.m w.c w.t w.s w.g)
                                          (isT (g ((0 : Nat) + (↑i : Int).toNat)).t &&
                                            isT (g ((0 : Nat) + (↑i : Int).toNat)).n)
                                          (bad1 (Wn.mk w.d w.m w.c w.t w.s w.g) (g ((0 : Nat) + (↑i : Int).toNat)).t
                                            (g ((0 : Nat) + (↑i : Int).toNat)).n) →
                                      e_1 =
                                          chE (Wn.mk w.d w.m w.c w.t w.s w.g)
                                            (isT (g ((0 : Nat) + (↑i : Int).toNat)).t &&
                                              isT (g ((0 : Nat) + (↑i : Int).toNat)).n) →
                                        bif decide ((↑i : Int) < (↑n : Int)) then
                                          bif decide ((0 : Nat) + (↑i : Int).toNat < n) && true then
                                            bif decide ((↑i : Int) < (↑n : Int)) then
                                              bif decide ((0 : Nat) + (↑i : Int).toNat < n) && true then
                                                ∀ (r'_1 : Wn) (e_2 : Int),
                                                  r'_1 =
                                                      chW (Wn.mk w.d w.m w.c w.t w.s w.g)
                                                        (isT (g ((0 : Nat) + (↑i : Int).toNat)).t &&
                                                          isT (g ((0 : Nat) + (↑i : Int).toNat)).n)
                                                        (bad1 (Wn.mk w.d w.m w.c w.t w.s w.g)
                                                          (g ((0 : Nat) + (↑i : Int).toNat)).t
                                                          (g ((0 : Nat) + (↑i : Int).toNat)).n) →
                                                    e_2 =
                                                        chE (Wn.mk w.d w.m w.c w.t w.s w.g)
                                                          (isT (g ((0 : Nat) + (↑i : Int).toNat)).t &&
                                                            isT (g ((0 : Nat) + (↑i : Int).toNat)).n) →
                                                      bif
                                                          !(r'.d == r'_1.d &&
                                                              (r'.m == r'_1.m &&
                                                                (r'.c == r'_1.c &&
                                                                  (r'.t == r'_1.t &&
                                                                    (r'.s == r'_1.s && (r'.g == r'_1.g && true)))))) then
                                                        kr (SV.bool false)
                                                      else
                                                        bif e_1 != e_2 then kr (SV.bool false)
                                                        else
                                                          bif e_2 == (0 : Int) then
                                                            Kt Ex.normal (154 : Nat)
                                                              [SV.slice (0 : Nat) (0 : Nat) (5 : Nat) n,
                                                                SV.ptr (2 : Nat) (0 : Nat) (6 : Nat) (0 : Nat),
                                                                SV.int IntKind.i64 e,
                                                                SV.ptr (3 : Nat) (0 : Nat) (6 : Nat) (0 : Nat),
                                                                SV.int IntKind.i64 e,
                                                                SV.int IntKind.i64
                                                                  (IntKind.i64.wrap ((↑i : Int) + (1 : Int)))]
                                                              [BO.raw
                                                                  (some
                                                                    (Blk.mk (5 : Nat) n
                                                                      (fun r =>
                                                                        [SV.int IntKind.i64 (g r).k,
                                                                          SV.int IntKind.i64 (g r).t,
                                                                          SV.int IntKind.i64 (g r).n,
                                                                          SV.int IntKind.i64 (g r).s, SV.bool (g r).f])
                                                                      false (0 : Nat))),
                                                                BO.rows (3 : Nat) (1 : Nat) true (26 : Nat)
                                                                  [[SV.int IntKind.i64 x, SV.int IntKind.i64 y,
                                                                      SV.int IntKind.i64 z]],
                                                                BO.rows (6 : Nat) (1 : Nat) true (23 : Nat)
                                                                  [[SV.int IntKind.i64 r'.d, SV.int IntKind.i64 r'.m,
                                                                      SV.int IntKind.i64 r'.c, SV.int IntKind.i64 r'.t,
                                                                      SV.int IntKind.i64 r'.s, SV.int IntKind.i64 r'.g]],
                                                                BO.rows (6 : Nat) (1 : Nat) true (23 : Nat)
                                                                  [[SV.int IntKind.i64 r'_1.d, SV.int IntKind.i64 r'_1.m,
                                                                      SV.int IntKind.i64 r'_1.c, SV.int IntKind.i64 r'_1.t,
                                                                      SV.int IntKind.i64 r'_1.s,
                                                                      SV.int IntKind.i64 r'_1.g]]]
                                                          else
                                                            Kt Ex.normal (154 : Nat)
                                                              [SV.slice (0 : Nat) (0 : Nat) (5 : Nat) n,
                                                                SV.ptr (2 : Nat) (0 : Nat) (6 : Nat) (0 : Nat),
                                                                SV.int IntKind.i64 e,
                                                                SV.ptr (3 : Nat) (0 : Nat) (6 : Nat) (0 : Nat),
                                                                SV.int IntKind.i64 e,
                                                                SV.int IntKind.i64
                                                                  (IntKind.i64.wrap ((↑i : Int) + (1 : Int)))]
                                                              [BO.raw
                                                                  (some
                                                                    (Blk.mk (5 : Nat) n
                                                                      (fun r =>
                                                                        [SV.int IntKind.i64 (g r).k,
                                                                          SV.int IntKind.i64 (g r).t,
                                                                          SV.int IntKind.i64 (g r).n,
                                                                          SV.int IntKind.i64 (g r).s, SV.bool (g r).f])
                                                                      false (0 : Nat))),
                                                                BO.rows (3 : Nat) (1 : Nat) true (26 : Nat)
                                                                  [[SV.int IntKind.i64 x, SV.int IntKind.i64 y,
                                                                      SV.int IntKind.i64 z]],
                                                                BO.rows (6 : Nat) (1 : Nat) true (23 : Nat)
                                                                  [[SV.int IntKind.i64 w.d, SV.int IntKind.i64 w.m,
                                                                      SV.int IntKind.i64 w.c, SV.int IntKind.i64 w.t,
                                                                      SV.int IntKind.i64 w.s, SV.int IntKind.i64 w.g]],
                                                                BO.rows (6 : Nat) (1 : Nat) true (23 : Nat)
                                                                  [[SV.int IntKind.i64 w.d, SV.int IntKind.i64 w.m,
                                                                      SV.int IntKind.i64 w.c, SV.int IntKind.i64 w.t,
                                                                      SV.int IntKind.i64 w.s, SV.int IntKind.i64 w.g]]]
                                              else False
                                            else False
                                          else False
                                        else False
                                else False
                              else False
                            else False
                          else False
                        else
                          bif (g ((0 : Nat) + (↑i : Int).toNat)).k % (8 : Int) == (7 : Int) then
                            ∀ (r' : Wn) (e_1 : Int),
                              r' = chW (Wn.mk w.d w.m w.c w.t w.s w.g) true (col1 (Wn.mk w.d w.m w.c w.t w.s w.g)) →
                                e_1 = chE (Wn.mk w.d w.m w.c w.t w.s w.g) true →
                                  ∀ (r'_1 : Wn) (e_2 : Int),
                                    r'_1 = chW (Wn.mk w.d w.m w.c w.t w.s w.g) true (col1 (Wn.mk w.d w.m w.c w.t w.s w.g)) →
                                      e_2 = chE (Wn.mk w.d w.m w.c w.t w.s w.g) true →
                                        bif
                                            !(r'.d == r'_1.d &&
                                                (r'.m == r'_1.m &&
                                                  (r'.c == r'_1.c &&
                                                    (r'.t == r'_1.t && (r'.s == r'_1.s && (r'.g == r'_1.g && true)))))) then
                                          kr (SV.bool false)
                                        else
                                          bif e_1 != e_2 then kr (SV.bool false)
                                          else
                                            bif e_2 == (0 : Int) then
                                              Kt Ex.normal (154 : Nat)
                                                [SV.slice (0 : Nat) (0 : Nat) (5 : Nat) n,
                                                  SV.ptr (2 : Nat) (0 : Nat) (6 : Nat) (0 : Nat), SV.int IntKind.i64 e,
                                                  SV.ptr (3 : Nat) (0 : Nat) (6 : Nat) (0 : Nat), SV.int IntKind.i64 e,
                                                  SV.int IntKind.i64 (IntKind.i64.wrap ((↑i : Int) + (1 : Int)))]
                                                [BO.raw
                                                    (some
                                                      (Blk.mk (5 : Nat) n
                                                        (fun r =>
                                                          [SV.int IntKind.i64 (g r).k, SV.int IntKind.i64 (g r).t,
                                                            SV.int IntKind.i64 (g r).n, SV.int IntKind.i64 (g r).s,
                                                            SV.bool (g r).f])
                                                        false (0 : Nat))),
                                                  BO.rows (3 : Nat) (1 : Nat) true (26 : Nat)
                                                    [[SV.int IntKind.i64 x, SV.int IntKind.i64 y, SV.int IntKind.i64 z]],
                                                  BO.rows (6 : Nat) (1 : Nat) true (23 : Nat)
                                                    [[SV.int IntKind.i64 r'.d, SV.int IntKind.i64 r'.m,
                                                        SV.int IntKind.i64 r'.c, SV.int IntKind.i64 r'.t,
                                                        SV.int IntKind.i64 r'.s, SV.int IntKind.i64 r'.g]],
                                                  BO.rows (6 : Nat) (1 : Nat) true (23 : Nat)
                                                    [[SV.int IntKind.i64 r'_1.d, SV.int IntKind.i64 r'_1.m,
                                                        SV.int IntKind.i64 r'_1.c, SV.int IntKind.i64 r'_1.t,
                                                        SV.int IntKind.i64 r'_1.s, SV.int IntKind.i64 r'_1.g]]]
                                            else
                                              Kt Ex.normal (154 : Nat)
                                                [SV.slice (0 : Nat) (0 : Nat) (5 : Nat) n,
                                                  SV.ptr (2 : Nat) (0 : Nat) (6 : Nat) (0 : Nat), SV.int IntKind.i64 e,
                                                  SV.ptr (3 : Nat) (0 : Nat) (6 : Nat) (0 : Nat), SV.int IntKind.i64 e,
                                                  SV.int IntKind.i64 (IntKind.i64.wrap ((↑i : Int) + (1 : Int)))]
                                                [BO.raw
                                                    (some
                                                      (Blk.mk (5 : Nat) n
                                                        (fun r =>
                                                          [SV.int IntKind.i64 (g r).k, SV.int IntKind.i64 (g r).t,
                                                            SV.int IntKind.i64 (g r).n, SV.int IntKind.i64 (g r).s,
                                                            SV.bool (g r).f])
                                                        false (0 : Nat))),
                                                  BO.rows (3 : Nat) (1 : Nat) true (26 : Nat)
                                                    [[SV.int IntKind.i64 x, SV.int IntKind.i64 y, SV.int IntKind.i64 z]],
                                                  BO.rows (6 : Nat) (1 : Nat) true (23 : Nat)
                                                    [[SV.int IntKind.i64 w.d, SV.int IntKind.i64 w.m,
                                                        SV.int IntKind.i64 w.c, SV.int IntKind.i64 w.t,
                                                        SV.int IntKind.i64 w.s, SV.int IntKind.i64 w.g]],
                                                  BO.rows (6 : Nat) (1 : Nat) true (23 : Nat)
                                                    [[SV.int IntKind.i64 w.d, SV.int IntKind.i64 w.m,
                                                        SV.int IntKind.i64 w.c, SV.int IntKind.i64 w.t,
                                                        SV.int IntKind.i64 w.s, SV.int IntKind.i64 w.g]]]
                          else
                            bif decide ((↑i : Int) < (↑n : Int)) then
                              bif decide ((0 : Nat) + (↑i : Int).toNat < n) && true then
                                ∀ (r' : Wn) (e_1 : Int),
                                  r' =
                                      chW (Wn.mk w.d w.m w.c w.t w.s w.g)
                                        (ackOk
                                          (Pk.mk (0 : Int) (g ((0 : Nat) + (↑i : Int).toNat)).t
                                              (g ((0 : Nat) + (↑i : Int).toNat)).s false false false).t
                                          (Pk.mk (0 : Int) (g ((0 : Nat) + (↑i : Int).toNat)).t
                                              (g ((0 : Nat) + (↑i : Int).toNat)).s false false false).s)
                                        (ack1 (Wn.mk w.d w.m w.c w.t w.s w.g)
                                          (Pk.mk (0 : Int) (g ((0 : Nat) + (↑i : Int).toNat)).t
                                              (g ((0 : Nat) + (↑i : Int).toNat)).s false false false).t
                                          (Pk.mk (0 : Int) (g ((0 : Nat) + (↑i : Int).toNat)).t
                                              (g ((0 : Nat) + (↑i : Int).toNat)).s false false false).s
                                          (g ((0 : Nat) + (↑i : Int).toNat)).f) →
                                    e_1 =
                                        chE (Wn.mk w.d w.m w.c w.t w.s w.g)
                                          (ackOk (g ((0 : Nat) + (↑i : Int).toNat)).t
                                            (g ((0 : Nat) + (↑i : Int).toNat)).s) →
                                      bif decide ((↑i : Int) < (↑n : Int)) then
                                        bif decide ((0 : Nat) + (↑i : Int).toNat < n) && true then
                                          ∀ (r'_1 : Wn) (e_2 : Int),
                                            r'_1 =
                                                chW (Wn.mk w.d w.m w.c w.t w.s w.g)
                                                  (ackOk
                                                    (Pk.mk (0 : Int) (g ((0 : Nat) + (↑i : Int).toNat)).t
                                                        (g ((0 : Nat) + (↑i : Int).toNat)).s false false false).t
                                                    (Pk.mk (0 : Int) (g ((0 : Nat) + (↑i : Int).toNat)).t
                                                        (g ((0 : Nat) + (↑i : Int).toNat)).s false false false).s)
                                                  (ack1 (Wn.mk w.d w.m w.c w.t w.s w.g)
                                                    (Pk.mk (0 : Int) (g ((0 : Nat) + (↑i : Int).toNat)).t
                                                        (g ((0 : Nat) + (↑i : Int).toNat)).s false false false).t
                                                    (Pk.mk (0 : Int) (g ((0 : Nat) + (↑i : Int).toNat)).t
                                                        (g ((0 : Nat) + (↑i : Int).toNat)).s false false false).s
                                                    (g ((0 : Nat) + (↑i : Int).toNat)).f) →
                                              e_2 =
                                                  chE (Wn.mk w.d w.m w.c w.t w.s w.g)
                                                    (ackOk (g ((0 : Nat) + (↑i : Int).toNat)).t
                                                      (g ((0 : Nat) + (↑i : Int).toNat)).s) →
                                                bif
                                                    !(r'.d == r'_1.d &&
                                                        (r'.m == r'_1.m &&
                                                          (r'.c == r'_1.c &&
                                                            (r'.t == r'_1.t &&
                                                              (r'.s == r'_1.s && (r'.g == r'_1.g && true)))))) then
                                                  kr (SV.bool false)
                                                else
                                                  bif e_1 != e_2 then kr (SV.bool false)
                                                  else
                                                    bif e_2 == (0 : Int) then
                                                      Kt Ex.normal (154 : Nat)
                                                        [SV.slice (0 : Nat) (0 : Nat) (5 : Nat) n,
                                                          SV.ptr (2 : Nat) (0 : Nat) (6 : Nat) (0 : Nat),
                                                          SV.int IntKind.i64 e,
                                                          SV.ptr (3 : Nat) (0 : Nat) (6 : Nat) (0 : Nat),
                                                          SV.int IntKind.i64 e,
                                                          SV.int IntKind.i64 (IntKind.i64.wrap ((↑i : Int) + (1 : Int)))]
                                                        [BO.raw
                                                            (some
                                                              (Blk.mk (5 : Nat) n
                                                                (fun r =>
                                                                  [SV.int IntKind.i64 (g r).k, SV.int IntKind.i64 (g r).t,
                                                                    SV.int IntKind.i64 (g r).n, SV.int IntKind.i64 (g r).s,
                                                                    SV.bool (g r).f])
                                                                false (0 : Nat))),
                                                          BO.rows (3 : Nat) (1 : Nat) true (26 : Nat)
                                                            [[SV.int IntKind.i64 x, SV.int IntKind.i64 y,
                                                                SV.int IntKind.i64 z]],
                                                          BO.rows (6 : Nat) (1 : Nat) true (23 : Nat)
                                                            [[SV.int IntKind.i64 r'.d, SV.int IntKind.i64 r'.m,
                                                                SV.int IntKind.i64 r'.c, SV.int IntKind.i64 r'.t,
                                                                SV.int IntKind.i64 r'.s, SV.int IntKind.i64 r'.g]],
                                                          BO.rows (6 : Nat) (1 : Nat) true (23 : Nat)
                                                            [[SV.int IntKind.i64 r'_1.d, SV.int IntKind.i64 r'_1.m,
                                                                SV.int IntKind.i64 r'_1.c, SV.int IntKind.i64 r'_1.t,
                                                                SV.int IntKind.i64 r'_1.s, SV.int IntKind.i64 r'_1.g]]]
                                                    else
                                                      Kt Ex.normal (154 : Nat)
                                                        [SV.slice (0 : Nat) (0 : Nat) (5 : Nat) n,
                                                          SV.ptr (2 : Nat) (0 : Nat) (6 : Nat) (0 : Nat),
                                                          SV.int IntKind.i64 e,
                                                          SV.ptr (3 : Nat) (0 : Nat) (6 : Nat) (0 : Nat),
                                                          SV.int IntKind.i64 e,
                                                          SV.int IntKind.i64 (IntKind.i64.wrap ((↑i : Int) + (1 : Int)))]
                                                        [BO.raw
                                                            (some
                                                              (Blk.mk (5 : Nat) n
                                                                (fun r =>
                                                                  [SV.int IntKind.i64 (g r).k, SV.int IntKind.i64 (g r).t,
                                                                    SV.int IntKind.i64 (g r).n, SV.int IntKind.i64 (g r).s,
                                                                    SV.bool (g r).f])
                                                                false (0 : Nat))),
                                                          BO.rows (3 : Nat) (1 : Nat) true (26 : Nat)
                                                            [[SV.int IntKind.i64 x, SV.int IntKind.i64 y,
                                                                SV.int IntKind.i64 z]],
                                                          BO.rows (6 : Nat) (1 : Nat) true (23 : Nat)
                                                            [[SV.int IntKind.i64 w.d, SV.int IntKind.i64 w.m,
                                                                SV.int IntKind.i64 w.c, SV.int IntKind.i64 w.t,
                                                                SV.int IntKind.i64 w.s, SV.int IntKind.i64 w.g]],
                                                          BO.rows (6 : Nat) (1 : Nat) true (23 : Nat)
                                                            [[SV.int IntKind.i64 w.d, SV.int IntKind.i64 w.m,
                                                                SV.int IntKind.i64 w.c, SV.int IntKind.i64 w.t,
                                                                SV.int IntKind.i64 w.s, SV.int IntKind.i64 w.g]]]
                                        else False
                                      else False
                              else False
                            else False
                    else False
                  else False
                else False
              else False
            else False
          else False
        else
          Kt (Ex.exit (0 : Nat)) (154 : Nat)
            [SV.slice (0 : Nat) (0 : Nat) (5 : Nat) n, SV.ptr (2 : Nat) (0 : Nat) (6 : Nat) (0 : Nat), SV.int IntKind.i64 e,
              SV.ptr (3 : Nat) (0 : Nat) (6 : Nat) (0 : Nat), SV.int IntKind.i64 e, SV.int IntKind.i64 (↑i : Int)]
            [BO.raw
                (some
                  (Blk.mk (5 : Nat) n
                    (fun r =>
                      [SV.int IntKind.i64 (g r).k, SV.int IntKind.i64 (g r).t, SV.int IntKind.i64 (g r).n,
                        SV.int IntKind.i64 (g r).s, SV.bool (g r).f])
                    false (0 : Nat))),
              BO.rows (3 : Nat) (1 : Nat) true (26 : Nat)
                [[SV.int IntKind.i64 x, SV.int IntKind.i64 y, SV.int IntKind.i64 z]],
              BO.rows (6 : Nat) (1 : Nat) true (23 : Nat)
                [[SV.int IntKind.i64 w.d, SV.int IntKind.i64 w.m, SV.int IntKind.i64 w.c, SV.int IntKind.i64 w.t,
                    SV.int IntKind.i64 w.s, SV.int IntKind.i64 w.g]],
              BO.rows (6 : Nat) (1 : Nat) true (23 : Nat)
                [[SV.int IntKind.i64 w.d, SV.int IntKind.i64 w.m, SV.int IntKind.i64 w.c, SV.int IntKind.i64 w.t,
                    SV.int IntKind.i64 w.s, SV.int IntKind.i64 w.g]]]
      else
        Kt (Ex.exit (0 : Nat)) (154 : Nat)
          [SV.slice (0 : Nat) (0 : Nat) (5 : Nat) n, SV.ptr (2 : Nat) (0 : Nat) (6 : Nat) (0 : Nat), SV.int IntKind.i64 e,
            SV.ptr (3 : Nat) (0 : Nat) (6 : Nat) (0 : Nat), SV.int IntKind.i64 e, SV.int IntKind.i64 (↑i : Int)]
          [BO.raw
              (some
                (Blk.mk (5 : Nat) n
                  (fun r =>
                    [SV.int IntKind.i64 (g r).k, SV.int IntKind.i64 (g r).t, SV.int IntKind.i64 (g r).n,
                      SV.int IntKind.i64 (g r).s, SV.bool (g r).f])
                  false (0 : Nat))),
            BO.rows (3 : Nat) (1 : Nat) true (26 : Nat)
              [[SV.int IntKind.i64 x, SV.int IntKind.i64 y, SV.int IntKind.i64 z]],
            BO.rows (6 : Nat) (1 : Nat) true (23 : Nat)
              [[SV.int IntKind.i64 w.d, SV.int IntKind.i64 w.m, SV.int IntKind.i64 w.c, SV.int IntKind.i64 w.t,
                  SV.int IntKind.i64 w.s, SV.int IntKind.i64 w.g]],
            BO.rows (6 : Nat) (1 : Nat) true (23 : Nat)
              [[SV.int IntKind.i64 w.d, SV.int IntKind.i64 w.m, SV.int IntKind.i64 w.c, SV.int IntKind.i64 w.t,
                  SV.int IntKind.i64 w.s, SV.int IntKind.i64 w.g]]]
    else
      Kt (Ex.exit (0 : Nat)) (154 : Nat)
        [SV.slice (0 : Nat) (0 : Nat) (5 : Nat) n, SV.ptr (2 : Nat) (0 : Nat) (6 : Nat) (0 : Nat), SV.int IntKind.i64 e,
          SV.ptr (3 : Nat) (0 : Nat) (6 : Nat) (0 : Nat), SV.int IntKind.i64 e, SV.int IntKind.i64 (↑i : Int)]
        [BO.raw
            (some
              (Blk.mk (5 : Nat) n
                (fun r =>
                  [SV.int IntKind.i64 (g r).k, SV.int IntKind.i64 (g r).t, SV.int IntKind.i64 (g r).n,
                    SV.int IntKind.i64 (g r).s, SV.bool (g r).f])
                false (0 : Nat))),
          BO.rows (3 : Nat) (1 : Nat) true (26 : Nat) [[SV.int IntKind.i64 x, SV.int IntKind.i64 y, SV.int IntKind.i64 z]],
          BO.rows (6 : Nat) (1 : Nat) true (23 : Nat)
            [[SV.int IntKind.i64 w.d, SV.int IntKind.i64 w.m, SV.int IntKind.i64 w.c, SV.int IntKind.i64 w.t,
                SV.int IntKind.i64 w.s, SV.int IntKind.i64 w.g]],
          BO.rows (6 : Nat) (1 : Nat) true (23 : Nat)
            [[SV.int IntKind.i64 w.d, SV.int IntKind.i64 w.m, SV.int IntKind.i64 w.c, SV.int IntKind.i64 w.t,
                SV.int IntKind.i64 w.s, SV.int IntKind.i64 w.g]]]) := by kernel_rfl
theorem p4d (n : Nat) (g : Nat → Th) (x y z : Int) (w : Wn) (e : Int) (kk : SV → Prop) : evalC C8 0  1 c4_6 (tplF 154 L4 (v4 n e .top)) ((h4 n g x y z w).map mkB) ( endK Try.prog Try.f4.results.toList (fun v _ => kk v)) = (
    kk (SV.bool true)) := by kernel_rfl
theorem t4e (x y z : Int) (kk : SV → Prop) : evalF C8 64 Try.f4 [.agg [.int .i64 x, .int .i64 y, .int .i64 z], .eslice] [] (fun v _ => kk v) = (
    ∀ (r' : Wn) (e : Int),
      r' = chW (newW x y z) true (newW x y z) →
        e = chE (newW x y z) true →
          ∀ (r'_1 : Wn) (e_1 : Int),
            r'_1 = chW (newW x y z) true (newW x y z) →
              e_1 = chE (newW x y z) true →
                bif
                    !(r'.d == r'_1.d &&
                        (r'.m == r'_1.m &&
                          (r'.c == r'_1.c && (r'.t == r'_1.t && (r'.s == r'_1.s && (r'.g == r'_1.g && true)))))) then
                  kk (SV.bool false)
                else bif e != e_1 then kk (SV.bool false) else kk (SV.bool true)) := by kernel_rfl
end Go.Proofs.Ytefjhkgkdmjopaa
