/-
  What functions of the program come to, way by way: printed by a program, held by the kernel.
-/
import Derived.Test.YtepmbiahnicooaaX3
namespace Go.Proofs.Ytepmbiahnicooaa
open Go.RowKit
set_option maxRecDepth 100000

theorem p19a (n : Nat) (g : Nat → Nat → Int) (Kt : KT) : evalC C5 0  1 (.seq c19_0 (.seq c19_1 .skip)) (enterS 44 [.slice 0 0 3 n]) [some (bT n g)] ( obsN L19 [false, true, true] Kt) = (
    Kt Ex.normal (44 : Nat)
      [SV.slice (0 : Nat) (0 : Nat) (3 : Nat) n, SV.ptr (1 : Nat) (0 : Nat) (5 : Nat) (0 : Nat),
        SV.ptr (2 : Nat) (0 : Nat) (5 : Nat) (0 : Nat), SV.int IntKind.i64 (0 : Int), SV.top]
      [BO.raw
          (some
            (Blk.mk (3 : Nat) n
              (fun r =>
                [SV.int IntKind.i64 (g r (0 : Nat)), SV.int IntKind.i64 (g r (1 : Nat)),
                  SV.int IntKind.i64 (g r (2 : Nat))])
              false (0 : Nat))),
        BO.rows (5 : Nat) (1 : Nat) true (27 : Nat)
          [[SV.int IntKind.i64 (0 : Int), SV.int IntKind.i64 (0 : Int), SV.int IntKind.i64 (0 : Int),
              SV.int IntKind.i64 (0 : Int), SV.int IntKind.i64 (0 : Int)]],
        BO.rows (5 : Nat) (1 : Nat) true (27 : Nat)
          [[SV.int IntKind.i64 (0 : Int), SV.int IntKind.i64 (0 : Int), SV.int IntKind.i64 (1000000 : Int),
              SV.int IntKind.i64 (500000 : Int), SV.int IntKind.i64 (-1 : Int)]]]) := by kernel_rfl
theorem p19s (n : Nat) (g : Nat → Nat → Int) (l m s v f : Int) (Kt : KT) : evalC C5 0  1 c19_2 (tplF 44 L19 (v19 n .top)) ((h19 n g l m s v f).map mkB) ( obsN L19 [false, true, true] Kt) = (
    Kt Ex.normal (44 : Nat)
      [SV.slice (0 : Nat) (0 : Nat) (3 : Nat) n, SV.ptr (1 : Nat) (0 : Nat) (5 : Nat) (0 : Nat),
        SV.ptr (2 : Nat) (0 : Nat) (5 : Nat) (0 : Nat), SV.int IntKind.i64 (0 : Int), SV.int IntKind.i64 (0 : Int)]
      [BO.raw
          (some
            (Blk.mk (3 : Nat) n
              (fun r =>
                [SV.int IntKind.i64 (g r (0 : Nat)), SV.int IntKind.i64 (g r (1 : Nat)),
                  SV.int IntKind.i64 (g r (2 : Nat))])
              false (0 : Nat))),
        BO.rows (5 : Nat) (1 : Nat) true (27 : Nat)
          [[SV.int IntKind.i64 (0 : Int), SV.int IntKind.i64 (0 : Int), SV.int IntKind.i64 (0 : Int),
              SV.int IntKind.i64 (0 : Int), SV.int IntKind.i64 (0 : Int)]],
        BO.rows (5 : Nat) (1 : Nat) true (27 : Nat)
          [[SV.int IntKind.i64 l, SV.int IntKind.i64 m, SV.int IntKind.i64 s, SV.int IntKind.i64 v, SV.int IntKind.i64 f]]]) := by kernel_rfl
theorem p19r (n : Nat) (g : Nat → Nat → Int) (i : Nat) (l m s v f : Int) (Kt : KT) : evalC C5 0  1 c19_3 (tplF 44 L19 (v19 n (.int .i64 i))) ((h19 n g l m s v f).map mkB) ( obsN L19 [false, true, true] Kt) = (
    bif decide ((↑i : Int) < (↑n : Int)) then
      bif decide ((0 : Int) ≤ (↑i : Int)) && decide ((↑i : Int) < (↑n : Int)) then
        bif decide ((0 : Nat) + (↑i : Int).toNat < n) && true then
          bif decide ((0 : Int) ≤ (↑i : Int)) && decide ((↑i : Int) < (↑n : Int)) then
            bif decide ((0 : Nat) + (↑i : Int).toNat < n) && true then
              bif decide ((0 : Int) ≤ (↑i : Int)) && decide ((↑i : Int) < (↑n : Int)) then
                bif decide ((0 : Nat) + (↑i : Int).toNat < n) && true then
                  ∀ (l' m' s' v' f' e : Int),
                    SmpP l m s v f (g ((0 : Nat) + (↑i : Int).toNat) (0 : Nat)) (g ((0 : Nat) + (↑i : Int).toNat) (1 : Nat))
                        (g ((0 : Nat) + (↑i : Int).toNat) (2 : Nat)) l' m' s' v' f' e →
                      Kt Ex.normal (44 : Nat)
                        [SV.slice (0 : Nat) (0 : Nat) (3 : Nat) n, SV.ptr (1 : Nat) (0 : Nat) (5 : Nat) (0 : Nat),
                          SV.ptr (2 : Nat) (0 : Nat) (5 : Nat) (0 : Nat), SV.int IntKind.i64 e,
                          SV.int IntKind.i64 (IntKind.i64.wrap ((↑i : Int) + (1 : Int)))]
                        [BO.raw
                            (some
                              (Blk.mk (3 : Nat) n
                                (fun r =>
                                  [SV.int IntKind.i64 (g r (0 : Nat)), SV.int IntKind.i64 (g r (1 : Nat)),
                                    SV.int IntKind.i64 (g r (2 : Nat))])
                                false (0 : Nat))),
                          BO.rows (5 : Nat) (1 : Nat) true (27 : Nat)
                            [[SV.int IntKind.i64 (0 : Int), SV.int IntKind.i64 (0 : Int), SV.int IntKind.i64 (0 : Int),
                                SV.int IntKind.i64 (0 : Int), SV.int IntKind.i64 (0 : Int)]],
                          BO.rows (5 : Nat) (1 : Nat)
                            (Blk.mk (5 : Nat) (1 : Nat)
                                (fun r =>
                                  [[SV.int IntKind.i64 l, SV.int IntKind.i64 m, SV.int IntKind.i64 s, SV.int IntKind.i64 v,
                                          SV.int IntKind.i64 f]].getD
                                    r [])
                                true (27 : Nat)).rw
                            (27 : Nat)
                            [[SV.int IntKind.i64 l', SV.int IntKind.i64 m', SV.int IntKind.i64 s', SV.int IntKind.i64 v',
                                SV.int IntKind.i64 f']]]
                else False
              else False
            else False
          else False
        else False
      else False
    else
      Kt (Ex.exit (0 : Nat)) (44 : Nat)
        [SV.slice (0 : Nat) (0 : Nat) (3 : Nat) n, SV.ptr (1 : Nat) (0 : Nat) (5 : Nat) (0 : Nat),
          SV.ptr (2 : Nat) (0 : Nat) (5 : Nat) (0 : Nat), SV.int IntKind.i64 (0 : Int), SV.int IntKind.i64 (↑i : Int)]
        [BO.raw
            (some
              (Blk.mk (3 : Nat) n
                (fun r =>
                  [SV.int IntKind.i64 (g r (0 : Nat)), SV.int IntKind.i64 (g r (1 : Nat)),
                    SV.int IntKind.i64 (g r (2 : Nat))])
                false (0 : Nat))),
          BO.rows (5 : Nat) (1 : Nat) true (27 : Nat)
            [[SV.int IntKind.i64 (0 : Int), SV.int IntKind.i64 (0 : Int), SV.int IntKind.i64 (0 : Int),
                SV.int IntKind.i64 (0 : Int), SV.int IntKind.i64 (0 : Int)]],
          BO.rows (5 : Nat) (1 : Nat) true (27 : Nat)
            [[SV.int IntKind.i64 l, SV.int IntKind.i64 m, SV.int IntKind.i64 s, SV.int IntKind.i64 v,
                SV.int IntKind.i64 f]]]) := by kernel_rfl
theorem p19e (n : Nat) (g : Nat → Nat → Int) (i : Nat) (l m s v f : Int) (kk : SV → Prop) : evalC C5 0  1 c19_4 (tplF 44 L19 (v19 n (.int .i64 i))) ((h19 n g l m s v f).map mkB) ( endK Try.prog Try.f19.results.toList (fun v _ => kk v)) = (
    kk
      (SV.tuple
        [SV.agg
            [SV.int IntKind.i64 l, SV.int IntKind.i64 m, SV.int IntKind.i64 s, SV.int IntKind.i64 v, SV.int IntKind.i64 f],
          SV.bool true])) := by kernel_rfl
theorem p4a (a : Int) (n : Nat) (g : Nat → Nat → Int) (Kt : KT) : evalC C5 0  1 (.seq c4_0 (.seq c4_1 (.seq c4_2 (.seq c4_3 .skip)))) (enterS 99 [.int .i64 a, .slice 0 0 3 n]) [some (bT n g)] ( obsN L4 [false, true, true] Kt) = (
    bif
        !(zi (newE a) a == zi (newE a) a &&
            (zi (newE a) (a / (2 : Int)) == zi (newE a) (a / (2 : Int)) &&
              (zi (newE a) (-1 : Int) == zi (newE a) (-1 : Int) && true))) then
      False
    else
      bif newE a != newE a then False
      else
        Kt Ex.normal (99 : Nat)
          [SV.slice (0 : Nat) (0 : Nat) (3 : Nat) n, SV.bool false, SV.ptr (1 : Nat) (0 : Nat) (5 : Nat) (0 : Nat),
            SV.ptr (2 : Nat) (0 : Nat) (5 : Nat) (0 : Nat), SV.int IntKind.i64 (newE a), SV.top]
          [BO.raw
              (some
                (Blk.mk (3 : Nat) n
                  (fun r =>
                    [SV.int IntKind.i64 (g r (0 : Nat)), SV.int IntKind.i64 (g r (1 : Nat)),
                      SV.int IntKind.i64 (g r (2 : Nat))])
                  false (0 : Nat))),
            BO.rows (5 : Nat) (1 : Nat) true (27 : Nat)
              [[SV.int IntKind.i64 (0 : Int), SV.int IntKind.i64 (0 : Int), SV.int IntKind.i64 (zi (newE a) a),
                  SV.int IntKind.i64 (zi (newE a) (a / (2 : Int))), SV.int IntKind.i64 (zi (newE a) (-1 : Int))]],
            BO.rows (5 : Nat) (1 : Nat) true (27 : Nat)
              [[SV.int IntKind.i64 (0 : Int), SV.int IntKind.i64 (0 : Int), SV.int IntKind.i64 (zi (newE a) a),
                  SV.int IntKind.i64 (zi (newE a) (a / (2 : Int))), SV.int IntKind.i64 (zi (newE a) (-1 : Int))]]]) := by kernel_rfl
theorem p4s (n : Nat) (g : Nat → Nat → Int) (e : Int) (l m s v f : Int) (Kt : KT) : evalC C5 0  1 c4_4 (tplF 99 L4 (v4 n e .top)) ((h4 n g l m s v f).map mkB) ( obsN L4 [false, true, true] Kt) = (
    Kt Ex.normal (99 : Nat)
      [SV.slice (0 : Nat) (0 : Nat) (3 : Nat) n, SV.bool false, SV.ptr (1 : Nat) (0 : Nat) (5 : Nat) (0 : Nat),
        SV.ptr (2 : Nat) (0 : Nat) (5 : Nat) (0 : Nat), SV.int IntKind.i64 e, SV.int IntKind.i64 (0 : Int)]
      [BO.raw
          (some
            (Blk.mk (3 : Nat) n
              (fun r =>
                [SV.int IntKind.i64 (g r (0 : Nat)), SV.int IntKind.i64 (g r (1 : Nat)),
                  SV.int IntKind.i64 (g r (2 : Nat))])
              false (0 : Nat))),
        BO.rows (5 : Nat) (1 : Nat) true (27 : Nat)
          [[SV.int IntKind.i64 l, SV.int IntKind.i64 m, SV.int IntKind.i64 s, SV.int IntKind.i64 v, SV.int IntKind.i64 f]],
        BO.rows (5 : Nat) (1 : Nat) true (27 : Nat)
          [[SV.int IntKind.i64 l, SV.int IntKind.i64 m, SV.int IntKind.i64 s, SV.int IntKind.i64 v, SV.int IntKind.i64 f]]]) := by kernel_rfl
theorem p4r (n : Nat) (g : Nat → Nat → Int) (i : Nat) (e : Int) (l m s v f : Int) (Kt : KT) : evalC C5 0  1 c4_5 (tplF 99 L4 (v4 n e (.int .i64 i))) ((h4 n g l m s v f).map mkB) ( obsN L4 [false, true, true] Kt) = (
    bif decide ((↑i : Int) < (↑n : Int)) then
      bif decide ((↑i : Int) < (60 : Int)) then
        bif e == (0 : Int) then
          bif decide ((0 : Int) ≤ (↑i : Int)) && decide ((↑i : Int) < (↑n : Int)) then
            bif decide ((0 : Nat) + (↑i : Int).toNat < n) && true then
              bif decide ((0 : Int) ≤ (↑i : Int)) && decide ((↑i : Int) < (↑n : Int)) then
                bif decide ((0 : Nat) + (↑i : Int).toNat < n) && true then
                  bif decide ((0 : Int) ≤ (↑i : Int)) && decide ((↑i : Int) < (↑n : Int)) then
                    bif decide ((0 : Nat) + (↑i : Int).toNat < n) && true then
                      ∀ (l' m' s' v' f' e_1 : Int),
                        SmpP l m s v f (g ((0 : Nat) + (↑i : Int).toNat) (0 : Nat))
                            (g ((0 : Nat) + (↑i : Int).toNat) (1 : Nat)) (g ((0 : Nat) + (↑i : Int).toNat) (2 : Nat)) l' m'
                            s' v' f' e_1 →
                          bif decide ((0 : Int) ≤ (↑i : Int)) && decide ((↑i : Int) < (↑n : Int)) then
                            bif decide ((0 : Nat) + (↑i : Int).toNat < n) && true then
                              bif decide ((0 : Int) ≤ (↑i : Int)) && decide ((↑i : Int) < (↑n : Int)) then
                                bif decide ((0 : Nat) + (↑i : Int).toNat < n) && true then
                                  bif decide ((0 : Int) ≤ (↑i : Int)) && decide ((↑i : Int) < (↑n : Int)) then
                                    bif decide ((0 : Nat) + (↑i : Int).toNat < n) && true then
                                      ∀ (l'_1 m'_1 s'_1 v'_1 f'_1 e_2 : Int),
                                        SmpP l m s v f (g ((0 : Nat) + (↑i : Int).toNat) (0 : Nat))
                                            (g ((0 : Nat) + (↑i : Int).toNat) (1 : Nat))
                                            (g ((0 : Nat) + (↑i : Int).toNat) (2 : Nat)) l'_1 m'_1 s'_1 v'_1 f'_1 e_2 →
                                          bif
                                              !(l' == l'_1 &&
                                                  (m' == m'_1 && (s' == s'_1 && (v' == v'_1 && (f' == f'_1 && true))))) then
                                            False
                                          else
                                            bif e_1 != e_2 then False
                                            else
                                              bif e_2 == (0 : Int) then
                                                Kt Ex.normal (99 : Nat)
                                                  [SV.slice (0 : Nat) (0 : Nat) (3 : Nat) n, SV.bool false,
                                                    SV.ptr (1 : Nat) (0 : Nat) (5 : Nat) (0 : Nat),
                                                    SV.ptr (2 : Nat) (0 : Nat) (5 : Nat) (0 : Nat), SV.int IntKind.i64 e,
                                                    SV.int IntKind.i64 (IntKind.i64.wrap ((↑i : Int) + (1 : Int)))]
                                                  [BO.raw
                                                      (some
                                                        (Blk.mk (3 : Nat) n
                                                          (fun r =>
                                                            [SV.int IntKind.i64 (g r (0 : Nat)),
                                                              SV.int IntKind.i64 (g r (1 : Nat)),
                                                              SV.int IntKind.i64 (g r (2 : Nat))])
                                                          false (0 : Nat))),
                                                    BO.rows (5 : Nat) (1 : Nat)
                                                      (Blk.mk (5 : Nat) (1 : Nat)
                                                          (fun r =>
                                                            [[SV.int IntKind.i64 l, SV.int IntKind.i64 m,
                                                                    SV.int IntKind.i64 s, SV.int IntKind.i64 v,
                                                                    SV.int IntKind.i64 f]].getD
                                                              r [])
                                                          true (27 : Nat)).rw
                                                      (27 : Nat)
                                                      [[SV.int IntKind.i64 l', SV.int IntKind.i64 m', SV.int IntKind.i64 s',
                                                          SV.int IntKind.i64 v', SV.int IntKind.i64 f']],
                                                    BO.rows (5 : Nat) (1 : Nat)
                                                      (Blk.mk (5 : Nat) (1 : Nat)
                                                          (fun r =>
                                                            [[SV.int IntKind.i64 l, SV.int IntKind.i64 m,
                                                                    SV.int IntKind.i64 s, SV.int IntKind.i64 v,
                                                                    SV.int IntKind.i64 f]].getD
                                                              r [])
                                                          true (27 : Nat)).rw
                                                      (27 : Nat)
                                                      [[SV.int IntKind.i64 l'_1, SV.int IntKind.i64 m'_1,
                                                          SV.int IntKind.i64 s'_1, SV.int IntKind.i64 v'_1,
                                                          SV.int IntKind.i64 f'_1]]]
                                              else
                                                Kt Ex.normal (99 : Nat)
                                                  [SV.slice (0 : Nat) (0 : Nat) (3 : Nat) n, SV.bool false,
                                                    SV.ptr (1 : Nat) (0 : Nat) (5 : Nat) (0 : Nat),
                                                    SV.ptr (2 : Nat) (0 : Nat) (5 : Nat) (0 : Nat), SV.int IntKind.i64 e,
                                                    SV.int IntKind.i64 (IntKind.i64.wrap ((↑i : Int) + (1 : Int)))]
                                                  [BO.raw
                                                      (some
                                                        (Blk.mk (3 : Nat) n
                                                          (fun r =>
                                                            [SV.int IntKind.i64 (g r (0 : Nat)),
                                                              SV.int IntKind.i64 (g r (1 : Nat)),
                                                              SV.int IntKind.i64 (g r (2 : Nat))])
                                                          false (0 : Nat))),
                                                    BO.rows (5 : Nat) (1 : Nat) true (27 : Nat)
                                                      [[SV.int IntKind.i64 l, SV.int IntKind.i64 m, SV.int IntKind.i64 s,
                                                          SV.int IntKind.i64 v, SV.int IntKind.i64 f]],
                                                    BO.rows (5 : Nat) (1 : Nat) true (27 : Nat)
                                                      [[SV.int IntKind.i64 l, SV.int IntKind.i64 m, SV.int IntKind.i64 s,
                                                          SV.int IntKind.i64 v, SV.int IntKind.i64 f]]]
                                    else False
                                  else False
                                else False
                              else False
                            else False
                          else False
                    else False
                  else False
                else False
              else False
            else False
          else False
        else
          Kt (Ex.exit (0 : Nat)) (99 : Nat)
            [SV.slice (0 : Nat) (0 : Nat) (3 : Nat) n, SV.bool false, SV.ptr (1 : Nat) (0 : Nat) (5 : Nat) (0 : Nat),
              SV.ptr (2 : Nat) (0 : Nat) (5 : Nat) (0 : Nat), SV.int IntKind.i64 e, SV.int IntKind.i64 (↑i : Int)]
            [BO.raw
                (some
                  (Blk.mk (3 : Nat) n
                    (fun r =>
                      [SV.int IntKind.i64 (g r (0 : Nat)), SV.int IntKind.i64 (g r (1 : Nat)),
                        SV.int IntKind.i64 (g r (2 : Nat))])
                    false (0 : Nat))),
              BO.rows (5 : Nat) (1 : Nat) true (27 : Nat)
                [[SV.int IntKind.i64 l, SV.int IntKind.i64 m, SV.int IntKind.i64 s, SV.int IntKind.i64 v,
                    SV.int IntKind.i64 f]],
              BO.rows (5 : Nat) (1 : Nat) true (27 : Nat)
                [[SV.int IntKind.i64 l, SV.int IntKind.i64 m, SV.int IntKind.i64 s, SV.int IntKind.i64 v,
                    SV.int IntKind.i64 f]]]
      else
        Kt (Ex.exit (0 : Nat)) (99 : Nat)
          [SV.slice (0 : Nat) (0 : Nat) (3 : Nat) n, SV.bool false, SV.ptr (1 : Nat) (0 : Nat) (5 : Nat) (0 : Nat),
            SV.ptr (2 : Nat) (0 : Nat) (5 : Nat) (0 : Nat), SV.int IntKind.i64 e, SV.int IntKind.i64 (↑i : Int)]
          [BO.raw
              (some
                (Blk.mk (3 : Nat) n
                  (fun r =>
                    [SV.int IntKind.i64 (g r (0 : Nat)), SV.int IntKind.i64 (g r (1 : Nat)),
                      SV.int IntKind.i64 (g r (2 : Nat))])
                  false (0 : Nat))),
            BO.rows (5 : Nat) (1 : Nat) true (27 : Nat)
              [[SV.int IntKind.i64 l, SV.int IntKind.i64 m, SV.int IntKind.i64 s, SV.int IntKind.i64 v,
                  SV.int IntKind.i64 f]],
            BO.rows (5 : Nat) (1 : Nat) true (27 : Nat)
              [[SV.int IntKind.i64 l, SV.int IntKind.i64 m, SV.int IntKind.i64 s, SV.int IntKind.i64 v,
                  SV.int IntKind.i64 f]]]
    else
      Kt (Ex.exit (0 : Nat)) (99 : Nat)
        [SV.slice (0 : Nat) (0 : Nat) (3 : Nat) n, SV.bool false, SV.ptr (1 : Nat) (0 : Nat) (5 : Nat) (0 : Nat),
          SV.ptr (2 : Nat) (0 : Nat) (5 : Nat) (0 : Nat), SV.int IntKind.i64 e, SV.int IntKind.i64 (↑i : Int)]
        [BO.raw
            (some
              (Blk.mk (3 : Nat) n
                (fun r =>
                  [SV.int IntKind.i64 (g r (0 : Nat)), SV.int IntKind.i64 (g r (1 : Nat)),
                    SV.int IntKind.i64 (g r (2 : Nat))])
                false (0 : Nat))),
          BO.rows (5 : Nat) (1 : Nat) true (27 : Nat)
            [[SV.int IntKind.i64 l, SV.int IntKind.i64 m, SV.int IntKind.i64 s, SV.int IntKind.i64 v,
                SV.int IntKind.i64 f]],
          BO.rows (5 : Nat) (1 : Nat) true (27 : Nat)
            [[SV.int IntKind.i64 l, SV.int IntKind.i64 m, SV.int IntKind.i64 s, SV.int IntKind.i64 v,
                SV.int IntKind.i64 f]]]) := by kernel_rfl
theorem p4e (n : Nat) (g : Nat → Nat → Int) (i : Nat) (e : Int) (l m s v f : Int) (Kt : KT) : evalC C5 0  1 c4_6 (tplF 99 L4 (v4 n e (.int .i64 i))) ((h4 n g l m s v f).map mkB) ( obs [4] [] Kt) = (
    Kt Ex.ret (99 : Nat) [SV.bool true] []) := by kernel_rfl
theorem t4e (a : Int) (kk : SV → Prop) : evalF C5 64 Try.f4 [.int .i64 a, .eslice] [] (fun v _ => kk v) = (
    bif
        !(zi (newE a) a == zi (newE a) a &&
            (zi (newE a) (a / (2 : Int)) == zi (newE a) (a / (2 : Int)) &&
              (zi (newE a) (-1 : Int) == zi (newE a) (-1 : Int) && true))) then
      kk (SV.bool false)
    else bif newE a != newE a then kk (SV.bool false) else kk (SV.bool true)) := by kernel_rfl
theorem t8 (l m s v f a x d n : Int) (kk : SV → Prop) : evalF C4 64 Try.f8 [.agg [.int .i64 l, .int .i64 m, .int .i64 s, .int .i64 v, .int .i64 f], .int .i64 a, .agg [.int .i64 x, .int .i64 d, .int .i64 n]] [] (fun v _ => kk v) = (
    bif
        !(zi (newE a) a == zi (newE a) a &&
            (zi (newE a) (a / (2 : Int)) == zi (newE a) (a / (2 : Int)) &&
              (zi (newE a) (-1 : Int) == zi (newE a) (-1 : Int) && true))) then
      kk (SV.bool false)
    else
      bif newE a != newE a then kk (SV.bool false)
      else
        bif
            !(zi (smE l m s v f x d n) x == zi (smE l m s v f x d n) x &&
                (zi (smE l m s v f x d n) (smM m f x) == zi (smE l m s v f x d n) (smM m f x) &&
                  (zi (smE l m s v f x d n) (smS m s f x d) == zi (smE l m s v f x d n) (smS m s f x d) &&
                    (zi (smE l m s v f x d n) (smV m s v f x d) == zi (smE l m s v f x d n) (smV m s v f x d) &&
                      (zi (smE l m s v f x d n) (smF f n) == zi (smE l m s v f x d n) (smF f n) && true))))) then
          kk (SV.bool false)
        else
          bif smE l m s v f x d n != smE l m s v f x d n then kk (SV.bool false)
          else
            bif chkE l m s v f == chkE l m s v f then
              bif greatV l m s v f == greatV l m s v f then kk (SV.bool true) else kk (SV.bool false)
            else kk (SV.bool false)) := by kernel_rfl
theorem t3 (d m : Int) (k : Bool) (kk : SV → Prop) : evalF C4 64 Try.f3 [.int .i64 d, .int .i64 m, .bool k] [] (fun v _ => kk v) = (
    bif heldV d m k == heldV d m k then kk (SV.bool true) else kk (SV.bool false)) := by kernel_rfl
end Go.Proofs.Ytepmbiahnicooaa
