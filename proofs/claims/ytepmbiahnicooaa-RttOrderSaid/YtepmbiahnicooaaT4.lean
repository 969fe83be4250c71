/-
  What functions of the program come to, way by way: printed by a program, held by the kernel.
-/
import Derived.Test.YtepmbiahnicooaaX4
namespace Go.Proofs.Ytepmbiahnicooaa
open Go.RowKit
set_option maxRecDepth 100000

theorem t7 (a b d : Int) (kk : SV → Prop) : evalF C7 64 Try.f7 [.int .i64 a, .int .i64 b, .int .i64 d] [] (fun v _ => kk v) = (
    ∀ (r : Int),
      BrP a (9007199254740992 : Int) r →
        ∀ (r_1 : Int),
          BrP b (9007199254740992 : Int) r_1 →
            ∀ (r_2 : Int),
              BrP d (9007199254740992 : Int) r_2 →
                Tp3 r r_2 (0 : Int) ∧
                  Tp3 r_1 r_2 (1 : Int) ∧
                    ∀ (l m s v f : Int),
                      Run2 r r_2 (0 : Int) r_1 r_2 (1 : Int) l m s v f →
                        bif decide ((if r_1 < r then r_1 else r) ≤ IntKind.i64.wrap (r_1 - r_2)) then
                          bif
                              s ==
                                IntKind.i64.wrap
                                  ((IntKind.i64.wrap (IntKind.i64.wrap ((7 : Int) * r) + IntKind.i64.wrap (r_1 - r_2))).tdiv
                                    (8 : Int)) then
                            bif
                                v ==
                                  IntKind.i64.wrap
                                    ((IntKind.i64.wrap
                                          (IntKind.i64.wrap ((3 : Int) * IntKind.i64.wrap (r.tdiv (2 : Int))) +
                                            if
                                                IntKind.i64.wrap (IntKind.i64.wrap (r_1 - r_2) - r) >
                                                  IntKind.i64.wrap (r - IntKind.i64.wrap (r_1 - r_2)) then
                                              IntKind.i64.wrap (IntKind.i64.wrap (r_1 - r_2) - r)
                                            else IntKind.i64.wrap (r - IntKind.i64.wrap (r_1 - r_2)))).tdiv
                                      (4 : Int)) then
                              kk (SV.bool true)
                            else kk (SV.bool false)
                          else kk (SV.bool false)
                        else
                          bif
                              s ==
                                IntKind.i64.wrap
                                  ((IntKind.i64.wrap (IntKind.i64.wrap ((7 : Int) * r) + r_1)).tdiv (8 : Int)) then
                            bif
                                v ==
                                  IntKind.i64.wrap
                                    ((IntKind.i64.wrap
                                          (IntKind.i64.wrap ((3 : Int) * IntKind.i64.wrap (r.tdiv (2 : Int))) +
                                            if IntKind.i64.wrap (r_1 - r) > IntKind.i64.wrap (r - r_1) then
                                              IntKind.i64.wrap (r_1 - r)
                                            else IntKind.i64.wrap (r - r_1))).tdiv
                                      (4 : Int)) then
                              kk (SV.bool true)
                            else kk (SV.bool false)
                          else kk (SV.bool false)) := by kernel_rfl
theorem p5a (t many : Int) (Kt : KT) : evalC C7 0  0 (.seq c5_0 (.seq c5_1 (.seq c5_2 (.seq c5_3 .skip)))) (enterS 63 [.int .i64 t, .int .i64 many]) [] ( obsN L5 [true, true] Kt) = (
    ∀ (r : Int),
      BrP t (9007199254740992 : Int) r →
        Tp3 r (0 : Int) (3 : Int) ∧
          ∀ (l m s v f : Int),
            Run1 r (0 : Int) (3 : Int) l m s v f →
              Kt Ex.normal (63 : Nat)
                [SV.int IntKind.i64 r, SV.int IntKind.i64 many, SV.bool false,
                  SV.ptr (1 : Nat) (0 : Nat) (5 : Nat) (0 : Nat), SV.bool true,
                  SV.int IntKind.i64 (IntKind.i64.wrap (r.tdiv (2 : Int))), SV.top]
                [BO.rows (3 : Nat) (1 : Nat) true (32 : Nat)
                    [[SV.int IntKind.i64 r, SV.int IntKind.i64 (0 : Int), SV.int IntKind.i64 (3 : Int)]],
                  BO.rows (5 : Nat) (1 : Nat) true (27 : Nat)
                    [[SV.int IntKind.i64 l, SV.int IntKind.i64 m, SV.int IntKind.i64 s, SV.int IntKind.i64 v,
                        SV.int IntKind.i64 f]]]) := by kernel_rfl
theorem p5s (t many w : Int) (l m s v f : Int) (Kt : KT) : evalC C7 0  0 c5_4 (tplF 63 L5 (v5 t many w .top)) ((h5 t l m s v f).map mkB) ( obsN L5 [true, true] Kt) = (
    Kt Ex.normal (63 : Nat)
      [SV.int IntKind.i64 t, SV.int IntKind.i64 many, SV.bool false, SV.ptr (1 : Nat) (0 : Nat) (5 : Nat) (0 : Nat),
        SV.bool true, SV.int IntKind.i64 w, SV.int IntKind.i64 (0 : Int)]
      [BO.rows (3 : Nat) (1 : Nat) true (32 : Nat)
          [[SV.int IntKind.i64 t, SV.int IntKind.i64 (0 : Int), SV.int IntKind.i64 (3 : Int)]],
        BO.rows (5 : Nat) (1 : Nat) true (27 : Nat)
          [[SV.int IntKind.i64 l, SV.int IntKind.i64 m, SV.int IntKind.i64 s, SV.int IntKind.i64 v, SV.int IntKind.i64 f]]]) := by kernel_rfl
theorem p5r (t many w : Int) (i : Nat) (l m s v f : Int) (Kt : KT) : evalC C7 0  0 c5_5 (tplF 63 L5 (v5 t many w (.int .i64 i))) ((h5 t l m s v f).map mkB) ( obsN L5 [true, true] Kt) = (
    ∀ (r : Int),
      BrP many (90 : Int) r →
        bif decide ((↑i : Int) < IntKind.i64.wrap ((1 : Int) + r)) then
          bif s != t then False
          else
            bif m != t then False
            else
              bif v != w then False
              else
                ∀ (l' m' s' v' f' e : Int),
                  SmpP l m s v f t (0 : Int) (↑i : Int) l' m' s' v' f' e →
                    Kt Ex.normal (63 : Nat)
                      [SV.int IntKind.i64 t, SV.int IntKind.i64 many, SV.bool false,
                        SV.ptr (1 : Nat) (0 : Nat) (5 : Nat) (0 : Nat), SV.bool (e == (0 : Int)),
                        SV.int IntKind.i64 (IntKind.i64.wrap ((IntKind.i64.wrap (w * (3 : Int))).tdiv (4 : Int))),
                        SV.int IntKind.i64 (IntKind.i64.wrap ((↑i : Int) + (1 : Int)))]
                      [BO.rows (3 : Nat) (1 : Nat) true (32 : Nat)
                          [[SV.int IntKind.i64 t, SV.int IntKind.i64 (0 : Int), SV.int IntKind.i64 (3 : Int)]],
                        BO.rows (5 : Nat) (1 : Nat) true (27 : Nat)
                          [[SV.int IntKind.i64 l', SV.int IntKind.i64 m', SV.int IntKind.i64 s', SV.int IntKind.i64 v',
                              SV.int IntKind.i64 f']]]
        else
          Kt (Ex.exit (0 : Nat)) (63 : Nat)
            [SV.int IntKind.i64 t, SV.int IntKind.i64 many, SV.bool false, SV.ptr (1 : Nat) (0 : Nat) (5 : Nat) (0 : Nat),
              SV.bool true, SV.int IntKind.i64 w, SV.int IntKind.i64 (↑i : Int)]
            [BO.rows (3 : Nat) (1 : Nat) true (32 : Nat)
                [[SV.int IntKind.i64 t, SV.int IntKind.i64 (0 : Int), SV.int IntKind.i64 (3 : Int)]],
              BO.rows (5 : Nat) (1 : Nat) true (27 : Nat)
                [[SV.int IntKind.i64 l, SV.int IntKind.i64 m, SV.int IntKind.i64 s, SV.int IntKind.i64 v,
                    SV.int IntKind.i64 f]]]) := by kernel_rfl
theorem p5e (t many w : Int) (i : Nat) (l m s v f : Int) (Kt : KT) : evalC C7 0  0 c5_6 (tplF 63 L5 (v5 t many w (.int .i64 i))) ((h5 t l m s v f).map mkB) ( obs [4] [] Kt) = (
    Kt Ex.ret (63 : Nat) [SV.bool true] []) := by kernel_rfl
theorem p20a (n : Nat) (g : Nat → Nat → Int) (t : Bool) (Kt : KT) : evalC C5 0  1 (.seq c20_0 (.seq c20_1 .skip)) (enterS 51 [.slice 0 0 3 n, .bool t]) [some (bT n g)] ( obsN L20 [false] Kt) = (
    Kt Ex.normal (51 : Nat) [SV.slice (0 : Nat) (0 : Nat) (3 : Nat) n, SV.bool t, SV.nilSlice, SV.top]
      [BO.raw
          (some
            (Blk.mk (3 : Nat) n
              (fun r =>
                [SV.int IntKind.i64 (g r (0 : Nat)), SV.int IntKind.i64 (g r (1 : Nat)),
                  SV.int IntKind.i64 (g r (2 : Nat))])
              false (0 : Nat)))]) := by kernel_rfl
theorem p20s (n : Nat) (g : Nat → Nat → Int) (t : Bool) (Kt : KT) : evalC C5 0  1 c20_2 (tplF 51 L20 (v20 n t .nilSlice .top)) [some (bT n g)] ( obsN L20 [false] Kt) = (
    Kt Ex.normal (51 : Nat) [SV.slice (0 : Nat) (0 : Nat) (3 : Nat) n, SV.bool t, SV.nilSlice, SV.int IntKind.i64 (0 : Int)]
      [BO.raw
          (some
            (Blk.mk (3 : Nat) n
              (fun r =>
                [SV.int IntKind.i64 (g r (0 : Nat)), SV.int IntKind.i64 (g r (1 : Nat)),
                  SV.int IntKind.i64 (g r (2 : Nat))])
              false (0 : Nat)))]) := by kernel_rfl
theorem p20rn (n : Nat) (g : Nat → Nat → Int) (t : Bool) (i : Nat) (Kt : KT) : evalC C5 0  1 c20_3 (tplF 51 L20 (v20 n t .nilSlice (.int .i64 i))) [some (bT n g)] ( obsN L20 [false, true, true, true] Kt) = (
    bif decide ((↑i : Int) < (↑n : Int)) then
      bif decide ((↑i : Int) < (60 : Int)) then
        bif decide ((↑i : Int) < (↑n : Int)) then
          bif decide ((0 : Nat) + (↑i : Int).toNat < n) && true then
            ∀ (r : Int),
              BrP (g ((0 : Nat) + (↑i : Int).toNat) (0 : Nat)) (9007199254740992 : Int) r →
                bif decide ((↑i : Int) < (↑n : Int)) then
                  bif decide ((0 : Nat) + (↑i : Int).toNat < n) && true then
                    ∀ (r_1 : Int),
                      BrP (g ((0 : Nat) + (↑i : Int).toNat) (2 : Nat)) (9007199254740992 : Int) r_1 →
                        bif t then
                          bif decide ((↑i : Int) < (↑n : Int)) then
                            bif decide ((0 : Nat) + (↑i : Int).toNat < n) && true then
                              ∀ (r_2 : Int),
                                BrP (g ((0 : Nat) + (↑i : Int).toNat) (1 : Nat)) (9007199254740992 : Int) r_2 →
                                  Kt Ex.normal (51 : Nat)
                                    [SV.slice (0 : Nat) (0 : Nat) (3 : Nat) n, SV.bool t,
                                      SV.slice (3 : Nat) (0 : Nat) (3 : Nat) (1 : Nat),
                                      SV.int IntKind.i64 (IntKind.i64.wrap ((↑i : Int) + (1 : Int)))]
                                    [BO.raw
                                        (some
                                          (Blk.mk (3 : Nat) n
                                            (fun r =>
                                              [SV.int IntKind.i64 (g r (0 : Nat)), SV.int IntKind.i64 (g r (1 : Nat)),
                                                SV.int IntKind.i64 (g r (2 : Nat))])
                                            false (0 : Nat))),
                                      BO.rows (3 : Nat) (1 : Nat) true (32 : Nat)
                                        [[SV.int IntKind.i64 r, SV.int IntKind.i64 r_2, SV.int IntKind.i64 r_1]],
                                      BO.rows (3 : Nat) (1 : Nat) true (32 : Nat)
                                        [[SV.int IntKind.i64 r, SV.int IntKind.i64 r_2, SV.int IntKind.i64 r_1]],
                                      BO.rows (3 : Nat) (1 : Nat) true (32 : Nat)
                                        [[SV.int IntKind.i64 r, SV.int IntKind.i64 r_2, SV.int IntKind.i64 r_1]]]
                            else False
                          else False
                        else
                          Kt Ex.normal (51 : Nat)
                            [SV.slice (0 : Nat) (0 : Nat) (3 : Nat) n, SV.bool t,
                              SV.slice (3 : Nat) (0 : Nat) (3 : Nat) (1 : Nat),
                              SV.int IntKind.i64 (IntKind.i64.wrap ((↑i : Int) + (1 : Int)))]
                            [BO.raw
                                (some
                                  (Blk.mk (3 : Nat) n
                                    (fun r =>
                                      [SV.int IntKind.i64 (g r (0 : Nat)), SV.int IntKind.i64 (g r (1 : Nat)),
                                        SV.int IntKind.i64 (g r (2 : Nat))])
                                    false (0 : Nat))),
                              BO.rows (3 : Nat) (1 : Nat) true (32 : Nat)
                                [[SV.int IntKind.i64 r, SV.int IntKind.i64 (0 : Int), SV.int IntKind.i64 r_1]],
                              BO.rows (3 : Nat) (1 : Nat) true (32 : Nat)
                                [[SV.int IntKind.i64 r, SV.int IntKind.i64 (0 : Int), SV.int IntKind.i64 r_1]],
                              BO.rows (3 : Nat) (1 : Nat) true (32 : Nat)
                                [[SV.int IntKind.i64 r, SV.int IntKind.i64 (0 : Int), SV.int IntKind.i64 r_1]]]
                  else False
                else False
          else False
        else False
      else
        Kt (Ex.exit (0 : Nat)) (51 : Nat)
          [SV.slice (0 : Nat) (0 : Nat) (3 : Nat) n, SV.bool t, SV.nilSlice, SV.int IntKind.i64 (↑i : Int)]
          [BO.raw
              (some
                (Blk.mk (3 : Nat) n
                  (fun r =>
                    [SV.int IntKind.i64 (g r (0 : Nat)), SV.int IntKind.i64 (g r (1 : Nat)),
                      SV.int IntKind.i64 (g r (2 : Nat))])
                  false (0 : Nat))),
            BO.raw none, BO.raw none, BO.raw none]
    else
      Kt (Ex.exit (0 : Nat)) (51 : Nat)
        [SV.slice (0 : Nat) (0 : Nat) (3 : Nat) n, SV.bool t, SV.nilSlice, SV.int IntKind.i64 (↑i : Int)]
        [BO.raw
            (some
              (Blk.mk (3 : Nat) n
                (fun r =>
                  [SV.int IntKind.i64 (g r (0 : Nat)), SV.int IntKind.i64 (g r (1 : Nat)),
                    SV.int IntKind.i64 (g r (2 : Nat))])
                false (0 : Nat))),
          BO.raw none, BO.raw none, BO.raw none]) := by kernel_rfl
theorem p20rs (n : Nat) (g : Nat → Nat → Int) (t : Bool) (i N : Nat) (q : Nat → Nat → Int) (Kt : KT) : evalC C5 0  1 c20_3 (tplF 51 L20 (v20 n t (.slice 1 0 3 (N + 1)) (.int .i64 i))) [some (bT n g), some (bW (N + 1) q)] ( obsN L20 [false, false, true, true, false] Kt) = (
    bif decide ((↑i : Int) < (↑n : Int)) then
      bif decide ((↑i : Int) < (60 : Int)) then
        bif decide ((↑i : Int) < (↑n : Int)) then
          bif decide ((0 : Nat) + (↑i : Int).toNat < n) && true then
            ∀ (r : Int),
              BrP (g ((0 : Nat) + (↑i : Int).toNat) (0 : Nat)) (9007199254740992 : Int) r →
                bif decide ((↑i : Int) < (↑n : Int)) then
                  bif decide ((0 : Nat) + (↑i : Int).toNat < n) && true then
                    ∀ (r_1 : Int),
                      BrP (g ((0 : Nat) + (↑i : Int).toNat) (2 : Nat)) (9007199254740992 : Int) r_1 →
                        bif t then
                          bif decide ((↑i : Int) < (↑n : Int)) then
                            bif decide ((0 : Nat) + (↑i : Int).toNat < n) && true then
                              ∀ (r_2 : Int),
                                BrP (g ((0 : Nat) + (↑i : Int).toNat) (1 : Nat)) (9007199254740992 : Int) r_2 →
                                  bif
                                      decide (N + (1 : Nat) + (1 : Nat) ≤ (9223372036854775807 : Nat)) &&
                                                    decide
                                                      ((N + (1 : Nat) + (1 : Nat)) * (24 : Nat) ≤
                                                        (140737488355328 : Nat)) &&
                                                  true &&
                                                true &&
                                              true &&
                                            true &&
                                          decide (N + (1 : Nat) = N + (1 : Nat)) &&
                                        true then
                                    Kt Ex.normal (51 : Nat)
                                      [SV.slice (0 : Nat) (0 : Nat) (3 : Nat) n, SV.bool t,
                                        SV.slice (4 : Nat) (0 : Nat) (3 : Nat) (N + (1 : Nat) + (1 : Nat)),
                                        SV.int IntKind.i64 (IntKind.i64.wrap ((↑i : Int) + (1 : Int)))]
                                      [BO.raw
                                          (some
                                            (Blk.mk (3 : Nat) n
                                              (fun r =>
                                                [SV.int IntKind.i64 (g r (0 : Nat)), SV.int IntKind.i64 (g r (1 : Nat)),
                                                  SV.int IntKind.i64 (g r (2 : Nat))])
                                              false (0 : Nat))),
                                        BO.raw none,
                                        BO.rows (3 : Nat) (1 : Nat) true (32 : Nat)
                                          [[SV.int IntKind.i64 r, SV.int IntKind.i64 r_2, SV.int IntKind.i64 r_1]],
                                        BO.rows (3 : Nat) (1 : Nat) true (32 : Nat)
                                          [[SV.int IntKind.i64 r, SV.int IntKind.i64 r_2, SV.int IntKind.i64 r_1]],
                                        BO.raw
                                          (some
                                            (Blk.mk (3 : Nat) (N + (1 : Nat) + (1 : Nat))
                                              (fun r_3 =>
                                                bif decide (r_3 < N + (1 : Nat)) then (bW (N + (1 : Nat)) q).rd r_3
                                                else
                                                  (fun i =>
                                                      (Blk.mk C5.P.types[(32 : Nat)].size (1 : Nat)
                                                            (fun r_4 =>
                                                              bif r_4.beq (0 : Nat) then
                                                                [SV.int IntKind.i64 r, SV.int IntKind.i64 r_2,
                                                                  SV.int IntKind.i64 r_1]
                                                              else
                                                                (fun r_5 =>
                                                                    List.take C5.P.types[(32 : Nat)].size
                                                                      (List.drop (r_5 * C5.P.types[(32 : Nat)].size)
                                                                        [SV.int IntKind.i64 r, SV.int IntKind.i64 r_2,
                                                                          SV.int IntKind.i64 r_1]))
                                                                  r_4)
                                                            true (32 : Nat)).rd
                                                        ((0 : Nat) + i))
                                                    (r_3 - (N + (1 : Nat))))
                                              true (32 : Nat)))]
                                  else False
                            else False
                          else False
                        else
                          bif
                              decide (N + (1 : Nat) + (1 : Nat) ≤ (9223372036854775807 : Nat)) &&
                                            decide ((N + (1 : Nat) + (1 : Nat)) * (24 : Nat) ≤ (140737488355328 : Nat)) &&
                                          true &&
                                        true &&
                                      true &&
                                    true &&
                                  decide (N + (1 : Nat) = N + (1 : Nat)) &&
                                true then
                            Kt Ex.normal (51 : Nat)
                              [SV.slice (0 : Nat) (0 : Nat) (3 : Nat) n, SV.bool t,
                                SV.slice (4 : Nat) (0 : Nat) (3 : Nat) (N + (1 : Nat) + (1 : Nat)),
                                SV.int IntKind.i64 (IntKind.i64.wrap ((↑i : Int) + (1 : Int)))]
                              [BO.raw
                                  (some
                                    (Blk.mk (3 : Nat) n
                                      (fun r =>
                                        [SV.int IntKind.i64 (g r (0 : Nat)), SV.int IntKind.i64 (g r (1 : Nat)),
                                          SV.int IntKind.i64 (g r (2 : Nat))])
                                      false (0 : Nat))),
                                BO.raw none,
                                BO.rows (3 : Nat) (1 : Nat) true (32 : Nat)
                                  [[SV.int IntKind.i64 r, SV.int IntKind.i64 (0 : Int), SV.int IntKind.i64 r_1]],
                                BO.rows (3 : Nat) (1 : Nat) true (32 : Nat)
                                  [[SV.int IntKind.i64 r, SV.int IntKind.i64 (0 : Int), SV.int IntKind.i64 r_1]],
                                BO.raw
                                  (some
                                    (Blk.mk (3 : Nat) (N + (1 : Nat) + (1 : Nat))
                                      (fun r_2 =>
                                        bif decide (r_2 < N + (1 : Nat)) then (bW (N + (1 : Nat)) q).rd r_2
                                        else
                                          (fun i =>
                                              (Blk.mk C5.P.types[(32 : Nat)].size (1 : Nat)
                                                    (fun r_3 =>
                                                      bif r_3.beq (0 : Nat) then
                                                        [SV.int IntKind.i64 r, SV.int IntKind.i64 (0 : Int),
                                                          SV.int IntKind.i64 r_1]
                                                      else
                                                        (fun r_4 =>
                                                            List.take C5.P.types[(32 : Nat)].size
                                                              (List.drop (r_4 * C5.P.types[(32 : Nat)].size)
                                                                [SV.int IntKind.i64 r, SV.int IntKind.i64 (0 : Int),
                                                                  SV.int IntKind.i64 r_1]))
                                                          r_3)
                                                    true (32 : Nat)).rd
                                                ((0 : Nat) + i))
                                            (r_2 - (N + (1 : Nat))))
                                      true (32 : Nat)))]
                          else False
                  else False
                else False
          else False
        else False
      else
        Kt (Ex.exit (0 : Nat)) (51 : Nat)
          [SV.slice (0 : Nat) (0 : Nat) (3 : Nat) n, SV.bool t, SV.slice (1 : Nat) (0 : Nat) (3 : Nat) (N + (1 : Nat)),
            SV.int IntKind.i64 (↑i : Int)]
          [BO.raw
              (some
                (Blk.mk (3 : Nat) n
                  (fun r =>
                    [SV.int IntKind.i64 (g r (0 : Nat)), SV.int IntKind.i64 (g r (1 : Nat)),
                      SV.int IntKind.i64 (g r (2 : Nat))])
                  false (0 : Nat))),
            BO.raw
              (some
                (Blk.mk (3 : Nat) (N + (1 : Nat))
                  (fun r =>
                    [SV.int IntKind.i64 (q r (0 : Nat)), SV.int IntKind.i64 (q r (1 : Nat)),
                      SV.int IntKind.i64 (q r (2 : Nat))])
                  true (32 : Nat))),
            BO.raw none, BO.raw none, BO.raw none]
    else
      Kt (Ex.exit (0 : Nat)) (51 : Nat)
        [SV.slice (0 : Nat) (0 : Nat) (3 : Nat) n, SV.bool t, SV.slice (1 : Nat) (0 : Nat) (3 : Nat) (N + (1 : Nat)),
          SV.int IntKind.i64 (↑i : Int)]
        [BO.raw
            (some
              (Blk.mk (3 : Nat) n
                (fun r =>
                  [SV.int IntKind.i64 (g r (0 : Nat)), SV.int IntKind.i64 (g r (1 : Nat)),
                    SV.int IntKind.i64 (g r (2 : Nat))])
                false (0 : Nat))),
          BO.raw
            (some
              (Blk.mk (3 : Nat) (N + (1 : Nat))
                (fun r =>
                  [SV.int IntKind.i64 (q r (0 : Nat)), SV.int IntKind.i64 (q r (1 : Nat)),
                    SV.int IntKind.i64 (q r (2 : Nat))])
                true (32 : Nat))),
          BO.raw none, BO.raw none, BO.raw none]) := by kernel_rfl
theorem p20en (n : Nat) (g : Nat → Nat → Int) (t : Bool) (i : Nat) (Kt : KT) : evalC C5 0  1 c20_4 (tplF 51 L20 (v20 n t .nilSlice (.int .i64 i))) [some (bT n g)] ( obs [4] [false, true, true] Kt) = (
    Kt Ex.ret (51 : Nat) [SV.slice (2 : Nat) (0 : Nat) (3 : Nat) (1 : Nat)]
      [BO.raw
          (some
            (Blk.mk (3 : Nat) n
              (fun r =>
                [SV.int IntKind.i64 (g r (0 : Nat)), SV.int IntKind.i64 (g r (1 : Nat)),
                  SV.int IntKind.i64 (g r (2 : Nat))])
              false (0 : Nat))),
        BO.rows (3 : Nat) (1 : Nat) true (32 : Nat)
          [[SV.int IntKind.i64 (5 : Int), SV.int IntKind.i64 (0 : Int), SV.int IntKind.i64 (1 : Int)]],
        BO.rows (3 : Nat) (1 : Nat) true (32 : Nat)
          [[SV.int IntKind.i64 (5 : Int), SV.int IntKind.i64 (0 : Int), SV.int IntKind.i64 (1 : Int)]]]) := by kernel_rfl
theorem p20es (n : Nat) (g : Nat → Nat → Int) (t : Bool) (i N : Nat) (q : Nat → Nat → Int) (Kt : KT) : evalC C5 0  1 c20_4 (tplF 51 L20 (v20 n t (.slice 1 0 3 (N + 1)) (.int .i64 i))) [some (bT n g), some (bW (N + 1) q)] ( obs [4] [false, false] Kt) = (
    Kt Ex.ret (51 : Nat) [SV.slice (1 : Nat) (0 : Nat) (3 : Nat) (N + (1 : Nat))]
      [BO.raw
          (some
            (Blk.mk (3 : Nat) n
              (fun r =>
                [SV.int IntKind.i64 (g r (0 : Nat)), SV.int IntKind.i64 (g r (1 : Nat)),
                  SV.int IntKind.i64 (g r (2 : Nat))])
              false (0 : Nat))),
        BO.raw
          (some
            (Blk.mk (3 : Nat) (N + (1 : Nat))
              (fun r =>
                [SV.int IntKind.i64 (q r (0 : Nat)), SV.int IntKind.i64 (q r (1 : Nat)),
                  SV.int IntKind.i64 (q r (2 : Nat))])
              true (32 : Nat)))]) := by kernel_rfl
theorem p9a (n : Nat) (g : Nat → Nat → Int) (Kt : KT) : evalC C6 0  1 (.seq c9_0 (.seq c9_1 (.seq c9_2 (.seq c9_3 .skip)))) (enterS 116 [.slice 0 0 3 n]) [some (bT n g)] ( obsN L9 [false, false] Kt) = (
    Raw3
        (Blk.mk (3 : Nat) n
          (fun r =>
            [SV.int IntKind.i64 (g r (0 : Nat)), SV.int IntKind.i64 (g r (1 : Nat)), SV.int IntKind.i64 (g r (2 : Nat))])
          false (0 : Nat))
        n ∧
      ∀ (N : Nat) (g_1 : Nat → Nat → Int),
        BrgP true N g_1 →
          bif N.beq (1 : Nat) then
            bif decide ((0 : Int) < (↑N : Int)) then
              bif decide ((0 : Nat) < N) && true then
                bif decide ((0 : Int) < (↑N : Int)) then
                  bif decide ((0 : Nat) < N) && true then
                    Kt Ex.normal (116 : Nat)
                      [SV.slice (1 : Nat) (0 : Nat) (3 : Nat) N, SV.bool false,
                        SV.int IntKind.i64 (g_1 (0 : Nat) (0 : Nat)), SV.int IntKind.i64 (g_1 (0 : Nat) (0 : Nat)), SV.top]
                      [BO.raw
                          (some
                            (Blk.mk (3 : Nat) n
                              (fun r =>
                                [SV.int IntKind.i64 (g r (0 : Nat)), SV.int IntKind.i64 (g r (1 : Nat)),
                                  SV.int IntKind.i64 (g r (2 : Nat))])
                              false (0 : Nat))),
                        BO.raw
                          (some
                            (Blk.mk (3 : Nat) N
                              (fun r =>
                                bif r.beq (0 : Nat) then
                                  [SV.int IntKind.i64 (g_1 (0 : Nat) (0 : Nat)),
                                    SV.int IntKind.i64 (g_1 (0 : Nat) (1 : Nat)),
                                    SV.int IntKind.i64 (g_1 (0 : Nat) (2 : Nat))]
                                else
                                  (fun r =>
                                      [SV.int IntKind.i64 (g_1 r (0 : Nat)), SV.int IntKind.i64 (g_1 r (1 : Nat)),
                                        SV.int IntKind.i64 (g_1 r (2 : Nat))])
                                    r)
                              true (32 : Nat)))]
                  else False
                else False
              else False
            else False
          else
            bif decide ((0 : Int) < (↑N : Int)) then
              bif decide ((0 : Nat) < N) && true then
                bif decide ((0 : Int) < (↑N : Int)) then
                  bif decide ((0 : Nat) < N) && true then
                    Kt Ex.normal (116 : Nat)
                      [SV.slice (1 : Nat) (0 : Nat) (3 : Nat) N, SV.bool false,
                        SV.int IntKind.i64 (g_1 (0 : Nat) (0 : Nat)), SV.int IntKind.i64 (g_1 (0 : Nat) (0 : Nat)), SV.top]
                      [BO.raw
                          (some
                            (Blk.mk (3 : Nat) n
                              (fun r =>
                                [SV.int IntKind.i64 (g r (0 : Nat)), SV.int IntKind.i64 (g r (1 : Nat)),
                                  SV.int IntKind.i64 (g r (2 : Nat))])
                              false (0 : Nat))),
                        BO.raw
                          (some
                            (Blk.mk (3 : Nat) N
                              (fun r =>
                                [SV.int IntKind.i64 (g_1 r (0 : Nat)), SV.int IntKind.i64 (g_1 r (1 : Nat)),
                                  SV.int IntKind.i64 (g_1 r (2 : Nat))])
                              true (32 : Nat)))]
                  else False
                else False
              else False
            else False) := by kernel_rfl
theorem p9s (n : Nat) (g : Nat → Nat → Int) (N : Nat) (q : Nat → Nat → Int) (lo hi : Int) (Kt : KT) : evalC C6 0  1 c9_4 (tplF 116 L9 (v9 N (.int .i64 lo) (.int .i64 hi) .top)) ((h9 n g N q).map mkB) ( obsN L9 [false, false] Kt) = (
    Kt Ex.normal (116 : Nat)
      [SV.slice (1 : Nat) (0 : Nat) (3 : Nat) N, SV.bool false, SV.int IntKind.i64 lo, SV.int IntKind.i64 hi,
        SV.int IntKind.i64 (0 : Int)]
      [BO.raw
          (some
            (Blk.mk (3 : Nat) n
              (fun r =>
                [SV.int IntKind.i64 (g r (0 : Nat)), SV.int IntKind.i64 (g r (1 : Nat)),
                  SV.int IntKind.i64 (g r (2 : Nat))])
              false (0 : Nat))),
        BO.raw
          (some
            (Blk.mk (3 : Nat) N
              (fun r =>
                [SV.int IntKind.i64 (q r (0 : Nat)), SV.int IntKind.i64 (q r (1 : Nat)),
                  SV.int IntKind.i64 (q r (2 : Nat))])
              true (32 : Nat)))]) := by kernel_rfl
theorem p9r (n : Nat) (g : Nat → Nat → Int) (N : Nat) (q : Nat → Nat → Int) (lo hi : Int) (i : Nat) (Kt : KT) : evalC C6 0  1 c9_5 (tplF 116 L9 (v9 N (.int .i64 lo) (.int .i64 hi) (.int .i64 i))) ((h9 n g N q).map mkB) ( obsN L9 [false, false] Kt) = (
    bif decide ((↑i : Int) < (↑N : Int)) then
      bif decide ((↑i : Int) < (↑N : Int)) then
        bif decide ((0 : Nat) + (↑i : Int).toNat < N) && true then
          bif decide ((↑i : Int) < (↑N : Int)) then
            bif decide ((0 : Nat) + (↑i : Int).toNat < N) && true then
              bif
                  decide ((0 : Int) ≤ IntKind.i64.wrap ((↑i : Int) + (1 : Int))) &&
                    decide (IntKind.i64.wrap ((↑i : Int) + (1 : Int)) ≤ (↑N : Int)) then
                bif decide ((0 : Int) < IntKind.i64.wrap ((↑i : Int) + (1 : Int))) then
                  ∃ g_1,
                    ((IntKind.i64.wrap ((↑i : Int) + (1 : Int))).toNat - (0 : Nat)).le (1000 : Nat) ∧
                      RowsAre
                          (Blk.mk (3 : Nat) N
                            (fun r =>
                              [SV.int IntKind.i64 (q r (0 : Nat)), SV.int IntKind.i64 (q r (1 : Nat)),
                                SV.int IntKind.i64 (q r (2 : Nat))])
                            true (32 : Nat))
                          ((IntKind.i64.wrap ((↑i : Int) + (1 : Int))).toNat - (0 : Nat)) g_1 ∧
                        ∀ (l m s v f : Int),
                          RunP g_1 ((IntKind.i64.wrap ((↑i : Int) + (1 : Int))).toNat - (0 : Nat)) l m s v f →
                            bif
                                m !=
                                  if q ((0 : Nat) + (↑i : Int).toNat) (0 : Nat) < lo then
                                    q ((0 : Nat) + (↑i : Int).toNat) (0 : Nat)
                                  else lo then
                              False
                            else
                              bif decide ((↑i : Int) < (↑N : Int)) then
                                bif decide ((0 : Nat) + (↑i : Int).toNat < N) && true then
                                  bif l != q ((0 : Nat) + (↑i : Int).toNat) (0 : Nat) then False
                                  else
                                    bif decide ((0 : Int) < (↑N : Int)) then
                                      bif decide ((0 : Nat) < N) && true then
                                        bif f != q (0 : Nat) (2 : Nat) then False
                                        else
                                          bif
                                              decide
                                                (s <
                                                  if q ((0 : Nat) + (↑i : Int).toNat) (0 : Nat) < lo then
                                                    q ((0 : Nat) + (↑i : Int).toNat) (0 : Nat)
                                                  else lo) then
                                            False
                                          else
                                            bif
                                                decide
                                                  ((if q ((0 : Nat) + (↑i : Int).toNat) (0 : Nat) > hi then
                                                      q ((0 : Nat) + (↑i : Int).toNat) (0 : Nat)
                                                    else hi) <
                                                    s) then
                                              False
                                            else
                                              bif decide (v < (0 : Int)) then False
                                              else
                                                bif
                                                    decide
                                                      ((if q ((0 : Nat) + (↑i : Int).toNat) (0 : Nat) > hi then
                                                          q ((0 : Nat) + (↑i : Int).toNat) (0 : Nat)
                                                        else hi) <
                                                        v) then
                                                  False
                                                else
                                                  bif chkE l m s v f != (0 : Int) then False
                                                  else
                                                    bif decide ((↑i : Int) < (↑N : Int)) then
                                                      bif decide ((0 : Nat) + (↑i : Int).toNat < N) && true then
                                                        bif
                                                            greatV l m s v f !=
                                                              if q ((0 : Nat) + (↑i : Int).toNat) (0 : Nat) > s then
                                                                q ((0 : Nat) + (↑i : Int).toNat) (0 : Nat)
                                                              else s then
                                                          False
                                                        else
                                                          Kt Ex.normal (116 : Nat)
                                                            [SV.slice (1 : Nat) (0 : Nat) (3 : Nat) N, SV.bool false,
                                                              SV.int IntKind.i64
                                                                (if q ((0 : Nat) + (↑i : Int).toNat) (0 : Nat) < lo then
                                                                  q ((0 : Nat) + (↑i : Int).toNat) (0 : Nat)
                                                                else lo),
                                                              SV.int IntKind.i64
                                                                (if q ((0 : Nat) + (↑i : Int).toNat) (0 : Nat) > hi then
                                                                  q ((0 : Nat) + (↑i : Int).toNat) (0 : Nat)
                                                                else hi),
                                                              SV.int IntKind.i64
                                                                (IntKind.i64.wrap ((↑i : Int) + (1 : Int)))]
                                                            [BO.raw
                                                                (some
                                                                  (Blk.mk (3 : Nat) n
                                                                    (fun r =>
                                                                      [SV.int IntKind.i64 (g r (0 : Nat)),
                                                                        SV.int IntKind.i64 (g r (1 : Nat)),
                                                                        SV.int IntKind.i64 (g r (2 : Nat))])
                                                                    false (0 : Nat))),
                                                              BO.raw
                                                                (some
                                                                  (Blk.mk (3 : Nat) N
                                                                    (fun r =>
                                                                      [SV.int IntKind.i64 (q r (0 : Nat)),
                                                                        SV.int IntKind.i64 (q r (1 : Nat)),
                                                                        SV.int IntKind.i64 (q r (2 : Nat))])
                                                                    true (32 : Nat)))]
                                                      else False
                                                    else False
                                      else False
                                    else False
                                else False
                              else False
                else False
              else False
            else False
          else False
        else False
      else False
    else
      Kt (Ex.exit (0 : Nat)) (116 : Nat)
        [SV.slice (1 : Nat) (0 : Nat) (3 : Nat) N, SV.bool false, SV.int IntKind.i64 lo, SV.int IntKind.i64 hi,
          SV.int IntKind.i64 (↑i : Int)]
        [BO.raw
            (some
              (Blk.mk (3 : Nat) n
                (fun r =>
                  [SV.int IntKind.i64 (g r (0 : Nat)), SV.int IntKind.i64 (g r (1 : Nat)),
                    SV.int IntKind.i64 (g r (2 : Nat))])
                false (0 : Nat))),
          BO.raw
            (some
              (Blk.mk (3 : Nat) N
                (fun r =>
                  [SV.int IntKind.i64 (q r (0 : Nat)), SV.int IntKind.i64 (q r (1 : Nat)),
                    SV.int IntKind.i64 (q r (2 : Nat))])
                true (32 : Nat)))]) := by kernel_rfl
theorem p9e (n : Nat) (g : Nat → Nat → Int) (N : Nat) (q : Nat → Nat → Int) (lo hi : Int) (i : Nat) (Kt : KT) : evalC C6 0  1 c9_6 (tplF 116 L9 (v9 N (.int .i64 lo) (.int .i64 hi) (.int .i64 i))) ((h9 n g N q).map mkB) ( obs [2] [] Kt) = (
    Kt Ex.ret (116 : Nat) [SV.bool true] []) := by kernel_rfl
end Go.Proofs.Ytepmbiahnicooaa
