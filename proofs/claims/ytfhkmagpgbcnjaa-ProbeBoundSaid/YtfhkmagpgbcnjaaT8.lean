/-
  What functions of the program come to, way by way: printed by a program, held by the kernel.
-/
import Derived.Test.YtfhkmagpgbcnjaaX8
namespace Go.Proofs.Ytfhkmagpgbcnjaa
open Go.RowKit
set_option maxRecDepth 100000

theorem t6 (n sp : Int) (kk : SV → Prop) : evalF C8 64 Try.f6 [.int .i64 n, .int .i64 sp] [] (fun v _ => kk v) = (
    ∀ (r : Int),
      (0 : Int) ≤ r ∧ r < (27 : Int) ∧ r = n % (27 : Int) →
        (sp % (3 : Int) = (0 : Int) →
            ∀ (x y z e : Int),
              AnsP
                  (dE (r.tmod (3 : Int)) ((IntKind.i64.wrap (r.tdiv (3 : Int))).tmod (3 : Int))
                    (IntKind.i64.wrap (r.tdiv (9 : Int))) (0 : Int) (1 : Int))
                  (0 : Int)
                  (mx
                    (at3 (r.tmod (3 : Int)) ((IntKind.i64.wrap (r.tdiv (3 : Int))).tmod (3 : Int))
                      (IntKind.i64.wrap (r.tdiv (9 : Int))) (0 : Int))
                    (1 : Int))
                  (r.tmod (3 : Int)) ((IntKind.i64.wrap (r.tdiv (3 : Int))).tmod (3 : Int))
                  (IntKind.i64.wrap (r.tdiv (9 : Int))) x y z e →
                ∀ (x_1 y_1 z_1 e_1 : Int),
                  AnsP
                      (dE (r.tmod (3 : Int)) ((IntKind.i64.wrap (r.tdiv (3 : Int))).tmod (3 : Int))
                        (IntKind.i64.wrap (r.tdiv (9 : Int))) (0 : Int) (2 : Int))
                      (0 : Int)
                      (mx
                        (at3 (r.tmod (3 : Int)) ((IntKind.i64.wrap (r.tdiv (3 : Int))).tmod (3 : Int))
                          (IntKind.i64.wrap (r.tdiv (9 : Int))) (0 : Int))
                        (2 : Int))
                      (r.tmod (3 : Int)) ((IntKind.i64.wrap (r.tdiv (3 : Int))).tmod (3 : Int))
                      (IntKind.i64.wrap (r.tdiv (9 : Int))) x_1 y_1 z_1 e_1 →
                    ∀ (x_2 y_2 z_2 e_2 : Int),
                      AnsP (dE x y z (0 : Int) (1 : Int)) (0 : Int) (mx (at3 x y z (0 : Int)) (1 : Int)) x y z x_2 y_2 z_2
                          e_2 →
                        ∀ (x_3 y_3 z_3 e_3 : Int),
                          AnsP (dE x y z (0 : Int) (2 : Int)) (0 : Int) (mx (at3 x y z (0 : Int)) (2 : Int)) x y z x_3 y_3
                              z_3 e_3 →
                            ∀ (x_4 y_4 z_4 e_4 : Int),
                              AnsP (dE x_1 y_1 z_1 (0 : Int) (1 : Int)) (0 : Int) (mx (at3 x_1 y_1 z_1 (0 : Int)) (1 : Int))
                                  x_1 y_1 z_1 x_4 y_4 z_4 e_4 →
                                bif e == (0 : Int) then
                                  bif e_1 == (0 : Int) then
                                    bif e_2 == (0 : Int) then
                                      bif e_3 == (0 : Int) then
                                        bif e_4 == (0 : Int) then
                                          bif x_2 == x && (y_2 == y && (z_2 == z && true)) then
                                            bif x_3 == x_1 && (y_3 == y_1 && (z_3 == z_1 && true)) then
                                              bif x_4 == x_1 && (y_4 == y_1 && (z_4 == z_1 && true)) then
                                                bif x_1 == (2 : Int) then
                                                  bif
                                                      x ==
                                                        if r.tmod (3 : Int) > (1 : Int) then r.tmod (3 : Int)
                                                        else (1 : Int) then
                                                    kk (SV.bool true)
                                                  else kk (SV.bool false)
                                                else kk (SV.bool false)
                                              else kk (SV.bool false)
                                            else kk (SV.bool false)
                                          else kk (SV.bool false)
                                        else kk (SV.bool false)
                                      else kk (SV.bool false)
                                    else kk (SV.bool false)
                                  else kk (SV.bool false)
                                else kk (SV.bool false)) ∧
          (sp % (3 : Int) = (1 : Int) →
              ∀ (x y z e : Int),
                AnsP
                    (dE (r.tmod (3 : Int)) ((IntKind.i64.wrap (r.tdiv (3 : Int))).tmod (3 : Int))
                      (IntKind.i64.wrap (r.tdiv (9 : Int))) (1 : Int) (1 : Int))
                    (1 : Int)
                    (mx
                      (at3 (r.tmod (3 : Int)) ((IntKind.i64.wrap (r.tdiv (3 : Int))).tmod (3 : Int))
                        (IntKind.i64.wrap (r.tdiv (9 : Int))) (1 : Int))
                      (1 : Int))
                    (r.tmod (3 : Int)) ((IntKind.i64.wrap (r.tdiv (3 : Int))).tmod (3 : Int))
                    (IntKind.i64.wrap (r.tdiv (9 : Int))) x y z e →
                  ∀ (x_1 y_1 z_1 e_1 : Int),
                    AnsP
                        (dE (r.tmod (3 : Int)) ((IntKind.i64.wrap (r.tdiv (3 : Int))).tmod (3 : Int))
                          (IntKind.i64.wrap (r.tdiv (9 : Int))) (1 : Int) (2 : Int))
                        (1 : Int)
                        (mx
                          (at3 (r.tmod (3 : Int)) ((IntKind.i64.wrap (r.tdiv (3 : Int))).tmod (3 : Int))
                            (IntKind.i64.wrap (r.tdiv (9 : Int))) (1 : Int))
                          (2 : Int))
                        (r.tmod (3 : Int)) ((IntKind.i64.wrap (r.tdiv (3 : Int))).tmod (3 : Int))
                        (IntKind.i64.wrap (r.tdiv (9 : Int))) x_1 y_1 z_1 e_1 →
                      ∀ (x_2 y_2 z_2 e_2 : Int),
                        AnsP (dE x y z (1 : Int) (1 : Int)) (1 : Int) (mx (at3 x y z (1 : Int)) (1 : Int)) x y z x_2 y_2 z_2
                            e_2 →
                          ∀ (x_3 y_3 z_3 e_3 : Int),
                            AnsP (dE x y z (1 : Int) (2 : Int)) (1 : Int) (mx (at3 x y z (1 : Int)) (2 : Int)) x y z x_3 y_3
                                z_3 e_3 →
                              ∀ (x_4 y_4 z_4 e_4 : Int),
                                AnsP (dE x_1 y_1 z_1 (1 : Int) (1 : Int)) (1 : Int)
                                    (mx (at3 x_1 y_1 z_1 (1 : Int)) (1 : Int)) x_1 y_1 z_1 x_4 y_4 z_4 e_4 →
                                  bif e == (0 : Int) then
                                    bif e_1 == (0 : Int) then
                                      bif e_2 == (0 : Int) then
                                        bif e_3 == (0 : Int) then
                                          bif e_4 == (0 : Int) then
                                            bif x_2 == x && (y_2 == y && (z_2 == z && true)) then
                                              bif x_3 == x_1 && (y_3 == y_1 && (z_3 == z_1 && true)) then
                                                bif x_4 == x_1 && (y_4 == y_1 && (z_4 == z_1 && true)) then
                                                  bif y_1 == (2 : Int) then
                                                    bif
                                                        y ==
                                                          if
                                                              (IntKind.i64.wrap (r.tdiv (3 : Int))).tmod (3 : Int) >
                                                                (1 : Int) then
                                                            (IntKind.i64.wrap (r.tdiv (3 : Int))).tmod (3 : Int)
                                                          else (1 : Int) then
                                                      kk (SV.bool true)
                                                    else kk (SV.bool false)
                                                  else kk (SV.bool false)
                                                else kk (SV.bool false)
                                              else kk (SV.bool false)
                                            else kk (SV.bool false)
                                          else kk (SV.bool false)
                                        else kk (SV.bool false)
                                      else kk (SV.bool false)
                                    else kk (SV.bool false)
                                  else kk (SV.bool false)) ∧
            (sp % (3 : Int) = (2 : Int) →
              ∀ (x y z e : Int),
                AnsP
                    (dE (r.tmod (3 : Int)) ((IntKind.i64.wrap (r.tdiv (3 : Int))).tmod (3 : Int))
                      (IntKind.i64.wrap (r.tdiv (9 : Int))) (2 : Int) (1 : Int))
                    (2 : Int)
                    (mx
                      (at3 (r.tmod (3 : Int)) ((IntKind.i64.wrap (r.tdiv (3 : Int))).tmod (3 : Int))
                        (IntKind.i64.wrap (r.tdiv (9 : Int))) (2 : Int))
                      (1 : Int))
                    (r.tmod (3 : Int)) ((IntKind.i64.wrap (r.tdiv (3 : Int))).tmod (3 : Int))
                    (IntKind.i64.wrap (r.tdiv (9 : Int))) x y z e →
                  ∀ (x_1 y_1 z_1 e_1 : Int),
                    AnsP
                        (dE (r.tmod (3 : Int)) ((IntKind.i64.wrap (r.tdiv (3 : Int))).tmod (3 : Int))
                          (IntKind.i64.wrap (r.tdiv (9 : Int))) (2 : Int) (2 : Int))
                        (2 : Int)
                        (mx
                          (at3 (r.tmod (3 : Int)) ((IntKind.i64.wrap (r.tdiv (3 : Int))).tmod (3 : Int))
                            (IntKind.i64.wrap (r.tdiv (9 : Int))) (2 : Int))
                          (2 : Int))
                        (r.tmod (3 : Int)) ((IntKind.i64.wrap (r.tdiv (3 : Int))).tmod (3 : Int))
                        (IntKind.i64.wrap (r.tdiv (9 : Int))) x_1 y_1 z_1 e_1 →
                      ∀ (x_2 y_2 z_2 e_2 : Int),
                        AnsP (dE x y z (2 : Int) (1 : Int)) (2 : Int) (mx (at3 x y z (2 : Int)) (1 : Int)) x y z x_2 y_2 z_2
                            e_2 →
                          ∀ (x_3 y_3 z_3 e_3 : Int),
                            AnsP (dE x y z (2 : Int) (2 : Int)) (2 : Int) (mx (at3 x y z (2 : Int)) (2 : Int)) x y z x_3 y_3
                                z_3 e_3 →
                              ∀ (x_4 y_4 z_4 e_4 : Int),
                                AnsP (dE x_1 y_1 z_1 (2 : Int) (1 : Int)) (2 : Int)
                                    (mx (at3 x_1 y_1 z_1 (2 : Int)) (1 : Int)) x_1 y_1 z_1 x_4 y_4 z_4 e_4 →
                                  bif e == (0 : Int) then
                                    bif e_1 == (0 : Int) then
                                      bif e_2 == (0 : Int) then
                                        bif e_3 == (0 : Int) then
                                          bif e_4 == (0 : Int) then
                                            bif x_2 == x && (y_2 == y && (z_2 == z && true)) then
                                              bif x_3 == x_1 && (y_3 == y_1 && (z_3 == z_1 && true)) then
                                                bif x_4 == x_1 && (y_4 == y_1 && (z_4 == z_1 && true)) then
                                                  bif z_1 == (2 : Int) then
                                                    bif
                                                        z ==
                                                          if IntKind.i64.wrap (r.tdiv (9 : Int)) > (1 : Int) then
                                                            IntKind.i64.wrap (r.tdiv (9 : Int))
                                                          else (1 : Int) then
                                                      kk (SV.bool true)
                                                    else kk (SV.bool false)
                                                  else kk (SV.bool false)
                                                else kk (SV.bool false)
                                              else kk (SV.bool false)
                                            else kk (SV.bool false)
                                          else kk (SV.bool false)
                                        else kk (SV.bool false)
                                      else kk (SV.bool false)
                                    else kk (SV.bool false)
                                  else kk (SV.bool false))) := by kernel_rfl
theorem t7 (n : Int) (kk : SV → Prop) : evalF C9 64 Try.f7 [.int .i64 n] [] (fun v _ => kk v) = (
    (n % (27 : Int) = (0 : Int) → kk (SV.bool true)) ∧
      (n % (27 : Int) = (1 : Int) → kk (SV.bool true)) ∧
        (n % (27 : Int) = (2 : Int) → kk (SV.bool true)) ∧
          (n % (27 : Int) = (3 : Int) → kk (SV.bool true)) ∧
            (n % (27 : Int) = (4 : Int) → kk (SV.bool true)) ∧
              (n % (27 : Int) = (5 : Int) → kk (SV.bool true)) ∧
                (n % (27 : Int) = (6 : Int) → kk (SV.bool true)) ∧
                  (n % (27 : Int) = (7 : Int) → kk (SV.bool true)) ∧
                    (n % (27 : Int) = (8 : Int) → kk (SV.bool true)) ∧
                      (n % (27 : Int) = (9 : Int) → kk (SV.bool true)) ∧
                        (n % (27 : Int) = (10 : Int) → kk (SV.bool true)) ∧
                          (n % (27 : Int) = (11 : Int) → kk (SV.bool true)) ∧
                            (n % (27 : Int) = (12 : Int) → kk (SV.bool true)) ∧
                              (n % (27 : Int) = (13 : Int) → kk (SV.bool true)) ∧
                                (n % (27 : Int) = (14 : Int) → kk (SV.bool true)) ∧
                                  (n % (27 : Int) = (15 : Int) → kk (SV.bool true)) ∧
                                    (n % (27 : Int) = (16 : Int) → kk (SV.bool true)) ∧
                                      (n % (27 : Int) = (17 : Int) → kk (SV.bool true)) ∧
                                        (n % (27 : Int) = (18 : Int) → kk (SV.bool true)) ∧
                                          (n % (27 : Int) = (19 : Int) → kk (SV.bool true)) ∧
                                            (n % (27 : Int) = (20 : Int) → kk (SV.bool true)) ∧
                                              (n % (27 : Int) = (21 : Int) → kk (SV.bool true)) ∧
                                                (n % (27 : Int) = (22 : Int) → kk (SV.bool true)) ∧
                                                  (n % (27 : Int) = (23 : Int) → kk (SV.bool true)) ∧
                                                    (n % (27 : Int) = (24 : Int) → kk (SV.bool true)) ∧
                                                      (n % (27 : Int) = (25 : Int) → kk (SV.bool true)) ∧
                                                        (n % (27 : Int) = (26 : Int) → kk (SV.bool true))) := by kernel_rfl
theorem t24 (a b c kd sp : Int) (kk : SV → Prop) : evalF C8 64 Try.f24 [.agg [.int .i64 a, .int .i64 b, .int .i64 c], .agg [.int .i64 kd, .int .i64 sp]] [] (fun v _ => kk v) = (
    (sp % (3 : Int) = (0 : Int) →
        (kd % (4 : Int) = (0 : Int) →
            (kd % (4 : Int) = (0 : Int) →
                ∀ (x y z e : Int),
                  AnsP (dE a b c (0 : Int) (1 : Int)) (0 : Int) (mx (at3 a b c (0 : Int)) (1 : Int)) a b c x y z e →
                    kk
                      (SV.tuple
                        [SV.agg [SV.int IntKind.i64 x, SV.int IntKind.i64 y, SV.int IntKind.i64 z],
                          SV.int IntKind.i64 e])) ∧
              (kd % (4 : Int) = (1 : Int) →
                  ∀ (x y z e : Int),
                    AnsP (dE a b c (0 : Int) (2 : Int)) (0 : Int) (mx (at3 a b c (0 : Int)) (2 : Int)) a b c x y z e →
                      kk
                        (SV.tuple
                          [SV.agg [SV.int IntKind.i64 x, SV.int IntKind.i64 y, SV.int IntKind.i64 z],
                            SV.int IntKind.i64 e])) ∧
                (kd % (4 : Int) = (2 : Int) →
                    ∀ (x y z e : Int),
                      AnsP (dE a b c (0 : Int) (3 : Int)) (0 : Int) (mx (at3 a b c (0 : Int)) (3 : Int)) a b c x y z e →
                        kk
                          (SV.tuple
                            [SV.agg [SV.int IntKind.i64 x, SV.int IntKind.i64 y, SV.int IntKind.i64 z],
                              SV.int IntKind.i64 e])) ∧
                  (kd % (4 : Int) = (3 : Int) →
                    ∀ (x y z e : Int),
                      AnsP (dE a b c (0 : Int) (4 : Int)) (0 : Int) (mx (at3 a b c (0 : Int)) (4 : Int)) a b c x y z e →
                        kk
                          (SV.tuple
                            [SV.agg [SV.int IntKind.i64 x, SV.int IntKind.i64 y, SV.int IntKind.i64 z],
                              SV.int IntKind.i64 e]))) ∧
          (kd % (4 : Int) = (1 : Int) →
              (kd % (4 : Int) = (0 : Int) →
                  ∀ (x y z e : Int),
                    AnsP (dE a b c (0 : Int) (1 : Int)) (0 : Int) (mx (at3 a b c (0 : Int)) (1 : Int)) a b c x y z e →
                      kk
                        (SV.tuple
                          [SV.agg [SV.int IntKind.i64 x, SV.int IntKind.i64 y, SV.int IntKind.i64 z],
                            SV.int IntKind.i64 e])) ∧
                (kd % (4 : Int) = (1 : Int) →
                    ∀ (x y z e : Int),
                      AnsP (dE a b c (0 : Int) (2 : Int)) (0 : Int) (mx (at3 a b c (0 : Int)) (2 : Int)) a b c x y z e →
                        kk
                          (SV.tuple
                            [SV.agg [SV.int IntKind.i64 x, SV.int IntKind.i64 y, SV.int IntKind.i64 z],
                              SV.int IntKind.i64 e])) ∧
                  (kd % (4 : Int) = (2 : Int) →
                      ∀ (x y z e : Int),
                        AnsP (dE a b c (0 : Int) (3 : Int)) (0 : Int) (mx (at3 a b c (0 : Int)) (3 : Int)) a b c x y z e →
                          kk
                            (SV.tuple
                              [SV.agg [SV.int IntKind.i64 x, SV.int IntKind.i64 y, SV.int IntKind.i64 z],
                                SV.int IntKind.i64 e])) ∧
                    (kd % (4 : Int) = (3 : Int) →
                      ∀ (x y z e : Int),
                        AnsP (dE a b c (0 : Int) (4 : Int)) (0 : Int) (mx (at3 a b c (0 : Int)) (4 : Int)) a b c x y z e →
                          kk
                            (SV.tuple
                              [SV.agg [SV.int IntKind.i64 x, SV.int IntKind.i64 y, SV.int IntKind.i64 z],
                                SV.int IntKind.i64 e]))) ∧
            (kd % (4 : Int) = (2 : Int) →
                ∀ (x y z e : Int),
                  AnsP (kE a b c (0 : Int)) (0 : Int) (at3 a b c (0 : Int) - (1 : Int)) a b c x y z e →
                    kk
                      (SV.tuple
                        [SV.agg [SV.int IntKind.i64 x, SV.int IntKind.i64 y, SV.int IntKind.i64 z],
                          SV.int IntKind.i64 e])) ∧
              (kd % (4 : Int) = (3 : Int) →
                ∀ (x y z e : Int),
                  AnsP (mayE a b c (0 : Int)) (0 : Int) (0 : Int) a b c x y z e →
                    kk
                      (SV.tuple
                        [SV.agg [SV.int IntKind.i64 x, SV.int IntKind.i64 y, SV.int IntKind.i64 z],
                          SV.int IntKind.i64 e]))) ∧
      (sp % (3 : Int) = (1 : Int) →
          (kd % (4 : Int) = (0 : Int) →
              (kd % (4 : Int) = (0 : Int) →
                  ∀ (x y z e : Int),
                    AnsP (dE a b c (1 : Int) (1 : Int)) (1 : Int) (mx (at3 a b c (1 : Int)) (1 : Int)) a b c x y z e →
                      kk
                        (SV.tuple
                          [SV.agg [SV.int IntKind.i64 x, SV.int IntKind.i64 y, SV.int IntKind.i64 z],
                            SV.int IntKind.i64 e])) ∧
                (kd % (4 : Int) = (1 : Int) →
                    ∀ (x y z e : Int),
                      AnsP (dE a b c (1 : Int) (2 : Int)) (1 : Int) (mx (at3 a b c (1 : Int)) (2 : Int)) a b c x y z e →
                        kk
                          (SV.tuple
                            [SV.agg [SV.int IntKind.i64 x, SV.int IntKind.i64 y, SV.int IntKind.i64 z],
                              SV.int IntKind.i64 e])) ∧
                  (kd % (4 : Int) = (2 : Int) →
                      ∀ (x y z e : Int),
                        AnsP (dE a b c (1 : Int) (3 : Int)) (1 : Int) (mx (at3 a b c (1 : Int)) (3 : Int)) a b c x y z e →
                          kk
                            (SV.tuple
                              [SV.agg [SV.int IntKind.i64 x, SV.int IntKind.i64 y, SV.int IntKind.i64 z],
                                SV.int IntKind.i64 e])) ∧
                    (kd % (4 : Int) = (3 : Int) →
                      ∀ (x y z e : Int),
                        AnsP (dE a b c (1 : Int) (4 : Int)) (1 : Int) (mx (at3 a b c (1 : Int)) (4 : Int)) a b c x y z e →
                          kk
                            (SV.tuple
                              [SV.agg [SV.int IntKind.i64 x, SV.int IntKind.i64 y, SV.int IntKind.i64 z],
                                SV.int IntKind.i64 e]))) ∧
            (kd % (4 : Int) = (1 : Int) →
                (kd % (4 : Int) = (0 : Int) →
                    ∀ (x y z e : Int),
                      AnsP (dE a b c (1 : Int) (1 : Int)) (1 : Int) (mx (at3 a b c (1 : Int)) (1 : Int)) a b c x y z e →
                        kk
                          (SV.tuple
                            [SV.agg [SV.int IntKind.i64 x, SV.int IntKind.i64 y, SV.int IntKind.i64 z],
                              SV.int IntKind.i64 e])) ∧
                  (kd % (4 : Int) = (1 : Int) →
                      ∀ (x y z e : Int),
                        AnsP (dE a b c (1 : Int) (2 : Int)) (1 : Int) (mx (at3 a b c (1 : Int)) (2 : Int)) a b c x y z e →
                          kk
                            (SV.tuple
                              [SV.agg [SV.int IntKind.i64 x, SV.int IntKind.i64 y, SV.int IntKind.i64 z],
                                SV.int IntKind.i64 e])) ∧
                    (kd % (4 : Int) = (2 : Int) →
                        ∀ (x y z e : Int),
                          AnsP (dE a b c (1 : Int) (3 : Int)) (1 : Int) (mx (at3 a b c (1 : Int)) (3 : Int)) a b c x y z e →
                            kk
                              (SV.tuple
                                [SV.agg [SV.int IntKind.i64 x, SV.int IntKind.i64 y, SV.int IntKind.i64 z],
                                  SV.int IntKind.i64 e])) ∧
                      (kd % (4 : Int) = (3 : Int) →
                        ∀ (x y z e : Int),
                          AnsP (dE a b c (1 : Int) (4 : Int)) (1 : Int) (mx (at3 a b c (1 : Int)) (4 : Int)) a b c x y z e →
                            kk
                              (SV.tuple
                                [SV.agg [SV.int IntKind.i64 x, SV.int IntKind.i64 y, SV.int IntKind.i64 z],
                                  SV.int IntKind.i64 e]))) ∧
              (kd % (4 : Int) = (2 : Int) →
                  ∀ (x y z e : Int),
                    AnsP (kE a b c (1 : Int)) (1 : Int) (at3 a b c (1 : Int) - (1 : Int)) a b c x y z e →
                      kk
                        (SV.tuple
                          [SV.agg [SV.int IntKind.i64 x, SV.int IntKind.i64 y, SV.int IntKind.i64 z],
                            SV.int IntKind.i64 e])) ∧
                (kd % (4 : Int) = (3 : Int) →
                  ∀ (x y z e : Int),
                    AnsP (mayE a b c (1 : Int)) (1 : Int) (0 : Int) a b c x y z e →
                      kk
                        (SV.tuple
                          [SV.agg [SV.int IntKind.i64 x, SV.int IntKind.i64 y, SV.int IntKind.i64 z],
                            SV.int IntKind.i64 e]))) ∧
        (sp % (3 : Int) = (2 : Int) →
          (kd % (4 : Int) = (0 : Int) →
              (kd % (4 : Int) = (0 : Int) →
                  ∀ (x y z e : Int),
                    AnsP (dE a b c (2 : Int) (1 : Int)) (2 : Int) (mx (at3 a b c (2 : Int)) (1 : Int)) a b c x y z e →
                      kk
                        (SV.tuple
                          [SV.agg [SV.int IntKind.i64 x, SV.int IntKind.i64 y, SV.int IntKind.i64 z],
                            SV.int IntKind.i64 e])) ∧
                (kd % (4 : Int) = (1 : Int) →
                    ∀ (x y z e : Int),
                      AnsP (dE a b c (2 : Int) (2 : Int)) (2 : Int) (mx (at3 a b c (2 : Int)) (2 : Int)) a b c x y z e →
                        kk
                          (SV.tuple
                            [SV.agg [SV.int IntKind.i64 x, SV.int IntKind.i64 y, SV.int IntKind.i64 z],
                              SV.int IntKind.i64 e])) ∧
                  (kd % (4 : Int) = (2 : Int) →
                      ∀ (x y z e : Int),
                        AnsP (dE a b c (2 : Int) (3 : Int)) (2 : Int) (mx (at3 a b c (2 : Int)) (3 : Int)) a b c x y z e →
                          kk
                            (SV.tuple
                              [SV.agg [SV.int IntKind.i64 x, SV.int IntKind.i64 y, SV.int IntKind.i64 z],
                                SV.int IntKind.i64 e])) ∧
                    (kd % (4 : Int) = (3 : Int) →
                      ∀ (x y z e : Int),
                        AnsP (dE a b c (2 : Int) (4 : Int)) (2 : Int) (mx (at3 a b c (2 : Int)) (4 : Int)) a b c x y z e →
                          kk
                            (SV.tuple
                              [SV.agg [SV.int IntKind.i64 x, SV.int IntKind.i64 y, SV.int IntKind.i64 z],
                                SV.int IntKind.i64 e]))) ∧
            (kd % (4 : Int) = (1 : Int) →
                (kd % (4 : Int) = (0 : Int) →
                    ∀ (x y z e : Int),
                      AnsP (dE a b c (2 : Int) (1 : Int)) (2 : Int) (mx (at3 a b c (2 : Int)) (1 : Int)) a b c x y z e →
                        kk
                          (SV.tuple
                            [SV.agg [SV.int IntKind.i64 x, SV.int IntKind.i64 y, SV.int IntKind.i64 z],
                              SV.int IntKind.i64 e])) ∧
                  (kd % (4 : Int) = (1 : Int) →
                      ∀ (x y z e : Int),
                        AnsP (dE a b c (2 : Int) (2 : Int)) (2 : Int) (mx (at3 a b c (2 : Int)) (2 : Int)) a b c x y z e →
                          kk
                            (SV.tuple
                              [SV.agg [SV.int IntKind.i64 x, SV.int IntKind.i64 y, SV.int IntKind.i64 z],
                                SV.int IntKind.i64 e])) ∧
                    (kd % (4 : Int) = (2 : Int) →
                        ∀ (x y z e : Int),
                          AnsP (dE a b c (2 : Int) (3 : Int)) (2 : Int) (mx (at3 a b c (2 : Int)) (3 : Int)) a b c x y z e →
                            kk
                              (SV.tuple
                                [SV.agg [SV.int IntKind.i64 x, SV.int IntKind.i64 y, SV.int IntKind.i64 z],
                                  SV.int IntKind.i64 e])) ∧
                      (kd % (4 : Int) = (3 : Int) →
                        ∀ (x y z e : Int),
                          AnsP (dE a b c (2 : Int) (4 : Int)) (2 : Int) (mx (at3 a b c (2 : Int)) (4 : Int)) a b c x y z e →
                            kk
                              (SV.tuple
                                [SV.agg [SV.int IntKind.i64 x, SV.int IntKind.i64 y, SV.int IntKind.i64 z],
                                  SV.int IntKind.i64 e]))) ∧
              (kd % (4 : Int) = (2 : Int) →
                  ∀ (x y z e : Int),
                    AnsP (kE a b c (2 : Int)) (2 : Int) (at3 a b c (2 : Int) - (1 : Int)) a b c x y z e →
                      kk
                        (SV.tuple
                          [SV.agg [SV.int IntKind.i64 x, SV.int IntKind.i64 y, SV.int IntKind.i64 z],
                            SV.int IntKind.i64 e])) ∧
                (kd % (4 : Int) = (3 : Int) →
                  ∀ (x y z e : Int),
                    AnsP (mayE a b c (2 : Int)) (2 : Int) (0 : Int) a b c x y z e →
                      kk
                        (SV.tuple
                          [SV.agg [SV.int IntKind.i64 x, SV.int IntKind.i64 y, SV.int IntKind.i64 z],
                            SV.int IntKind.i64 e])))) := by kernel_rfl
end Go.Proofs.Ytfhkmagpgbcnjaa
