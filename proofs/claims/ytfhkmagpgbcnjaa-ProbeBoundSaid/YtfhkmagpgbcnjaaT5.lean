/-
  What functions of the program come to, way by way: printed by a program, held by the kernel.
-/
import Derived.Test.YtfhkmagpgbcnjaaX8
namespace Go.Proofs.Ytfhkmagpgbcnjaa
open Go.RowKit
set_option maxRecDepth 100000

theorem t5 (n k1 s1 k2 s2 : Int) (kk : SV → Prop) : evalF C10 64 Try.f5 [.int .i64 n, .agg [.int .i64 k1, .int .i64 s1], .agg [.int .i64 k2, .int .i64 s2]] [] (fun v _ => kk v) = (
    ∀ (r : Int),
      (0 : Int) ≤ r ∧ r < (27 : Int) ∧ r = n % (27 : Int) →
        ∀ (r_1 : Int),
          (0 : Int) ≤ r_1 ∧ r_1 < (3 : Int) ∧ r_1 = s1 % (3 : Int) →
            ∀ (r_2 : Int),
              (0 : Int) ≤ r_2 ∧ r_2 < (3 : Int) ∧ r_2 = s2 % (3 : Int) →
                ok3 (r.tmod (3 : Int)) ((IntKind.i64.wrap (r.tdiv (3 : Int))).tmod (3 : Int))
                      (IntKind.i64.wrap (r.tdiv (9 : Int))) =
                    true ∧
                  ∀ (x y z e : Int),
                    AnsP
                        (gE (r.tmod (3 : Int)) ((IntKind.i64.wrap (r.tdiv (3 : Int))).tmod (3 : Int))
                          (IntKind.i64.wrap (r.tdiv (9 : Int))) (s1 % (3 : Int)) (k1 % (4 : Int)))
                        (s1 % (3 : Int))
                        (gV (r.tmod (3 : Int)) ((IntKind.i64.wrap (r.tdiv (3 : Int))).tmod (3 : Int))
                          (IntKind.i64.wrap (r.tdiv (9 : Int))) (s1 % (3 : Int)) (k1 % (4 : Int)))
                        (r.tmod (3 : Int)) ((IntKind.i64.wrap (r.tdiv (3 : Int))).tmod (3 : Int))
                        (IntKind.i64.wrap (r.tdiv (9 : Int))) x y z e →
                      ok3 (r.tmod (3 : Int)) ((IntKind.i64.wrap (r.tdiv (3 : Int))).tmod (3 : Int))
                            (IntKind.i64.wrap (r.tdiv (9 : Int))) =
                          true ∧
                        ∀ (x_1 y_1 z_1 e_1 : Int),
                          AnsP
                              (gE (r.tmod (3 : Int)) ((IntKind.i64.wrap (r.tdiv (3 : Int))).tmod (3 : Int))
                                (IntKind.i64.wrap (r.tdiv (9 : Int))) (s2 % (3 : Int)) (k2 % (4 : Int)))
                              (s2 % (3 : Int))
                              (gV (r.tmod (3 : Int)) ((IntKind.i64.wrap (r.tdiv (3 : Int))).tmod (3 : Int))
                                (IntKind.i64.wrap (r.tdiv (9 : Int))) (s2 % (3 : Int)) (k2 % (4 : Int)))
                              (r.tmod (3 : Int)) ((IntKind.i64.wrap (r.tdiv (3 : Int))).tmod (3 : Int))
                              (IntKind.i64.wrap (r.tdiv (9 : Int))) x_1 y_1 z_1 e_1 →
                            bif e == (0 : Int) then
                              bif (0 : Int) != r_1 then
                                bif x != r.tmod (3 : Int) then kk (SV.bool false)
                                else
                                  bif e == (0 : Int) then
                                    bif (1 : Int) != r_1 then
                                      bif y != (IntKind.i64.wrap (r.tdiv (3 : Int))).tmod (3 : Int) then kk (SV.bool false)
                                      else
                                        bif e == (0 : Int) then
                                          bif (2 : Int) != r_1 then
                                            bif z != IntKind.i64.wrap (r.tdiv (9 : Int)) then kk (SV.bool false)
                                            else
                                              bif r_1 == r_2 then kk (SV.bool true)
                                              else
                                                bif e != (0 : Int) then kk (SV.bool true)
                                                else
                                                  bif e_1 != (0 : Int) then kk (SV.bool true)
                                                  else
                                                    ok3 x y z = true ∧
                                                      ∀ (x_2 y_2 z_2 e : Int),
                                                        AnsP (gE x y z (s2 % (3 : Int)) (k2 % (4 : Int))) (s2 % (3 : Int))
                                                            (gV x y z (s2 % (3 : Int)) (k2 % (4 : Int))) x y z x_2 y_2 z_2
                                                            e →
                                                          ok3 x_1 y_1 z_1 = true ∧
                                                            ∀ (x y z e_2 : Int),
                                                              AnsP (gE x_1 y_1 z_1 (s1 % (3 : Int)) (k1 % (4 : Int)))
                                                                  (s1 % (3 : Int))
                                                                  (gV x_1 y_1 z_1 (s1 % (3 : Int)) (k1 % (4 : Int))) x_1 y_1
                                                                  z_1 x y z e_2 →
                                                                bif e == (0 : Int) then
                                                                  bif e_2 == (0 : Int) then
                                                                    bif x_2 == x && (y_2 == y && (z_2 == z && true)) then
                                                                      kk (SV.bool true)
                                                                    else kk (SV.bool false)
                                                                  else kk (SV.bool false)
                                                                else kk (SV.bool false)
                                          else
                                            bif r_1 == r_2 then kk (SV.bool true)
                                            else
                                              bif e != (0 : Int) then kk (SV.bool true)
                                              else
                                                bif e_1 != (0 : Int) then kk (SV.bool true)
                                                else
                                                  ok3 x y z = true ∧
                                                    ∀ (x_2 y_2 z_2 e : Int),
                                                      AnsP (gE x y z (s2 % (3 : Int)) (k2 % (4 : Int))) (s2 % (3 : Int))
                                                          (gV x y z (s2 % (3 : Int)) (k2 % (4 : Int))) x y z x_2 y_2 z_2 e →
                                                        ok3 x_1 y_1 z_1 = true ∧
                                                          ∀ (x y z e_2 : Int),
                                                            AnsP (gE x_1 y_1 z_1 (s1 % (3 : Int)) (k1 % (4 : Int)))
                                                                (s1 % (3 : Int))
                                                                (gV x_1 y_1 z_1 (s1 % (3 : Int)) (k1 % (4 : Int))) x_1 y_1
                                                                z_1 x y z e_2 →
                                                              bif e == (0 : Int) then
                                                                bif e_2 == (0 : Int) then
                                                                  bif x_2 == x && (y_2 == y && (z_2 == z && true)) then
                                                                    kk (SV.bool true)
                                                                  else kk (SV.bool false)
                                                                else kk (SV.bool false)
                                                              else kk (SV.bool false)
                                        else
                                          bif r_1 == r_2 then kk (SV.bool true)
                                          else
                                            bif e != (0 : Int) then kk (SV.bool true)
                                            else
                                              bif e_1 != (0 : Int) then kk (SV.bool true)
                                              else
                                                ok3 x y z = true ∧
                                                  ∀ (x_2 y_2 z_2 e : Int),
                                                    AnsP (gE x y z (s2 % (3 : Int)) (k2 % (4 : Int))) (s2 % (3 : Int))
                                                        (gV x y z (s2 % (3 : Int)) (k2 % (4 : Int))) x y z x_2 y_2 z_2 e →
                                                      ok3 x_1 y_1 z_1 = true ∧
                                                        ∀ (x y z e_2 : Int),
                                                          AnsP (gE x_1 y_1 z_1 (s1 % (3 : Int)) (k1 % (4 : Int)))
                                                              (s1 % (3 : Int))
                                                              (gV x_1 y_1 z_1 (s1 % (3 : Int)) (k1 % (4 : Int))) x_1 y_1 z_1
                                                              x y z e_2 →
                                                            bif e == (0 : Int) then
                                                              bif e_2 == (0 : Int) then
                                                                bif x_2 == x && (y_2 == y && (z_2 == z && true)) then
                                                                  kk (SV.bool true)
                                                                else kk (SV.bool false)
                                                              else kk (SV.bool false)
                                                            else kk (SV.bool false)
                                    else
                                      bif e == (0 : Int) then
                                        bif (2 : Int) != r_1 then
                                          bif z != IntKind.i64.wrap (r.tdiv (9 : Int)) then kk (SV.bool false)
                                          else
                                            bif r_1 == r_2 then kk (SV.bool true)
                                            else
                                              bif e != (0 : Int) then kk (SV.bool true)
                                              else
                                                bif e_1 != (0 : Int) then kk (SV.bool true)
                                                else
                                                  ok3 x y z = true ∧
                                                    ∀ (x_2 y_2 z_2 e : Int),
                                                      AnsP (gE x y z (s2 % (3 : Int)) (k2 % (4 : Int))) (s2 % (3 : Int))
                                                          (gV x y z (s2 % (3 : Int)) (k2 % (4 : Int))) x y z x_2 y_2 z_2 e →
                                                        ok3 x_1 y_1 z_1 = true ∧
                                                          ∀ (x y z e_2 : Int),
                                                            AnsP (gE x_1 y_1 z_1 (s1 % (3 : Int)) (k1 % (4 : Int)))
                                                                (s1 % (3 : Int))
                                                                (gV x_1 y_1 z_1 (s1 % (3 : Int)) (k1 % (4 : Int))) x_1 y_1
                                                                z_1 x y z e_2 →
                                                              bif e == (0 : Int) then
                                                                bif e_2 == (0 : Int) then
                                                                  bif x_2 == x && (y_2 == y && (z_2 == z && true)) then
                                                                    kk (SV.bool true)
                                                                  else kk (SV.bool false)
                                                                else kk (SV.bool false)
                                                              else kk (SV.bool false)
                                        else
                                          bif r_1 == r_2 then kk (SV.bool true)
                                          else
                                            bif e != (0 : Int) then kk (SV.bool true)
                                            else
                                              bif e_1 != (0 : Int) then kk (SV.bool true)
                                              else
                                                ok3 x y z = true ∧
                                                  ∀ (x_2 y_2 z_2 e : Int),
                                                    AnsP (gE x y z (s2 % (3 : Int)) (k2 % (4 : Int))) (s2 % (3 : Int))
                                                        (gV x y z (s2 % (3 : Int)) (k2 % (4 : Int))) x y z x_2 y_2 z_2 e →
                                                      ok3 x_1 y_1 z_1 = true ∧
                                                        ∀ (x y z e_2 : Int),
                                                          AnsP (gE x_1 y_1 z_1 (s1 % (3 : Int)) (k1 % (4 : Int)))
                                                              (s1 % (3 : Int))
                                                              (gV x_1 y_1 z_1 (s1 % (3 : Int)) (k1 % (4 : Int))) x_1 y_1 z_1
                                                              x y z e_2 →
                                                            bif e == (0 : Int) then
                                                              bif e_2 == (0 : Int) then
                                                                bif x_2 == x && (y_2 == y && (z_2 == z && true)) then
                                                                  kk (SV.bool true)
                                                                else kk (SV.bool false)
                                                              else kk (SV.bool false)
                                                            else kk (SV.bool false)
                                      else
                                        bif r_1 == r_2 then kk (SV.bool true)
                                        else
                                          bif e != (0 : Int) then kk (SV.bool true)
                                          else
                                            bif e_1 != (0 : Int) then kk (SV.bool true)
                                            else
                                              ok3 x y z = true ∧
                                                ∀ (x_2 y_2 z_2 e : Int),
                                                  AnsP (gE x y z (s2 % (3 : Int)) (k2 % (4 : Int))) (s2 % (3 : Int))
                                                      (gV x y z (s2 % (3 : Int)) (k2 % (4 : Int))) x y z x_2 y_2 z_2 e →
                                                    ok3 x_1 y_1 z_1 = true ∧
                                                      ∀ (x y z e_2 : Int),
                                                        AnsP (gE x_1 y_1 z_1 (s1 % (3 : Int)) (k1 % (4 : Int)))
                                                            (s1 % (3 : Int))
                                                            (gV x_1 y_1 z_1 (s1 % (3 : Int)) (k1 % (4 : Int))) x_1 y_1 z_1 x
                                                            y z e_2 →
                                                          bif e == (0 : Int) then
                                                            bif e_2 == (0 : Int) then
                                                              bif x_2 == x && (y_2 == y && (z_2 == z && true)) then
                                                                kk (SV.bool true)
                                                              else kk (SV.bool false)
                                                            else kk (SV.bool false)
                                                          else kk (SV.bool false)
                                  else
                                    bif e == (0 : Int) then
                                      bif (2 : Int) != r_1 then
                                        bif z != IntKind.i64.wrap (r.tdiv (9 : Int)) then kk (SV.bool false)
                                        else
                                          bif r_1 == r_2 then kk (SV.bool true)
                                          else
                                            bif e != (0 : Int) then kk (SV.bool true)
                                            else
                                              bif e_1 != (0 : Int) then kk (SV.bool true)
                                              else
                                                ok3 x y z = true ∧
                                                  ∀ (x_2 y_2 z_2 e : Int),
                                                    AnsP (gE x y z (s2 % (3 : Int)) (k2 % (4 : Int))) (s2 % (3 : Int))
                                                        (gV x y z (s2 % (3 : Int)) (k2 % (4 : Int))) x y z x_2 y_2 z_2 e →
                                                      ok3 x_1 y_1 z_1 = true ∧
                                                        ∀ (x y z e_2 : Int),
                                                          AnsP (gE x_1 y_1 z_1 (s1 % (3 : Int)) (k1 % (4 : Int)))
                                                              (s1 % (3 : Int))
                                                              (gV x_1 y_1 z_1 (s1 % (3 : Int)) (k1 % (4 : Int))) x_1 y_1 z_1
                                                              x y z e_2 →
                                                            bif e == (0 : Int) then
                                                              bif e_2 == (0 : Int) then
                                                                bif x_2 == x && (y_2 == y && (z_2 == z && true)) then
                                                                  kk (SV.bool true)
                                                                else kk (SV.bool false)
                                                              else kk (SV.bool false)
                                                            else kk (SV.bool false)
                                      else
                                        bif r_1 == r_2 then kk (SV.bool true)
                                        else
                                          bif e != (0 : Int) then kk (SV.bool true)
                                          else
                                            bif e_1 != (0 : Int) then kk (SV.bool true)
                                            else
                                              ok3 x y z = true ∧
                                                ∀ (x_2 y_2 z_2 e : Int),
                                                  AnsP (gE x y z (s2 % (3 : Int)) (k2 % (4 : Int))) (s2 % (3 : Int))
                                                      (gV x y z (s2 % (3 : Int)) (k2 % (4 : Int))) x y z x_2 y_2 z_2 e →
                                                    ok3 x_1 y_1 z_1 = true ∧
                                                      ∀ (x y z e_2 : Int),
                                                        AnsP (gE x_1 y_1 z_1 (s1 % (3 : Int)) (k1 % (4 : Int)))
                                                            (s1 % (3 : Int))
                                                            (gV x_1 y_1 z_1 (s1 % (3 : Int)) (k1 % (4 : Int))) x_1 y_1 z_1 x
                                                            y z e_2 →
                                                          bif e == (0 : Int) then
                                                            bif e_2 == (0 : Int) then
                                                              bif x_2 == x && (y_2 == y && (z_2 == z && true)) then
                                                                kk (SV.bool true)
                                                              else kk (SV.bool false)
                                                            else kk (SV.bool false)
                                                          else kk (SV.bool false)
                                    else
                                      bif r_1 == r_2 then kk (SV.bool true)
                                      else
                                        bif e != (0 : Int) then kk (SV.bool true)
                                        else
                                          bif e_1 != (0 : Int) then kk (SV.bool true)
                                          else
                                            ok3 x y z = true ∧
                                              ∀ (x_2 y_2 z_2 e : Int),
                                                AnsP (gE x y z (s2 % (3 : Int)) (k2 % (4 : Int))) (s2 % (3 : Int))
                                                    (gV x y z (s2 % (3 : Int)) (k2 % (4 : Int))) x y z x_2 y_2 z_2 e →
                                                  ok3 x_1 y_1 z_1 = true ∧
                                                    ∀ (x y z e_2 : Int),
                                                      AnsP (gE x_1 y_1 z_1 (s1 % (3 : Int)) (k1 % (4 : Int)))
                                                          (s1 % (3 : Int))
                                                          (gV x_1 y_1 z_1 (s1 % (3 : Int)) (k1 % (4 : Int))) x_1 y_1 z_1 x y
                                                          z e_2 →
                                                        bif e == (0 : Int) then
                                                          bif e_2 == (0 : Int) then
                                                            bif x_2 == x && (y_2 == y && (z_2 == z && true)) then
                                                              kk (SV.bool true)
                                                            else kk (SV.bool false)
                                                          else kk (SV.bool false)
                                                        else kk (SV.bool false)
                              else
                                bif e == (0 : Int) then
                                  bif (1 : Int) != r_1 then
                                    bif y != (IntKind.i64.wrap (r.tdiv (3 : Int))).tmod (3 : Int) then kk (SV.bool false)
                                    else
                                      bif e == (0 : Int) then
                                        bif (2 : Int) != r_1 then
                                          bif z != IntKind.i64.wrap (r.tdiv (9 : Int)) then kk (SV.bool false)
                                          else
                                            bif r_1 == r_2 then kk (SV.bool true)
                                            else
                                              bif e != (0 : Int) then kk (SV.bool true)
                                              else
                                                bif e_1 != (0 : Int) then kk (SV.bool true)
                                                else
                                                  ok3 x y z = true ∧
                                                    ∀ (x_2 y_2 z_2 e : Int),
                                                      AnsP (gE x y z (s2 % (3 : Int)) (k2 % (4 : Int))) (s2 % (3 : Int))
                                                          (gV x y z (s2 % (3 : Int)) (k2 % (4 : Int))) x y z x_2 y_2 z_2 e →
                                                        ok3 x_1 y_1 z_1 = true ∧
                                                          ∀ (x y z e_2 : Int),
                                                            AnsP (gE x_1 y_1 z_1 (s1 % (3 : Int)) (k1 % (4 : Int)))
                                                                (s1 % (3 : Int))
                                                                (gV x_1 y_1 z_1 (s1 % (3 : Int)) (k1 % (4 : Int))) x_1 y_1
                                                                z_1 x y z e_2 →
                                                              bif e == (0 : Int) then
                                                                bif e_2 == (0 : Int) then
                                                                  bif x_2 == x && (y_2 == y && (z_2 == z && true)) then
                                                                    kk (SV.bool true)
                                                                  else kk (SV.bool false)
                                                                else kk (SV.bool false)
                                                              else kk (SV.bool false)
                                        else
                                          bif r_1 == r_2 then kk (SV.bool true)
                                          else
                                            bif e != (0 : Int) then kk (SV.bool true)
                                            else
                                              bif e_1 != (0 : Int) then kk (SV.bool true)
                                              else
                                                ok3 x y z = true ∧
                                                  ∀ (x_2 y_2 z_2 e : Int),
                                                    AnsP (gE x y z (s2 % (3 : Int)) (k2 % (4 : Int))) (s2 % (3 : Int))
                                                        (gV x y z (s2 % (3 : Int)) (k2 % (4 : Int))) x y z x_2 y_2 z_2 e →
                                                      ok3 x_1 y_1 z_1 = true ∧
                                                        ∀ (x y z e_2 : Int),
                                                          AnsP (gE x_1 y_1 z_1 (s1 % (3 : Int)) (k1 % (4 : Int)))
                                                              (s1 % (3 : Int))
                                                              (gV x_1 y_1 z_1 (s1 % (3 : Int)) (k1 % (4 : Int))) x_1 y_1 z_1
                                                              x y z e_2 →
                                                            bif e == (0 : Int) then
                                                              bif e_2 == (0 : Int) then
                                                                bif x_2 == x && (y_2 == y && (z_2 == z && true)) then
                                                                  kk (SV.bool true)
                                                                else kk (SV.bool false)
                                                              else kk (SV.bool false)
                                                            else kk (SV.bool false)
                                      else
                                        bif r_1 == r_2 then kk (SV.bool true)
                                        else
                                          bif e != (0 : Int) then kk (SV.bool true)
                                          else
                                            bif e_1 != (0 : Int) then kk (SV.bool true)
                                            else
                                              ok3 x y z = true ∧
                                                ∀ (x_2 y_2 z_2 e : Int),
                                                  AnsP (gE x y z (s2 % (3 : Int)) (k2 % (4 : Int))) (s2 % (3 : Int))
                                                      (gV x y z (s2 % (3 : Int)) (k2 % (4 : Int))) x y z x_2 y_2 z_2 e →
                                                    ok3 x_1 y_1 z_1 = true ∧
                                                      ∀ (x y z e_2 : Int),
                                                        AnsP (gE x_1 y_1 z_1 (s1 % (3 : Int)) (k1 % (4 : Int)))
                                                            (s1 % (3 : Int))
                                                            (gV x_1 y_1 z_1 (s1 % (3 : Int)) (k1 % (4 : Int))) x_1 y_1 z_1 x
                                                            y z e_2 →
                                                          bif e == (0 : Int) then
                                                            bif e_2 == (0 : Int) then
                                                              bif x_2 == x && (y_2 == y && (z_2 == z && true)) then
                                                                kk (SV.bool true)
                                                              else kk (SV.bool false)
                                                            else kk (SV.bool false)
                                                          else kk (SV.bool false)
                                  else
                                    bif e == (0 : Int) then
                                      bif (2 : Int) != r_1 then
                                        bif z != IntKind.i64.wrap (r.tdiv (9 : Int)) then kk (SV.bool false)
                                        else
                                          bif r_1 == r_2 then kk (SV.bool true)
                                          else
                                            bif e != (0 : Int) then kk (SV.bool true)
                                            else
                                              bif e_1 != (0 : Int) then kk (SV.bool true)
                                              else
                                                ok3 x y z = true ∧
                                                  ∀ (x_2 y_2 z_2 e : Int),
                                                    AnsP (gE x y z (s2 % (3 : Int)) (k2 % (4 : Int))) (s2 % (3 : Int))
                                                        (gV x y z (s2 % (3 : Int)) (k2 % (4 : Int))) x y z x_2 y_2 z_2 e →
                                                      ok3 x_1 y_1 z_1 = true ∧
                                                        ∀ (x y z e_2 : Int),
                                                          AnsP (gE x_1 y_1 z_1 (s1 % (3 : Int)) (k1 % (4 : Int)))
                                                              (s1 % (3 : Int))
                                                              (gV x_1 y_1 z_1 (s1 % (3 : Int)) (k1 % (4 : Int))) x_1 y_1 z_1
                                                              x y z e_2 →
                                                            bif e == (0 : Int) then
                                                              bif e_2 == (0 : Int) then
                                                                bif x_2 == x && (y_2 == y && (z_2 == z && true)) then
                                                                  kk (SV.bool true)
                                                                else kk (SV.bool false)
                                                              else kk (SV.bool false)
                                                            else kk (SV.bool false)
                                      else
                                        bif r_1 == r_2 then kk (SV.bool true)
                                        else
                                          bif e != (0 : Int) then kk (SV.bool true)
                                          else
                                            bif e_1 != (0 : Int) then kk (SV.bool true)
                                            else
                                              ok3 x y z = true ∧
                                                ∀ (x_2 y_2 z_2 e : Int),
                                                  AnsP (gE x y z (s2 % (3 : Int)) (k2 % (4 : Int))) (s2 % (3 : Int))
                                                      (gV x y z (s2 % (3 : Int)) (k2 % (4 : Int))) x y z x_2 y_2 z_2 e →
                                                    ok3 x_1 y_1 z_1 = true ∧
                                                      ∀ (x y z e_2 : Int),
                                                        AnsP (gE x_1 y_1 z_1 (s1 % (3 : Int)) (k1 % (4 : Int)))
                                                            (s1 % (3 : Int))
                                                            (gV x_1 y_1 z_1 (s1 % (3 : Int)) (k1 % (4 : Int))) x_1 y_1 z_1 x
                                                            y z e_2 →
                                                          bif e == (0 : Int) then
                                                            bif e_2 == (0 : Int) then
                                                              bif x_2 == x && (y_2 == y && (z_2 == z && true)) then
                                                                kk (SV.bool true)
                                                              else kk (SV.bool false)
                                                            else kk (SV.bool false)
                                                          else kk (SV.bool false)
                                    else
                                      bif r_1 == r_2 then kk (SV.bool true)
                                      else
                                        bif e != (0 : Int) then kk (SV.bool true)
                                        else
                                          bif e_1 != (0 : Int) then kk (SV.bool true)
                                          else
                                            ok3 x y z = true ∧
                                              ∀ (x_2 y_2 z_2 e : Int),
                                                AnsP (gE x y z (s2 % (3 : Int)) (k2 % (4 : Int))) (s2 % (3 : Int))
                                                    (gV x y z (s2 % (3 : Int)) (k2 % (4 : Int))) x y z x_2 y_2 z_2 e →
                                                  ok3 x_1 y_1 z_1 = true ∧
                                                    ∀ (x y z e_2 : Int),
                                                      AnsP (gE x_1 y_1 z_1 (s1 % (3 : Int)) (k1 % (4 : Int)))
                                                          (s1 % (3 : Int))
                                                          (gV x_1 y_1 z_1 (s1 % (3 : Int)) (k1 % (4 : Int))) x_1 y_1 z_1 x y
                                                          z e_2 →
                                                        bif e == (0 : Int) then
                                                          bif e_2 == (0 : Int) then
                                                            bif x_2 == x && (y_2 == y && (z_2 == z && true)) then
                                                              kk (SV.bool true)
                                                            else kk (SV.bool false)
                                                          else kk (SV.bool false)
                                                        else kk (SV.bool false)
                                else
                                  bif e == (0 : Int) then
                                    bif (2 : Int) != r_1 then
                                      bif z != IntKind.i64.wrap (r.tdiv (9 : Int)) then kk (SV.bool false)
                                      else
                                        bif r_1 == r_2 then kk (SV.bool true)
                                        else
                                          bif e != (0 : Int) then kk (SV.bool true)
                                          else
                                            bif e_1 != (0 : Int) then kk (SV.bool true)
                                            else
                                              ok3 x y z = true ∧
                                                ∀ (x_2 y_2 z_2 e : Int),
                                                  AnsP (gE x y z (s2 % (3 : Int)) (k2 % (4 : Int))) (s2 % (3 : Int))
                                                      (gV x y z (s2 % (3 : Int)) (k2 % (4 : Int))) x y z x_2 y_2 z_2 e →
                                                    ok3 x_1 y_1 z_1 = true ∧
                                                      ∀ (x y z e_2 : Int),
                                                        AnsP (gE x_1 y_1 z_1 (s1 % (3 : Int)) (k1 % (4 : Int)))
                                                            (s1 % (3 : Int))
                                                            (gV x_1 y_1 z_1 (s1 % (3 : Int)) (k1 % (4 : Int))) x_1 y_1 z_1 x
                                                            y z e_2 →
                                                          bif e == (0 : Int) then
                                                            bif e_2 == (0 : Int) then
                                                              bif x_2 == x && (y_2 == y && (z_2 == z && true)) then
                                                                kk (SV.bool true)
                                                              else kk (SV.bool false)
                                                            else kk (SV.bool false)
                                                          else kk (SV.bool false)
                                    else
                                      bif r_1 == r_2 then kk (SV.bool true)
                                      else
                                        bif e != (0 : Int) then kk (SV.bool true)
                                        else
                                          bif e_1 != (0 : Int) then kk (SV.bool true)
                                          else
                                            ok3 x y z = true ∧
                                              ∀ (x_2 y_2 z_2 e : Int),
                                                AnsP (gE x y z (s2 % (3 : Int)) (k2 % (4 : Int))) (s2 % (3 : Int))
                                                    (gV x y z (s2 % (3 : Int)) (k2 % (4 : Int))) x y z x_2 y_2 z_2 e →
                                                  ok3 x_1 y_1 z_1 = true ∧
                                                    ∀ (x y z e_2 : Int),
                                                      AnsP (gE x_1 y_1 z_1 (s1 % (3 : Int)) (k1 % (4 : Int)))
                                                          (s1 % (3 : Int))
                                                          (gV x_1 y_1 z_1 (s1 % (3 : Int)) (k1 % (4 : Int))) x_1 y_1 z_1 x y
                                                          z e_2 →
                                                        bif e == (0 : Int) then
                                                          bif e_2 == (0 : Int) then
                                                            bif x_2 == x && (y_2 == y && (z_2 == z && true)) then
                                                              kk (SV.bool true)
                                                            else kk (SV.bool false)
                                                          else kk (SV.bool false)
                                                        else kk (SV.bool false)
                                  else
                                    bif r_1 == r_2 then kk (SV.bool true)
                                    else
                                      bif e != (0 : Int) then kk (SV.bool true)
                                      else
                                        bif e_1 != (0 : Int) then kk (SV.bool true)
                                        else
                                          ok3 x y z = true ∧
                                            ∀ (x_2 y_2 z_2 e : Int),
                                              AnsP (gE x y z (s2 % (3 : Int)) (k2 % (4 : Int))) (s2 % (3 : Int))
                                                  (gV x y z (s2 % (3 : Int)) (k2 % (4 : Int))) x y z x_2 y_2 z_2 e →
                                                ok3 x_1 y_1 z_1 = true ∧
                                                  ∀ (x y z e_2 : Int),
                                                    AnsP (gE x_1 y_1 z_1 (s1 % (3 : Int)) (k1 % (4 : Int))) (s1 % (3 : Int))
                                                        (gV x_1 y_1 z_1 (s1 % (3 : Int)) (k1 % (4 : Int))) x_1 y_1 z_1 x y z
                                                        e_2 →
                                                      bif e == (0 : Int) then
                                                        bif e_2 == (0 : Int) then
                                                          bif x_2 == x && (y_2 == y && (z_2 == z && true)) then
                                                            kk (SV.bool true)
                                                          else kk (SV.bool false)
                                                        else kk (SV.bool false)
                                                      else kk (SV.bool false)
                            else
                              bif e == (0 : Int) then
                                bif (1 : Int) != r_1 then
                                  bif y != (IntKind.i64.wrap (r.tdiv (3 : Int))).tmod (3 : Int) then kk (SV.bool false)
                                  else
                                    bif e == (0 : Int) then
                                      bif (2 : Int) != r_1 then
                                        bif z != IntKind.i64.wrap (r.tdiv (9 : Int)) then kk (SV.bool false)
                                        else
                                          bif r_1 == r_2 then kk (SV.bool true)
                                          else
                                            bif e != (0 : Int) then kk (SV.bool true)
                                            else
                                              bif e_1 != (0 : Int) then kk (SV.bool true)
                                              else
                                                ok3 x y z = true ∧
                                                  ∀ (x_2 y_2 z_2 e : Int),
                                                    AnsP (gE x y z (s2 % (3 : Int)) (k2 % (4 : Int))) (s2 % (3 : Int))
                                                        (gV x y z (s2 % (3 : Int)) (k2 % (4 : Int))) x y z x_2 y_2 z_2 e →
                                                      ok3 x_1 y_1 z_1 = true ∧
                                                        ∀ (x y z e_2 : Int),
                                                          AnsP (gE x_1 y_1 z_1 (s1 % (3 : Int)) (k1 % (4 : Int)))
                                                              (s1 % (3 : Int))
                                                              (gV x_1 y_1 z_1 (s1 % (3 : Int)) (k1 % (4 : Int))) x_1 y_1 z_1
                                                              x y z e_2 →
                                                            bif e == (0 : Int) then
                                                              bif e_2 == (0 : Int) then
                                                                bif x_2 == x && (y_2 == y && (z_2 == z && true)) then
                                                                  kk (SV.bool true)
                                                                else kk (SV.bool false)
                                                              else kk (SV.bool false)
                                                            else kk (SV.bool false)
                                      else
                                        bif r_1 == r_2 then kk (SV.bool true)
                                        else
                                          bif e != (0 : Int) then kk (SV.bool true)
                                          else
                                            bif e_1 != (0 : Int) then kk (SV.bool true)
                                            else
                                              ok3 x y z = true ∧
                                                ∀ (x_2 y_2 z_2 e : Int),
                                                  AnsP (gE x y z (s2 % (3 : Int)) (k2 % (4 : Int))) (s2 % (3 : Int))
                                                      (gV x y z (s2 % (3 : Int)) (k2 % (4 : Int))) x y z x_2 y_2 z_2 e →
                                                    ok3 x_1 y_1 z_1 = true ∧
                                                      ∀ (x y z e_2 : Int),
                                                        AnsP (gE x_1 y_1 z_1 (s1 % (3 : Int)) (k1 % (4 : Int)))
                                                            (s1 % (3 : Int))
                                                            (gV x_1 y_1 z_1 (s1 % (3 : Int)) (k1 % (4 : Int))) x_1 y_1 z_1 x
                                                            y z e_2 →
                                                          bif e == (0 : Int) then
                                                            bif e_2 == (0 : Int) then
                                                              bif x_2 == x && (y_2 == y && (z_2 == z && true)) then
                                                                kk (SV.bool true)
                                                              else kk (SV.bool false)
                                                            else kk (SV.bool false)
                                                          else kk (SV.bool false)
                                    else
                                      bif r_1 == r_2 then kk (SV.bool true)
                                      else
                                        bif e != (0 : Int) then kk (SV.bool true)
                                        else
                                          bif e_1 != (0 : Int) then kk (SV.bool true)
                                          else
                                            ok3 x y z = true ∧
                                              ∀ (x_2 y_2 z_2 e : Int),
                                                AnsP (gE x y z (s2 % (3 : Int)) (k2 % (4 : Int))) (s2 % (3 : Int))
                                                    (gV x y z (s2 % (3 : Int)) (k2 % (4 : Int))) x y z x_2 y_2 z_2 e →
                                                  ok3 x_1 y_1 z_1 = true ∧
                                                    ∀ (x y z e_2 : Int),
                                                      AnsP (gE x_1 y_1 z_1 (s1 % (3 : Int)) (k1 % (4 : Int)))
                                                          (s1 % (3 : Int))
                                                          (gV x_1 y_1 z_1 (s1 % (3 : Int)) (k1 % (4 : Int))) x_1 y_1 z_1 x y
                                                          z e_2 →
                                                        bif e == (0 : Int) then
                                                          bif e_2 == (0 : Int) then
                                                            bif x_2 == x && (y_2 == y && (z_2 == z && true)) then
                                                              kk (SV.bool true)
                                                            else kk (SV.bool false)
                                                          else kk (SV.bool false)
                                                        else kk (SV.bool false)
                                else
                                  bif e == (0 : Int) then
                                    bif (2 : Int) != r_1 then
                                      bif z != IntKind.i64.wrap (r.tdiv (9 : Int)) then kk (SV.bool false)
                                      else
                                        bif r_1 == r_2 then kk (SV.bool true)
                                        else
                                          bif e != (0 : Int) then kk (SV.bool true)
                                          else
                                            bif e_1 != (0 : Int) then kk (SV.bool true)
                                            else
                                              ok3 x y z = true ∧
                                                ∀ (x_2 y_2 z_2 e : Int),
                                                  AnsP (gE x y z (s2 % (3 : Int)) (k2 % (4 : Int))) (s2 % (3 : Int))
                                                      (gV x y z (s2 % (3 : Int)) (k2 % (4 : Int))) x y z x_2 y_2 z_2 e →
                                                    ok3 x_1 y_1 z_1 = true ∧
                                                      ∀ (x y z e_2 : Int),
                                                        AnsP (gE x_1 y_1 z_1 (s1 % (3 : Int)) (k1 % (4 : Int)))
                                                            (s1 % (3 : Int))
                                                            (gV x_1 y_1 z_1 (s1 % (3 : Int)) (k1 % (4 : Int))) x_1 y_1 z_1 x
                                                            y z e_2 →
                                                          bif e == (0 : Int) then
                                                            bif e_2 == (0 : Int) then
                                                              bif x_2 == x && (y_2 == y && (z_2 == z && true)) then
                                                                kk (SV.bool true)
                                                              else kk (SV.bool false)
                                                            else kk (SV.bool false)
                                                          else kk (SV.bool false)
                                    else
                                      bif r_1 == r_2 then kk (SV.bool true)
                                      else
                                        bif e != (0 : Int) then kk (SV.bool true)
                                        else
                                          bif e_1 != (0 : Int) then kk (SV.bool true)
                                          else
                                            ok3 x y z = true ∧
                                              ∀ (x_2 y_2 z_2 e : Int),
                                                AnsP (gE x y z (s2 % (3 : Int)) (k2 % (4 : Int))) (s2 % (3 : Int))
                                                    (gV x y z (s2 % (3 : Int)) (k2 % (4 : Int))) x y z x_2 y_2 z_2 e →
                                                  ok3 x_1 y_1 z_1 = true ∧
                                                    ∀ (x y z e_2 : Int),
                                                      AnsP (gE x_1 y_1 z_1 (s1 % (3 : Int)) (k1 % (4 : Int)))
                                                          (s1 % (3 : Int))
                                                          (gV x_1 y_1 z_1 (s1 % (3 : Int)) (k1 % (4 : Int))) x_1 y_1 z_1 x y
                                                          z e_2 →
                                                        bif e == (0 : Int) then
                                                          bif e_2 == (0 : Int) then
                                                            bif x_2 == x && (y_2 == y && (z_2 == z && true)) then
                                                              kk (SV.bool true)
                                                            else kk (SV.bool false)
                                                          else kk (SV.bool false)
                                                        else kk (SV.bool false)
                                  else
                                    bif r_1 == r_2 then kk (SV.bool true)
                                    else
                                      bif e != (0 : Int) then kk (SV.bool true)
                                      else
                                        bif e_1 != (0 : Int) then kk (SV.bool true)
                                        else
                                          ok3 x y z = true ∧
                                            ∀ (x_2 y_2 z_2 e : Int),
                                              AnsP (gE x y z (s2 % (3 : Int)) (k2 % (4 : Int))) (s2 % (3 : Int))
                                                  (gV x y z (s2 % (3 : Int)) (k2 % (4 : Int))) x y z x_2 y_2 z_2 e →
                                                ok3 x_1 y_1 z_1 = true ∧
                                                  ∀ (x y z e_2 : Int),
                                                    AnsP (gE x_1 y_1 z_1 (s1 % (3 : Int)) (k1 % (4 : Int))) (s1 % (3 : Int))
                                                        (gV x_1 y_1 z_1 (s1 % (3 : Int)) (k1 % (4 : Int))) x_1 y_1 z_1 x y z
                                                        e_2 →
                                                      bif e == (0 : Int) then
                                                        bif e_2 == (0 : Int) then
                                                          bif x_2 == x && (y_2 == y && (z_2 == z && true)) then
                                                            kk (SV.bool true)
                                                          else kk (SV.bool false)
                                                        else kk (SV.bool false)
                                                      else kk (SV.bool false)
                              else
                                bif e == (0 : Int) then
                                  bif (2 : Int) != r_1 then
                                    bif z != IntKind.i64.wrap (r.tdiv (9 : Int)) then kk (SV.bool false)
                                    else
                                      bif r_1 == r_2 then kk (SV.bool true)
                                      else
                                        bif e != (0 : Int) then kk (SV.bool true)
                                        else
                                          bif e_1 != (0 : Int) then kk (SV.bool true)
                                          else
                                            ok3 x y z = true ∧
                                              ∀ (x_2 y_2 z_2 e : Int),
                                                AnsP (gE x y z (s2 % (3 : Int)) (k2 % (4 : Int))) (s2 % (3 : Int))
                                                    (gV x y z (s2 % (3 : Int)) (k2 % (4 : Int))) x y z x_2 y_2 z_2 e →
                                                  ok3 x_1 y_1 z_1 = true ∧
                                                    ∀ (x y z e_2 : Int),
                                                      AnsP (gE x_1 y_1 z_1 (s1 % (3 : Int)) (k1 % (4 : Int)))
                                                          (s1 % (3 : Int))
                                                          (gV x_1 y_1 z_1 (s1 % (3 : Int)) (k1 % (4 : Int))) x_1 y_1 z_1 x y
                                                          z e_2 →
                                                        bif e == (0 : Int) then
                                                          bif e_2 == (0 : Int) then
                                                            bif x_2 == x && (y_2 == y && (z_2 == z && true)) then
                                                              kk (SV.bool true)
                                                            else kk (SV.bool false)
                                                          else kk (SV.bool false)
                                                        else kk (SV.bool false)
                                  else
                                    bif r_1 == r_2 then kk (SV.bool true)
                                    else
                                      bif e != (0 : Int) then kk (SV.bool true)
                                      else
                                        bif e_1 != (0 : Int) then kk (SV.bool true)
                                        else
                                          ok3 x y z = true ∧
                                            ∀ (x_2 y_2 z_2 e : Int),
                                              AnsP (gE x y z (s2 % (3 : Int)) (k2 % (4 : Int))) (s2 % (3 : Int))
                                                  (gV x y z (s2 % (3 : Int)) (k2 % (4 : Int))) x y z x_2 y_2 z_2 e →
                                                ok3 x_1 y_1 z_1 = true ∧
                                                  ∀ (x y z e_2 : Int),
                                                    AnsP (gE x_1 y_1 z_1 (s1 % (3 : Int)) (k1 % (4 : Int))) (s1 % (3 : Int))
                                                        (gV x_1 y_1 z_1 (s1 % (3 : Int)) (k1 % (4 : Int))) x_1 y_1 z_1 x y z
                                                        e_2 →
                                                      bif e == (0 : Int) then
                                                        bif e_2 == (0 : Int) then
                                                          bif x_2 == x && (y_2 == y && (z_2 == z && true)) then
                                                            kk (SV.bool true)
                                                          else kk (SV.bool false)
                                                        else kk (SV.bool false)
                                                      else kk (SV.bool false)
                                else
                                  bif r_1 == r_2 then kk (SV.bool true)
                                  else
                                    bif e != (0 : Int) then kk (SV.bool true)
                                    else
                                      bif e_1 != (0 : Int) then kk (SV.bool true)
                                      else
                                        ok3 x y z = true ∧
                                          ∀ (x_2 y_2 z_2 e : Int),
                                            AnsP (gE x y z (s2 % (3 : Int)) (k2 % (4 : Int))) (s2 % (3 : Int))
                                                (gV x y z (s2 % (3 : Int)) (k2 % (4 : Int))) x y z x_2 y_2 z_2 e →
                                              ok3 x_1 y_1 z_1 = true ∧
                                                ∀ (x y z e_2 : Int),
                                                  AnsP (gE x_1 y_1 z_1 (s1 % (3 : Int)) (k1 % (4 : Int))) (s1 % (3 : Int))
                                                      (gV x_1 y_1 z_1 (s1 % (3 : Int)) (k1 % (4 : Int))) x_1 y_1 z_1 x y z
                                                      e_2 →
                                                    bif e == (0 : Int) then
                                                      bif e_2 == (0 : Int) then
                                                        bif x_2 == x && (y_2 == y && (z_2 == z && true)) then
                                                          kk (SV.bool true)
                                                        else kk (SV.bool false)
                                                      else kk (SV.bool false)
                                                    else kk (SV.bool false)) := by kernel_rfl
end Go.Proofs.Ytfhkmagpgbcnjaa
