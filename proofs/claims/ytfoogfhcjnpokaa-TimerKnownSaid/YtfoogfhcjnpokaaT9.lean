/-
  What functions of the program come to, way by way: printed by a program, held by the kernel.
-/
import Derived.Test.YtfoogfhcjnpokaaX9
namespace Go.Proofs.Ytfoogfhcjnpokaa
open Go.RowKit
set_option maxRecDepth 100000

theorem t10 (F : Fc) (kk : SV → Prop) : evalF C9 64 Try.f10 [fc F] [] (fun v _ => kk v) = (
    ∀ (x : D3),
      x =
          pickV (Fc.mk F.k0 F.a0 F.b0 F.n0 F.k1 F.a1 F.b1 F.n1 F.k2 F.a2 F.b2 F.n2 F.cf F.lm F.pr F.now) (100 : Int)
            (100 : Int) (2000000 : Int) (300000 : Int) (0 : Int) (5000000 : Int) (1 : Int) (10 : Int) →
        kk (SV.agg [SV.int IntKind.i64 x.fst, SV.int IntKind.i64 x.snd.fst, SV.int IntKind.i64 x.snd.snd])) := by kernel_rfl
theorem t12  (kk : SV → Prop) : evalF C10 64 Try.f12 [] [] (fun v _ => kk v) = (
    ∀ (x : D3),
      x =
          dueC
            (Fc.mk false (-1 : Int) (10 : Int) (1 : Int) false (-1 : Int) (5 : Int) (2 : Int) false (-1 : Int) (-1 : Int)
              (0 : Int) false false false (0 : Int)) →
        bif x.fst == (2 : Int) && (x.snd.fst == (1 : Int) && (x.snd.snd == (6400005 : Int) && true)) then
          ∀ (x : D3),
            x =
                dueC
                  (Fc.mk false (-1 : Int) (10 : Int) (1 : Int) false (-1 : Int) (5 : Int) (2 : Int) false (9 : Int)
                    (-1 : Int) (0 : Int) false false false (0 : Int)) →
              bif x.fst == (1 : Int) && (x.snd.fst == (2 : Int) && (x.snd.snd == (9 : Int) && true)) then
                ∀ (x : D3),
                  x =
                      dueC
                        (Fc.mk false (-1 : Int) (-1 : Int) (0 : Int) false (-1 : Int) (-1 : Int) (0 : Int) false (-1 : Int)
                          (7 : Int) (1 : Int) false false false (0 : Int)) →
                    bif x.fst == (0 : Int) && (x.snd.fst == (0 : Int) && (x.snd.snd == (-1 : Int) && true)) then
                      ∀ (x : D3),
                        x =
                            dueC
                              (Fc.mk false (-1 : Int) (-1 : Int) (0 : Int) false (-1 : Int) (-1 : Int) (0 : Int) false
                                (-1 : Int) (7 : Int) (1 : Int) true false false (0 : Int)) →
                          bif x.fst == (2 : Int) && (x.snd.fst == (2 : Int) && (x.snd.snd == (16400007 : Int) && true)) then
                            ∀ (x : D3),
                              x =
                                  dueC
                                    (Fc.mk true (-1 : Int) (-1 : Int) (0 : Int) false (-1 : Int) (-1 : Int) (0 : Int) false
                                      (-1 : Int) (-1 : Int) (0 : Int) false false false (100 : Int)) →
                                bif
                                    x.fst == (2 : Int) &&
                                      (x.snd.fst == (0 : Int) && (x.snd.snd == (6400100 : Int) && true)) then
                                  ∀ (x : D3),
                                    x =
                                        dueC
                                          (Fc.mk true (-1 : Int) (-1 : Int) (0 : Int) false (-1 : Int) (-1 : Int) (0 : Int)
                                            false (-1 : Int) (-1 : Int) (0 : Int) false false true (100 : Int)) →
                                      kk
                                        (SV.bool
                                          (x.fst == (0 : Int) &&
                                            (x.snd.fst == (0 : Int) && (x.snd.snd == (-1 : Int) && true))))
                                else kk (SV.bool false)
                          else kk (SV.bool false)
                    else kk (SV.bool false)
              else kk (SV.bool false)
        else kk (SV.bool false)) := by kernel_rfl
theorem t3 (x : Rw) (w : Int) (kk : SV → Prop) : evalF C11 64 Try.f3 [.agg (rwL x), .int .i64 w] [] (fun v _ => kk v) = (
    ∀ (F : Fc),
      F = madeF (Rw.mk x.b x.l x.a x.m) (Rw.mk x.b x.l x.a x.m) (Rw.mk x.b x.l x.a x.m) (1 : Int) w →
        ∀ (x_1 : D3),
          x_1 = dueC (Fc.mk F.k0 F.a0 F.b0 F.n0 F.k1 F.a1 F.b1 F.n1 F.k2 F.a2 F.b2 F.n2 F.cf F.lm F.pr F.now) →
            bif bitI BinOp.and IntKind.i64 (x.b % (8 : Int)) (6 : Int) == (0 : Int) then
              bif x_1.fst == (0 : Int) then kk (SV.bool true)
              else bif x_1.snd.fst == (1 : Int) then kk (SV.bool true) else kk (SV.bool false)
            else
              bif decide ((0 : Int) < x_1.fst) then
                bif x_1.snd.fst == (0 : Int) then kk (SV.bool true) else kk (SV.bool false)
              else kk (SV.bool false)) := by kernel_rfl
theorem t5 (F : Fc) (l m s v f d c mo : Int) (kk : SV → Prop) : evalF C11 64 Try.f5 [fc F, .agg [.int .i64 l, .int .i64 m, .int .i64 s, .int .i64 v, .int .i64 f, .int .i64 d, .int .i64 c, .int .i64 mo]] [] (fun v _ => kk v) = (
    ∀ (x : D3),
      x = pickV (Fc.mk F.k0 F.a0 F.b0 F.n0 F.k1 F.a1 F.b1 F.n1 F.k2 F.a2 F.b2 F.n2 F.cf F.lm F.pr F.now) l m s v f d c mo →
        ∀ (x_1 : D3),
          x_1 =
              pickV (Fc.mk F.k0 F.a0 F.b0 F.n0 F.k1 F.a1 F.b1 F.n1 F.k2 F.a2 F.b2 F.n2 F.cf F.lm F.pr F.now) l m s v f d c
                mo →
            bif
                mayF (Fc.mk F.k0 F.a0 F.b0 F.n0 F.k1 F.a1 F.b1 F.n1 F.k2 F.a2 F.b2 F.n2 F.cf F.lm F.pr F.now) ==
                  mayF (Fc.mk F.k0 F.a0 F.b0 F.n0 F.k1 F.a1 F.b1 F.n1 F.k2 F.a2 F.b2 F.n2 F.cf F.lm F.pr F.now) then
              bif x.fst == x_1.fst then
                bif x.snd.fst == x_1.snd.fst then
                  bif x.snd.snd == x_1.snd.snd then kk (SV.bool true) else kk (SV.bool false)
                else kk (SV.bool false)
              else kk (SV.bool false)
            else kk (SV.bool false)) := by kernel_rfl
theorem t7 (x0 x1 x2 : Rw) (b n0 n1 n2 n3 : Int) (kk : SV → Prop) : evalF C11 64 Try.f7 [.agg (rw3 x0 x1 x2), .int .i64 b, .agg [.int .i64 n0, .int .i64 n1, .int .i64 n2, .int .i64 n3]] [] (fun v _ => kk v) = (
    ∀ (F : Fc),
      F = madeF (Rw.mk x0.b x0.l x0.a x0.m) (Rw.mk x1.b x1.l x1.a x1.m) (Rw.mk x2.b x2.l x2.a x2.m) b n0 →
        ∀ (x : D3),
          x =
              pickV (Fc.mk F.k0 F.a0 F.b0 F.n0 F.k1 F.a1 F.b1 F.n1 F.k2 F.a2 F.b2 F.n2 F.cf F.lm F.pr F.now) (100 : Int)
                (100 : Int) (2000000 : Int) (300000 : Int) (0 : Int) (1000000 : Int)
                (if n2 % (12 : Int) < n1 % (12 : Int) then n2 % (12 : Int) else n1 % (12 : Int)) (8 : Int) →
            ∀ (x_1 : D3),
              x_1 =
                  pickV (Fc.mk F.k0 F.a0 F.b0 F.n0 F.k1 F.a1 F.b1 F.n1 F.k2 F.a2 F.b2 F.n2 F.cf F.lm F.pr F.now) (100 : Int)
                    (100 : Int) (2000000 : Int) (300000 : Int) (0 : Int) (9000000 : Int)
                    (if n2 % (12 : Int) > n1 % (12 : Int) then n2 % (12 : Int) else n1 % (12 : Int)) (8 : Int) →
                bif x.fst != x_1.fst then kk (SV.bool false)
                else
                  bif x.fst == (1 : Int) then
                    bif !(x.fst == x_1.fst && (x.snd.fst == x_1.snd.fst && (x.snd.snd == x_1.snd.snd && true))) then
                      kk (SV.bool false)
                    else
                      bif decide (x_1.snd.snd < x.snd.snd) then kk (SV.bool false)
                      else
                        bif decide ((0 : Int) ≤ F.b0) then
                          bif decide ((0 : Int) ≤ F.b1) then
                            bif decide ((0 : Int) ≤ F.b2) then
                              ∀ (x_2 : D3),
                                x_2 =
                                    pickV
                                      (Fc.mk F.k0 F.a0 (IntKind.i64.wrap (F.b0 + n3 % (1099511627776 : Int))) F.n0 F.k1 F.a1
                                        (IntKind.i64.wrap (F.b1 + n3 % (1099511627776 : Int))) F.n1 F.k2 F.a2
                                        (IntKind.i64.wrap (F.b2 + n3 % (1099511627776 : Int))) F.n2 F.cf F.lm F.pr
                                        (IntKind.i64.wrap (F.now + n3 % (1099511627776 : Int))))
                                      (100 : Int) (100 : Int) (2000000 : Int) (300000 : Int) (0 : Int) (1000000 : Int)
                                      (if n2 % (12 : Int) < n1 % (12 : Int) then n2 % (12 : Int) else n1 % (12 : Int))
                                      (8 : Int) →
                                  bif x_2.fst == x.fst then
                                    bif decide (x.snd.snd ≤ x_2.snd.snd) then kk (SV.bool true) else kk (SV.bool false)
                                  else kk (SV.bool false)
                            else
                              ∀ (x_2 : D3),
                                x_2 =
                                    pickV
                                      (Fc.mk F.k0 F.a0 (IntKind.i64.wrap (F.b0 + n3 % (1099511627776 : Int))) F.n0 F.k1 F.a1
                                        (IntKind.i64.wrap (F.b1 + n3 % (1099511627776 : Int))) F.n1 F.k2 F.a2 F.b2 F.n2 F.cf
                                        F.lm F.pr (IntKind.i64.wrap (F.now + n3 % (1099511627776 : Int))))
                                      (100 : Int) (100 : Int) (2000000 : Int) (300000 : Int) (0 : Int) (1000000 : Int)
                                      (if n2 % (12 : Int) < n1 % (12 : Int) then n2 % (12 : Int) else n1 % (12 : Int))
                                      (8 : Int) →
                                  bif x_2.fst == x.fst then
                                    bif decide (x.snd.snd ≤ x_2.snd.snd) then kk (SV.bool true) else kk (SV.bool false)
                                  else kk (SV.bool false)
                          else
                            bif decide ((0 : Int) ≤ F.b2) then
                              ∀ (x_2 : D3),
                                x_2 =
                                    pickV
                                      (Fc.mk F.k0 F.a0 (IntKind.i64.wrap (F.b0 + n3 % (1099511627776 : Int))) F.n0 F.k1 F.a1
                                        F.b1 F.n1 F.k2 F.a2 (IntKind.i64.wrap (F.b2 + n3 % (1099511627776 : Int))) F.n2 F.cf
                                        F.lm F.pr (IntKind.i64.wrap (F.now + n3 % (1099511627776 : Int))))
                                      (100 : Int) (100 : Int) (2000000 : Int) (300000 : Int) (0 : Int) (1000000 : Int)
                                      (if n2 % (12 : Int) < n1 % (12 : Int) then n2 % (12 : Int) else n1 % (12 : Int))
                                      (8 : Int) →
                                  bif x_2.fst == x.fst then
                                    bif decide (x.snd.snd ≤ x_2.snd.snd) then kk (SV.bool true) else kk (SV.bool false)
                                  else kk (SV.bool false)
                            else
                              ∀ (x_2 : D3),
                                x_2 =
                                    pickV
                                      (Fc.mk F.k0 F.a0 (IntKind.i64.wrap (F.b0 + n3 % (1099511627776 : Int))) F.n0 F.k1 F.a1
                                        F.b1 F.n1 F.k2 F.a2 F.b2 F.n2 F.cf F.lm F.pr
                                        (IntKind.i64.wrap (F.now + n3 % (1099511627776 : Int))))
                                      (100 : Int) (100 : Int) (2000000 : Int) (300000 : Int) (0 : Int) (1000000 : Int)
                                      (if n2 % (12 : Int) < n1 % (12 : Int) then n2 % (12 : Int) else n1 % (12 : Int))
                                      (8 : Int) →
                                  bif x_2.fst == x.fst then
                                    bif decide (x.snd.snd ≤ x_2.snd.snd) then kk (SV.bool true) else kk (SV.bool false)
                                  else kk (SV.bool false)
                        else
                          bif decide ((0 : Int) ≤ F.b1) then
                            bif decide ((0 : Int) ≤ F.b2) then
                              ∀ (x_2 : D3),
                                x_2 =
                                    pickV
                                      (Fc.mk F.k0 F.a0 F.b0 F.n0 F.k1 F.a1
                                        (IntKind.i64.wrap (F.b1 + n3 % (1099511627776 : Int))) F.n1 F.k2 F.a2
                                        (IntKind.i64.wrap (F.b2 + n3 % (1099511627776 : Int))) F.n2 F.cf F.lm F.pr
                                        (IntKind.i64.wrap (F.now + n3 % (1099511627776 : Int))))
                                      (100 : Int) (100 : Int) (2000000 : Int) (300000 : Int) (0 : Int) (1000000 : Int)
                                      (if n2 % (12 : Int) < n1 % (12 : Int) then n2 % (12 : Int) else n1 % (12 : Int))
                                      (8 : Int) →
                                  bif x_2.fst == x.fst then
                                    bif decide (x.snd.snd ≤ x_2.snd.snd) then kk (SV.bool true) else kk (SV.bool false)
                                  else kk (SV.bool false)
                            else
                              ∀ (x_2 : D3),
                                x_2 =
                                    pickV
                                      (Fc.mk F.k0 F.a0 F.b0 F.n0 F.k1 F.a1
                                        (IntKind.i64.wrap (F.b1 + n3 % (1099511627776 : Int))) F.n1 F.k2 F.a2 F.b2 F.n2 F.cf
                                        F.lm F.pr (IntKind.i64.wrap (F.now + n3 % (1099511627776 : Int))))
                                      (100 : Int) (100 : Int) (2000000 : Int) (300000 : Int) (0 : Int) (1000000 : Int)
                                      (if n2 % (12 : Int) < n1 % (12 : Int) then n2 % (12 : Int) else n1 % (12 : Int))
                                      (8 : Int) →
                                  bif x_2.fst == x.fst then
                                    bif decide (x.snd.snd ≤ x_2.snd.snd) then kk (SV.bool true) else kk (SV.bool false)
                                  else kk (SV.bool false)
                          else
                            bif decide ((0 : Int) ≤ F.b2) then
                              ∀ (x_2 : D3),
                                x_2 =
                                    pickV
                                      (Fc.mk F.k0 F.a0 F.b0 F.n0 F.k1 F.a1 F.b1 F.n1 F.k2 F.a2
                                        (IntKind.i64.wrap (F.b2 + n3 % (1099511627776 : Int))) F.n2 F.cf F.lm F.pr
                                        (IntKind.i64.wrap (F.now + n3 % (1099511627776 : Int))))
                                      (100 : Int) (100 : Int) (2000000 : Int) (300000 : Int) (0 : Int) (1000000 : Int)
                                      (if n2 % (12 : Int) < n1 % (12 : Int) then n2 % (12 : Int) else n1 % (12 : Int))
                                      (8 : Int) →
                                  bif x_2.fst == x.fst then
                                    bif decide (x.snd.snd ≤ x_2.snd.snd) then kk (SV.bool true) else kk (SV.bool false)
                                  else kk (SV.bool false)
                            else
                              ∀ (x_2 : D3),
                                x_2 =
                                    pickV
                                      (Fc.mk F.k0 F.a0 F.b0 F.n0 F.k1 F.a1 F.b1 F.n1 F.k2 F.a2 F.b2 F.n2 F.cf F.lm F.pr
                                        (IntKind.i64.wrap (F.now + n3 % (1099511627776 : Int))))
                                      (100 : Int) (100 : Int) (2000000 : Int) (300000 : Int) (0 : Int) (1000000 : Int)
                                      (if n2 % (12 : Int) < n1 % (12 : Int) then n2 % (12 : Int) else n1 % (12 : Int))
                                      (8 : Int) →
                                  bif x_2.fst == x.fst then
                                    bif decide (x.snd.snd ≤ x_2.snd.snd) then kk (SV.bool true) else kk (SV.bool false)
                                  else kk (SV.bool false)
                  else
                    bif decide (x_1.snd.snd < x.snd.snd) then kk (SV.bool false)
                    else
                      bif decide ((0 : Int) ≤ F.b0) then
                        bif decide ((0 : Int) ≤ F.b1) then
                          bif decide ((0 : Int) ≤ F.b2) then
                            ∀ (x_2 : D3),
                              x_2 =
                                  pickV
                                    (Fc.mk F.k0 F.a0 (IntKind.i64.wrap (F.b0 + n3 % (1099511627776 : Int))) F.n0 F.k1 F.a1
                                      (IntKind.i64.wrap (F.b1 + n3 % (1099511627776 : Int))) F.n1 F.k2 F.a2
                                      (IntKind.i64.wrap (F.b2 + n3 % (1099511627776 : Int))) F.n2 F.cf F.lm F.pr
                                      (IntKind.i64.wrap (F.now + n3 % (1099511627776 : Int))))
                                    (100 : Int) (100 : Int) (2000000 : Int) (300000 : Int) (0 : Int) (1000000 : Int)
                                    (if n2 % (12 : Int) < n1 % (12 : Int) then n2 % (12 : Int) else n1 % (12 : Int))
                                    (8 : Int) →
                                bif x_2.fst == x.fst then
                                  bif decide (x.snd.snd ≤ x_2.snd.snd) then kk (SV.bool true) else kk (SV.bool false)
                                else kk (SV.bool false)
                          else
                            ∀ (x_2 : D3),
                              x_2 =
                                  pickV
                                    (Fc.mk F.k0 F.a0 (IntKind.i64.wrap (F.b0 + n3 % (1099511627776 : Int))) F.n0 F.k1 F.a1
                                      (IntKind.i64.wrap (F.b1 + n3 % (1099511627776 : Int))) F.n1 F.k2 F.a2 F.b2 F.n2 F.cf
                                      F.lm F.pr (IntKind.i64.wrap (F.now + n3 % (1099511627776 : Int))))
                                    (100 : Int) (100 : Int) (2000000 : Int) (300000 : Int) (0 : Int) (1000000 : Int)
                                    (if n2 % (12 : Int) < n1 % (12 : Int) then n2 % (12 : Int) else n1 % (12 : Int))
                                    (8 : Int) →
                                bif x_2.fst == x.fst then
                                  bif decide (x.snd.snd ≤ x_2.snd.snd) then kk (SV.bool true) else kk (SV.bool false)
                                else kk (SV.bool false)
                        else
                          bif decide ((0 : Int) ≤ F.b2) then
                            ∀ (x_2 : D3),
                              x_2 =
                                  pickV
                                    (Fc.mk F.k0 F.a0 (IntKind.i64.wrap (F.b0 + n3 % (1099511627776 : Int))) F.n0 F.k1 F.a1
                                      F.b1 F.n1 F.k2 F.a2 (IntKind.i64.wrap (F.b2 + n3 % (1099511627776 : Int))) F.n2 F.cf
                                      F.lm F.pr (IntKind.i64.wrap (F.now + n3 % (1099511627776 : Int))))
                                    (100 : Int) (100 : Int) (2000000 : Int) (300000 : Int) (0 : Int) (1000000 : Int)
                                    (if n2 % (12 : Int) < n1 % (12 : Int) then n2 % (12 : Int) else n1 % (12 : Int))
                                    (8 : Int) →
                                bif x_2.fst == x.fst then
                                  bif decide (x.snd.snd ≤ x_2.snd.snd) then kk (SV.bool true) else kk (SV.bool false)
                                else kk (SV.bool false)
                          else
                            ∀ (x_2 : D3),
                              x_2 =
                                  pickV
                                    (Fc.mk F.k0 F.a0 (IntKind.i64.wrap (F.b0 + n3 % (1099511627776 : Int))) F.n0 F.k1 F.a1
                                      F.b1 F.n1 F.k2 F.a2 F.b2 F.n2 F.cf F.lm F.pr
                                      (IntKind.i64.wrap (F.now + n3 % (1099511627776 : Int))))
                                    (100 : Int) (100 : Int) (2000000 : Int) (300000 : Int) (0 : Int) (1000000 : Int)
                                    (if n2 % (12 : Int) < n1 % (12 : Int) then n2 % (12 : Int) else n1 % (12 : Int))
                                    (8 : Int) →
                                bif x_2.fst == x.fst then
                                  bif decide (x.snd.snd ≤ x_2.snd.snd) then kk (SV.bool true) else kk (SV.bool false)
                                else kk (SV.bool false)
                      else
                        bif decide ((0 : Int) ≤ F.b1) then
                          bif decide ((0 : Int) ≤ F.b2) then
                            ∀ (x_2 : D3),
                              x_2 =
                                  pickV
                                    (Fc.mk F.k0 F.a0 F.b0 F.n0 F.k1 F.a1
                                      (IntKind.i64.wrap (F.b1 + n3 % (1099511627776 : Int))) F.n1 F.k2 F.a2
                                      (IntKind.i64.wrap (F.b2 + n3 % (1099511627776 : Int))) F.n2 F.cf F.lm F.pr
                                      (IntKind.i64.wrap (F.now + n3 % (1099511627776 : Int))))
                                    (100 : Int) (100 : Int) (2000000 : Int) (300000 : Int) (0 : Int) (1000000 : Int)
                                    (if n2 % (12 : Int) < n1 % (12 : Int) then n2 % (12 : Int) else n1 % (12 : Int))
                                    (8 : Int) →
                                bif x_2.fst == x.fst then
                                  bif decide (x.snd.snd ≤ x_2.snd.snd) then kk (SV.bool true) else kk (SV.bool false)
                                else kk (SV.bool false)
                          else
                            ∀ (x_2 : D3),
                              x_2 =
                                  pickV
                                    (Fc.mk F.k0 F.a0 F.b0 F.n0 F.k1 F.a1
                                      (IntKind.i64.wrap (F.b1 + n3 % (1099511627776 : Int))) F.n1 F.k2 F.a2 F.b2 F.n2 F.cf
                                      F.lm F.pr (IntKind.i64.wrap (F.now + n3 % (1099511627776 : Int))))
                                    (100 : Int) (100 : Int) (2000000 : Int) (300000 : Int) (0 : Int) (1000000 : Int)
                                    (if n2 % (12 : Int) < n1 % (12 : Int) then n2 % (12 : Int) else n1 % (12 : Int))
                                    (8 : Int) →
                                bif x_2.fst == x.fst then
                                  bif decide (x.snd.snd ≤ x_2.snd.snd) then kk (SV.bool true) else kk (SV.bool false)
                                else kk (SV.bool false)
                        else
                          bif decide ((0 : Int) ≤ F.b2) then
                            ∀ (x_2 : D3),
                              x_2 =
                                  pickV
                                    (Fc.mk F.k0 F.a0 F.b0 F.n0 F.k1 F.a1 F.b1 F.n1 F.k2 F.a2
                                      (IntKind.i64.wrap (F.b2 + n3 % (1099511627776 : Int))) F.n2 F.cf F.lm F.pr
                                      (IntKind.i64.wrap (F.now + n3 % (1099511627776 : Int))))
                                    (100 : Int) (100 : Int) (2000000 : Int) (300000 : Int) (0 : Int) (1000000 : Int)
                                    (if n2 % (12 : Int) < n1 % (12 : Int) then n2 % (12 : Int) else n1 % (12 : Int))
                                    (8 : Int) →
                                bif x_2.fst == x.fst then
                                  bif decide (x.snd.snd ≤ x_2.snd.snd) then kk (SV.bool true) else kk (SV.bool false)
                                else kk (SV.bool false)
                          else
                            ∀ (x_2 : D3),
                              x_2 =
                                  pickV
                                    (Fc.mk F.k0 F.a0 F.b0 F.n0 F.k1 F.a1 F.b1 F.n1 F.k2 F.a2 F.b2 F.n2 F.cf F.lm F.pr
                                      (IntKind.i64.wrap (F.now + n3 % (1099511627776 : Int))))
                                    (100 : Int) (100 : Int) (2000000 : Int) (300000 : Int) (0 : Int) (1000000 : Int)
                                    (if n2 % (12 : Int) < n1 % (12 : Int) then n2 % (12 : Int) else n1 % (12 : Int))
                                    (8 : Int) →
                                bif x_2.fst == x.fst then
                                  bif decide (x.snd.snd ≤ x_2.snd.snd) then kk (SV.bool true) else kk (SV.bool false)
                                else kk (SV.bool false)) := by kernel_rfl
theorem t8 (sp : Int) (x : Rw) (b : Int) (kk : SV → Prop) : evalF C12 64 Try.f8 [.int .i64 sp, .agg (rwL x), .int .i64 b] [] (fun v _ => kk v) = (
    (sp % (3 : Int) = (0 : Int) →
        ∀ (F : Fc),
          F =
              madeF (Rw.mk (bitI BinOp.or IntKind.i64 x.b (4 : Int)) x.l x.a x.m)
                (Rw.mk (0 : Int) (0 : Int) (0 : Int) (0 : Int)) (Rw.mk (0 : Int) (0 : Int) (0 : Int) (0 : Int)) (1 : Int)
                (5 : Int) →
            ∀ (x : D3),
              x = dueC (Fc.mk F.k0 F.a0 F.b0 F.n0 F.k1 F.a1 F.b1 F.n1 F.k2 F.a2 F.b2 F.n2 true false F.pr F.now) →
                ∀ (x_1 : D3),
                  x_1 =
                      dueC
                        (Fc.mk
                          (bitI BinOp.and IntKind.i64
                              ((b % (8 : Int)).fdiv ((2 : Int) ^ min (Int.toNat (0 : Int)) IntKind.i64.bits)) (1 : Int) ==
                            (1 : Int))
                          F.a0 F.b0 F.n0
                          (bitI BinOp.and IntKind.i64
                              ((b % (8 : Int)).fdiv
                                ((2 : Int) ^ min (IntKind.i64.wrap ((0 : Int) + (1 : Int))).toNat IntKind.i64.bits))
                              (1 : Int) ==
                            (1 : Int))
                          F.a1 F.b1 F.n1
                          (bitI BinOp.and IntKind.i64
                              ((b % (8 : Int)).fdiv
                                ((2 : Int) ^
                                  min (IntKind.i64.wrap (IntKind.i64.wrap ((0 : Int) + (1 : Int)) + (1 : Int))).toNat
                                    IntKind.i64.bits))
                              (1 : Int) ==
                            (1 : Int))
                          F.a2 F.b2 F.n2 true false
                          ((b % (16 : Int)).fdiv ((2 : Int) ^ min (Int.toNat (3 : Int)) IntKind.i64.bits) == (1 : Int))
                          F.now) →
                    bif x.fst == x_1.fst && (x.snd.fst == x_1.snd.fst && (x.snd.snd == x_1.snd.snd && true)) then
                      bif x.snd.fst == (0 : Int) then
                        bif decide ((0 : Int) < x.fst) then kk (SV.bool true) else kk (SV.bool false)
                      else kk (SV.bool false)
                    else kk (SV.bool false)) ∧
      (sp % (3 : Int) = (1 : Int) →
          ∀ (F : Fc),
            F =
                madeF (Rw.mk (0 : Int) (0 : Int) (0 : Int) (0 : Int))
                  (Rw.mk (bitI BinOp.or IntKind.i64 x.b (4 : Int)) x.l x.a x.m)
                  (Rw.mk (0 : Int) (0 : Int) (0 : Int) (0 : Int)) (1 : Int) (5 : Int) →
              ∀ (x : D3),
                x = dueC (Fc.mk F.k0 F.a0 F.b0 F.n0 F.k1 F.a1 F.b1 F.n1 F.k2 F.a2 F.b2 F.n2 true false F.pr F.now) →
                  ∀ (x_1 : D3),
                    x_1 =
                        dueC
                          (Fc.mk
                            (bitI BinOp.and IntKind.i64
                                ((b % (8 : Int)).fdiv ((2 : Int) ^ min (Int.toNat (0 : Int)) IntKind.i64.bits)) (1 : Int) ==
                              (1 : Int))
                            F.a0 F.b0 F.n0
                            (bitI BinOp.and IntKind.i64
                                ((b % (8 : Int)).fdiv
                                  ((2 : Int) ^ min (IntKind.i64.wrap ((0 : Int) + (1 : Int))).toNat IntKind.i64.bits))
                                (1 : Int) ==
                              (1 : Int))
                            F.a1 F.b1 F.n1
                            (bitI BinOp.and IntKind.i64
                                ((b % (8 : Int)).fdiv
                                  ((2 : Int) ^
                                    min (IntKind.i64.wrap (IntKind.i64.wrap ((0 : Int) + (1 : Int)) + (1 : Int))).toNat
                                      IntKind.i64.bits))
                                (1 : Int) ==
                              (1 : Int))
                            F.a2 F.b2 F.n2 true false
                            ((b % (16 : Int)).fdiv ((2 : Int) ^ min (Int.toNat (3 : Int)) IntKind.i64.bits) == (1 : Int))
                            F.now) →
                      bif x.fst == x_1.fst && (x.snd.fst == x_1.snd.fst && (x.snd.snd == x_1.snd.snd && true)) then
                        bif x.snd.fst == (1 : Int) then
                          bif decide ((0 : Int) < x.fst) then kk (SV.bool true) else kk (SV.bool false)
                        else kk (SV.bool false)
                      else kk (SV.bool false)) ∧
        (sp % (3 : Int) = (2 : Int) →
          ∀ (F : Fc),
            F =
                madeF (Rw.mk (0 : Int) (0 : Int) (0 : Int) (0 : Int)) (Rw.mk (0 : Int) (0 : Int) (0 : Int) (0 : Int))
                  (Rw.mk (bitI BinOp.or IntKind.i64 x.b (4 : Int)) x.l x.a x.m) (1 : Int) (5 : Int) →
              ∀ (x : D3),
                x = dueC (Fc.mk F.k0 F.a0 F.b0 F.n0 F.k1 F.a1 F.b1 F.n1 F.k2 F.a2 F.b2 F.n2 true false F.pr F.now) →
                  ∀ (x_1 : D3),
                    x_1 =
                        dueC
                          (Fc.mk
                            (bitI BinOp.and IntKind.i64
                                ((b % (8 : Int)).fdiv ((2 : Int) ^ min (Int.toNat (0 : Int)) IntKind.i64.bits)) (1 : Int) ==
                              (1 : Int))
                            F.a0 F.b0 F.n0
                            (bitI BinOp.and IntKind.i64
                                ((b % (8 : Int)).fdiv
                                  ((2 : Int) ^ min (IntKind.i64.wrap ((0 : Int) + (1 : Int))).toNat IntKind.i64.bits))
                                (1 : Int) ==
                              (1 : Int))
                            F.a1 F.b1 F.n1
                            (bitI BinOp.and IntKind.i64
                                ((b % (8 : Int)).fdiv
                                  ((2 : Int) ^
                                    min (IntKind.i64.wrap (IntKind.i64.wrap ((0 : Int) + (1 : Int)) + (1 : Int))).toNat
                                      IntKind.i64.bits))
                                (1 : Int) ==
                              (1 : Int))
                            F.a2 F.b2 F.n2 true false
                            ((b % (16 : Int)).fdiv ((2 : Int) ^ min (Int.toNat (3 : Int)) IntKind.i64.bits) == (1 : Int))
                            F.now) →
                      bif x.fst == x_1.fst && (x.snd.fst == x_1.snd.fst && (x.snd.snd == x_1.snd.snd && true)) then
                        bif x.snd.fst == (2 : Int) then
                          bif decide ((0 : Int) < x.fst) then kk (SV.bool true) else kk (SV.bool false)
                        else kk (SV.bool false)
                      else kk (SV.bool false))) := by kernel_rfl
end Go.Proofs.Ytfoogfhcjnpokaa
