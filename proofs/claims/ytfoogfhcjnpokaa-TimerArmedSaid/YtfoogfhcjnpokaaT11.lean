/-
  What functions of the program come to, way by way: printed by a program, held by the kernel.
-/
import Derived.Test.YtfoogfhcjnpokaaX10
namespace Go.Proofs.Ytfoogfhcjnpokaa
open Go.RowKit
set_option maxRecDepth 100000

theorem t20_0 (F : Fc) (x z : Int) (kk : SV → Prop) : evalF C0 64 Try.f20 [fc F, .agg [.int .i64 x, .int .i64 0, .int .i64 z]] [] (fun v _ => kk v) = (
    bif decide ((0 : Int) < F.n0) then
      bif decide (IntKind.i64.wrap (F.b0 + (6400000 : Int)) < z) then kk (SV.bool false)
      else
        bif decide ((0 : Int) < F.n1) then
          bif decide (IntKind.i64.wrap (F.b1 + (6400000 : Int)) < z) then kk (SV.bool false)
          else
            bif decide ((0 : Int) < F.n2) then
              bif F.cf then
                bif decide (IntKind.i64.wrap (F.b2 + (16400000 : Int)) < z) then kk (SV.bool false)
                else kk (SV.bool (z == IntKind.i64.wrap (F.b0 + (6400000 : Int))))
              else kk (SV.bool (z == IntKind.i64.wrap (F.b0 + (6400000 : Int))))
            else kk (SV.bool (z == IntKind.i64.wrap (F.b0 + (6400000 : Int))))
        else
          bif decide ((0 : Int) < F.n2) then
            bif F.cf then
              bif decide (IntKind.i64.wrap (F.b2 + (16400000 : Int)) < z) then kk (SV.bool false)
              else kk (SV.bool (z == IntKind.i64.wrap (F.b0 + (6400000 : Int))))
            else kk (SV.bool (z == IntKind.i64.wrap (F.b0 + (6400000 : Int))))
          else kk (SV.bool (z == IntKind.i64.wrap (F.b0 + (6400000 : Int))))
    else
      bif decide ((0 : Int) < F.n1) then
        bif decide (IntKind.i64.wrap (F.b1 + (6400000 : Int)) < z) then kk (SV.bool false)
        else
          bif decide ((0 : Int) < F.n2) then
            bif F.cf then
              bif decide (IntKind.i64.wrap (F.b2 + (16400000 : Int)) < z) then kk (SV.bool false)
              else kk (SV.bool (z == IntKind.i64.wrap (F.b0 + (6400000 : Int))))
            else kk (SV.bool (z == IntKind.i64.wrap (F.b0 + (6400000 : Int))))
          else kk (SV.bool (z == IntKind.i64.wrap (F.b0 + (6400000 : Int))))
      else
        bif decide ((0 : Int) < F.n2) then
          bif F.cf then
            bif decide (IntKind.i64.wrap (F.b2 + (16400000 : Int)) < z) then kk (SV.bool false)
            else kk (SV.bool (z == IntKind.i64.wrap (F.b0 + (6400000 : Int))))
          else kk (SV.bool (z == IntKind.i64.wrap (F.b0 + (6400000 : Int))))
        else kk (SV.bool (z == IntKind.i64.wrap (F.b0 + (6400000 : Int))))) := by kernel_rfl
theorem t20_1 (F : Fc) (x z : Int) (kk : SV → Prop) : evalF C0 64 Try.f20 [fc F, .agg [.int .i64 x, .int .i64 1, .int .i64 z]] [] (fun v _ => kk v) = (
    bif decide ((0 : Int) < F.n0) then
      bif decide (IntKind.i64.wrap (F.b0 + (6400000 : Int)) < z) then kk (SV.bool false)
      else
        bif decide ((0 : Int) < F.n1) then
          bif decide (IntKind.i64.wrap (F.b1 + (6400000 : Int)) < z) then kk (SV.bool false)
          else
            bif decide ((0 : Int) < F.n2) then
              bif F.cf then
                bif decide (IntKind.i64.wrap (F.b2 + (16400000 : Int)) < z) then kk (SV.bool false)
                else kk (SV.bool (z == IntKind.i64.wrap (F.b1 + (6400000 : Int))))
              else kk (SV.bool (z == IntKind.i64.wrap (F.b1 + (6400000 : Int))))
            else kk (SV.bool (z == IntKind.i64.wrap (F.b1 + (6400000 : Int))))
        else
          bif decide ((0 : Int) < F.n2) then
            bif F.cf then
              bif decide (IntKind.i64.wrap (F.b2 + (16400000 : Int)) < z) then kk (SV.bool false)
              else kk (SV.bool (z == IntKind.i64.wrap (F.b1 + (6400000 : Int))))
            else kk (SV.bool (z == IntKind.i64.wrap (F.b1 + (6400000 : Int))))
          else kk (SV.bool (z == IntKind.i64.wrap (F.b1 + (6400000 : Int))))
    else
      bif decide ((0 : Int) < F.n1) then
        bif decide (IntKind.i64.wrap (F.b1 + (6400000 : Int)) < z) then kk (SV.bool false)
        else
          bif decide ((0 : Int) < F.n2) then
            bif F.cf then
              bif decide (IntKind.i64.wrap (F.b2 + (16400000 : Int)) < z) then kk (SV.bool false)
              else kk (SV.bool (z == IntKind.i64.wrap (F.b1 + (6400000 : Int))))
            else kk (SV.bool (z == IntKind.i64.wrap (F.b1 + (6400000 : Int))))
          else kk (SV.bool (z == IntKind.i64.wrap (F.b1 + (6400000 : Int))))
      else
        bif decide ((0 : Int) < F.n2) then
          bif F.cf then
            bif decide (IntKind.i64.wrap (F.b2 + (16400000 : Int)) < z) then kk (SV.bool false)
            else kk (SV.bool (z == IntKind.i64.wrap (F.b1 + (6400000 : Int))))
          else kk (SV.bool (z == IntKind.i64.wrap (F.b1 + (6400000 : Int))))
        else kk (SV.bool (z == IntKind.i64.wrap (F.b1 + (6400000 : Int))))) := by kernel_rfl
theorem t20_2 (F : Fc) (x z : Int) (kk : SV → Prop) : evalF C0 64 Try.f20 [fc F, .agg [.int .i64 x, .int .i64 2, .int .i64 z]] [] (fun v _ => kk v) = (
    bif decide ((0 : Int) < F.n0) then
      bif decide (IntKind.i64.wrap (F.b0 + (6400000 : Int)) < z) then kk (SV.bool false)
      else
        bif decide ((0 : Int) < F.n1) then
          bif decide (IntKind.i64.wrap (F.b1 + (6400000 : Int)) < z) then kk (SV.bool false)
          else
            bif decide ((0 : Int) < F.n2) then
              bif F.cf then
                bif decide (IntKind.i64.wrap (F.b2 + (16400000 : Int)) < z) then kk (SV.bool false)
                else kk (SV.bool (z == IntKind.i64.wrap (F.b2 + (16400000 : Int))))
              else kk (SV.bool (z == IntKind.i64.wrap (F.b2 + (16400000 : Int))))
            else kk (SV.bool (z == IntKind.i64.wrap (F.b2 + (16400000 : Int))))
        else
          bif decide ((0 : Int) < F.n2) then
            bif F.cf then
              bif decide (IntKind.i64.wrap (F.b2 + (16400000 : Int)) < z) then kk (SV.bool false)
              else kk (SV.bool (z == IntKind.i64.wrap (F.b2 + (16400000 : Int))))
            else kk (SV.bool (z == IntKind.i64.wrap (F.b2 + (16400000 : Int))))
          else kk (SV.bool (z == IntKind.i64.wrap (F.b2 + (16400000 : Int))))
    else
      bif decide ((0 : Int) < F.n1) then
        bif decide (IntKind.i64.wrap (F.b1 + (6400000 : Int)) < z) then kk (SV.bool false)
        else
          bif decide ((0 : Int) < F.n2) then
            bif F.cf then
              bif decide (IntKind.i64.wrap (F.b2 + (16400000 : Int)) < z) then kk (SV.bool false)
              else kk (SV.bool (z == IntKind.i64.wrap (F.b2 + (16400000 : Int))))
            else kk (SV.bool (z == IntKind.i64.wrap (F.b2 + (16400000 : Int))))
          else kk (SV.bool (z == IntKind.i64.wrap (F.b2 + (16400000 : Int))))
      else
        bif decide ((0 : Int) < F.n2) then
          bif F.cf then
            bif decide (IntKind.i64.wrap (F.b2 + (16400000 : Int)) < z) then kk (SV.bool false)
            else kk (SV.bool (z == IntKind.i64.wrap (F.b2 + (16400000 : Int))))
          else kk (SV.bool (z == IntKind.i64.wrap (F.b2 + (16400000 : Int))))
        else kk (SV.bool (z == IntKind.i64.wrap (F.b2 + (16400000 : Int))))) := by kernel_rfl
theorem p6a (x0 x1 x2 : Rw) (b w : Int) (Kt : KT) : evalC C14 0  0 (.seq c6_0 (.seq c6_1 (.seq c6_2 (.seq c6_3 (.seq c6_4 .skip))))) (enterS 184 [.agg (rw3 x0 x1 x2), .int .i64 b, .int .i64 w]) [] ( obsN L6 M6 Kt) = (
    ∀ (F : Fc),
      F = madeF (Rw.mk x0.b x0.l x0.a x0.m) (Rw.mk x1.b x1.l x1.a x1.m) (Rw.mk x2.b x2.l x2.a x2.m) b w →
        ∀ (x : D3),
          x = dueC (Fc.mk F.k0 F.a0 F.b0 F.n0 F.k1 F.a1 F.b1 F.n1 F.k2 F.a2 F.b2 F.n2 F.cf F.lm F.pr F.now) →
            Kt Ex.normal (184 : Nat)
              [SV.bool false, SV.ptr (1 : Nat) (0 : Nat) (16 : Nat) (0 : Nat),
                SV.ptr (2 : Nat) (0 : Nat) (3 : Nat) (0 : Nat), SV.int IntKind.i64 (-1 : Int), SV.bool false,
                SV.int IntKind.i64 (0 : Int), SV.top]
              [BO.rows (12 : Nat) (1 : Nat) true (30 : Nat)
                  [[SV.int IntKind.i64 x0.b, SV.int IntKind.i64 x0.l, SV.int IntKind.i64 x0.a, SV.int IntKind.i64 x0.m,
                      SV.int IntKind.i64 x1.b, SV.int IntKind.i64 x1.l, SV.int IntKind.i64 x1.a, SV.int IntKind.i64 x1.m,
                      SV.int IntKind.i64 x2.b, SV.int IntKind.i64 x2.l, SV.int IntKind.i64 x2.a, SV.int IntKind.i64 x2.m]],
                BO.rows (16 : Nat) (1 : Nat) true (28 : Nat)
                  [[SV.bool F.k0, SV.int IntKind.i64 F.a0, SV.int IntKind.i64 F.b0, SV.int IntKind.i64 F.n0, SV.bool F.k1,
                      SV.int IntKind.i64 F.a1, SV.int IntKind.i64 F.b1, SV.int IntKind.i64 F.n1, SV.bool F.k2,
                      SV.int IntKind.i64 F.a2, SV.int IntKind.i64 F.b2, SV.int IntKind.i64 F.n2, SV.bool F.cf, SV.bool F.lm,
                      SV.bool F.pr, SV.int IntKind.i64 F.now]],
                BO.rows (3 : Nat) (1 : Nat) true (32 : Nat)
                  [[SV.int IntKind.i64 x.fst, SV.int IntKind.i64 x.snd.fst, SV.int IntKind.i64 x.snd.snd]]]) := by kernel_rfl
theorem p6_5 (x0 x1 x2 : Rw) (F : Fc) (d : D3) (l : Int) (p : Bool) (m : Int) (Kt : KT) : evalC C14 0  0 c6_5 (tplF 184 L6 (v6 (.int .i64 l) (.bool p) (.int .i64 m) .top)) ((h6 x0 x1 x2 F d).map mkB) ( obsN L6 M6 Kt) = (
    Kt Ex.normal (184 : Nat)
      [SV.bool false, SV.ptr (1 : Nat) (0 : Nat) (16 : Nat) (0 : Nat), SV.ptr (2 : Nat) (0 : Nat) (3 : Nat) (0 : Nat),
        SV.int IntKind.i64 l, SV.bool p, SV.int IntKind.i64 m, SV.int IntKind.i64 (0 : Int)]
      [BO.rows (12 : Nat) (1 : Nat) true (30 : Nat)
          [[SV.int IntKind.i64 x0.b, SV.int IntKind.i64 x0.l, SV.int IntKind.i64 x0.a, SV.int IntKind.i64 x0.m,
              SV.int IntKind.i64 x1.b, SV.int IntKind.i64 x1.l, SV.int IntKind.i64 x1.a, SV.int IntKind.i64 x1.m,
              SV.int IntKind.i64 x2.b, SV.int IntKind.i64 x2.l, SV.int IntKind.i64 x2.a, SV.int IntKind.i64 x2.m]],
        BO.rows (16 : Nat) (1 : Nat) true (28 : Nat)
          [[SV.bool F.k0, SV.int IntKind.i64 F.a0, SV.int IntKind.i64 F.b0, SV.int IntKind.i64 F.n0, SV.bool F.k1,
              SV.int IntKind.i64 F.a1, SV.int IntKind.i64 F.b1, SV.int IntKind.i64 F.n1, SV.bool F.k2,
              SV.int IntKind.i64 F.a2, SV.int IntKind.i64 F.b2, SV.int IntKind.i64 F.n2, SV.bool F.cf, SV.bool F.lm,
              SV.bool F.pr, SV.int IntKind.i64 F.now]],
        BO.rows (3 : Nat) (1 : Nat) true (32 : Nat)
          [[SV.int IntKind.i64 d.fst, SV.int IntKind.i64 d.snd.fst, SV.int IntKind.i64 d.snd.snd]]]) := by kernel_rfl
theorem p6_60 (x0 x1 x2 : Rw) (F : Fc) (d : D3) (l : Int) (p : Bool) (m : Int) (Kt : KT) : evalC C14 0  0 c6_6 (tplF 184 L6 (v6 (.int .i64 l) (.bool p) (.int .i64 m) (.int .i64 0))) ((h6 x0 x1 x2 F d).map mkB) ( obsN L6 M6 Kt) = (
    bif decide ((0 : Int) ≤ F.a0) then
      bif decide (l < (0 : Int)) then
        bif p then
          Kt Ex.normal (184 : Nat)
            [SV.bool false, SV.ptr (1 : Nat) (0 : Nat) (16 : Nat) (0 : Nat), SV.ptr (2 : Nat) (0 : Nat) (3 : Nat) (0 : Nat),
              SV.int IntKind.i64 F.a0, SV.bool true, SV.int IntKind.i64 (IntKind.i64.wrap (m + F.n0)),
              SV.int IntKind.i64 (1 : Int)]
            [BO.rows (12 : Nat) (1 : Nat) true (30 : Nat)
                [[SV.int IntKind.i64 x0.b, SV.int IntKind.i64 x0.l, SV.int IntKind.i64 x0.a, SV.int IntKind.i64 x0.m,
                    SV.int IntKind.i64 x1.b, SV.int IntKind.i64 x1.l, SV.int IntKind.i64 x1.a, SV.int IntKind.i64 x1.m,
                    SV.int IntKind.i64 x2.b, SV.int IntKind.i64 x2.l, SV.int IntKind.i64 x2.a, SV.int IntKind.i64 x2.m]],
              BO.rows (16 : Nat) (1 : Nat) true (28 : Nat)
                [[SV.bool F.k0, SV.int IntKind.i64 F.a0, SV.int IntKind.i64 F.b0, SV.int IntKind.i64 F.n0, SV.bool F.k1,
                    SV.int IntKind.i64 F.a1, SV.int IntKind.i64 F.b1, SV.int IntKind.i64 F.n1, SV.bool F.k2,
                    SV.int IntKind.i64 F.a2, SV.int IntKind.i64 F.b2, SV.int IntKind.i64 F.n2, SV.bool F.cf, SV.bool F.lm,
                    SV.bool F.pr, SV.int IntKind.i64 F.now]],
              BO.rows (3 : Nat) (1 : Nat) true (32 : Nat)
                [[SV.int IntKind.i64 d.fst, SV.int IntKind.i64 d.snd.fst, SV.int IntKind.i64 d.snd.snd]]]
        else
          bif decide ((0 : Int) < F.n0) then
            Kt Ex.normal (184 : Nat)
              [SV.bool false, SV.ptr (1 : Nat) (0 : Nat) (16 : Nat) (0 : Nat),
                SV.ptr (2 : Nat) (0 : Nat) (3 : Nat) (0 : Nat), SV.int IntKind.i64 F.a0, SV.bool true,
                SV.int IntKind.i64 (IntKind.i64.wrap (m + F.n0)), SV.int IntKind.i64 (1 : Int)]
              [BO.rows (12 : Nat) (1 : Nat) true (30 : Nat)
                  [[SV.int IntKind.i64 x0.b, SV.int IntKind.i64 x0.l, SV.int IntKind.i64 x0.a, SV.int IntKind.i64 x0.m,
                      SV.int IntKind.i64 x1.b, SV.int IntKind.i64 x1.l, SV.int IntKind.i64 x1.a, SV.int IntKind.i64 x1.m,
                      SV.int IntKind.i64 x2.b, SV.int IntKind.i64 x2.l, SV.int IntKind.i64 x2.a, SV.int IntKind.i64 x2.m]],
                BO.rows (16 : Nat) (1 : Nat) true (28 : Nat)
                  [[SV.bool F.k0, SV.int IntKind.i64 F.a0, SV.int IntKind.i64 F.b0, SV.int IntKind.i64 F.n0, SV.bool F.k1,
                      SV.int IntKind.i64 F.a1, SV.int IntKind.i64 F.b1, SV.int IntKind.i64 F.n1, SV.bool F.k2,
                      SV.int IntKind.i64 F.a2, SV.int IntKind.i64 F.b2, SV.int IntKind.i64 F.n2, SV.bool F.cf, SV.bool F.lm,
                      SV.bool F.pr, SV.int IntKind.i64 F.now]],
                BO.rows (3 : Nat) (1 : Nat) true (32 : Nat)
                  [[SV.int IntKind.i64 d.fst, SV.int IntKind.i64 d.snd.fst, SV.int IntKind.i64 d.snd.snd]]]
          else
            Kt Ex.normal (184 : Nat)
              [SV.bool false, SV.ptr (1 : Nat) (0 : Nat) (16 : Nat) (0 : Nat),
                SV.ptr (2 : Nat) (0 : Nat) (3 : Nat) (0 : Nat), SV.int IntKind.i64 F.a0, SV.bool false,
                SV.int IntKind.i64 (IntKind.i64.wrap (m + F.n0)), SV.int IntKind.i64 (1 : Int)]
              [BO.rows (12 : Nat) (1 : Nat) true (30 : Nat)
                  [[SV.int IntKind.i64 x0.b, SV.int IntKind.i64 x0.l, SV.int IntKind.i64 x0.a, SV.int IntKind.i64 x0.m,
                      SV.int IntKind.i64 x1.b, SV.int IntKind.i64 x1.l, SV.int IntKind.i64 x1.a, SV.int IntKind.i64 x1.m,
                      SV.int IntKind.i64 x2.b, SV.int IntKind.i64 x2.l, SV.int IntKind.i64 x2.a, SV.int IntKind.i64 x2.m]],
                BO.rows (16 : Nat) (1 : Nat) true (28 : Nat)
                  [[SV.bool F.k0, SV.int IntKind.i64 F.a0, SV.int IntKind.i64 F.b0, SV.int IntKind.i64 F.n0, SV.bool F.k1,
                      SV.int IntKind.i64 F.a1, SV.int IntKind.i64 F.b1, SV.int IntKind.i64 F.n1, SV.bool F.k2,
                      SV.int IntKind.i64 F.a2, SV.int IntKind.i64 F.b2, SV.int IntKind.i64 F.n2, SV.bool F.cf, SV.bool F.lm,
                      SV.bool F.pr, SV.int IntKind.i64 F.now]],
                BO.rows (3 : Nat) (1 : Nat) true (32 : Nat)
                  [[SV.int IntKind.i64 d.fst, SV.int IntKind.i64 d.snd.fst, SV.int IntKind.i64 d.snd.snd]]]
      else
        bif decide (F.a0 < l) then
          bif p then
            Kt Ex.normal (184 : Nat)
              [SV.bool false, SV.ptr (1 : Nat) (0 : Nat) (16 : Nat) (0 : Nat),
                SV.ptr (2 : Nat) (0 : Nat) (3 : Nat) (0 : Nat), SV.int IntKind.i64 F.a0, SV.bool true,
                SV.int IntKind.i64 (IntKind.i64.wrap (m + F.n0)), SV.int IntKind.i64 (1 : Int)]
              [BO.rows (12 : Nat) (1 : Nat) true (30 : Nat)
                  [[SV.int IntKind.i64 x0.b, SV.int IntKind.i64 x0.l, SV.int IntKind.i64 x0.a, SV.int IntKind.i64 x0.m,
                      SV.int IntKind.i64 x1.b, SV.int IntKind.i64 x1.l, SV.int IntKind.i64 x1.a, SV.int IntKind.i64 x1.m,
                      SV.int IntKind.i64 x2.b, SV.int IntKind.i64 x2.l, SV.int IntKind.i64 x2.a, SV.int IntKind.i64 x2.m]],
                BO.rows (16 : Nat) (1 : Nat) true (28 : Nat)
                  [[SV.bool F.k0, SV.int IntKind.i64 F.a0, SV.int IntKind.i64 F.b0, SV.int IntKind.i64 F.n0, SV.bool F.k1,
                      SV.int IntKind.i64 F.a1, SV.int IntKind.i64 F.b1, SV.int IntKind.i64 F.n1, SV.bool F.k2,
                      SV.int IntKind.i64 F.a2, SV.int IntKind.i64 F.b2, SV.int IntKind.i64 F.n2, SV.bool F.cf, SV.bool F.lm,
                      SV.bool F.pr, SV.int IntKind.i64 F.now]],
                BO.rows (3 : Nat) (1 : Nat) true (32 : Nat)
                  [[SV.int IntKind.i64 d.fst, SV.int IntKind.i64 d.snd.fst, SV.int IntKind.i64 d.snd.snd]]]
          else
            bif decide ((0 : Int) < F.n0) then
              Kt Ex.normal (184 : Nat)
                [SV.bool false, SV.ptr (1 : Nat) (0 : Nat) (16 : Nat) (0 : Nat),
                  SV.ptr (2 : Nat) (0 : Nat) (3 : Nat) (0 : Nat), SV.int IntKind.i64 F.a0, SV.bool true,
                  SV.int IntKind.i64 (IntKind.i64.wrap (m + F.n0)), SV.int IntKind.i64 (1 : Int)]
                [BO.rows (12 : Nat) (1 : Nat) true (30 : Nat)
                    [[SV.int IntKind.i64 x0.b, SV.int IntKind.i64 x0.l, SV.int IntKind.i64 x0.a, SV.int IntKind.i64 x0.m,
                        SV.int IntKind.i64 x1.b, SV.int IntKind.i64 x1.l, SV.int IntKind.i64 x1.a, SV.int IntKind.i64 x1.m,
                        SV.int IntKind.i64 x2.b, SV.int IntKind.i64 x2.l, SV.int IntKind.i64 x2.a,
                        SV.int IntKind.i64 x2.m]],
                  BO.rows (16 : Nat) (1 : Nat) true (28 : Nat)
                    [[SV.bool F.k0, SV.int IntKind.i64 F.a0, SV.int IntKind.i64 F.b0, SV.int IntKind.i64 F.n0, SV.bool F.k1,
                        SV.int IntKind.i64 F.a1, SV.int IntKind.i64 F.b1, SV.int IntKind.i64 F.n1, SV.bool F.k2,
                        SV.int IntKind.i64 F.a2, SV.int IntKind.i64 F.b2, SV.int IntKind.i64 F.n2, SV.bool F.cf,
                        SV.bool F.lm, SV.bool F.pr, SV.int IntKind.i64 F.now]],
                  BO.rows (3 : Nat) (1 : Nat) true (32 : Nat)
                    [[SV.int IntKind.i64 d.fst, SV.int IntKind.i64 d.snd.fst, SV.int IntKind.i64 d.snd.snd]]]
            else
              Kt Ex.normal (184 : Nat)
                [SV.bool false, SV.ptr (1 : Nat) (0 : Nat) (16 : Nat) (0 : Nat),
                  SV.ptr (2 : Nat) (0 : Nat) (3 : Nat) (0 : Nat), SV.int IntKind.i64 F.a0, SV.bool false,
                  SV.int IntKind.i64 (IntKind.i64.wrap (m + F.n0)), SV.int IntKind.i64 (1 : Int)]
                [BO.rows (12 : Nat) (1 : Nat) true (30 : Nat)
                    [[SV.int IntKind.i64 x0.b, SV.int IntKind.i64 x0.l, SV.int IntKind.i64 x0.a, SV.int IntKind.i64 x0.m,
                        SV.int IntKind.i64 x1.b, SV.int IntKind.i64 x1.l, SV.int IntKind.i64 x1.a, SV.int IntKind.i64 x1.m,
                        SV.int IntKind.i64 x2.b, SV.int IntKind.i64 x2.l, SV.int IntKind.i64 x2.a,
                        SV.int IntKind.i64 x2.m]],
                  BO.rows (16 : Nat) (1 : Nat) true (28 : Nat)
                    [[SV.bool F.k0, SV.int IntKind.i64 F.a0, SV.int IntKind.i64 F.b0, SV.int IntKind.i64 F.n0, SV.bool F.k1,
                        SV.int IntKind.i64 F.a1, SV.int IntKind.i64 F.b1, SV.int IntKind.i64 F.n1, SV.bool F.k2,
                        SV.int IntKind.i64 F.a2, SV.int IntKind.i64 F.b2, SV.int IntKind.i64 F.n2, SV.bool F.cf,
                        SV.bool F.lm, SV.bool F.pr, SV.int IntKind.i64 F.now]],
                  BO.rows (3 : Nat) (1 : Nat) true (32 : Nat)
                    [[SV.int IntKind.i64 d.fst, SV.int IntKind.i64 d.snd.fst, SV.int IntKind.i64 d.snd.snd]]]
        else
          bif p then
            Kt Ex.normal (184 : Nat)
              [SV.bool false, SV.ptr (1 : Nat) (0 : Nat) (16 : Nat) (0 : Nat),
                SV.ptr (2 : Nat) (0 : Nat) (3 : Nat) (0 : Nat), SV.int IntKind.i64 l, SV.bool true,
                SV.int IntKind.i64 (IntKind.i64.wrap (m + F.n0)), SV.int IntKind.i64 (1 : Int)]
              [BO.rows (12 : Nat) (1 : Nat) true (30 : Nat)
                  [[SV.int IntKind.i64 x0.b, SV.int IntKind.i64 x0.l, SV.int IntKind.i64 x0.a, SV.int IntKind.i64 x0.m,
                      SV.int IntKind.i64 x1.b, SV.int IntKind.i64 x1.l, SV.int IntKind.i64 x1.a, SV.int IntKind.i64 x1.m,
                      SV.int IntKind.i64 x2.b, SV.int IntKind.i64 x2.l, SV.int IntKind.i64 x2.a, SV.int IntKind.i64 x2.m]],
                BO.rows (16 : Nat) (1 : Nat) true (28 : Nat)
                  [[SV.bool F.k0, SV.int IntKind.i64 F.a0, SV.int IntKind.i64 F.b0, SV.int IntKind.i64 F.n0, SV.bool F.k1,
                      SV.int IntKind.i64 F.a1, SV.int IntKind.i64 F.b1, SV.int IntKind.i64 F.n1, SV.bool F.k2,
                      SV.int IntKind.i64 F.a2, SV.int IntKind.i64 F.b2, SV.int IntKind.i64 F.n2, SV.bool F.cf, SV.bool F.lm,
                      SV.bool F.pr, SV.int IntKind.i64 F.now]],
                BO.rows (3 : Nat) (1 : Nat) true (32 : Nat)
                  [[SV.int IntKind.i64 d.fst, SV.int IntKind.i64 d.snd.fst, SV.int IntKind.i64 d.snd.snd]]]
          else
            bif decide ((0 : Int) < F.n0) then
              Kt Ex.normal (184 : Nat)
                [SV.bool false, SV.ptr (1 : Nat) (0 : Nat) (16 : Nat) (0 : Nat),
                  SV.ptr (2 : Nat) (0 : Nat) (3 : Nat) (0 : Nat), SV.int IntKind.i64 l, SV.bool true,
                  SV.int IntKind.i64 (IntKind.i64.wrap (m + F.n0)), SV.int IntKind.i64 (1 : Int)]
                [BO.rows (12 : Nat) (1 : Nat) true (30 : Nat)
                    [[SV.int IntKind.i64 x0.b, SV.int IntKind.i64 x0.l, SV.int IntKind.i64 x0.a, SV.int IntKind.i64 x0.m,
                        SV.int IntKind.i64 x1.b, SV.int IntKind.i64 x1.l, SV.int IntKind.i64 x1.a, SV.int IntKind.i64 x1.m,
                        SV.int IntKind.i64 x2.b, SV.int IntKind.i64 x2.l, SV.int IntKind.i64 x2.a,
                        SV.int IntKind.i64 x2.m]],
                  BO.rows (16 : Nat) (1 : Nat) true (28 : Nat)
                    [[SV.bool F.k0, SV.int IntKind.i64 F.a0, SV.int IntKind.i64 F.b0, SV.int IntKind.i64 F.n0, SV.bool F.k1,
                        SV.int IntKind.i64 F.a1, SV.int IntKind.i64 F.b1, SV.int IntKind.i64 F.n1, SV.bool F.k2,
                        SV.int IntKind.i64 F.a2, SV.int IntKind.i64 F.b2, SV.int IntKind.i64 F.n2, SV.bool F.cf,
                        SV.bool F.lm, SV.bool F.pr, SV.int IntKind.i64 F.now]],
                  BO.rows (3 : Nat) (1 : Nat) true (32 : Nat)
                    [[SV.int IntKind.i64 d.fst, SV.int IntKind.i64 d.snd.fst, SV.int IntKind.i64 d.snd.snd]]]
            else
              Kt Ex.normal (184 : Nat)
                [SV.bool false, SV.ptr (1 : Nat) (0 : Nat) (16 : Nat) (0 : Nat),
                  SV.ptr (2 : Nat) (0 : Nat) (3 : Nat) (0 : Nat), SV.int IntKind.i64 l, SV.bool false,
                  SV.int IntKind.i64 (IntKind.i64.wrap (m + F.n0)), SV.int IntKind.i64 (1 : Int)]
                [BO.rows (12 : Nat) (1 : Nat) true (30 : Nat)
                    [[SV.int IntKind.i64 x0.b, SV.int IntKind.i64 x0.l, SV.int IntKind.i64 x0.a, SV.int IntKind.i64 x0.m,
                        SV.int IntKind.i64 x1.b, SV.int IntKind.i64 x1.l, SV.int IntKind.i64 x1.a, SV.int IntKind.i64 x1.m,
                        SV.int IntKind.i64 x2.b, SV.int IntKind.i64 x2.l, SV.int IntKind.i64 x2.a,
                        SV.int IntKind.i64 x2.m]],
                  BO.rows (16 : Nat) (1 : Nat) true (28 : Nat)
                    [[SV.bool F.k0, SV.int IntKind.i64 F.a0, SV.int IntKind.i64 F.b0, SV.int IntKind.i64 F.n0, SV.bool F.k1,
                        SV.int IntKind.i64 F.a1, SV.int IntKind.i64 F.b1, SV.int IntKind.i64 F.n1, SV.bool F.k2,
                        SV.int IntKind.i64 F.a2, SV.int IntKind.i64 F.b2, SV.int IntKind.i64 F.n2, SV.bool F.cf,
                        SV.bool F.lm, SV.bool F.pr, SV.int IntKind.i64 F.now]],
                  BO.rows (3 : Nat) (1 : Nat) true (32 : Nat)
                    [[SV.int IntKind.i64 d.fst, SV.int IntKind.i64 d.snd.fst, SV.int IntKind.i64 d.snd.snd]]]
    else
      bif p then
        Kt Ex.normal (184 : Nat)
          [SV.bool false, SV.ptr (1 : Nat) (0 : Nat) (16 : Nat) (0 : Nat), SV.ptr (2 : Nat) (0 : Nat) (3 : Nat) (0 : Nat),
            SV.int IntKind.i64 l, SV.bool true, SV.int IntKind.i64 (IntKind.i64.wrap (m + F.n0)),
            SV.int IntKind.i64 (1 : Int)]
          [BO.rows (12 : Nat) (1 : Nat) true (30 : Nat)
              [[SV.int IntKind.i64 x0.b, SV.int IntKind.i64 x0.l, SV.int IntKind.i64 x0.a, SV.int IntKind.i64 x0.m,
                  SV.int IntKind.i64 x1.b, SV.int IntKind.i64 x1.l, SV.int IntKind.i64 x1.a, SV.int IntKind.i64 x1.m,
                  SV.int IntKind.i64 x2.b, SV.int IntKind.i64 x2.l, SV.int IntKind.i64 x2.a, SV.int IntKind.i64 x2.m]],
            BO.rows (16 : Nat) (1 : Nat) true (28 : Nat)
              [[SV.bool F.k0, SV.int IntKind.i64 F.a0, SV.int IntKind.i64 F.b0, SV.int IntKind.i64 F.n0, SV.bool F.k1,
                  SV.int IntKind.i64 F.a1, SV.int IntKind.i64 F.b1, SV.int IntKind.i64 F.n1, SV.bool F.k2,
                  SV.int IntKind.i64 F.a2, SV.int IntKind.i64 F.b2, SV.int IntKind.i64 F.n2, SV.bool F.cf, SV.bool F.lm,
                  SV.bool F.pr, SV.int IntKind.i64 F.now]],
            BO.rows (3 : Nat) (1 : Nat) true (32 : Nat)
              [[SV.int IntKind.i64 d.fst, SV.int IntKind.i64 d.snd.fst, SV.int IntKind.i64 d.snd.snd]]]
      else
        bif decide ((0 : Int) < F.n0) then
          Kt Ex.normal (184 : Nat)
            [SV.bool false, SV.ptr (1 : Nat) (0 : Nat) (16 : Nat) (0 : Nat), SV.ptr (2 : Nat) (0 : Nat) (3 : Nat) (0 : Nat),
              SV.int IntKind.i64 l, SV.bool true, SV.int IntKind.i64 (IntKind.i64.wrap (m + F.n0)),
              SV.int IntKind.i64 (1 : Int)]
            [BO.rows (12 : Nat) (1 : Nat) true (30 : Nat)
                [[SV.int IntKind.i64 x0.b, SV.int IntKind.i64 x0.l, SV.int IntKind.i64 x0.a, SV.int IntKind.i64 x0.m,
                    SV.int IntKind.i64 x1.b, SV.int IntKind.i64 x1.l, SV.int IntKind.i64 x1.a, SV.int IntKind.i64 x1.m,
                    SV.int IntKind.i64 x2.b, SV.int IntKind.i64 x2.l, SV.int IntKind.i64 x2.a, SV.int IntKind.i64 x2.m]],
              BO.rows (16 : Nat) (1 : Nat) true (28 : Nat)
                [[SV.bool F.k0, SV.int IntKind.i64 F.a0, SV.int IntKind.i64 F.b0, SV.int IntKind.i64 F.n0, SV.bool F.k1,
                    SV.int IntKind.i64 F.a1, SV.int IntKind.i64 F.b1, SV.int IntKind.i64 F.n1, SV.bool F.k2,
                    SV.int IntKind.i64 F.a2, SV.int IntKind.i64 F.b2, SV.int IntKind.i64 F.n2, SV.bool F.cf, SV.bool F.lm,
                    SV.bool F.pr, SV.int IntKind.i64 F.now]],
              BO.rows (3 : Nat) (1 : Nat) true (32 : Nat)
                [[SV.int IntKind.i64 d.fst, SV.int IntKind.i64 d.snd.fst, SV.int IntKind.i64 d.snd.snd]]]
        else
          Kt Ex.normal (184 : Nat)
            [SV.bool false, SV.ptr (1 : Nat) (0 : Nat) (16 : Nat) (0 : Nat), SV.ptr (2 : Nat) (0 : Nat) (3 : Nat) (0 : Nat),
              SV.int IntKind.i64 l, SV.bool false, SV.int IntKind.i64 (IntKind.i64.wrap (m + F.n0)),
              SV.int IntKind.i64 (1 : Int)]
            [BO.rows (12 : Nat) (1 : Nat) true (30 : Nat)
                [[SV.int IntKind.i64 x0.b, SV.int IntKind.i64 x0.l, SV.int IntKind.i64 x0.a, SV.int IntKind.i64 x0.m,
                    SV.int IntKind.i64 x1.b, SV.int IntKind.i64 x1.l, SV.int IntKind.i64 x1.a, SV.int IntKind.i64 x1.m,
                    SV.int IntKind.i64 x2.b, SV.int IntKind.i64 x2.l, SV.int IntKind.i64 x2.a, SV.int IntKind.i64 x2.m]],
              BO.rows (16 : Nat) (1 : Nat) true (28 : Nat)
                [[SV.bool F.k0, SV.int IntKind.i64 F.a0, SV.int IntKind.i64 F.b0, SV.int IntKind.i64 F.n0, SV.bool F.k1,
                    SV.int IntKind.i64 F.a1, SV.int IntKind.i64 F.b1, SV.int IntKind.i64 F.n1, SV.bool F.k2,
                    SV.int IntKind.i64 F.a2, SV.int IntKind.i64 F.b2, SV.int IntKind.i64 F.n2, SV.bool F.cf, SV.bool F.lm,
                    SV.bool F.pr, SV.int IntKind.i64 F.now]],
              BO.rows (3 : Nat) (1 : Nat) true (32 : Nat)
                [[SV.int IntKind.i64 d.fst, SV.int IntKind.i64 d.snd.fst, SV.int IntKind.i64 d.snd.snd]]]) := by kernel_rfl
theorem p6_61 (x0 x1 x2 : Rw) (F : Fc) (d : D3) (l : Int) (p : Bool) (m : Int) (Kt : KT) : evalC C14 0  0 c6_6 (tplF 184 L6 (v6 (.int .i64 l) (.bool p) (.int .i64 m) (.int .i64 1))) ((h6 x0 x1 x2 F d).map mkB) ( obsN L6 M6 Kt) = (
    bif decide ((0 : Int) ≤ F.a1) then
      bif decide (l < (0 : Int)) then
        bif p then
          Kt Ex.normal (184 : Nat)
            [SV.bool false, SV.ptr (1 : Nat) (0 : Nat) (16 : Nat) (0 : Nat), SV.ptr (2 : Nat) (0 : Nat) (3 : Nat) (0 : Nat),
              SV.int IntKind.i64 F.a1, SV.bool true, SV.int IntKind.i64 (IntKind.i64.wrap (m + F.n1)),
              SV.int IntKind.i64 (2 : Int)]
            [BO.rows (12 : Nat) (1 : Nat) true (30 : Nat)
                [[SV.int IntKind.i64 x0.b, SV.int IntKind.i64 x0.l, SV.int IntKind.i64 x0.a, SV.int IntKind.i64 x0.m,
                    SV.int IntKind.i64 x1.b, SV.int IntKind.i64 x1.l, SV.int IntKind.i64 x1.a, SV.int IntKind.i64 x1.m,
                    SV.int IntKind.i64 x2.b, SV.int IntKind.i64 x2.l, SV.int IntKind.i64 x2.a, SV.int IntKind.i64 x2.m]],
              BO.rows (16 : Nat) (1 : Nat) true (28 : Nat)
                [[SV.bool F.k0, SV.int IntKind.i64 F.a0, SV.int IntKind.i64 F.b0, SV.int IntKind.i64 F.n0, SV.bool F.k1,
                    SV.int IntKind.i64 F.a1, SV.int IntKind.i64 F.b1, SV.int IntKind.i64 F.n1, SV.bool F.k2,
                    SV.int IntKind.i64 F.a2, SV.int IntKind.i64 F.b2, SV.int IntKind.i64 F.n2, SV.bool F.cf, SV.bool F.lm,
                    SV.bool F.pr, SV.int IntKind.i64 F.now]],
              BO.rows (3 : Nat) (1 : Nat) true (32 : Nat)
                [[SV.int IntKind.i64 d.fst, SV.int IntKind.i64 d.snd.fst, SV.int IntKind.i64 d.snd.snd]]]
        else
          bif decide ((0 : Int) < F.n1) then
            Kt Ex.normal (184 : Nat)
              [SV.bool false, SV.ptr (1 : Nat) (0 : Nat) (16 : Nat) (0 : Nat),
                SV.ptr (2 : Nat) (0 : Nat) (3 : Nat) (0 : Nat), SV.int IntKind.i64 F.a1, SV.bool true,
                SV.int IntKind.i64 (IntKind.i64.wrap (m + F.n1)), SV.int IntKind.i64 (2 : Int)]
              [BO.rows (12 : Nat) (1 : Nat) true (30 : Nat)
                  [[SV.int IntKind.i64 x0.b, SV.int IntKind.i64 x0.l, SV.int IntKind.i64 x0.a, SV.int IntKind.i64 x0.m,
                      SV.int IntKind.i64 x1.b, SV.int IntKind.i64 x1.l, SV.int IntKind.i64 x1.a, SV.int IntKind.i64 x1.m,
                      SV.int IntKind.i64 x2.b, SV.int IntKind.i64 x2.l, SV.int IntKind.i64 x2.a, SV.int IntKind.i64 x2.m]],
                BO.rows (16 : Nat) (1 : Nat) true (28 : Nat)
                  [[SV.bool F.k0, SV.int IntKind.i64 F.a0, SV.int IntKind.i64 F.b0, SV.int IntKind.i64 F.n0, SV.bool F.k1,
                      SV.int IntKind.i64 F.a1, SV.int IntKind.i64 F.b1, SV.int IntKind.i64 F.n1, SV.bool F.k2,
                      SV.int IntKind.i64 F.a2, SV.int IntKind.i64 F.b2, SV.int IntKind.i64 F.n2, SV.bool F.cf, SV.bool F.lm,
                      SV.bool F.pr, SV.int IntKind.i64 F.now]],
                BO.rows (3 : Nat) (1 : Nat) true (32 : Nat)
                  [[SV.int IntKind.i64 d.fst, SV.int IntKind.i64 d.snd.fst, SV.int IntKind.i64 d.snd.snd]]]
          else
            Kt Ex.normal (184 : Nat)
              [SV.bool false, SV.ptr (1 : Nat) (0 : Nat) (16 : Nat) (0 : Nat),
                SV.ptr (2 : Nat) (0 : Nat) (3 : Nat) (0 : Nat), SV.int IntKind.i64 F.a1, SV.bool false,
                SV.int IntKind.i64 (IntKind.i64.wrap (m + F.n1)), SV.int IntKind.i64 (2 : Int)]
              [BO.rows (12 : Nat) (1 : Nat) true (30 : Nat)
                  [[SV.int IntKind.i64 x0.b, SV.int IntKind.i64 x0.l, SV.int IntKind.i64 x0.a, SV.int IntKind.i64 x0.m,
                      SV.int IntKind.i64 x1.b, SV.int IntKind.i64 x1.l, SV.int IntKind.i64 x1.a, SV.int IntKind.i64 x1.m,
                      SV.int IntKind.i64 x2.b, SV.int IntKind.i64 x2.l, SV.int IntKind.i64 x2.a, SV.int IntKind.i64 x2.m]],
                BO.rows (16 : Nat) (1 : Nat) true (28 : Nat)
                  [[SV.bool F.k0, SV.int IntKind.i64 F.a0, SV.int IntKind.i64 F.b0, SV.int IntKind.i64 F.n0, SV.bool F.k1,
                      SV.int IntKind.i64 F.a1, SV.int IntKind.i64 F.b1, SV.int IntKind.i64 F.n1, SV.bool F.k2,
                      SV.int IntKind.i64 F.a2, SV.int IntKind.i64 F.b2, SV.int IntKind.i64 F.n2, SV.bool F.cf, SV.bool F.lm,
                      SV.bool F.pr, SV.int IntKind.i64 F.now]],
                BO.rows (3 : Nat) (1 : Nat) true (32 : Nat)
                  [[SV.int IntKind.i64 d.fst, SV.int IntKind.i64 d.snd.fst, SV.int IntKind.i64 d.snd.snd]]]
      else
        bif decide (F.a1 < l) then
          bif p then
            Kt Ex.normal (184 : Nat)
              [SV.bool false, SV.ptr (1 : Nat) (0 : Nat) (16 : Nat) (0 : Nat),
                SV.ptr (2 : Nat) (0 : Nat) (3 : Nat) (0 : Nat), SV.int IntKind.i64 F.a1, SV.bool true,
                SV.int IntKind.i64 (IntKind.i64.wrap (m + F.n1)), SV.int IntKind.i64 (2 : Int)]
              [BO.rows (12 : Nat) (1 : Nat) true (30 : Nat)
                  [[SV.int IntKind.i64 x0.b, SV.int IntKind.i64 x0.l, SV.int IntKind.i64 x0.a, SV.int IntKind.i64 x0.m,
                      SV.int IntKind.i64 x1.b, SV.int IntKind.i64 x1.l, SV.int IntKind.i64 x1.a, SV.int IntKind.i64 x1.m,
                      SV.int IntKind.i64 x2.b, SV.int IntKind.i64 x2.l, SV.int IntKind.i64 x2.a, SV.int IntKind.i64 x2.m]],
                BO.rows (16 : Nat) (1 : Nat) true (28 : Nat)
                  [[SV.bool F.k0, SV.int IntKind.i64 F.a0, SV.int IntKind.i64 F.b0, SV.int IntKind.i64 F.n0, SV.bool F.k1,
                      SV.int IntKind.i64 F.a1, SV.int IntKind.i64 F.b1, SV.int IntKind.i64 F.n1, SV.bool F.k2,
                      SV.int IntKind.i64 F.a2, SV.int IntKind.i64 F.b2, SV.int IntKind.i64 F.n2, SV.bool F.cf, SV.bool F.lm,
                      SV.bool F.pr, SV.int IntKind.i64 F.now]],
                BO.rows (3 : Nat) (1 : Nat) true (32 : Nat)
                  [[SV.int IntKind.i64 d.fst, SV.int IntKind.i64 d.snd.fst, SV.int IntKind.i64 d.snd.snd]]]
          else
            bif decide ((0 : Int) < F.n1) then
              Kt Ex.normal (184 : Nat)
                [SV.bool false, SV.ptr (1 : Nat) (0 : Nat) (16 : Nat) (0 : Nat),
                  SV.ptr (2 : Nat) (0 : Nat) (3 : Nat) (0 : Nat), SV.int IntKind.i64 F.a1, SV.bool true,
                  SV.int IntKind.i64 (IntKind.i64.wrap (m + F.n1)), SV.int IntKind.i64 (2 : Int)]
                [BO.rows (12 : Nat) (1 : Nat) true (30 : Nat)
                    [[SV.int IntKind.i64 x0.b, SV.int IntKind.i64 x0.l, SV.int IntKind.i64 x0.a, SV.int IntKind.i64 x0.m,
                        SV.int IntKind.i64 x1.b, SV.int IntKind.i64 x1.l, SV.int IntKind.i64 x1.a, SV.int IntKind.i64 x1.m,
                        SV.int IntKind.i64 x2.b, SV.int IntKind.i64 x2.l, SV.int IntKind.i64 x2.a,
                        SV.int IntKind.i64 x2.m]],
                  BO.rows (16 : Nat) (1 : Nat) true (28 : Nat)
                    [[SV.bool F.k0, SV.int IntKind.i64 F.a0, SV.int IntKind.i64 F.b0, SV.int IntKind.i64 F.n0, SV.bool F.k1,
                        SV.int IntKind.i64 F.a1, SV.int IntKind.i64 F.b1, SV.int IntKind.i64 F.n1, SV.bool F.k2,
                        SV.int IntKind.i64 F.a2, SV.int IntKind.i64 F.b2, SV.int IntKind.i64 F.n2, SV.bool F.cf,
                        SV.bool F.lm, SV.bool F.pr, SV.int IntKind.i64 F.now]],
                  BO.rows (3 : Nat) (1 : Nat) true (32 : Nat)
                    [[SV.int IntKind.i64 d.fst, SV.int IntKind.i64 d.snd.fst, SV.int IntKind.i64 d.snd.snd]]]
            else
              Kt Ex.normal (184 : Nat)
                [SV.bool false, SV.ptr (1 : Nat) (0 : Nat) (16 : Nat) (0 : Nat),
                  SV.ptr (2 : Nat) (0 : Nat) (3 : Nat) (0 : Nat), SV.int IntKind.i64 F.a1, SV.bool false,
                  SV.int IntKind.i64 (IntKind.i64.wrap (m + F.n1)), SV.int IntKind.i64 (2 : Int)]
                [BO.rows (12 : Nat) (1 : Nat) true (30 : Nat)
                    [[SV.int IntKind.i64 x0.b, SV.int IntKind.i64 x0.l, SV.int IntKind.i64 x0.a, SV.int IntKind.i64 x0.m,
                        SV.int IntKind.i64 x1.b, SV.int IntKind.i64 x1.l, SV.int IntKind.i64 x1.a, SV.int IntKind.i64 x1.m,
                        SV.int IntKind.i64 x2.b, SV.int IntKind.i64 x2.l, SV.int IntKind.i64 x2.a,
                        SV.int IntKind.i64 x2.m]],
                  BO.rows (16 : Nat) (1 : Nat) true (28 : Nat)
                    [[SV.bool F.k0, SV.int IntKind.i64 F.a0, SV.int IntKind.i64 F.b0, SV.int IntKind.i64 F.n0, SV.bool F.k1,
                        SV.int IntKind.i64 F.a1, SV.int IntKind.i64 F.b1, SV.int IntKind.i64 F.n1, SV.bool F.k2,
                        SV.int IntKind.i64 F.a2, SV.int IntKind.i64 F.b2, SV.int IntKind.i64 F.n2, SV.bool F.cf,
                        SV.bool F.lm, SV.bool F.pr, SV.int IntKind.i64 F.now]],
                  BO.rows (3 : Nat) (1 : Nat) true (32 : Nat)
                    [[SV.int IntKind.i64 d.fst, SV.int IntKind.i64 d.snd.fst, SV.int IntKind.i64 d.snd.snd]]]
        else
          bif p then
            Kt Ex.normal (184 : Nat)
              [SV.bool false, SV.ptr (1 : Nat) (0 : Nat) (16 : Nat) (0 : Nat),
                SV.ptr (2 : Nat) (0 : Nat) (3 : Nat) (0 : Nat), SV.int IntKind.i64 l, SV.bool true,
                SV.int IntKind.i64 (IntKind.i64.wrap (m + F.n1)), SV.int IntKind.i64 (2 : Int)]
              [BO.rows (12 : Nat) (1 : Nat) true (30 : Nat)
                  [[SV.int IntKind.i64 x0.b, SV.int IntKind.i64 x0.l, SV.int IntKind.i64 x0.a, SV.int IntKind.i64 x0.m,
                      SV.int IntKind.i64 x1.b, SV.int IntKind.i64 x1.l, SV.int IntKind.i64 x1.a, SV.int IntKind.i64 x1.m,
                      SV.int IntKind.i64 x2.b, SV.int IntKind.i64 x2.l, SV.int IntKind.i64 x2.a, SV.int IntKind.i64 x2.m]],
                BO.rows (16 : Nat) (1 : Nat) true (28 : Nat)
                  [[SV.bool F.k0, SV.int IntKind.i64 F.a0, SV.int IntKind.i64 F.b0, SV.int IntKind.i64 F.n0, SV.bool F.k1,
                      SV.int IntKind.i64 F.a1, SV.int IntKind.i64 F.b1, SV.int IntKind.i64 F.n1, SV.bool F.k2,
                      SV.int IntKind.i64 F.a2, SV.int IntKind.i64 F.b2, SV.int IntKind.i64 F.n2, SV.bool F.cf, SV.bool F.lm,
                      SV.bool F.pr, SV.int IntKind.i64 F.now]],
                BO.rows (3 : Nat) (1 : Nat) true (32 : Nat)
                  [[SV.int IntKind.i64 d.fst, SV.int IntKind.i64 d.snd.fst, SV.int IntKind.i64 d.snd.snd]]]
          else
            bif decide ((0 : Int) < F.n1) then
              Kt Ex.normal (184 : Nat)
                [SV.bool false, SV.ptr (1 : Nat) (0 : Nat) (16 : Nat) (0 : Nat),
                  SV.ptr (2 : Nat) (0 : Nat) (3 : Nat) (0 : Nat), SV.int IntKind.i64 l, SV.bool true,
                  SV.int IntKind.i64 (IntKind.i64.wrap (m + F.n1)), SV.int IntKind.i64 (2 : Int)]
                [BO.rows (12 : Nat) (1 : Nat) true (30 : Nat)
                    [[SV.int IntKind.i64 x0.b, SV.int IntKind.i64 x0.l, SV.int IntKind.i64 x0.a, SV.int IntKind.i64 x0.m,
                        SV.int IntKind.i64 x1.b, SV.int IntKind.i64 x1.l, SV.int IntKind.i64 x1.a, SV.int IntKind.i64 x1.m,
                        SV.int IntKind.i64 x2.b, SV.int IntKind.i64 x2.l, SV.int IntKind.i64 x2.a,
                        SV.int IntKind.i64 x2.m]],
                  BO.rows (16 : Nat) (1 : Nat) true (28 : Nat)
                    [[SV.bool F.k0, SV.int IntKind.i64 F.a0, SV.int IntKind.i64 F.b0, SV.int IntKind.i64 F.n0, SV.bool F.k1,
                        SV.int IntKind.i64 F.a1, SV.int IntKind.i64 F.b1, SV.int IntKind.i64 F.n1, SV.bool F.k2,
                        SV.int IntKind.i64 F.a2, SV.int IntKind.i64 F.b2, SV.int IntKind.i64 F.n2, SV.bool F.cf,
                        SV.bool F.lm, SV.bool F.pr, SV.int IntKind.i64 F.now]],
                  BO.rows (3 : Nat) (1 : Nat) true (32 : Nat)
                    [[SV.int IntKind.i64 d.fst, SV.int IntKind.i64 d.snd.fst, SV.int IntKind.i64 d.snd.snd]]]
            else
              Kt Ex.normal (184 : Nat)
                [SV.bool false, SV.ptr (1 : Nat) (0 : Nat) (16 : Nat) (0 : Nat),
                  SV.ptr (2 : Nat) (0 : Nat) (3 : Nat) (0 : Nat), SV.int IntKind.i64 l, SV.bool false,
                  SV.int IntKind.i64 (IntKind.i64.wrap (m + F.n1)), SV.int IntKind.i64 (2 : Int)]
                [BO.rows (12 : Nat) (1 : Nat) true (30 : Nat)
                    [[SV.int IntKind.i64 x0.b, SV.int IntKind.i64 x0.l, SV.int IntKind.i64 x0.a, SV.int IntKind.i64 x0.m,
                        SV.int IntKind.i64 x1.b, SV.int IntKind.i64 x1.l, SV.int IntKind.i64 x1.a, SV.int IntKind.i64 x1.m,
                        SV.int IntKind.i64 x2.b, SV.int IntKind.i64 x2.l, SV.int IntKind.i64 x2.a,
                        SV.int IntKind.i64 x2.m]],
                  BO.rows (16 : Nat) (1 : Nat) true (28 : Nat)
                    [[SV.bool F.k0, SV.int IntKind.i64 F.a0, SV.int IntKind.i64 F.b0, SV.int IntKind.i64 F.n0, SV.bool F.k1,
                        SV.int IntKind.i64 F.a1, SV.int IntKind.i64 F.b1, SV.int IntKind.i64 F.n1, SV.bool F.k2,
                        SV.int IntKind.i64 F.a2, SV.int IntKind.i64 F.b2, SV.int IntKind.i64 F.n2, SV.bool F.cf,
                        SV.bool F.lm, SV.bool F.pr, SV.int IntKind.i64 F.now]],
                  BO.rows (3 : Nat) (1 : Nat) true (32 : Nat)
                    [[SV.int IntKind.i64 d.fst, SV.int IntKind.i64 d.snd.fst, SV.int IntKind.i64 d.snd.snd]]]
    else
      bif p then
        Kt Ex.normal (184 : Nat)
          [SV.bool false, SV.ptr (1 : Nat) (0 : Nat) (16 : Nat) (0 : Nat), SV.ptr (2 : Nat) (0 : Nat) (3 : Nat) (0 : Nat),
            SV.int IntKind.i64 l, SV.bool true, SV.int IntKind.i64 (IntKind.i64.wrap (m + F.n1)),
            SV.int IntKind.i64 (2 : Int)]
          [BO.rows (12 : Nat) (1 : Nat) true (30 : Nat)
              [[SV.int IntKind.i64 x0.b, SV.int IntKind.i64 x0.l, SV.int IntKind.i64 x0.a, SV.int IntKind.i64 x0.m,
                  SV.int IntKind.i64 x1.b, SV.int IntKind.i64 x1.l, SV.int IntKind.i64 x1.a, SV.int IntKind.i64 x1.m,
                  SV.int IntKind.i64 x2.b, SV.int IntKind.i64 x2.l, SV.int IntKind.i64 x2.a, SV.int IntKind.i64 x2.m]],
            BO.rows (16 : Nat) (1 : Nat) true (28 : Nat)
              [[SV.bool F.k0, SV.int IntKind.i64 F.a0, SV.int IntKind.i64 F.b0, SV.int IntKind.i64 F.n0, SV.bool F.k1,
                  SV.int IntKind.i64 F.a1, SV.int IntKind.i64 F.b1, SV.int IntKind.i64 F.n1, SV.bool F.k2,
                  SV.int IntKind.i64 F.a2, SV.int IntKind.i64 F.b2, SV.int IntKind.i64 F.n2, SV.bool F.cf, SV.bool F.lm,
                  SV.bool F.pr, SV.int IntKind.i64 F.now]],
            BO.rows (3 : Nat) (1 : Nat) true (32 : Nat)
              [[SV.int IntKind.i64 d.fst, SV.int IntKind.i64 d.snd.fst, SV.int IntKind.i64 d.snd.snd]]]
      else
        bif decide ((0 : Int) < F.n1) then
          Kt Ex.normal (184 : Nat)
            [SV.bool false, SV.ptr (1 : Nat) (0 : Nat) (16 : Nat) (0 : Nat), SV.ptr (2 : Nat) (0 : Nat) (3 : Nat) (0 : Nat),
              SV.int IntKind.i64 l, SV.bool true, SV.int IntKind.i64 (IntKind.i64.wrap (m + F.n1)),
              SV.int IntKind.i64 (2 : Int)]
            [BO.rows (12 : Nat) (1 : Nat) true (30 : Nat)
                [[SV.int IntKind.i64 x0.b, SV.int IntKind.i64 x0.l, SV.int IntKind.i64 x0.a, SV.int IntKind.i64 x0.m,
                    SV.int IntKind.i64 x1.b, SV.int IntKind.i64 x1.l, SV.int IntKind.i64 x1.a, SV.int IntKind.i64 x1.m,
                    SV.int IntKind.i64 x2.b, SV.int IntKind.i64 x2.l, SV.int IntKind.i64 x2.a, SV.int IntKind.i64 x2.m]],
              BO.rows (16 : Nat) (1 : Nat) true (28 : Nat)
                [[SV.bool F.k0, SV.int IntKind.i64 F.a0, SV.int IntKind.i64 F.b0, SV.int IntKind.i64 F.n0, SV.bool F.k1,
                    SV.int IntKind.i64 F.a1, SV.int IntKind.i64 F.b1, SV.int IntKind.i64 F.n1, SV.bool F.k2,
                    SV.int IntKind.i64 F.a2, SV.int IntKind.i64 F.b2, SV.int IntKind.i64 F.n2, SV.bool F.cf, SV.bool F.lm,
                    SV.bool F.pr, SV.int IntKind.i64 F.now]],
              BO.rows (3 : Nat) (1 : Nat) true (32 : Nat)
                [[SV.int IntKind.i64 d.fst, SV.int IntKind.i64 d.snd.fst, SV.int IntKind.i64 d.snd.snd]]]
        else
          Kt Ex.normal (184 : Nat)
            [SV.bool false, SV.ptr (1 : Nat) (0 : Nat) (16 : Nat) (0 : Nat), SV.ptr (2 : Nat) (0 : Nat) (3 : Nat) (0 : Nat),
              SV.int IntKind.i64 l, SV.bool false, SV.int IntKind.i64 (IntKind.i64.wrap (m + F.n1)),
              SV.int IntKind.i64 (2 : Int)]
            [BO.rows (12 : Nat) (1 : Nat) true (30 : Nat)
                [[SV.int IntKind.i64 x0.b, SV.int IntKind.i64 x0.l, SV.int IntKind.i64 x0.a, SV.int IntKind.i64 x0.m,
                    SV.int IntKind.i64 x1.b, SV.int IntKind.i64 x1.l, SV.int IntKind.i64 x1.a, SV.int IntKind.i64 x1.m,
                    SV.int IntKind.i64 x2.b, SV.int IntKind.i64 x2.l, SV.int IntKind.i64 x2.a, SV.int IntKind.i64 x2.m]],
              BO.rows (16 : Nat) (1 : Nat) true (28 : Nat)
                [[SV.bool F.k0, SV.int IntKind.i64 F.a0, SV.int IntKind.i64 F.b0, SV.int IntKind.i64 F.n0, SV.bool F.k1,
                    SV.int IntKind.i64 F.a1, SV.int IntKind.i64 F.b1, SV.int IntKind.i64 F.n1, SV.bool F.k2,
                    SV.int IntKind.i64 F.a2, SV.int IntKind.i64 F.b2, SV.int IntKind.i64 F.n2, SV.bool F.cf, SV.bool F.lm,
                    SV.bool F.pr, SV.int IntKind.i64 F.now]],
              BO.rows (3 : Nat) (1 : Nat) true (32 : Nat)
                [[SV.int IntKind.i64 d.fst, SV.int IntKind.i64 d.snd.fst, SV.int IntKind.i64 d.snd.snd]]]) := by kernel_rfl
theorem p6_62 (x0 x1 x2 : Rw) (F : Fc) (d : D3) (l : Int) (p : Bool) (m : Int) (Kt : KT) : evalC C14 0  0 c6_6 (tplF 184 L6 (v6 (.int .i64 l) (.bool p) (.int .i64 m) (.int .i64 2))) ((h6 x0 x1 x2 F d).map mkB) ( obsN L6 M6 Kt) = (
    bif decide ((0 : Int) ≤ F.a2) then
      bif decide (l < (0 : Int)) then
        bif p then
          Kt Ex.normal (184 : Nat)
            [SV.bool false, SV.ptr (1 : Nat) (0 : Nat) (16 : Nat) (0 : Nat), SV.ptr (2 : Nat) (0 : Nat) (3 : Nat) (0 : Nat),
              SV.int IntKind.i64 F.a2, SV.bool true, SV.int IntKind.i64 (IntKind.i64.wrap (m + F.n2)),
              SV.int IntKind.i64 (3 : Int)]
            [BO.rows (12 : Nat) (1 : Nat) true (30 : Nat)
                [[SV.int IntKind.i64 x0.b, SV.int IntKind.i64 x0.l, SV.int IntKind.i64 x0.a, SV.int IntKind.i64 x0.m,
                    SV.int IntKind.i64 x1.b, SV.int IntKind.i64 x1.l, SV.int IntKind.i64 x1.a, SV.int IntKind.i64 x1.m,
                    SV.int IntKind.i64 x2.b, SV.int IntKind.i64 x2.l, SV.int IntKind.i64 x2.a, SV.int IntKind.i64 x2.m]],
              BO.rows (16 : Nat) (1 : Nat) true (28 : Nat)
                [[SV.bool F.k0, SV.int IntKind.i64 F.a0, SV.int IntKind.i64 F.b0, SV.int IntKind.i64 F.n0, SV.bool F.k1,
                    SV.int IntKind.i64 F.a1, SV.int IntKind.i64 F.b1, SV.int IntKind.i64 F.n1, SV.bool F.k2,
                    SV.int IntKind.i64 F.a2, SV.int IntKind.i64 F.b2, SV.int IntKind.i64 F.n2, SV.bool F.cf, SV.bool F.lm,
                    SV.bool F.pr, SV.int IntKind.i64 F.now]],
              BO.rows (3 : Nat) (1 : Nat) true (32 : Nat)
                [[SV.int IntKind.i64 d.fst, SV.int IntKind.i64 d.snd.fst, SV.int IntKind.i64 d.snd.snd]]]
        else
          bif decide ((0 : Int) < F.n2) then
            Kt Ex.normal (184 : Nat)
              [SV.bool false, SV.ptr (1 : Nat) (0 : Nat) (16 : Nat) (0 : Nat),
                SV.ptr (2 : Nat) (0 : Nat) (3 : Nat) (0 : Nat), SV.int IntKind.i64 F.a2, SV.bool F.cf,
                SV.int IntKind.i64 (IntKind.i64.wrap (m + F.n2)), SV.int IntKind.i64 (3 : Int)]
              [BO.rows (12 : Nat) (1 : Nat) true (30 : Nat)
                  [[SV.int IntKind.i64 x0.b, SV.int IntKind.i64 x0.l, SV.int IntKind.i64 x0.a, SV.int IntKind.i64 x0.m,
                      SV.int IntKind.i64 x1.b, SV.int IntKind.i64 x1.l, SV.int IntKind.i64 x1.a, SV.int IntKind.i64 x1.m,
                      SV.int IntKind.i64 x2.b, SV.int IntKind.i64 x2.l, SV.int IntKind.i64 x2.a, SV.int IntKind.i64 x2.m]],
                BO.rows (16 : Nat) (1 : Nat) true (28 : Nat)
                  [[SV.bool F.k0, SV.int IntKind.i64 F.a0, SV.int IntKind.i64 F.b0, SV.int IntKind.i64 F.n0, SV.bool F.k1,
                      SV.int IntKind.i64 F.a1, SV.int IntKind.i64 F.b1, SV.int IntKind.i64 F.n1, SV.bool F.k2,
                      SV.int IntKind.i64 F.a2, SV.int IntKind.i64 F.b2, SV.int IntKind.i64 F.n2, SV.bool F.cf, SV.bool F.lm,
                      SV.bool F.pr, SV.int IntKind.i64 F.now]],
                BO.rows (3 : Nat) (1 : Nat) true (32 : Nat)
                  [[SV.int IntKind.i64 d.fst, SV.int IntKind.i64 d.snd.fst, SV.int IntKind.i64 d.snd.snd]]]
          else
            Kt Ex.normal (184 : Nat)
              [SV.bool false, SV.ptr (1 : Nat) (0 : Nat) (16 : Nat) (0 : Nat),
                SV.ptr (2 : Nat) (0 : Nat) (3 : Nat) (0 : Nat), SV.int IntKind.i64 F.a2, SV.bool false,
                SV.int IntKind.i64 (IntKind.i64.wrap (m + F.n2)), SV.int IntKind.i64 (3 : Int)]
              [BO.rows (12 : Nat) (1 : Nat) true (30 : Nat)
                  [[SV.int IntKind.i64 x0.b, SV.int IntKind.i64 x0.l, SV.int IntKind.i64 x0.a, SV.int IntKind.i64 x0.m,
                      SV.int IntKind.i64 x1.b, SV.int IntKind.i64 x1.l, SV.int IntKind.i64 x1.a, SV.int IntKind.i64 x1.m,
                      SV.int IntKind.i64 x2.b, SV.int IntKind.i64 x2.l, SV.int IntKind.i64 x2.a, SV.int IntKind.i64 x2.m]],
                BO.rows (16 : Nat) (1 : Nat) true (28 : Nat)
                  [[SV.bool F.k0, SV.int IntKind.i64 F.a0, SV.int IntKind.i64 F.b0, SV.int IntKind.i64 F.n0, SV.bool F.k1,
                      SV.int IntKind.i64 F.a1, SV.int IntKind.i64 F.b1, SV.int IntKind.i64 F.n1, SV.bool F.k2,
                      SV.int IntKind.i64 F.a2, SV.int IntKind.i64 F.b2, SV.int IntKind.i64 F.n2, SV.bool F.cf, SV.bool F.lm,
                      SV.bool F.pr, SV.int IntKind.i64 F.now]],
                BO.rows (3 : Nat) (1 : Nat) true (32 : Nat)
                  [[SV.int IntKind.i64 d.fst, SV.int IntKind.i64 d.snd.fst, SV.int IntKind.i64 d.snd.snd]]]
      else
        bif decide (F.a2 < l) then
          bif p then
            Kt Ex.normal (184 : Nat)
              [SV.bool false, SV.ptr (1 : Nat) (0 : Nat) (16 : Nat) (0 : Nat),
                SV.ptr (2 : Nat) (0 : Nat) (3 : Nat) (0 : Nat), SV.int IntKind.i64 F.a2, SV.bool true,
                SV.int IntKind.i64 (IntKind.i64.wrap (m + F.n2)), SV.int IntKind.i64 (3 : Int)]
              [BO.rows (12 : Nat) (1 : Nat) true (30 : Nat)
                  [[SV.int IntKind.i64 x0.b, SV.int IntKind.i64 x0.l, SV.int IntKind.i64 x0.a, SV.int IntKind.i64 x0.m,
                      SV.int IntKind.i64 x1.b, SV.int IntKind.i64 x1.l, SV.int IntKind.i64 x1.a, SV.int IntKind.i64 x1.m,
                      SV.int IntKind.i64 x2.b, SV.int IntKind.i64 x2.l, SV.int IntKind.i64 x2.a, SV.int IntKind.i64 x2.m]],
                BO.rows (16 : Nat) (1 : Nat) true (28 : Nat)
                  [[SV.bool F.k0, SV.int IntKind.i64 F.a0, SV.int IntKind.i64 F.b0, SV.int IntKind.i64 F.n0, SV.bool F.k1,
                      SV.int IntKind.i64 F.a1, SV.int IntKind.i64 F.b1, SV.int IntKind.i64 F.n1, SV.bool F.k2,
                      SV.int IntKind.i64 F.a2, SV.int IntKind.i64 F.b2, SV.int IntKind.i64 F.n2, SV.bool F.cf, SV.bool F.lm,
                      SV.bool F.pr, SV.int IntKind.i64 F.now]],
                BO.rows (3 : Nat) (1 : Nat) true (32 : Nat)
                  [[SV.int IntKind.i64 d.fst, SV.int IntKind.i64 d.snd.fst, SV.int IntKind.i64 d.snd.snd]]]
          else
            bif decide ((0 : Int) < F.n2) then
              Kt Ex.normal (184 : Nat)
                [SV.bool false, SV.ptr (1 : Nat) (0 : Nat) (16 : Nat) (0 : Nat),
                  SV.ptr (2 : Nat) (0 : Nat) (3 : Nat) (0 : Nat), SV.int IntKind.i64 F.a2, SV.bool F.cf,
                  SV.int IntKind.i64 (IntKind.i64.wrap (m + F.n2)), SV.int IntKind.i64 (3 : Int)]
                [BO.rows (12 : Nat) (1 : Nat) true (30 : Nat)
                    [[SV.int IntKind.i64 x0.b, SV.int IntKind.i64 x0.l, SV.int IntKind.i64 x0.a, SV.int IntKind.i64 x0.m,
                        SV.int IntKind.i64 x1.b, SV.int IntKind.i64 x1.l, SV.int IntKind.i64 x1.a, SV.int IntKind.i64 x1.m,
                        SV.int IntKind.i64 x2.b, SV.int IntKind.i64 x2.l, SV.int IntKind.i64 x2.a,
                        SV.int IntKind.i64 x2.m]],
                  BO.rows (16 : Nat) (1 : Nat) true (28 : Nat)
                    [[SV.bool F.k0, SV.int IntKind.i64 F.a0, SV.int IntKind.i64 F.b0, SV.int IntKind.i64 F.n0, SV.bool F.k1,
                        SV.int IntKind.i64 F.a1, SV.int IntKind.i64 F.b1, SV.int IntKind.i64 F.n1, SV.bool F.k2,
                        SV.int IntKind.i64 F.a2, SV.int IntKind.i64 F.b2, SV.int IntKind.i64 F.n2, SV.bool F.cf,
                        SV.bool F.lm, SV.bool F.pr, SV.int IntKind.i64 F.now]],
                  BO.rows (3 : Nat) (1 : Nat) true (32 : Nat)
                    [[SV.int IntKind.i64 d.fst, SV.int IntKind.i64 d.snd.fst, SV.int IntKind.i64 d.snd.snd]]]
            else
              Kt Ex.normal (184 : Nat)
                [SV.bool false, SV.ptr (1 : Nat) (0 : Nat) (16 : Nat) (0 : Nat),
                  SV.ptr (2 : Nat) (0 : Nat) (3 : Nat) (0 : Nat), SV.int IntKind.i64 F.a2, SV.bool false,
                  SV.int IntKind.i64 (IntKind.i64.wrap (m + F.n2)), SV.int IntKind.i64 (3 : Int)]
                [BO.rows (12 : Nat) (1 : Nat) true (30 : Nat)
                    [[SV.int IntKind.i64 x0.b, SV.int IntKind.i64 x0.l, SV.int IntKind.i64 x0.a, SV.int IntKind.i64 x0.m,
                        SV.int IntKind.i64 x1.b, SV.int IntKind.i64 x1.l, SV.int IntKind.i64 x1.a, SV.int IntKind.i64 x1.m,
                        SV.int IntKind.i64 x2.b, SV.int IntKind.i64 x2.l, SV.int IntKind.i64 x2.a,
                        SV.int IntKind.i64 x2.m]],
                  BO.rows (16 : Nat) (1 : Nat) true (28 : Nat)
                    [[SV.bool F.k0, SV.int IntKind.i64 F.a0, SV.int IntKind.i64 F.b0, SV.int IntKind.i64 F.n0, SV.bool F.k1,
                        SV.int IntKind.i64 F.a1, SV.int IntKind.i64 F.b1, SV.int IntKind.i64 F.n1, SV.bool F.k2,
                        SV.int IntKind.i64 F.a2, SV.int IntKind.i64 F.b2, SV.int IntKind.i64 F.n2, SV.bool F.cf,
                        SV.bool F.lm, SV.bool F.pr, SV.int IntKind.i64 F.now]],
                  BO.rows (3 : Nat) (1 : Nat) true (32 : Nat)
                    [[SV.int IntKind.i64 d.fst, SV.int IntKind.i64 d.snd.fst, SV.int IntKind.i64 d.snd.snd]]]
        else
          bif p then
            Kt Ex.normal (184 : Nat)
              [SV.bool false, SV.ptr (1 : Nat) (0 : Nat) (16 : Nat) (0 : Nat),
                SV.ptr (2 : Nat) (0 : Nat) (3 : Nat) (0 : Nat), SV.int IntKind.i64 l, SV.bool true,
                SV.int IntKind.i64 (IntKind.i64.wrap (m + F.n2)), SV.int IntKind.i64 (3 : Int)]
              [BO.rows (12 : Nat) (1 : Nat) true (30 : Nat)
                  [[SV.int IntKind.i64 x0.b, SV.int IntKind.i64 x0.l, SV.int IntKind.i64 x0.a, SV.int IntKind.i64 x0.m,
                      SV.int IntKind.i64 x1.b, SV.int IntKind.i64 x1.l, SV.int IntKind.i64 x1.a, SV.int IntKind.i64 x1.m,
                      SV.int IntKind.i64 x2.b, SV.int IntKind.i64 x2.l, SV.int IntKind.i64 x2.a, SV.int IntKind.i64 x2.m]],
                BO.rows (16 : Nat) (1 : Nat) true (28 : Nat)
                  [[SV.bool F.k0, SV.int IntKind.i64 F.a0, SV.int IntKind.i64 F.b0, SV.int IntKind.i64 F.n0, SV.bool F.k1,
                      SV.int IntKind.i64 F.a1, SV.int IntKind.i64 F.b1, SV.int IntKind.i64 F.n1, SV.bool F.k2,
                      SV.int IntKind.i64 F.a2, SV.int IntKind.i64 F.b2, SV.int IntKind.i64 F.n2, SV.bool F.cf, SV.bool F.lm,
                      SV.bool F.pr, SV.int IntKind.i64 F.now]],
                BO.rows (3 : Nat) (1 : Nat) true (32 : Nat)
                  [[SV.int IntKind.i64 d.fst, SV.int IntKind.i64 d.snd.fst, SV.int IntKind.i64 d.snd.snd]]]
          else
            bif decide ((0 : Int) < F.n2) then
              Kt Ex.normal (184 : Nat)
                [SV.bool false, SV.ptr (1 : Nat) (0 : Nat) (16 : Nat) (0 : Nat),
                  SV.ptr (2 : Nat) (0 : Nat) (3 : Nat) (0 : Nat), SV.int IntKind.i64 l, SV.bool F.cf,
                  SV.int IntKind.i64 (IntKind.i64.wrap (m + F.n2)), SV.int IntKind.i64 (3 : Int)]
                [BO.rows (12 : Nat) (1 : Nat) true (30 : Nat)
                    [[SV.int IntKind.i64 x0.b, SV.int IntKind.i64 x0.l, SV.int IntKind.i64 x0.a, SV.int IntKind.i64 x0.m,
                        SV.int IntKind.i64 x1.b, SV.int IntKind.i64 x1.l, SV.int IntKind.i64 x1.a, SV.int IntKind.i64 x1.m,
                        SV.int IntKind.i64 x2.b, SV.int IntKind.i64 x2.l, SV.int IntKind.i64 x2.a,
                        SV.int IntKind.i64 x2.m]],
                  BO.rows (16 : Nat) (1 : Nat) true (28 : Nat)
                    [[SV.bool F.k0, SV.int IntKind.i64 F.a0, SV.int IntKind.i64 F.b0, SV.int IntKind.i64 F.n0, SV.bool F.k1,
                        SV.int IntKind.i64 F.a1, SV.int IntKind.i64 F.b1, SV.int IntKind.i64 F.n1, SV.bool F.k2,
                        SV.int IntKind.i64 F.a2, SV.int IntKind.i64 F.b2, SV.int IntKind.i64 F.n2, SV.bool F.cf,
                        SV.bool F.lm, SV.bool F.pr, SV.int IntKind.i64 F.now]],
                  BO.rows (3 : Nat) (1 : Nat) true (32 : Nat)
                    [[SV.int IntKind.i64 d.fst, SV.int IntKind.i64 d.snd.fst, SV.int IntKind.i64 d.snd.snd]]]
            else
              Kt Ex.normal (184 : Nat)
                [SV.bool false, SV.ptr (1 : Nat) (0 : Nat) (16 : Nat) (0 : Nat),
                  SV.ptr (2 : Nat) (0 : Nat) (3 : Nat) (0 : Nat), SV.int IntKind.i64 l, SV.bool false,
                  SV.int IntKind.i64 (IntKind.i64.wrap (m + F.n2)), SV.int IntKind.i64 (3 : Int)]
                [BO.rows (12 : Nat) (1 : Nat) true (30 : Nat)
                    [[SV.int IntKind.i64 x0.b, SV.int IntKind.i64 x0.l, SV.int IntKind.i64 x0.a, SV.int IntKind.i64 x0.m,
                        SV.int IntKind.i64 x1.b, SV.int IntKind.i64 x1.l, SV.int IntKind.i64 x1.a, SV.int IntKind.i64 x1.m,
                        SV.int IntKind.i64 x2.b, SV.int IntKind.i64 x2.l, SV.int IntKind.i64 x2.a,
                        SV.int IntKind.i64 x2.m]],
                  BO.rows (16 : Nat) (1 : Nat) true (28 : Nat)
                    [[SV.bool F.k0, SV.int IntKind.i64 F.a0, SV.int IntKind.i64 F.b0, SV.int IntKind.i64 F.n0, SV.bool F.k1,
                        SV.int IntKind.i64 F.a1, SV.int IntKind.i64 F.b1, SV.int IntKind.i64 F.n1, SV.bool F.k2,
                        SV.int IntKind.i64 F.a2, SV.int IntKind.i64 F.b2, SV.int IntKind.i64 F.n2, SV.bool F.cf,
                        SV.bool F.lm, SV.bool F.pr, SV.int IntKind.i64 F.now]],
                  BO.rows (3 : Nat) (1 : Nat) true (32 : Nat)
                    [[SV.int IntKind.i64 d.fst, SV.int IntKind.i64 d.snd.fst, SV.int IntKind.i64 d.snd.snd]]]
    else
      bif p then
        Kt Ex.normal (184 : Nat)
          [SV.bool false, SV.ptr (1 : Nat) (0 : Nat) (16 : Nat) (0 : Nat), SV.ptr (2 : Nat) (0 : Nat) (3 : Nat) (0 : Nat),
            SV.int IntKind.i64 l, SV.bool true, SV.int IntKind.i64 (IntKind.i64.wrap (m + F.n2)),
            SV.int IntKind.i64 (3 : Int)]
          [BO.rows (12 : Nat) (1 : Nat) true (30 : Nat)
              [[SV.int IntKind.i64 x0.b, SV.int IntKind.i64 x0.l, SV.int IntKind.i64 x0.a, SV.int IntKind.i64 x0.m,
                  SV.int IntKind.i64 x1.b, SV.int IntKind.i64 x1.l, SV.int IntKind.i64 x1.a, SV.int IntKind.i64 x1.m,
                  SV.int IntKind.i64 x2.b, SV.int IntKind.i64 x2.l, SV.int IntKind.i64 x2.a, SV.int IntKind.i64 x2.m]],
            BO.rows (16 : Nat) (1 : Nat) true (28 : Nat)
              [[SV.bool F.k0, SV.int IntKind.i64 F.a0, SV.int IntKind.i64 F.b0, SV.int IntKind.i64 F.n0, SV.bool F.k1,
                  SV.int IntKind.i64 F.a1, SV.int IntKind.i64 F.b1, SV.int IntKind.i64 F.n1, SV.bool F.k2,
                  SV.int IntKind.i64 F.a2, SV.int IntKind.i64 F.b2, SV.int IntKind.i64 F.n2, SV.bool F.cf, SV.bool F.lm,
                  SV.bool F.pr, SV.int IntKind.i64 F.now]],
            BO.rows (3 : Nat) (1 : Nat) true (32 : Nat)
              [[SV.int IntKind.i64 d.fst, SV.int IntKind.i64 d.snd.fst, SV.int IntKind.i64 d.snd.snd]]]
      else
        bif decide ((0 : Int) < F.n2) then
          Kt Ex.normal (184 : Nat)
            [SV.bool false, SV.ptr (1 : Nat) (0 : Nat) (16 : Nat) (0 : Nat), SV.ptr (2 : Nat) (0 : Nat) (3 : Nat) (0 : Nat),
              SV.int IntKind.i64 l, SV.bool F.cf, SV.int IntKind.i64 (IntKind.i64.wrap (m + F.n2)),
              SV.int IntKind.i64 (3 : Int)]
            [BO.rows (12 : Nat) (1 : Nat) true (30 : Nat)
                [[SV.int IntKind.i64 x0.b, SV.int IntKind.i64 x0.l, SV.int IntKind.i64 x0.a, SV.int IntKind.i64 x0.m,
                    SV.int IntKind.i64 x1.b, SV.int IntKind.i64 x1.l, SV.int IntKind.i64 x1.a, SV.int IntKind.i64 x1.m,
                    SV.int IntKind.i64 x2.b, SV.int IntKind.i64 x2.l, SV.int IntKind.i64 x2.a, SV.int IntKind.i64 x2.m]],
              BO.rows (16 : Nat) (1 : Nat) true (28 : Nat)
                [[SV.bool F.k0, SV.int IntKind.i64 F.a0, SV.int IntKind.i64 F.b0, SV.int IntKind.i64 F.n0, SV.bool F.k1,
                    SV.int IntKind.i64 F.a1, SV.int IntKind.i64 F.b1, SV.int IntKind.i64 F.n1, SV.bool F.k2,
                    SV.int IntKind.i64 F.a2, SV.int IntKind.i64 F.b2, SV.int IntKind.i64 F.n2, SV.bool F.cf, SV.bool F.lm,
                    SV.bool F.pr, SV.int IntKind.i64 F.now]],
              BO.rows (3 : Nat) (1 : Nat) true (32 : Nat)
                [[SV.int IntKind.i64 d.fst, SV.int IntKind.i64 d.snd.fst, SV.int IntKind.i64 d.snd.snd]]]
        else
          Kt Ex.normal (184 : Nat)
            [SV.bool false, SV.ptr (1 : Nat) (0 : Nat) (16 : Nat) (0 : Nat), SV.ptr (2 : Nat) (0 : Nat) (3 : Nat) (0 : Nat),
              SV.int IntKind.i64 l, SV.bool false, SV.int IntKind.i64 (IntKind.i64.wrap (m + F.n2)),
              SV.int IntKind.i64 (3 : Int)]
            [BO.rows (12 : Nat) (1 : Nat) true (30 : Nat)
                [[SV.int IntKind.i64 x0.b, SV.int IntKind.i64 x0.l, SV.int IntKind.i64 x0.a, SV.int IntKind.i64 x0.m,
                    SV.int IntKind.i64 x1.b, SV.int IntKind.i64 x1.l, SV.int IntKind.i64 x1.a, SV.int IntKind.i64 x1.m,
                    SV.int IntKind.i64 x2.b, SV.int IntKind.i64 x2.l, SV.int IntKind.i64 x2.a, SV.int IntKind.i64 x2.m]],
              BO.rows (16 : Nat) (1 : Nat) true (28 : Nat)
                [[SV.bool F.k0, SV.int IntKind.i64 F.a0, SV.int IntKind.i64 F.b0, SV.int IntKind.i64 F.n0, SV.bool F.k1,
                    SV.int IntKind.i64 F.a1, SV.int IntKind.i64 F.b1, SV.int IntKind.i64 F.n1, SV.bool F.k2,
                    SV.int IntKind.i64 F.a2, SV.int IntKind.i64 F.b2, SV.int IntKind.i64 F.n2, SV.bool F.cf, SV.bool F.lm,
                    SV.bool F.pr, SV.int IntKind.i64 F.now]],
              BO.rows (3 : Nat) (1 : Nat) true (32 : Nat)
                [[SV.int IntKind.i64 d.fst, SV.int IntKind.i64 d.snd.fst, SV.int IntKind.i64 d.snd.snd]]]) := by kernel_rfl
theorem p6_63 (x0 x1 x2 : Rw) (F : Fc) (d : D3) (l : Int) (p : Bool) (m : Int) (Kt : KT) : evalC C14 0  0 c6_6 (tplF 184 L6 (v6 (.int .i64 l) (.bool p) (.int .i64 m) (.int .i64 3))) ((h6 x0 x1 x2 F d).map mkB) ( obsN L6 M6 Kt) = (
    Kt (Ex.exit (0 : Nat)) (184 : Nat)
      [SV.bool false, SV.ptr (1 : Nat) (0 : Nat) (16 : Nat) (0 : Nat), SV.ptr (2 : Nat) (0 : Nat) (3 : Nat) (0 : Nat),
        SV.int IntKind.i64 l, SV.bool p, SV.int IntKind.i64 m, SV.int IntKind.i64 (3 : Int)]
      [BO.rows (12 : Nat) (1 : Nat) true (30 : Nat)
          [[SV.int IntKind.i64 x0.b, SV.int IntKind.i64 x0.l, SV.int IntKind.i64 x0.a, SV.int IntKind.i64 x0.m,
              SV.int IntKind.i64 x1.b, SV.int IntKind.i64 x1.l, SV.int IntKind.i64 x1.a, SV.int IntKind.i64 x1.m,
              SV.int IntKind.i64 x2.b, SV.int IntKind.i64 x2.l, SV.int IntKind.i64 x2.a, SV.int IntKind.i64 x2.m]],
        BO.rows (16 : Nat) (1 : Nat) true (28 : Nat)
          [[SV.bool F.k0, SV.int IntKind.i64 F.a0, SV.int IntKind.i64 F.b0, SV.int IntKind.i64 F.n0, SV.bool F.k1,
              SV.int IntKind.i64 F.a1, SV.int IntKind.i64 F.b1, SV.int IntKind.i64 F.n1, SV.bool F.k2,
              SV.int IntKind.i64 F.a2, SV.int IntKind.i64 F.b2, SV.int IntKind.i64 F.n2, SV.bool F.cf, SV.bool F.lm,
              SV.bool F.pr, SV.int IntKind.i64 F.now]],
        BO.rows (3 : Nat) (1 : Nat) true (32 : Nat)
          [[SV.int IntKind.i64 d.fst, SV.int IntKind.i64 d.snd.fst, SV.int IntKind.i64 d.snd.snd]]]) := by kernel_rfl
theorem p6_70 (x0 x1 x2 : Rw) (F : Fc) (x z : Int) (l : Int) (p : Bool) (m : Int) (Kt : KT) (kr : SV → Prop) : evalC C14 64  0 c6_7 (tplF 184 L6 (v6 (.int .i64 l) (.bool p) (.int .i64 m) .top)) ((h6 x0 x1 x2 F (x, 0, z)).map mkB) ( obsE Try.prog Try.f6.results.toList L6 M6 Kt kr) = (
    bif !mayF (Fc.mk F.k0 F.a0 F.b0 F.n0 F.k1 F.a1 F.b1 F.n1 F.k2 F.a2 F.b2 F.n2 F.cf F.lm F.pr F.now) then
      kr (SV.bool false)
    else
      bif decide ((0 : Int) ≤ l) then
        bif x == (1 : Int) then bif z == l then kr (SV.bool (F.a0 == l)) else kr (SV.bool false) else kr (SV.bool false)
      else
        bif F.lm then kr (SV.bool (x == (0 : Int) && (z == (-1 : Int) && true)))
        else
          bif p then
            bif x == (2 : Int) then
              bif decide ((0 : Int) < F.n0) then
                bif decide (IntKind.i64.wrap (F.b0 + (3000000 : Int)) ≤ z) then
                  SoonP (Fc.mk F.k0 F.a0 F.b0 F.n0 F.k1 F.a1 F.b1 F.n1 F.k2 F.a2 F.b2 F.n2 F.cf F.lm F.pr F.now)
                      (x, (0 : Int), z) ∧
                    kr (SV.bool true)
                else kr (SV.bool false)
              else kr (SV.bool false)
            else kr (SV.bool false)
          else
            bif m == (0 : Int) then
              bif !F.pr then
                bif F.k0 then
                  bif x == (2 : Int) then
                    bif F.k0 then
                      bif !F.k1 then kr (SV.bool (z == IntKind.i64.wrap (F.now + (6400000 : Int)))) else kr (SV.bool false)
                    else kr (SV.bool false)
                  else kr (SV.bool false)
                else
                  bif F.k1 then
                    bif x == (2 : Int) then
                      bif F.k0 then
                        bif !F.k1 then kr (SV.bool (z == IntKind.i64.wrap (F.now + (6400000 : Int))))
                        else kr (SV.bool false)
                      else kr (SV.bool false)
                    else kr (SV.bool false)
                  else kr (SV.bool (x == (0 : Int) && (z == (-1 : Int) && true)))
              else kr (SV.bool (x == (0 : Int) && (z == (-1 : Int) && true)))
            else kr (SV.bool (x == (0 : Int) && (z == (-1 : Int) && true)))) := by kernel_rfl
theorem p6_71 (x0 x1 x2 : Rw) (F : Fc) (x z : Int) (l : Int) (p : Bool) (m : Int) (Kt : KT) (kr : SV → Prop) : evalC C14 64  0 c6_7 (tplF 184 L6 (v6 (.int .i64 l) (.bool p) (.int .i64 m) .top)) ((h6 x0 x1 x2 F (x, 1, z)).map mkB) ( obsE Try.prog Try.f6.results.toList L6 M6 Kt kr) = (
    bif !mayF (Fc.mk F.k0 F.a0 F.b0 F.n0 F.k1 F.a1 F.b1 F.n1 F.k2 F.a2 F.b2 F.n2 F.cf F.lm F.pr F.now) then
      kr (SV.bool false)
    else
      bif decide ((0 : Int) ≤ l) then
        bif x == (1 : Int) then bif z == l then kr (SV.bool (F.a1 == l)) else kr (SV.bool false) else kr (SV.bool false)
      else
        bif F.lm then kr (SV.bool (x == (0 : Int) && false))
        else
          bif p then
            bif x == (2 : Int) then
              bif decide ((0 : Int) < F.n1) then
                bif decide (IntKind.i64.wrap (F.b1 + (3000000 : Int)) ≤ z) then
                  SoonP (Fc.mk F.k0 F.a0 F.b0 F.n0 F.k1 F.a1 F.b1 F.n1 F.k2 F.a2 F.b2 F.n2 F.cf F.lm F.pr F.now)
                      (x, (1 : Int), z) ∧
                    kr (SV.bool true)
                else kr (SV.bool false)
              else kr (SV.bool false)
            else kr (SV.bool false)
          else
            bif m == (0 : Int) then
              bif !F.pr then
                bif F.k0 then
                  bif x == (2 : Int) then
                    bif F.k1 then kr (SV.bool (z == IntKind.i64.wrap (F.now + (6400000 : Int)))) else kr (SV.bool false)
                  else kr (SV.bool false)
                else
                  bif F.k1 then
                    bif x == (2 : Int) then
                      bif F.k1 then kr (SV.bool (z == IntKind.i64.wrap (F.now + (6400000 : Int)))) else kr (SV.bool false)
                    else kr (SV.bool false)
                  else kr (SV.bool (x == (0 : Int) && false))
              else kr (SV.bool (x == (0 : Int) && false))
            else kr (SV.bool (x == (0 : Int) && false))) := by kernel_rfl
theorem p6_72 (x0 x1 x2 : Rw) (F : Fc) (x z : Int) (l : Int) (p : Bool) (m : Int) (Kt : KT) (kr : SV → Prop) : evalC C14 64  0 c6_7 (tplF 184 L6 (v6 (.int .i64 l) (.bool p) (.int .i64 m) .top)) ((h6 x0 x1 x2 F (x, 2, z)).map mkB) ( obsE Try.prog Try.f6.results.toList L6 M6 Kt kr) = (
    bif !mayF (Fc.mk F.k0 F.a0 F.b0 F.n0 F.k1 F.a1 F.b1 F.n1 F.k2 F.a2 F.b2 F.n2 F.cf F.lm F.pr F.now) then
      kr (SV.bool false)
    else
      bif decide ((0 : Int) ≤ l) then
        bif x == (1 : Int) then bif z == l then kr (SV.bool (F.a2 == l)) else kr (SV.bool false) else kr (SV.bool false)
      else
        bif F.lm then kr (SV.bool (x == (0 : Int) && false))
        else
          bif p then
            bif x == (2 : Int) then
              bif decide ((0 : Int) < F.n2) then
                bif decide (IntKind.i64.wrap (F.b2 + (3000000 : Int)) ≤ z) then
                  SoonP (Fc.mk F.k0 F.a0 F.b0 F.n0 F.k1 F.a1 F.b1 F.n1 F.k2 F.a2 F.b2 F.n2 F.cf F.lm F.pr F.now)
                      (x, (2 : Int), z) ∧
                    kr (SV.bool true)
                else kr (SV.bool false)
              else kr (SV.bool false)
            else kr (SV.bool false)
          else
            bif m == (0 : Int) then
              bif !F.pr then
                bif F.k0 then bif x == (2 : Int) then kr (SV.bool false) else kr (SV.bool false)
                else
                  bif F.k1 then bif x == (2 : Int) then kr (SV.bool false) else kr (SV.bool false)
                  else kr (SV.bool (x == (0 : Int) && false))
              else kr (SV.bool (x == (0 : Int) && false))
            else kr (SV.bool (x == (0 : Int) && false))) := by kernel_rfl
end Go.Proofs.Ytfoogfhcjnpokaa
