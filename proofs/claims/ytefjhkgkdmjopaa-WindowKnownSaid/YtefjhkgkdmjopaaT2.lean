/-
  What functions of the program come to, way by way: printed by a program, held by the kernel.
-/
import Derived.Test.YtefjhkgkdmjopaaX2
namespace Go.Proofs.Ytefjhkgkdmjopaa
open Go.RowKit
set_option maxRecDepth 100000

theorem t35 (w : Wn) (n : Int) (kk : SV → BO → Prop) : evalC C2a 64  1 (bodF Try.f35) (enterS 7 [.ptr 0 0 6 0, .int .i64 n]) (wB w) ( endK Try.prog Try.f35.results.toList (fun v hp => kk v (obsB true (hget hp 0)))) = (
    (Sm (Wn.mk w.d w.m w.c w.t w.s w.g) ∧ (n - (0 : Int)).NonNeg ∧ ((65535 : Int) - n).NonNeg) ∧
      ∀ (w' : Wn),
        w' = growW (Wn.mk w.d w.m w.c w.t w.s w.g) n →
          kk (SV.tuple [])
            (BO.rows (6 : Nat) (1 : Nat) true (60 : Nat)
              [[SV.int IntKind.i64 w'.d, SV.int IntKind.i64 w'.m, SV.int IntKind.i64 w'.c, SV.int IntKind.i64 w'.t,
                  SV.int IntKind.i64 w'.s, SV.int IntKind.i64 w'.g]])) := by kernel_rfl
theorem t38 (w : Wn) (x y : Int) (kk : SV → BO → Prop) : evalC C2 64  3 (bodF Try.f38) (enterS 39 [.ptr 0 0 6 0, .ptr 1 0 1 0, .ptr 2 0 1 0]) [some (oneB (wC w) true 60), some (oneB [.int .i64 x] false 0), some (oneB [.int .i64 y] false 0)] ( endK Try.prog Try.f38.results.toList (fun v hp => kk v (obsB true (hget hp 0)))) = (
    bif !behV (Wn.mk w.d w.m w.c w.t w.s w.g) x then
      kk (SV.tuple [])
        (BO.rows (6 : Nat) (1 : Nat) true (60 : Nat)
          [[SV.int IntKind.i64 w.d, SV.int IntKind.i64 w.m, SV.int IntKind.i64 w.c, SV.int IntKind.i64 w.t,
              SV.int IntKind.i64 w.s, SV.int IntKind.i64 w.g]])
    else
      bif decide ((1200 : Int) ≤ w.d ∧ w.d ≤ (65527 : Int)) then
        kk (SV.tuple [])
          (BO.rows (6 : Nat) (1 : Nat) true (60 : Nat)
            [[SV.int IntKind.i64 w.d, SV.int IntKind.i64 w.m,
                SV.int IntKind.i64
                  (if (2 : Int) * w.d > IntKind.i64.wrap (w.c.tdiv (2 : Int)) then (2 : Int) * w.d
                  else IntKind.i64.wrap (w.c.tdiv (2 : Int))),
                SV.int IntKind.i64 (IntKind.i64.wrap (w.c.tdiv (2 : Int))), SV.int IntKind.i64 y,
                SV.int IntKind.i64 (0 : Int)]])
      else False) := by kernel_rfl
theorem t31 (w : Wn) (x : Bool) (p : Pk) (kk : SV → BO → Prop) : evalC C2 64  3 (bodF Try.f31) (enterS 24 [.ptr 0 0 6 0, .ptr 1 0 1 0, .ptr 2 0 6 0]) [some (oneB (wC w) true 60), some (oneB [.bool x] false 0), some (oneB (pC p) false 0)] ( endK Try.prog Try.f31.results.toList (fun v hp => kk v (obsB true (hget hp 0)))) = (
    bif !x then
      kk (SV.tuple [])
        (BO.rows (6 : Nat) (1 : Nat) true (60 : Nat)
          [[SV.int IntKind.i64 w.d, SV.int IntKind.i64 w.m, SV.int IntKind.i64 w.c, SV.int IntKind.i64 w.t,
              SV.int IntKind.i64 w.s, SV.int IntKind.i64 w.g]])
    else
      bif !behV (Wn.mk w.d w.m w.c w.t w.s w.g) p.t then
        kk (SV.tuple [])
          (BO.rows (6 : Nat) (1 : Nat) true (60 : Nat)
            [[SV.int IntKind.i64 w.d, SV.int IntKind.i64 w.m, SV.int IntKind.i64 w.c, SV.int IntKind.i64 w.t,
                SV.int IntKind.i64 w.s, SV.int IntKind.i64 w.g]])
      else
        bif slowV (Wn.mk w.d w.m w.c w.t w.s w.g) then
          (Sm (Wn.mk w.d w.m w.c w.t w.s w.g) ∧ (p.s - (0 : Int)).NonNeg ∧ ((65535 : Int) - p.s).NonNeg) ∧
            ∀ (w' : Wn),
              w' = growW (Wn.mk w.d w.m w.c w.t w.s w.g) p.s →
                kk (SV.tuple [])
                  (BO.rows (6 : Nat) (1 : Nat) true (60 : Nat)
                    [[SV.int IntKind.i64 w'.d, SV.int IntKind.i64 w'.m, SV.int IntKind.i64 w'.c, SV.int IntKind.i64 w'.t,
                        SV.int IntKind.i64 w'.s, SV.int IntKind.i64 w'.g]])
        else
          (mayW (Wn.mk w.d w.m w.c w.t w.s w.g) = true ∧ (p.s - (0 : Int)).NonNeg ∧ ((65535 : Int) - p.s).NonNeg) ∧
            ∀ (w' : Wn),
              w' = slowW (Wn.mk w.d w.m w.c w.t w.s w.g) p.s →
                kk (SV.tuple [])
                  (BO.rows (6 : Nat) (1 : Nat) true (60 : Nat)
                    [[SV.int IntKind.i64 w'.d, SV.int IntKind.i64 w'.m, SV.int IntKind.i64 w'.c, SV.int IntKind.i64 w'.t,
                        SV.int IntKind.i64 w'.s, SV.int IntKind.i64 w'.g]])) := by kernel_rfl
theorem p33a (w : Wn) (n : Int) (Kt : KT) : evalC C2a 0  1 c33_0 (enterS 46 [.ptr 0 0 6 0, .int .i64 n]) (wB w) ( obsN L33 M33 Kt) = (
    Kt Ex.normal (46 : Nat) [SV.ptr (0 : Nat) (0 : Nat) (6 : Nat) (0 : Nat)]
      [BO.rows (6 : Nat) (1 : Nat) true (60 : Nat)
          [[SV.int IntKind.i64 w.d, SV.int IntKind.i64 w.m, SV.int IntKind.i64 w.c, SV.int IntKind.i64 w.t,
              SV.int IntKind.i64 w.s, SV.int IntKind.i64 (IntKind.i64.wrap (w.g + n))]]]) := by kernel_rfl
theorem p33b (w : Wn) (Kt : KT) : evalC C2a 0  1 c33_1 (tplF 46 L33 v33) ((h33 w).map mkB) ( obsN L33 M33 Kt) = (
    bif decide (w.c ≤ w.g) then
      (Sm (Wn.mk w.d w.m w.c w.t w.s (IntKind.i64.wrap (w.g - w.c))) ∧
          (w.d - (0 : Int)).NonNeg ∧ ((65535 : Int) - w.d).NonNeg) ∧
        ∀ (w' : Wn),
          w' = growW (Wn.mk w.d w.m w.c w.t w.s (IntKind.i64.wrap (w.g - w.c))) w.d →
            Kt Ex.normal (46 : Nat) [SV.ptr (0 : Nat) (0 : Nat) (6 : Nat) (0 : Nat)]
              [BO.rows (6 : Nat) (1 : Nat) true (60 : Nat)
                  [[SV.int IntKind.i64 w'.d, SV.int IntKind.i64 w'.m, SV.int IntKind.i64 w'.c, SV.int IntKind.i64 w'.t,
                      SV.int IntKind.i64 w'.s, SV.int IntKind.i64 w'.g]]]
    else
      Kt (Ex.exit (0 : Nat)) (46 : Nat) [SV.ptr (0 : Nat) (0 : Nat) (6 : Nat) (0 : Nat)]
        [BO.rows (6 : Nat) (1 : Nat) true (60 : Nat)
            [[SV.int IntKind.i64 w.d, SV.int IntKind.i64 w.m, SV.int IntKind.i64 w.c, SV.int IntKind.i64 w.t,
                SV.int IntKind.i64 w.s, SV.int IntKind.i64 w.g]]]) := by kernel_rfl
theorem t29_40 (w : Wn) (ok : Bool) (kk : SV → Prop) : evalC C3 64  0 (bodF Try.f29) (enterS 28 [.agg (wC w), .bool ok, .func (.func 40) [] []]) [] ( endK Try.prog Try.f29.results.toList (fun v _ => kk v)) = (
    bif !mayW (Wn.mk w.d w.m w.c w.t w.s w.g) then
      kk
        (SV.tuple
          [SV.agg
              [SV.int IntKind.i64 (0 : Int), SV.int IntKind.i64 (0 : Int), SV.int IntKind.i64 (0 : Int),
                SV.int IntKind.i64 (0 : Int), SV.int IntKind.i64 (0 : Int), SV.int IntKind.i64 (0 : Int)],
            SV.int IntKind.i64 (2 : Int)])
    else
      bif !ok then
        kk
          (SV.tuple
            [SV.agg
                [SV.int IntKind.i64 (0 : Int), SV.int IntKind.i64 (0 : Int), SV.int IntKind.i64 (0 : Int),
                  SV.int IntKind.i64 (0 : Int), SV.int IntKind.i64 (0 : Int), SV.int IntKind.i64 (0 : Int)],
              SV.int IntKind.i64 (9 : Int)])
      else
        mayW (Wn.mk w.d w.m w.c w.t w.s w.g) = true ∧
          ∀ (w' : Wn),
            w' = col1 (Wn.mk w.d w.m w.c w.t w.s w.g) →
              kk
                (SV.tuple
                  [SV.agg
                      [SV.int IntKind.i64 w'.d, SV.int IntKind.i64 w'.m, SV.int IntKind.i64 w'.c, SV.int IntKind.i64 w'.t,
                        SV.int IntKind.i64 w'.s, SV.int IntKind.i64 w'.g],
                    SV.int IntKind.i64 (0 : Int)])) := by kernel_rfl
theorem t29_38 (w : Wn) (ok : Bool) (x y : Int) (kk : SV → Prop) : evalC C3 64  2 (bodF Try.f29) (enterS 28 [.agg (wC w), .bool ok, .func (.func 38) [] [.ptr 0 0 1 0, .ptr 1 0 1 0]]) [some (oneB [.int .i64 x] false 0), some (oneB [.int .i64 y] false 0)] ( endK Try.prog Try.f29.results.toList (fun v _ => kk v)) = (
    bif !mayW (Wn.mk w.d w.m w.c w.t w.s w.g) then
      kk
        (SV.tuple
          [SV.agg
              [SV.int IntKind.i64 (0 : Int), SV.int IntKind.i64 (0 : Int), SV.int IntKind.i64 (0 : Int),
                SV.int IntKind.i64 (0 : Int), SV.int IntKind.i64 (0 : Int), SV.int IntKind.i64 (0 : Int)],
            SV.int IntKind.i64 (2 : Int)])
    else
      bif !ok then
        kk
          (SV.tuple
            [SV.agg
                [SV.int IntKind.i64 (0 : Int), SV.int IntKind.i64 (0 : Int), SV.int IntKind.i64 (0 : Int),
                  SV.int IntKind.i64 (0 : Int), SV.int IntKind.i64 (0 : Int), SV.int IntKind.i64 (0 : Int)],
              SV.int IntKind.i64 (9 : Int)])
      else
        mayW (Wn.mk w.d w.m w.c w.t w.s w.g) = true ∧
          ∀ (w' : Wn),
            w' = bad1 (Wn.mk w.d w.m w.c w.t w.s w.g) x y →
              kk
                (SV.tuple
                  [SV.agg
                      [SV.int IntKind.i64 w'.d, SV.int IntKind.i64 w'.m, SV.int IntKind.i64 w'.c, SV.int IntKind.i64 w'.t,
                        SV.int IntKind.i64 w'.s, SV.int IntKind.i64 w'.g],
                    SV.int IntKind.i64 (0 : Int)])) := by kernel_rfl
theorem t29_31 (w : Wn) (ok x : Bool) (p : Pk) (kk : SV → Prop) : evalC C3 64  2 (bodF Try.f29) (enterS 28 [.agg (wC w), .bool ok, .func (.func 31) [] [.ptr 0 0 1 0, .ptr 1 0 6 0]]) [some (oneB [.bool x] false 0), some (oneB (pC p) false 0)] ( endK Try.prog Try.f29.results.toList (fun v _ => kk v)) = (
    bif !mayW (Wn.mk w.d w.m w.c w.t w.s w.g) then
      kk
        (SV.tuple
          [SV.agg
              [SV.int IntKind.i64 (0 : Int), SV.int IntKind.i64 (0 : Int), SV.int IntKind.i64 (0 : Int),
                SV.int IntKind.i64 (0 : Int), SV.int IntKind.i64 (0 : Int), SV.int IntKind.i64 (0 : Int)],
            SV.int IntKind.i64 (2 : Int)])
    else
      bif !ok then
        kk
          (SV.tuple
            [SV.agg
                [SV.int IntKind.i64 (0 : Int), SV.int IntKind.i64 (0 : Int), SV.int IntKind.i64 (0 : Int),
                  SV.int IntKind.i64 (0 : Int), SV.int IntKind.i64 (0 : Int), SV.int IntKind.i64 (0 : Int)],
              SV.int IntKind.i64 (9 : Int)])
      else
        (mayW (Wn.mk w.d w.m w.c w.t w.s w.g) = true ∧ (p.s - (1 : Int)).NonNeg ∧ ((65535 : Int) - p.s).NonNeg) ∧
          ∀ (w' : Wn),
            w' =
                ack1 (Wn.mk w.d w.m w.c w.t w.s w.g) (Pk.mk p.n p.t p.s p.a p.b p.c).t (Pk.mk p.n p.t p.s p.a p.b p.c).s x →
              kk
                (SV.tuple
                  [SV.agg
                      [SV.int IntKind.i64 w'.d, SV.int IntKind.i64 w'.m, SV.int IntKind.i64 w'.c, SV.int IntKind.i64 w'.t,
                        SV.int IntKind.i64 w'.s, SV.int IntKind.i64 w'.g],
                    SV.int IntKind.i64 (0 : Int)])) := by kernel_rfl
theorem t12 (w : Wn) (p : Pk) (full : Bool) (kk : SV → Prop) : evalF C4 64 Try.f12 [.agg (wC w), .agg (pC p), .bool full] [] (fun v _ => kk v) = (
    bif isT p.t then
      bif decide ((1 : Int) ≤ p.s) then
        (decide (p.s ≤ (65535 : Int)) = true → (p.s - (1 : Int)).NonNeg ∧ ((65535 : Int) - p.s).NonNeg) ∧
          ∀ (r' : Wn) (e : Int),
            r' =
                chW (Wn.mk w.d w.m w.c w.t w.s w.g) (decide (p.s ≤ (65535 : Int)))
                  (ack1 (Wn.mk w.d w.m w.c w.t w.s w.g) (Pk.mk p.n p.t p.s p.a p.b p.c).t (Pk.mk p.n p.t p.s p.a p.b p.c).s
                    full) →
              e = chE (Wn.mk w.d w.m w.c w.t w.s w.g) (decide (p.s ≤ (65535 : Int))) →
                kk
                  (SV.tuple
                    [SV.agg
                        [SV.int IntKind.i64 r'.d, SV.int IntKind.i64 r'.m, SV.int IntKind.i64 r'.c, SV.int IntKind.i64 r'.t,
                          SV.int IntKind.i64 r'.s, SV.int IntKind.i64 r'.g],
                      SV.int IntKind.i64 e])
      else
        (false = true → (p.s - (1 : Int)).NonNeg ∧ ((65535 : Int) - p.s).NonNeg) ∧
          ∀ (r' : Wn) (e : Int),
            r' =
                chW (Wn.mk w.d w.m w.c w.t w.s w.g) false
                  (ack1 (Wn.mk w.d w.m w.c w.t w.s w.g) (Pk.mk p.n p.t p.s p.a p.b p.c).t (Pk.mk p.n p.t p.s p.a p.b p.c).s
                    full) →
              e = chE (Wn.mk w.d w.m w.c w.t w.s w.g) false →
                kk
                  (SV.tuple
                    [SV.agg
                        [SV.int IntKind.i64 r'.d, SV.int IntKind.i64 r'.m, SV.int IntKind.i64 r'.c, SV.int IntKind.i64 r'.t,
                          SV.int IntKind.i64 r'.s, SV.int IntKind.i64 r'.g],
                      SV.int IntKind.i64 e])
    else
      (false = true → (p.s - (1 : Int)).NonNeg ∧ ((65535 : Int) - p.s).NonNeg) ∧
        ∀ (r' : Wn) (e : Int),
          r' =
              chW (Wn.mk w.d w.m w.c w.t w.s w.g) false
                (ack1 (Wn.mk w.d w.m w.c w.t w.s w.g) (Pk.mk p.n p.t p.s p.a p.b p.c).t (Pk.mk p.n p.t p.s p.a p.b p.c).s
                  full) →
            e = chE (Wn.mk w.d w.m w.c w.t w.s w.g) false →
              kk
                (SV.tuple
                  [SV.agg
                      [SV.int IntKind.i64 r'.d, SV.int IntKind.i64 r'.m, SV.int IntKind.i64 r'.c, SV.int IntKind.i64 r'.t,
                        SV.int IntKind.i64 r'.s, SV.int IntKind.i64 r'.g],
                    SV.int IntKind.i64 e])) := by kernel_rfl
theorem t14 (w : Wn) (x y : Int) (kk : SV → Prop) : evalF C4 64 Try.f14 [.agg (wC w), .int .i64 x, .int .i64 y] [] (fun v _ => kk v) = (
    bif isT x then
      ∀ (r' : Wn) (e : Int),
        r' = chW (Wn.mk w.d w.m w.c w.t w.s w.g) (isT y) (bad1 (Wn.mk w.d w.m w.c w.t w.s w.g) x y) →
          e = chE (Wn.mk w.d w.m w.c w.t w.s w.g) (isT y) →
            kk
              (SV.tuple
                [SV.agg
                    [SV.int IntKind.i64 r'.d, SV.int IntKind.i64 r'.m, SV.int IntKind.i64 r'.c, SV.int IntKind.i64 r'.t,
                      SV.int IntKind.i64 r'.s, SV.int IntKind.i64 r'.g],
                  SV.int IntKind.i64 e])
    else
      ∀ (r' : Wn) (e : Int),
        r' = chW (Wn.mk w.d w.m w.c w.t w.s w.g) false (bad1 (Wn.mk w.d w.m w.c w.t w.s w.g) x y) →
          e = chE (Wn.mk w.d w.m w.c w.t w.s w.g) false →
            kk
              (SV.tuple
                [SV.agg
                    [SV.int IntKind.i64 r'.d, SV.int IntKind.i64 r'.m, SV.int IntKind.i64 r'.c, SV.int IntKind.i64 r'.t,
                      SV.int IntKind.i64 r'.s, SV.int IntKind.i64 r'.g],
                  SV.int IntKind.i64 e])) := by kernel_rfl
theorem t15 (w : Wn) (x y : Int) (kk : SV → Prop) : evalF C4 64 Try.f15 [.agg (wC w), .int .i64 x, .int .i64 y] [] (fun v _ => kk v) = (
    bif (bif mayW (Wn.mk w.d w.m w.c w.t w.s w.g) then (0 : Int) else (2 : Int)) != (0 : Int) then
      kk
        (SV.tuple
          [SV.agg
              [SV.int IntKind.i64 (0 : Int), SV.int IntKind.i64 (0 : Int), SV.int IntKind.i64 (0 : Int),
                SV.int IntKind.i64 (0 : Int), SV.int IntKind.i64 (0 : Int), SV.int IntKind.i64 (0 : Int)],
            SV.int IntKind.i64 (bif mayW (Wn.mk w.d w.m w.c w.t w.s w.g) then (0 : Int) else (2 : Int))])
    else
      bif !isT x then
        kk
          (SV.tuple
            [SV.agg
                [SV.int IntKind.i64 (0 : Int), SV.int IntKind.i64 (0 : Int), SV.int IntKind.i64 (0 : Int),
                  SV.int IntKind.i64 (0 : Int), SV.int IntKind.i64 (0 : Int), SV.int IntKind.i64 (0 : Int)],
              SV.int IntKind.i64 (9 : Int)])
      else
        bif !isT y then
          kk
            (SV.tuple
              [SV.agg
                  [SV.int IntKind.i64 (0 : Int), SV.int IntKind.i64 (0 : Int), SV.int IntKind.i64 (0 : Int),
                    SV.int IntKind.i64 (0 : Int), SV.int IntKind.i64 (0 : Int), SV.int IntKind.i64 (0 : Int)],
                SV.int IntKind.i64 (9 : Int)])
        else
          bif !behV (Wn.mk w.d w.m w.c w.t w.s w.g) x then
            kk
              (SV.tuple
                [SV.agg
                    [SV.int IntKind.i64 w.d, SV.int IntKind.i64 w.m, SV.int IntKind.i64 w.c, SV.int IntKind.i64 w.t,
                      SV.int IntKind.i64 w.s, SV.int IntKind.i64 w.g],
                  SV.int IntKind.i64 (0 : Int)])
          else
            kk
              (SV.tuple
                [SV.agg
                    [SV.int IntKind.i64 w.d, SV.int IntKind.i64 w.m,
                      SV.int IntKind.i64
                        (if IntKind.i64.wrap ((2 : Int) * w.d) > IntKind.i64.wrap (w.c.tdiv (2 : Int)) then
                          IntKind.i64.wrap ((2 : Int) * w.d)
                        else IntKind.i64.wrap (w.c.tdiv (2 : Int))),
                      SV.int IntKind.i64 (IntKind.i64.wrap (w.c.tdiv (2 : Int))), SV.int IntKind.i64 y,
                      SV.int IntKind.i64 (0 : Int)],
                  SV.int IntKind.i64 (0 : Int)])) := by kernel_rfl
theorem t16 (w : Wn) (kk : SV → Prop) : evalF C4 64 Try.f16 [.agg (wC w)] [] (fun v _ => kk v) = (
    ∀ (r' : Wn) (e : Int),
      r' = chW (Wn.mk w.d w.m w.c w.t w.s w.g) true (col1 (Wn.mk w.d w.m w.c w.t w.s w.g)) →
        e = chE (Wn.mk w.d w.m w.c w.t w.s w.g) true →
          kk
            (SV.tuple
              [SV.agg
                  [SV.int IntKind.i64 r'.d, SV.int IntKind.i64 r'.m, SV.int IntKind.i64 r'.c, SV.int IntKind.i64 r'.t,
                    SV.int IntKind.i64 r'.s, SV.int IntKind.i64 r'.g],
                SV.int IntKind.i64 e])) := by kernel_rfl
theorem t17 (w : Wn) (kk : SV → Prop) : evalF C4 64 Try.f17 [.agg (wC w)] [] (fun v _ => kk v) = (
    bif (bif mayW (Wn.mk w.d w.m w.c w.t w.s w.g) then (0 : Int) else (2 : Int)) != (0 : Int) then
      kk
        (SV.tuple
          [SV.agg
              [SV.int IntKind.i64 (0 : Int), SV.int IntKind.i64 (0 : Int), SV.int IntKind.i64 (0 : Int),
                SV.int IntKind.i64 (0 : Int), SV.int IntKind.i64 (0 : Int), SV.int IntKind.i64 (0 : Int)],
            SV.int IntKind.i64 (bif mayW (Wn.mk w.d w.m w.c w.t w.s w.g) then (0 : Int) else (2 : Int))])
    else
      kk
        (SV.tuple
          [SV.agg
              [SV.int IntKind.i64 w.d, SV.int IntKind.i64 w.m, SV.int IntKind.i64 (IntKind.i64.wrap ((2 : Int) * w.d)),
                SV.int IntKind.i64 w.t, SV.int IntKind.i64 (-1 : Int), SV.int IntKind.i64 (0 : Int)],
            SV.int IntKind.i64 (0 : Int)])) := by kernel_rfl
theorem t18 (d f m : Int) (kk : SV → Prop) : evalF C4 64 Try.f18 [.int .i64 d, .int .i64 f, .int .i64 m] [] (fun v _ => kk v) = (
    bif (bif mayW (Wn.mk d m f (-1 : Int) (-1 : Int) (0 : Int)) then (0 : Int) else (2 : Int)) != (0 : Int) then
      kk
        (SV.tuple
          [SV.agg
              [SV.int IntKind.i64 (0 : Int), SV.int IntKind.i64 (0 : Int), SV.int IntKind.i64 (0 : Int),
                SV.int IntKind.i64 (0 : Int), SV.int IntKind.i64 (0 : Int), SV.int IntKind.i64 (0 : Int)],
            SV.int IntKind.i64 (bif mayW (Wn.mk d m f (-1 : Int) (-1 : Int) (0 : Int)) then (0 : Int) else (2 : Int))])
    else
      kk
        (SV.tuple
          [SV.agg
              [SV.int IntKind.i64 d, SV.int IntKind.i64 m, SV.int IntKind.i64 f, SV.int IntKind.i64 (-1 : Int),
                SV.int IntKind.i64 (-1 : Int), SV.int IntKind.i64 (0 : Int)],
            SV.int IntKind.i64 (0 : Int)])) := by kernel_rfl
theorem t19 (d f m : Int) (kk : SV → Prop) : evalF C4 64 Try.f19 [.int .i64 d, .int .i64 f, .int .i64 m] [] (fun v _ => kk v) = (
    bif (bif mayW (Wn.mk d m f (-1 : Int) (-1 : Int) (0 : Int)) then (0 : Int) else (2 : Int)) != (0 : Int) then
      kk
        (SV.tuple
          [SV.agg
              [SV.int IntKind.i64 (0 : Int), SV.int IntKind.i64 (0 : Int), SV.int IntKind.i64 (0 : Int),
                SV.int IntKind.i64 (0 : Int), SV.int IntKind.i64 (0 : Int), SV.int IntKind.i64 (0 : Int)],
            SV.int IntKind.i64 (2 : Int)])
    else
      kk
        (SV.tuple
          [SV.agg
              [SV.int IntKind.i64 d, SV.int IntKind.i64 m, SV.int IntKind.i64 f, SV.int IntKind.i64 (-1 : Int),
                SV.int IntKind.i64 (-1 : Int), SV.int IntKind.i64 (0 : Int)],
            SV.int IntKind.i64 (0 : Int)])) := by kernel_rfl
theorem t20 (w : Wn) (kk : SV → Prop) : evalF C3 64 Try.f20 [.agg (wC w)] [] (fun v _ => kk v) = (
    bif !mayW (Wn.mk w.d w.m w.c w.t w.s w.g) then kk (SV.int IntKind.i64 (2 : Int)) else kk (SV.int IntKind.i64 (0 : Int))) := by kernel_rfl
theorem t21 (w : Wn) (kk : SV → Prop) : evalF C3 64 Try.f21 [.agg (wC w)] [] (fun v _ => kk v) = (
    bif decide (w.d < (1200 : Int)) then kk (SV.int IntKind.i64 (2 : Int))
    else
      bif decide ((65527 : Int) < w.d) then kk (SV.int IntKind.i64 (2 : Int))
      else
        bif decide (w.m < IntKind.i64.wrap ((2 : Int) * w.d)) then kk (SV.int IntKind.i64 (2 : Int))
        else
          bif decide ((1099511627776 : Int) < w.m) then kk (SV.int IntKind.i64 (2 : Int))
          else
            bif decide (w.c < IntKind.i64.wrap ((2 : Int) * w.d)) then kk (SV.int IntKind.i64 (2 : Int))
            else
              bif decide (w.m < w.c) then kk (SV.int IntKind.i64 (2 : Int))
              else
                bif w.t != (-1 : Int) then
                  bif decide (w.t < w.d) then kk (SV.int IntKind.i64 (2 : Int))
                  else
                    bif decide (w.m < w.t) then kk (SV.int IntKind.i64 (2 : Int))
                    else
                      bif w.s != (-1 : Int) then
                        bif !isT w.s then kk (SV.int IntKind.i64 (2 : Int))
                        else
                          bif decide (w.g < (0 : Int)) then kk (SV.int IntKind.i64 (2 : Int))
                          else
                            bif decide (w.c ≤ w.g) then kk (SV.int IntKind.i64 (2 : Int))
                            else kk (SV.int IntKind.i64 (0 : Int))
                      else
                        bif decide (w.g < (0 : Int)) then kk (SV.int IntKind.i64 (2 : Int))
                        else
                          bif decide (w.c ≤ w.g) then kk (SV.int IntKind.i64 (2 : Int))
                          else kk (SV.int IntKind.i64 (0 : Int))
                else
                  bif w.s != (-1 : Int) then
                    bif !isT w.s then kk (SV.int IntKind.i64 (2 : Int))
                    else
                      bif decide (w.g < (0 : Int)) then kk (SV.int IntKind.i64 (2 : Int))
                      else
                        bif decide (w.c ≤ w.g) then kk (SV.int IntKind.i64 (2 : Int)) else kk (SV.int IntKind.i64 (0 : Int))
                  else
                    bif decide (w.g < (0 : Int)) then kk (SV.int IntKind.i64 (2 : Int))
                    else
                      bif decide (w.c ≤ w.g) then kk (SV.int IntKind.i64 (2 : Int)) else kk (SV.int IntKind.i64 (0 : Int))) := by kernel_rfl
theorem t22 (w : Wn) (kk : SV → Prop) : evalF C4 64 Try.f22 [.agg (wC w)] [] (fun v _ => kk v) = (
    bif mayW (Wn.mk w.d w.m w.c w.t w.s w.g) then kk (SV.bool (slowV (Wn.mk w.d w.m w.c w.t w.s w.g)))
    else kk (SV.bool false)) := by kernel_rfl
theorem t23 (w : Wn) (kk : SV → Prop) : evalF C4 64 Try.f23 [.agg (wC w)] [] (fun v _ => kk v) = (
    bif (bif mayW (Wn.mk w.d w.m w.c w.t w.s w.g) then (0 : Int) else (2 : Int)) == (0 : Int) then
      bif w.t == (-1 : Int) then kk (SV.bool true) else kk (SV.bool (decide (w.c < w.t)))
    else kk (SV.bool false)) := by kernel_rfl
theorem t37 (w : Wn) (n : Int) (kk : SV → Prop) : evalF C3 64 Try.f37 [.agg (wC w), .int .i64 n] [] (fun v _ => kk v) = (
    bif w.s == (-1 : Int) then kk (SV.bool true) else kk (SV.bool (decide (w.s < n)))) := by kernel_rfl
end Go.Proofs.Ytefjhkgkdmjopaa
