/-
  What functions of the program come to, way by way: printed by a program, held by the kernel.
-/
import Derived.Test.YtefjhkgkdmjopaaX1
namespace Go.Proofs.Ytefjhkgkdmjopaa
open Go.RowKit
set_option maxRecDepth 100000

theorem t30 (n : Int) (kk : SV → Prop) : evalF C0 64 Try.f30 [.int .i64 n] [] (fun v _ => kk v) = (
    bif decide ((0 : Int) ≤ n) then kk (SV.bool (decide (n ≤ (9007199254740991 : Int)))) else kk (SV.bool false)) := by kernel_rfl
theorem t36 (n : Int) (kk : SV → Prop) : evalF C0 64 Try.f36 [.int .i64 n] [] (fun v _ => kk v) = (
    bif decide ((0 : Int) ≤ n) then kk (SV.bool (decide (n ≤ (9007199254740991 : Int)))) else kk (SV.bool false)) := by kernel_rfl
theorem t11 (x n : Int) (kk : SV → Prop) : evalF C0 64 Try.f11 [.int .i64 x, .int .i64 n] [] (fun v _ => kk v) = (
    bif n == (0 : Int) then False
    else
      bif decide (x.tmod n < (0 : Int)) then kk (SV.int IntKind.i64 (IntKind.i64.wrap (x.tmod n + n)))
      else kk (SV.int IntKind.i64 (x.tmod n))) := by kernel_rfl
theorem t39 (w : Wn) (kk : SV → Prop) : evalC C0 64  1 (bodF Try.f39) (enterS 9 [.ptr 0 0 6 0]) (rB w) ( endK Try.prog Try.f39.results.toList (fun v _ => kk v)) = (
    kk (SV.int IntKind.i64 (IntKind.i64.wrap ((2 : Int) * w.d)))) := by kernel_rfl
theorem t32 (w : Wn) (n : Int) (kk : SV → Prop) : evalC C0 64  1 (bodF Try.f32) (enterS 20 [.ptr 0 0 6 0, .int .i64 n]) (rB w) ( endK Try.prog Try.f32.results.toList (fun v _ => kk v)) = (
    bif w.s == (-1 : Int) then kk (SV.bool true) else kk (SV.bool (decide (w.s < n)))) := by kernel_rfl
theorem t34 (w : Wn) (kk : SV → Prop) : evalC C0 64  1 (bodF Try.f34) (enterS 22 [.ptr 0 0 6 0]) (rB w) ( endK Try.prog Try.f34.results.toList (fun v _ => kk v)) = (
    bif w.t == (-1 : Int) then kk (SV.bool true) else kk (SV.bool (decide (w.c < w.t)))) := by kernel_rfl
theorem t41 (w : Wn) (kk : SV → Prop) : evalC C1 64  1 (bodF Try.f41) (enterS 116 [.ptr 0 0 6 0]) (rB w) ( endK Try.prog Try.f41.results.toList (fun v _ => kk v)) = (
    bif decide (w.d < (1200 : Int)) then kk (SV.bool false)
    else
      bif decide ((65527 : Int) < w.d) then kk (SV.bool false)
      else
        bif decide ((1099511627776 : Int) < w.m) then kk (SV.bool false)
        else
          bif decide ((1200 : Int) ≤ w.d ∧ w.d ≤ (65527 : Int)) then
            bif decide (w.c < (2 : Int) * w.d) then kk (SV.bool false)
            else
              bif decide (w.m < w.c) then kk (SV.bool false)
              else
                bif decide (w.g < (0 : Int)) then kk (SV.bool false)
                else
                  bif decide (w.c ≤ w.g) then kk (SV.bool false)
                  else
                    bif w.t != (-1 : Int) then
                      bif decide (w.t < w.d) then kk (SV.bool false)
                      else
                        bif decide (w.m < w.t) then kk (SV.bool false)
                        else bif w.s == (-1 : Int) then kk (SV.bool true) else kk (SV.bool (isT w.s))
                    else bif w.s == (-1 : Int) then kk (SV.bool true) else kk (SV.bool (isT w.s))
          else False) := by kernel_rfl
theorem t43 (w : Wn) (n : Int) (kk : SV → BO → Prop) : evalC C0 64  1 (bodF Try.f43) (enterS 21 [.ptr 0 0 6 0, .int .i64 n]) (wB w) ( endK Try.prog Try.f43.results.toList (fun v hp => kk v (obsB true (hget hp 0)))) = (
    kk (SV.tuple [])
      (BO.rows (6 : Nat) (1 : Nat) true (60 : Nat)
        [[SV.int IntKind.i64 w.d, SV.int IntKind.i64 w.m,
            SV.int IntKind.i64 (if w.m < IntKind.i64.wrap (w.c + n) then w.m else IntKind.i64.wrap (w.c + n)),
            SV.int IntKind.i64 w.t, SV.int IntKind.i64 w.s, SV.int IntKind.i64 w.g]])) := by kernel_rfl
theorem t40 (w : Wn) (kk : SV → BO → Prop) : evalC C1 64  1 (bodF Try.f40) (enterS 16 [.ptr 0 0 6 0]) (wB w) ( endK Try.prog Try.f40.results.toList (fun v hp => kk v (obsB true (hget hp 0)))) = (
    bif decide ((1200 : Int) ≤ w.d ∧ w.d ≤ (65527 : Int)) then
      kk (SV.tuple [])
        (BO.rows (6 : Nat) (1 : Nat) true (60 : Nat)
          [[SV.int IntKind.i64 w.d, SV.int IntKind.i64 w.m, SV.int IntKind.i64 ((2 : Int) * w.d), SV.int IntKind.i64 w.t,
              SV.int IntKind.i64 (-1 : Int), SV.int IntKind.i64 (0 : Int)]])
    else False) := by kernel_rfl
end Go.Proofs.Ytefjhkgkdmjopaa
