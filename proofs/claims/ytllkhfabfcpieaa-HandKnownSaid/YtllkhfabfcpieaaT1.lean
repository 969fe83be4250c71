/-
  What functions of the program come to, way by way: printed by a program, held by the kernel.
-/
import Derived.Test.YtllkhfabfcpieaaX1
namespace Go.Proofs.Ytllkhfabfcpieaa
open Go.RowKit
set_option maxRecDepth 100000

theorem t35 (s : Int) (kk : SV → Prop) : evalF C0 64 Try.f35 [.int .i64 s] [] (fun v _ => kk v) = (
    bif decide ((0 : Int) ≤ s) then kk (SV.bool (decide (s < (3 : Int)))) else kk (SV.bool false)) := by kernel_rfl
theorem t11 (x n : Int) (kk : SV → Prop) : evalF C0 64 Try.f11 [.int .i64 x, .int .i64 n] [] (fun v _ => kk v) = (
    bif n == (0 : Int) then False
    else
      bif decide (x.tmod n < (0 : Int)) then kk (SV.int IntKind.i64 (IntKind.i64.wrap (x.tmod n + n)))
      else kk (SV.int IntKind.i64 (x.tmod n))) := by kernel_rfl
theorem t10 (b : Bool) (kk : SV → BO → Prop) : evalC C0 64  0 (bodF Try.f10) (enterS 9 [.bool b]) [] ( endK Try.prog Try.f10.results.toList (fun v hp => kk v (obsP v hp))) = (
    kk (SV.ptr (0 : Nat) (0 : Nat) (7 : Nat) (0 : Nat))
      (BO.rows (7 : Nat) (1 : Nat) true (54 : Nat)
        [[SV.bool b, SV.int IntKind.i64 (1 : Int), SV.int IntKind.i64 (0 : Int), SV.int IntKind.i64 (0 : Int), SV.bool !b,
            SV.bool false, SV.bool false]])) := by kernel_rfl
theorem t33 (h : Hd) (kk : SV → Prop) : evalC C0 64  1 (bodF Try.f33) (enterS 13 [.ptr 0 0 7 0]) (rB h) ( endK Try.prog Try.f33.results.toList (fun v _ => kk v)) = (
    kk (SV.bool (h.e0 == (0 : Int) && (h.e1 == (0 : Int) && (h.e2 == (0 : Int) && true))))) := by kernel_rfl
theorem n33  (kk : SV → Prop) : evalF C0 64 Try.f33 [.nilPtr] [] (fun v _ => kk v) = (
    kk (SV.bool true)) := by kernel_rfl
theorem t32_0 (h : Hd) (kk : SV → Prop) : evalC C1 64  1 (bodF Try.f32) (enterS 20 [.ptr 0 0 7 0, .int .i64 0]) (rB h) ( endK Try.prog Try.f32.results.toList (fun v _ => kk v)) = (
    bif nothV (Hd.mk h.sv h.e0 h.e1 h.e2 h.va h.cf h.an) then kk (SV.int IntKind.i64 (1 : Int))
    else bif h.e0 != (1 : Int) then kk (SV.int IntKind.i64 (160 : Int)) else kk (SV.int IntKind.i64 (0 : Int))) := by kernel_rfl
theorem t32_1 (h : Hd) (kk : SV → Prop) : evalC C1 64  1 (bodF Try.f32) (enterS 20 [.ptr 0 0 7 0, .int .i64 1]) (rB h) ( endK Try.prog Try.f32.results.toList (fun v _ => kk v)) = (
    bif nothV (Hd.mk h.sv h.e0 h.e1 h.e2 h.va h.cf h.an) then kk (SV.int IntKind.i64 (1 : Int))
    else bif h.e1 != (1 : Int) then kk (SV.int IntKind.i64 (160 : Int)) else kk (SV.int IntKind.i64 (0 : Int))) := by kernel_rfl
theorem t32_2 (h : Hd) (kk : SV → Prop) : evalC C1 64  1 (bodF Try.f32) (enterS 20 [.ptr 0 0 7 0, .int .i64 2]) (rB h) ( endK Try.prog Try.f32.results.toList (fun v _ => kk v)) = (
    bif nothV (Hd.mk h.sv h.e0 h.e1 h.e2 h.va h.cf h.an) then kk (SV.int IntKind.i64 (1 : Int))
    else bif h.e2 != (1 : Int) then kk (SV.int IntKind.i64 (160 : Int)) else kk (SV.int IntKind.i64 (0 : Int))) := by kernel_rfl
theorem t32_x (h : Hd) (s : Int) (kk : SV → Prop) : evalC C1x 64  1 (bodF Try.f32) (enterS 20 [.ptr 0 0 7 0, .int .i64 s]) (rB h) ( endK Try.prog Try.f32.results.toList (fun v _ => kk v)) = (
    bif nothV (Hd.mk h.sv h.e0 h.e1 h.e2 h.va h.cf h.an) then kk (SV.int IntKind.i64 (1 : Int))
    else inS s = false ∧ kk (SV.int IntKind.i64 (9 : Int))) := by kernel_rfl
theorem n32 (s : Int) (kk : SV → Prop) : evalF C1 64 Try.f32 [.nilPtr, .int .i64 s] [] (fun v _ => kk v) = (
    kk (SV.int IntKind.i64 (1 : Int))) := by kernel_rfl
theorem t14 (h : Hd) (kk : SV → Prop) : evalC C1 64  1 (bodF Try.f14) (enterS 24 [.ptr 0 0 7 0]) (rB h) ( endK Try.prog Try.f14.results.toList (fun v _ => kk v)) = (
    bif !nothV (Hd.mk h.sv h.e0 h.e1 h.e2 h.va h.cf h.an) then
      bif h.sv then kk (SV.bool true) else bif h.cf then kk (SV.bool true) else kk (SV.bool h.an)
    else kk (SV.bool false)) := by kernel_rfl
theorem n14  (kk : SV → Prop) : evalF C1 64 Try.f14 [.nilPtr] [] (fun v _ => kk v) = (
    kk (SV.bool false)) := by kernel_rfl
theorem t15 (h : Hd) (kk : SV → Prop) : evalC C1 64  1 (bodF Try.f15) (enterS 12 [.ptr 0 0 7 0]) (rB h) ( endK Try.prog Try.f15.results.toList (fun v _ => kk v)) = (
    bif !nothV (Hd.mk h.sv h.e0 h.e1 h.e2 h.va h.cf h.an) then kk (SV.bool h.va) else kk (SV.bool false)) := by kernel_rfl
theorem n15  (kk : SV → Prop) : evalF C1 64 Try.f15 [.nilPtr] [] (fun v _ => kk v) = (
    kk (SV.bool false)) := by kernel_rfl
theorem t16 (h : Hd) (kk : SV → Prop) : evalC C1 64  1 (bodF Try.f16) (enterS 12 [.ptr 0 0 7 0]) (rB h) ( endK Try.prog Try.f16.results.toList (fun v _ => kk v)) = (
    bif !nothV (Hd.mk h.sv h.e0 h.e1 h.e2 h.va h.cf h.an) then kk (SV.bool h.cf) else kk (SV.bool false)) := by kernel_rfl
theorem n16  (kk : SV → Prop) : evalF C1 64 Try.f16 [.nilPtr] [] (fun v _ => kk v) = (
    kk (SV.bool false)) := by kernel_rfl
theorem t19_0 (h : Hd) (kk : SV → Prop) : evalC C1 64  1 (bodF Try.f19) (enterS 21 [.ptr 0 0 7 0, .int .i64 0]) (rB h) ( endK Try.prog Try.f19.results.toList (fun v _ => kk v)) = (
    bif !nothV (Hd.mk h.sv h.e0 h.e1 h.e2 h.va h.cf h.an) then kk (SV.bool (h.e0 != (0 : Int))) else kk (SV.bool false)) := by kernel_rfl
theorem t19_1 (h : Hd) (kk : SV → Prop) : evalC C1 64  1 (bodF Try.f19) (enterS 21 [.ptr 0 0 7 0, .int .i64 1]) (rB h) ( endK Try.prog Try.f19.results.toList (fun v _ => kk v)) = (
    bif !nothV (Hd.mk h.sv h.e0 h.e1 h.e2 h.va h.cf h.an) then kk (SV.bool (h.e1 != (0 : Int))) else kk (SV.bool false)) := by kernel_rfl
theorem t19_2 (h : Hd) (kk : SV → Prop) : evalC C1 64  1 (bodF Try.f19) (enterS 21 [.ptr 0 0 7 0, .int .i64 2]) (rB h) ( endK Try.prog Try.f19.results.toList (fun v _ => kk v)) = (
    bif !nothV (Hd.mk h.sv h.e0 h.e1 h.e2 h.va h.cf h.an) then kk (SV.bool (h.e2 != (0 : Int))) else kk (SV.bool false)) := by kernel_rfl
theorem t19_x (h : Hd) (s : Int) (kk : SV → Prop) : evalC C1x 64  1 (bodF Try.f19) (enterS 21 [.ptr 0 0 7 0, .int .i64 s]) (rB h) ( endK Try.prog Try.f19.results.toList (fun v _ => kk v)) = (
    bif !nothV (Hd.mk h.sv h.e0 h.e1 h.e2 h.va h.cf h.an) then inS s = false ∧ kk (SV.bool false) else kk (SV.bool false)) := by kernel_rfl
theorem n19 (s : Int) (kk : SV → Prop) : evalF C1 64 Try.f19 [.nilPtr, .int .i64 s] [] (fun v _ => kk v) = (
    kk (SV.bool false)) := by kernel_rfl
theorem t30 (h : Hd) (kk : SV → BO → Prop) : evalC C1 64  1 (bodF Try.f30) (enterS 8 [.ptr 0 0 7 0]) (wB h) ( endK Try.prog Try.f30.results.toList (fun v hp => kk v (obsB true (hget hp 0)))) = (
    bif nothV (Hd.mk h.sv h.e0 h.e1 h.e2 h.va h.cf h.an) then
      kk (SV.int IntKind.i64 (1 : Int))
        (BO.rows (7 : Nat) (1 : Nat) true (54 : Nat)
          [[SV.bool h.sv, SV.int IntKind.i64 h.e0, SV.int IntKind.i64 h.e1, SV.int IntKind.i64 h.e2, SV.bool h.va,
              SV.bool h.cf, SV.bool h.an]])
    else
      kk (SV.int IntKind.i64 (0 : Int))
        (BO.rows (7 : Nat) (1 : Nat) true (54 : Nat)
          [[SV.bool h.sv, SV.int IntKind.i64 h.e0, SV.int IntKind.i64 h.e1, SV.int IntKind.i64 h.e2, SV.bool true,
              SV.bool h.cf, SV.bool h.an]])) := by kernel_rfl
theorem n30  (kk : SV → Prop) : evalF C1 64 Try.f30 [.nilPtr] [] (fun v _ => kk v) = (
    kk (SV.int IntKind.i64 (1 : Int))) := by kernel_rfl
theorem t12 (h : Hd) (s : Int) (kk : SV → Prop) : evalC C2 64  1 (bodF Try.f12) (enterS 9 [.ptr 0 0 7 0, .int .i64 s]) (rB h) ( endK Try.prog Try.f12.results.toList (fun v _ => kk v)) = (
    kk (SV.bool (needsV (Hd.mk h.sv h.e0 h.e1 h.e2 h.va h.cf h.an) s == (0 : Int)))) := by kernel_rfl
theorem n12 (s : Int) (kk : SV → Prop) : evalF C2 64 Try.f12 [.nilPtr, .int .i64 s] [] (fun v _ => kk v) = (
    kk (SV.bool false)) := by kernel_rfl
theorem t26_0 (h : Hd) (kk : SV → BO → Prop) : evalC C2 64  1 (bodF Try.f26) (enterS 24 [.ptr 0 0 7 0, .int .i64 0]) (wB h) ( endK Try.prog Try.f26.results.toList (fun v hp => kk v (obsB true (hget hp 0)))) = (
    bif needsV (Hd.mk h.sv h.e0 h.e1 h.e2 h.va h.cf h.an) (0 : Int) != (160 : Int) then
      kk (SV.int IntKind.i64 (needsV (Hd.mk h.sv h.e0 h.e1 h.e2 h.va h.cf h.an) (0 : Int)))
        (BO.rows (7 : Nat) (1 : Nat) true (54 : Nat)
          [[SV.bool h.sv, SV.int IntKind.i64 h.e0, SV.int IntKind.i64 h.e1, SV.int IntKind.i64 h.e2, SV.bool h.va,
              SV.bool h.cf, SV.bool h.an]])
    else
      bif h.e0 == (2 : Int) then
        kk (SV.int IntKind.i64 (160 : Int))
          (BO.rows (7 : Nat) (1 : Nat) true (54 : Nat)
            [[SV.bool h.sv, SV.int IntKind.i64 h.e0, SV.int IntKind.i64 h.e1, SV.int IntKind.i64 h.e2, SV.bool h.va,
                SV.bool h.cf, SV.bool h.an]])
      else
        kk (SV.int IntKind.i64 (0 : Int))
          (BO.rows (7 : Nat) (1 : Nat) true (54 : Nat)
            [[SV.bool h.sv, SV.int IntKind.i64 (1 : Int), SV.int IntKind.i64 h.e1, SV.int IntKind.i64 h.e2, SV.bool h.va,
                SV.bool h.cf, SV.bool h.an]])) := by kernel_rfl
theorem t26_1 (h : Hd) (kk : SV → BO → Prop) : evalC C2 64  1 (bodF Try.f26) (enterS 24 [.ptr 0 0 7 0, .int .i64 1]) (wB h) ( endK Try.prog Try.f26.results.toList (fun v hp => kk v (obsB true (hget hp 0)))) = (
    bif needsV (Hd.mk h.sv h.e0 h.e1 h.e2 h.va h.cf h.an) (1 : Int) != (160 : Int) then
      kk (SV.int IntKind.i64 (needsV (Hd.mk h.sv h.e0 h.e1 h.e2 h.va h.cf h.an) (1 : Int)))
        (BO.rows (7 : Nat) (1 : Nat) true (54 : Nat)
          [[SV.bool h.sv, SV.int IntKind.i64 h.e0, SV.int IntKind.i64 h.e1, SV.int IntKind.i64 h.e2, SV.bool h.va,
              SV.bool h.cf, SV.bool h.an]])
    else
      bif h.e1 == (2 : Int) then
        kk (SV.int IntKind.i64 (160 : Int))
          (BO.rows (7 : Nat) (1 : Nat) true (54 : Nat)
            [[SV.bool h.sv, SV.int IntKind.i64 h.e0, SV.int IntKind.i64 h.e1, SV.int IntKind.i64 h.e2, SV.bool h.va,
                SV.bool h.cf, SV.bool h.an]])
      else
        kk (SV.int IntKind.i64 (0 : Int))
          (BO.rows (7 : Nat) (1 : Nat) true (54 : Nat)
            [[SV.bool h.sv, SV.int IntKind.i64 h.e0, SV.int IntKind.i64 (1 : Int), SV.int IntKind.i64 h.e2, SV.bool h.va,
                SV.bool h.cf, SV.bool h.an]])) := by kernel_rfl
theorem t26_2 (h : Hd) (kk : SV → BO → Prop) : evalC C2 64  1 (bodF Try.f26) (enterS 24 [.ptr 0 0 7 0, .int .i64 2]) (wB h) ( endK Try.prog Try.f26.results.toList (fun v hp => kk v (obsB true (hget hp 0)))) = (
    bif needsV (Hd.mk h.sv h.e0 h.e1 h.e2 h.va h.cf h.an) (2 : Int) != (160 : Int) then
      kk (SV.int IntKind.i64 (needsV (Hd.mk h.sv h.e0 h.e1 h.e2 h.va h.cf h.an) (2 : Int)))
        (BO.rows (7 : Nat) (1 : Nat) true (54 : Nat)
          [[SV.bool h.sv, SV.int IntKind.i64 h.e0, SV.int IntKind.i64 h.e1, SV.int IntKind.i64 h.e2, SV.bool h.va,
              SV.bool h.cf, SV.bool h.an]])
    else
      bif h.e2 == (2 : Int) then
        kk (SV.int IntKind.i64 (160 : Int))
          (BO.rows (7 : Nat) (1 : Nat) true (54 : Nat)
            [[SV.bool h.sv, SV.int IntKind.i64 h.e0, SV.int IntKind.i64 h.e1, SV.int IntKind.i64 h.e2, SV.bool h.va,
                SV.bool h.cf, SV.bool h.an]])
      else
        kk (SV.int IntKind.i64 (0 : Int))
          (BO.rows (7 : Nat) (1 : Nat) true (54 : Nat)
            [[SV.bool h.sv, SV.int IntKind.i64 h.e0, SV.int IntKind.i64 h.e1, SV.int IntKind.i64 (1 : Int), SV.bool h.va,
                SV.bool h.cf, SV.bool h.an]])) := by kernel_rfl
theorem t26_x (h : Hd) (s : Int) (kk : SV → BO → Prop) : evalC C2x 64  1 (bodF Try.f26) (enterS 24 [.ptr 0 0 7 0, .int .i64 s]) (wB h) ( endK Try.prog Try.f26.results.toList (fun v hp => kk v (obsB true (hget hp 0)))) = (
    inS s = false ∧
      bif nothV (Hd.mk h.sv h.e0 h.e1 h.e2 h.va h.cf h.an) then
        kk (SV.int IntKind.i64 (1 : Int))
          (BO.rows (7 : Nat) (1 : Nat) true (54 : Nat)
            [[SV.bool h.sv, SV.int IntKind.i64 h.e0, SV.int IntKind.i64 h.e1, SV.int IntKind.i64 h.e2, SV.bool h.va,
                SV.bool h.cf, SV.bool h.an]])
      else
        kk (SV.int IntKind.i64 (9 : Int))
          (BO.rows (7 : Nat) (1 : Nat) true (54 : Nat)
            [[SV.bool h.sv, SV.int IntKind.i64 h.e0, SV.int IntKind.i64 h.e1, SV.int IntKind.i64 h.e2, SV.bool h.va,
                SV.bool h.cf, SV.bool h.an]])) := by kernel_rfl
theorem n26 (s : Int) (kk : SV → Prop) : evalF C2 64 Try.f26 [.nilPtr, .int .i64 s] [] (fun v _ => kk v) = (
    kk (SV.int IntKind.i64 (1 : Int))) := by kernel_rfl
theorem t27 (h : Hd) (kk : SV → BO → Prop) : evalC C2 64  1 (bodF Try.f27) (enterS 15 [.ptr 0 0 7 0]) (wB h) ( endK Try.prog Try.f27.results.toList (fun v hp => kk v (obsB true (hget hp 0)))) = (
    bif needsV (Hd.mk h.sv h.e0 h.e1 h.e2 h.va h.cf h.an) (2 : Int) == (0 : Int) then
      kk (SV.int IntKind.i64 (needsV (Hd.mk h.sv h.e0 h.e1 h.e2 h.va h.cf h.an) (2 : Int)))
        (BO.rows (7 : Nat) (1 : Nat) true (54 : Nat)
          [[SV.bool h.sv, SV.int IntKind.i64 h.e0, SV.int IntKind.i64 h.e1, SV.int IntKind.i64 h.e2, SV.bool true,
              SV.bool true, SV.bool h.an]])
    else
      kk (SV.int IntKind.i64 (needsV (Hd.mk h.sv h.e0 h.e1 h.e2 h.va h.cf h.an) (2 : Int)))
        (BO.rows (7 : Nat) (1 : Nat) true (54 : Nat)
          [[SV.bool h.sv, SV.int IntKind.i64 h.e0, SV.int IntKind.i64 h.e1, SV.int IntKind.i64 h.e2, SV.bool h.va,
              SV.bool h.cf, SV.bool h.an]])) := by kernel_rfl
theorem n27  (kk : SV → Prop) : evalF C2 64 Try.f27 [.nilPtr] [] (fun v _ => kk v) = (
    kk (SV.int IntKind.i64 (1 : Int))) := by kernel_rfl
theorem t29_0 (h : Hd) (kk : SV → BO → Prop) : evalC C2 64  1 (bodF Try.f29) (enterS 24 [.ptr 0 0 7 0, .int .i64 0]) (wB h) ( endK Try.prog Try.f29.results.toList (fun v hp => kk v (obsB true (hget hp 0)))) = (
    bif !nothV (Hd.mk h.sv h.e0 h.e1 h.e2 h.va h.cf h.an) then
      bif needsV (Hd.mk h.sv h.e0 h.e1 h.e2 h.va h.cf h.an) (0 : Int) != (0 : Int) then
        kk (SV.int IntKind.i64 (needsV (Hd.mk h.sv h.e0 h.e1 h.e2 h.va h.cf h.an) (0 : Int)))
          (BO.rows (7 : Nat) (1 : Nat) true (54 : Nat)
            [[SV.bool h.sv, SV.int IntKind.i64 h.e0, SV.int IntKind.i64 h.e1, SV.int IntKind.i64 h.e2, SV.bool h.va,
                SV.bool h.cf, SV.bool h.an]])
      else
        kk (SV.int IntKind.i64 (0 : Int))
          (BO.rows (7 : Nat) (1 : Nat) true (54 : Nat)
            [[SV.bool h.sv, SV.int IntKind.i64 (2 : Int), SV.int IntKind.i64 h.e1, SV.int IntKind.i64 h.e2, SV.bool h.va,
                SV.bool h.cf, SV.bool h.an]])
    else
      bif needsV (Hd.mk h.sv h.e0 h.e1 h.e2 h.va h.cf h.an) (0 : Int) != (0 : Int) then
        kk (SV.int IntKind.i64 (needsV (Hd.mk h.sv h.e0 h.e1 h.e2 h.va h.cf h.an) (0 : Int)))
          (BO.rows (7 : Nat) (1 : Nat) true (54 : Nat)
            [[SV.bool h.sv, SV.int IntKind.i64 h.e0, SV.int IntKind.i64 h.e1, SV.int IntKind.i64 h.e2, SV.bool h.va,
                SV.bool h.cf, SV.bool h.an]])
      else
        kk (SV.int IntKind.i64 (0 : Int))
          (BO.rows (7 : Nat) (1 : Nat) true (54 : Nat)
            [[SV.bool h.sv, SV.int IntKind.i64 (2 : Int), SV.int IntKind.i64 h.e1, SV.int IntKind.i64 h.e2, SV.bool h.va,
                SV.bool h.cf, SV.bool h.an]])) := by kernel_rfl
theorem t29_1 (h : Hd) (kk : SV → BO → Prop) : evalC C2 64  1 (bodF Try.f29) (enterS 24 [.ptr 0 0 7 0, .int .i64 1]) (wB h) ( endK Try.prog Try.f29.results.toList (fun v hp => kk v (obsB true (hget hp 0)))) = (
    bif !nothV (Hd.mk h.sv h.e0 h.e1 h.e2 h.va h.cf h.an) then
      bif needsV (Hd.mk h.sv h.e0 h.e1 h.e2 h.va h.cf h.an) (1 : Int) != (0 : Int) then
        kk (SV.int IntKind.i64 (needsV (Hd.mk h.sv h.e0 h.e1 h.e2 h.va h.cf h.an) (1 : Int)))
          (BO.rows (7 : Nat) (1 : Nat) true (54 : Nat)
            [[SV.bool h.sv, SV.int IntKind.i64 h.e0, SV.int IntKind.i64 h.e1, SV.int IntKind.i64 h.e2, SV.bool h.va,
                SV.bool h.cf, SV.bool h.an]])
      else
        kk (SV.int IntKind.i64 (0 : Int))
          (BO.rows (7 : Nat) (1 : Nat) true (54 : Nat)
            [[SV.bool h.sv, SV.int IntKind.i64 h.e0, SV.int IntKind.i64 (2 : Int), SV.int IntKind.i64 h.e2, SV.bool h.va,
                SV.bool h.cf, SV.bool h.an]])
    else
      bif needsV (Hd.mk h.sv h.e0 h.e1 h.e2 h.va h.cf h.an) (1 : Int) != (0 : Int) then
        kk (SV.int IntKind.i64 (needsV (Hd.mk h.sv h.e0 h.e1 h.e2 h.va h.cf h.an) (1 : Int)))
          (BO.rows (7 : Nat) (1 : Nat) true (54 : Nat)
            [[SV.bool h.sv, SV.int IntKind.i64 h.e0, SV.int IntKind.i64 h.e1, SV.int IntKind.i64 h.e2, SV.bool h.va,
                SV.bool h.cf, SV.bool h.an]])
      else
        kk (SV.int IntKind.i64 (0 : Int))
          (BO.rows (7 : Nat) (1 : Nat) true (54 : Nat)
            [[SV.bool h.sv, SV.int IntKind.i64 h.e0, SV.int IntKind.i64 (2 : Int), SV.int IntKind.i64 h.e2, SV.bool h.va,
                SV.bool h.cf, SV.bool h.an]])) := by kernel_rfl
theorem t29_2 (h : Hd) (kk : SV → BO → Prop) : evalC C2 64  1 (bodF Try.f29) (enterS 24 [.ptr 0 0 7 0, .int .i64 2]) (wB h) ( endK Try.prog Try.f29.results.toList (fun v hp => kk v (obsB true (hget hp 0)))) = (
    bif !nothV (Hd.mk h.sv h.e0 h.e1 h.e2 h.va h.cf h.an) then
      kk (SV.int IntKind.i64 (2 : Int))
        (BO.rows (7 : Nat) (1 : Nat) true (54 : Nat)
          [[SV.bool h.sv, SV.int IntKind.i64 h.e0, SV.int IntKind.i64 h.e1, SV.int IntKind.i64 h.e2, SV.bool h.va,
              SV.bool h.cf, SV.bool h.an]])
    else
      bif needsV (Hd.mk h.sv h.e0 h.e1 h.e2 h.va h.cf h.an) (2 : Int) != (0 : Int) then
        kk (SV.int IntKind.i64 (needsV (Hd.mk h.sv h.e0 h.e1 h.e2 h.va h.cf h.an) (2 : Int)))
          (BO.rows (7 : Nat) (1 : Nat) true (54 : Nat)
            [[SV.bool h.sv, SV.int IntKind.i64 h.e0, SV.int IntKind.i64 h.e1, SV.int IntKind.i64 h.e2, SV.bool h.va,
                SV.bool h.cf, SV.bool h.an]])
      else
        kk (SV.int IntKind.i64 (0 : Int))
          (BO.rows (7 : Nat) (1 : Nat) true (54 : Nat)
            [[SV.bool h.sv, SV.int IntKind.i64 h.e0, SV.int IntKind.i64 h.e1, SV.int IntKind.i64 (2 : Int), SV.bool h.va,
                SV.bool h.cf, SV.bool h.an]])) := by kernel_rfl
theorem t29_x (h : Hd) (s : Int) (kk : SV → BO → Prop) : evalC C2x 64  1 (bodF Try.f29) (enterS 24 [.ptr 0 0 7 0, .int .i64 s]) (wB h) ( endK Try.prog Try.f29.results.toList (fun v hp => kk v (obsB true (hget hp 0)))) = (
    bif !nothV (Hd.mk h.sv h.e0 h.e1 h.e2 h.va h.cf h.an) then
      bif s == (2 : Int) then
        kk (SV.int IntKind.i64 (2 : Int))
          (BO.rows (7 : Nat) (1 : Nat) true (54 : Nat)
            [[SV.bool h.sv, SV.int IntKind.i64 h.e0, SV.int IntKind.i64 h.e1, SV.int IntKind.i64 h.e2, SV.bool h.va,
                SV.bool h.cf, SV.bool h.an]])
      else
        inS s = false ∧
          bif nothV (Hd.mk h.sv h.e0 h.e1 h.e2 h.va h.cf h.an) then
            kk (SV.int IntKind.i64 (1 : Int))
              (BO.rows (7 : Nat) (1 : Nat) true (54 : Nat)
                [[SV.bool h.sv, SV.int IntKind.i64 h.e0, SV.int IntKind.i64 h.e1, SV.int IntKind.i64 h.e2, SV.bool h.va,
                    SV.bool h.cf, SV.bool h.an]])
          else
            kk (SV.int IntKind.i64 (9 : Int))
              (BO.rows (7 : Nat) (1 : Nat) true (54 : Nat)
                [[SV.bool h.sv, SV.int IntKind.i64 h.e0, SV.int IntKind.i64 h.e1, SV.int IntKind.i64 h.e2, SV.bool h.va,
                    SV.bool h.cf, SV.bool h.an]])
    else
      inS s = false ∧
        bif nothV (Hd.mk h.sv h.e0 h.e1 h.e2 h.va h.cf h.an) then
          kk (SV.int IntKind.i64 (1 : Int))
            (BO.rows (7 : Nat) (1 : Nat) true (54 : Nat)
              [[SV.bool h.sv, SV.int IntKind.i64 h.e0, SV.int IntKind.i64 h.e1, SV.int IntKind.i64 h.e2, SV.bool h.va,
                  SV.bool h.cf, SV.bool h.an]])
        else
          kk (SV.int IntKind.i64 (9 : Int))
            (BO.rows (7 : Nat) (1 : Nat) true (54 : Nat)
              [[SV.bool h.sv, SV.int IntKind.i64 h.e0, SV.int IntKind.i64 h.e1, SV.int IntKind.i64 h.e2, SV.bool h.va,
                  SV.bool h.cf, SV.bool h.an]])) := by kernel_rfl
theorem n29 (s : Int) (kk : SV → Prop) : evalF C2 64 Try.f29 [.nilPtr, .int .i64 s] [] (fun v _ => kk v) = (
    kk (SV.int IntKind.i64 (1 : Int))) := by kernel_rfl
theorem t31 (h : Hd) (s : Int) (kk : SV → BO → Prop) : evalC C2 64  1 (bodF Try.f31) (enterS 19 [.ptr 0 0 7 0, .int .i64 s]) (wB h) ( endK Try.prog Try.f31.results.toList (fun v hp => kk v (obsB true (hget hp 0)))) = (
    bif needsV (Hd.mk h.sv h.e0 h.e1 h.e2 h.va h.cf h.an) s == (0 : Int) then
      bif s != (0 : Int) then
        kk (SV.int IntKind.i64 (needsV (Hd.mk h.sv h.e0 h.e1 h.e2 h.va h.cf h.an) s))
          (BO.rows (7 : Nat) (1 : Nat) true (54 : Nat)
            [[SV.bool h.sv, SV.int IntKind.i64 h.e0, SV.int IntKind.i64 h.e1, SV.int IntKind.i64 h.e2, SV.bool h.va,
                SV.bool h.cf, SV.bool true]])
      else
        kk (SV.int IntKind.i64 (needsV (Hd.mk h.sv h.e0 h.e1 h.e2 h.va h.cf h.an) s))
          (BO.rows (7 : Nat) (1 : Nat) true (54 : Nat)
            [[SV.bool h.sv, SV.int IntKind.i64 h.e0, SV.int IntKind.i64 h.e1, SV.int IntKind.i64 h.e2, SV.bool h.va,
                SV.bool h.cf, SV.bool h.an]])
    else
      kk (SV.int IntKind.i64 (needsV (Hd.mk h.sv h.e0 h.e1 h.e2 h.va h.cf h.an) s))
        (BO.rows (7 : Nat) (1 : Nat) true (54 : Nat)
          [[SV.bool h.sv, SV.int IntKind.i64 h.e0, SV.int IntKind.i64 h.e1, SV.int IntKind.i64 h.e2, SV.bool h.va,
              SV.bool h.cf, SV.bool h.an]])) := by kernel_rfl
theorem n31 (s : Int) (kk : SV → Prop) : evalF C2 64 Try.f31 [.nilPtr, .int .i64 s] [] (fun v _ => kk v) = (
    kk (SV.int IntKind.i64 (1 : Int))) := by kernel_rfl
theorem t24 (h : Hd) (kk : SV → BO → Prop) : evalC C1 64  1 (bodF Try.f24) (enterS 9 [.ptr 0 0 7 0]) (rB h) ( endK Try.prog Try.f24.results.toList (fun v hp => kk v (obsP v hp))) = (
    bif nothV (Hd.mk h.sv h.e0 h.e1 h.e2 h.va h.cf h.an) then kk SV.nilPtr (BO.raw none)
    else
      kk (SV.ptr (1 : Nat) (0 : Nat) (7 : Nat) (0 : Nat))
        (BO.rows (7 : Nat) (1 : Nat) true (54 : Nat)
          [[SV.bool h.sv, SV.int IntKind.i64 h.e0, SV.int IntKind.i64 h.e1, SV.int IntKind.i64 h.e2, SV.bool h.va,
              SV.bool h.cf, SV.bool h.an]])) := by kernel_rfl
theorem n24  (kk : SV → Prop) : evalF C1 64 Try.f24 [.nilPtr] [] (fun v _ => kk v) = (
    kk SV.nilPtr) := by kernel_rfl
end Go.Proofs.Ytllkhfabfcpieaa
