/-
  Chapter 11 by the engine: the contexts, the first contracts.
-/
import Derived.Test.YtefjhkgkdmjopaaE22
import Derived.Test.YtefjhkgkdmjopaaProg
import Derived.Test.YtefjhkgkdmjopaaP
namespace Go.Proofs.Ytefjhkgkdmjopaa
open Go.RowKit
def eqs : List TypeId := [23]
theorem eqs_ok : eqTypesOk Try.prog eqs = true := by kernel_rfl
theorem mixed : Try.prog.follows .mixedOrders = true := by kernel_rfl
def wC (w : Wn) : List SV := [.int .i64 w.d, .int .i64 w.m, .int .i64 w.c, .int .i64 w.t, .int .i64 w.s, .int .i64 w.g]
def rB (w : Wn) : LHeap := [some (oneB (wC w) false 0)]
def wB (w : Wn) : LHeap := [some (oneB (wC w) true 60)]
def wnB (w : Wn) : Blk := oneB (wC w) true 60
/-- The window that a pointer tells. -/
def winR (h : Heap) (id : Nat) (K : Wn → Prop) : Prop := match h id with
  | some b => match b.sz, b.n, b.rd 0 with
    | 6, 1, [.int .i64 d, .int .i64 m, .int .i64 c, .int .i64 t, .int .i64 s, .int .i64 g] => K ⟨d, m, c, t, s, g⟩
    | _, _, _ => False
  | none => False
def winW (h : Heap) (id : Nat) (K : Wn → Prop) : Prop := match h id with
  | some b => match b.sz, b.n, b.rw, b.ty, b.rd 0 with
    | 6, 1, true, 60, [.int .i64 d, .int .i64 m, .int .i64 c, .int .i64 t, .int .i64 s, .int .i64 g] => K ⟨d, m, c, t, s, g⟩
    | _, _, _, _, _ => False
  | none => False
noncomputable def C0 : Ctx := ⟨Try.prog, noGam, fun t => memN t eqs⟩
def s11 : Spec := fun args _ _ k => match args with
  | [.int .i64 i, .int .i64 n] => bif decide (0 < n) && decide (n ≤ 9223372036854775807) then k (.int .i64 (i % n)) [] [] else False
  | _ => False
def sIsT : Spec := fun args _ _ k => match args with
  | [.int .i64 n] => k (.bool (isT n)) [] []
  | _ => False
/-- Numbers that are no overflow. -/
structure Sm (w : Wn) : Prop where
  d : 0 ≤ w.d ∧ w.d ≤ 65527
  m : 0 ≤ w.m ∧ w.m ≤ 1099511627776
  c : 1 ≤ w.c ∧ w.c ≤ 1099511627776
  g : 0 ≤ w.g ∧ w.g ≤ 1099511627776
def s39 : Spec := fun args h _ k => match args with
  | [.ptr id 0 6 0] => winR h id fun w => bif decide (1200 ≤ w.d ∧ w.d ≤ 65527) then k (.int .i64 (2 * w.d)) [] [] else False
  | _ => False
def s32 : Spec := fun args h _ k => match args with
  | [.ptr id 0 6 0, .int .i64 n] => winR h id fun w => k (.bool (behV w n)) [] []
  | _ => False
def s34 : Spec := fun args h _ k => match args with
  | [.ptr id 0 6 0] => winR h id fun w => k (.bool (slowV w)) [] []
  | _ => False
def s41 : Spec := fun args h _ k => match args with
  | [.ptr id 0 6 0] => winR h id fun w => k (.bool (mayW w)) [] []
  | _ => False
def s43 : Spec := fun args h _ k => match args with
  | [.ptr id 0 6 0, .int .i64 n] => winW h id fun w => (Sm w ∧ 0 ≤ n ∧ n ≤ 65535) ∧ ∀ w' : Wn, w' = growW w n → k (.tuple []) [(id, some (wnB w'))] []
  | _ => False
def G1 : Gam := addGam (addGam (addGam (addGam (addGam noGam 30 sIsT) 36 sIsT) 39 s39) 32 s32) 34 s34
noncomputable def C1 : Ctx := ⟨Try.prog, G1, fun t => memN t eqs⟩
end Go.Proofs.Ytefjhkgkdmjopaa
