/-
  Chapter 16 by the engine: the contexts, the first contracts.
-/
import Derived.Test.YtllkhfabfcpieaaE21
import Derived.Test.YtllkhfabfcpieaaProg
import Derived.Test.YtllkhfabfcpieaaP
namespace Go.Proofs.Ytllkhfabfcpieaa
open Go.RowKit
def eqs : List TypeId := [52]
theorem eqs_ok : eqTypesOk Try.prog eqs = true := by kernel_rfl
theorem mixed : Try.prog.follows .mixedOrders = true := by kernel_rfl
def hC (h : Hd) : List SV := [.bool h.sv, .int .i64 h.e0, .int .i64 h.e1, .int .i64 h.e2, .bool h.va, .bool h.cf, .bool h.an]
def rB (h : Hd) : LHeap := [some (oneB (hC h) false 0)]
def wB (h : Hd) : LHeap := [some (oneB (hC h) true 54)]
/-- The handshake that a pointer tells. -/
def handR (h : Heap) (id : Nat) (K : Hd → Prop) : Prop := match h id with
  | some b => match b.sz, b.n, b.rd 0 with
    | 7, 1, [.bool sv, .int .i64 e0, .int .i64 e1, .int .i64 e2, .bool va, .bool cf, .bool an] => K ⟨sv, e0, e1, e2, va, cf, an⟩
    | _, _, _ => False
  | none => False
def handW (h : Heap) (id : Nat) (K : Hd → Prop) : Prop := match h id with
  | some b => match b.sz, b.n, b.rw, b.ty, b.rd 0 with
    | 7, 1, true, 54, [.bool sv, .int .i64 e0, .int .i64 e1, .int .i64 e2, .bool va, .bool cf, .bool an] => K ⟨sv, e0, e1, e2, va, cf, an⟩
    | _, _, _, _, _ => False
  | none => False
def hB (h : Hd) : Blk := oneB (hC h) true 54
noncomputable def C0 : Ctx := ⟨Try.prog, noGam, fun t => memN t eqs⟩
def s11 : Spec := fun args _ _ k => match args with
  | [.int .i64 i, .int .i64 n] => bif decide (0 < n) && decide (n ≤ 9223372036854775807) then k (.int .i64 (i % n)) [] [] else False
  | _ => False
def s35 : Spec := fun args _ _ k => match args with
  | [.int .i64 s] => k (.bool (inS s)) [] []
  | _ => False
/-- For numbers that are no space. -/
def x35 : Spec := fun args _ _ k => match args with
  | [.int .i64 s] => inS s = false ∧ k (.bool false) [] []
  | _ => False
def s33 : Spec := fun args h _ k => match args with
  | [.nilPtr] => k (.bool true) [] []
  | [.ptr id 0 7 0] => handR h id fun hd => k (.bool (nothV hd)) [] []
  | _ => False
def s32 : Spec := fun args h _ k => match args with
  | [.nilPtr, .int .i64 _] => k (.int .i64 1) [] []
  | [.ptr id 0 7 0, .int .i64 s] => handR h id fun hd => k (.int .i64 (needsV hd s)) [] []
  | _ => False
/-- For numbers that are no space. -/
def x32 : Spec := fun args h _ k => match args with
  | [.ptr id 0 7 0, .int .i64 s] => handR h id fun hd => inS s = false ∧ (bif nothV hd then k (.int .i64 1) [] [] else k (.int .i64 9) [] [])
  | _ => False
def G1 : Gam := addGam (addGam noGam 35 s35) 33 s33
noncomputable def C1 : Ctx := ⟨Try.prog, G1, fun t => memN t eqs⟩
noncomputable def C1x : Ctx := ⟨Try.prog, addGam G1 35 x35, fun t => memN t eqs⟩
def G2 : Gam := addGam G1 32 s32
noncomputable def C2 : Ctx := ⟨Try.prog, G2, fun t => memN t eqs⟩
noncomputable def C2x : Ctx := ⟨Try.prog, addGam G1 32 x32, fun t => memN t eqs⟩
def s14 : Spec := fun args h _ k => match args with
  | [.nilPtr] => k (.bool false) [] []
  | [.ptr id 0 7 0] => handR h id fun hd => k (.bool (sureV hd)) [] []
  | _ => False
def s15 : Spec := fun args h _ k => match args with
  | [.nilPtr] => k (.bool false) [] []
  | [.ptr id 0 7 0] => handR h id fun hd => k (.bool (validV hd)) [] []
  | _ => False
def s16 : Spec := fun args h _ k => match args with
  | [.nilPtr] => k (.bool false) [] []
  | [.ptr id 0 7 0] => handR h id fun hd => k (.bool (confV hd)) [] []
  | _ => False
def s19 : Spec := fun args h _ k => match args with
  | [.nilPtr, .int .i64 _] => k (.bool false) [] []
  | [.ptr id 0 7 0, .int .i64 s] => handR h id fun hd => k (.bool (hasV hd s)) [] []
  | _ => False
def s12 : Spec := fun args h _ k => match args with
  | [.nilPtr, .int .i64 _] => k (.bool false) [] []
  | [.ptr id 0 7 0, .int .i64 s] => handR h id fun hd => k (.bool (livesV hd s)) [] []
  | _ => False
def s30 : Spec := fun args h _ k => match args with
  | [.nilPtr] => k (.int .i64 1) [] []
  | [.ptr id 0 7 0] => handW h id fun hd => ∀ (h' : Hd) (e : Int), h' = valH hd → e = valE hd → k (.int .i64 e) [(id, some (hB h'))] []
  | _ => False
def s27 : Spec := fun args h _ k => match args with
  | [.nilPtr] => k (.int .i64 1) [] []
  | [.ptr id 0 7 0] => handW h id fun hd => ∀ (h' : Hd) (e : Int), h' = confH hd → e = needsV hd 2 → k (.int .i64 e) [(id, some (hB h'))] []
  | _ => False
def s31 : Spec := fun args h _ k => match args with
  | [.nilPtr, .int .i64 _] => k (.int .i64 1) [] []
  | [.ptr id 0 7 0, .int .i64 s] => handW h id fun hd => ∀ (h' : Hd) (e : Int), h' = ansH hd s → e = needsV hd s → k (.int .i64 e) [(id, some (hB h'))] []
  | _ => False
def s26 : Spec := fun args h _ k => match args with
  | [.nilPtr, .int .i64 _] => k (.int .i64 1) [] []
  | [.ptr id 0 7 0, .int .i64 s] => handW h id fun hd => ∀ (h' : Hd) (e : Int), h' = keysH hd s → e = keysE hd s → k (.int .i64 e) [(id, some (hB h'))] []
  | _ => False
def s29 : Spec := fun args h _ k => match args with
  | [.nilPtr, .int .i64 _] => k (.int .i64 1) [] []
  | [.ptr id 0 7 0, .int .i64 s] => handW h id fun hd => ∀ (h' : Hd) (e : Int), h' = discH hd s → e = discE hd s → k (.int .i64 e) [(id, some (hB h'))] []
  | _ => False
end Go.Proofs.Ytllkhfabfcpieaa
