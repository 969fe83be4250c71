/-
  Chapter 11 by the engine: the changes of a window, the document's answers.
-/
import Derived.Test.YtefjhkgkdmjopaaV1
namespace Go.Proofs.Ytefjhkgkdmjopaa
open Go.RowKit
def intR (h : Heap) (id : Nat) (K : Int → Prop) : Prop := match h id with
  | some b => match b.sz, b.n, b.rd 0 with
    | 1, 1, [.int .i64 x] => K x
    | _, _, _ => False
  | none => False
def boolR (h : Heap) (id : Nat) (K : Bool → Prop) : Prop := match h id with
  | some b => match b.sz, b.n, b.rd 0 with
    | 1, 1, [.bool x] => K x
    | _, _, _ => False
  | none => False
/-- A packet: number, time, size, three facts. -/
structure Pk where
  n : Int
  t : Int
  s : Int
  a : Bool
  b : Bool
  c : Bool
def pC (p : Pk) : List SV := [.int .i64 p.n, .int .i64 p.t, .int .i64 p.s, .bool p.a, .bool p.b, .bool p.c]
def pktR (h : Heap) (id : Nat) (K : Pk → Prop) : Prop := match h id with
  | some b => match b.sz, b.n, b.rd 0 with
    | 6, 1, [.int .i64 n, .int .i64 t, .int .i64 s, .bool x, .bool y, .bool z] => K ⟨n, t, s, x, y, z⟩
    | _, _, _ => False
  | none => False
def s33 : Spec := fun args h _ k => match args with
  | [.ptr id 0 6 0, .int .i64 n] => winW h id fun w => (mayW w = true ∧ 0 ≤ n ∧ n ≤ 65535) ∧ ∀ w' : Wn, w' = slowW w n → k (.tuple []) [(id, some (wnB w'))] []
  | _ => False
def s40 : Spec := fun args h _ k => match args with
  | [.ptr id 0 6 0] => winW h id fun w => mayW w = true ∧ ∀ w' : Wn, w' = col1 w → k (.tuple []) [(id, some (wnB w'))] []
  | _ => False
def s38 : Spec := fun args h _ k => match args with
  | [.ptr id 0 6 0, .ptr a 0 1 0, .ptr b 0 1 0] => bif Nat.beq a b then False else winW h id fun w => intR h a fun sent => intR h b fun now => mayW w = true ∧ ∀ w' : Wn, w' = bad1 w sent now → k (.tuple []) [(id, some (wnB w'))] []
  | _ => False
def s31 : Spec := fun args h _ k => match args with
  | [.ptr id 0 6 0, .ptr a 0 1 0, .ptr b 0 6 0] => winW h id fun w => boolR h a fun full => pktR h b fun p => (mayW w = true ∧ 1 ≤ p.s ∧ p.s ≤ 65535) ∧ ∀ w' : Wn, w' = ack1 w p.t p.s full → k (.tuple []) [(id, some (wnB w'))] []
  | _ => False
def res (w : Wn) (ok : Bool) (r : Wn) (k : SV → Wr → List Blk → Prop) : Prop := ∀ (r' : Wn) (e : Int), r' = chW w ok r → e = chE w ok → k (.tuple [.agg (wC r'), .int .i64 e]) [] []
def s29 : Spec := fun args h _ k => match args with
  | [.agg [.int .i64 d, .int .i64 m, .int .i64 c, .int .i64 t, .int .i64 s, .int .i64 g], .bool ok, .func (.func f) [] cap] =>
    bif Nat.beq f 40 then (match cap with
      | [] => res ⟨d, m, c, t, s, g⟩ ok (col1 ⟨d, m, c, t, s, g⟩) k
      | _ => False)
    else bif Nat.beq f 38 then (match cap with
      | [.ptr a 0 1 0, .ptr b 0 1 0] => bif Nat.beq a b then False else intR h a fun sent => intR h b fun now => res ⟨d, m, c, t, s, g⟩ ok (bad1 ⟨d, m, c, t, s, g⟩ sent now) k
      | _ => False)
    else bif Nat.beq f 31 then (match cap with
      | [.ptr a 0 1 0, .ptr b 0 6 0] => boolR h a fun full => pktR h b fun p => (ok = true → 1 ≤ p.s ∧ p.s ≤ 65535) ∧ res ⟨d, m, c, t, s, g⟩ ok (ack1 ⟨d, m, c, t, s, g⟩ p.t p.s full) k
      | _ => False)
    else False
  | _ => False
def G2a : Gam := addGam (addGam G1 41 s41) 43 s43
noncomputable def C2a : Ctx := ⟨Try.prog, G2a, fun t => memN t eqs⟩
def G2 : Gam := addGam (addGam (addGam G2a 35 s43) 33 s33) 40 s40
noncomputable def C2 : Ctx := ⟨Try.prog, G2, fun t => memN t eqs⟩
def G3 : Gam := addGam (addGam G2 38 s38) 31 s31
noncomputable def C3 : Ctx := ⟨Try.prog, G3, fun t => memN t eqs⟩
def agW (v : SV) (K : Wn → Prop) : Prop := match v with
  | .agg [.int .i64 d, .int .i64 m, .int .i64 c, .int .i64 t, .int .i64 s, .int .i64 g] => K ⟨d, m, c, t, s, g⟩
  | _ => False
def agP (v : SV) (K : Pk → Prop) : Prop := match v with
  | .agg [.int .i64 n, .int .i64 t, .int .i64 s, .bool x, .bool y, .bool z] => K ⟨n, t, s, x, y, z⟩
  | _ => False
def sAcked : Spec := fun args _ _ k => match args with
  | [w, p, .bool full] => agW w fun w => agP p fun p => res w (ackOk p.t p.s) (ack1 w p.t p.s full) k
  | _ => False
def sBad : Spec := fun args _ _ k => match args with
  | [w, .int .i64 sent, .int .i64 now] => agW w fun w => res w (isT sent && isT now) (bad1 w sent now) k
  | _ => False
def sColl : Spec := fun args _ _ k => match args with
  | [w] => agW w fun w => res w true (col1 w) k
  | _ => False
def sNew : Spec := fun args _ _ k => match args with
  | [.int .i64 d, .int .i64 f, .int .i64 m] => res (newW d f m) true (newW d f m) k
  | _ => False
def sCheck : Spec := fun args _ _ k => match args with
  | [w] => agW w fun w => k (.int .i64 (bif mayW w then 0 else 2)) [] []
  | _ => False
def sSlow : Spec := fun args _ _ k => match args with
  | [w] => agW w fun w => k (.bool (mayW w && slowV w)) [] []
  | _ => False
def s37 : Spec := fun args _ _ k => match args with
  | [w, .int .i64 n] => agW w fun w => k (.bool (behV w n)) [] []
  | _ => False
def G4 : Gam := addGam (addGam (addGam (addGam G3 29 s29) 20 sCheck) 21 sCheck) 37 s37
noncomputable def C4 : Ctx := ⟨Try.prog, G4, fun t => memN t eqs⟩
noncomputable def c33_0 : Code := (sq1 (bodF Try.f33))
noncomputable def c33_1 : Code := (lpC (blkC (sq2 (bodF Try.f33))))
theorem code33 : bodF Try.f33 = (.seq c33_0 (.block 0 (.loop c33_1))) := by kernel_rfl
abbrev L33 : List Nat := [0]
abbrev M33 : List Bool := [true]
def v33 : List SV := [.ptr 0 0 6 0]
def wBO (w : Wn) : BO := .rows 6 1 true 60 [wC w]
def h33 (w : Wn) : List BO := [wBO w]
end Go.Proofs.Ytefjhkgkdmjopaa
