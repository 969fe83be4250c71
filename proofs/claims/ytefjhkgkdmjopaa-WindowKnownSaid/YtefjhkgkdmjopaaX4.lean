/-
  Chapter 11 by the engine: the laws' own functions.
-/
import Derived.Test.YtefjhkgkdmjopaaV3
import Derived.Test.YtefjhkgkdmjopaaP2
namespace Go.Proofs.Ytefjhkgkdmjopaa
open Go.RowKit
def G6 : Gam := addGam (addGam (addGam (addGam (addGam (addGam (addGam (addGam (addGam G5 11 s11) 12 sAcked) 13 sAcked) 14 sBad) 15 sBad) 16 sColl) 17 sColl) 18 sNew) 19 sNew
noncomputable def C6 : Ctx := ⟨Try.prog, G6, fun t => memN t eqs⟩
def resW (r : Wn) (k : SV → Wr → List Blk → Prop) : Prop := ∀ r' : Wn, r' = r → k (.agg (wC r')) [] []
def s27 : Spec := fun args _ _ k => match args with
  | [w, .int .i64 sent, .int .i64 now] => agW w fun w => resW (chW w (isT sent && isT now) (bad1 w sent now)) k
  | _ => False
def s28 : Spec := fun args _ _ k => match args with
  | [w, .int .i64 sent, .int .i64 size] => agW w fun w => resW (chW w (ackOk sent size) (ack1 w sent size true)) k
  | _ => False
def s25 : Spec := fun args _ _ k => match args with
  | [.agg [.int .i64 x, .int .i64 y, .int .i64 z]] => resW (madeW x y z) k
  | _ => False
def agT (v : SV) (K : Th → Prop) : Prop := match v with
  | .agg [.int .i64 k, .int .i64 t, .int .i64 n, .int .i64 s, .bool f] => K ⟨k, t, n, s, f⟩
  | _ => False
def tC (x : Th) : List SV := [.int .i64 x.k, .int .i64 x.t, .int .i64 x.n, .int .i64 x.s, .bool x.f]
def s26 : Spec := fun args _ _ k => match args with
  | [w, x] => agW w fun w => agT x fun x => mayW w = true ∧ ∀ r' : Wn, r' = stepW w x → k (.tuple [.agg (wC r'), .bool true]) [] []
  | _ => False
/-- The two numbers of a slice. -/
def two (h : Heap) (v : SV) (K : Int → Int → Prop) : Prop := match v with
  | .slice id 0 1 2 => match h id with
    | some b => match b.sz, b.n, b.rd 0, b.rd 1 with
      | 1, 2, [.int .i64 x], [.int .i64 y] => K x y
      | _, _, _, _ => False
    | none => False
  | _ => False
def isV (w : Wn) (a b x y : Int) : Bool := w.c == a && (w.t == b && (w.s == x && w.g == y))
def s42 : Spec := fun args h _ k => match args with
  | [w, .int .i64 a, .int .i64 b, l] => agW w fun w => two h l fun x y => k (.bool (isV w a b x y)) [] []
  | _ => False
def b2I (x y : Int) : Blk := ⟨1, 2, fun r => [.int .i64 (bif Nat.beq r 0 then x else y)], false, 0⟩
/-! The same, by value. -/
def vAcked : Spec := fun args _ _ k => match args with
  | [w, p, .bool full] => agW w fun w => agP p fun p => k (V w (ackOk p.t p.s) (ack1 w p.t p.s full)) [] []
  | _ => False
def vColl : Spec := fun args _ _ k => match args with
  | [w] => agW w fun w => k (V w true (col1 w)) [] []
  | _ => False
def vNew : Spec := fun args _ _ k => match args with
  | [.int .i64 d, .int .i64 f, .int .i64 m] => k (V (newW d f m) true (newW d f m)) [] []
  | _ => False
def v27 : Spec := fun args _ _ k => match args with
  | [w, .int .i64 sent, .int .i64 now] => agW w fun w => k (.agg (wC (chW w (isT sent && isT now) (bad1 w sent now)))) [] []
  | _ => False
def v28 : Spec := fun args _ _ k => match args with
  | [w, .int .i64 sent, .int .i64 size] => agW w fun w => k (.agg (wC (chW w (ackOk sent size) (ack1 w sent size true)))) [] []
  | _ => False
def G7 : Gam := addGam (addGam (addGam (addGam (addGam (addGam G5 12 vAcked) 16 vColl) 18 vNew) 27 v27) 28 v28) 42 s42
noncomputable def C7 : Ctx := ⟨Try.prog, G7, fun t => memN t eqs⟩
def sTrue : Spec := fun args _ _ k => match args with
  | [] => k (.bool true) [] []
  | _ => False
def G8 : Gam := addGam (addGam (addGam (addGam (addGam G6 27 s27) 28 s28) 25 s25) 26 s26) 24 sTrue
noncomputable def C8 : Ctx := ⟨Try.prog, G8, fun t => memN t eqs⟩
end Go.Proofs.Ytefjhkgkdmjopaa
