/-
  Chapter 9 by the engine: sameness with a list that begins at a later row.
-/
import Derived.Test.YtcjfmkkfcbelpaaV13
namespace Go.Proofs.Ytcjfmkkfcbelpaa
open Go.RowKit
def lpO (h : Heap) (v : SV) (K : (Nat → Pk) → Nat → Prop) : Prop := match v with
  | .nilSlice => K (fun _ => pk0) 0
  | .eslice => K (fun _ => pk0) 0
  | .slice id r0 6 n => match h id with
    | some b => IsP b (r0 + n) ∧ K (fun r => rowP (b.rd (r0 + r))) n
    | none => False
  | _ => False
def s22 : Spec := fun args h _ k => match args with
  | [v, w] => lp h v fun P n => lpO h w fun Q m => k (.bool (Nat.beq n m && eqPs P Q n)) [] []
  | _ => False
def v22 (n m r0 : Nat) (i : SV) : List SV := [.slice 0 0 6 n, .slice 1 r0 6 m, i]
def h22 (n m r0 : Nat) (P Q : Nat → Pk) : List BO := [.raw (some (bP n P)), .raw (some (bP (r0 + m) Q))]
def G14 : Gam := addGam G13 22 s22
noncomputable def C14 : Ctx := ⟨Try.prog, G14, fun t => memN t eqs⟩
end Go.Proofs.Ytcjfmkkfcbelpaa
