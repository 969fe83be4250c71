/-
  Chapter 16 by the engine: the list of what lives, by the document.
-/
import Derived.Test.YtllkhfabfcpieaaV10
namespace Go.Proofs.Ytllkhfabfcpieaa
open Go.RowKit
def okN (ik : Nat) (gs : SV) : Bool := match gs with
  | .slice ig 0 1 _ => neN ik ig
  | _ => true
/-- The lists lie apart. -/
def mAllN (h : Heap) (id : Nat) (K : Bool → Nat → (Nat → Int) → (Nat → Int) → Nat → Bool → Bool → Bool → Prop) : Prop := mR h id fun sv ik nk gs va cf an => lst h (.slice ik 0 1 nk) fun kf _ => lst h gs fun gf ng => bif okN ik gs then K sv nk kf gf ng va cf an else False
def s38 : Spec := fun args h base k => match args with
  | [.ptr id 0 6 0] => mAllN h id fun _ nk kf gf ng _ _ _ =>
    bif livM kf gf nk ng 0 then (bif livM kf gf nk ng 1 then (bif livM kf gf nk ng 2 then kI k base [0, 1, 2] else kI k base [0, 1]) else (bif livM kf gf nk ng 2 then kI k base [0, 2] else kI k base [0]))
    else (bif livM kf gf nk ng 1 then (bif livM kf gf nk ng 2 then kI k base [1, 2] else kI k base [1]) else (bif livM kf gf nk ng 2 then kI k base [2] else kI k base []))
  | _ => False
def livL (kf gf : Nat → Int) (nk ng : Nat) : List Int := (bif livM kf gf nk ng 0 then [0] else []) ++ ((bif livM kf gf nk ng 1 then [1] else []) ++ (bif livM kf gf nk ng 2 then [2] else []))
/-- A copy, of lists that lie apart. -/
def s25n : Spec := fun args h base k => match args with
  | [.ptr id 0 6 0] => mR h id fun sv ik nk gs va cf an => lst h (.slice ik 0 1 nk) fun kf _ => match nk with
    | 0 => False
    | nk + 1 => nk ≤ 1000 ∧ (match gs with
      | .nilSlice => k (.ptr base 0 6 0) [] [mB sv (.slice (base + 1) 0 1 (nk + 1)) .nilSlice va cf an, bFw kf (nk + 1)]
      | .slice ig 0 1 ng => match ng with
        | 0 => False
        | ng + 1 => ng ≤ 1000 ∧ (bif neN ik ig then lst h (.slice ig 0 1 (ng + 1)) (fun gf _ => k (.ptr base 0 6 0) [] [mB sv (.slice (base + 1) 0 1 (nk + 1)) (.slice (base + 2) 0 1 (ng + 1)) va cf an, bFw kf (nk + 1), bFw gf (ng + 1)]) else False)
      | _ => False)
  | _ => False
def G11 : Gam := addGam (addGam (addGam (addGam (addGam (addGam (addGam (addGam G10 38 s38) 40 s40) 41 s41) 42 s42) 43 s43) 44 s44) 22 s22) 25 s25n
noncomputable def C11 : Ctx := ⟨Try.prog, G11, fun t => memN t eqs⟩
end Go.Proofs.Ytllkhfabfcpieaa
