/-
  Chapter 16 by the engine: the document's handshake: what holds of its blocks, and its functions.
-/
import Derived.Test.YtllkhfabfcpieaaV8
import Derived.Test.YtllkhfabfcpieaaE26
namespace Go.Proofs.Ytllkhfabfcpieaa
open Go.RowKit
/-- Is a number one of the first n ones? -/
def inF (f : Nat → Int) : Nat → Int → Bool
  | 0, _ => false
  | n + 1, s => inF f n s || f n == s
structure IsI (b : Blk) (n : Nat) : Prop where
  sz : b.sz = 1
  le : n ≤ b.n
  sm : n ≤ 100000
  rd : ∀ r, r < n → ∃ x : Int, b.rd r = [.int .i64 x]
def rI (l : List SV) : Int := match l with
  | [.int _ x] => x
  | _ => 0
/-- The numbers of a slice. -/
def lst (h : Heap) (v : SV) (K : (Nat → Int) → Nat → Prop) : Prop := match v with
  | .nilSlice => K (fun _ => 0) 0
  | .slice id 0 1 n => match h id with
    | some b => IsI b n ∧ K (fun r => rI (b.rd r)) n
    | none => False
  | _ => False
/-- The same, to be appended to. -/
def lstW (h : Heap) (id n : Nat) (K : (Nat → Int) → Prop) : Prop := match h id with
  | some b => (b.rw = true ∧ b.ty = 3 ∧ b.n = n ∧ IsI b n) ∧ K fun r => rI (b.rd r)
  | none => False
def bF (f : Nat → Int) (n : Nat) : Blk := ⟨1, n, fun r => [.int .i64 (f r)], false, 0⟩
def bFw (f : Nat → Int) (n : Nat) : Blk := ⟨1, n, fun r => [.int .i64 (f r)], true, 3⟩
def appF (f : Nat → Int) (n : Nat) (s : Int) : Nat → Int := fun r => bif decide (r < n) then f r else s
def mC (sv : Bool) (ks gs : SV) (va cf an : Bool) : List SV := [.bool sv, ks, gs, .bool va, .bool cf, .bool an]
def mB (sv : Bool) (ks gs : SV) (va cf an : Bool) : Blk := oneB (mC sv ks gs va cf an) true 57
def mRo (sv : Bool) (ks gs : SV) (va cf an : Bool) : Blk := oneB (mC sv ks gs va cf an) false 0
/-- The document's handshake that a pointer tells. -/
def mR (h : Heap) (id : Nat) (K : Bool → Nat → Nat → SV → Bool → Bool → Bool → Prop) : Prop := match h id with
  | some b => match b.sz, b.n, b.rd 0 with
    | 6, 1, [.bool sv, .slice ik 0 1 nk, gs, .bool va, .bool cf, .bool an] => K sv ik nk gs va cf an
    | _, _, _ => False
  | none => False
def mW (h : Heap) (id : Nat) (K : Bool → Nat → Nat → SV → Bool → Bool → Bool → Prop) : Prop := match h id with
  | some b => match b.sz, b.n, b.rw, b.ty, b.rd 0 with
    | 6, 1, true, 57, [.bool sv, .slice ik 0 1 nk, gs, .bool va, .bool cf, .bool an] => K sv ik nk gs va cf an
    | _, _, _, _, _ => False
  | none => False
def neN (a b : Nat) : Bool := !Nat.beq a b
def s45 : Spec := fun args h _ k => match args with
  | [l, .int .i64 s] => lst h l fun f n => k (.bool (inF f n s)) [] []
  | _ => False
def G9 : Gam := addGam (addGam G7 45 s45) 46 s35
noncomputable def C9 : Ctx := ⟨Try.prog, G9, fun t => memN t eqs⟩
def mAll (h : Heap) (id : Nat) (K : Bool → Nat → (Nat → Int) → (Nat → Int) → Nat → Bool → Bool → Bool → Prop) : Prop := mR h id fun sv ik nk gs va cf an => lst h (.slice ik 0 1 nk) fun kf _ => lst h gs fun gf ng => K sv nk kf gf ng va cf an
def livM (kf gf : Nat → Int) (nk ng : Nat) (s : Int) : Bool := inF kf nk s && !inF gf ng s
def s36 : Spec := fun args h _ k => match args with
  | [.ptr id 0 6 0, .int .i64 s] => mAll h id fun _ nk kf gf ng _ _ _ => k (.bool (livM kf gf nk ng s)) [] []
  | _ => False
def s37 : Spec := fun args h _ k => match args with
  | [.ptr id 0 6 0, .int .i64 s] => mAll h id fun _ nk kf _ _ _ _ _ => k (.bool (inF kf nk s)) [] []
  | _ => False
def s39 : Spec := fun args h _ k => match args with
  | [.ptr id 0 6 0] => mAll h id fun sv _ _ _ _ _ cf an => k (.bool (sv || (cf || an))) [] []
  | _ => False
/-- What a call leaves of one that nothing is appended to. -/
def m1 (id ik nk : Nat) (gs : SV) (sv va cf an : Bool) : Wr := [(id, some (mB sv (.slice ik 0 1 nk) gs va cf an))]
def mOk (id ik : Nat) (gs : SV) (base : Nat) : Bool := neN id ik && (Nat.blt ik base && (match gs with | .slice ig 0 1 _ => neN id ig && (neN ik ig && Nat.blt ig base) | _ => true))
def mAllW (h : Heap) (id base : Nat) (K : Bool → Nat → Nat → (Nat → Int) → SV → (Nat → Int) → Nat → Bool → Bool → Bool → Prop) : Prop :=
  mW h id fun sv ik nk gs va cf an => lst h (.slice ik 0 1 nk) fun kf _ => lst h gs fun gf ng => bif mOk id ik gs base then K sv ik nk kf gs gf ng va cf an else False
def s42 : Spec := fun args h base k => match args with
  | [.ptr id 0 6 0] => mAllW h id base fun sv ik nk _ gs _ _ _ cf an => k (.int .i64 0) (m1 id ik nk gs sv true cf an) []
  | _ => False
def s43 : Spec := fun args h base k => match args with
  | [.ptr id 0 6 0] => mAllW h id base fun sv ik nk kf gs gf ng va cf an => bif livM kf gf nk ng 2 then k (.int .i64 0) (m1 id ik nk gs sv true true an) [] else k (.int .i64 160) (m1 id ik nk gs sv va cf an) []
  | _ => False
def s44 : Spec := fun args h base k => match args with
  | [.ptr id 0 6 0, .int .i64 s] => mAllW h id base fun sv ik nk kf gs gf ng va cf an => bif !inS s then k (.int .i64 9) (m1 id ik nk gs sv va cf an) [] else bif livM kf gf nk ng s then k (.int .i64 0) (m1 id ik nk gs sv va cf (an || s != 0)) [] else k (.int .i64 160) (m1 id ik nk gs sv va cf an) []
  | _ => False
def s40 : Spec := fun args h base k => match args with
  | [.ptr id 0 6 0, .int .i64 s] => mW h id fun sv ik nk gs va cf an => lstW h ik nk fun kf => lst h gs fun gf ng => bif mOk id ik gs base then
      ((1 ≤ nk ∧ nk ≤ 1000) ∧
      (bif !inS s then k (.int .i64 9) [(id, some (mB sv (.slice ik 0 1 nk) gs va cf an)), (ik, some (bFw kf nk))] []
      else bif inF gf ng s then k (.int .i64 160) [(id, some (mB sv (.slice ik 0 1 nk) gs va cf an)), (ik, some (bFw kf nk))] []
      else bif !inF kf nk s then k (.int .i64 0) [(id, some (mB sv (.slice base 0 1 (nk + 1)) gs va cf an)), (ik, none)] [bFw (appF kf nk s) (nk + 1)]
      else k (.int .i64 0) [(id, some (mB sv (.slice ik 0 1 nk) gs va cf an)), (ik, some (bFw kf nk))] []))
    else False
  | _ => False
def s41 : Spec := fun args h base k => match args with
  | [.ptr id 0 6 0, .int .i64 s] => mW h id fun sv ik nk gs va cf an => lst h (.slice ik 0 1 nk) fun kf _ => bif mOk id ik gs base then (match gs with
    | .nilSlice =>
      bif !inS s then k (.int .i64 9) (m1 id ik nk gs sv va cf an) []
      else bif s == 2 then k (.int .i64 2) (m1 id ik nk gs sv va cf an) []
      else bif !livM kf (fun _ => 0) nk 0 s then k (.int .i64 160) (m1 id ik nk gs sv va cf an) []
      else k (.int .i64 0) [(id, some (mB sv (.slice ik 0 1 nk) (.slice base 0 1 1) va cf an))] [bFw (appF (fun _ => 0) 0 s) 1]
    | .slice ig 0 1 ng => lstW h ig ng fun gf => ((1 ≤ ng ∧ ng ≤ 1000) ∧
      (bif !inS s then k (.int .i64 9) [(id, some (mB sv (.slice ik 0 1 nk) gs va cf an)), (ig, some (bFw gf ng))] []
      else bif s == 2 then k (.int .i64 2) [(id, some (mB sv (.slice ik 0 1 nk) gs va cf an)), (ig, some (bFw gf ng))] []
      else bif !livM kf gf nk ng s then k (.int .i64 160) [(id, some (mB sv (.slice ik 0 1 nk) gs va cf an)), (ig, some (bFw gf ng))] []
      else k (.int .i64 0) [(id, some (mB sv (.slice ik 0 1 nk) (.slice base 0 1 (ng + 1)) va cf an)), (ig, none)] [bFw (appF gf ng s) (ng + 1)]))
    | _ => False)
    else False
  | _ => False
def s22 : Spec := fun args _ base k => match args with
  | [.bool b] => k (.ptr base 0 6 0) [] [mB b (.slice (base + 1) 0 1 1) .nilSlice (!b) false false, bFw (fun _ => 0) 1]
  | _ => False
def s25 : Spec := fun args h base k => match args with
  | [.ptr id 0 6 0] => mR h id fun sv ik nk gs va cf an => lst h (.slice ik 0 1 nk) fun kf _ => match nk with
    | 0 => False
    | nk + 1 => nk ≤ 1000 ∧ (match gs with
      | .nilSlice => k (.ptr base 0 6 0) [] [mB sv (.slice (base + 1) 0 1 (nk + 1)) .nilSlice va cf an, bFw kf (nk + 1)]
      | .slice ig 0 1 ng => match ng with
        | 0 => False
        | ng + 1 => ng ≤ 1000 ∧ lst h (.slice ig 0 1 (ng + 1)) fun gf _ => k (.ptr base 0 6 0) [] [mB sv (.slice (base + 1) 0 1 (nk + 1)) (.slice (base + 2) 0 1 (ng + 1)) va cf an, bFw kf (nk + 1), bFw gf (ng + 1)]
      | _ => False)
  | _ => False
def G10 : Gam := addGam (addGam (addGam G9 36 s36) 37 s37) 39 s39
noncomputable def C10 : Ctx := ⟨Try.prog, G10, fun t => memN t eqs⟩
/-! Blocks, as a function finds them. -/
def hpN (m : Blk) (kf : Nat → Int) (nk : Nat) : LHeap := [some m, some (bF kf nk)]
def hpS (m : Blk) (kf : Nat → Int) (nk : Nat) (gf : Nat → Int) (ng : Nat) : LHeap := [some m, some (bF kf nk), some (bF gf ng)]
noncomputable def c45_0 : Code := (sq1 (bodF Try.f45))
noncomputable def c45_1 : Code := (sq1 (sq1 (sq2 (bodF Try.f45))))
noncomputable def c45_2 : Code := (lpC (blkC (sq2 (sq1 (sq2 (bodF Try.f45))))))
noncomputable def c45_3 : Code := (sq2 (sq2 (bodF Try.f45)))
theorem code45 : bodF Try.f45 = (.seq c45_0 (.seq (.seq c45_1 (.block 0 (.loop c45_2))) c45_3)) := by kernel_rfl
abbrev L45 : List Nat := [0, 1, 5]
def v45 (n : Nat) (s : Int) (i : SV) : List SV := [.slice 0 0 1 n, .int .i64 s, i]
def h45 (f : Nat → Int) (n : Nat) : List BO := [.raw (some (bF f n))]
end Go.Proofs.Ytllkhfabfcpieaa
