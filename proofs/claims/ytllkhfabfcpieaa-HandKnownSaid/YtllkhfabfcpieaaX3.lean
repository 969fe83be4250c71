/-
  Chapter 16 by the engine: lists, calls in a row.
-/
import Derived.Test.YtllkhfabfcpieaaX2
import Derived.Test.YtllkhfabfcpieaaP2
namespace Go.Proofs.Ytllkhfabfcpieaa
open Go.RowKit
def bL (l : List Int) : Blk := ⟨1, l.length, fun r => [.int .i64 (l.getD r 0)], true, 3⟩
def kI (k : SV → Wr → List Blk → Prop) (base : Nat) : List Int → Prop
  | [] => k .nilSlice [] []
  | x :: l => k (.slice base 0 1 (l.length + 1)) [] [bL (x :: l)]
def s21 : Spec := fun args h base k => match args with
  | [.nilPtr] => k .nilSlice [] []
  | [.ptr id 0 7 0] => handR h id fun hd =>
    bif livesV hd 0 then (bif livesV hd 1 then (bif livesV hd 2 then kI k base [0, 1, 2] else kI k base [0, 1]) else (bif livesV hd 2 then kI k base [0, 2] else kI k base [0]))
    else (bif livesV hd 1 then (bif livesV hd 2 then kI k base [1, 2] else kI k base [1]) else (bif livesV hd 2 then kI k base [2] else kI k base []))
  | _ => False
def int1 (l : List SV) (K : Int → Prop) : Prop := match l with
  | [.int .i64 x] => K x
  | _ => False
/-- The numbers of a slice of three at most. -/
def readI (h : Heap) (v : SV) (K : List Int → Prop) : Prop := match v with
  | .nilSlice => K []
  | .slice id 0 1 1 => match h id with
    | some b => match b.sz, b.n with
      | 1, 1 => int1 (b.rd 0) fun x => K [x]
      | _, _ => False
    | none => False
  | .slice id 0 1 2 => match h id with
    | some b => match b.sz, b.n with
      | 1, 2 => int1 (b.rd 0) fun x => int1 (b.rd 1) fun y => K [x, y]
      | _, _ => False
    | none => False
  | .slice id 0 1 3 => match h id with
    | some b => match b.sz, b.n with
      | 1, 3 => int1 (b.rd 0) fun x => int1 (b.rd 1) fun y => int1 (b.rd 2) fun z => K [x, y, z]
      | _, _ => False
    | none => False
  | _ => False
def eqI : List Int → List Int → Bool
  | [], [] => true
  | x :: l, y :: m => x == y && eqI l m
  | _, _ => false
def s20 : Spec := fun args h _ k => match args with
  | [a, b] => readI h a fun la => readI h b fun lb => k (.bool (eqI la lb)) [] []
  | _ => False
def begV (h : Hd) (b : Bool) : Bool := eqI (liveL h) [0] && (validV h == !b && (sureV h == b && !confV h))
def s34 : Spec := fun args h _ k => match args with
  | [.ptr id 0 7 0, .bool b] => handR h id fun hd => k (.bool (begV hd b)) [] []
  | _ => False
def v27 : Spec := fun args h _ k => match args with
  | [.ptr id 0 7 0] => handW h id fun hd => k (.int .i64 (needsV hd 2)) [(id, some (hB (confH hd)))] []
  | _ => False
def v31 : Spec := fun args h _ k => match args with
  | [.ptr id 0 7 0, .int .i64 s] => handW h id fun hd => k (.int .i64 (needsV hd s)) [(id, some (hB (ansH hd s)))] []
  | _ => False
def v26 : Spec := fun args h _ k => match args with
  | [.ptr id 0 7 0, .int .i64 s] => handW h id fun hd => k (.int .i64 (keysE hd s)) [(id, some (hB (keysH hd s)))] []
  | _ => False
def v29 : Spec := fun args h _ k => match args with
  | [.ptr id 0 7 0, .int .i64 s] => handW h id fun hd => k (.int .i64 (discE hd s)) [(id, some (hB (discH hd s)))] []
  | _ => False
def G4 : Gam := addGam (addGam (addGam (addGam (addGam G3 10 s10) 24 s24) 13 s13) 21 s21) 20 s20
noncomputable def C4 : Ctx := ⟨Try.prog, G4, fun t => memN t eqs⟩
def G5 : Gam := addGam (addGam (addGam (addGam (addGam G4 34 s34) 27 v27) 31 v31) 26 v26) 29 v29
noncomputable def C5 : Ctx := ⟨Try.prog, G5, fun t => memN t eqs⟩
def s17 : Spec := fun args _ _ k => match args with
  | [] => k (.bool true) [] []
  | _ => False
/-- Calls, as rows. -/
def bD (n : Nat) (g : Nat → Nat → Int) : Blk := ⟨2, n, fun r => [.int .i64 (g r 0), .int .i64 (g r 1)], false, 0⟩
noncomputable def c18_0 : Code := (sq1 (bodF Try.f18))
noncomputable def c18_1 : Code := (sq1 (sq2 (bodF Try.f18)))
noncomputable def c18_2 : Code := (sq1 (sq1 (sq2 (sq2 (bodF Try.f18)))))
noncomputable def c18_3 : Code := (lpC (blkC (sq2 (sq1 (sq2 (sq2 (bodF Try.f18)))))))
noncomputable def c18_4 : Code := (sq2 (sq2 (sq2 (bodF Try.f18))))
theorem code18 : bodF Try.f18 = (.seq c18_0 (.seq c18_1 (.seq (.seq c18_2 (.block 0 (.loop c18_3))) c18_4))) := by kernel_rfl
abbrev L18 : List Nat := [1, 4, 5, 6]
abbrev M18 : List Bool := [false, true]
def hbO (h : Hd) : BO := .rows 7 1 true 54 [hC h]
def v18 (n : Nat) (i : SV) : List SV := [.slice 0 0 2 n, .nilPtr, .ptr 1 0 7 0, i]
def h18 (n : Nat) (g : Nat → Nat → Int) (h : Hd) : List BO := [.raw (some (bD n g)), hbO h]
noncomputable def c3_0 : Code := (sq1 (bodF Try.f3))
noncomputable def c3_1 : Code := (sq1 (sq2 (bodF Try.f3)))
noncomputable def c3_2 : Code := (sq1 (sq2 (sq2 (bodF Try.f3))))
noncomputable def c3_3 : Code := (sq1 (sq1 (sq2 (sq2 (sq2 (bodF Try.f3))))))
noncomputable def c3_4 : Code := (lpC (blkC (sq2 (sq1 (sq2 (sq2 (sq2 (bodF Try.f3))))))))
noncomputable def c3_5 : Code := (sq2 (sq2 (sq2 (sq2 (bodF Try.f3)))))
theorem code3 : bodF Try.f3 = (.seq c3_0 (.seq c3_1 (.seq c3_2 (.seq (.seq c3_3 (.block 0 (.loop c3_4))) c3_5)))) := by kernel_rfl
abbrev L3 : List Nat := [0, 2, 3, 4, 5, 6]
abbrev M3 : List Bool := [false, true, true]
def v3 (n : Nat) (b : Bool) (i : SV) : List SV := [.slice 0 0 2 n, .bool false, .ptr 1 0 7 0, .ptr 2 0 7 0, .bool b, i]
def h3 (n : Nat) (g : Nat → Nat → Int) (h m : Hd) : List BO := [.raw (some (bD n g)), hbO h, hbO m]
def G6 : Gam := addGam G4 17 s17
noncomputable def C6 : Ctx := ⟨Try.prog, G6, fun t => memN t eqs⟩
end Go.Proofs.Ytllkhfabfcpieaa
