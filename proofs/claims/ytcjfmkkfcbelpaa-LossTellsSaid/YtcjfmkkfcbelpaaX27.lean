/-
  Chapter 9 by the engine: LossTells: pieces; what Find answers, way by way. (Printed by genx27.py.)
-/
import Derived.Test.YtcjfmkkfcbelpaaX22
namespace Go.Proofs.Ytcjfmkkfcbelpaa
open Go.RowKit
set_option linter.unusedVariables false
noncomputable def c3_0 : Code := (sq1 (bodF Try.f3))
noncomputable def c3_1 : Code := (sq1 (sq2 (bodF Try.f3)))
noncomputable def c3_2 : Code := (sq1 (sq2 (sq2 (bodF Try.f3))))
noncomputable def c3_3 : Code := (sq1 (sq2 (sq2 (sq2 (bodF Try.f3)))))
noncomputable def c3_4 : Code := (sq1 (sq2 (sq2 (sq2 (sq2 (bodF Try.f3))))))
noncomputable def c3_5 : Code := (sq1 (sq2 (sq2 (sq2 (sq2 (sq2 (bodF Try.f3)))))))
noncomputable def c3_6 : Code := (sq1 (sq1 (sq2 (sq2 (sq2 (sq2 (sq2 (sq2 (bodF Try.f3)))))))))
noncomputable def c3_7 : Code := (lpC (blkC (sq2 (sq1 (sq2 (sq2 (sq2 (sq2 (sq2 (sq2 (bodF Try.f3)))))))))))
noncomputable def c3_8 : Code := (sq1 (sq1 (sq2 (sq2 (sq2 (sq2 (sq2 (sq2 (sq2 (bodF Try.f3))))))))))
noncomputable def c3_9 : Code := (lpC (blkC (sq2 (sq1 (sq2 (sq2 (sq2 (sq2 (sq2 (sq2 (sq2 (bodF Try.f3))))))))))))
noncomputable def c3_10 : Code := (sq2 (sq2 (sq2 (sq2 (sq2 (sq2 (sq2 (sq2 (bodF Try.f3)))))))))
theorem code3 : bodF Try.f3 = (.seq c3_0 (.seq c3_1 (.seq c3_2 (.seq c3_3 (.seq c3_4 (.seq c3_5 (.seq (.seq c3_6 (.block 0 (.loop c3_7))) (.seq (.seq c3_8 (.block 2 (.loop c3_9))) c3_10)))))))) := by kernel_rfl
/-- The error that is told. -/
def errV (n : Nat) (P : Nat → Pk) (g t l m s v f : Int) : Int := bif chkP P n != 0 then 2 else bif decide (g < -1) then 9 else bif decide (9007199254740991 < g) then 9 else bif !isT t then 9 else bif chkE l m s v f != 0 then chkE l m s v f else 0
/-- What Find tells of. -/
structure Sel (n : Nat) (P : Nat → Pk) (g t l m s v f : Int) (F E : Nat → Bool) (tm e : Int) : Prop where
  hF : F = lostB g t (waitV l m s v f) P
  hE : E = restB g t (waitV l m s v f) P
  ht : tm = tmV g t (waitV l m s v f) P n
  he : e = errV n P g t l m s v f
def s11t : Spec := fun args h base k => match args with
  | [.slice id 0 6 n, .int .i64 g, .int .i64 t, .agg [.int .i64 l, .int .i64 m, .int .i64 s, .int .i64 v, .int .i64 f]] => match h id with
    | some b => IsP b n ∧ (0 < n ∧ ∀ (P : Nat → Pk) (tm e : Int) (F E : Nat → Bool), P = (fun r => rowP (b.rd r)) → Sel n P g t l m s v f F E tm e → ((e ≠ 0 → k (noList e) [] []) ∧ ((e = 0 → ∀ (a : Nat) (PL : Nat → Pk), Pick F P n a PL → cntS E n = 0 → k (.tuple [.slice base 0 6 (a + 1), .nilSlice, .int .i64 tm, .int .i64 0]) [] [bPw (a + 1) PL]) ∧ ((e = 0 → ∀ (b : Nat) (PR : Nat → Pk), cntS F n = 0 → Pick E P n b PR → k (.tuple [.nilSlice, .slice base 0 6 (b + 1), .int .i64 tm, .int .i64 0]) [] [bPw (b + 1) PR]) ∧ (e = 0 → ∀ (a : Nat) (PL : Nat → Pk) (b : Nat) (PR : Nat → Pk), Pick F P n a PL → Pick E P n b PR → k (.tuple [.slice base 0 6 (a + 1), .slice (base + 1) 0 6 (b + 1), .int .i64 tm, .int .i64 0]) [] [bPw (a + 1) PL, bPw (b + 1) PR])))))
    | none => False
  | _ => False
def s12e : Spec := fun args h base k => match args with
  | [.slice id 0 6 n, .int .i64 g, .int .i64 t, .agg [.int .i64 l, .int .i64 m, .int .i64 s, .int .i64 v, .int .i64 f]] => match h id with
    | some b => IsP b n ∧ (0 < n ∧ ∀ (P : Nat → Pk) (tm e : Int) (F E : Nat → Bool), P = (fun r => rowP (b.rd r)) → Sel n P g t l m s v f F E tm e → (e ≠ 0 ∧ k (noList e) [] []))
    | none => False
  | _ => False
def s12sn : Spec := fun args h base k => match args with
  | [.slice id 0 6 n, .int .i64 g, .int .i64 t, .agg [.int .i64 l, .int .i64 m, .int .i64 s, .int .i64 v, .int .i64 f]] => match h id with
    | some b => IsP b n ∧ (0 < n ∧ ∀ (P : Nat → Pk) (tm e : Int) (F E : Nat → Bool), P = (fun r => rowP (b.rd r)) → Sel n P g t l m s v f F E tm e → (e = 0 ∧ (cntS E n = 0 ∧ (∀ (a : Nat) (PL : Nat → Pk), Pick F P n a PL → k (.tuple [.slice base 0 6 (a + 1), .nilSlice, .int .i64 tm, .int .i64 0]) [] [bPw (a + 1) PL]))))
    | none => False
  | _ => False
def s12ns : Spec := fun args h base k => match args with
  | [.slice id 0 6 n, .int .i64 g, .int .i64 t, .agg [.int .i64 l, .int .i64 m, .int .i64 s, .int .i64 v, .int .i64 f]] => match h id with
    | some b => IsP b n ∧ (0 < n ∧ ∀ (P : Nat → Pk) (tm e : Int) (F E : Nat → Bool), P = (fun r => rowP (b.rd r)) → Sel n P g t l m s v f F E tm e → (e = 0 ∧ (cntS F n = 0 ∧ (∀ (b : Nat) (PR : Nat → Pk), Pick E P n b PR → k (.tuple [.nilSlice, .slice base 0 6 (b + 1), .int .i64 tm, .int .i64 0]) [] [bPw (b + 1) PR]))))
    | none => False
  | _ => False
def s12ss : Spec := fun args h base k => match args with
  | [.slice id 0 6 n, .int .i64 g, .int .i64 t, .agg [.int .i64 l, .int .i64 m, .int .i64 s, .int .i64 v, .int .i64 f]] => match h id with
    | some b => IsP b n ∧ (0 < n ∧ ∀ (P : Nat → Pk) (tm e : Int) (F E : Nat → Bool), P = (fun r => rowP (b.rd r)) → Sel n P g t l m s v f F E tm e → (e = 0 ∧ (0 < cntS F n ∧ (0 < cntS E n ∧ (∀ (a : Nat) (PL : Nat → Pk) (b : Nat) (PR : Nat → Pk), Pick F P n a PL → Pick E P n b PR → k (.tuple [.slice base 0 6 (a + 1), .slice (base + 1) 0 6 (b + 1), .int .i64 tm, .int .i64 0]) [] [bPw (a + 1) PL, bPw (b + 1) PR])))))
    | none => False
  | _ => False
/-- Of no packets. -/
def s11z : Spec := fun args h base k => match args with
  | [.nilSlice, .int .i64 g, .int .i64 t, .agg [.int .i64 l, .int .i64 m, .int .i64 s, .int .i64 v, .int .i64 f]] => ∀ e : Int, e = errV 0 (fun _ => pk0) g t l m s v f → ((e ≠ 0 → k (noList e) [] []) ∧ (e = 0 → k (.tuple [.nilSlice, .nilSlice, .int .i64 (-1), .int .i64 0]) [] []))
  | _ => False
def G27t : Gam := addGam G18 11 s11t
noncomputable def C27t : Ctx := ⟨Try.prog, G27t, fun t => memN t eqs⟩
def G27e : Gam := addGam G18 12 s12e
noncomputable def C27e : Ctx := ⟨Try.prog, G27e, fun t => memN t eqs⟩
def G27sn : Gam := addGam G18 12 s12sn
noncomputable def C27sn : Ctx := ⟨Try.prog, G27sn, fun t => memN t eqs⟩
def G27ns : Gam := addGam G18 12 s12ns
noncomputable def C27ns : Ctx := ⟨Try.prog, G27ns, fun t => memN t eqs⟩
def G27ss : Gam := addGam G18 12 s12ss
noncomputable def C27ss : Ctx := ⟨Try.prog, G27ss, fun t => memN t eqs⟩
def G27z : Gam := addGam (addGam G18 11 s11z) 12 s11z
noncomputable def C27z : Ctx := ⟨Try.prog, G27z, fun t => memN t eqs⟩
/-- A packet whose number was taken away. -/
def negP (p : Pk) : Pk := ⟨-1, p.a, p.z, p.b, p.c, p.d⟩
/-! Templates. -/
def yO (g t : Int) : BO := .rows 2 1 true 23 [[.int .i64 g, .int .i64 t]]
def meO (l m s v f : Int) : BO := .rows 5 1 true 25 [[.int .i64 l, .int .i64 m, .int .i64 s, .int .i64 v, .int .i64 f]]
abbrev L3A : List Nat := [0, 4, 5, 7]
def v3A (n : Nat) : List SV := [.slice 1 0 6 n, .ptr 3 0 2 0, .ptr 4 0 5 0, .slice 2 0 6 n]
def h3A (k : Nat) (R : Nat → Pk) (n : Nat) (P : Nat → Pk) (g t l m s v f : Int) : List BO := [.raw (some (bP k R)), lO n P, lO n P, yO g t, meO l m s v f]
abbrev M3a : List Bool := [false, true, true, false, false]
abbrev L3B : List Nat := [0, 4, 5, 7, 8, 9, 10, 11]
def v3B (n : Nat) (lost rest : SV) (tm e : Int) : List SV := [.slice 1 0 6 n, .ptr 3 0 2 0, .ptr 4 0 5 0, .slice 2 0 6 n, lost, rest, .int .i64 tm, .int .i64 e]
abbrev M3b : List Bool := [false, false, false, true, true, false, false]
def h3B (k : Nat) (R : Nat → Pk) (n : Nat) (P : Nat → Pk) (g t l m s v f : Int) (o1 o2 : Option Blk) : List BO := [.raw (some (bP k R)), lO n P, lO n P, yO g t, meO l m s v f, BO.raw o1, BO.raw o2]
abbrev L3C : List Nat := [0, 7, 8, 9, 10, 11, 12, 13, 14, 15]
def v3C (n : Nat) (lost rest : SV) (tm e : Int) (a b : SV) (to f : Int) : List SV := [.slice 1 0 6 n, .slice 2 0 6 n, lost, rest, .int .i64 tm, .int .i64 e, a, b, .int .i64 to, .int .i64 f]
abbrev M3c : List Bool := [false, false, false, true, true, false, false, false, false]
def h3C (k : Nat) (R : Nat → Pk) (n : Nat) (P : Nat → Pk) (o1 o2 o3 o4 : Option Blk) : List BO := [.raw (some (bP k R)), lO n P, lO n P, BO.raw o1, BO.raw o2, BO.raw o3, BO.raw o4]
abbrev L3D : List Nat := [0, 7, 8, 9]
def v3D (n : Nat) (lost rest : SV) : List SV := [.slice 1 0 6 n, .slice 2 0 6 n, lost, rest]
abbrev M3d : List Bool := [false, false, false, false, false]
def h3D (k : Nat) (R : Nat → Pk) (n : Nat) (P : Nat → Pk) (o1 o2 : Option Blk) : List BO := [.raw (some (bP k R)), lO n P, lO n P, BO.raw o1, BO.raw o2]
abbrev L3E : List Nat := [0, 7, 8, 9, 16]
def v3E (n : Nat) (lost rest i : SV) : List SV := [.slice 1 0 6 n, .slice 2 0 6 n, lost, rest, i]
abbrev L3F : List Nat := [0, 7, 8, 9, 17]
end Go.Proofs.Ytcjfmkkfcbelpaa
