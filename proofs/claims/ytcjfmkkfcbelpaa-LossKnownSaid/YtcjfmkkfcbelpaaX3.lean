/-
  Chapter 9 by the engine: lists of packets: checks, sameness.
-/
import Derived.Test.YtcjfmkkfcbelpaaV2
namespace Go.Proofs.Ytcjfmkkfcbelpaa
open Go.RowKit
def pkC (p : Pk) : List SV := [.int .i64 p.n, .int .i64 p.a, .int .i64 p.z, .bool p.b, .bool p.c, .bool p.d]
def rowP (l : List SV) : Pk := match l with
  | [.int _ n, .int _ a, .int _ z, .bool b, .bool c, .bool d] => ⟨n, a, z, b, c, d⟩
  | _ => pk0
structure IsP (b : Blk) (n : Nat) : Prop where
  sz : b.sz = 6
  le : n ≤ b.n
  sm : n ≤ 100000
  rd : ∀ r, r < n → ∃ p : Pk, b.rd r = pkC p
def bP (n : Nat) (P : Nat → Pk) : Blk := ⟨6, n, fun r => pkC (P r), false, 0⟩
/-- The packets of a slice. -/
def lp (h : Heap) (v : SV) (K : (Nat → Pk) → Nat → Prop) : Prop := match v with
  | .nilSlice => K (fun _ => pk0) 0
  | .eslice => K (fun _ => pk0) 0
  | .slice id 0 6 n => match h id with
    | some b => IsP b n ∧ K (fun r => rowP (b.rd r)) n
    | none => False
  | _ => False
/-- A number that a pointer tells, to be written. -/
def cellW (h : Heap) (id : Nat) (K : Int → Prop) : Prop := match h id with
  | some b => match b.sz, b.n, b.rw, b.ty, b.rd 0 with
    | 1, 1, true, 3, [.int .i64 x] => K x
    | _, _, _, _, _ => False
  | none => False
def s42 : Spec := fun args h _ k => match args with
  | [v, .func (.func 30) [] [.ptr l 0 1 0]] => lp h v fun P n => cellW h l fun x => k (.int .i64 (idxV x P n)) [(l, some (cB (lastV x P n)))] []
  | _ => False
def s31 : Spec := fun args h _ k => match args with
  | [v, .func (.func 30) [] [.ptr l 0 1 0]] => lp h v fun P n => cellW h l fun x => k (.bool (anyBad x P n)) [(l, some (cB (lastV x P n)))] []
  | _ => False
def s14 : Spec := fun args h _ k => match args with
  | [v] => lp h v fun P n => k (.int .i64 (chkP P n)) [] []
  | _ => False
def s13 : Spec := fun args h _ k => match args with
  | [v, w] => lp h v fun P n => lp h w fun Q m => k (.bool (Nat.beq n m && eqPs P Q n)) [] []
  | _ => False
def G7 : Gam := addGam G6 42 s42
noncomputable def C7 : Ctx := ⟨Try.prog, G7, fun t => memN t eqs⟩
def G8 : Gam := addGam G7 31 s31
noncomputable def C8 : Ctx := ⟨Try.prog, G8, fun t => memN t eqs⟩
noncomputable def c13_0 : Code := (sq1 (bodF Try.f13))
noncomputable def c13_1 : Code := (sq1 (sq2 (bodF Try.f13)))
noncomputable def c13_2 : Code := (sq1 (sq1 (sq2 (sq2 (bodF Try.f13)))))
noncomputable def c13_3 : Code := (lpC (blkC (sq2 (sq1 (sq2 (sq2 (bodF Try.f13)))))))
noncomputable def c13_4 : Code := (sq2 (sq2 (sq2 (bodF Try.f13))))
theorem code13 : bodF Try.f13 = (.seq c13_0 (.seq c13_1 (.seq (.seq c13_2 (.block 0 (.loop c13_3))) c13_4))) := by kernel_rfl
noncomputable def c15_0 : Code := (sq1 (bodF Try.f15))
noncomputable def c15_1 : Code := (sq1 (sq2 (bodF Try.f15)))
noncomputable def c15_2 : Code := (sq1 (sq1 (sq2 (sq2 (bodF Try.f15)))))
noncomputable def c15_3 : Code := (lpC (blkC (sq2 (sq1 (sq2 (sq2 (bodF Try.f15)))))))
noncomputable def c15_4 : Code := (sq2 (sq2 (sq2 (bodF Try.f15))))
theorem code15 : bodF Try.f15 = (.seq c15_0 (.seq c15_1 (.seq (.seq c15_2 (.block 0 (.loop c15_3))) c15_4))) := by kernel_rfl
noncomputable def c22_0 : Code := (sq1 (bodF Try.f22))
noncomputable def c22_1 : Code := (sq1 (sq2 (bodF Try.f22)))
noncomputable def c22_2 : Code := (sq1 (sq1 (sq2 (sq2 (bodF Try.f22)))))
noncomputable def c22_3 : Code := (lpC (blkC (sq2 (sq1 (sq2 (sq2 (bodF Try.f22)))))))
noncomputable def c22_4 : Code := (sq2 (sq2 (sq2 (bodF Try.f22))))
theorem code22 : bodF Try.f22 = (.seq c22_0 (.seq c22_1 (.seq (.seq c22_2 (.block 0 (.loop c22_3))) c22_4))) := by kernel_rfl
noncomputable def c42_0 : Code := (sq1 (bodF Try.f42))
noncomputable def c42_1 : Code := (sq1 (sq1 (sq2 (bodF Try.f42))))
noncomputable def c42_2 : Code := (lpC (blkC (sq2 (sq1 (sq2 (bodF Try.f42))))))
noncomputable def c42_3 : Code := (sq2 (sq2 (bodF Try.f42)))
theorem code42 : bodF Try.f42 = (.seq c42_0 (.seq (.seq c42_1 (.block 0 (.loop c42_2))) c42_3)) := by kernel_rfl
abbrev L42 : List Nat := [0, 1, 7, 8]
def fn30 : SV := .func (.func 30) [] [.ptr 0 0 1 0]
def v42 (n : Nat) (m i : SV) : List SV := [.slice 1 0 6 n, fn30, m, i]
def h42 (x : Int) (n : Nat) (P : Nat → Pk) : List BO := [.rows 1 1 true 3 [[.int .i64 x]], .raw (some (bP n P))]
abbrev L15 : List Nat := [0, 3]
def v15 (n : Nat) (i : SV) : List SV := [.slice 0 0 6 n, i]
def h15 (n : Nat) (P : Nat → Pk) : List BO := [.raw (some (bP n P))]
abbrev L13 : List Nat := [0, 1, 5]
def v13 (n m : Nat) (i : SV) : List SV := [.slice 0 0 6 n, .slice 1 0 6 m, i]
def h13 (n m : Nat) (P Q : Nat → Pk) : List BO := [.raw (some (bP n P)), .raw (some (bP m Q))]
end Go.Proofs.Ytcjfmkkfcbelpaa
