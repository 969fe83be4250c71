/-
  Chapter 7 by the engine: a measure behind samples, samples brought to be ones: what laws are given; more parts.
-/
import Derived.Test.YtepmbiahnicooaaX3
import Derived.Test.YtepmbiahnicooaaP2
import Derived.Test.YtepmbiahnicooaaE19
namespace Go.Proofs.Ytepmbiahnicooaa
open Go.RowKit
/-- These are the rows. -/
structure RowsAre (b : Blk) (n : Nat) (g : Nat → Nat → Int) : Prop where
  le : n ≤ b.n
  rows : ∀ r, r < n → b.rd r = [.int .i64 (g r 0), .int .i64 (g r 1), .int .i64 (g r 2)]
  ok : ∀ r, r < n → Tp (g r 0) ∧ Tp (g r 1) ∧ Tp (g r 2)
structure RunP (g : Nat → Nat → Int) (n : Nat) (l m s v f : Int) : Prop where
  eq : runR g n = ⟨l, m, s, v, f⟩
def l19 : Spec := fun args h _ k => match args with
  | [.slice id 0 3 n] => match h id with
    | some b => bif Nat.beq b.sz 3 then ∃ g : Nat → Nat → Int, n ≤ 1000 ∧ RowsAre b n g ∧ ∀ l m s v f : Int, RunP g n l m s v f → k (.tuple [rtt l m s v f, .bool true]) [] [] else False
    | none => False
  | _ => False
def litG (xs : List (Int × Int × Int)) (r j : Nat) : Int := match j with
  | 0 => (xs.getD r (0, 0, 0)).1
  | 1 => (xs.getD r (0, 0, 0)).2.1
  | _ => (xs.getD r (0, 0, 0)).2.2
structure Tp3 (x y z : Int) : Prop where
  x : Tp x
  y : Tp y
  z : Tp z
structure Run1 (x y z : Int) (l m s v f : Int) : Prop where
  eq : runR (litG [(x, y, z)]) 1 = ⟨l, m, s, v, f⟩
structure Run2 (x y z x' y' z' : Int) (l m s v f : Int) : Prop where
  eq : runR (litG [(x, y, z), (x', y', z')]) 2 = ⟨l, m, s, v, f⟩
def l19L : Spec := fun args h _ k => match args with
  | [.slice id 0 3 1] => match h id with
    | some b => match b.sz, b.n, b.rd 0 with
      | 3, 1, [.int .i64 x, .int .i64 y, .int .i64 z] => Tp3 x y z ∧ ∀ l m s v f : Int, Run1 x y z l m s v f → k (.tuple [rtt l m s v f, .bool true]) [] []
      | _, _, _ => False
    | none => False
  | [.slice id 0 3 2] => match h id with
    | some b => match b.sz, b.n, b.rd 0, b.rd 1 with
      | 3, 2, [.int .i64 x, .int .i64 y, .int .i64 z], [.int .i64 x', .int .i64 y', .int .i64 z'] => Tp3 x y z ∧ Tp3 x' y' z' ∧ ∀ l m s v f : Int, Run2 x y z x' y' z' l m s v f → k (.tuple [rtt l m s v f, .bool true]) [] []
      | _, _, _, _ => False
    | none => False
  | _ => False
noncomputable def C7 : Ctx := ⟨Try.prog, addGam G5 19 l19L, fun t => memN t eqs⟩
/-- Rows of three numbers, which may be written. -/
def bW (n : Nat) (g : Nat → Nat → Int) : Blk := ⟨3, n, fun r => [.int .i64 (g r 0), .int .i64 (g r 1), .int .i64 (g r 2)], true, 32⟩
structure BrgP (h : Bool) (n : Nat) (g : Nat → Nat → Int) : Prop where
  lo : 1 ≤ n
  hi : n ≤ 60
  ok : ∀ r j, Tp (g r j)
  held : h = false → ∀ r, g r 1 = 0
structure Raw3 (b : Blk) (n : Nat) : Prop where
  pos : 0 < n
  le : n ≤ b.n
  rows : ∀ r, r < n → ∃ x y z : Int, b.rd r = [.int .i64 x, .int .i64 y, .int .i64 z]
def l20 : Spec := fun args h base k => match args with
  | [.slice id 0 3 n, .bool t] => match h id with
    | some b => bif Nat.beq b.sz 3 then Raw3 b n ∧ ∀ (N : Nat) (g : Nat → Nat → Int), BrgP t N g → k (.slice base 0 3 N) [] [bW N g] else False
    | none => False
  | [.eslice, .bool t] => ∀ (N : Nat) (g : Nat → Nat → Int), BrgP t N g → k (.slice base 0 3 N) [] [bW N g]
  | _ => False
def G6 : Gam := addGam (addGam (addGam G5 19 l19) 20 l20) 21 s21
noncomputable def C6 : Ctx := ⟨Try.prog, addGam G6 23 s23, fun t => memN t eqs⟩
noncomputable def c6_0 : Code := (sq1 (bodF Try.f6))
noncomputable def c6_1 : Code := (sq1 (sq2 (bodF Try.f6)))
noncomputable def c6_2 : Code := (sq1 (sq2 (sq2 (bodF Try.f6))))
noncomputable def c6_3 : Code := (sq1 (sq1 (sq2 (sq2 (sq2 (bodF Try.f6))))))
noncomputable def c6_4 : Code := (lpC (blkC (sq2 (sq1 (sq2 (sq2 (sq2 (bodF Try.f6))))))))
noncomputable def c6_5 : Code := (sq2 (sq2 (sq2 (sq2 (bodF Try.f6)))))
theorem code6 : bodF Try.f6 = (.seq c6_0 (.seq c6_1 (.seq c6_2 (.seq (.seq c6_3 (.block 0 (.loop c6_4))) c6_5)))) := by kernel_rfl
noncomputable def c9_0 : Code := (sq1 (bodF Try.f9))
noncomputable def c9_1 : Code := (sq1 (sq2 (bodF Try.f9)))
noncomputable def c9_2 : Code := (sq1 (sq2 (sq2 (bodF Try.f9))))
noncomputable def c9_3 : Code := (sq1 (sq2 (sq2 (sq2 (bodF Try.f9)))))
noncomputable def c9_4 : Code := (sq1 (sq1 (sq2 (sq2 (sq2 (sq2 (bodF Try.f9)))))))
noncomputable def c9_5 : Code := (lpC (blkC (sq2 (sq1 (sq2 (sq2 (sq2 (sq2 (bodF Try.f9)))))))))
noncomputable def c9_6 : Code := (sq2 (sq2 (sq2 (sq2 (sq2 (bodF Try.f9))))))
theorem code9 : bodF Try.f9 = (.seq c9_0 (.seq c9_1 (.seq c9_2 (.seq c9_3 (.seq (.seq c9_4 (.block 0 (.loop c9_5))) c9_6))))) := by kernel_rfl
noncomputable def c10_0 : Code := (sq1 (bodF Try.f10))
noncomputable def c10_1 : Code := (sq1 (sq2 (bodF Try.f10)))
noncomputable def c10_2 : Code := (sq1 (sq2 (sq2 (bodF Try.f10))))
noncomputable def c10_3 : Code := (sq1 (sq1 (sq2 (sq2 (sq2 (bodF Try.f10))))))
noncomputable def c10_4 : Code := (sq1 (lpC (blkC (sq2 (sq1 (sq2 (sq2 (sq2 (bodF Try.f10)))))))))
noncomputable def c10_5 : Code := (sq1 (blkC (sq1 (sq2 (lpC (blkC (sq2 (sq1 (sq2 (sq2 (sq2 (bodF Try.f10))))))))))))
noncomputable def c10_6 : Code := (sq1 (lpC (blkC (sq2 (blkC (sq1 (sq2 (lpC (blkC (sq2 (sq1 (sq2 (sq2 (sq2 (bodF Try.f10)))))))))))))))
noncomputable def c10_7 : Code := (sq1 (blkC (sq1 (sq2 (lpC (blkC (sq2 (blkC (sq1 (sq2 (lpC (blkC (sq2 (sq1 (sq2 (sq2 (sq2 (bodF Try.f10))))))))))))))))))
noncomputable def c10_8 : Code := (sq1 (sq2 (blkC (sq1 (sq2 (lpC (blkC (sq2 (blkC (sq1 (sq2 (lpC (blkC (sq2 (sq1 (sq2 (sq2 (sq2 (bodF Try.f10)))))))))))))))))))
noncomputable def c10_9 : Code := (sq1 (sq2 (sq2 (blkC (sq1 (sq2 (lpC (blkC (sq2 (blkC (sq1 (sq2 (lpC (blkC (sq2 (sq1 (sq2 (sq2 (sq2 (bodF Try.f10))))))))))))))))))))
noncomputable def c10_10 : Code := (sq1 (lpC (blkC (sq2 (sq2 (sq2 (blkC (sq1 (sq2 (lpC (blkC (sq2 (blkC (sq1 (sq2 (lpC (blkC (sq2 (sq1 (sq2 (sq2 (sq2 (bodF Try.f10)))))))))))))))))))))))
noncomputable def c10_11 : Code := (sq1 (blkC (sq1 (sq2 (lpC (blkC (sq2 (sq2 (sq2 (blkC (sq1 (sq2 (lpC (blkC (sq2 (blkC (sq1 (sq2 (lpC (blkC (sq2 (sq1 (sq2 (sq2 (sq2 (bodF Try.f10))))))))))))))))))))))))))
noncomputable def c10_12 : Code := (lpC (blkC (sq2 (blkC (sq1 (sq2 (lpC (blkC (sq2 (sq2 (sq2 (blkC (sq1 (sq2 (lpC (blkC (sq2 (blkC (sq1 (sq2 (lpC (blkC (sq2 (sq1 (sq2 (sq2 (sq2 (bodF Try.f10))))))))))))))))))))))))))))
noncomputable def c10_13 : Code := (sq2 (sq2 (lpC (blkC (sq2 (sq2 (sq2 (blkC (sq1 (sq2 (lpC (blkC (sq2 (blkC (sq1 (sq2 (lpC (blkC (sq2 (sq1 (sq2 (sq2 (sq2 (bodF Try.f10))))))))))))))))))))))))
noncomputable def c10_14 : Code := (sq2 (sq2 (lpC (blkC (sq2 (blkC (sq1 (sq2 (lpC (blkC (sq2 (sq1 (sq2 (sq2 (sq2 (bodF Try.f10))))))))))))))))
noncomputable def c10_15 : Code := (sq2 (sq2 (lpC (blkC (sq2 (sq1 (sq2 (sq2 (sq2 (bodF Try.f10))))))))))
noncomputable def c10_16 : Code := (sq1 (sq1 (sq2 (sq2 (sq2 (sq2 (bodF Try.f10)))))))
noncomputable def c10_17 : Code := (sq1 (lpC (blkC (sq2 (sq1 (sq2 (sq2 (sq2 (sq2 (bodF Try.f10))))))))))
noncomputable def c10_18 : Code := (sq1 (blkC (sq1 (sq2 (lpC (blkC (sq2 (sq1 (sq2 (sq2 (sq2 (sq2 (bodF Try.f10)))))))))))))
noncomputable def c10_19 : Code := (lpC (blkC (sq2 (blkC (sq1 (sq2 (lpC (blkC (sq2 (sq1 (sq2 (sq2 (sq2 (sq2 (bodF Try.f10)))))))))))))))
noncomputable def c10_20 : Code := (sq2 (sq2 (lpC (blkC (sq2 (sq1 (sq2 (sq2 (sq2 (sq2 (bodF Try.f10)))))))))))
noncomputable def c10_21 : Code := (sq2 (sq2 (sq2 (sq2 (sq2 (bodF Try.f10))))))
theorem code10 : bodF Try.f10 = (.seq c10_0 (.seq c10_1 (.seq c10_2 (.seq (.seq c10_3 (.block 0 (.loop (.seq c10_4 (.seq (.block 1 (.seq c10_5 (.block 2 (.loop (.seq c10_6 (.seq (.block 3 (.seq c10_7 (.seq c10_8 (.seq c10_9 (.block 4 (.loop (.seq c10_10 (.seq (.block 5 (.seq c10_11 (.block 6 (.loop c10_12)))) c10_13)))))))) c10_14)))))) c10_15))))) (.seq (.seq c10_16 (.block 8 (.loop (.seq c10_17 (.seq (.block 9 (.seq c10_18 (.block 10 (.loop c10_19)))) c10_20))))) c10_21))))) := by kernel_rfl
abbrev L5 : List Nat := [0, 1, 4, 5, 6, 7, 8]
def v5 (t many w : Int) (i : SV) : List SV := [.int .i64 t, .int .i64 many, .bool false, .ptr 1 0 5 0, .bool true, .int .i64 w, i]
def h5 (t l m s v f : Int) : List BO := [.rows 3 1 true 32 [[.int .i64 t, .int .i64 0, .int .i64 3]], ob l m s v f]
abbrev L20 : List Nat := [0, 1, 5, 6]
def v20 (n : Nat) (t : Bool) (o i : SV) : List SV := [.slice 0 0 3 n, .bool t, o, i]
abbrev L9 : List Nat := [0, 2, 3, 4, 5]
def v9 (N : Nat) (lo hi i : SV) : List SV := [.slice 1 0 3 N, .bool false, lo, hi, i]
def h9 (n : Nat) (g : Nat → Nat → Int) (N : Nat) (q : Nat → Nat → Int) : List BO := [.raw (some (bT n g)), .raw (some (bW N q))]
end Go.Proofs.Ytepmbiahnicooaa
