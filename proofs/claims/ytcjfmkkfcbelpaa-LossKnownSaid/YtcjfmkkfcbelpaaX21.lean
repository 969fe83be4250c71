/-
  Chapter 9 by the engine: LossGrows: pieces.
-/
import Derived.Test.YtcjfmkkfcbelpaaV18
namespace Go.Proofs.Ytcjfmkkfcbelpaa
open Go.RowKit
noncomputable def c6_0 : Code := (sq1 (bodF Try.f6))
noncomputable def c6_1 : Code := (sq1 (sq2 (bodF Try.f6)))
noncomputable def c6_2 : Code := (sq1 (sq2 (sq2 (bodF Try.f6))))
noncomputable def c6_3 : Code := (sq1 (sq2 (sq2 (sq2 (bodF Try.f6)))))
noncomputable def c6_4 : Code := (sq1 (sq2 (sq2 (sq2 (sq2 (bodF Try.f6))))))
noncomputable def c6_5 : Code := (sq1 (sq2 (sq2 (sq2 (sq2 (sq2 (bodF Try.f6)))))))
noncomputable def c6_6 : Code := (sq1 (sq2 (sq2 (sq2 (sq2 (sq2 (sq2 (bodF Try.f6))))))))
noncomputable def c6_7 : Code := (sq1 (sq1 (sq2 (sq2 (sq2 (sq2 (sq2 (sq2 (sq2 (bodF Try.f6))))))))))
noncomputable def c6_8 : Code := (sq1 (lpC (blkC (sq2 (sq1 (sq2 (sq2 (sq2 (sq2 (sq2 (sq2 (sq2 (bodF Try.f6)))))))))))))
noncomputable def c6_9 : Code := (lpC (blkC (sq1 (blkC (sq1 (sq2 (lpC (blkC (sq2 (sq1 (sq2 (sq2 (sq2 (sq2 (sq2 (sq2 (sq2 (bodF Try.f6))))))))))))))))))
noncomputable def c6_10 : Code := (sq2 (blkC (sq1 (sq2 (lpC (blkC (sq2 (sq1 (sq2 (sq2 (sq2 (sq2 (sq2 (sq2 (sq2 (bodF Try.f6))))))))))))))))
noncomputable def c6_11 : Code := (sq2 (sq2 (lpC (blkC (sq2 (sq1 (sq2 (sq2 (sq2 (sq2 (sq2 (sq2 (sq2 (bodF Try.f6))))))))))))))
noncomputable def c6_12 : Code := (sq2 (sq2 (sq2 (sq2 (sq2 (sq2 (sq2 (sq2 (bodF Try.f6)))))))))
theorem code6 : bodF Try.f6 = (.seq c6_0 (.seq c6_1 (.seq c6_2 (.seq c6_3 (.seq c6_4 (.seq c6_5 (.seq c6_6 (.seq (.seq c6_7 (.block 0 (.loop (.seq c6_8 (.seq (.block 1 (.seq (.block 2 (.loop c6_9)) c6_10)) c6_11))))) c6_12)))))))) := by kernel_rfl
/-- The list that was picked, or none, by its block. -/
def gB (Q : Nat → Pk) : Nat → Option Blk
  | 0 => none
  | a + 1 => some (bPw (a + 1) Q)
/-- A list that was picked, however many. -/
structure Cut (f : Nat → Bool) (P : Nat → Pk) (n c : Nat) (Q : Nat → Pk) : Prop where
  cnt : cntS f n = c
  row : ∀ r, r < c → Q r = P (ixS f n r)
theorem Pick.cut {f : Nat → Bool} {P Q : Nat → Pk} {n a : Nat} (p : Pick f P n a Q) : Cut f P n (a + 1) Q := ⟨p.cnt, p.row⟩
theorem Cut.none {f : Nat → Bool} {P : Nat → Pk} {n : Nat} (h : cntS f n = 0) : Cut f P n 0 P := ⟨h, fun r hr => absurd hr (Nat.not_lt_zero r)⟩
def mO (l m s v : Int) : BO := .rows 5 1 true 25 [[.int .i64 l, .int .i64 m, .int .i64 s, .int .i64 v, .int .i64 0]]
abbrev LA6 : List Nat := [4, 7, 8, 9, 10]
def vA6 (n : Nat) (g t : Int) : List SV := [.ptr 3 0 4 0, .slice 1 0 6 n, .ptr 2 0 5 0, .int .i64 g, .int .i64 t]
def hA6 (k : Nat) (R : Nat → Rw) (n : Nat) (P : Nat → Pk) (l m s v x0 x1 x2 x3 : Int) : List BO := [.raw (some (bR k R)), lO n P, mO l m s v, .rows 4 1 true 43 [[.int .i64 x0, .int .i64 x1, .int .i64 x2, .int .i64 x3]]]
abbrev M6a : List Bool := [false, true, true, false, true]
abbrev LB6 : List Nat := [4, 7, 8, 9, 10, 11, 14]
def vB6 (n : Nat) (g t : Int) (few : SV) : List SV := [.ptr 3 0 4 0, .slice 1 0 6 n, .ptr 2 0 5 0, .int .i64 g, .int .i64 t, few, .int .i64 0]
abbrev M6b : List Bool := [false, false, true, true, false, false]
abbrev LC6 : List Nat := [11, 14, 15, 18]
def vC6 (few many : SV) : List SV := [few, .int .i64 0, many, .int .i64 0]
abbrev M6c : List Bool := [false, false, true, true, false, false, false]
def hC6 (k : Nat) (R : Nat → Rw) (o1 o2 : Option Blk) : List BO := [.raw (some (bR k R)), .raw o1, .raw o2]
def hL6 (k : Nat) (R : Nat → Rw) (a b : Nat) (PL PM : Nat → Pk) : List BO := [.raw (some (bR k R)), lO (a + 1) PL, lO (b + 1) PM]
abbrev L6 : List Nat := [11, 15, 19, 20]
abbrev M6d : List Bool := [false, false, false]
end Go.Proofs.Ytcjfmkkfcbelpaa
