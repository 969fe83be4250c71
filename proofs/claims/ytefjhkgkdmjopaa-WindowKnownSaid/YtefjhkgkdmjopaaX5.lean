/-
  Chapter 11 by the engine: windows behind things that happen, part by part.
-/
import Derived.Test.YtefjhkgkdmjopaaV4
namespace Go.Proofs.Ytefjhkgkdmjopaa
open Go.RowKit
/-- Things that happen, as rows. -/
def bT (n : Nat) (g : Nat → Th) : Blk := ⟨5, n, fun r => tC (g r), false, 0⟩
noncomputable def c5_0 : Code := (sq1 (bodF Try.f5))
noncomputable def c5_1 : Code := (sq1 (sq2 (bodF Try.f5)))
noncomputable def c5_2 : Code := (sq1 (sq2 (sq2 (bodF Try.f5))))
noncomputable def c5_3 : Code := (sq1 (sq1 (sq2 (sq2 (sq2 (bodF Try.f5))))))
noncomputable def c5_4 : Code := (lpC (blkC (sq2 (sq1 (sq2 (sq2 (sq2 (bodF Try.f5))))))))
noncomputable def c5_5 : Code := (sq2 (sq2 (sq2 (sq2 (bodF Try.f5)))))
theorem code5 : bodF Try.f5 = (.seq c5_0 (.seq c5_1 (.seq c5_2 (.seq (.seq c5_3 (.block 0 (.loop c5_4))) c5_5)))) := by kernel_rfl
noncomputable def c9_0 : Code := (sq1 (bodF Try.f9))
noncomputable def c9_1 : Code := (sq1 (sq2 (bodF Try.f9)))
noncomputable def c9_2 : Code := (sq1 (sq1 (sq2 (sq2 (bodF Try.f9)))))
noncomputable def c9_3 : Code := (lpC (blkC (sq2 (sq1 (sq2 (sq2 (bodF Try.f9)))))))
noncomputable def c9_4 : Code := (sq2 (sq2 (sq2 (bodF Try.f9))))
theorem code9 : bodF Try.f9 = (.seq c9_0 (.seq c9_1 (.seq (.seq c9_2 (.block 0 (.loop c9_3))) c9_4))) := by kernel_rfl

abbrev L5 : List Nat := [1, 2, 5, 6]
abbrev M5 : List Bool := [false, true, true]
def xO (x y z : Int) : BO := .rows 3 1 true 26 [[.int .i64 x, .int .i64 y, .int .i64 z]]
def v5 (n : Nat) (i : SV) : List SV := [.slice 0 0 5 n, .ptr 1 0 3 0, .ptr 2 0 6 0, i]
def h5 (n : Nat) (g : Nat → Th) (x y z : Int) (w : Wn) : List BO := [.raw (some (bT n g)), xO x y z, bO23 w]
abbrev L9 : List Nat := [1, 5, 7, 8]
abbrev M9 : List Bool := [false, true, true, true]
def x2O (a b : Int) : BO := .rows 2 1 true 46 [[.int .i64 a, .int .i64 b]]
def v9 (n : Nat) (i : SV) : List SV := [.slice 0 0 5 n, .ptr 2 0 2 0, .ptr 3 0 6 0, i]
def h9 (n : Nat) (g : Nat → Th) (x y z a b : Int) (w : Wn) : List BO := [.raw (some (bT n g)), xO x y z, x2O a b, bO23 w]
end Go.Proofs.Ytefjhkgkdmjopaa
