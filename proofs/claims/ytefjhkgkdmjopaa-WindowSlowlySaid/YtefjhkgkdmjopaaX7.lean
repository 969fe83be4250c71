/-
  Chapter 11 by the engine: WindowOnce, part by part.
-/
import Derived.Test.YtefjhkgkdmjopaaX6
namespace Go.Proofs.Ytefjhkgkdmjopaa
open Go.RowKit
noncomputable def c6_0 : Code := (sq1 (bodF Try.f6))
noncomputable def c6_1 : Code := (sq1 (sq2 (bodF Try.f6)))
noncomputable def c6_2 : Code := (sq1 (sq1 (sq2 (sq2 (bodF Try.f6)))))
noncomputable def c6_3 : Code := (lpC (blkC (sq2 (sq1 (sq2 (sq2 (bodF Try.f6)))))))
noncomputable def c6_4 : Code := (sq1 (sq2 (sq2 (sq2 (bodF Try.f6)))))
noncomputable def c6_5 : Code := (sq1 (sq2 (sq2 (sq2 (sq2 (bodF Try.f6))))))
noncomputable def c6_6 : Code := (sq1 (sq2 (sq2 (sq2 (sq2 (sq2 (bodF Try.f6)))))))
noncomputable def c6_7 : Code := (sq1 (sq2 (sq2 (sq2 (sq2 (sq2 (sq2 (bodF Try.f6))))))))
noncomputable def c6_8 : Code := (sq1 (sq2 (sq2 (sq2 (sq2 (sq2 (sq2 (sq2 (bodF Try.f6)))))))))
noncomputable def c6_9 : Code := (sq1 (sq1 (sq2 (sq2 (sq2 (sq2 (sq2 (sq2 (sq2 (sq2 (bodF Try.f6)))))))))))
noncomputable def c6_10 : Code := (lpC (blkC (sq2 (sq1 (sq2 (sq2 (sq2 (sq2 (sq2 (sq2 (sq2 (sq2 (bodF Try.f6)))))))))))))
noncomputable def c6_11 : Code := (sq2 (sq2 (sq2 (sq2 (sq2 (sq2 (sq2 (sq2 (sq2 (bodF Try.f6))))))))))
theorem code6 : bodF Try.f6 = (.seq c6_0 (.seq c6_1 (.seq (.seq c6_2 (.block 0 (.loop c6_3))) (.seq c6_4 (.seq c6_5 (.seq c6_6 (.seq c6_7 (.seq c6_8 (.seq (.seq c6_9 (.block 2 (.loop c6_10))) c6_11))))))))) := by kernel_rfl

/-- Pairs, as rows. -/
def bP (n : Nat) (g : Nat → Nat → Int) : Blk := ⟨2, n, fun r => [.int .i64 (g r 0), .int .i64 (g r 1)], false, 0⟩
/-! The first loop: both slices, or the first one alone. -/
abbrev L6 : List Nat := [1, 2, 7, 8]
abbrev M6s : List Bool := [false, false, true, true]
abbrev M6e : List Bool := [false, true, true]
def v6s (n m : Nat) (i : SV) : List SV := [.slice 0 0 5 n, .slice 1 0 2 m, .ptr 3 0 6 0, i]
def h6s (n m : Nat) (g : Nat → Th) (k : Nat → Nat → Int) (x y z : Int) (w : Wn) : List BO := [.raw (some (bT n g)), .raw (some (bP m k)), xO x y z, bO23 w]
def v6e (n : Nat) (i : SV) : List SV := [.slice 0 0 5 n, .eslice, .ptr 2 0 6 0, i]
def h6e (n : Nat) (g : Nat → Th) (x y z : Int) (w : Wn) : List BO := [.raw (some (bT n g)), xO x y z, bO23 w]
/-! The second loop: with the first slice, or without. -/
abbrev L6b : List Nat := [2, 11, 12, 13]
abbrev N6s : List Bool := [false, false, true, true, true]
abbrev N6e : List Bool := [false, true, true, true]
def u6s (m : Nat) (now : Int) (i : SV) : List SV := [.slice 1 0 2 m, .int .i64 now, .ptr 4 0 6 0, i]
def k6s (n m : Nat) (g : Nat → Th) (k : Nat → Nat → Int) (x y z : Int) (w v : Wn) : List BO := [.raw (some (bT n g)), .raw (some (bP m k)), xO x y z, bO23 w, bO23 v]
def u6e (m : Nat) (now : Int) (i : SV) : List SV := [.slice 0 0 2 m, .int .i64 now, .ptr 3 0 6 0, i]
def k6e (m : Nat) (k : Nat → Nat → Int) (x y z : Int) (w v : Wn) : List BO := [.raw (some (bP m k)), xO x y z, bO23 w, bO23 v]
end Go.Proofs.Ytefjhkgkdmjopaa
