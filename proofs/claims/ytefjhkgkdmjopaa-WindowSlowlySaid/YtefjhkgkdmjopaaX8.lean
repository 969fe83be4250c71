/-
  Chapter 11 by the engine: WindowGrows, WindowSlowly, part by part.
-/
import Derived.Test.YtefjhkgkdmjopaaX7
namespace Go.Proofs.Ytefjhkgkdmjopaa
open Go.RowKit
noncomputable def c7_0 : Code := (sq1 (bodF Try.f7))
noncomputable def c7_1 : Code := (sq1 (sq2 (bodF Try.f7)))
noncomputable def c7_2 : Code := (sq1 (sq2 (sq2 (bodF Try.f7))))
noncomputable def c7_3 : Code := (sq1 (sq2 (sq2 (sq2 (bodF Try.f7)))))
noncomputable def c7_4 : Code := (sq1 (sq1 (sq2 (sq2 (sq2 (sq2 (bodF Try.f7)))))))
noncomputable def c7_5 : Code := (lpC (blkC (sq2 (sq1 (sq2 (sq2 (sq2 (sq2 (bodF Try.f7)))))))))
noncomputable def c7_6 : Code := (sq2 (sq2 (sq2 (sq2 (sq2 (bodF Try.f7))))))
theorem code7 : bodF Try.f7 = (.seq c7_0 (.seq c7_1 (.seq c7_2 (.seq c7_3 (.seq (.seq c7_4 (.block 0 (.loop c7_5))) c7_6))))) := by kernel_rfl
noncomputable def c8_0 : Code := (sq1 (bodF Try.f8))
noncomputable def c8_1 : Code := (sq1 (sq2 (bodF Try.f8)))
noncomputable def c8_2 : Code := (sq1 (sq2 (sq2 (bodF Try.f8))))
noncomputable def c8_3 : Code := (sq1 (sq2 (sq2 (sq2 (bodF Try.f8)))))
noncomputable def c8_4 : Code := (sq1 (sq2 (sq2 (sq2 (sq2 (bodF Try.f8))))))
noncomputable def c8_5 : Code := (sq1 (sq2 (sq2 (sq2 (sq2 (sq2 (bodF Try.f8)))))))
noncomputable def c8_6 : Code := (sq1 (sq1 (sq2 (sq2 (sq2 (sq2 (sq2 (sq2 (bodF Try.f8)))))))))
noncomputable def c8_7 : Code := (lpC (blkC (sq2 (sq1 (sq2 (sq2 (sq2 (sq2 (sq2 (sq2 (bodF Try.f8)))))))))))
noncomputable def c8_8 : Code := (sq2 (sq2 (sq2 (sq2 (sq2 (sq2 (sq2 (bodF Try.f8))))))))
theorem code8 : bodF Try.f8 = (.seq c8_0 (.seq c8_1 (.seq c8_2 (.seq c8_3 (.seq c8_4 (.seq c8_5 (.seq (.seq c8_6 (.block 0 (.loop c8_7))) c8_8))))))) := by kernel_rfl

/-- Numbers, as rows. -/
def bI (n : Nat) (z : Nat → Int) : Blk := ⟨1, n, fun r => [.int .i64 (z r)], false, 0⟩
abbrev L7 : List Nat := [1, 5, 6, 7, 8]
abbrev M7s : List Bool := [false, true, true]
abbrev M7e : List Bool := [true, true]
def v7s (n : Nat) (rest want : Int) (i : SV) : List SV := [.slice 0 0 1 n, .ptr 2 0 6 0, .int .i64 rest, .int .i64 want, i]
def h7s (n : Nat) (p : Nat → Int) (x y z : Int) (w : Wn) : List BO := [.raw (some (bI n p)), xO x y z, bO23 w]
def v7e (rest want : Int) (i : SV) : List SV := [.eslice, .ptr 1 0 6 0, .int .i64 rest, .int .i64 want, i]
def h7e (x y z : Int) (w : Wn) : List BO := [xO x y z, bO23 w]
abbrev L8 : List Nat := [1, 5, 6, 7, 8]
abbrev M8s : List Bool := [false, true, true, true]
abbrev M8e : List Bool := [true, true, true]
def v8s (n : Nat) (rest : Int) (i : SV) : List SV := [.slice 0 0 1 n, .ptr 2 0 6 0, .ptr 3 0 6 0, .int .i64 rest, i]
def h8s (n : Nat) (p : Nat → Int) (x y z : Int) (w u : Wn) : List BO := [.raw (some (bI n p)), xO x y z, bO23 w, bO23 u]
def v8e (rest : Int) (i : SV) : List SV := [.eslice, .ptr 1 0 6 0, .ptr 2 0 6 0, .int .i64 rest, i]
def h8e (x y z : Int) (w u : Wn) : List BO := [xO x y z, bO23 w, bO23 u]
end Go.Proofs.Ytefjhkgkdmjopaa
