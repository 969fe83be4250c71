/-
  Chapter 11 by the engine: WindowRuns, part by part.
-/
import Derived.Test.YtefjhkgkdmjopaaX5
namespace Go.Proofs.Ytefjhkgkdmjopaa
open Go.RowKit
noncomputable def c4_0 : Code := (sq1 (bodF Try.f4))
noncomputable def c4_1 : Code := (sq1 (sq2 (bodF Try.f4)))
noncomputable def c4_2 : Code := (sq1 (sq2 (sq2 (bodF Try.f4))))
noncomputable def c4_3 : Code := (sq1 (sq2 (sq2 (sq2 (bodF Try.f4)))))
noncomputable def c4_4 : Code := (sq1 (sq1 (sq2 (sq2 (sq2 (sq2 (bodF Try.f4)))))))
noncomputable def c4_5 : Code := (lpC (blkC (sq2 (sq1 (sq2 (sq2 (sq2 (sq2 (bodF Try.f4)))))))))
noncomputable def c4_6 : Code := (sq2 (sq2 (sq2 (sq2 (sq2 (bodF Try.f4))))))
theorem code4 : bodF Try.f4 = (.seq c4_0 (.seq c4_1 (.seq c4_2 (.seq c4_3 (.seq (.seq c4_4 (.block 0 (.loop c4_5))) c4_6))))) := by kernel_rfl

abbrev L4 : List Nat := [1, 5, 6, 7, 8, 9]
abbrev M4 : List Bool := [false, true, true, true]
def v4 (n : Nat) (e : Int) (i : SV) : List SV := [.slice 0 0 5 n, .ptr 2 0 6 0, .int .i64 e, .ptr 3 0 6 0, .int .i64 e, i]
def h4 (n : Nat) (g : Nat → Th) (x y z : Int) (w : Wn) : List BO := [.raw (some (bT n g)), xO x y z, bO23 w, bO23 w]
end Go.Proofs.Ytefjhkgkdmjopaa
