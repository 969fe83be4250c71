/-
  Chapter 11 by the engine: the document's answer to an acknowledgement, part by part.
-/
import Derived.Test.YtefjhkgkdmjopaaX2
namespace Go.Proofs.Ytefjhkgkdmjopaa
open Go.RowKit
def G5 : Gam := addGam (addGam G4 23 sSlow) 22 sSlow
noncomputable def C5 : Ctx := ⟨Try.prog, G5, fun t => memN t eqs⟩
noncomputable def c13_0 : Code := (sq1 (bodF Try.f13))
noncomputable def c13_1 : Code := (sq1 (sq2 (bodF Try.f13)))
noncomputable def c13_2 : Code := (sq1 (sq2 (sq2 (bodF Try.f13))))
noncomputable def c13_3 : Code := (sq1 (sq2 (sq2 (sq2 (bodF Try.f13)))))
noncomputable def c13_4 : Code := (sq1 (sq2 (sq2 (sq2 (sq2 (bodF Try.f13))))))
noncomputable def c13_5 : Code := (sq1 (sq2 (sq2 (sq2 (sq2 (sq2 (bodF Try.f13)))))))
noncomputable def c13_6 : Code := (lpC (blkC (sq1 (sq2 (sq2 (sq2 (sq2 (sq2 (sq2 (bodF Try.f13))))))))))
noncomputable def c13_7 : Code := (sq2 (sq2 (sq2 (sq2 (sq2 (sq2 (sq2 (bodF Try.f13))))))))
theorem code13 : bodF Try.f13 = (.seq c13_0 (.seq c13_1 (.seq c13_2 (.seq c13_3 (.seq c13_4 (.seq c13_5 (.seq (.block 0 (.loop c13_6)) c13_7))))))) := by kernel_rfl

abbrev L13 : List Nat := [3, 6]
abbrev M13 : List Bool := [true, true, true]
def v13 : List SV := [.ptr 0 0 6 0, .ptr 2 0 6 0]
def bO23 (w : Wn) : BO := .rows 6 1 true 23 [wC w]
def h13 (w : Wn) (p : Pk) : List BO := [bO23 w, .rows 6 1 true 25 [pC p], bO23 zW]
end Go.Proofs.Ytefjhkgkdmjopaa
