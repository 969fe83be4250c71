/-
  Chapter 16 by the engine: HandKnown, its loops.
-/
import Derived.Test.YtllkhfabfcpieaaV15
namespace Go.Proofs.Ytllkhfabfcpieaa
open Go.RowKit
/-- HandPlays, of a list. -/
def s6 : Spec := fun args h _ k => match args with
  | [.bool _, .slice id 0 2 n] => match h id with
    | some blk => IsDo blk n ∧ k (.bool true) [] []
    | none => False
  | _ => False
def G14 : Gam := addGam G13 6 s6
noncomputable def C14 : Ctx := ⟨Try.prog, G14, fun t => memN t eqs⟩
noncomputable def c9_0 : Code := (sq1 (bodF Try.f9))
noncomputable def c9_1 : Code := (sq1 (sq2 (bodF Try.f9)))
noncomputable def c9_2 : Code := (sq1 (sq1 (sq2 (sq2 (bodF Try.f9)))))
noncomputable def c9_3 : Code := (sq1 (lpC (blkC (sq2 (sq1 (sq2 (sq2 (bodF Try.f9))))))))
noncomputable def c9_4 : Code := (sq1 (blkC (sq1 (sq2 (lpC (blkC (sq2 (sq1 (sq2 (sq2 (bodF Try.f9)))))))))))
noncomputable def c9_5 : Code := (sq1 (lpC (blkC (sq2 (blkC (sq1 (sq2 (lpC (blkC (sq2 (sq1 (sq2 (sq2 (bodF Try.f9))))))))))))))
noncomputable def c9_6 : Code := (sq1 (blkC (sq1 (sq2 (lpC (blkC (sq2 (blkC (sq1 (sq2 (lpC (blkC (sq2 (sq1 (sq2 (sq2 (bodF Try.f9)))))))))))))))))
noncomputable def c9_7 : Code := (sq1 (lpC (blkC (sq2 (blkC (sq1 (sq2 (lpC (blkC (sq2 (blkC (sq1 (sq2 (lpC (blkC (sq2 (sq1 (sq2 (sq2 (bodF Try.f9))))))))))))))))))))
noncomputable def c9_8 : Code := (sq1 (blkC (sq1 (sq2 (lpC (blkC (sq2 (blkC (sq1 (sq2 (lpC (blkC (sq2 (blkC (sq1 (sq2 (lpC (blkC (sq2 (sq1 (sq2 (sq2 (bodF Try.f9)))))))))))))))))))))))
noncomputable def c9_9 : Code := (lpC (blkC (sq2 (blkC (sq1 (sq2 (lpC (blkC (sq2 (blkC (sq1 (sq2 (lpC (blkC (sq2 (blkC (sq1 (sq2 (lpC (blkC (sq2 (sq1 (sq2 (sq2 (bodF Try.f9)))))))))))))))))))))))))
noncomputable def c9_10 : Code := (sq2 (sq2 (lpC (blkC (sq2 (blkC (sq1 (sq2 (lpC (blkC (sq2 (blkC (sq1 (sq2 (lpC (blkC (sq2 (sq1 (sq2 (sq2 (bodF Try.f9)))))))))))))))))))))
noncomputable def c9_11 : Code := (sq2 (sq2 (lpC (blkC (sq2 (blkC (sq1 (sq2 (lpC (blkC (sq2 (sq1 (sq2 (sq2 (bodF Try.f9)))))))))))))))
noncomputable def c9_12 : Code := (sq2 (sq2 (lpC (blkC (sq2 (sq1 (sq2 (sq2 (bodF Try.f9)))))))))
noncomputable def c9_13 : Code := (sq1 (sq2 (sq2 (sq2 (bodF Try.f9)))))
noncomputable def c9_14 : Code := (sq1 (sq1 (sq2 (sq2 (sq2 (sq2 (bodF Try.f9)))))))
noncomputable def c9_15 : Code := (lpC (blkC (sq2 (sq1 (sq2 (sq2 (sq2 (sq2 (bodF Try.f9)))))))))
noncomputable def c9_16 : Code := (sq2 (sq2 (sq2 (sq2 (sq2 (bodF Try.f9))))))
theorem code9 : bodF Try.f9 = (.seq c9_0 (.seq c9_1 (.seq (.seq c9_2 (.block 0 (.loop (.seq c9_3 (.seq (.block 1 (.seq c9_4 (.block 2 (.loop (.seq c9_5 (.seq (.block 3 (.seq c9_6 (.block 4 (.loop (.seq c9_7 (.seq (.block 5 (.seq c9_8 (.block 6 (.loop c9_9)))) c9_10)))))) c9_11)))))) c9_12))))) (.seq c9_13 (.seq (.seq c9_14 (.block 8 (.loop c9_15))) c9_16))))) := by kernel_rfl
abbrev L9 : List Nat := [0, 1, 2, 3, 4]
def v9 (i j k : SV) : List SV := [.bool false, .slice 0 0 1 7, i, j, k]
def h9 (e : Nat → Int) : List BO := [.raw (some (bF e 7))]
noncomputable def c9_K : Code := (lpC (blkC (sq2 (blkC (sq1 (sq2 (lpC (blkC (sq2 (blkC (sq1 (sq2 (lpC (blkC (sq2 (sq1 (sq2 (sq2 (bodF Try.f9)))))))))))))))))))
end Go.Proofs.Ytllkhfabfcpieaa
