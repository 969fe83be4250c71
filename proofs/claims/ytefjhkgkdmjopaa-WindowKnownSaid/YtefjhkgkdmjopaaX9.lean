/-
  Chapter 11 by the engine: WindowKnown, part by part.
-/
import Derived.Test.YtefjhkgkdmjopaaV4
namespace Go.Proofs.Ytefjhkgkdmjopaa
open Go.RowKit
def s3 : Spec := fun args _ _ k => match args with
  | [w, p, .agg [.int .i64 _, .int .i64 _, .int .i64 _]] => agW w fun _ => agP p fun _ => k (.bool true) [] []
  | _ => False
noncomputable def C10 : Ctx := ⟨Try.prog, addGam (addGam noGam 24 sTrue) 3 s3, fun t => memN t eqs⟩
def bE (e : Nat → Int) : Blk := ⟨1, 19, fun r => [.int .i64 (e r)], true, 3⟩
def bM (n : Nat) (q : Nat → Nat → Int) : Blk := ⟨6, n, fun r => [.int .i64 (q r 0), .int .i64 (q r 1), .int .i64 (q r 2), .int .i64 (q r 3), .int .i64 (q r 4), .int .i64 (q r 5)], true, 23⟩
abbrev L10 : List Nat := [0, 1, 2, 3, 4, 5, 6, 7]
def v10 (i k l n m : SV) : List SV := [.bool false, .slice 0 0 1 19, .slice 1 0 6 3, i, k, l, n, m]
def h10 (e : Nat → Int) (d : Nat → Nat → Int) : List BO := [.raw (some (bE e)), .raw (some (bM 3 d))]
def h10l (e : Nat → Int) (d q : Nat → Nat → Int) : List BO := [.raw (some (bE e)), .raw (some (bM 3 d)), .raw (some (bM 6 q))]
noncomputable def c10_0 : Code := (sq1 (bodF Try.f10))
noncomputable def c10_1 : Code := (sq1 (sq2 (bodF Try.f10)))
noncomputable def c10_2 : Code := (sq1 (sq2 (sq2 (bodF Try.f10))))
noncomputable def c10_3 : Code := (sq1 (sq1 (sq2 (sq2 (sq2 (bodF Try.f10))))))
noncomputable def c10_4 : Code := (sq1 (lpC (blkC (sq2 (sq1 (sq2 (sq2 (sq2 (bodF Try.f10)))))))))
noncomputable def c10_5 : Code := (sq1 (blkC (sq1 (sq2 (lpC (blkC (sq2 (sq1 (sq2 (sq2 (sq2 (bodF Try.f10))))))))))))
noncomputable def c10_6 : Code := (sq1 (lpC (blkC (sq2 (blkC (sq1 (sq2 (lpC (blkC (sq2 (sq1 (sq2 (sq2 (sq2 (bodF Try.f10)))))))))))))))
noncomputable def c10_7 : Code := (sq1 (blkC (sq1 (sq2 (lpC (blkC (sq2 (blkC (sq1 (sq2 (lpC (blkC (sq2 (sq1 (sq2 (sq2 (sq2 (bodF Try.f10))))))))))))))))))
noncomputable def c10_8 : Code := (sq1 (sq2 (blkC (sq1 (sq2 (lpC (blkC (sq2 (blkC (sq1 (sq2 (lpC (blkC (sq2 (sq1 (sq2 (sq2 (sq2 (bodF Try.f10)))))))))))))))))))
noncomputable def c10_9 : Code := (sq1 (sq2 (sq2 (blkC (sq1 (sq2 (lpC (blkC (sq2 (blkC (sq1 (sq2 (lpC (blkC (sq2 (sq1 (sq2 (sq2 (sq2 (bodF Try.f10))))))))))))))))))))
noncomputable def c10_10 : Code := (sq1 (lpC (blkC (sq2 (sq2 (sq2 (blkC (sq1 (sq2 (lpC (blkC (sq2 (blkC (sq1 (sq2 (lpC (blkC (sq2 (sq1 (sq2 (sq2 (sq2 (bodF Try.f10)))))))))))))))))))))))
noncomputable def c10_11 : Code := (sq1 (blkC (sq1 (sq2 (lpC (blkC (sq2 (sq2 (sq2 (blkC (sq1 (sq2 (lpC (blkC (sq2 (blkC (sq1 (sq2 (lpC (blkC (sq2 (sq1 (sq2 (sq2 (sq2 (bodF Try.f10))))))))))))))))))))))))))
noncomputable def c10_12 : Code := (lpC (blkC (sq2 (blkC (sq1 (sq2 (lpC (blkC (sq2 (sq2 (sq2 (blkC (sq1 (sq2 (lpC (blkC (sq2 (blkC (sq1 (sq2 (lpC (blkC (sq2 (sq1 (sq2 (sq2 (sq2 (bodF Try.f10))))))))))))))))))))))))))))
noncomputable def c10_13 : Code := (sq2 (sq2 (lpC (blkC (sq2 (sq2 (sq2 (blkC (sq1 (sq2 (lpC (blkC (sq2 (blkC (sq1 (sq2 (lpC (blkC (sq2 (sq1 (sq2 (sq2 (sq2 (bodF Try.f10))))))))))))))))))))))))
noncomputable def c10_14 : Code := (sq2 (sq2 (lpC (blkC (sq2 (blkC (sq1 (sq2 (lpC (blkC (sq2 (sq1 (sq2 (sq2 (sq2 (bodF Try.f10))))))))))))))))
noncomputable def c10_15 : Code := (sq2 (sq2 (lpC (blkC (sq2 (sq1 (sq2 (sq2 (sq2 (bodF Try.f10))))))))))
noncomputable def c10_16 : Code := (sq2 (sq2 (sq2 (sq2 (bodF Try.f10)))))
theorem code10 : bodF Try.f10 = (.seq c10_0 (.seq c10_1 (.seq c10_2 (.seq (.seq c10_3 (.block 0 (.loop (.seq c10_4 (.seq (.block 1 (.seq c10_5 (.block 2 (.loop (.seq c10_6 (.seq (.block 3 (.seq c10_7 (.seq c10_8 (.seq c10_9 (.block 4 (.loop (.seq c10_10 (.seq (.block 5 (.seq c10_11 (.block 6 (.loop c10_12)))) c10_13)))))))) c10_14)))))) c10_15))))) c10_16)))) := by kernel_rfl

end Go.Proofs.Ytefjhkgkdmjopaa
