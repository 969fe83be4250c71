/-
  Chapter 12 by the engine: the parts of functions with loops.
-/
import Derived.Test.YthiencdknndagaaX3
namespace Go.Proofs.Ythiencdknndagaa
open Go.RowKit
noncomputable def c5_0 : Code := (sq1 (bodF Try.f5))
noncomputable def c5_1 : Code := (sq1 (sq2 (bodF Try.f5)))
noncomputable def c5_2 : Code := (sq1 (sq1 (sq2 (sq2 (bodF Try.f5)))))
noncomputable def c5_3 : Code := (sq1 (lpC (blkC (sq2 (sq1 (sq2 (sq2 (bodF Try.f5))))))))
noncomputable def c5_4 : Code := (sq1 (blkC (sq1 (sq2 (lpC (blkC (sq2 (sq1 (sq2 (sq2 (bodF Try.f5)))))))))))
noncomputable def c5_5 : Code := (sq1 (sq2 (blkC (sq1 (sq2 (lpC (blkC (sq2 (sq1 (sq2 (sq2 (bodF Try.f5))))))))))))
noncomputable def c5_6 : Code := (sq1 (sq2 (sq2 (blkC (sq1 (sq2 (lpC (blkC (sq2 (sq1 (sq2 (sq2 (bodF Try.f5)))))))))))))
noncomputable def c5_7 : Code := (sq1 (sq2 (sq2 (sq2 (blkC (sq1 (sq2 (lpC (blkC (sq2 (sq1 (sq2 (sq2 (bodF Try.f5))))))))))))))
noncomputable def c5_8 : Code := (lpC (blkC (sq2 (sq2 (sq2 (sq2 (blkC (sq1 (sq2 (lpC (blkC (sq2 (sq1 (sq2 (sq2 (bodF Try.f5))))))))))))))))
noncomputable def c5_9 : Code := (sq2 (sq2 (lpC (blkC (sq2 (sq1 (sq2 (sq2 (bodF Try.f5)))))))))
noncomputable def c5_10 : Code := (sq2 (sq2 (sq2 (bodF Try.f5))))
theorem code5 : bodF Try.f5 = (.seq c5_0 (.seq c5_1 (.seq (.seq c5_2 (.block 0 (.loop (.seq c5_3 (.seq (.block 1 (.seq c5_4 (.seq c5_5 (.seq c5_6 (.seq c5_7 (.block 2 (.loop c5_8))))))) c5_9))))) c5_10))) := by kernel_rfl
noncomputable def c18_0 : Code := (sq1 (bodF Try.f18))
noncomputable def c18_1 : Code := (sq1 (sq1 (sq2 (bodF Try.f18))))
noncomputable def c18_2 : Code := (lpC (blkC (sq2 (sq1 (sq2 (bodF Try.f18))))))
noncomputable def c18_3 : Code := (sq2 (sq2 (bodF Try.f18)))
theorem code18 : bodF Try.f18 = (.seq c18_0 (.seq (.seq c18_1 (.block 0 (.loop c18_2))) c18_3)) := by kernel_rfl
noncomputable def c24_0 : Code := (sq1 (bodF Try.f24))
noncomputable def c24_1 : Code := (sq1 (sq1 (sq2 (bodF Try.f24))))
noncomputable def c24_2 : Code := (lpC (blkC (sq2 (sq1 (sq2 (bodF Try.f24))))))
noncomputable def c24_3 : Code := (sq2 (sq2 (bodF Try.f24)))
theorem code24 : bodF Try.f24 = (.seq c24_0 (.seq (.seq c24_1 (.block 0 (.loop c24_2))) c24_3)) := by kernel_rfl
/-- The state ahead of a round of a loop over a row of one-cell rows. -/
def fr18 (n i : Nat) : List SV := [.slice 0 0 1 n, .top, .bool false, .top, .top, .slice 0 0 1 n, .int .i64 n, .int .i64 i] ++ List.replicate 10 .top
def fr24 (n i : Nat) : List SV := [.slice 0 0 1 n, .top, .bool false, .top, .top, .slice 0 0 1 n, .int .i64 n, .int .i64 i] ++ List.replicate 5 .top
def hp18 (n : Nat) (g : Nat → Int) : LHeap := [some ⟨1, n, fun r => [.int .i64 (g r)], false, 0⟩]
def hp24 (n : Nat) (g : Nat → Bool) : LHeap := [some ⟨1, n, fun r => [.bool (g r)], false, 0⟩]
end Go.Proofs.Ythiencdknndagaa
