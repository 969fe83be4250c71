/-
  Chapter 12 by the engine: the parts of EcnKnown.
-/
import Derived.Test.YthiencdknndagaaX6
namespace Go.Proofs.Ythiencdknndagaa
open Go.RowKit
noncomputable def c7_0 : Code := (sq1 (bodF Try.f7))
noncomputable def c7_1 : Code := (sq1 (sq2 (bodF Try.f7)))
noncomputable def c7_2 : Code := (sq1 (sq1 (sq2 (sq2 (bodF Try.f7)))))
noncomputable def c7_3 : Code := (sq1 (lpC (blkC (sq2 (sq1 (sq2 (sq2 (bodF Try.f7))))))))
noncomputable def c7_4 : Code := (sq1 (blkC (sq1 (sq2 (lpC (blkC (sq2 (sq1 (sq2 (sq2 (bodF Try.f7)))))))))))
noncomputable def c7_5 : Code := (sq1 (lpC (blkC (sq2 (blkC (sq1 (sq2 (lpC (blkC (sq2 (sq1 (sq2 (sq2 (bodF Try.f7))))))))))))))
noncomputable def c7_6 : Code := (sq1 (blkC (sq1 (sq2 (lpC (blkC (sq2 (blkC (sq1 (sq2 (lpC (blkC (sq2 (sq1 (sq2 (sq2 (bodF Try.f7)))))))))))))))))
noncomputable def c7_7 : Code := (lpC (blkC (sq2 (blkC (sq1 (sq2 (lpC (blkC (sq2 (blkC (sq1 (sq2 (lpC (blkC (sq2 (sq1 (sq2 (sq2 (bodF Try.f7)))))))))))))))))))
noncomputable def c7_8 : Code := (sq2 (sq2 (lpC (blkC (sq2 (blkC (sq1 (sq2 (lpC (blkC (sq2 (sq1 (sq2 (sq2 (bodF Try.f7)))))))))))))))
noncomputable def c7_9 : Code := (sq2 (sq2 (lpC (blkC (sq2 (sq1 (sq2 (sq2 (bodF Try.f7)))))))))
noncomputable def c7_10 : Code := (sq2 (sq2 (sq2 (bodF Try.f7))))
theorem code7 : bodF Try.f7 = (.seq c7_0 (.seq c7_1 (.seq (.seq c7_2 (.block 0 (.loop (.seq c7_3 (.seq (.block 1 (.seq c7_4 (.block 2 (.loop (.seq c7_5 (.seq (.block 3 (.seq c7_6 (.block 4 (.loop c7_7)))) c7_8)))))) c7_9))))) c7_10))) := by kernel_rfl
/-- The numbers at their ends, whatever they be. -/
def b7 (e : Nat → Int) : Blk := ⟨1, 9, fun r => [.int .i64 (e r)], true, 3⟩
def hp7 (e : Nat → Int) : LHeap := [some (b7 e)]
def fr7 (e : List SV) : List SV := .bool false :: .slice 0 0 1 9 :: (e ++ List.replicate (73 - e.length) .top)
def fI (i : Nat) : List SV := fr7 [.int .i64 i]
def fK (i k : Nat) : List SV := fr7 [.int .i64 i, .int .i64 k]
def fJ (i k : Nat) (j : Int) : List SV := fr7 [.int .i64 i, .int .i64 k, .int .i64 j]
/-- What is kept of a state. -/
abbrev KT := Ex → Nat → List SV → Nat → List (Nat × Nat × Bool × Nat × List (List SV)) → Prop
def rowsB : Option Blk → Nat × Nat × Bool × Nat × List (List SV)
  | some b => (b.sz, b.n, b.rw, b.ty, (List.range b.n).map b.rd)
  | none => (0, 0, false, 0, [])
def keepK (Kt : KT) (n m : Nat) : KC := fun x fr hp => Kt x fr.length (fr.take n) hp.length ((hp.take m).map rowsB)
end Go.Proofs.Ythiencdknndagaa
