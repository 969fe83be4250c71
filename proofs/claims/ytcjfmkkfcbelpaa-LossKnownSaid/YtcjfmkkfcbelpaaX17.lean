/-
  Chapter 9 by the engine: packets out of rows.
-/
import Derived.Test.YtcjfmkkfcbelpaaV15
import Derived.Test.YtcjfmkkfcbelpaaP4
namespace Go.Proofs.Ytcjfmkkfcbelpaa
open Go.RowKit
def rwC (p : Rw) : List SV := [.int .i64 p.s, .int .i64 p.t, .int .i64 p.z]
def bR (n : Nat) (R : Nat → Rw) : Blk := ⟨3, n, fun r => rwC (R r), false, 0⟩
noncomputable def c19_0 : Code := (sq1 (bodF Try.f19))
noncomputable def c19_1 : Code := (sq1 (sq2 (bodF Try.f19)))
noncomputable def c19_2 : Code := (sq1 (sq2 (sq2 (bodF Try.f19))))
noncomputable def c19_3 : Code := (sq1 (sq1 (sq2 (sq2 (sq2 (bodF Try.f19))))))
noncomputable def c19_4 : Code := (lpC (blkC (sq2 (sq1 (sq2 (sq2 (sq2 (bodF Try.f19))))))))
noncomputable def c19_5 : Code := (sq2 (sq2 (sq2 (sq2 (bodF Try.f19)))))
theorem code19 : bodF Try.f19 = (.seq c19_0 (.seq c19_1 (.seq c19_2 (.seq (.seq c19_3 (.block 0 (.loop c19_4))) c19_5)))) := by kernel_rfl
abbrev L19 : List Nat := [0, 3, 4, 5]
def v19 (n : Nat) (out : SV) (x : Int) (i : SV) : List SV := [.slice 0 0 3 n, out, .int .i64 x, i]
def h19 (n : Nat) (R : Nat → Rw) : List BO := [.raw (some (bR n R))]
abbrev M19n : List Bool := [false, true, true, true, true]
abbrev M19s : List Bool := [false, false, true, false]
end Go.Proofs.Ytcjfmkkfcbelpaa
