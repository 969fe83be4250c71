/-
  Chapter 9 by the engine: LossThree: pieces.
-/
import Derived.Test.YtcjfmkkfcbelpaaX22
namespace Go.Proofs.Ytcjfmkkfcbelpaa
open Go.RowKit
noncomputable def c8_0 : Code := (sq1 (bodF Try.f8))
noncomputable def c8_1 : Code := (sq1 (sq2 (bodF Try.f8)))
noncomputable def c8_2 : Code := (sq1 (sq2 (sq2 (bodF Try.f8))))
noncomputable def c8_3 : Code := (sq1 (sq2 (sq2 (sq2 (bodF Try.f8)))))
noncomputable def c8_4 : Code := (sq1 (sq1 (sq2 (sq2 (sq2 (sq2 (bodF Try.f8)))))))
noncomputable def c8_5 : Code := (lpC (blkC (sq2 (sq1 (sq2 (sq2 (sq2 (sq2 (bodF Try.f8)))))))))
noncomputable def c8_6 : Code := (sq2 (sq2 (sq2 (sq2 (sq2 (bodF Try.f8))))))
noncomputable def c8_7 : Code := sq1 c8_6
noncomputable def c8_8 : Code := sq1 (sq2 c8_6)
noncomputable def c8_9 : Code := sq2 (sq2 c8_6)
theorem code8 : bodF Try.f8 = (.seq c8_0 (.seq c8_1 (.seq c8_2 (.seq c8_3 (.seq (.seq c8_4 (.block 0 (.loop c8_5))) c8_6))))) := by kernel_rfl
theorem code8b : c8_6 = .seq c8_7 (.seq c8_8 c8_9) := by kernel_rfl
def pk3 (i : Nat) : Pk := ⟨i, 5, 1200, false, false, false⟩
abbrev L8 : List Nat := [0, 1, 5, 6]
def v8 (n g : Int) (p i : SV) : List SV := [.int .i64 n, .int .i64 g, p, i]
abbrev M8n : List Bool := [true, true]
abbrev M8s : List Bool := [false, true, false]
abbrev L8b : List Nat := [0, 1, 5, 7, 8, 9, 10]
def v8b (n g : Int) (p lost rest : SV) (tm : Int) : List SV := [.int .i64 n, .int .i64 g, p, lost, rest, .int .i64 tm, .int .i64 0]
def h8b (n : Nat) (P : Nat → Pk) (o1 o2 : Option Blk) : List BO := [lO n P, BO.raw o1, BO.raw o2]
/-- With what is awaited. -/
abbrev L8c : List Nat := [0, 1, 5, 7, 8, 9, 10, 11]
def v8c (n g : Int) (p lost rest : SV) (tm w : Int) : List SV := [.int .i64 n, .int .i64 g, p, lost, rest, .int .i64 tm, .int .i64 0, .int .i64 w]
end Go.Proofs.Ytcjfmkkfcbelpaa
