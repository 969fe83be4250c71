/-
  Chapter 9 by the engine: LossParts: pieces.
-/
import Derived.Test.YtcjfmkkfcbelpaaX18
namespace Go.Proofs.Ytcjfmkkfcbelpaa
open Go.RowKit
noncomputable def c5_0 : Code := (sq1 (bodF Try.f5))
noncomputable def c5_1 : Code := (sq1 (sq2 (bodF Try.f5)))
noncomputable def c5_2 : Code := (sq1 (sq2 (sq2 (bodF Try.f5))))
noncomputable def c5_3 : Code := (sq1 (sq2 (sq2 (sq2 (bodF Try.f5)))))
noncomputable def c5_4 : Code := (sq1 (sq2 (sq2 (sq2 (sq2 (bodF Try.f5))))))
noncomputable def c5_5 : Code := (sq1 (sq2 (sq2 (sq2 (sq2 (sq2 (bodF Try.f5)))))))
noncomputable def c5_6 : Code := (sq1 (sq2 (sq2 (sq2 (sq2 (sq2 (sq2 (bodF Try.f5))))))))
noncomputable def c5_7 : Code := (sq1 (sq1 (sq2 (sq2 (sq2 (sq2 (sq2 (sq2 (sq2 (bodF Try.f5))))))))))
noncomputable def c5_8 : Code := (lpC (blkC (sq2 (sq1 (sq2 (sq2 (sq2 (sq2 (sq2 (sq2 (sq2 (bodF Try.f5))))))))))))
noncomputable def c5_9 : Code := (sq2 (sq2 (sq2 (sq2 (sq2 (sq2 (sq2 (sq2 (bodF Try.f5)))))))))
theorem code5 : bodF Try.f5 = (.seq c5_0 (.seq c5_1 (.seq c5_2 (.seq c5_3 (.seq c5_4 (.seq c5_5 (.seq c5_6 (.seq (.seq c5_7 (.block 0 (.loop c5_8))) c5_9)))))))) := by kernel_rfl
def rO (l m s v : Int) : BO := .rows 5 1 true 25 [[.int .i64 l, .int .i64 m, .int .i64 s, .int .i64 v, .int .i64 0]]
/-- Packets, measure, number, time. -/
abbrev LA : List Nat := [7, 8, 9, 10]
def vA (n : Nat) (g t : Int) : List SV := [.slice 1 0 6 n, .ptr 2 0 5 0, .int .i64 g, .int .i64 t]
def hA (k : Nat) (R : Nat → Rw) (n : Nat) (P : Nat → Pk) (l m s v : Int) : List BO := [.raw (some (bR k R)), lO n P, rO l m s v]
abbrev M5a : List Bool := [false, true, true, false, true]
/-- Behind Find. -/
abbrev LB : List Nat := [7, 8, 9, 10, 11, 12, 13, 14]
def vB (n : Nat) (g t : Int) (lost rest : SV) (tm : Int) : List SV := [.slice 1 0 6 n, .ptr 2 0 5 0, .int .i64 g, .int .i64 t, lost, rest, .int .i64 tm, .int .i64 0]
abbrev M5b1 : List Bool := [false, false, true, false]
abbrev M5b2 : List Bool := [false, false, true, false, false]
abbrev L5 : List Nat := [7, 8, 9, 10, 11, 12, 15, 16, 17]
def v5 (n : Nat) (g t : Int) (lost rest a b i : SV) : List SV := [.slice 1 0 6 n, .ptr 2 0 5 0, .int .i64 g, .int .i64 t, lost, rest, a, b, i]
end Go.Proofs.Ytcjfmkkfcbelpaa
