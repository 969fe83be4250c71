/-
  Chapter 9 by the engine: LossTimer: pieces.
-/
import Derived.Test.YtcjfmkkfcbelpaaX21
namespace Go.Proofs.Ytcjfmkkfcbelpaa
open Go.RowKit
noncomputable def c7_0 : Code := (sq1 (bodF Try.f7))
noncomputable def c7_1 : Code := (sq1 (sq2 (bodF Try.f7)))
noncomputable def c7_2 : Code := (sq1 (sq2 (sq2 (bodF Try.f7))))
noncomputable def c7_3 : Code := (sq1 (sq2 (sq2 (sq2 (bodF Try.f7)))))
noncomputable def c7_4 : Code := (sq1 (sq2 (sq2 (sq2 (sq2 (bodF Try.f7))))))
noncomputable def c7_5 : Code := (sq1 (sq2 (sq2 (sq2 (sq2 (sq2 (bodF Try.f7)))))))
noncomputable def c7_6 : Code := (sq1 (sq2 (sq2 (sq2 (sq2 (sq2 (sq2 (bodF Try.f7))))))))
noncomputable def c7_7 : Code := (sq1 (sq2 (sq2 (sq2 (sq2 (sq2 (sq2 (sq2 (bodF Try.f7)))))))))
noncomputable def c7_8 : Code := (sq1 (sq2 (sq2 (sq2 (sq2 (sq2 (sq2 (sq2 (sq2 (bodF Try.f7))))))))))
noncomputable def c7_9 : Code := (sq2 (sq2 (sq2 (sq2 (sq2 (sq2 (sq2 (sq2 (sq2 (bodF Try.f7))))))))))
theorem code7 : bodF Try.f7 = (.seq c7_0 (.seq c7_1 (.seq c7_2 (.seq c7_3 (.seq c7_4 (.seq c7_5 (.seq c7_6 (.seq c7_7 (.seq c7_8 c7_9))))))))) := by kernel_rfl
abbrev LA7 : List Nat := [4, 7, 8, 9, 10]
def vA7 (n : Nat) (g t : Int) : List SV := [.ptr 3 0 3 0, .slice 1 0 6 n, .ptr 2 0 5 0, .int .i64 g, .int .i64 t]
def hA7 (k : Nat) (R : Nat → Rw) (n : Nat) (P : Nat → Pk) (l m s v x0 x1 x2 : Int) : List BO := [.raw (some (bR k R)), lO n P, mO l m s v, .rows 3 1 true 45 [[.int .i64 x0, .int .i64 x1, .int .i64 x2]]]
abbrev M7a : List Bool := [false, true, true, false, true]
abbrev LB7 : List Nat := [4, 7, 8, 9, 10, 11, 12, 13, 14]
def vB7 (n : Nat) (g t : Int) (lost rest : SV) (tm : Int) : List SV := [.ptr 3 0 3 0, .slice 1 0 6 n, .ptr 2 0 5 0, .int .i64 g, .int .i64 t, lost, rest, .int .i64 tm, .int .i64 0]
abbrev M7b : List Bool := [false, false, true, true, false, false]
/-- Behind the first Find: what was lost, and when. -/
abbrev LC7 : List Nat := [4, 7, 8, 9, 10, 11, 13]
def vC7 (n : Nat) (g t : Int) (lost : SV) (tm : Int) : List SV := [.ptr 3 0 3 0, .slice 1 0 6 n, .ptr 2 0 5 0, .int .i64 g, .int .i64 t, lost, .int .i64 tm]
abbrev LD7 : List Nat := [4, 7, 8, 9, 10, 11, 13, 15, 17, 18]
def vD7 (n : Nat) (g t : Int) (lost : SV) (tm : Int) (a : SV) (to : Int) : List SV := [.ptr 3 0 3 0, .slice 1 0 6 n, .ptr 2 0 5 0, .int .i64 g, .int .i64 t, lost, .int .i64 tm, a, .int .i64 to, .int .i64 0]
abbrev M7d : List Bool := [false, false, true, true, false, false, false]
abbrev LE7 : List Nat := [11, 13, 15, 17, 18, 19, 21, 22]
def vE7 (lost : SV) (tm : Int) (a : SV) (to : Int) (b : SV) (nx : Int) : List SV := [lost, .int .i64 tm, a, .int .i64 to, .int .i64 0, b, .int .i64 nx, .int .i64 0]
abbrev M7e : List Bool := [false, false, true, true, false, false, false, false]
def hE7 (k : Nat) (R : Nat → Rw) (o1 o2 o3 : Option Blk) : List BO := [.raw (some (bR k R)), .raw o1, .raw o2, .raw o3]
end Go.Proofs.Ytcjfmkkfcbelpaa
