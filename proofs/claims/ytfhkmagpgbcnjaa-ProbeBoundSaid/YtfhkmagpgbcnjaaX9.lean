/-
  Chapter 19 by the engine: the parts of ProbeTells.
-/
import Derived.Test.YtfhkmagpgbcnjaaX8
import Derived.Test.YtfhkmagpgbcnjaaE18
namespace Go.Proofs.Ytfhkmagpgbcnjaa
open Go.RowKit
noncomputable def c3_0 : Code := sq1 (bodF Try.f3)
noncomputable def c3_1 : Code := sq1 (sq2 (bodF Try.f3))
noncomputable def c3_2 : Code := sq1 (sq2 (sq2 (bodF Try.f3)))
noncomputable def c3_3 : Code := sq1 (sq2 (sq2 (sq2 (bodF Try.f3))))
noncomputable def c3_4 : Code := sq1 (sq2 (sq2 (sq2 (sq2 (bodF Try.f3)))))
noncomputable def c3_5 : Code := sq1 (sq2 (sq2 (sq2 (sq2 (sq2 (bodF Try.f3))))))
noncomputable def c3_6 : Code := sq1 (sq2 (sq2 (sq2 (sq2 (sq2 (sq2 (bodF Try.f3)))))))
noncomputable def c3_7 : Code := sq1 (sq2 (sq2 (sq2 (sq2 (sq2 (sq2 (sq2 (bodF Try.f3))))))))
noncomputable def c3_8 : Code := sq1 (sq2 (sq2 (sq2 (sq2 (sq2 (sq2 (sq2 (sq2 (bodF Try.f3)))))))))
noncomputable def c3_9 : Code := sq1 (sq2 (sq2 (sq2 (sq2 (sq2 (sq2 (sq2 (sq2 (sq2 (bodF Try.f3))))))))))
noncomputable def c3_10 : Code := (sq2 (sq2 (sq2 (sq2 (sq2 (sq2 (sq2 (sq2 (sq2 (sq2 (bodF Try.f3)))))))))))
theorem code3 : bodF Try.f3 = (.seq c3_0 (.seq c3_1 (.seq c3_2 (.seq c3_3 (.seq c3_4 (.seq c3_5 (.seq c3_6 (.seq c3_7 (.seq c3_8 (.seq c3_9 c3_10)))))))))) := by kernel_rfl
noncomputable def c4_0 : Code := (sq1 (bodF Try.f4))
noncomputable def c4_1 : Code := (sq1 (sq2 (bodF Try.f4)))
noncomputable def c4_2 : Code := (sq1 (sq2 (sq2 (bodF Try.f4))))
noncomputable def c4_3 : Code := (sq1 (sq2 (sq2 (sq2 (bodF Try.f4)))))
noncomputable def c4_4 : Code := (sq1 (sq1 (sq2 (sq2 (sq2 (sq2 (bodF Try.f4)))))))
noncomputable def c4_5 : Code := (lpC (blkC (sq2 (sq1 (sq2 (sq2 (sq2 (sq2 (bodF Try.f4)))))))))
noncomputable def c4_6 : Code := (sq2 (sq2 (sq2 (sq2 (sq2 (bodF Try.f4))))))
theorem code4 : bodF Try.f4 = (.seq c4_0 (.seq c4_1 (.seq c4_2 (.seq c4_3 (.seq (.seq c4_4 (.block 0 (.loop c4_5))) c4_6))))) := by kernel_rfl
noncomputable def c8_0 : Code := (sq1 (bodF Try.f8))
noncomputable def c8_1 : Code := (sq1 (sq2 (bodF Try.f8)))
noncomputable def c8_2 : Code := (sq1 (sq1 (sq2 (sq2 (bodF Try.f8)))))
noncomputable def c8_3 : Code := (sq1 (lpC (blkC (sq2 (sq1 (sq2 (sq2 (bodF Try.f8))))))))
noncomputable def c8_4 : Code := (sq1 (blkC (sq1 (sq2 (lpC (blkC (sq2 (sq1 (sq2 (sq2 (bodF Try.f8)))))))))))
noncomputable def c8_5 : Code := (sq1 (lpC (blkC (sq2 (blkC (sq1 (sq2 (lpC (blkC (sq2 (sq1 (sq2 (sq2 (bodF Try.f8))))))))))))))
noncomputable def c8_6 : Code := (sq1 (blkC (sq1 (sq2 (lpC (blkC (sq2 (blkC (sq1 (sq2 (lpC (blkC (sq2 (sq1 (sq2 (sq2 (bodF Try.f8)))))))))))))))))
noncomputable def c8_7 : Code := (lpC (blkC (sq2 (blkC (sq1 (sq2 (lpC (blkC (sq2 (blkC (sq1 (sq2 (lpC (blkC (sq2 (sq1 (sq2 (sq2 (bodF Try.f8)))))))))))))))))))
noncomputable def c8_8 : Code := (sq2 (sq2 (lpC (blkC (sq2 (blkC (sq1 (sq2 (lpC (blkC (sq2 (sq1 (sq2 (sq2 (bodF Try.f8)))))))))))))))
noncomputable def c8_9 : Code := (sq2 (sq2 (lpC (blkC (sq2 (sq1 (sq2 (sq2 (bodF Try.f8)))))))))
noncomputable def c8_10 : Code := (sq2 (sq2 (sq2 (bodF Try.f8))))
theorem code8 : bodF Try.f8 = (.seq c8_0 (.seq c8_1 (.seq (.seq c8_2 (.block 0 (.loop (.seq c8_3 (.seq (.block 1 (.seq c8_4 (.block 2 (.loop (.seq c8_5 (.seq (.block 3 (.seq c8_6 (.block 4 (.loop c8_7)))) c8_8)))))) c8_9))))) c8_10))) := by kernel_rfl

def o3 (x y z : Int) (t : Nat) : BO := .rows 3 1 true t [[.int .i64 x, .int .i64 y, .int .i64 z]]
def hb3 (a b c x y z u v w p q r : Int) : List BO := [o3 a b c 22, o3 a b c 23, o3 x y z 23, o3 x y z 27, o3 u v w 23, o3 u v w 27, o3 p q r 23, o3 p q r 27]
def vb3 (e f g : Int) : List SV := [.bool false, .ptr 1 0 3 0, .ptr 2 0 3 0, .int .i64 e, .ptr 3 0 3 0, .int .i64 e, .ptr 4 0 3 0, .int .i64 f, .ptr 5 0 3 0, .int .i64 f, .ptr 6 0 3 0, .int .i64 g, .ptr 7 0 3 0, .int .i64 g]
abbrev L3 : List Nat := [6, 7, 8, 9, 10, 11, 12, 13, 14, 15, 16, 17, 18, 19]
/-- A list of rows that came in; what is left, what is free. -/
def bR4 (n : Nat) (g : Nat → Nat → Int) : Blk := ⟨2, n, fun r => [.int .i64 (g r 0), .int .i64 (g r 1)], false, 0⟩
def hb4 (n : Nat) (g : Nat → Nat → Int) (a b c : Int) : List BO := [.raw (some (bR4 n g)), o3 a b c 23, o3 a b c 22]
abbrev L4 : List Nat := [0, 2, 3, 4, 5]
def v4 (n : Nat) (i : Nat) : List SV := [.slice 0 0 2 n, .bool false, .ptr 1 0 3 0, .ptr 2 0 3 0, .int .i64 i]
def b8 (e : Nat → Int) : Blk := ⟨1, 7, fun r => [.int .i64 (e r)], true, 3⟩
abbrev L8 : List Nat := [0, 1, 2, 3, 4]
def v8 (i k j : SV) : List SV := [.bool false, .slice 0 0 1 7, i, k, j]
def s3 : Spec := fun args _ _ k => match args with
  | [.agg [.int .i64 _, .int .i64 _, .int .i64 _], .int .i64 _, .int .i64 _] => k (.bool true) [] []
  | _ => False
noncomputable def C12 : Ctx := ⟨Try.prog, addGam (addGam G5 22 s22) 3 s3, fun t => memN t eqs⟩
end Go.Proofs.Ytfhkmagpgbcnjaa
