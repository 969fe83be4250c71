/-
  Chapter 16 by the engine: calls in a row by name; parts of HandRefuses, HandLives, HandStays.
-/
import Derived.Test.YtllkhfabfcpieaaV4
namespace Go.Proofs.Ytllkhfabfcpieaa
open Go.RowKit
def rowI (l : List SV) (j : Nat) : Int := match l with
  | [.int _ x, .int _ y] => if j = 0 then x else y
  | _ => 0
structure IsDo (b : Blk) (n : Nat) : Prop where
  sz : b.sz = 2
  le : n ≤ b.n
  rd : ∀ r, r < n → ∃ x y : Int, b.rd r = [.int .i64 x, .int .i64 y]
def playB (b : Bool) (blk : Blk) (n : Nat) : Hd := playN b (fun r j => rowI (blk.rd r) j) (min n 60)
def s18 : Spec := fun args h base k => match args with
  | [.bool b, .nilSlice] => k (.ptr base 0 7 0) [] [hB (newH b)]
  | [.bool b, .eslice] => k (.ptr base 0 7 0) [] [hB (newH b)]
  | [.bool b, .slice id 0 2 n] => match h id with
    | some blk => IsDo blk n ∧ ∀ hd : Hd, hd = playB b blk n → k (.ptr base 0 7 0) [] [hB hd]
    | none => False
  | _ => False
/-- A number between: below three it is told by its cases. -/
def b11 : Spec := fun args _ _ k => match args with
  | [.int .i64 i, .int .i64 n] =>
    bif n == 3 then (i % 3 = 0 → k (.int .i64 0) [] []) ∧ (i % 3 = 1 → k (.int .i64 1) [] []) ∧ (i % 3 = 2 → k (.int .i64 2) [] [])
    else bif decide (0 < n) && decide (n ≤ 9223372036854775807) then k (.int .i64 (i % n)) [] [] else False
  | _ => False
def G7 : Gam := addGam G6 18 s18
noncomputable def C7 : Ctx := ⟨Try.prog, G7, fun t => memN t eqs⟩
def G8 : Gam := addGam G7 11 b11
noncomputable def C8 : Ctx := ⟨Try.prog, G8, fun t => memN t eqs⟩
noncomputable def c5_0 : Code := (sq1 (bodF Try.f5))
noncomputable def c5_1 : Code := (sq1 (sq2 (bodF Try.f5)))
noncomputable def c5_2 : Code := (sq1 (sq2 (sq2 (bodF Try.f5))))
noncomputable def c5_3 : Code := (sq1 (sq1 (sq2 (sq2 (sq2 (bodF Try.f5))))))
noncomputable def c5_4 : Code := (lpC (blkC (sq2 (sq1 (sq2 (sq2 (sq2 (bodF Try.f5))))))))
noncomputable def c5_5 : Code := (sq2 (sq2 (sq2 (sq2 (bodF Try.f5)))))
theorem code5 : bodF Try.f5 = (.seq c5_0 (.seq c5_1 (.seq c5_2 (.seq (.seq c5_3 (.block 0 (.loop c5_4))) c5_5)))) := by kernel_rfl
abbrev L5 : List Nat := [1, 4, 5, 6, 7, 8]
abbrev M5 : List Bool := [false, true, true, true]
def b3O (a b c : Bool) : BO := .rows 3 1 true 35 [[.bool a, .bool b, .bool c]]
def v5 (n : Nat) (i : SV) : List SV := [.slice 0 0 2 n, .bool false, .ptr 1 0 7 0, .ptr 2 0 3 0, .ptr 3 0 3 0, i]
def h5 (n : Nat) (g : Nat → Nat → Int) (h : Hd) (k0 k1 k2 g0 g1 g2 : Bool) : List BO := [.raw (some (bD n g)), hbO h, b3O k0 k1 k2, b3O g0 g1 g2]
noncomputable def c7_0 : Code := (sq1 (bodF Try.f7))
noncomputable def c7_1 : Code := (sq1 (sq2 (bodF Try.f7)))
noncomputable def c7_2 : Code := (sq1 (sq2 (sq2 (bodF Try.f7))))
noncomputable def c7_3 : Code := (sq1 (sq1 (sq2 (sq2 (sq2 (bodF Try.f7))))))
noncomputable def c7_4 : Code := (sq1 (lpC (blkC (sq2 (sq1 (sq2 (sq2 (sq2 (bodF Try.f7)))))))))
noncomputable def c7_5 : Code := (sq1 (blkC (sq1 (sq2 (lpC (blkC (sq2 (sq1 (sq2 (sq2 (sq2 (bodF Try.f7))))))))))))
noncomputable def c7_6 : Code := (sq1 (sq2 (blkC (sq1 (sq2 (lpC (blkC (sq2 (sq1 (sq2 (sq2 (sq2 (bodF Try.f7)))))))))))))
noncomputable def c7_7 : Code := (sq1 (sq2 (sq2 (blkC (sq1 (sq2 (lpC (blkC (sq2 (sq1 (sq2 (sq2 (sq2 (bodF Try.f7))))))))))))))
noncomputable def c7_8 : Code := (sq1 (sq1 (sq2 (sq2 (sq2 (blkC (sq1 (sq2 (lpC (blkC (sq2 (sq1 (sq2 (sq2 (sq2 (bodF Try.f7))))))))))))))))
noncomputable def c7_9 : Code := (lpC (blkC (sq2 (sq1 (sq2 (sq2 (sq2 (blkC (sq1 (sq2 (lpC (blkC (sq2 (sq1 (sq2 (sq2 (sq2 (bodF Try.f7))))))))))))))))))
noncomputable def c7_10 : Code := (sq2 (sq2 (sq2 (sq2 (blkC (sq1 (sq2 (lpC (blkC (sq2 (sq1 (sq2 (sq2 (sq2 (bodF Try.f7)))))))))))))))
noncomputable def c7_11 : Code := (sq2 (sq2 (lpC (blkC (sq2 (sq1 (sq2 (sq2 (sq2 (bodF Try.f7))))))))))
noncomputable def c7_12 : Code := (sq2 (sq2 (sq2 (sq2 (bodF Try.f7)))))
theorem code7 : bodF Try.f7 = (.seq c7_0 (.seq c7_1 (.seq c7_2 (.seq (.seq c7_3 (.block 0 (.loop (.seq c7_4 (.seq (.block 1 (.seq c7_5 (.seq c7_6 (.seq c7_7 (.seq (.seq c7_8 (.block 2 (.loop c7_9))) c7_10))))) c7_11))))) c7_12)))) := by kernel_rfl
abbrev L7 : List Nat := [1, 4, 5, 6, 7, 8]
def v7 (n : Nat) (i w s : SV) : List SV := [.slice 0 0 2 n, .bool false, .ptr 1 0 7 0, i, w, s]
def h7 (n : Nat) (g : Nat → Nat → Int) (h : Hd) : List BO := [.raw (some (bD n g)), hbO h]
def h7w (n : Nat) (g : Nat → Nat → Int) (h w : Hd) : List BO := [.raw (some (bD n g)), hbO h, hbO w]
end Go.Proofs.Ytllkhfabfcpieaa
