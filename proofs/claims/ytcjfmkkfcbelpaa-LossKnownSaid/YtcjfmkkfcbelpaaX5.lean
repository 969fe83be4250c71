/-
  Chapter 9 by the engine: what is lost: Find.
-/
import Derived.Test.YtcjfmkkfcbelpaaV4
namespace Go.Proofs.Ytcjfmkkfcbelpaa
open Go.RowKit
def G9 : Gam := addGam (addGam (addGam (addGam G8 14 s14) 15 s14) 13 s13) 22 s13
noncomputable def C9 : Ctx := ⟨Try.prog, G9, fun t => memN t eqs⟩
noncomputable def c11_0 : Code := (sq1 (bodF Try.f11))
noncomputable def c11_1 : Code := (sq1 (sq2 (bodF Try.f11)))
noncomputable def c11_2 : Code := (sq1 (sq2 (sq2 (bodF Try.f11))))
noncomputable def c11_3 : Code := (sq1 (sq2 (sq2 (sq2 (bodF Try.f11)))))
noncomputable def c11_4 : Code := (sq1 (sq1 (sq2 (sq2 (sq2 (sq2 (bodF Try.f11)))))))
noncomputable def c11_5 : Code := (lpC (blkC (sq2 (sq1 (sq2 (sq2 (sq2 (sq2 (bodF Try.f11)))))))))
noncomputable def c11_6 : Code := (sq2 (sq2 (sq2 (sq2 (sq2 (bodF Try.f11))))))
theorem code11 : bodF Try.f11 = (.seq c11_0 (.seq c11_1 (.seq c11_2 (.seq c11_3 (.seq (.seq c11_4 (.block 1 (.loop c11_5))) c11_6))))) := by kernel_rfl
noncomputable def c12_0 : Code := (sq1 (bodF Try.f12))
noncomputable def c12_1 : Code := (sq1 (sq2 (bodF Try.f12)))
noncomputable def c12_2 : Code := (sq1 (sq2 (sq2 (bodF Try.f12))))
noncomputable def c12_3 : Code := (sq1 (sq2 (sq2 (sq2 (bodF Try.f12)))))
noncomputable def c12_4 : Code := (sq1 (sq2 (sq2 (sq2 (sq2 (bodF Try.f12))))))
noncomputable def c12_5 : Code := (sq1 (sq2 (sq2 (sq2 (sq2 (sq2 (bodF Try.f12)))))))
noncomputable def c12_6 : Code := (sq1 (sq1 (sq2 (sq2 (sq2 (sq2 (sq2 (sq2 (bodF Try.f12)))))))))
noncomputable def c12_7 : Code := (lpC (blkC (sq2 (sq1 (sq2 (sq2 (sq2 (sq2 (sq2 (sq2 (bodF Try.f12)))))))))))
noncomputable def c12_8 : Code := (sq2 (sq2 (sq2 (sq2 (sq2 (sq2 (sq2 (bodF Try.f12))))))))
theorem code12 : bodF Try.f12 = (.seq c12_0 (.seq c12_1 (.seq c12_2 (.seq c12_3 (.seq c12_4 (.seq c12_5 (.seq (.seq c12_6 (.block 0 (.loop c12_7))) c12_8))))))) := by kernel_rfl
abbrev L11 : List Nat := [0, 8, 9, 10, 12, 43, 44, 45]
/-- The structure of three functions. -/
def rulC (g d t : Nat) : List SV := [.func (.func 38) [] [.ptr g 0 1 0], .func (.func 39) [] [.ptr g 0 1 0, .ptr d 0 1 0, .ptr t 0 1 0], .func (.func 40) [] [.ptr d 0 1 0]]
def v11 (n : Nat) (lost rest : SV) (tm : Int) (m i : SV) : List SV := [.slice 0 0 6 n, lost, rest, .int .i64 tm, .ptr 6 0 3 0, m, match m with | .top => .top | _ => .int .i64 n, i]
def cO (x : Int) : BO := .rows 1 1 true 3 [[.int .i64 x]]
def dueO : BO := .rows 1 1 true 54 [[.func (.func 37) [] [.ptr 4 0 1 0]]]
def bPw (n : Nat) (P : Nat → Pk) : Blk := ⟨6, n, fun r => pkC (P r), true, 33⟩
def h11 (n : Nat) (P : Nat → Pk) (g t w : Int) : List BO := [.raw (some (bP n P)), .raw none, cO g, cO t, cO w, dueO, .rows 3 1 true 56 [rulC 2 5 3]]
def lO (n : Nat) (P : Nat → Pk) : BO := .raw (some (bPw n P))
abbrev M11a : List Bool := [false, true, true, true, true, true, true]
abbrev M11nn : List Bool := [false, false, true, true, true, true, true, true, true, true]
abbrev M11s : List Bool := [false, false, true, true, true, true, true, false, true, true, false]
abbrev M11ss : List Bool := [false, false, true, true, true, true, true, false, false, true, true, false]
end Go.Proofs.Ytcjfmkkfcbelpaa
