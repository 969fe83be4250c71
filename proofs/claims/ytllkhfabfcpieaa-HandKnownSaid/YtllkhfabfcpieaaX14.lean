/-
  Chapter 16 by the engine: HandPlays, its loop.
-/
import Derived.Test.YtllkhfabfcpieaaV14
namespace Go.Proofs.Ytllkhfabfcpieaa
open Go.RowKit
noncomputable def c6_0 : Code := (sq1 (bodF Try.f6))
noncomputable def c6_1 : Code := (sq1 (sq2 (bodF Try.f6)))
noncomputable def c6_2 : Code := (sq1 (sq2 (sq2 (bodF Try.f6))))
noncomputable def c6_3 : Code := (sq1 (sq1 (sq2 (sq2 (sq2 (bodF Try.f6))))))
noncomputable def c6_4 : Code := (lpC (blkC (sq2 (sq1 (sq2 (sq2 (sq2 (bodF Try.f6))))))))
noncomputable def c6_5 : Code := (sq2 (sq2 (sq2 (sq2 (bodF Try.f6)))))
theorem code6 : bodF Try.f6 = (.seq c6_0 (.seq c6_1 (.seq c6_2 (.seq (.seq c6_3 (.block 0 (.loop c6_4))) c6_5)))) := by kernel_rfl
abbrev L6 : List Nat := [1, 4, 5, 6, 7]
abbrev M6a : List Bool := [false, true, true, false]
abbrev M6n : List Bool := [false, true, true, false, false, false, false]
abbrev M6s : List Bool := [false, true, true, false, false, false, false, false, false]
def v6 (l i : SV) : List SV := [l, .bool false, .ptr 1 0 7 0, .ptr 2 0 6 0, i]
def mbO (sv : Bool) (ks gs : SV) (va cf an : Bool) : BO := .rows 6 1 true 57 [mC sv ks gs va cf an]
def h6n (n : Nat) (g : Nat → Nat → Int) (h : Hd) (sv va cf an : Bool) (kf : Nat → Int) (nk : Nat) : List BO := [.raw (some (bD n g)), hbO h, mbO sv (.slice 3 0 1 (nk + 1)) .nilSlice va cf an, .raw (some (bFw kf (nk + 1)))]
def h6s (n : Nat) (g : Nat → Nat → Int) (h : Hd) (sv va cf an : Bool) (kf : Nat → Int) (nk : Nat) (gf : Nat → Int) (ng : Nat) : List BO := [.raw (some (bD n g)), hbO h, mbO sv (.slice 3 0 1 (nk + 1)) (.slice 4 0 1 (ng + 1)) va cf an, .raw (some (bFw kf (nk + 1))), .raw (some (bFw gf (ng + 1)))]
end Go.Proofs.Ytllkhfabfcpieaa
