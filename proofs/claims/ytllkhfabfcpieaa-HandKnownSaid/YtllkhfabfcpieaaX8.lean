/-
  Chapter 16 by the engine: HandCopies: its parts, its templates.
-/
import Derived.Test.YtllkhfabfcpieaaV6
namespace Go.Proofs.Ytllkhfabfcpieaa
open Go.RowKit
noncomputable def c8_0 : Code := (sq1 (bodF Try.f8))
noncomputable def c8_1 : Code := (sq1 (sq2 (bodF Try.f8)))
noncomputable def c8_2 : Code := (sq1 (sq2 (sq2 (bodF Try.f8))))
noncomputable def c8_3 : Code := (sq1 (sq2 (sq2 (sq2 (bodF Try.f8)))))
noncomputable def c8_4 : Code := (sq1 (sq2 (sq2 (sq2 (sq2 (bodF Try.f8))))))
noncomputable def c8_5 : Code := (sq1 (sq1 (sq2 (sq2 (sq2 (sq2 (sq2 (bodF Try.f8))))))))
noncomputable def c8_6 : Code := (lpC (blkC (sq2 (sq1 (sq2 (sq2 (sq2 (sq2 (sq2 (bodF Try.f8))))))))))
noncomputable def c8_7 : Code := (sq1 (sq2 (sq2 (sq2 (sq2 (sq2 (sq2 (bodF Try.f8))))))))
noncomputable def c8_8 : Code := (sq1 (sq1 (sq2 (sq2 (sq2 (sq2 (sq2 (sq2 (sq2 (bodF Try.f8))))))))))
noncomputable def c8_9 : Code := (lpC (blkC (sq2 (sq1 (sq2 (sq2 (sq2 (sq2 (sq2 (sq2 (sq2 (bodF Try.f8))))))))))))
noncomputable def c8_10 : Code := (sq2 (sq2 (sq2 (sq2 (sq2 (sq2 (sq2 (sq2 (bodF Try.f8)))))))))
theorem code8 : bodF Try.f8 = (.seq c8_0 (.seq c8_1 (.seq c8_2 (.seq c8_3 (.seq c8_4 (.seq (.seq c8_5 (.block 0 (.loop c8_6))) (.seq c8_7 (.seq (.seq c8_8 (.block 2 (.loop c8_9))) c8_10)))))))) := by kernel_rfl

abbrev L8 : List Nat := [0, 1, 2, 7, 8, 9, 10, 11]
abbrev M8s : List Bool := [false, false, true, true, true, false, false, false]
abbrev M8e : List Bool := [false, true, true, true, false, false]
def v8s (b : Bool) (n m q : Nat) (i : SV) : List SV := [.bool b, .slice 0 0 2 n, .slice 1 0 2 m, .ptr 2 0 7 0, .ptr 3 0 7 0, .ptr 4 0 7 0, .slice 7 0 2 q, i]
def h8s (n m : Nat) (g g2 : Nat → Nat → Int) (h c : Hd) (A : Blk) : List BO := [.raw (some (bD n g)), .raw (some (bD m g2)), hbO h, hbO h, hbO c, .raw none, .raw none, .raw (some A)]
def v8e (b : Bool) (m q : Nat) (i : SV) : List SV := [.bool b, .eslice, .slice 0 0 2 m, .ptr 1 0 7 0, .ptr 2 0 7 0, .ptr 3 0 7 0, .slice 5 0 2 q, i]
def h8e (m : Nat) (g2 : Nat → Nat → Int) (h c : Hd) (A : Blk) : List BO := [.raw (some (bD m g2)), hbO h, hbO h, hbO c, .raw none, .raw (some A)]
end Go.Proofs.Ytllkhfabfcpieaa
