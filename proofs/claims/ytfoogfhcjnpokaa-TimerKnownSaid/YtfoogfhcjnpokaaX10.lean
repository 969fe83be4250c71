/-
  Chapter 18 by the engine: parts of TimerKnown and TimerArmed.
-/
import Derived.Test.YtfoogfhcjnpokaaP3
namespace Go.Proofs.Ytfoogfhcjnpokaa
open Go.RowKit
def s5 : Spec := fun args _ _ k => match args with
  | [.agg [.bool _, .int .i64 _, .int .i64 _, .int .i64 _, .bool _, .int .i64 _, .int .i64 _, .int .i64 _, .bool _, .int .i64 _, .int .i64 _, .int .i64 _, .bool _, .bool _, .bool _, .int .i64 _], .agg [.int .i64 _, .int .i64 _, .int .i64 _, .int .i64 _, .int .i64 _, .int .i64 _, .int .i64 _, .int .i64 _]] => k (.bool true) [] []
  | _ => False
def G13 : Gam := addGam G11 5 s5
noncomputable def C13 : Ctx := ⟨Try.prog, G13, fun t => memN t eqs⟩
noncomputable def c4_0 : Code := (sq1 (bodF Try.f4))
noncomputable def c4_1 : Code := (sq1 (sq2 (bodF Try.f4)))
noncomputable def c4_2 : Code := (sq1 (sq1 (sq2 (sq2 (bodF Try.f4)))))
noncomputable def c4_3 : Code := (sq1 (lpC (blkC (sq2 (sq1 (sq2 (sq2 (bodF Try.f4))))))))
noncomputable def c4_4 : Code := (sq1 (blkC (sq1 (sq2 (lpC (blkC (sq2 (sq1 (sq2 (sq2 (bodF Try.f4)))))))))))
noncomputable def c4_5 : Code := (sq1 (lpC (blkC (sq2 (blkC (sq1 (sq2 (lpC (blkC (sq2 (sq1 (sq2 (sq2 (bodF Try.f4))))))))))))))
noncomputable def c4_6 : Code := (sq1 (blkC (sq1 (sq2 (lpC (blkC (sq2 (blkC (sq1 (sq2 (lpC (blkC (sq2 (sq1 (sq2 (sq2 (bodF Try.f4)))))))))))))))))
noncomputable def c4_7 : Code := (lpC (blkC (sq2 (blkC (sq1 (sq2 (lpC (blkC (sq2 (blkC (sq1 (sq2 (lpC (blkC (sq2 (sq1 (sq2 (sq2 (bodF Try.f4)))))))))))))))))))
noncomputable def c4_8 : Code := (sq2 (sq2 (lpC (blkC (sq2 (blkC (sq1 (sq2 (lpC (blkC (sq2 (sq1 (sq2 (sq2 (bodF Try.f4)))))))))))))))
noncomputable def c4_9 : Code := (sq2 (sq2 (lpC (blkC (sq2 (sq1 (sq2 (sq2 (bodF Try.f4)))))))))
noncomputable def c4_10 : Code := (sq2 (sq2 (sq2 (bodF Try.f4))))
theorem code4 : bodF Try.f4 = (.seq c4_0 (.seq c4_1 (.seq (.seq c4_2 (.block 0 (.loop (.seq c4_3 (.seq (.block 1 (.seq c4_4 (.block 2 (.loop (.seq c4_5 (.seq (.block 3 (.seq c4_6 (.block 4 (.loop c4_7)))) c4_8)))))) c4_9))))) c4_10))) := by kernel_rfl
def bE (e : Nat → Int) : Blk := ⟨1, 10, fun r => [.int .i64 (e r)], true, 3⟩
abbrev L4 : List Nat := [0, 1, 2, 3]
def v4 (i k : SV) : List SV := [.bool false, .slice 0 0 1 10, i, k]
def h4 (e : Nat → Int) : List BO := [.raw (some (bE e))]
/-- No other space's probe is due earlier, and this one's is. -/
structure SoonP (F : Fc) (d : D3) : Prop where
  r0 : -1 ≤ F.b0 ∧ F.b0 < 1125899906842624
  r1 : -1 ≤ F.b1 ∧ F.b1 < 1125899906842624
  r2 : -1 ≤ F.b2 ∧ F.b2 < 1125899906842624
  s0 : 0 < F.n0 → d.2.2 ≤ F.b0 + 6400000
  s1 : 0 < F.n1 → d.2.2 ≤ F.b1 + 6400000
  s2 : 0 < F.n2 → F.cf = true → d.2.2 ≤ F.b2 + 16400000
  at_ : (d.2.1 = 0 ∧ d.2.2 = F.b0 + 6400000) ∨ (d.2.1 = 1 ∧ d.2.2 = F.b1 + 6400000) ∨ (d.2.1 = 2 ∧ d.2.2 = F.b2 + 16400000)
def s20 : Spec := fun args _ _ k => match args with
  | [.agg [.bool k0, .int .i64 a0, .int .i64 b0, .int .i64 n0, .bool k1, .int .i64 a1, .int .i64 b1, .int .i64 n1, .bool k2, .int .i64 a2, .int .i64 b2, .int .i64 n2, .bool cf, .bool lm, .bool pr, .int .i64 now], .agg [.int .i64 x, .int .i64 y, .int .i64 z]] =>
    SoonP ⟨k0, a0, b0, n0, k1, a1, b1, n1, k2, a2, b2, n2, cf, lm, pr, now⟩ (x, y, z) ∧ k (.bool true) [] []
  | _ => False
def G14 : Gam := addGam G11 20 s20
noncomputable def C14 : Ctx := ⟨Try.prog, G14, fun t => memN t eqs⟩
noncomputable def c6_0 : Code := (sq1 (bodF Try.f6))
noncomputable def c6_1 : Code := (sq1 (sq2 (bodF Try.f6)))
noncomputable def c6_2 : Code := (sq1 (sq2 (sq2 (bodF Try.f6))))
noncomputable def c6_3 : Code := (sq1 (sq2 (sq2 (sq2 (bodF Try.f6)))))
noncomputable def c6_4 : Code := (sq1 (sq2 (sq2 (sq2 (sq2 (bodF Try.f6))))))
noncomputable def c6_5 : Code := (sq1 (sq1 (sq2 (sq2 (sq2 (sq2 (sq2 (bodF Try.f6))))))))
noncomputable def c6_6 : Code := (lpC (blkC (sq2 (sq1 (sq2 (sq2 (sq2 (sq2 (sq2 (bodF Try.f6))))))))))
noncomputable def c6_7 : Code := (sq2 (sq2 (sq2 (sq2 (sq2 (sq2 (bodF Try.f6)))))))
theorem code6 : bodF Try.f6 = (.seq c6_0 (.seq c6_1 (.seq c6_2 (.seq c6_3 (.seq c6_4 (.seq (.seq c6_5 (.block 0 (.loop c6_6))) c6_7)))))) := by kernel_rfl
abbrev L6 : List Nat := [6, 7, 8, 9, 10, 11, 12]
abbrev M6 : List Bool := [true, true, true]
def v6 (l p m i : SV) : List SV := [.bool false, .ptr 1 0 16 0, .ptr 2 0 3 0, l, p, m, i]
def h6 (x0 x1 x2 : Rw) (F : Fc) (d : D3) : List BO := [.rows 12 1 true 30 [rw3 x0 x1 x2], .rows 16 1 true 28 [fcL F], .rows 3 1 true 32 [rowS3 d]]
end Go.Proofs.Ytfoogfhcjnpokaa
