/-
  Chapter 18 by the engine: rows; facts made of rows.
-/
import Derived.Test.YtfoogfhcjnpokaaV7
namespace Go.Proofs.Ytfoogfhcjnpokaa
open Go.RowKit
/-- A row: bits, when, when, how many. -/
structure Rw where
  b : Int
  l : Int
  a : Int
  m : Int
def rwL (x : Rw) : List SV := [.int .i64 x.b, .int .i64 x.l, .int .i64 x.a, .int .i64 x.m]
def rw3 (x0 x1 x2 : Rw) : List SV := [.int .i64 x0.b, .int .i64 x0.l, .int .i64 x0.a, .int .i64 x0.m, .int .i64 x1.b, .int .i64 x1.l, .int .i64 x1.a, .int .i64 x1.m, .int .i64 x2.b, .int .i64 x2.l, .int .i64 x2.a, .int .i64 x2.m]
def s18 : Spec := fun args _ _ k => match args with
  | [.agg [.bool k0, .int .i64 a0, .int .i64 b0, .int .i64 n0, .bool k1, .int .i64 a1, .int .i64 b1, .int .i64 n1, .bool k2, .int .i64 a2, .int .i64 b2, .int .i64 n2, .bool cf, .bool lm, .bool pr, .int .i64 now]] =>
    k (.agg [.bool k0, .int .i64 a0, .int .i64 b0, .int .i64 n0, .bool k1, .int .i64 a1, .int .i64 b1, .int .i64 n1, .bool k2, .int .i64 a2, .int .i64 b2, .int .i64 n2, .bool cf, .bool lm, .bool pr, .int .i64 now]) [] []
  | _ => False
noncomputable def C8 : Ctx := ⟨Try.prog, G1, fun t => memN t eqs⟩
noncomputable def c9_0 : Code := (sq1 (bodF Try.f9))
noncomputable def c9_1 : Code := (sq1 (sq2 (bodF Try.f9)))
noncomputable def c9_2 : Code := (sq1 (sq1 (sq2 (sq2 (bodF Try.f9)))))
noncomputable def c9_3 : Code := (lpC (blkC (sq2 (sq1 (sq2 (sq2 (bodF Try.f9)))))))
noncomputable def c9_4 : Code := (sq2 (sq2 (sq2 (bodF Try.f9))))
theorem code9 : bodF Try.f9 = (.seq c9_0 (.seq c9_1 (.seq (.seq c9_2 (.block 0 (.loop c9_3))) c9_4))) := by kernel_rfl
abbrev L9 : List Nat := [3, 6, 7, 8]
abbrev M9 : List Bool := [true, true, true]
def v9 (i : SV) : List SV := [.ptr 0 0 12 0, .ptr 1 0 16 0, .ptr 2 0 16 0, i]
def zF : Fc := ⟨false, 0, 0, 0, false, 0, 0, 0, false, 0, 0, 0, false, false, false, 0⟩
def h9 (x0 x1 x2 : Rw) (F : Fc) : List BO := [.rows 12 1 true 30 [rw3 x0 x1 x2], .rows 16 1 true 28 [fcL zF], .rows 16 1 true 28 [fcL F]]
def bt (b k : Int) : Bool := bitI BinOp.and IntKind.i64 (b % 8) k == k
def lossR (x : Rw) : Int := if bt x.b 2 then x.l % 1125899906842624 else -1
def lastR (x : Rw) : Int := if bt x.b 4 then x.a % 1125899906842624 else -1
def manyR (x : Rw) : Int := if bt x.b 4 then 1 + x.m % 256 else 0
def with0 (x : Rw) (F : Fc) : Fc := { F with k0 := bt x.b 1, a0 := lossR x, b0 := lastR x, n0 := manyR x }
def with1 (x : Rw) (F : Fc) : Fc := { F with k1 := bt x.b 1, a1 := lossR x, b1 := lastR x, n1 := manyR x }
def with2 (x : Rw) (F : Fc) : Fc := { F with k2 := bt x.b 1, a2 := lossR x, b2 := lastR x, n2 := manyR x }
def zN (b w : Int) : Fc := ⟨false, 0, 0, 0, false, 0, 0, 0, false, 0, 0, 0, bt b 1, bt b 2, bt b 4, w % 1125899906842624⟩
/-- Facts, of rows, and bits. -/
def madeF (x0 x1 x2 : Rw) (b w : Int) : Fc := with2 x2 (with1 x1 (with0 x0 (zN b w)))
/-- Facts by name. -/
def l9 : Spec := fun args _ _ k => match args with
  | [.agg [.int .i64 p0, .int .i64 q0, .int .i64 r0, .int .i64 s0, .int .i64 p1, .int .i64 q1, .int .i64 r1, .int .i64 s1, .int .i64 p2, .int .i64 q2, .int .i64 r2, .int .i64 s2], .int .i64 b, .int .i64 w] =>
    ∀ F : Fc, F = madeF ⟨p0, q0, r0, s0⟩ ⟨p1, q1, r1, s1⟩ ⟨p2, q2, r2, s2⟩ b w → k (fc F) [] []
  | _ => False
end Go.Proofs.Ytfoogfhcjnpokaa
