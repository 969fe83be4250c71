/-
  Chapter 18 by the engine: what laws are given of Pick; the document's Pick, its parts.
-/
import Derived.Test.YtfoogfhcjnpokaaP2
import Derived.Test.YtfoogfhcjnpokaaE20
namespace Go.Proofs.Ytfoogfhcjnpokaa
open Go.RowKit
def okM (l m s v f : Int) : Bool := okR l m s v f
def pickV (F : Fc) (l m s v f d c mo : Int) : D3 := pickD F (okM l m s v f) (waitV l m s v f d c mo)
def s35 : Spec := fun args _ _ k => match args with
  | [.agg [.int .i64 l, .int .i64 m, .int .i64 s, .int .i64 v, .int .i64 f], .int .i64 i, .agg [.int .i64 d, .int .i64 c, .int .i64 mo]] => k (.int .i64 (waitV l m s v f d c mo i)) [] []
  | _ => False
def s16 : Spec := fun args _ _ k => match args with
  | [.agg [.bool k0, .int .i64 a0, .int .i64 b0, .int .i64 n0, .bool k1, .int .i64 a1, .int .i64 b1, .int .i64 n1, .bool k2, .int .i64 a2, .int .i64 b2, .int .i64 n2, .bool cf, .bool lm, .bool pr, .int .i64 now], .agg [.int .i64 l, .int .i64 m, .int .i64 s, .int .i64 v, .int .i64 f], .int .i64 d, .int .i64 c, .int .i64 mo] =>
    k (dueS (pickV ⟨k0, a0, b0, n0, k1, a1, b1, n1, k2, a2, b2, n2, cf, lm, pr, now⟩ l m s v f d c mo)) [] []
  | _ => False
noncomputable def C7 : Ctx := ⟨Try.prog, addGam G5 35 s35, fun t => memN t eqs⟩
noncomputable def c17_0 : Code := sq1 (bodF Try.f17)
noncomputable def c17_1 : Code := sq1 (sq2 (bodF Try.f17))
noncomputable def c17_2 : Code := sq1 (sq2 (sq2 (bodF Try.f17)))
noncomputable def c17_3 : Code := sq1 (sq2 (sq2 (sq2 (bodF Try.f17))))
noncomputable def c17_4 : Code := sq1 (sq2 (sq2 (sq2 (sq2 (bodF Try.f17)))))
noncomputable def c17_5 : Code := sq1 (sq2 (sq2 (sq2 (sq2 (sq2 (bodF Try.f17))))))
noncomputable def c17_6 : Code := sq1 (sq2 (sq2 (sq2 (sq2 (sq2 (sq2 (bodF Try.f17)))))))
noncomputable def c17_7 : Code := sq1 (sq2 (sq2 (sq2 (sq2 (sq2 (sq2 (sq2 (bodF Try.f17))))))))
noncomputable def c17_8 : Code := sq1 (sq2 (sq2 (sq2 (sq2 (sq2 (sq2 (sq2 (sq2 (bodF Try.f17)))))))))
noncomputable def c17_9 : Code := sq1 (sq2 (sq2 (sq2 (sq2 (sq2 (sq2 (sq2 (sq2 (sq2 (bodF Try.f17))))))))))
noncomputable def c17_10 : Code := (sq2 (sq2 (sq2 (sq2 (sq2 (sq2 (sq2 (sq2 (sq2 (sq2 (bodF Try.f17)))))))))))
theorem code17 : bodF Try.f17 = (.seq c17_0 (.seq c17_1 (.seq c17_2 (.seq c17_3 (.seq c17_4 (.seq c17_5 (.seq c17_6 (.seq c17_7 (.seq c17_8 (.seq c17_9 c17_10)))))))))) := by kernel_rfl
noncomputable def c17_4a : Code := sq1 c17_4
noncomputable def c17_4b : Code := lpC (blkC (sq2 c17_4))
noncomputable def c17_7a : Code := sq1 c17_7
noncomputable def c17_7b : Code := lpC (blkC (sq2 c17_7))
theorem code17_4 : c17_4 = .seq c17_4a (.block 0 (.loop c17_4b)) := by kernel_rfl
theorem code17_7 : c17_7 = .seq c17_7a (.block 2 (.loop c17_7b)) := by kernel_rfl
abbrev L17 : List Nat := [5, 6, 10, 11, 12, 13, 15, 16]
abbrev M17 : List Bool := [true, true, true, true, true]
def v17 (i n j : SV) : List SV := [.ptr 0 0 16 0, .ptr 1 0 5 0, .ptr 2 0 3 0, .ptr 3 0 3 0, .ptr 4 0 3 0, i, n, j]
def h17 (F : Fc) (l m s v f d c mo : Int) (x : D3) : List BO := [.rows 16 1 true 52 [fcL F], .rows 5 1 true 41 [[.int .i64 l, .int .i64 m, .int .i64 s, .int .i64 v, .int .i64 f]], .rows 3 1 true 47 [[.int .i64 0, .int .i64 0, .int .i64 0]], .rows 3 1 true 76 [[.int .i64 d, .int .i64 c, .int .i64 mo]], .rows 3 1 true 47 [rowS3 x]]
def v17a : List SV := [.ptr 0 0 16 0, .ptr 1 0 5 0, .ptr 2 0 3 0, .top, .top, .top, .top, .top]
def h17a (F : Fc) (l m s v f : Int) : List BO := [.rows 16 1 true 52 [fcL F], .rows 5 1 true 41 [[.int .i64 l, .int .i64 m, .int .i64 s, .int .i64 v, .int .i64 f]], .rows 3 1 true 47 [[.int .i64 0, .int .i64 0, .int .i64 0]]]
end Go.Proofs.Ytfoogfhcjnpokaa
