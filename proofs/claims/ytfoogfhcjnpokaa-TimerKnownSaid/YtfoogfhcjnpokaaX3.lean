/-
  Chapter 18 by the engine: Backed, its parts.
-/
import Derived.Test.YtfoogfhcjnpokaaX2
import Derived.Test.YtfoogfhcjnpokaaE20
namespace Go.Proofs.Ytfoogfhcjnpokaa
open Go.RowKit
noncomputable def sc25 : Code := scC (sq2 (bodF Try.f25))
noncomputable def c25_0 : Code := sq1 (bodF Try.f25)
noncomputable def c25_1 : Code := sq1 sc25
noncomputable def c25_2 : Code := sq1 (sq1 (sq2 (sq2 sc25)))
noncomputable def c25_3 : Code := lpC (blkC (sq2 (sq1 (sq2 (sq2 sc25)))))
noncomputable def c25_4 : Code := sq2 (sq2 (sq2 sc25))
theorem code25 : bodF Try.f25 = .seq c25_0 (.scope (.seq c25_1 (.seq (.label 0) (.seq (.seq c25_2 (.block 0 (.loop c25_3))) c25_4)))) := by kernel_rfl
noncomputable def c45_0 : Code := (sq1 (bodF Try.f45))
noncomputable def c45_1 : Code := (sq1 (sq2 (bodF Try.f45)))
noncomputable def c45_2 : Code := (sq1 (sq1 (sq2 (sq2 (bodF Try.f45)))))
noncomputable def c45_3 : Code := (lpC (blkC (sq2 (sq1 (sq2 (sq2 (bodF Try.f45)))))))
noncomputable def c45_4 : Code := (sq2 (sq2 (sq2 (bodF Try.f45))))
theorem code45 : bodF Try.f45 = (.seq c45_0 (.seq c45_1 (.seq (.seq c45_2 (.block 0 (.loop c45_3))) c45_4))) := by kernel_rfl
abbrev L25 : List Nat := [0, 1, 2, 12, 13]
abbrev L45 : List Nat := [0, 1, 2, 7]
def sBack : Spec := fun args _ _ k => match args with
  | [.int .i64 b, .int .i64 c, .int .i64 m] => k (.int .i64 (backV b c m)) [] []
  | _ => False
end Go.Proofs.Ytfoogfhcjnpokaa
