/-
  Chapter 7 by the engine: results by name, parts of code, states.
-/
import Derived.Test.YtepmbiahnicooaaX2
namespace Go.Proofs.Ytepmbiahnicooaa
open Go.RowKit
structure SmpP (l m s v f x d n l' m' s' v' f' e : Int) : Prop where
  hl : l' = zi (smE l m s v f x d n) x
  hm : m' = zi (smE l m s v f x d n) (smM m f x)
  hs : s' = zi (smE l m s v f x d n) (smS m s f x d)
  hv : v' = zi (smE l m s v f x d n) (smV m s v f x d)
  hf : f' = zi (smE l m s v f x d n) (smF f n)
  he : e = smE l m s v f x d n
def l16 : Spec := fun args _ _ k => match args with
  | [.agg [.int .i64 l, .int .i64 m, .int .i64 s, .int .i64 v, .int .i64 f], .int .i64 x, .int .i64 d, .int .i64 n] =>
    ∀ l' m' s' v' f' e : Int, SmpP l m s v f x d n l' m' s' v' f' e → k (.tuple [rtt l' m' s' v' f', .int .i64 e]) [] []
  | _ => False
structure BrP (i n r : Int) : Prop where
  lo : 0 ≤ r
  hi : r < n
  eq : r = i % n
def l18 : Spec := fun args _ _ k => match args with
  | [.int .i64 i, .int .i64 n] => bif decide (0 < n) && decide (n ≤ 9223372036854775807) then ∀ r : Int, BrP i n r → k (.int .i64 r) [] [] else False
  | _ => False
/-- Rows of three numbers. -/
def bT (n : Nat) (g : Nat → Nat → Int) : Blk := ⟨3, n, fun r => [.int .i64 (g r 0), .int .i64 (g r 1), .int .i64 (g r 2)], false, 0⟩
def G5 : Gam := addGam (addGam (addGam (addGam (addGam (addGam noGam 14 s14) 15 s14) 16 l16) 17 l16) 18 l18) 13 s13
noncomputable def C5 : Ctx := ⟨Try.prog, G5, fun t => memN t eqs⟩
noncomputable def c4_0 : Code := (sq1 (bodF Try.f4))
noncomputable def c4_1 : Code := (sq1 (sq2 (bodF Try.f4)))
noncomputable def c4_2 : Code := (sq1 (sq2 (sq2 (bodF Try.f4))))
noncomputable def c4_3 : Code := (sq1 (sq2 (sq2 (sq2 (bodF Try.f4)))))
noncomputable def c4_4 : Code := (sq1 (sq1 (sq2 (sq2 (sq2 (sq2 (bodF Try.f4)))))))
noncomputable def c4_5 : Code := (lpC (blkC (sq2 (sq1 (sq2 (sq2 (sq2 (sq2 (bodF Try.f4)))))))))
noncomputable def c4_6 : Code := (sq2 (sq2 (sq2 (sq2 (sq2 (bodF Try.f4))))))
theorem code4 : bodF Try.f4 = (.seq c4_0 (.seq c4_1 (.seq c4_2 (.seq c4_3 (.seq (.seq c4_4 (.block 0 (.loop c4_5))) c4_6))))) := by kernel_rfl
noncomputable def c5_0 : Code := (sq1 (bodF Try.f5))
noncomputable def c5_1 : Code := (sq1 (sq2 (bodF Try.f5)))
noncomputable def c5_2 : Code := (sq1 (sq2 (sq2 (bodF Try.f5))))
noncomputable def c5_3 : Code := (sq1 (sq2 (sq2 (sq2 (bodF Try.f5)))))
noncomputable def c5_4 : Code := (sq1 (sq1 (sq2 (sq2 (sq2 (sq2 (bodF Try.f5)))))))
noncomputable def c5_5 : Code := (lpC (blkC (sq2 (sq1 (sq2 (sq2 (sq2 (sq2 (bodF Try.f5)))))))))
noncomputable def c5_6 : Code := (sq2 (sq2 (sq2 (sq2 (sq2 (bodF Try.f5))))))
theorem code5 : bodF Try.f5 = (.seq c5_0 (.seq c5_1 (.seq c5_2 (.seq c5_3 (.seq (.seq c5_4 (.block 0 (.loop c5_5))) c5_6))))) := by kernel_rfl
noncomputable def c19_0 : Code := (sq1 (bodF Try.f19))
noncomputable def c19_1 : Code := (sq1 (sq2 (bodF Try.f19)))
noncomputable def c19_2 : Code := (sq1 (sq1 (sq2 (sq2 (bodF Try.f19)))))
noncomputable def c19_3 : Code := (lpC (blkC (sq2 (sq1 (sq2 (sq2 (bodF Try.f19)))))))
noncomputable def c19_4 : Code := (sq2 (sq2 (sq2 (bodF Try.f19))))
theorem code19 : bodF Try.f19 = (.seq c19_0 (.seq c19_1 (.seq (.seq c19_2 (.block 0 (.loop c19_3))) c19_4))) := by kernel_rfl
noncomputable def c20_0 : Code := (sq1 (bodF Try.f20))
noncomputable def c20_1 : Code := (sq1 (sq2 (bodF Try.f20)))
noncomputable def c20_2 : Code := (sq1 (sq1 (sq2 (sq2 (bodF Try.f20)))))
noncomputable def c20_3 : Code := (lpC (blkC (sq2 (sq1 (sq2 (sq2 (bodF Try.f20)))))))
noncomputable def c20_4 : Code := (sq2 (sq2 (sq2 (bodF Try.f20))))
theorem code20 : bodF Try.f20 = (.seq c20_0 (.seq c20_1 (.seq (.seq c20_2 (.block 0 (.loop c20_3))) c20_4))) := by kernel_rfl
def ob (l m s v f : Int) : BO := .rows 5 1 true 27 [[.int .i64 l, .int .i64 m, .int .i64 s, .int .i64 v, .int .i64 f]]
abbrev L19 : List Nat := [0, 2, 4, 5, 6]
def v19 (n : Nat) (i : SV) : List SV := [.slice 0 0 3 n, .ptr 1 0 5 0, .ptr 2 0 5 0, .int .i64 0, i]
def h19 (n : Nat) (g : Nat → Nat → Int) (l m s v f : Int) : List BO := [.raw (some (bT n g)), ob 0 0 0 0 0, ob l m s v f]
abbrev L4 : List Nat := [1, 4, 5, 7, 8, 9]
def v4 (n : Nat) (e : Int) (i : SV) : List SV := [.slice 0 0 3 n, .bool false, .ptr 1 0 5 0, .ptr 2 0 5 0, .int .i64 e, i]
def h4 (n : Nat) (g : Nat → Nat → Int) (l m s v f : Int) : List BO := [.raw (some (bT n g)), ob l m s v f, ob l m s v f]
end Go.Proofs.Ytepmbiahnicooaa
