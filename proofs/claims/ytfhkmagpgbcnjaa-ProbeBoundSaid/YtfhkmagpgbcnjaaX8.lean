/-
  Chapter 19 by the engine: a number between, case by case; what is done with a row.
-/
import Derived.Test.YtfhkmagpgbcnjaaX6
namespace Go.Proofs.Ytfhkmagpgbcnjaa
open Go.RowKit
/-- A number between: below four it is told by its cases. -/
def b23 : Spec := fun args _ _ k => match args with
  | [.int .i64 i, .int .i64 n] =>
    bif n == 3 then (i % 3 = 0 → k (.int .i64 0) [] []) ∧ (i % 3 = 1 → k (.int .i64 1) [] []) ∧ (i % 3 = 2 → k (.int .i64 2) [] [])
    else bif n == 4 then (i % 4 = 0 → k (.int .i64 0) [] []) ∧ (i % 4 = 1 → k (.int .i64 1) [] []) ∧ (i % 4 = 2 → k (.int .i64 2) [] []) ∧ (i % 4 = 3 → k (.int .i64 3) [] [])
    else bif n == 27 then ∀ r : Int, (0 ≤ r ∧ r < 27 ∧ r = i % 27) → k (.int .i64 r) [] []
    else False
  | _ => False
def f23 : Spec := fun args _ _ k => match args with
  | [.int .i64 i, .int .i64 n] =>
    bif n == 27 then
      (i % 27 = 0 → k (.int .i64 0) [] []) ∧
      (i % 27 = 1 → k (.int .i64 1) [] []) ∧
      (i % 27 = 2 → k (.int .i64 2) [] []) ∧
      (i % 27 = 3 → k (.int .i64 3) [] []) ∧
      (i % 27 = 4 → k (.int .i64 4) [] []) ∧
      (i % 27 = 5 → k (.int .i64 5) [] []) ∧
      (i % 27 = 6 → k (.int .i64 6) [] []) ∧
      (i % 27 = 7 → k (.int .i64 7) [] []) ∧
      (i % 27 = 8 → k (.int .i64 8) [] []) ∧
      (i % 27 = 9 → k (.int .i64 9) [] []) ∧
      (i % 27 = 10 → k (.int .i64 10) [] []) ∧
      (i % 27 = 11 → k (.int .i64 11) [] []) ∧
      (i % 27 = 12 → k (.int .i64 12) [] []) ∧
      (i % 27 = 13 → k (.int .i64 13) [] []) ∧
      (i % 27 = 14 → k (.int .i64 14) [] []) ∧
      (i % 27 = 15 → k (.int .i64 15) [] []) ∧
      (i % 27 = 16 → k (.int .i64 16) [] []) ∧
      (i % 27 = 17 → k (.int .i64 17) [] []) ∧
      (i % 27 = 18 → k (.int .i64 18) [] []) ∧
      (i % 27 = 19 → k (.int .i64 19) [] []) ∧
      (i % 27 = 20 → k (.int .i64 20) [] []) ∧
      (i % 27 = 21 → k (.int .i64 21) [] []) ∧
      (i % 27 = 22 → k (.int .i64 22) [] []) ∧
      (i % 27 = 23 → k (.int .i64 23) [] []) ∧
      (i % 27 = 24 → k (.int .i64 24) [] []) ∧
      (i % 27 = 25 → k (.int .i64 25) [] []) ∧
      (i % 27 = 26 → k (.int .i64 26) [] [])
    else False
  | _ => False
def G8 : Gam := addGam (addGam (addGam (addGam (addGam (addGam (addGam (addGam (addGam (addGam (addGam (addGam (addGam (addGam (addGam noGam 16 s16) 17 s16) 18 s18) 19 s18) 20 s20) 21 s20) 9 l9) 10 l9) 12 l12) 13 l12) 14 l14) 15 l14) 11 s11) 23 b23) 22 s22
noncomputable def C8 : Ctx := ⟨Try.prog, G8, fun t => memN t eqs⟩
noncomputable def C9 : Ctx := ⟨Try.prog, addGam (addGam G5 22 s22) 23 f23, fun t => memN t eqs⟩
/-- What a deed answers: its space, its kind. -/
def gE (a b c sp kd : Int) : Int := if kd = 2 then kE a b c sp else 0
def gV (a b c sp kd : Int) : Int := if kd < 2 then mx (at3 a b c sp) (1 + kd) else if kd = 2 then at3 a b c sp - 1 else 0
def d24 : Spec := fun args _ _ k => match args with
  | [.agg [.int .i64 a, .int .i64 b, .int .i64 c], .agg [.int .i64 kind, .int .i64 space]] =>
    ok3 a b c = true ∧ ∀ x y z e : Int, AnsP (gE a b c (space % 3) (kind % 4)) (space % 3) (gV a b c (space % 3) (kind % 4)) a b c x y z e → k (.tuple [.agg [.int .i64 x, .int .i64 y, .int .i64 z], .int .i64 e]) [] []
  | _ => False
noncomputable def C10 : Ctx := ⟨Try.prog, addGam G7 24 d24, fun t => memN t eqs⟩
noncomputable def C11 : Ctx := ⟨Try.prog, addGam G8 24 d24, fun t => memN t eqs⟩
end Go.Proofs.Ytfhkmagpgbcnjaa
