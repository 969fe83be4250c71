/-
  Chapter 18 by the engine: what is due, by name.
-/
import Derived.Test.YtfoogfhcjnpokaaV8
namespace Go.Proofs.Ytfoogfhcjnpokaa
open Go.RowKit
def l16 : Spec := fun args _ _ k => match args with
  | [.agg [.bool k0, .int .i64 a0, .int .i64 b0, .int .i64 n0, .bool k1, .int .i64 a1, .int .i64 b1, .int .i64 n1, .bool k2, .int .i64 a2, .int .i64 b2, .int .i64 n2, .bool cf, .bool lm, .bool pr, .int .i64 now], .agg [.int .i64 l, .int .i64 m, .int .i64 s, .int .i64 v, .int .i64 f], .int .i64 d, .int .i64 c, .int .i64 mo] =>
    ∀ x : D3, x = pickV ⟨k0, a0, b0, n0, k1, a1, b1, n1, k2, a2, b2, n2, cf, lm, pr, now⟩ l m s v f d c mo → k (dueS x) [] []
  | _ => False
def dueC (F : Fc) : D3 := pickV F 100 100 2000000 300000 0 5000000 1 10
def l10 : Spec := fun args _ _ k => match args with
  | [.agg [.bool k0, .int .i64 a0, .int .i64 b0, .int .i64 n0, .bool k1, .int .i64 a1, .int .i64 b1, .int .i64 n1, .bool k2, .int .i64 a2, .int .i64 b2, .int .i64 n2, .bool cf, .bool lm, .bool pr, .int .i64 now]] =>
    ∀ x : D3, x = dueC ⟨k0, a0, b0, n0, k1, a1, b1, n1, k2, a2, b2, n2, cf, lm, pr, now⟩ → k (dueS x) [] []
  | _ => False
def s12 : Spec := fun args _ _ k => match args with
  | [] => k (.bool true) [] []
  | _ => False
/-- A number between: below three it is told by its cases. -/
def b11 : Spec := fun args _ _ k => match args with
  | [.int .i64 i, .int .i64 n] =>
    bif n == 3 then (i % 3 = 0 → k (.int .i64 0) [] []) ∧ (i % 3 = 1 → k (.int .i64 1) [] []) ∧ (i % 3 = 2 → k (.int .i64 2) [] [])
    else bif decide (0 < n) && decide (n ≤ 9223372036854775807) then k (.int .i64 (i % n)) [] [] else False
  | _ => False
def G9 : Gam := addGam (addGam (addGam (addGam (addGam (addGam G1 15 sMay) 19 sMay) 16 l16) 17 l16) 9 l9) 18 s18
noncomputable def C9 : Ctx := ⟨Try.prog, G9, fun t => memN t eqs⟩
def G10 : Gam := addGam G9 10 l10
noncomputable def C10 : Ctx := ⟨Try.prog, G10, fun t => memN t eqs⟩
def G11 : Gam := addGam G10 12 s12
noncomputable def C11 : Ctx := ⟨Try.prog, G11, fun t => memN t eqs⟩
def G12 : Gam := addGam G11 11 b11
noncomputable def C12 : Ctx := ⟨Try.prog, G12, fun t => memN t eqs⟩
end Go.Proofs.Ytfoogfhcjnpokaa
