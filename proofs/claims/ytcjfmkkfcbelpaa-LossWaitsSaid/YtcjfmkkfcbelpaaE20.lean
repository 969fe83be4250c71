/-
  A small engine for walks, part 20: scopes without jumps.
-/
import Derived.Test.YtcjfmkkfcbelpaaE19
import Derived.Scope
namespace Go.Proofs.Ytcjfmkkfcbelpaa
open Go.RowKit
theorem CodeOK.scope {P : Program} {m0 : Nat} {c : Code} {fr : List SV} {hp : LHeap} {K : KC} (h : CodeOK P m0 c fr hp K) : CodeOK P m0 (.scope c) fr hp K := by
  intro g φ a w hg hr
  refine wp_scope_straight (wp_mono (h g φ a w hg hr) fun e a' w' he => ?_)
  cases e <;> first | exact he | exact (show False from he)
theorem CodeOK.label {P : Program} {m0 l : Nat} {fr : List SV} {hp : LHeap} {K : KC} (h : K .normal fr hp) : CodeOK P m0 (.label l) fr hp K := by
  intro g φ a w hg hr
  exact wp_label ⟨φ, fr, hp, h, hr⟩
/-- A part that may return. -/
def obsE (P : Program) (rs : List ResultVar) (L : List Nat) (M : List Bool) (Kt : KT) (kr : SV → Prop) : KC := fun x fr hp => match x with
  | .ret => match resS P fr (hget hp) rs with | some l => kr (packS l) | none => False
  | .exit i => obs L M Kt (.exit i) fr hp
  | .normal => obs L M Kt .normal fr hp
theorem CodeOK.lookE {C : Ctx} (hC : EqOK C) (hΓ : GSound C) (hm : C.P.follows .mixedOrders = true) {u m0 len : Nat} {c : Code} {fr : List SV} {hp : LHeap} {rs : List ResultVar} {L : List Nat} {M : List Bool} (hm0 : m0 ≤ M.length) {Q : Ex → List SV → List BO → Prop} {kr : SV → Prop} {K : KC}
    (h : evalC C u m0 c fr hp (obsE C.P rs L M (seen len M.length Q) kr)) (hK : ∀ x vals B, Q x vals B → K x (tplF len L vals) (B.map mkB)) (hr : ∀ fr hp, endK C.P rs (fun v _ => kr v) .ret fr hp → K .ret fr hp) : CodeOK C.P m0 c fr hp K := by
  refine (CodeOK.eval hC hΓ hm u h).monoV fun x fr hp h => ?_
  have other : obs L M (seen len M.length Q) x fr hp → KW m0 K x fr hp := fun h => by
    obtain ⟨fr1, hp1, h1, vals, B, rfl, rfl, h2⟩ := obs_kw hm0 x fr hp h
    exact ⟨_, _, h1, hK x vals B h2⟩
  cases x with
  | ret => exact .inl (hr fr hp h)
  | exit i => exact .inr (other h)
  | normal => exact .inr (other h)
def scC : Code → Code | .scope c => c | c => c
end Go.Proofs.Ytcjfmkkfcbelpaa
