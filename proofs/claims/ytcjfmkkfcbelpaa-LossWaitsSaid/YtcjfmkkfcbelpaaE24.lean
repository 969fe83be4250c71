/-
  A small engine for walks, part 24: parts one behind the other, that may return.
-/
import Derived.Test.YtcjfmkkfcbelpaaE23
namespace Go.Proofs.Ytcjfmkkfcbelpaa
open Go.RowKit

theorem CodeOK.partsE' {C : Ctx} (hC : EqOK C) (hΓ : GSound C) (hm : C.P.follows .mixedOrders = true) {u m0 : Nat} {X : Code} {K K0 : KC} (hK : ∀ x fr hp, x ≠ .ret → K0 x fr hp → KW m0 (thenK K fun fr hp => CodeOK C.P m0 X fr hp K) x fr hp) (hr : ∀ fr hp, K0 .ret fr hp → K .ret fr hp) :
    ∀ (l : List Code) {fr : List SV} {hp : LHeap}, evalC C u m0 (l.foldr .seq .skip) fr hp K0 → CodeOK C.P m0 (l.foldr .seq X) fr hp (fun x fr hp => K x fr hp ∨ KW m0 K x fr hp)
  | [], fr, hp, h => by
    simp only [List.foldr, evalC] at h ⊢
    obtain ⟨fr1, hp1, h1, h2⟩ := hK _ _ _ (by simp) h
    exact (CodeOK.pre h1 h2).mono fun x fr hp h => .inl h
  | a :: l, fr, hp, h => by
    simp only [List.foldr, evalC] at h ⊢
    refine CodeOK.seq ((CodeOK.eval hC hΓ hm u h).mono fun x fr hp h => ?_)
    cases x with
    | exit i => exact .inr (hK _ _ _ (by simp) h)
    | ret => exact .inl (hr _ _ h)
    | normal => exact CodeOK.partsE' hC hΓ hm hK hr l h
theorem CodeOK.frontE {C : Ctx} (hC : EqOK C) (hΓ : GSound C) (hm : C.P.follows .mixedOrders = true) {u m0 len : Nat} {X : Code} {K : KC} (l : List Code) {fr : List SV} {hp : LHeap} {rs : List ResultVar} {L : List Nat} {M : List Bool} (hm0 : m0 ≤ M.length) {Q : Ex → List SV → List BO → Prop} {kr : SV → Prop}
    (h : evalC C u m0 (l.foldr .seq .skip) fr hp (obsE C.P rs L M (seen len M.length Q) kr)) (hK : ∀ x vals B, Q x vals B → thenK K (fun fr hp => CodeOK C.P m0 X fr hp K) x (tplF len L vals) (B.map mkB)) (hr : ∀ fr hp, endK C.P rs (fun v _ => kr v) .ret fr hp → K .ret fr hp) : CodeOK C.P m0 (l.foldr .seq X) fr hp K := by
  refine (CodeOK.partsE' hC hΓ hm (K := K) (K0 := obsE C.P rs L M (seen len M.length Q) kr) (fun x fr hp hx hs => ?_) (fun fr hp hs => hr fr hp hs) l h).monoV fun _ _ _ h => h
  have other : obs L M (seen len M.length Q) x fr hp → KW m0 (thenK K fun fr hp => CodeOK C.P m0 X fr hp K) x fr hp := fun h => by
    obtain ⟨fr1, hp1, h1, vals, B, rfl, rfl, h2⟩ := obs_kw hm0 x fr hp h
    exact ⟨_, _, h1, hK x vals B h2⟩
  cases x with
  | ret => exact absurd rfl hx
  | exit i => exact other hs
  | normal => exact other hs
end Go.Proofs.Ytcjfmkkfcbelpaa
