/-
  A small engine for walks, part 25: a state that is reached, said at once.
-/
import Derived.Test.YtcjfmkkfcbelpaaE24
namespace Go.Proofs.Ytcjfmkkfcbelpaa
open Go.RowKit

def atS (e : Ex) (vals : List SV) (B : List BO) : Ex → List SV → List BO → Prop := fun x vs Bs => x = e ∧ vs = vals ∧ Bs = B
theorem CodeOK.at {C : Ctx} (hC : EqOK C) (hΓ : GSound C) (hm : C.P.follows .mixedOrders = true) {u m0 len : Nat} {L : List Nat} {M : List Bool} {vals : List SV} {B : List BO} (hm0 : m0 ≤ M.length) (e : Ex) {c : Code} {fr : List SV} {hp : LHeap}
    (hh : evalC C u m0 c fr hp (obsN L M (seen len M.length (atS e vals B)))) {K : KC} (hK : K e (tplF len L vals) (B.map mkB)) : CodeOK C.P m0 c fr hp K :=
  (CodeOK.lookN (C := C) hC hΓ hm (u := u) hm0 hh).st fun x vs Bs hh => by
    obtain ⟨rfl, rfl, rfl⟩ := hh
    exact hK
theorem endK_no' {P : Program} {rs : List ResultVar} {fr : List SV} {hp : LHeap} (h : endK P rs (fun _ _ => False) .ret fr hp) : False := by
  simp only [endK] at h
  split at h
  · exact h
  · exact h
theorem CodeOK.atE {C : Ctx} (hC : EqOK C) (hΓ : GSound C) (hm : C.P.follows .mixedOrders = true) {u m0 len : Nat} {rs : List ResultVar} {L : List Nat} {M : List Bool} {vals : List SV} {B : List BO} (hm0 : m0 ≤ M.length) (e : Ex) {c : Code} {fr : List SV} {hp : LHeap}
    (hh : evalC C u m0 c fr hp (obsE C.P rs L M (seen len M.length (atS e vals B)) (fun _ => False))) {K : KC} (hK : K e (tplF len L vals) (B.map mkB)) : CodeOK C.P m0 c fr hp K :=
  CodeOK.lookE (C := C) hC hΓ hm (u := u) hm0 hh (fun x vs Bs hh => by
    obtain ⟨rfl, rfl, rfl⟩ := hh
    exact hK) fun fr hp h => (endK_no' h).elim
theorem condT' {c : Bool} {p q : Prop} (h : c = true) (hp : p) : bif c then p else q := by rw [h]; exact hp
theorem condF' {c : Bool} {p q : Prop} (h : c = false) (hq : q) : bif c then p else q := by rw [h]; exact hq
end Go.Proofs.Ytcjfmkkfcbelpaa
