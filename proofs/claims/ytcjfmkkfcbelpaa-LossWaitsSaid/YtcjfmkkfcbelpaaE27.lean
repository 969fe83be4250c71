/-
  A small engine for walks, part 27: small lemmas.
-/
import Derived.Test.YtcjfmkkfcbelpaaE26
namespace Go.Proofs.Ytcjfmkkfcbelpaa
open Go.RowKit
theorem condSplit {c : Bool} {p q : Prop} (h1 : c = true → p) (h2 : c = false → q) : bif c then p else q := by
  cases c
  · exact h2 rfl
  · exact h1 rfl
theorem bnF {b : Bool} (q : (!b) = true) : b = false := by cases b with
  | true => cases q
  | false => rfl
theorem bnT {b : Bool} (q : (!b) = false) : b = true := by cases b with
  | true => rfl
  | false => cases q
theorem zipW_nil : ∀ l : List Nat, zipW l [] = []
  | [] => rfl
  | _ :: _ => rfl
theorem nob (x : Nat) : hget [] x = none := by cases x <;> rfl
theorem inj0 : ∀ (i j x : Nat), ([] : List Nat)[i]? = some x → ([] : List Nat)[j]? = some x → i = j := fun i j x q => by simp at q
theorem inj_nodup {l : List Nat} (h : l.Nodup) : ∀ (i j x : Nat), l[i]? = some x → l[j]? = some x → i = j := by
  intro i j x e1 e2
  obtain ⟨h1, e1⟩ := List.getElem?_eq_some_iff.1 e1
  obtain ⟨h2, e2⟩ := List.getElem?_eq_some_iff.1 e2
  have hp := List.pairwise_iff_getElem.1 h
  rcases Nat.lt_trichotomy i j with q | q | q
  · exact absurd (e1.trans e2.symm) (hp i j h1 h2 q)
  · exact q
  · exact absurd (e2.trans e1.symm) (hp j i h2 h1 q)
theorem back_fst {ψ : List Nat} {s : Nat} {τ : List Nat} {base : Nat} : back ψ (s :: τ) base base = some s := back_at (ψ := ψ) (τ := s :: τ) (base := base) (j := 0) (by simp)
theorem back_snd {ψ : List Nat} {s t : Nat} {τ : List Nat} {base : Nat} : back ψ (s :: t :: τ) base (base + 1) = some t := back_at (ψ := ψ) (τ := s :: t :: τ) (base := base) (j := 1) (by simp)
theorem back_thd {ψ : List Nat} {s t u : Nat} {τ : List Nat} {base : Nat} : back ψ (s :: t :: u :: τ) base (base + 2) = some u := back_at (ψ := ψ) (τ := s :: t :: u :: τ) (base := base) (j := 2) (by simp)
theorem back_frt {ψ : List Nat} {s t u v : Nat} {τ : List Nat} {base : Nat} : back ψ (s :: t :: u :: v :: τ) base (base + 3) = some v := back_at (ψ := ψ) (τ := s :: t :: u :: v :: τ) (base := base) (j := 3) (by simp)
theorem ren_sl {ρ : Ren} {id i r s n : Nat} (h : ρ id = some i) : ren ρ (.slice id r s n) = some (.slice i r s n) := by simp only [ren, h]
theorem ren_pt {ρ : Ren} {id i r s n : Nat} (h : ρ id = some i) : ren ρ (.ptr id r s n) = some (.ptr i r s n) := by simp only [ren, h]
abbrev ni (n : Nat) : SV := .int .i64 n
/-- A part that may return, with what the blocks say then. -/
def obsX (P : Program) (rs : List ResultVar) (L : List Nat) (M : List Bool) (Kt : KT) (kr : SV → LHeap → Prop) : KC := fun x fr hp => match x with
  | .ret => match resS P fr (hget hp) rs with | some l => kr (packS l) hp | none => False
  | .exit i => obs L M Kt (.exit i) fr hp
  | .normal => obs L M Kt .normal fr hp
theorem CodeOK.lookX {C : Ctx} (hC : EqOK C) (hΓ : GSound C) (hm : C.P.follows .mixedOrders = true) {u m0 len : Nat} {c : Code} {fr : List SV} {hp : LHeap} {rs : List ResultVar} {L : List Nat} {M : List Bool} (hm0 : m0 ≤ M.length) {Q : Ex → List SV → List BO → Prop} {kr : SV → LHeap → Prop} {K : KC}
    (h : evalC C u m0 c fr hp (obsX C.P rs L M (seen len M.length Q) kr)) (hK : ∀ x vals B, Q x vals B → K x (tplF len L vals) (B.map mkB)) (hr : ∀ fr hp, endK C.P rs kr .ret fr hp → K .ret fr hp) : CodeOK C.P m0 c fr hp K := by
  refine (CodeOK.eval hC hΓ hm u h).monoV fun x fr hp h => ?_
  have other : obs L M (seen len M.length Q) x fr hp → KW m0 K x fr hp := fun h => by
    obtain ⟨fr1, hp1, h1, vals, B, rfl, rfl, h2⟩ := obs_kw hm0 x fr hp h
    exact ⟨_, _, h1, hK x vals B h2⟩
  cases x with
  | ret => exact .inl (hr fr hp h)
  | exit i => exact .inr (other h)
  | normal => exact .inr (other h)
theorem endK_no {P : Program} {rs : List ResultVar} {fr : List SV} {hp : LHeap} (h : endK P rs (fun _ _ => False) .ret fr hp) : False := endK_no' h
end Go.Proofs.Ytcjfmkkfcbelpaa
