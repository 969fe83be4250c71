/-
  Chapter 12 by the engine: the contracts of the functions with loops over rows.
-/
import Derived.Test.YthiencdknndagaaT2
import Derived.Test.YthiencdknndagaaV1
namespace Go.Proofs.Ythiencdknndagaa
open Go.RowKit

theorem i64_nat (i : Nat) (h : i ≤ 1000000) : IntKind.i64.wrap ((i : Int) + 1) = ((i + 1 : Nat) : Int) := by
  rw [wrap_id (by omega) (by omega)]; omega
theorem all_snoc (g : Nat → Int) (i : Nat) : ((List.range (i + 1)).map g).all isN = (((List.range i).map g).all isN && isN (g i)) := by
  rw [List.range_succ, List.map_append, List.all_append]; simp
theorem all_stop (g : Nat → Int) {i n : Nat} (h : i < n) (h2 : isN (g i) = false) : ((List.range n).map g).all isN = false := by
  rw [List.all_eq_false]
  exact ⟨g i, by simp; exact ⟨i, h, rfl⟩, by simp [h2]⟩
theorem any_snoc (g : Nat → Bool) (i : Nat) : ((List.range (i + 1)).map g).any id = (((List.range i).map g).any id || g i) := by
  rw [List.range_succ, List.map_append, List.any_append]; simp
theorem any_stop (g : Nat → Bool) {i n : Nat} (h : i < n) (h2 : g i = true) : ((List.range n).map g).any id = true := by
  rw [List.any_eq_true]
  exact ⟨g i, by simp; exact ⟨i, h, rfl⟩, by simp [h2]⟩
theorem hp18_ids {n : Nat} {G : Nat → Int} {m : Nat} : ∀ id b, hget (hp18 n G) id = some b → ∀ r, r < b.n → ltAll m (svIdsL (b.rd r)) = true := by
  intro id b hb r _
  cases id with
  | zero => simp [hp18, hget] at hb; subst hb; rfl
  | succ id => simp [hp18, hget] at hb
theorem hp24_ids {n : Nat} {G : Nat → Bool} {m : Nat} : ∀ id b, hget (hp24 n G) id = some b → ∀ r, r < b.n → ltAll m (svIdsL (b.rd r)) = true := by
  intro id b hb r _
  cases id with
  | zero => simp [hp24, hget] at hb; subst hb; rfl
  | succ id => simp [hp24, hget] at hb

theorem canon18 (n : Nat) (g : Nat → Int) (hn : n ≤ 1000000) : Canon Try.prog 18 [.slice 0 0 1 n] (hp18 n g) fun v _ => v = .bool (((List.range n).map g).all isN) := by
  refine evalF_ok (C := C0) ec g0 mixed (u := 0) Try.func18 (by kernel_rfl) ?_
  unfold evalF evalB
  rw [code18]
  simp only [evalC]
  refine (p18_0 n g _).mpr ?_
  dsimp only
  refine (p18_1 n g _).mpr ?_
  dsimp only
  refine ⟨n + 1, loopP_rule (fun m fr hp => ∃ i, i + m = n ∧ fr = fr18 n i ∧ hp = hp18 n g ∧ ((List.range i).map g).all isN = true) ?_ (n + 1) n _ _ (fr18 n 0) (hp18 n g) (by omega) (Weak.keep (m := 1) rfl (Nat.le_refl _) (Nat.le_refl _) (by simp [fr18, TopW, svIds, ltAll, List.replicate]) hp18_ids) ⟨0, by omega, rfl, rfl, rfl⟩⟩
  rintro m fr hp K ⟨i, him, rfl, rfl, hall⟩ hN hE hR
  refine (p18_2 n i g K).mpr ?_
  by_cases hlt : i < n
  · have e1 : decide ((↑i : Int) < (↑n : Int)) = true := by simpa using hlt
    have e2 : decide ((0 : Int) ≤ (↑i : Int)) = true := by simp
    have e3 : decide ((0 : Nat) + (↑i : Int).toNat < n) = true := by simpa using hlt
    have e4 : (0 : Nat) + (↑i : Int).toNat = i := by simp
    rw [e1, e2, e3, e4]
    simp only [Bool.and_self, cond_true]
    cases h1 : decide (g i < 0) with
    | true =>
      rw [cond_true]
      refine hR _ _ ?_
      have hx : isN (g i) = false := isN_false (.inl (by simpa using h1))
      show SV.bool false = _
      rw [all_stop g hlt hx]
    | false =>
      rw [cond_false]
      cases h2 : decide (9007199254740991 < g i) with
      | true =>
        rw [cond_true]
        refine hR _ _ ?_
        have hx : isN (g i) = false := isN_false (.inr (by simpa using h2))
        show SV.bool false = _
        rw [all_stop g hlt hx]
      | false =>
        rw [cond_false]
        have hx : isN (g i) = true := isN_true (by simpa using h1) (by simpa using h2)
        refine hN (m - 1) _ _ (fr18 n (i + 1)) (hp18 n g) (by omega) (Weak.keep (m := 1) rfl (Nat.le_refl _) (Nat.le_refl _) ?_ hp18_ids) ⟨i + 1, by omega, rfl, rfl, by rw [all_snoc, hall, hx]; rfl⟩
        rw [i64_nat i (by omega)]
        simp [fr18, TopW, svIds, ltAll, List.replicate]
  · have e1 : decide ((↑i : Int) < (↑n : Int)) = false := by simpa using hlt
    rw [e1, cond_false]
    refine hE 0 _ _ ?_
    obtain rfl : i = n := by omega
    show SV.bool true = _
    rw [hall]
theorem canon24 (n : Nat) (g : Nat → Bool) (hn : n ≤ 1000000) : Canon Try.prog 24 [.slice 0 0 1 n] (hp24 n g) fun v _ => v = .bool (((List.range n).map g).any id) := by
  refine evalF_ok (C := C0) ec g0 mixed (u := 0) Try.func24 (by kernel_rfl) ?_
  unfold evalF evalB
  rw [code24]
  simp only [evalC]
  refine (p24_0 n g _).mpr ?_
  dsimp only
  refine (p24_1 n g _).mpr ?_
  dsimp only
  refine ⟨n + 1, loopP_rule (fun m fr hp => ∃ i, i + m = n ∧ fr = fr24 n i ∧ hp = hp24 n g ∧ ((List.range i).map g).any id = false) ?_ (n + 1) n _ _ (fr24 n 0) (hp24 n g) (by omega) (Weak.keep (m := 1) rfl (Nat.le_refl _) (Nat.le_refl _) (by simp [fr24, TopW, svIds, ltAll, List.replicate]) hp24_ids) ⟨0, by omega, rfl, rfl, rfl⟩⟩
  rintro m fr hp K ⟨i, him, rfl, rfl, hall⟩ hN hE hR
  refine (p24_2 n i g K).mpr ?_
  by_cases hlt : i < n
  · have e1 : decide ((↑i : Int) < (↑n : Int)) = true := by simpa using hlt
    have e2 : decide ((0 : Int) ≤ (↑i : Int)) = true := by simp
    have e3 : decide ((0 : Nat) + (↑i : Int).toNat < n) = true := by simpa using hlt
    have e4 : (0 : Nat) + (↑i : Int).toNat = i := by simp
    rw [e1, e2, e3, e4]
    simp only [Bool.and_self, cond_true]
    cases h1 : g i with
    | true =>
      rw [cond_true]
      refine hR _ _ ?_
      show SV.bool true = _
      rw [any_stop g hlt h1]
    | false =>
      rw [cond_false]
      refine hN (m - 1) _ _ (fr24 n (i + 1)) (hp24 n g) (by omega) (Weak.keep (m := 1) rfl (Nat.le_refl _) (Nat.le_refl _) ?_ hp24_ids) ⟨i + 1, by omega, rfl, rfl, by rw [any_snoc, hall, h1]; rfl⟩
      rw [i64_nat i (by omega)]
      simp [fr24, TopW, svIds, ltAll, List.replicate]
  · have e1 : decide ((↑i : Int) < (↑n : Int)) = false := by simpa using hlt
    rw [e1, cond_false]
    refine hE 0 _ _ ?_
    obtain rfl : i = n := by omega
    show SV.bool false = _
    rw [hall]

/-! ### What callers are given -/
theorem intsOf_ok (f : Nat → List SV) : ∀ (n i : Nat) (l : List Int), intsOf f i n = some l → l.length = n ∧ ∀ j, j < n → f (i + j) = [.int .i64 (l.getD j 0)]
  | 0, i, l, h => by simp only [intsOf, Option.some.injEq] at h; subst h; exact ⟨rfl, fun j hj => by omega⟩
  | n + 1, i, l, h => by
    simp only [intsOf] at h
    split at h
    · rename_i x l' hx hl
      simp only [Option.some.injEq] at h
      subst h
      obtain ⟨h1, h2⟩ := intsOf_ok f n (i + 1) l' hl
      refine ⟨by simp [h1], fun j hj => ?_⟩
      cases j with
      | zero => simpa using hx
      | succ j => have := h2 j (by omega); rw [show i + (j + 1) = i + 1 + j by omega]; simpa using this
    · cases h
theorem boolsOf_ok (f : Nat → List SV) : ∀ (n i : Nat) (l : List Bool), boolsOf f i n = some l → l.length = n ∧ ∀ j, j < n → f (i + j) = [.bool (l.getD j false)]
  | 0, i, l, h => by simp only [boolsOf, Option.some.injEq] at h; subst h; exact ⟨rfl, fun j hj => by omega⟩
  | n + 1, i, l, h => by
    simp only [boolsOf] at h
    split at h
    · rename_i x l' hx hl
      simp only [Option.some.injEq] at h
      subst h
      obtain ⟨h1, h2⟩ := boolsOf_ok f n (i + 1) l' hl
      refine ⟨by simp [h1], fun j hj => ?_⟩
      cases j with
      | zero => simpa using hx
      | succ j => have := h2 j (by omega); rw [show i + (j + 1) = i + 1 + j by omega]; simpa using this
    · cases h
theorem areN_all : ∀ l : List Int, areN l = l.all isN
  | [] => rfl
  | x :: l => by simp [areN, areN_all l]
theorem anyB_any : ∀ l : List Bool, anyB l = l.any id
  | [] => rfl
  | x :: l => by simp [anyB, anyB_any l]
theorem range_getD {α : Type} (l : List α) (d : α) : (List.range l.length).map (fun i => l.getD i d) = l := by
  apply List.ext_getElem?
  intro i
  by_cases h : i < l.length
  · simp [h, List.getD]
  · simp [h]
end Go.Proofs.Ythiencdknndagaa
