/-
  Chapter 9 by the engine: what is lost: loss.Find.
-/
import Derived.Test.YtcjfmkkfcbelpaaV7
namespace Go.Proofs.Ytcjfmkkfcbelpaa
open Go.RowKit
set_option linter.unusedVariables false
theorem endK_mono {P : Program} {rs : List ResultVar} {k k' : KV} (h : ∀ v hp, k v hp → k' v hp) : ∀ x fr hp, endK P rs k x fr hp → endK P rs k' x fr hp := by
  intro x fr hp hk
  cases x with
  | exit i => exact hk
  | normal =>
    simp only [endK] at hk ⊢
    split at hk
    · exact h _ _ hk
    · exact hk
  | ret =>
    simp only [endK] at hk ⊢
    split at hk
    · exact h _ _ hk
    · exact hk
def noList (e : Int) : SV := .tuple [.nilSlice, .nilSlice, .int .i64 0, .int .i64 e]
/-- What is answered at once, where anything is. -/
def Early (n : Nat) (P : Nat → Pk) (g t l m s v f : Int) (K : Prop) (a : SV) : Prop :=
  bif chkP P n != 0 then a = noList 2 else bif decide (g < -1) then a = noList 9 else bif decide (9007199254740991 < g) then a = noList 9 else bif !isT t then a = noList 9 else bif chkE l m s v f != 0 then a = noList (chkE l m s v f) else K
/-- Nothing is answered at once. -/
structure Late (n : Nat) (P : Nat → Pk) (g t l m s v f : Int) : Prop where
  c1 : (chkP P n != 0) = false
  c2 : decide (g < -1) = false
  c3 : decide (9007199254740991 < g) = false
  c4 : (!isT t) = false
  c5 : (chkE l m s v f != 0) = false
theorem Early.mono {n : Nat} {P : Nat → Pk} {g t l m s v f : Int} {K K' : Prop} {a : SV} (h : Early n P g t l m s v f K a) (hK : K → K') : Early n P g t l m s v f K' a := by
  unfold Early at h ⊢
  cases h1 : chkP P n != 0 with
  | true => rw [h1] at h; exact h
  | false =>
  rw [h1] at h
  cases h2 : decide (g < -1) with
  | true => rw [h2] at h; exact h
  | false =>
  rw [h2] at h
  cases h3 : decide (9007199254740991 < g) with
  | true => rw [h3] at h; exact h
  | false =>
  rw [h3] at h
  cases h4 : !isT t with
  | true => rw [h4] at h; exact h
  | false =>
  rw [h4] at h
  cases h5 : chkE l m s v f != 0 with
  | true => rw [h5] at h; exact h
  | false => rw [h5] at h; exact hK h
theorem Late.early {n : Nat} {P : Nat → Pk} {g t l m s v f : Int} (L : Late n P g t l m s v f) {K : Prop} {a : SV} (h : K) : Early n P g t l m s v f K a := by
  unfold Early
  rw [L.c1, L.c2, L.c3, L.c4, L.c5]
  exact h
section
attribute [local irreducible] evalC
set_option maxRecDepth 100000
theorem canon11 (n : Nat) (P : Nat → Pk) (g t l m s v f : Int) (hn : n ≤ 100000) : Canon Try.prog 11 [.slice 0 0 6 n, .int .i64 g, .int .i64 t, .agg [.int .i64 l, .int .i64 m, .int .i64 s, .int .i64 v, .int .i64 f]] [some (bP n P)] fun a hp => Early n P g t l m s v f (Told n P g t (waitV l m s v f) a (hget hp 7) (hget hp 8)) a := by
  refine CodeOK.body Try.func11 (by kernel_rfl) ?_
  rw [code11]
  refine CodeOK.frontE (C := C9) ec gs9 mixed (u := 64) (len := 89) (rs := Try.f11.results.toList) (L := L11) (M := M11a) [c11_0, c11_1, c11_2, c11_3] (show 1 ≤ 7 by decide) (Q := fun x vals B => x = .normal ∧ Late n P g t l m s v f ∧ vals = v11 n .nilSlice .nilSlice (-1) .top .top ∧ B = [.raw (some (bP n P)), .rows 5 1 true 25 [[.int .i64 l, .int .i64 m, .int .i64 s, .int .i64 v, .int .i64 f]], cO g, cO t, cO (waitV l m s v f), dueO, .rows 3 1 true 56 [rulC 2 5 3]]) (kr := fun a => Early n P g t l m s v f False a) ?_ ?_ fun fr hp h => endK_mono (fun a hp h => h.mono False.elim) _ _ _ h
  · show evalC C9 64 1 _ (enterS 89 _) _ (obsE Try.prog Try.f11.results.toList L11 M11a _ _)
    simp only [List.foldr]
    rw [p11a n P g t l m s v f]
    refine ⟨isP_bP P hn, condSplit (fun q1 => ?_) fun q1 => condSplit (fun q2 => ?_) fun q2 => condSplit (fun q3 => ?_) fun q3 => condSplit (fun q4 => ?_) fun q4 => condSplit (fun q5 => ?_) fun q5 => ?_⟩
    · have q1 : (chkP P n != 0) = true := q1
      show Early _ _ _ _ _ _ _ _ _ _ _
      unfold Early
      rw [q1]
      rfl
    · have q1 : (chkP P n != 0) = false := q1
      show Early _ _ _ _ _ _ _ _ _ _ _
      unfold Early
      rw [q1, q2]
      rfl
    · have q1 : (chkP P n != 0) = false := q1
      show Early _ _ _ _ _ _ _ _ _ _ _
      unfold Early
      rw [q1, q2, q3]
      rfl
    · have q1 : (chkP P n != 0) = false := q1
      show Early _ _ _ _ _ _ _ _ _ _ _
      unfold Early
      rw [q1, q2, q3, q4]
      rfl
    · have q1 : (chkP P n != 0) = false := q1
      show Early _ _ _ _ _ _ _ _ _ _ _
      unfold Early
      rw [q1, q2, q3, q4, q5]
      rfl
    · exact ⟨rfl, rfl, ⟨fun _ _ => rfl, rfl, rfl, rfl, rfl, rfl, rfl, trivial⟩, rfl, ⟨q1, q2, q3, q4, q5⟩, rfl, rfl⟩
  · rintro x vals B ⟨rfl, hL, rfl, rfl⟩
    have hw : Weak 1 (tplF 89 L11 (v11 n .nilSlice .nilSlice (-1) .top .top)) (([.raw (some (bP n P)), .rows 5 1 true 25 [[.int .i64 l, .int .i64 m, .int .i64 s, .int .i64 v, .int .i64 f]], cO g, cO t, cO (waitV l m s v f), dueO, .rows 3 1 true 56 [rulC 2 5 3]] : List BO).map mkB) (tplF 89 L11 (v11 n .nilSlice .nilSlice (-1) .top .top)) ((h11 n P g t (waitV l m s v f)).map mkB) := by
      refine ren_weak (m0 := 1) [0, 1, 2, 3, 4, 5, 6] rfl (show 1 ≤ 7 by decide) (fun j hj => by obtain rfl : j = 0 := (by omega); rfl) ⟨.inr rfl, .inr rfl, .inr rfl, .inr rfl, .inr rfl, .inr rfl, .inr rfl, .inr rfl, trivial⟩ (fun id b1 hb1 => ?_) (inj_nodup (by decide))
      match id, hb1 with
      | 0, hb1 =>
        obtain rfl := Option.some.inj (show some (bP n P) = some b1 from hb1)
        exact ⟨0, _, rfl, rfl, WB.of_rows rfl (Nat.le_refl _) (fun h => h) (fun _ => rfl) fun _ _ => ⟨rfl, rfl⟩⟩
      | 1, hb1 => exact nomatch (show (none : Option Blk) = some b1 from hb1)
      | 2, hb1 =>
        obtain rfl := Option.some.inj (show some _ = some b1 from hb1)
        exact ⟨2, _, rfl, rfl, rfl, Nat.le_refl _, (fun h => h), (fun _ => rfl), fun r hr => by
          obtain rfl : r = 0 := (by have : r < 1 := hr; omega)
          exact ⟨.inr rfl, trivial⟩⟩
      | 3, hb1 =>
        obtain rfl := Option.some.inj (show some _ = some b1 from hb1)
        exact ⟨3, _, rfl, rfl, rfl, Nat.le_refl _, (fun h => h), (fun _ => rfl), fun r hr => by
          obtain rfl : r = 0 := (by have : r < 1 := hr; omega)
          exact ⟨.inr rfl, trivial⟩⟩
      | 4, hb1 =>
        obtain rfl := Option.some.inj (show some _ = some b1 from hb1)
        exact ⟨4, _, rfl, rfl, rfl, Nat.le_refl _, (fun h => h), (fun _ => rfl), fun r hr => by
          obtain rfl : r = 0 := (by have : r < 1 := hr; omega)
          exact ⟨.inr rfl, trivial⟩⟩
      | 5, hb1 =>
        obtain rfl := Option.some.inj (show some _ = some b1 from hb1)
        exact ⟨5, _, rfl, rfl, rfl, Nat.le_refl _, (fun h => h), (fun _ => rfl), fun r hr => by
          obtain rfl : r = 0 := (by have : r < 1 := hr; omega)
          exact ⟨.inr rfl, trivial⟩⟩
      | 6, hb1 =>
        obtain rfl := Option.some.inj (show some _ = some b1 from hb1)
        exact ⟨6, _, rfl, rfl, rfl, Nat.le_refl _, (fun h => h), (fun _ => rfl), fun r hr => by
          obtain rfl : r = 0 := (by have : r < 1 := hr; omega)
          exact ⟨.inr rfl, .inr rfl, .inr rfl, trivial⟩⟩
      | id + 7, hb1 => exact nomatch (show (none : Option Blk) = some b1 from hb1)
    refine CodeOK.pre hw (CodeOK.seq (CodeOK.seq (CodeOK.at (C := C9) ec gs9 mixed (u := 0) (len := 89) (L := L11) (M := [false, false, true, true, true, true, true]) (vals := v11 n .nilSlice .nilSlice (-1) (.slice 0 0 6 n) (.int .i64 (0 : Nat))) (B := h11 n P g t (waitV l m s v f)) (show 1 ≤ 7 by decide) .normal ?_ (CodeOK.block ?_))))
    · show evalC C9 0 1 c11_4 (tplF 89 L11 (v11 n .nilSlice .nilSlice (-1) .top .top)) ((h11 n P g t (waitV l m s v f)).map mkB) _
      rw [p11b]
      exact ⟨rfl, rfl, ⟨fun _ _ => rfl, trivial, rfl, rfl, rfl, rfl, rfl, trivial⟩, rfl, rfl, rfl⟩
    · refine loop11 hn ⟨rfl, rfl⟩ fun fr hp hs => ?_
      exact (end11 hs).mono (endK_mono fun a hp h => hL.early h)
end
end Go.Proofs.Ytcjfmkkfcbelpaa
