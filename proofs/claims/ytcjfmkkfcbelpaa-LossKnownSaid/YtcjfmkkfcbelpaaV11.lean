/-
  Chapter 9 by the engine: what is lost: the reference's Find.
-/
import Derived.Test.YtcjfmkkfcbelpaaV10
namespace Go.Proofs.Ytcjfmkkfcbelpaa
open Go.RowKit
set_option linter.unusedVariables false
theorem num_of {n : Nat} {P : Nat → Pk} {g t l m s v f : Int} (L : Late n P g t l m s v f) : Num n P g := by
  have c1 := L.c1
  have c2 := of_decide_eq_false L.c2
  have c3 := of_decide_eq_false L.c3
  have hb : anyBad (-1) P n = false := by
    cases h : anyBad (-1) P n with
    | false => rfl
    | true =>
      unfold chkP at c1
      rw [h] at c1
      cases hd : decide (256 < n) <;> rw [hd] at c1 <;> cases c1
  have key : ∀ i, i < n → 0 ≤ (P i).n ∧ (P i).n ≤ 9007199254740991 := fun i hi => by
    have h1 := good_of hb i hi
    have h2 : -1 ≤ prv (-1) P i := by
      refine bad15 ?_
      cases h : anyBad (-1) P i with
      | false => rfl
      | true =>
        have mono : ∀ j, i ≤ j → anyBad (-1) P j = true := fun j hj => by
          induction j with
          | zero => obtain rfl : i = 0 := by omega
                    exact h
          | succ j ih =>
            by_cases e : i = j + 1
            · subst e; exact h
            · simp only [anyBad, ih (by omega), Bool.true_or]
        rw [mono n (by omega)] at hb
        cases hb
    unfold badP badV at h1
    simp only [Bool.or_eq_false_iff, decide_eq_false_iff_not] at h1
    omega
  exact ⟨by omega, by omega, fun i hi => (key i hi).1, fun i hi => (key i hi).2⟩
section
attribute [local irreducible] evalC
set_option maxRecDepth 100000
theorem canon12 (n : Nat) (P : Nat → Pk) (g t l m s v f : Int) (hn : n ≤ 100000) : Canon Try.prog 12 [.slice 0 0 6 n, .int .i64 g, .int .i64 t, .agg [.int .i64 l, .int .i64 m, .int .i64 s, .int .i64 v, .int .i64 f]] [some (bP n P)] fun a hp => Early n P g t l m s v f (Told12 n P g t l m s v f a (hget hp 2) (hget hp 3)) a := by
  refine CodeOK.body Try.func12 (by kernel_rfl) ?_
  rw [code12]
  refine CodeOK.frontE (C := C9) ec gs9 mixed (u := 64) (len := 112) (rs := Try.f12.results.toList) (L := L12) (M := M12a) [c12_0, c12_1, c12_2, c12_3, c12_4, c12_5] (show 1 ≤ 2 by decide) (Q := fun x vals B => x = .normal ∧ Late n P g t l m s v f ∧ vals = v12 n g t .nilSlice .nilSlice (-1) .top ∧ B = h12 n P l m s v f) (kr := fun a => Early n P g t l m s v f False a) ?_ ?_ fun fr hp h => endK_mono (fun a hp h => h.mono False.elim) _ _ _ h
  · show evalC C9 64 1 _ (enterS 112 _) _ (obsE Try.prog Try.f12.results.toList L12 M12a _ _)
    simp only [List.foldr]
    rw [p12a n P g t l m s v f]
    refine ⟨isP_bP P hn, condSplit (fun q1 => ?_) fun q1 => condSplit (fun q2 => ?_) fun q2 => condSplit (fun q3 => ?_) fun q3 => condSplit (fun q4 => ?_) fun q4 => condSplit (fun q5 => ?_) fun q5 => ?_⟩
    · have q1 : (chkP P n != 0) = true := q1
      have e : chkP P n = 2 := by
        unfold chkP at q1 ⊢
        generalize decide (256 < n) = d at q1 ⊢
        generalize anyBad (-1) P n = e at q1 ⊢
        cases d <;> cases e <;> first | rfl | exact absurd q1 (by decide)
      show Early _ _ _ _ _ _ _ _ _ _ (.tuple [.nilSlice, .nilSlice, .int .i64 0, .int .i64 (chkP P n)])
      unfold Early
      rw [q1, e]
      rfl
    · have q1 : (chkP P n != 0) = false := q1
      show Early _ _ _ _ _ _ _ _ _ _ _
      unfold Early
      rw [q1, q2]
      rfl
    · have q1 : (chkP P n != 0) = false := q1
      show Early _ _ _ _ _ _ _ _ _ _ _
      unfold Early
      rw [q1, q2, q3]
      rfl
    · have q1 : (chkP P n != 0) = false := q1
      show Early _ _ _ _ _ _ _ _ _ _ _
      unfold Early
      rw [q1, q2, q3, q4]
      rfl
    · have q1 : (chkP P n != 0) = false := q1
      show Early _ _ _ _ _ _ _ _ _ _ _
      unfold Early
      rw [q1, q2, q3, q4, q5]
      rfl
    · exact ⟨rfl, rfl, ⟨fun _ _ => rfl, rfl, trivial⟩, rfl, ⟨q1, q2, q3, q4, q5⟩, rfl, rfl⟩
  · rintro x vals B ⟨rfl, hL, rfl, rfl⟩
    refine CodeOK.seq (CodeOK.seq (CodeOK.at (C := C9) ec gs9 mixed (u := 0) (len := 112) (L := L12) (M := M12a) (vals := v12 n g t .nilSlice .nilSlice (-1) (.int .i64 (0 : Nat))) (B := h12 n P l m s v f) (show 1 ≤ 2 by decide) .normal ?_ (CodeOK.block ?_)))
    · show evalC C9 0 1 c12_6 (tplF 112 L12 (v12 n g t .nilSlice .nilSlice (-1) .top)) ((h12 n P l m s v f).map mkB) _
      rw [p12b]
      exact ⟨rfl, rfl, ⟨fun _ _ => rfl, rfl, trivial⟩, rfl, rfl, rfl⟩
    · refine loop12 hn (num_of hL) ⟨rfl, rfl⟩ fun fr hp hs => ?_
      exact (end12 hs).mono (endK_mono fun a hp h => hL.early h)
end
end Go.Proofs.Ytcjfmkkfcbelpaa
