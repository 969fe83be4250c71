/-
  Chapter 19 by the engine: the contracts are kept (6): own, Bring, works; and those by name.
-/
import Derived.Test.YtfhkmagpgbcnjaaV4
import Derived.Test.YtfhkmagpgbcnjaaX6
import Derived.Test.YtfhkmagpgbcnjaaT3
namespace Go.Proofs.Ytfhkmagpgbcnjaa
open Go.RowKit

theorem tmod_emod (i n : Int) (h : 0 < n) : (if i.tmod n < 0 then i.tmod n + n else i.tmod n) = i % n := by
  have h1 := Int.emod_nonneg i (show n ≠ 0 by omega)
  have h2 := Int.emod_lt_of_pos i h
  rw [Int.tmod_eq_emod]
  split <;> split <;> omega
theorem ok11 : SpecOK Try.prog 11 s11 := by
  intro args h base k hk
  unfold s11 at hk
  split at hk
  · rename_i a b c
    refine ⟨_, [], [], hk, plainOK g0 Try.func11 (by kernel_rfl) (by kernel_rfl) ?_ rfl rfl h base⟩
    show evalF C0 64 Try.f11 _ [] _
    rw [t11 a b c (fun v => v = _)]
  · cases hk
theorem ok23 : SpecOK Try.prog 23 s23 := by
  intro args h base k hk
  unfold s23 at hk
  split at hk
  · rename_i i n
    cases hc : decide (0 < n) && decide (n ≤ 9223372036854775807) with
    | false => simp [hc] at hk
    | true =>
      simp only [hc, cond_true] at hk
      simp only [Bool.and_eq_true, decide_eq_true_eq] at hc
      refine ⟨_, [], [], hk, plainOK g0 Try.func23 (by kernel_rfl) (by kernel_rfl) ?_ rfl rfl h base⟩
      show evalF C0 64 Try.f23 _ [] _
      rw [t23 i n (fun v => v = _)]
      have hz : (n == 0) = false := by rw [beq_eq_false_iff_ne]; omega
      have hb := tmod_emod i n hc.1
      have h1 := Int.emod_nonneg i (show n ≠ 0 by omega)
      have h2 := Int.emod_lt_of_pos i hc.1
      rw [hz, cond_false]
      cases hd : decide (i.tmod n < 0) with
      | true =>
        have hd' : i.tmod n < 0 := by simpa using hd
        rw [if_pos hd'] at hb
        rw [cond_true, hb, wrap_id (by omega) (by omega)]
      | false =>
        have hd' : ¬ i.tmod n < 0 := by simpa using hd
        rw [if_neg hd'] at hb
        rw [cond_false, hb]
  · cases hk
theorem gs5 : GSound C5 := (((((((((((((((GSound.none.add ok16).add ok17).add ok18).add ok19).add ok20).add ok21).add ok9).add ok10).add ok12).add ok13).add ok14).add ok15).add ok11).add ok23))
theorem ok22 : SpecOK Try.prog 22 s22 := by
  intro args h base k hk
  unfold s22 at hk
  split at hk
  · refine ⟨_, [], [], hk, plainOK gs5 Try.func22 (by kernel_rfl) (by kernel_rfl) ?_ rfl rfl h base⟩
    show evalF C5 64 Try.f22 _ [] _
    rw [t22 (fun v => v = _)]
  · cases hk
theorem weaken {f : FuncId} {s s' : Spec} (h : SpecOK Try.prog f s) (hw : ∀ args hp base k, s' args hp base k → s args hp base k) : SpecOK Try.prog f s' :=
  fun args hp base k hk => h args hp base k (hw args hp base k hk)
theorem l9_s9 : ∀ args hp base k, l9 args hp base k → s9 args hp base k := fun args hp base k hk => by
  unfold l9 at hk
  split at hk
  · exact hk _ _ _ _ ⟨rfl, rfl, rfl, rfl⟩
  · cases hk
theorem l12_s12 : ∀ args hp base k, l12 args hp base k → s12 args hp base k := fun args hp base k hk => by
  unfold l12 at hk
  split at hk
  · exact hk _ _ _ _ ⟨rfl, rfl, rfl, rfl⟩
  · cases hk
theorem l14_s14 : ∀ args hp base k, l14 args hp base k → s14 args hp base k := fun args hp base k hk => by
  unfold l14 at hk
  split at hk
  · exact hk _ _ _ _ ⟨rfl, rfl, rfl, rfl⟩
  · cases hk
theorem l23_s23 : ∀ args hp base k, l23 args hp base k → s23 args hp base k := fun args hp base k hk => by
  unfold l23 at hk
  split at hk
  · rename_i i n
    cases hc : decide (0 < n) && decide (n ≤ 9223372036854775807) with
    | false => simp [hc] at hk
    | true =>
      simp only [hc, cond_true] at hk
      show bif decide (0 < n) && decide (n ≤ 9223372036854775807) then k (.int .i64 (i % n)) [] [] else False
      rw [hc]
      simp only [Bool.and_eq_true, decide_eq_true_eq] at hc
      exact hk _ ⟨Int.emod_nonneg _ (by omega), Int.emod_lt_of_pos _ hc.1, rfl⟩
  · cases hk
theorem gs7 : GSound C7 := (((((((((((((((GSound.none.add ok16).add ok17).add ok18).add ok19).add ok20).add ok21).add (weaken ok9 l9_s9)).add (weaken ok10 l9_s9)).add (weaken ok12 l12_s12)).add (weaken ok13 l12_s12)).add (weaken ok14 l14_s14)).add (weaken ok15 l14_s14)).add ok11).add (weaken ok23 l23_s23)).add ok22)
end Go.Proofs.Ytfhkmagpgbcnjaa
