/-
  Chapter 12 by the engine: the contracts by name are kept.
-/
import Derived.Test.YthiencdknndagaaV4
import Derived.Test.YthiencdknndagaaT3
namespace Go.Proofs.Ythiencdknndagaa
open Go.RowKit

theorem weaken {f : FuncId} {s s' : Spec} (h : SpecOK Try.prog f s) (hw : ∀ args hp base k, s' args hp base k → s args hp base k) : SpecOK Try.prog f s' :=
  fun args hp base k hk => h args hp base k (hw args hp base k hk)
theorem okl16 : SpecOK Try.prog 16 l16 := weaken ok16 fun args hp base k hk => by
  unfold l16 at hk
  split at hk
  · rename_i i n
    cases hc : decide (0 < n) && decide (n ≤ 9223372036854775807) with
    | false => simp [hc] at hk
    | true =>
      simp only [hc, cond_true] at hk
      show bif decide (0 < n) && decide (n ≤ 9223372036854775807) then k (.int .i64 (bring i n)) [] [] else False
      rw [hc]
      simp only [Bool.and_eq_true, decide_eq_true_eq] at hc
      exact hk _ ⟨Int.emod_nonneg _ (by omega), Int.emod_lt_of_pos _ hc.1, rfl⟩
  · cases hk
theorem okl8 : SpecOK Try.prog 8 l8 := weaken ok8 fun args hp base k hk => by
  unfold l8 at hk
  split at hk
  · exact hk _ _ _ _ _ _ ⟨rfl, rfl, rfl, rfl, rfl, rfl⟩
  · cases hk
theorem okl11 : SpecOK Try.prog 11 l11 := weaken ok11 fun args hp base k hk => by
  unfold l11 at hk
  split at hk
  · rename_i s a b c f d q m x y z newly
    cases hq : okSl q with
    | false => simp [hq] at hk
    | true =>
      simp only [hq, cond_true] at hk
      show bif okSl q then _ else False
      rw [hq]
      exact hk _ _ _ _ _ _ _ ⟨rfl, rfl, rfl, rfl, rfl, rfl, rfl⟩
  · cases hk
theorem gs6 : GSound C6 := ((((GSound.none.add okl16).add okl11).add okl8).add ok17).add ok15
theorem ok3 : SpecOK Try.prog 3 s3 := by
  intro args h base k hk
  unfold s3 at hk
  split at hk
  · rename_i s a b c f d m x y z newly
    refine ⟨_, [], [], hk, plainOK gs5 Try.func3 (by kernel_rfl) (by kernel_rfl) ?_ rfl rfl h base⟩
    show evalF C5 64 Try.f3 [cntS s a b c f, _, _] [] _
    rw [t3n s a b c f d m x y z newly (fun v => v = _)]
    simp
  · cases hk
theorem gs7 : GSound C7 := gs6.add ok3
end Go.Proofs.Ythiencdknndagaa
