/-
  WindowSlowly, for every input: the row of the statement, closed by the walk. No condition.
-/
import Derived.Test.YtefjhkgkdmjopaaV8
import Derived.Test.YtefjhkgkdmjopaaR8
import Derived.WalkKit
import Derived.ProofKit
import Derived.OpenShut
import Derived.ChangeOld
import Derived.Below
import Derived.Test.YtefjhkgkdmjopaaR
namespace Go.Proofs.Ytefjhkgkdmjopaa.windowSlowly
open Go.ChangeShapes Go.WideShapes Go.ChangeAt Go.RowKit Go.Proofs.Ytefjhkgkdmjopaa
set_option linter.unusedVariables false

set_option maxRecDepth 100000 in
theorem lifted (os : Os) (started : os.Started) (H : Type) (enc : TypeId × Value → H) :
    ReturnsInHanded {} Try.checked os 8 .any (Rows.windowSlowlySpec.pre6 enc Try.prog Try.f8 Rows.windowSlowlyRow.domain false) (Rows.windowSlowlySpec.post enc Try.prog Try.f8 false true false false) := by
  refine returnsInHanded_of_change (C := Try.checked) own started (by kernel_rfl) Try.func8
    (ChangeSpec.witness6 (enc := enc) (C := Try.checked) false ⟨#[], #[.agg #[.int .i64 0, .int .i64 0, .int .i64 0], .slice none 0 0], []⟩ 8 (by kernel_rfl) (by kernel_rfl) (by kernel_rfl) (by kernel_rfl)) ?_
  intro W base args ds gs before hval0 hW hcnd hsz
  have hval : ∀ (j : Nat) t v, Try.f8.params[j]? = some t → args[j]? = some v → Value.okWide Try.prog W .any base t v := hval0
  have hW' := hW
  obtain ⟨p, q, hA0, hV, rfl, hfz, hnd⟩ := hW
  have hA : DataW.TrodAll enc Try.prog W 0 (fun _ => true) true Try.f8.params.toList args.toList ds p := hA0
  rw [Try.params8] at hA hval
  obtain ⟨v0, vs0, d0, ds0, p0, q0, hargs, rfl, rfl, h0, r0⟩ := trodAll_cons hA
  obtain ⟨v1, vs1, d1, ds1, p1, q1, rfl, rfl, rfl, h1, r1⟩ := trodAll_cons r0
  obtain ⟨rfl, rfl, rfl⟩ := trodAll_nil r1
  obtain rfl : args = #[v0, v1] := by cases args; simp_all
  obtain ⟨rfl, rfl⟩ := trodVars_none hV
  have k0 := h0
  have lt0 : ∀ x ∈ p0, x.block < W.heap.size := by obtain ⟨m, hm⟩ := k0; exact DataW.trod_lt m _ _ _ hm
  have k1 := h1
  have lt1 : ∀ x ∈ p1, x.block < W.heap.size := by obtain ⟨m, hm⟩ := k1; exact DataW.trod_lt m _ _ _ hm
  obtain ⟨cs0, e0, sz0⟩ := okWide_agg (.inr ⟨_, _, Try.underlying26⟩) (hval 0 26 v0 rfl rfl)
  subst e0
  have sq0 : cs0.size = 3 := sz0.trans (by kernel_rfl)
  obtain ⟨a0_0, ha0_0, wa0_0⟩ := leaf_int h0 6 0 3 .i64 (by kernel_rfl) (by kernel_rfl) Try.underlying3
  obtain ⟨a0_1, ha0_1, wa0_1⟩ := leaf_int h0 6 1 3 .i64 (by kernel_rfl) (by kernel_rfl) Try.underlying3
  obtain ⟨a0_2, ha0_2, wa0_2⟩ := leaf_int h0 6 2 3 .i64 (by kernel_rfl) (by kernel_rfl) Try.underlying3
  obtain rfl : cs0 = #[.int .i64 a0_0, .int .i64 a0_1, .int .i64 a0_2] := by
    apply Array.ext_getElem?
    intro j
    by_cases hj : j < 3
    · match j, hj with
      | 0, _ => exact ha0_0
      | 1, _ => exact ha0_1
      | 2, _ => exact ha0_2
    · rw [Array.getElem?_eq_none (by omega), Array.getElem?_eq_none (by simp; omega)]
  obtain ⟨a1, len1, cap1, e1⟩ := okWide_slice Try.underlying49 (hval 1 49 v1 rfl rfl)
  subst e1
  obtain ⟨z1, w1⟩ : ∃ zs, IsRow .i64 W a1 len1 cap1 zs := isRow_of Try.underlying49 Try.underlying3 (by kernel_rfl) h1
  refine ((slowly_any a0_0 a0_1 a0_2 a1 len1 cap1 W (ints_of w1)).mono fun e W' ⟨he, bel⟩ => ?_)
  subst he
  exact ⟨_, rfl, _, _, _, [], _, [], hW', trodAll_mk1 (shut_bool Try.underlying4 _), (trodAll_cons_mk (Below.trod laidOut (by kernel_rfl) (of_decide_eq_true (by kernel_rfl)) k0 bel lt0) (trodAll_cons_mk (Below.trod laidOut (by kernel_rfl) (of_decide_eq_true (by kernel_rfl)) k1 bel lt1) trodAll_mk0)), rfl, bel.frame _, fun h => by cases h⟩

theorem over : Rows.windowSlowlyRow.holds Try.pinned (OpenSpec.ofChange Rows.windowSlowlySpec) :=
  OpenClaim.holds_of_wide 8 Try.f8 rfl rfl rfl rfl rfl rfl rfl ⟨rfl, rfl, rfl, rfl, rfl⟩ rfl rfl rfl rfl rfl (by kernel_rfl) Try.func8 (by kernel_rfl)
    (of_decide_eq_true (by kernel_rfl)) (by unfold Func.isWrapper; first | (rw [if_pos (by decide +kernel)]; kernel_rfl) | (rw [if_neg (by decide +kernel)]; exact ⟨rfl, rfl⟩))
    (fun os started H enc _ => lifted os started H enc)

theorem proved : Rows.WindowSlowlySaid := over
#print axioms proved
end Go.Proofs.Ytefjhkgkdmjopaa.windowSlowly
