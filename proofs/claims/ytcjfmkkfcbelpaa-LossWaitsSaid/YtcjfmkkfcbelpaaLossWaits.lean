/-
  LossWaits, for every input: the row of the statement, closed by the walk. No condition.
-/
import Derived.Test.YtcjfmkkfcbelpaaV16
import Derived.WalkKit
import Derived.ProofKit
import Derived.OpenShut
import Derived.ChangeOld
import Derived.Below
import Derived.Test.YtcjfmkkfcbelpaaR
namespace Go.Proofs.Ytcjfmkkfcbelpaa.lossWaits
open Go.ChangeShapes Go.WideShapes Go.ChangeAt Go.RowKit Go.Proofs.Ytcjfmkkfcbelpaa
set_option linter.unusedVariables false

set_option maxRecDepth 100000 in
theorem lifted (os : Os) (started : os.Started) (H : Type) (enc : TypeId × Value → H) :
    ReturnsInHanded {} Try.checked os 4 .any (Rows.lossWaitsSpec.pre6 enc Try.prog Try.f4 Rows.lossWaitsRow.domain false) (Rows.lossWaitsSpec.post enc Try.prog Try.f4 false true false false) := by
  refine returnsInHanded_of_change (C := Try.checked) own started (by kernel_rfl) Try.func4
    (ChangeSpec.witness6 (enc := enc) (C := Try.checked) false ⟨#[], #[.agg #[.int .i64 0, .int .i64 0, .int .i64 0, .int .i64 0, .int .i64 0]], []⟩ 8 (by kernel_rfl) (by kernel_rfl) (by kernel_rfl) (by kernel_rfl)) ?_
  intro W base args ds gs before hval0 hW hcnd hsz
  have hval : ∀ (j : Nat) t v, Try.f4.params[j]? = some t → args[j]? = some v → Value.okWide Try.prog W .any base t v := hval0
  have hW' := hW
  obtain ⟨p, q, hA0, hV, rfl, hfz, hnd⟩ := hW
  have hA : DataW.TrodAll enc Try.prog W 0 (fun _ => true) true Try.f4.params.toList args.toList ds p := hA0
  rw [Try.params4] at hA hval
  obtain ⟨v0, vs0, d0, ds0, p0, q0, hargs, rfl, rfl, h0, r0⟩ := trodAll_cons hA
  obtain ⟨rfl, rfl, rfl⟩ := trodAll_nil r0
  obtain rfl : args = #[v0] := by cases args; simp_all
  obtain ⟨rfl, rfl⟩ := trodVars_none hV
  have k0 := h0
  have lt0 : ∀ x ∈ p0, x.block < W.heap.size := by obtain ⟨m, hm⟩ := k0; exact DataW.trod_lt m _ _ _ hm
  obtain ⟨cs0, e0, sz0⟩ := okWide_agg (.inl ⟨_, Try.underlying25⟩) (hval 0 25 v0 rfl rfl)
  subst e0
  have sq0 : cs0.size = 5 := sz0.trans (by kernel_rfl)
  obtain ⟨a0_0, ha0_0, wa0_0⟩ := leaf_int h0 6 0 3 .i64 (by kernel_rfl) (by kernel_rfl) Try.underlying3
  obtain ⟨a0_1, ha0_1, wa0_1⟩ := leaf_int h0 6 1 3 .i64 (by kernel_rfl) (by kernel_rfl) Try.underlying3
  obtain ⟨a0_2, ha0_2, wa0_2⟩ := leaf_int h0 6 2 3 .i64 (by kernel_rfl) (by kernel_rfl) Try.underlying3
  obtain ⟨a0_3, ha0_3, wa0_3⟩ := leaf_int h0 6 3 3 .i64 (by kernel_rfl) (by kernel_rfl) Try.underlying3
  obtain ⟨a0_4, ha0_4, wa0_4⟩ := leaf_int h0 6 4 3 .i64 (by kernel_rfl) (by kernel_rfl) Try.underlying3
  obtain rfl : cs0 = #[.int .i64 a0_0, .int .i64 a0_1, .int .i64 a0_2, .int .i64 a0_3, .int .i64 a0_4] := by
    apply Array.ext_getElem?
    intro j
    by_cases hj : j < 5
    · match j, hj with
      | 0, _ => exact ha0_0
      | 1, _ => exact ha0_1
      | 2, _ => exact ha0_2
      | 3, _ => exact ha0_3
      | 4, _ => exact ha0_4
    · rw [Array.getElem?_eq_none (by omega), Array.getElem?_eq_none (by simp; omega)]
  refine ((waits_any a0_0 a0_1 a0_2 a0_3 a0_4 W).mono fun e W' ⟨he, bel⟩ => ?_)
  subst he
  exact ⟨_, rfl, _, _, _, [], _, [], hW', trodAll_mk1 (shut_bool Try.underlying4 _), (trodAll_cons_mk (Below.trod laidOut (by kernel_rfl) (of_decide_eq_true (by kernel_rfl)) k0 bel lt0) trodAll_mk0), rfl, bel.frame _, fun h => by cases h⟩

theorem over : Rows.lossWaitsRow.holds Try.pinned (OpenSpec.ofChange Rows.lossWaitsSpec) :=
  OpenClaim.holds_of_wide 4 Try.f4 rfl rfl rfl rfl rfl rfl rfl ⟨rfl, rfl, rfl, rfl, rfl⟩ rfl rfl rfl rfl rfl (by kernel_rfl) Try.func4 (by kernel_rfl)
    (of_decide_eq_true (by kernel_rfl)) (by unfold Func.isWrapper; first | (rw [if_pos (by decide +kernel)]; kernel_rfl) | (rw [if_neg (by decide +kernel)]; exact ⟨rfl, rfl⟩))
    (fun os started H enc _ => lifted os started H enc)

theorem proved : Rows.LossWaitsSaid := over
#print axioms proved
end Go.Proofs.Ytcjfmkkfcbelpaa.lossWaits
