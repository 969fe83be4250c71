/-
  LossTells, for every input: the row of the statement, closed by the walk. No condition.
-/
import Derived.Test.YtcjfmkkfcbelpaaV27
import Derived.Test.YtcjfmkkfcbelpaaR3
import Derived.WalkKit
import Derived.ProofKit
import Derived.OpenShut
import Derived.ChangeOld
import Derived.Below
import Derived.Test.YtcjfmkkfcbelpaaR
namespace Go.Proofs.Ytcjfmkkfcbelpaa.lossTells
open Go.ChangeShapes Go.WideShapes Go.ChangeAt Go.RowKit Go.Proofs.Ytcjfmkkfcbelpaa
set_option linter.unusedVariables false

set_option maxRecDepth 100000 in
theorem lifted (os : Os) (started : os.Started) (H : Type) (enc : TypeId × Value → H) :
    ReturnsInHanded {} Try.checked os 3 .any (Rows.lossTellsSpec.pre6 enc Try.prog Try.f3 Rows.lossTellsRow.domain false) (Rows.lossTellsSpec.post enc Try.prog Try.f3 false true false false) := by
  refine returnsInHanded_of_change (C := Try.checked) own started (by kernel_rfl) Try.func3
    (ChangeSpec.witness6 (enc := enc) (C := Try.checked) false ⟨#[], #[.slice none 0 0, .agg #[.int .i64 0, .int .i64 0], .agg #[.int .i64 0, .int .i64 0, .int .i64 0, .int .i64 0, .int .i64 0]], []⟩ 8 (by kernel_rfl) (by kernel_rfl) (by kernel_rfl) (by kernel_rfl)) ?_
  intro W base args ds gs before hval0 hW hcnd hsz
  have hval : ∀ (j : Nat) t v, Try.f3.params[j]? = some t → args[j]? = some v → Value.okWide Try.prog W .any base t v := hval0
  have hW' := hW
  obtain ⟨p, q, hA0, hV, rfl, hfz, hnd⟩ := hW
  have hA : DataW.TrodAll enc Try.prog W 0 (fun _ => true) true Try.f3.params.toList args.toList ds p := hA0
  rw [Try.params3] at hA hval
  obtain ⟨v0, vs0, d0, ds0, p0, q0, hargs, rfl, rfl, h0, r0⟩ := trodAll_cons hA
  obtain ⟨v1, vs1, d1, ds1, p1, q1, rfl, rfl, rfl, h1, r1⟩ := trodAll_cons r0
  obtain ⟨v2, vs2, d2, ds2, p2, q2, rfl, rfl, rfl, h2, r2⟩ := trodAll_cons r1
  obtain ⟨rfl, rfl, rfl⟩ := trodAll_nil r2
  obtain rfl : args = #[v0, v1, v2] := by cases args; simp_all
  obtain ⟨rfl, rfl⟩ := trodVars_none hV
  have k0 := h0
  have lt0 : ∀ x ∈ p0, x.block < W.heap.size := by obtain ⟨m, hm⟩ := k0; exact DataW.trod_lt m _ _ _ hm
  have k1 := h1
  have lt1 : ∀ x ∈ p1, x.block < W.heap.size := by obtain ⟨m, hm⟩ := k1; exact DataW.trod_lt m _ _ _ hm
  have k2 := h2
  have lt2 : ∀ x ∈ p2, x.block < W.heap.size := by obtain ⟨m, hm⟩ := k2; exact DataW.trod_lt m _ _ _ hm
  obtain ⟨a0, len0, cap0, e0⟩ := okWide_slice Try.underlying22 (hval 0 22 v0 rfl rfl)
  subst e0
  have w0 : IsPks W a0 len0 cap0 := pks_of h0
  obtain ⟨cs1, e1, sz1⟩ := okWide_agg (.inr ⟨_, _, Try.underlying23⟩) (hval 1 23 v1 rfl rfl)
  subst e1
  have sq1 : cs1.size = 2 := sz1.trans (by kernel_rfl)
  obtain ⟨a1_0, ha1_0, wa1_0⟩ := leaf_int h1 6 0 3 .i64 (by kernel_rfl) (by kernel_rfl) Try.underlying3
  obtain ⟨a1_1, ha1_1, wa1_1⟩ := leaf_int h1 6 1 3 .i64 (by kernel_rfl) (by kernel_rfl) Try.underlying3
  obtain rfl : cs1 = #[.int .i64 a1_0, .int .i64 a1_1] := by
    apply Array.ext_getElem?
    intro j
    by_cases hj : j < 2
    · match j, hj with
      | 0, _ => exact ha1_0
      | 1, _ => exact ha1_1
    · rw [Array.getElem?_eq_none (by omega), Array.getElem?_eq_none (by simp; omega)]
  obtain ⟨cs2, e2, sz2⟩ := okWide_agg (.inl ⟨_, Try.underlying25⟩) (hval 2 25 v2 rfl rfl)
  subst e2
  have sq2 : cs2.size = 5 := sz2.trans (by kernel_rfl)
  obtain ⟨a2_0, ha2_0, wa2_0⟩ := leaf_int h2 6 0 3 .i64 (by kernel_rfl) (by kernel_rfl) Try.underlying3
  obtain ⟨a2_1, ha2_1, wa2_1⟩ := leaf_int h2 6 1 3 .i64 (by kernel_rfl) (by kernel_rfl) Try.underlying3
  obtain ⟨a2_2, ha2_2, wa2_2⟩ := leaf_int h2 6 2 3 .i64 (by kernel_rfl) (by kernel_rfl) Try.underlying3
  obtain ⟨a2_3, ha2_3, wa2_3⟩ := leaf_int h2 6 3 3 .i64 (by kernel_rfl) (by kernel_rfl) Try.underlying3
  obtain ⟨a2_4, ha2_4, wa2_4⟩ := leaf_int h2 6 4 3 .i64 (by kernel_rfl) (by kernel_rfl) Try.underlying3
  obtain rfl : cs2 = #[.int .i64 a2_0, .int .i64 a2_1, .int .i64 a2_2, .int .i64 a2_3, .int .i64 a2_4] := by
    apply Array.ext_getElem?
    intro j
    by_cases hj : j < 5
    · match j, hj with
      | 0, _ => exact ha2_0
      | 1, _ => exact ha2_1
      | 2, _ => exact ha2_2
      | 3, _ => exact ha2_3
      | 4, _ => exact ha2_4
    · rw [Array.getElem?_eq_none (by omega), Array.getElem?_eq_none (by simp; omega)]
  refine ((tells_any a0 len0 cap0 a1_0 a1_1 a2_0 a2_1 a2_2 a2_3 a2_4 W w0).mono fun e W' ⟨he, bel⟩ => ?_)
  subst he
  exact ⟨_, rfl, _, _, _, [], _, [], hW', trodAll_mk1 (shut_bool Try.underlying4 _), (trodAll_cons_mk (Below.trod laidOut (by kernel_rfl) (of_decide_eq_true (by kernel_rfl)) k0 bel lt0) (trodAll_cons_mk (Below.trod laidOut (by kernel_rfl) (of_decide_eq_true (by kernel_rfl)) k1 bel lt1) (trodAll_cons_mk (Below.trod laidOut (by kernel_rfl) (of_decide_eq_true (by kernel_rfl)) k2 bel lt2) trodAll_mk0))), rfl, bel.frame _, fun h => by cases h⟩

theorem over : Rows.lossTellsRow.holds Try.pinned (OpenSpec.ofChange Rows.lossTellsSpec) :=
  OpenClaim.holds_of_wide 3 Try.f3 rfl rfl rfl rfl rfl rfl rfl ⟨rfl, rfl, rfl, rfl, rfl⟩ rfl rfl rfl rfl rfl (by kernel_rfl) Try.func3 (by kernel_rfl)
    (of_decide_eq_true (by kernel_rfl)) (by unfold Func.isWrapper; first | (rw [if_pos (by decide +kernel)]; kernel_rfl) | (rw [if_neg (by decide +kernel)]; exact ⟨rfl, rfl⟩))
    (fun os started H enc _ => lifted os started H enc)

theorem proved : Rows.LossTellsSaid := over
#print axioms proved
end Go.Proofs.Ytcjfmkkfcbelpaa.lossTells
