/-
  TimerArmed, for every input: the row of the statement, closed by the walk. No condition.
-/
import Derived.Test.YtfoogfhcjnpokaaV10
import Derived.WalkKit
import Derived.ProofKit
import Derived.OpenShut
import Derived.ChangeOld
import Derived.Below
import Derived.Test.YtfoogfhcjnpokaaR
namespace Go.Proofs.Ytfoogfhcjnpokaa.timerArmed
open Go.ChangeShapes Go.WideShapes Go.ChangeAt Go.RowKit Go.Proofs.Ytfoogfhcjnpokaa
set_option linter.unusedVariables false

set_option maxRecDepth 100000 in
theorem lifted (os : Os) (started : os.Started) (H : Type) (enc : TypeId × Value → H) :
    ReturnsInHanded {} Try.checked os 6 .any (Rows.timerArmedSpec.pre6 enc Try.prog Try.f6 Rows.timerArmedRow.domain false) (Rows.timerArmedSpec.post enc Try.prog Try.f6 false true false false) := by
  refine returnsInHanded_of_change (C := Try.checked) own started (by kernel_rfl) Try.func6
    (ChangeSpec.witness6 (enc := enc) (C := Try.checked) false ⟨#[], #[.agg #[.int .i64 0, .int .i64 0, .int .i64 0, .int .i64 0, .int .i64 0, .int .i64 0, .int .i64 0, .int .i64 0, .int .i64 0, .int .i64 0, .int .i64 0, .int .i64 0], .int .i64 0, .int .i64 0], []⟩ 8 (by kernel_rfl) (by kernel_rfl) (by kernel_rfl) (by kernel_rfl)) ?_
  intro W base args ds gs before hval0 hW hcnd hsz
  have hval : ∀ (j : Nat) t v, Try.f6.params[j]? = some t → args[j]? = some v → Value.okWide Try.prog W .any base t v := hval0
  have hW' := hW
  obtain ⟨p, q, hA0, hV, rfl, hfz, hnd⟩ := hW
  have hA : DataW.TrodAll enc Try.prog W 0 (fun _ => true) true Try.f6.params.toList args.toList ds p := hA0
  rw [Try.params6] at hA hval
  obtain ⟨v0, vs0, d0, ds0, p0, q0, hargs, rfl, rfl, h0, r0⟩ := trodAll_cons hA
  obtain ⟨v1, vs1, d1, ds1, p1, q1, rfl, rfl, rfl, h1, r1⟩ := trodAll_cons r0
  obtain ⟨v2, vs2, d2, ds2, p2, q2, rfl, rfl, rfl, h2, r2⟩ := trodAll_cons r1
  obtain ⟨rfl, rfl, rfl⟩ := trodAll_nil r2
  obtain rfl : args = #[v0, v1, v2] := by cases args; simp_all
  obtain ⟨rfl, rfl⟩ := trodVars_none hV
  have k0 := h0
  have lt0 : ∀ x ∈ p0, x.block < W.heap.size := by obtain ⟨m, hm⟩ := k0; exact DataW.trod_lt m _ _ _ hm
  have k1 := h1
  have lt1 : ∀ x ∈ p1, x.block < W.heap.size := by obtain ⟨m, hm⟩ := k1; exact DataW.trod_lt m _ _ _ hm
  have k2 := h2
  have lt2 : ∀ x ∈ p2, x.block < W.heap.size := by obtain ⟨m, hm⟩ := k2; exact DataW.trod_lt m _ _ _ hm
  obtain ⟨cs0, e0, sz0⟩ := okWide_agg (.inr ⟨_, _, Try.underlying30⟩) (hval 0 30 v0 rfl rfl)
  subst e0
  have sq0 : cs0.size = 12 := sz0.trans (by kernel_rfl)
  obtain ⟨a0_0, ha0_0, wa0_0⟩ := leaf_int h0 6 0 3 .i64 (by kernel_rfl) (by kernel_rfl) Try.underlying3
  obtain ⟨a0_1, ha0_1, wa0_1⟩ := leaf_int h0 6 1 3 .i64 (by kernel_rfl) (by kernel_rfl) Try.underlying3
  obtain ⟨a0_2, ha0_2, wa0_2⟩ := leaf_int h0 6 2 3 .i64 (by kernel_rfl) (by kernel_rfl) Try.underlying3
  obtain ⟨a0_3, ha0_3, wa0_3⟩ := leaf_int h0 6 3 3 .i64 (by kernel_rfl) (by kernel_rfl) Try.underlying3
  obtain ⟨a0_4, ha0_4, wa0_4⟩ := leaf_int h0 6 4 3 .i64 (by kernel_rfl) (by kernel_rfl) Try.underlying3
  obtain ⟨a0_5, ha0_5, wa0_5⟩ := leaf_int h0 6 5 3 .i64 (by kernel_rfl) (by kernel_rfl) Try.underlying3
  obtain ⟨a0_6, ha0_6, wa0_6⟩ := leaf_int h0 6 6 3 .i64 (by kernel_rfl) (by kernel_rfl) Try.underlying3
  obtain ⟨a0_7, ha0_7, wa0_7⟩ := leaf_int h0 6 7 3 .i64 (by kernel_rfl) (by kernel_rfl) Try.underlying3
  obtain ⟨a0_8, ha0_8, wa0_8⟩ := leaf_int h0 6 8 3 .i64 (by kernel_rfl) (by kernel_rfl) Try.underlying3
  obtain ⟨a0_9, ha0_9, wa0_9⟩ := leaf_int h0 6 9 3 .i64 (by kernel_rfl) (by kernel_rfl) Try.underlying3
  obtain ⟨a0_10, ha0_10, wa0_10⟩ := leaf_int h0 6 10 3 .i64 (by kernel_rfl) (by kernel_rfl) Try.underlying3
  obtain ⟨a0_11, ha0_11, wa0_11⟩ := leaf_int h0 6 11 3 .i64 (by kernel_rfl) (by kernel_rfl) Try.underlying3
  obtain rfl : cs0 = #[.int .i64 a0_0, .int .i64 a0_1, .int .i64 a0_2, .int .i64 a0_3, .int .i64 a0_4, .int .i64 a0_5, .int .i64 a0_6, .int .i64 a0_7, .int .i64 a0_8, .int .i64 a0_9, .int .i64 a0_10, .int .i64 a0_11] := by
    apply Array.ext_getElem?
    intro j
    by_cases hj : j < 12
    · match j, hj with
      | 0, _ => exact ha0_0
      | 1, _ => exact ha0_1
      | 2, _ => exact ha0_2
      | 3, _ => exact ha0_3
      | 4, _ => exact ha0_4
      | 5, _ => exact ha0_5
      | 6, _ => exact ha0_6
      | 7, _ => exact ha0_7
      | 8, _ => exact ha0_8
      | 9, _ => exact ha0_9
      | 10, _ => exact ha0_10
      | 11, _ => exact ha0_11
    · rw [Array.getElem?_eq_none (by omega), Array.getElem?_eq_none (by simp; omega)]
  obtain ⟨a1, e1, _, _, w1⟩ := open_int Try.underlying3 (hval 1 3 v1 rfl rfl) h1
  subst e1
  obtain ⟨a2, e2, _, _, w2⟩ := open_int Try.underlying3 (hval 2 3 v2 rfl rfl) h2
  subst e2
  refine ((armed_any a0_0 a0_1 a0_2 a0_3 a0_4 a0_5 a0_6 a0_7 a0_8 a0_9 a0_10 a0_11 a1 a2 W).mono fun e W' ⟨he, bel⟩ => ?_)
  subst he
  exact ⟨_, rfl, _, _, _, [], _, [], hW', trodAll_mk1 (shut_bool Try.underlying4 _), (trodAll_cons_mk (Below.trod laidOut (by kernel_rfl) (of_decide_eq_true (by kernel_rfl)) k0 bel lt0) (trodAll_cons_mk (Below.trod laidOut (by kernel_rfl) (of_decide_eq_true (by kernel_rfl)) k1 bel lt1) (trodAll_cons_mk (Below.trod laidOut (by kernel_rfl) (of_decide_eq_true (by kernel_rfl)) k2 bel lt2) trodAll_mk0))), rfl, bel.frame _, fun h => by cases h⟩

theorem over : Rows.timerArmedRow.holds Try.pinned (OpenSpec.ofChange Rows.timerArmedSpec) :=
  OpenClaim.holds_of_wide 6 Try.f6 rfl rfl rfl rfl rfl rfl rfl ⟨rfl, rfl, rfl, rfl, rfl⟩ rfl rfl rfl rfl rfl (by kernel_rfl) Try.func6 (by kernel_rfl)
    (of_decide_eq_true (by kernel_rfl)) (by unfold Func.isWrapper; first | (rw [if_pos (by decide +kernel)]; kernel_rfl) | (rw [if_neg (by decide +kernel)]; exact ⟨rfl, rfl⟩))
    (fun os started H enc _ => lifted os started H enc)

theorem proved : Rows.TimerArmedSaid := over
#print axioms proved
end Go.Proofs.Ytfoogfhcjnpokaa.timerArmed
