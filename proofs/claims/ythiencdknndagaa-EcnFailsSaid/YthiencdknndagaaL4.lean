/-
  EcnFails: the walk, by the engine.
-/
import Derived.Test.YthiencdknndagaaL6
namespace Go.Proofs.Ythiencdknndagaa
open Go.RowKit

/-- What is looked at once a count has failed. -/
def tailT (a c : Int) (kk : SV → Prop) (s' a' b' c' : Int) (f' : Bool) : Prop :=
  ∀ (s1 a1 b1 c1 : Int) (f1 bo : Bool) (e : Int),
    AckP f' true s' a' b' c' (IntKind.i64.wrap (a + (1 : Int))) (0 : Int) (IntKind.i64.wrap (c + (1 : Int))) (1 : Int) s1 a1 b1 c1 f1 bo e →
      bif e == (0 : Int) then
        bif !bo then
          bif s1 == s' && (a1 == a' && (b1 == b' && (c1 == c' && true)) && (f1 == f' && true)) then kk (SV.bool true) else kk (SV.bool false)
        else kk (SV.bool false)
      else kk (SV.bool false)
theorem tail_ok {s a c : Int} (ha : 0 ≤ a ∧ a < 1048576) (hc : 0 ≤ c ∧ c < 1048576) (hs : 0 ≤ s ∧ s ≤ 9007199254740991) : tailT a c (fun v => v = .bool true) s a 0 c true := by
  intro s1 a1 b1 c1 f1 bo e h
  rw [wr (n := a + 1) (by omega), wr (n := c + 1) (by omega)] at h
  obtain ⟨rfl, rfl, rfl, rfl, rfl, rfl, rfl⟩ := ack_keep (okC_of (by omega) (by omega) (by omega) (by omega)) (okC_of (by omega) (by omega) (by omega) (by omega)) (by simp [aSee, aFail]) h
  simp [aFail]
/-- The first look: it fails, and the rest stands. -/
theorem head_ok {m : Bool} {s a c x y z newly : Int} (ha : 0 ≤ a ∧ a < 1048576) (hc : 0 ≤ c ∧ c < 1048576) (hs : s = a + c + 10) (hk : okC newly x y z = true)
    (hf : (if m then failsB s a 0 c x y z newly else decide (0 < newly)) = true) :
    ∀ (s' a' b' c' : Int) (f' bo : Bool) (e : Int), AckP false m s a 0 c x y z newly s' a' b' c' f' bo e →
      bif e != (0 : Int) then SV.bool false = SV.bool true
      else bif bo then SV.bool false = SV.bool true
      else bif !f' then SV.bool false = SV.bool true
      else bif !(a' == a && (b' == (0 : Int) && (c' == c && true))) then SV.bool false = SV.bool true
      else bif s' != s then SV.bool false = SV.bool true
      else tailT a c (fun v => v = .bool true) s' a' b' c' f' := by
  intro s' a' b' c' f' bo e h
  have hF : aFail false m s a 0 c x y z newly = true := by simpa [aFail] using hf
  obtain ⟨rfl, rfl, rfl, rfl, hf', rfl, rfl⟩ := ack_keep (okC_of (by omega) (by omega) (by omega) (by omega)) hk (by simp [aSee, hF]) h
  rw [hF] at hf'
  subst hf'
  simp only [bne_self_eq_false, cond_false, beq_self_eq_true, Bool.and_self, Bool.not_true]
  exact tail_ok ha hc (by omega)
theorem fails_any (a b kd by' : Int) (w : World) :
    Calls Try.prog 4 #[.agg #[.int .i64 a, .int .i64 b], .int .i64 kd, .int .i64 by'] w fun e w' => e = .returned (.bool true) ∧ Below w.heap.size w w' := by
  refine lawOf (args := [.agg [.int .i64 a, .int .i64 b], .int .i64 kd, .int .i64 by']) (evalF_ok (C := C6) ec gs6 mixed (u := 64) Try.func4 (by kernel_rfl) ?_)
    (vs := [.agg #[.int .i64 a, .int .i64 b], .int .i64 kd, .int .i64 by']) ?_ w
  · rw [t4 a b kd by' (fun v => v = .bool true)]
    intro r0 h0 r1 h1 r2 h2 r3 h3
    have b0 := h0.lo; have b0' := h0.hi; have b1 := h1.lo; have b1' := h1.hi; have b2 := h2.lo; have b2' := h2.hi; have b3 := h3.lo; have b3' := h3.hi
    clear h0 h1 h2 h3
    rw [wr (n := r0 + r1) (by omega), wr (n := r0 + r1 + 10) (by omega), wr (n := 1 + r2) (by omega), wr (n := r0 - (1 + r2)) (by omega), wr (n := r1 - (1 + r2)) (by omega), wr (n := r1 + (1 + r2)) (by omega), wr (n := r0 + 10) (by omega), wr (n := r0 + 10 + (1 + r2)) (by omega)]
    have hmin : ∀ M : Int, (if (10 : Int) < 1 + r2 then (10 : Int) else 1 + r2) = M → 1 ≤ M ∧ M ≤ 10 := by
      intro M hM; subst hM; split <;> omega
    generalize (if (10 : Int) < 1 + r2 then (10 : Int) else 1 + r2) = M at *
    have hM := hmin M rfl
    clear hmin
    rw [wr (n := r0 + M) (by omega), wr (n := M + 1) (by omega)]
    have hx : ∀ X : Int, (if r0 - (1 + r2) > 0 then r0 - (1 + r2) else 0) = X → 0 ≤ X ∧ (0 < r0 → X < r0) ∧ X ≤ r0 := by
      intro X hX; subst hX; split <;> omega
    generalize (if r0 - (1 + r2) > 0 then r0 - (1 + r2) else 0) = X at *
    have hX := hx X rfl
    clear hx
    have hy : ∀ Y : Int, (if r1 - (1 + r2) > 0 then r1 - (1 + r2) else 0) = Y → 0 ≤ Y ∧ (0 < r1 → Y < r1) ∧ Y ≤ r1 := by
      intro Y hY; subst hY; split <;> omega
    generalize (if r1 - (1 + r2) > 0 then r1 - (1 + r2) else 0) = Y at *
    have hY := hy Y rfl
    clear hy
    cases h0 : r3 == 0 with
    | true =>
      rw [cond_true]
      cases hz : r0 == 0 with
      | true => rfl
      | false =>
        have hz : r0 ≠ 0 := by simpa using hz
        exact head_ok (m := true) ⟨b0, b0'⟩ ⟨b1, b1'⟩ rfl (okC_of (by omega) (by omega) (by omega) (by omega)) (by simp [failsB]; omega)
    | false =>
    rw [cond_false]
    cases h1 : r3 == 1 with
    | true =>
      rw [cond_true]
      cases hz : r1 == 0 with
      | true => rfl
      | false =>
        have hz : r1 ≠ 0 := by simpa using hz
        exact head_ok (m := true) ⟨b0, b0'⟩ ⟨b1, b1'⟩ rfl (okC_of (by omega) (by omega) (by omega) (by omega)) (by simp [failsB]; omega)
    | false =>
    rw [cond_false]
    cases h2 : r3 == 2 with
    | true =>
      exact head_ok (m := true) ⟨b0, b0'⟩ ⟨b1, b1'⟩ rfl (okC_of (by omega) (by omega) (by omega) (by omega)) (by simp [failsB]; omega)
    | false =>
    rw [cond_false]
    cases h3 : r3 == 3 with
    | true =>
      exact head_ok (m := true) ⟨b0, b0'⟩ ⟨b1, b1'⟩ rfl (okC_of (by omega) (by omega) (by omega) (by omega)) (by simp [failsB]; omega)
    | false =>
    rw [cond_false]
    cases h4 : r3 == 4 with
    | true =>
      exact head_ok (m := true) ⟨b0, b0'⟩ ⟨b1, b1'⟩ rfl (okC_of (by omega) (by omega) (by omega) (by omega)) (by simp [failsB]; omega)
    | false =>
      exact head_ok (m := false) ⟨b0, b0'⟩ ⟨b1, b1'⟩ rfl (okC_of (by omega) (by omega) (by omega) (by omega)) (by simp; omega)
  · simp [RL, R]
end Go.Proofs.Ythiencdknndagaa
