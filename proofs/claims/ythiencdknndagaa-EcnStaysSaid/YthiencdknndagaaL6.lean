/-
  EcnGrows, EcnFails: the walks, by the engine.
-/
import Derived.Test.YthiencdknndagaaV6
namespace Go.Proofs.Ythiencdknndagaa
open Go.RowKit

theorem okC_of {s a b c : Int} (h1 : 0 ≤ s ∧ s ≤ 9007199254740991) (h2 : 0 ≤ a ∧ a ≤ 9007199254740991) (h3 : 0 ≤ b ∧ b ≤ 9007199254740991) (h4 : 0 ≤ c ∧ c ≤ 9007199254740991) : okC s a b c = true := by
  rw [okC, isN_true h1.1 h1.2, isN_true h2.1 h2.2, isN_true h3.1 h3.2, isN_true h4.1 h4.2]; rfl
theorem ack_see {s a b c x y z newly s' a' b' c' : Int} {f' bo : Bool} {e : Int} (h1 : okC s a b c = true) (h2 : okC newly x y z = true) (hf : failsB s a b c x y z newly = false)
    (h : AckP false true s a b c x y z newly s' a' b' c' f' bo e) : s' = s ∧ a' = x ∧ b' = y ∧ c' = z ∧ f' = false ∧ bo = decide (c < z) ∧ e = 0 := by
  obtain ⟨r1, r2, r3, r4, r5, r6, r7⟩ := h
  simp only [aE, h1, h2, if_true] at r1 r2 r3 r4 r5 r6 r7
  simp only [aSee, aFail, hf, zi, zb, pk, if_true, Bool.or_false, Bool.not_false, Bool.and_true, decide_true, Bool.true_and] at r1 r2 r3 r4 r5 r6
  exact ⟨r1, r2, r3, r4, r5, r6, r7⟩
theorem ack_keep {f m : Bool} {s a b c x y z newly s' a' b' c' : Int} {f' bo : Bool} {e : Int} (h1 : okC s a b c = true) (h2 : okC newly x y z = true) (hf : aSee f m s a b c x y z newly = false)
    (h : AckP f m s a b c x y z newly s' a' b' c' f' bo e) : s' = s ∧ a' = a ∧ b' = b ∧ c' = c ∧ f' = aFail f m s a b c x y z newly ∧ bo = false ∧ e = 0 := by
  obtain ⟨r1, r2, r3, r4, r5, r6, r7⟩ := h
  simp only [aE, h1, h2, if_true] at r1 r2 r3 r4 r5 r6 r7
  simp only [hf, zi, zb, pk, if_true, decide_true, Bool.true_and, Bool.false_and, Bool.false_eq_true, if_false] at r1 r2 r3 r4 r5 r6
  exact ⟨r1, r2, r3, r4, r5, r6, r7⟩

theorem wr {n : Int} (h : -9223372036854775808 ≤ n ∧ n ≤ 9223372036854775807) : IntKind.i64.wrap n = n := wrap_id h.1 h.2

theorem grows_any (a b c x y newly : Int) (w : World) :
    Calls Try.prog 6 #[.agg #[.int .i64 a, .int .i64 b, .int .i64 c], .agg #[.int .i64 x, .int .i64 y], .int .i64 newly] w fun e w' => e = .returned (.bool true) ∧ Below w.heap.size w w' := by
  refine lawOf (args := [.agg [.int .i64 a, .int .i64 b, .int .i64 c], .agg [.int .i64 x, .int .i64 y], .int .i64 newly]) (evalF_ok (C := C6) ec gs6 mixed (u := 64) Try.func6 (by kernel_rfl) ?_)
    (vs := [.agg #[.int .i64 a, .int .i64 b, .int .i64 c], .agg #[.int .i64 x, .int .i64 y], .int .i64 newly]) ?_ w
  · rw [t6 a b c x y newly (fun v => v = .bool true)]
    intro r0 h0 r1 h1 r2 h2
    have b0 := h0.lo; have b0' := h0.hi; have b1 := h1.lo; have b1' := h1.hi; have b2 := h2.lo; have b2' := h2.hi
    clear h0 h1 h2
    rw [wr (n := r2 + 1) (by omega), wr (n := r0 + r1) (by omega), wr (n := r0 + r1 + r2) (by omega)]
    rw [show (decide (0 < r2 + 1) && decide (r2 + 1 ≤ 9223372036854775807)) = true by simp; omega, cond_true]
    intro r3 h3
    have b3 := h3.lo; have b3' := h3.hi
    clear h3
    rw [wr (n := r2 - r3) (by omega), wr (n := r2 - r3 + 1) (by omega)]
    rw [show (decide (0 < r2 - r3 + 1) && decide (r2 - r3 + 1 ≤ 9223372036854775807)) = true by simp; omega, cond_true]
    intro r4 h4
    have b4 := h4.lo; have b4' := h4.hi
    clear h4
    rw [wr (n := r3 + r4) (by omega), wr (n := r3 + r4 + 1) (by omega)]
    rw [show (decide (0 < r3 + r4 + 1) && decide (r3 + r4 + 1 ≤ 9223372036854775807)) = true by simp; omega, cond_true]
    intro r5 h5
    have b5 := h5.lo; have b5' := h5.hi
    clear h5
    rw [wr (n := r0 + r3) (by omega), wr (n := r1 + r4) (by omega)]
    intro s' a' b' c' f' bo e hA
    obtain ⟨rfl, rfl, rfl, rfl, rfl, rfl, rfl⟩ := ack_see (okC_of (by omega) (by omega) (by omega) (by omega)) (okC_of (by omega) (by omega) (by omega) (by omega)) (by simp [failsB]; omega) hA
    rw [show decide (r1 < r1 + r4) = decide (0 < r4) by rw [decide_eq_decide]; omega]
    simp only [bne_self_eq_false, cond_false, beq_self_eq_true, Bool.and_self, Bool.not_true]
    intro s2 a2 b2 c2 f2 bo2 e2 hB
    obtain ⟨rfl, rfl, rfl, rfl, rfl, rfl, rfl⟩ := ack_keep (okC_of (by omega) (by omega) (by omega) (by omega)) (okC_of (by omega) (by omega) (by omega) (by omega)) (by simp [aSee]) hB
    simp [aFail]
  · simp [RL, R]
end Go.Proofs.Ythiencdknndagaa
