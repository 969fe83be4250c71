/-
  RttHeld, RttSteady: the walks, by the engine.
-/
import Derived.Test.YtepmbiahnicooaaV4
namespace Go.Proofs.Ytepmbiahnicooaa
open Go.RowKit

theorem br_tp {i r : Int} (h : BrP i 9007199254740992 r) : Tp r := ⟨h.lo, by have := h.hi; omega⟩
theorem max_abs2 (a b : Int) : (if b - a > a - b then b - a else a - b) = absI (a - b) := max_abs a b
theorem held_any (a b d : Int) (w : World) : Calls Try.prog 7 #[.int .i64 a, .int .i64 b, .int .i64 d] w fun e w' => e = .returned (.bool true) ∧ Below w.heap.size w w' := by
  refine lawOf (args := [.int .i64 a, .int .i64 b, .int .i64 d]) (evalF_ok (C := C7) ec gs7 mixed (u := 64) Try.func7 (by kernel_rfl) ?_) (vs := [.int .i64 a, .int .i64 b, .int .i64 d]) ?_ w
  · rw [t7 a b d (fun v => v = .bool true)]
    intro x hx y hy z hz
    have hx := br_tp hx
    have hy := br_tp hy
    have hz := br_tp hz
    have t0 : Tp 0 := ⟨by omega, by omega⟩
    have t1 : Tp 1 := ⟨by omega, by omega⟩
    refine ⟨⟨hx, hz, t0⟩, ⟨hy, hz, t1⟩, ?_⟩
    rintro l m s v f ⟨h⟩
    obtain ⟨x0, x1⟩ := hx
    obtain ⟨y0, y1⟩ := hy
    obtain ⟨z0, z1⟩ := hz
    have e : runR (litG [(x, z, 0), (y, z, 1)]) 2 = ⟨y, mnI x y, (7 * x + cnt x y z) / 8, (3 * (x / 2) + absI (x - cnt x y z)) / 4, 0⟩ := rfl
    rw [e] at h
    simp only [Rt.mk.injEq] at h
    obtain ⟨rfl, rfl, rfl, rfl, rfl⟩ := h
    simp only [show (if y < x then y else x) = mnI x y from rfl]
    rw [wrap_id (n := y - z) (by omega) (by omega), wrap_id (n := 7 * x) (by omega) (by omega), tdv (a := x) (by omega) (by omega) (by omega), wrap_id (n := 3 * (x / 2)) (by omega) (by omega), wrap_id (n := y - z - x) (by omega) (by omega), wrap_id (n := x - (y - z)) (by omega) (by omega),
      wrap_id (n := y - x) (by omega) (by omega), wrap_id (n := x - y) (by omega) (by omega), max_abs, max_abs]
    have a1 := absI_range (a := x - (y - z)) (n := 18014398509481982) (by omega)
    have a2 := absI_range (a := x - y) (n := 18014398509481982) (by omega)
    have hmn : 0 ≤ mnI x y := by unfold mnI; split <;> omega
    by_cases h1 : mnI x y ≤ y - z
    · have hc : cnt x y z = y - z := by rw [cnt, if_pos h1]
      rw [cb h1, cond_true, hc, wrap_id (n := 7 * x + (y - z)) (by omega) (by omega), wrap_id (n := 3 * (x / 2) + absI (x - (y - z))) (by omega) (by omega), tdv (a := 7 * x + (y - z)) (by omega) (by omega) (by omega), tdv (a := 3 * (x / 2) + absI (x - (y - z))) (by omega) (by omega) (by omega)]
      simp
    · have hc : cnt x y z = y := by rw [cnt, if_neg h1]
      rw [cf h1, cond_false, hc, wrap_id (n := 7 * x + y) (by omega) (by omega), wrap_id (n := 3 * (x / 2) + absI (x - y)) (by omega) (by omega), tdv (a := 7 * x + y) (by omega) (by omega) (by omega), tdv (a := 3 * (x / 2) + absI (x - y)) (by omega) (by omega) (by omega)]
      simp
  · simp [RL, R]

/-! ### RttSteady -/
theorem ids5 (t l m s v f : Int) : allIds 2 (h5 t l m s v f) := ⟨rfl, rfl, trivial⟩
def Q5 (t many w : Int) (i : SV) (x0 : Ex) : Ex → List SV → List BO → Prop := fun x vals B => x = x0 ∧ vals = v5 t many w i ∧ B = h5 t t t t w 3
abbrev f5 (t many w : Int) (i : SV) : List SV := tplF 63 L5 (v5 t many w i)
abbrev m5 (t w : Int) : LHeap := (h5 t t t t w 3).map mkB
theorem step5 {t many : Int} (w : Int) (i : SV) (x0 : Ex) {c : Code} {fr : List SV} {hp : LHeap} (h : evalC C7 0 0 c fr hp (obsN L5 [true, true] (seen 63 2 (Q5 t many w i x0)))) {K : KC} (hK : K x0 (f5 t many w i) (m5 t w)) : CodeOK Try.prog 0 c fr hp K :=
  (CodeOK.lookN (C := C7) ec gs7 mixed (u := 0) (Nat.zero_le _) h).st fun x vals B h => by
    obtain ⟨rfl, rfl, rfl⟩ := h
    exact hK
theorem loop5 (t many w0 : Int) (ht : Tp t) (hw : Tp w0) : CodeOK Try.prog 0 (.loop c5_5) (f5 t many w0 (.int .i64 (0 : Nat))) (m5 t w0) (fun x fr hp => x = .exit 0 ∧ ∃ (i : Nat) (w : Int), fr = f5 t many w (.int .i64 i) ∧ hp = m5 t w) := by
  refine CodeOK.loop (fun k fr hp => ∃ (i : Nat) (w : Int), i + k = 91 ∧ Tp w ∧ fr = f5 t many w (.int .i64 i) ∧ hp = m5 t w) ?_ (n := 91) ⟨0, w0, rfl, hw, rfl, rfl⟩
  rintro k fr hp ⟨i, w, hik, ⟨w0, w1⟩, rfl, rfl⟩
  have b0 := Int.emod_nonneg many (show (90 : Int) ≠ 0 by omega)
  have b1 := Int.emod_lt_of_pos many (show (0 : Int) < 90 by omega)
  by_cases h1 : (i : Int) < 1 + many % 90
  · have t0 : Tp 0 := ⟨by omega, by omega⟩
    have hi : Tp i := ⟨by omega, by omega⟩
    have hw' : Tp (w * 3 / 4) := ⟨by omega, by omega⟩
    refine step5 (w * 3 / 4) (.int .i64 ((i + 1 : Nat) : Int)) .normal ?_ ⟨k - 1, f5 t many (w * 3 / 4) (.int .i64 ((i + 1 : Nat) : Int)), m5 t (w * 3 / 4), by omega, tpl_weak (B := h5 t t t t (w * 3 / 4) 3) (R := []) ⟨.inr rfl, .inr rfl, .inr rfl, .inr rfl, .inr rfl, .inr rfl, .inr rfl, trivial⟩ rfl (ids5 _ _ _ _ _ _) (Nat.zero_le _), i + 1, w * 3 / 4, by omega, hw', rfl, rfl⟩
    rw [p5r]
    rintro r ⟨r0, r1, rfl⟩
    rw [wrap_id (n := 1 + many % 90) (by omega) (by omega), cb h1]
    simp only [bne_self_eq_false, cond_false, cond_true]
    rintro _ _ _ _ _ _ ⟨rfl, rfl, rfl, rfl, rfl, rfl⟩
    have hr : okRt ⟨t, t, t, w, 3⟩ = true := by
      show okR t t t w 3 = true
      rw [okR, if_neg (by omega), isT_true (n := 3) (by omega) (by omega), ht.isT, isT_true (n := w) w0 w1]
      simp
    have hE : smE t t t w 3 t 0 i = 0 := smE_ok hr ht t0 hi
    have hm : mnI t t = t := by unfold mnI; split <;> omega
    have hc : cnt t t 0 = t := by
      rw [cnt, hm, if_pos (by omega)]; omega
    have e1 : smM t 3 t = t := by rw [smM, if_neg (by omega), hm]
    have e2 : smS t t 3 t 0 = t := by rw [smS, if_neg (by omega), hc]; omega
    have e3 : smV t t w 3 t 0 = w * 3 / 4 := by
      rw [smV, if_neg (by omega), hc, show t - t = 0 by omega, show absI 0 = 0 from rfl, Int.add_zero, Int.mul_comm]
    have e4 : smF 3 i = 3 := by rw [smF, if_neg (by omega)]
    rw [hE, e1, e2, e3, e4, i64n i (by omega), wrap_id (n := w * 3) (by omega) (by omega), tdv (a := w * 3) (by omega) (by omega) (by omega)]
    exact ⟨rfl, rfl, ids5 _ _ _ _ _ _, rfl, rfl, rfl⟩
  · refine step5 w (.int .i64 i) (.exit 0) ?_ ⟨rfl, i, w, rfl, rfl⟩
    rw [p5r]
    rintro r ⟨r0, r1, rfl⟩
    rw [wrap_id (n := 1 + many % 90) (by omega) (by omega), cf h1]
    exact ⟨rfl, rfl, ids5 _ _ _ _ _ _, rfl, rfl, rfl⟩
theorem canon5 (t many : Int) : Canon Try.prog 5 [.int .i64 t, .int .i64 many] [] fun v _ => v = .bool true := by
  refine CodeOK.body Try.func5 (by kernel_rfl) ?_
  rw [code5]
  refine CodeOK.frontN (C := C7) ec gs7 mixed (u := 0) (len := 63) (L := L5) (M := [true, true]) [c5_0, c5_1, c5_2, c5_3] (Nat.zero_le _) (Q := fun x vals B => ∃ r, Tp r ∧ Q5 r many (r / 2) .top .normal x vals B) ?_ ?_
  · show evalC C7 0 0 _ (enterS 63 _) _ _
    simp only [List.foldr]
    rw [p5a]
    intro r hr
    have hr := br_tp hr
    refine ⟨⟨hr, ⟨by omega, by omega⟩, ⟨by omega, by omega⟩⟩, ?_⟩
    rintro l m s v f ⟨h⟩
    have e : runR (litG [(r, 0, 3)]) 1 = ⟨r, r, r, r / 2, 3⟩ := rfl
    rw [e] at h
    simp only [Rt.mk.injEq] at h
    obtain ⟨rfl, rfl, rfl, rfl, rfl⟩ := h
    have hr' := hr
    obtain ⟨r0, r1⟩ := hr'
    rw [tdv (a := r) (by omega) (by omega) (by omega)]
    exact ⟨rfl, rfl, ids5 _ _ _ _ _ _, r, hr, rfl, rfl, rfl⟩
  · rintro x vals B ⟨r, hr, rfl, rfl, rfl⟩
    have hr' := hr
    obtain ⟨r0, r1⟩ := hr'
    refine CodeOK.seq (CodeOK.seq (step5 (t := r) (many := many) (r / 2) (.int .i64 (0 : Nat)) .normal ?_ ?_))
    · rw [p5s]
      exact ⟨rfl, rfl, ids5 _ _ _ _ _ _, rfl, rfl, rfl⟩
    refine CodeOK.block ((loop5 r many (r / 2) hr ⟨by omega, by omega⟩).mono ?_)
    rintro x fr hp ⟨rfl, i, w, rfl, rfl⟩
    show CodeOK Try.prog 0 c5_6 (f5 r many w (.int .i64 i)) (m5 r w) (endK Try.prog ([4].map .tmp) _)
    refine CodeOK.fin (C := C7) ec gs7 mixed (u := 0) (M := []) (k := fun v _ => v = .bool true) ?_ fun v hp h => h
    rw [p5e]
    exact ⟨.inl rfl, rfl⟩
theorem steady_any (t many : Int) (w : World) : Calls Try.prog 5 #[.int .i64 t, .int .i64 many] w fun e w' => e = .returned (.bool true) ∧ Below w.heap.size w w' :=
  lawOf (canon5 t many) (vs := [.int .i64 t, .int .i64 many]) (by simp [RL, R]) w
end Go.Proofs.Ytepmbiahnicooaa
