/-
  TimerArmed.
-/
import Derived.Test.YtfoogfhcjnpokaaV9
import Derived.Test.YtfoogfhcjnpokaaT11
namespace Go.Proofs.Ytfoogfhcjnpokaa
open Go.RowKit
theorem wrap6 {a c : Int} (h1 : -1 ≤ a ∧ a < 1125899906842624) (h2 : 0 ≤ c ∧ c < 100000000) : IntKind.i64.wrap (a + c) = a + c := wrap_id (by omega) (by omega)
theorem soon0 {F : Fc} {x z : Int} (h : SoonP F (x, 0, z)) : evalF C0 64 Try.f20 [fc F, .agg [.int .i64 x, .int .i64 0, .int .i64 z]] [] (fun v _ => v = .bool true) := by
  have hz : z = F.b0 + 6400000 := by
    have := h.at_
    dsimp only at this
    omega
  rw [t20_0 F x z (fun v => v = .bool true), wrap6 h.r0 (by omega), wrap6 h.r1 (by omega), wrap6 h.r2 (by omega)]
  have s0 := h.s0; have s1 := h.s1; have s2 := h.s2
  dsimp only at s0 s1 s2
  have ez : (z == F.b0 + 6400000) = true := by simp [hz]
  rw [ez]
  have n0 : 0 < F.n0 → decide (F.b0 + 6400000 < z) = false := fun q => by have := s0 q; simp; omega
  have n1 : 0 < F.n1 → decide (F.b1 + 6400000 < z) = false := fun q => by have := s1 q; simp; omega
  have n2 : 0 < F.n2 → F.cf = true → decide (F.b2 + 16400000 < z) = false := fun q c => by have := s2 q c; simp; omega
  refine condSplit (fun q0 => ?_) fun q0 => ?_ <;> (try rw [n0 (of_decide_eq_true q0), cond_false]) <;> refine condSplit (fun q1 => ?_) fun q1 => ?_ <;> (try rw [n1 (of_decide_eq_true q1), cond_false]) <;> refine condSplit (fun q2 => ?_) fun q2 => ?_ <;> first | rfl | (refine condSplit (fun qc => ?_) fun qc => ?_ <;> first | rfl | (rw [n2 (of_decide_eq_true q2) qc, cond_false]))
theorem soon1 {F : Fc} {x z : Int} (h : SoonP F (x, 1, z)) : evalF C0 64 Try.f20 [fc F, .agg [.int .i64 x, .int .i64 1, .int .i64 z]] [] (fun v _ => v = .bool true) := by
  have hz : z = F.b1 + 6400000 := by
    have := h.at_
    dsimp only at this
    omega
  rw [t20_1 F x z (fun v => v = .bool true), wrap6 h.r0 (by omega), wrap6 h.r1 (by omega), wrap6 h.r2 (by omega)]
  have s0 := h.s0; have s1 := h.s1; have s2 := h.s2
  dsimp only at s0 s1 s2
  have ez : (z == F.b1 + 6400000) = true := by simp [hz]
  rw [ez]
  have n0 : 0 < F.n0 → decide (F.b0 + 6400000 < z) = false := fun q => by have := s0 q; simp; omega
  have n1 : 0 < F.n1 → decide (F.b1 + 6400000 < z) = false := fun q => by have := s1 q; simp; omega
  have n2 : 0 < F.n2 → F.cf = true → decide (F.b2 + 16400000 < z) = false := fun q c => by have := s2 q c; simp; omega
  refine condSplit (fun q0 => ?_) fun q0 => ?_ <;> (try rw [n0 (of_decide_eq_true q0), cond_false]) <;> refine condSplit (fun q1 => ?_) fun q1 => ?_ <;> (try rw [n1 (of_decide_eq_true q1), cond_false]) <;> refine condSplit (fun q2 => ?_) fun q2 => ?_ <;> first | rfl | (refine condSplit (fun qc => ?_) fun qc => ?_ <;> first | rfl | (rw [n2 (of_decide_eq_true q2) qc, cond_false]))
theorem soon2 {F : Fc} {x z : Int} (h : SoonP F (x, 2, z)) : evalF C0 64 Try.f20 [fc F, .agg [.int .i64 x, .int .i64 2, .int .i64 z]] [] (fun v _ => v = .bool true) := by
  have hz : z = F.b2 + 16400000 := by
    have := h.at_
    dsimp only at this
    omega
  rw [t20_2 F x z (fun v => v = .bool true), wrap6 h.r0 (by omega), wrap6 h.r1 (by omega), wrap6 h.r2 (by omega)]
  have s0 := h.s0; have s1 := h.s1; have s2 := h.s2
  dsimp only at s0 s1 s2
  have ez : (z == F.b2 + 16400000) = true := by simp [hz]
  rw [ez]
  have n0 : 0 < F.n0 → decide (F.b0 + 6400000 < z) = false := fun q => by have := s0 q; simp; omega
  have n1 : 0 < F.n1 → decide (F.b1 + 6400000 < z) = false := fun q => by have := s1 q; simp; omega
  have n2 : 0 < F.n2 → F.cf = true → decide (F.b2 + 16400000 < z) = false := fun q c => by have := s2 q c; simp; omega
  refine condSplit (fun q0 => ?_) fun q0 => ?_ <;> (try rw [n0 (of_decide_eq_true q0), cond_false]) <;> refine condSplit (fun q1 => ?_) fun q1 => ?_ <;> (try rw [n1 (of_decide_eq_true q1), cond_false]) <;> refine condSplit (fun q2 => ?_) fun q2 => ?_ <;> first | rfl | (refine condSplit (fun qc => ?_) fun qc => ?_ <;> first | rfl | (rw [n2 (of_decide_eq_true q2) qc, cond_false]))
section
attribute [local irreducible] evalC
theorem ok20 : SpecOK Try.prog 20 s20 := by
  intro args h base k hk
  unfold s20 at hk
  split at hk
  · rename_i k0 a0 b0 n0 k1 a1 b1 n1 k2 a2 b2 n2 cf lm pr now x y z
    obtain ⟨hs, hk⟩ := hk
    refine ⟨_, [], [], hk, plainOK g0 Try.func20 (by kernel_rfl) (by kernel_rfl) ?_ rfl rfl h base⟩
    have hy := hs.at_
    dsimp only at hy
    rcases hy with ⟨rfl, _⟩ | ⟨rfl, _⟩ | ⟨rfl, _⟩
    · exact soon0 hs
    · exact soon1 hs
    · exact soon2 hs
  · cases hk
end
theorem gs14 : GSound C14 := gs11.add ok20
def lossS (l a : Int) : Int := bif decide (0 ≤ a) then (bif decide (l < 0) then a else bif decide (a < l) then a else l) else l
def probS (p : Bool) (n : Int) (c : Bool) : Bool := bif p then true else bif decide (0 < n) then c else false
section
attribute [local irreducible] evalC
variable (x0 x1 x2 : Rw) (F : Fc) (d : D3)
abbrev f6 (l p m i : SV) : List SV := tplF 184 L6 (v6 l p m i)
abbrev m6 : LHeap := (h6 x0 x1 x2 F d).map mkB
def at6 (e : Ex) (l p m i : SV) : Ex → List SV → List BO → Prop := fun k vals B => k = e ∧ vals = v6 l p m i ∧ B = h6 x0 x1 x2 F d
theorem ids6 : allIds 3 (h6 x0 x1 x2 F d) := ⟨rfl, rfl, rfl, trivial⟩
theorem step6 {l p m i : SV} (e : Ex) {co : Code} {fr : List SV} {hp : LHeap} (h : evalC C14 0 0 co fr hp (obsN L6 M6 (seen 184 3 (at6 x0 x1 x2 F d e l p m i)))) {K : KC} (hK : K e (f6 l p m i) (m6 x0 x1 x2 F d)) : CodeOK Try.prog 0 co fr hp K :=
  (CodeOK.lookN (C := C14) ec gs14 mixed (u := 0) (Nat.zero_le _) h).st fun x vals B h => by
    obtain ⟨rfl, rfl, rfl⟩ := h
    exact hK
theorem wk6 {l p m i l' p' m' i' : SV} (h : ValW (v6 l' p' m' i') (v6 l p m i)) (hi : ltAll 3 (svIdsL (v6 l' p' m' i')) = true) : Weak 0 (f6 l p m i) (m6 x0 x1 x2 F d) (f6 l' p' m' i') (m6 x0 x1 x2 F d) :=
  tpl_weak (B := h6 x0 x1 x2 F d) (R := []) h hi (ids6 x0 x1 x2 F d) (Nat.zero_le _)
abbrev iv (n : Int) : SV := .int .i64 n
set_option maxRecDepth 100000 in
theorem row6_0 (l : Int) (p : Bool) (m : Int) (hm : 0 ≤ m ∧ m ≤ 1000) (hn : 0 ≤ F.n0 ∧ F.n0 ≤ 256) : evalC C14 0 0 c6_6 (f6 (iv l) (.bool p) (iv m) (iv 0)) (m6 x0 x1 x2 F d) (obsN L6 M6 (seen 184 3 (at6 x0 x1 x2 F d .normal (iv (lossS l F.a0)) (.bool (probS p F.n0 true)) (iv (m + F.n0)) (iv 1)))) := by
  rw [p6_60]
  have hw : IntKind.i64.wrap (m + F.n0) = m + F.n0 := wrap_id (by omega) (by omega)
  repeat' (refine condSplit (fun h => ?_) fun h => ?_)
  all_goals
    refine ⟨rfl, rfl, ⟨rfl, rfl, rfl, trivial⟩, rfl, ?_, rfl⟩
    simp only [v6, iv, lossS, probS, *, cond_true, cond_false]
set_option maxRecDepth 100000 in
theorem row6_1 (l : Int) (p : Bool) (m : Int) (hm : 0 ≤ m ∧ m ≤ 1000) (hn : 0 ≤ F.n1 ∧ F.n1 ≤ 256) : evalC C14 0 0 c6_6 (f6 (iv l) (.bool p) (iv m) (iv 1)) (m6 x0 x1 x2 F d) (obsN L6 M6 (seen 184 3 (at6 x0 x1 x2 F d .normal (iv (lossS l F.a1)) (.bool (probS p F.n1 true)) (iv (m + F.n1)) (iv 2)))) := by
  rw [p6_61]
  have hw : IntKind.i64.wrap (m + F.n1) = m + F.n1 := wrap_id (by omega) (by omega)
  repeat' (refine condSplit (fun h => ?_) fun h => ?_)
  all_goals
    refine ⟨rfl, rfl, ⟨rfl, rfl, rfl, trivial⟩, rfl, ?_, rfl⟩
    simp only [v6, iv, lossS, probS, *, cond_true, cond_false]
set_option maxRecDepth 100000 in
theorem row6_2 (l : Int) (p : Bool) (m : Int) (hm : 0 ≤ m ∧ m ≤ 1000) (hn : 0 ≤ F.n2 ∧ F.n2 ≤ 256) : evalC C14 0 0 c6_6 (f6 (iv l) (.bool p) (iv m) (iv 2)) (m6 x0 x1 x2 F d) (obsN L6 M6 (seen 184 3 (at6 x0 x1 x2 F d .normal (iv (lossS l F.a2)) (.bool (probS p F.n2 F.cf)) (iv (m + F.n2)) (iv 3)))) := by
  rw [p6_62]
  have hw : IntKind.i64.wrap (m + F.n2) = m + F.n2 := wrap_id (by omega) (by omega)
  repeat' (refine condSplit (fun h => ?_) fun h => ?_)
  all_goals
    refine ⟨rfl, rfl, ⟨rfl, rfl, rfl, trivial⟩, rfl, ?_, rfl⟩
    simp only [v6, iv, lossS, probS, *, cond_true, cond_false]
set_option maxRecDepth 100000 in
theorem loop6 (h0 : 0 ≤ F.n0 ∧ F.n0 ≤ 256) (h1 : 0 ≤ F.n1 ∧ F.n1 ≤ 256) (h2 : 0 ≤ F.n2 ∧ F.n2 ≤ 256) {K : KC} (hK : K (.exit 0) (f6 (iv (lossS (lossS (lossS (-1) F.a0) F.a1) F.a2)) (.bool (probS (probS (probS false F.n0 true) F.n1 true) F.n2 F.cf)) (iv (0 + F.n0 + F.n1 + F.n2)) .top) (m6 x0 x1 x2 F d)) : CodeOK Try.prog 0 (.loop c6_6) (f6 (iv (-1)) (.bool false) (iv (0)) (iv 0)) (m6 x0 x1 x2 F d) K := by
  refine CodeOK.monoW (K := fun x fr hp => x = .exit 0 ∧ fr = (f6 (iv (lossS (lossS (lossS (-1) F.a0) F.a1) F.a2)) (.bool (probS (probS (probS false F.n0 true) F.n1 true) F.n2 F.cf)) (iv (0 + F.n0 + F.n1 + F.n2)) (iv 3)) ∧ hp = m6 x0 x1 x2 F d) ?_ ?_
  · refine CodeOK.loop (fun k fr hp => (k = 3 ∧ fr = (f6 (iv (-1)) (.bool false) (iv (0)) (iv 0)) ∧ hp = m6 x0 x1 x2 F d) ∨ (k = 2 ∧ fr = (f6 (iv (lossS (-1) F.a0)) (.bool (probS false F.n0 true)) (iv (0 + F.n0)) (iv 1)) ∧ hp = m6 x0 x1 x2 F d) ∨ (k = 1 ∧ fr = (f6 (iv (lossS (lossS (-1) F.a0) F.a1)) (.bool (probS (probS false F.n0 true) F.n1 true)) (iv (0 + F.n0 + F.n1)) (iv 2)) ∧ hp = m6 x0 x1 x2 F d) ∨ (k = 0 ∧ fr = (f6 (iv (lossS (lossS (lossS (-1) F.a0) F.a1) F.a2)) (.bool (probS (probS (probS false F.n0 true) F.n1 true) F.n2 F.cf)) (iv (0 + F.n0 + F.n1 + F.n2)) (iv 3)) ∧ hp = m6 x0 x1 x2 F d)) ?_ (n := 3) (.inl ⟨rfl, rfl, rfl⟩)
    rintro k fr hp (⟨rfl, rfl, rfl⟩ | ⟨rfl, rfl, rfl⟩ | ⟨rfl, rfl, rfl⟩ | ⟨rfl, rfl, rfl⟩)
    · exact step6 x0 x1 x2 F d .normal (row6_0 x0 x1 x2 F d _ _ _ (by omega) h0) ⟨2, _, _, by omega, wk6 x0 x1 x2 F d ⟨.inr rfl, .inr rfl, .inr rfl, .inr rfl, .inr rfl, .inr rfl, .inr rfl, trivial⟩ rfl, .inr (.inl ⟨rfl, rfl, rfl⟩)⟩
    · exact step6 x0 x1 x2 F d .normal (row6_1 x0 x1 x2 F d _ _ _ (by omega) h1) ⟨1, _, _, by omega, wk6 x0 x1 x2 F d ⟨.inr rfl, .inr rfl, .inr rfl, .inr rfl, .inr rfl, .inr rfl, .inr rfl, trivial⟩ rfl, .inr (.inr (.inl ⟨rfl, rfl, rfl⟩))⟩
    · exact step6 x0 x1 x2 F d .normal (row6_2 x0 x1 x2 F d _ _ _ (by omega) h2) ⟨0, _, _, by omega, wk6 x0 x1 x2 F d ⟨.inr rfl, .inr rfl, .inr rfl, .inr rfl, .inr rfl, .inr rfl, .inr rfl, trivial⟩ rfl, .inr (.inr (.inr (⟨rfl, rfl, rfl⟩)))⟩
    · refine step6 x0 x1 x2 F d (.exit 0) ?_ ⟨rfl, rfl, rfl⟩
      rw [p6_63]
      exact ⟨rfl, rfl, ids6 x0 x1 x2 F d, rfl, rfl, rfl⟩
  · rintro x fr hp ⟨rfl, rfl, rfl⟩
    exact ⟨_, _, wk6 x0 x1 x2 F d (i' := .top) ⟨.inr rfl, .inr rfl, .inr rfl, .inr rfl, .inr rfl, .inr rfl, .inl rfl, trivial⟩ rfl, hK⟩
end
/-! ### What is due, round by round -/
def LI (F : Fc) (l : Int) (D : D3) : Prop := (l = -1 ∧ D = noneD) ∨ (0 ≤ l ∧ ((D = (1, 0, l) ∧ F.a0 = l) ∨ (D = (1, 1, l) ∧ F.a1 = l) ∨ (D = (1, 2, l) ∧ F.a2 = l)))
theorem LI.step {F : Fc} {l a i : Int} {D : D3} (h : LI F l D) (ha : -1 ≤ a) (hi : (i = 0 ∧ F.a0 = a) ∨ (i = 1 ∧ F.a1 = a) ∨ (i = 2 ∧ F.a2 = a)) : LI F (lossS l a) (onD (a != -1) D (1, i, a)) := by
  by_cases e : a = -1
  · rw [show (a != -1) = false by simp [e], lossS, show decide (0 ≤ a) = false by simp; omega]
    exact h
  rw [show (a != -1) = true by simp [e], lossS, show decide (0 ≤ a) = true by simp; omega, cond_true, onD, if_pos rfl]
  have new : LI F a (1, i, a) := by
    right
    refine ⟨by omega, ?_⟩
    rcases hi with ⟨rfl, q⟩ | ⟨rfl, q⟩ | ⟨rfl, q⟩
    · exact .inl ⟨rfl, q⟩
    · exact .inr (.inl ⟨rfl, q⟩)
    · exact .inr (.inr ⟨rfl, q⟩)
  rcases h with ⟨rfl, rfl⟩ | ⟨hl, hD⟩
  · exact new
  · have ed : D.2.2 = l := by rcases hD with ⟨rfl, _⟩ | ⟨rfl, _⟩ | ⟨rfl, _⟩ <;> rfl
    rw [show decide (l < 0) = false by simp; omega, cond_false, stepD, ed, show (l == -1) = false by simp; omega, Bool.false_or]
    by_cases q : a < l
    · rw [decide_eq_true q]; exact new
    · rw [decide_eq_false q]; exact .inr ⟨hl, hD⟩
def PI (c0 c1 c2 : Bool) (t0 t1 t2 : Int) (D : D3) : Prop :=
  (c0 = false ∧ c1 = false ∧ c2 = false ∧ D = noneD) ∨ (D.1 = 2 ∧ ((D.2.1 = 0 ∧ D.2.2 = t0 ∧ c0 = true) ∨ (D.2.1 = 1 ∧ D.2.2 = t1 ∧ c1 = true) ∨ (D.2.1 = 2 ∧ D.2.2 = t2 ∧ c2 = true)) ∧ (c0 = true → D.2.2 ≤ t0) ∧ (c1 = true → D.2.2 ≤ t1) ∧ (c2 = true → D.2.2 ≤ t2))
theorem two {D x : D3} (h : 0 ≤ D.2.2) : stepD D x = if x.2.2 < D.2.2 then x else D := by
  rw [stepD, show (D.2.2 == -1) = false by simp; omega, Bool.false_or]
  by_cases q : x.2.2 < D.2.2
  · rw [if_pos q, decide_eq_true q]; rfl
  · rw [if_neg q, decide_eq_false q]; rfl
theorem prob_best (c0 c1 c2 : Bool) {t0 t1 t2 : Int} (h0 : c0 = true → 0 ≤ t0) (h1 : c1 = true → 0 ≤ t1) (h2 : c2 = true → 0 ≤ t2) : PI c0 c1 c2 t0 t1 t2 (onD c2 (onD c1 (onD c0 noneD (2, 0, t0)) (2, 1, t1)) (2, 2, t2)) := by
  have z : ∀ x : D3, stepD noneD x = x := fun x => rfl
  cases c0 <;> cases c1 <;> cases c2 <;> simp only [onD, if_true, if_false, Bool.false_eq_true, z]
  · exact .inl ⟨rfl, rfl, rfl, rfl⟩
  · right; exact ⟨rfl, by simp, by simp, by simp, by simp⟩
  · right; exact ⟨rfl, by simp, by simp, by simp, by simp⟩
  · rw [two (h1 rfl)]
    right
    split <;> refine ⟨rfl, by simp, by simp, ?_, ?_⟩ <;> intro _ <;> dsimp only at * <;> omega
  · right; exact ⟨rfl, by simp, by simp, by simp, by simp⟩
  · rw [two (h0 rfl)]
    right
    split <;> refine ⟨rfl, by simp, ?_, by simp, ?_⟩ <;> intro _ <;> dsimp only at * <;> omega
  · rw [two (h0 rfl)]
    right
    split <;> refine ⟨rfl, by simp, ?_, ?_, by simp⟩ <;> intro _ <;> dsimp only at * <;> omega
  · rw [two (D := (2, 0, t0)) (h0 rfl)]
    have q0 := h0 rfl; have q1 := h1 rfl; have q2 := h2 rfl
    right
    by_cases e : t1 < t0
    · rw [if_pos e, two (D := (2, 1, t1)) q1]
      split <;> refine ⟨rfl, by simp, ?_, ?_, ?_⟩ <;> intro _ <;> dsimp only at * <;> omega
    · rw [if_neg e, two (D := (2, 0, t0)) q0]
      split <;> refine ⟨rfl, by simp, ?_, ?_, ?_⟩ <;> intro _ <;> dsimp only at * <;> omega
def l3 (F : Fc) : Int := (lossS (lossS (lossS (-1) F.a0) F.a1) F.a2)
def p3 (F : Fc) : Bool := (probS (probS (probS false F.n0 true) F.n1 true) F.n2 F.cf)
def m3 (F : Fc) : Int := (0 + F.n0 + F.n1 + F.n2)
theorem loss_inv {F : Fc} (M : Md F) : LI F (l3 F) (bestD (lossL F)) := by
  rw [lossL, best_on]
  exact LI.step (LI.step (LI.step (.inl ⟨rfl, rfl⟩) M.a0.1 (.inl ⟨rfl, rfl⟩)) M.a1.1 (.inr (.inl ⟨rfl, rfl⟩))) M.a2.1 (.inr (.inr ⟨rfl, rfl⟩))
theorem dueN {a : Int} (h : 0 ≤ a ∧ a < 1125899906842624) : dueV a 6400000 = a + 6400000 := by
  rw [dueV, if_pos (isT_true h.1 (by omega)), timeV_in (n := 6400000) (by omega) (by omega), timeV_in (by omega) (by omega)]
theorem dueN2 {a : Int} (h : 0 ≤ a ∧ a < 1125899906842624) : dueV a 16400000 = a + 16400000 := by
  rw [dueV, if_pos (isT_true h.1 (by omega)), timeV_in (n := 16400000) (by omega) (by omega), timeV_in (by omega) (by omega)]
/-- What is due, as TimerArmed asks. -/
structure ArmP (F : Fc) (d : D3) : Prop where
  sp : d.2.1 = 0 ∨ d.2.1 = 1 ∨ d.2.1 = 2
  loss : 0 ≤ l3 F → d.1 = 1 ∧ d.2.2 = l3 F ∧ ((d.2.1 = 0 ∧ F.a0 = l3 F) ∨ (d.2.1 = 1 ∧ F.a1 = l3 F) ∨ (d.2.1 = 2 ∧ F.a2 = l3 F))
  lim : l3 F < 0 → F.lm = true → d = noneD
  prob : l3 F < 0 → F.lm = false → p3 F = true → d.1 = 2 ∧ SoonP F d ∧ ((d.2.1 = 0 ∧ 0 < F.n0) ∨ (d.2.1 = 1 ∧ 0 < F.n1) ∨ (d.2.1 = 2 ∧ 0 < F.n2))
  none1 : l3 F < 0 → F.lm = false → p3 F = false → (m3 F ≠ 0 ∨ F.pr = true ∨ (F.k0 = false ∧ F.k1 = false)) → d = noneD
  last : l3 F < 0 → F.lm = false → p3 F = false → m3 F = 0 → F.pr = false → (F.k0 = true ∨ F.k1 = true) → d = (2, (if F.k1 then 1 else 0), F.now + 6400000)
theorem p3_eq (F : Fc) : p3 F = (decide (0 < F.n0) || (decide (0 < F.n1) || (decide (0 < F.n2) && F.cf))) := by
  unfold p3 probS
  cases decide (0 < F.n0) <;> cases decide (0 < F.n1) <;> cases decide (0 < F.n2) <;> cases F.cf <;> rfl
theorem uN {n b : Int} (h : (b = -1 ∧ n = 0) ∨ (0 ≤ b ∧ b < 1125899906842624 ∧ 1 ≤ n ∧ n ≤ 256)) : (decide (0 < n) && (b != -1)) = decide (0 < n) := by
  rcases h with ⟨rfl, rfl⟩ | h
  · rfl
  · rw [show (b != -1) = true by simp; omega, Bool.and_true]
theorem arm {F : Fc} (M : Md F) : ArmP F (dueC F) := by
  have e : dueC F = _ := (pickV_eq F 5000000 1 10).trans (pickD_eq M.bd.may _)
  have hl := loss_inv M
  have nL := never_best (loss_low M.bd.may)
  by_cases h : lossL F = []
  · rw [if_pos h] at e
    have hl0 : l3 F = -1 := by
      rw [h] at hl
      rcases hl with ⟨q, _⟩ | ⟨_, ⟨q, _⟩ | ⟨q, _⟩ | ⟨q, _⟩⟩
      · exact q
      all_goals exact absurd (congrArg Prod.fst q) (show ¬ (0 : Int) = 1 by decide)
    cases hlm : F.lm with
    | true =>
      rw [hlm, if_pos rfl] at e
      rw [e]
      exact ⟨.inl rfl, by omega, fun _ _ => rfl, by simp [hlm], by simp [hlm], by simp [hlm]⟩
    | false =>
      rw [hlm, if_neg (by simp)] at e
      have v0 : u0 F = decide (0 < F.n0) := uN M.b0
      have v1 : u1 F = decide (0 < F.n1) := uN M.b1
      have v2 : u2 F = (decide (0 < F.n2) && F.cf) := by
        show (decide (0 < F.n2) && (F.b2 != -1 && F.cf)) = _
        rw [← Bool.and_assoc, uN M.b2]
      have ep : (probL F (waitV 100 100 2000000 300000 0 5000000 1 10) = []) ↔ p3 F = false := by
        rw [p3_eq, ← v0, ← v1, ← v2]
        exact onL_nil
      have b0 := M.b0; have b1 := M.b1; have b2 := M.b2
      by_cases hp : p3 F = false
      · rw [if_pos (ep.2 hp)] at e
        have en := hp
        rw [p3_eq] at en
        simp only [Bool.or_eq_false_iff, decide_eq_false_iff_not] at en
        have z0 : F.n0 = 0 := by omega
        have z1 : F.n1 = 0 := by omega
        have ea : lastL F (waitV 100 100 2000000 300000 0 5000000 1 10) = if 0 < F.n2 then [] else if F.pr then [] else if F.k1 then [(2, 1, dueV F.now 6400000)] else if F.k0 then [(2, 0, dueV F.now 6400000)] else [] := by
          unfold lastL
          rw [if_neg (by omega), if_neg (by omega)]
          rfl
        rw [ea, dueN M.w] at e
        have em : m3 F = F.n2 := by unfold m3; omega
        by_cases h2 : 0 < F.n2
        · rw [if_pos h2] at e
          rw [e]
          exact ⟨.inl rfl, by omega, fun _ q => by simp [hlm] at q, by simp [hp], fun _ _ _ _ => rfl, by omega⟩
        · rw [if_neg h2] at e
          cases hpr : F.pr with
          | true =>
            rw [hpr, if_pos rfl] at e
            rw [e]
            exact ⟨.inl rfl, by omega, fun _ q => by simp [hlm] at q, by simp [hp], fun _ _ _ _ => rfl, by simp [hpr]⟩
          | false =>
            rw [hpr, if_neg (by simp)] at e
            cases hk1 : F.k1 with
            | true =>
              rw [hk1, if_pos rfl] at e
              rw [e]
              exact ⟨.inr (.inl rfl), by omega, fun _ q => by simp [hlm] at q, by simp [hp], fun _ _ _ q => by simp [hpr, hk1] at q; omega, fun _ _ _ _ _ _ => by rw [hk1]; rfl⟩
            | false =>
              rw [hk1, if_neg (by simp)] at e
              cases hk0 : F.k0 with
              | true =>
                rw [hk0, if_pos rfl] at e
                rw [e]
                exact ⟨.inl rfl, by omega, fun _ q => by simp [hlm] at q, by simp [hp], fun _ _ _ q => by simp [hpr, hk0] at q; omega, fun _ _ _ _ _ _ => by rw [hk1]; rfl⟩
              | false =>
                rw [hk0, if_neg (by simp)] at e
                rw [e]
                exact ⟨.inl rfl, by omega, fun _ q => by simp [hlm] at q, by simp [hp], fun _ _ _ _ => rfl, by simp [hk0, hk1]⟩
      · rw [if_neg (fun q => hp (ep.1 q))] at e
        have hp : p3 F = true := by simpa using hp
        have eb : bestD (probL F (waitV 100 100 2000000 300000 0 5000000 1 10)) = onD (u2 F) (onD (u1 F) (onD (u0 F) noneD (2, 0, dueV F.b0 6400000)) (2, 1, dueV F.b1 6400000)) (2, 2, dueV F.b2 16400000) := best_on _ _ _ _ _ _
        have t0 : 0 < F.n0 → dueV F.b0 6400000 = F.b0 + 6400000 := fun q => dueN (by omega)
        have t1 : 0 < F.n1 → dueV F.b1 6400000 = F.b1 + 6400000 := fun q => dueN (by omega)
        have t2 : 0 < F.n2 → dueV F.b2 16400000 = F.b2 + 16400000 := fun q => dueN2 (by omega)
        have w0 : u0 F = true → 0 < F.n0 := fun q => by rw [v0] at q; simpa using q
        have w1 : u1 F = true → 0 < F.n1 := fun q => by rw [v1] at q; simpa using q
        have w2 : u2 F = true → 0 < F.n2 ∧ F.cf = true := fun q => by rw [v2] at q; simpa using q
        have I := prob_best (u0 F) (u1 F) (u2 F) (t0 := dueV F.b0 6400000) (t1 := dueV F.b1 6400000) (t2 := dueV F.b2 16400000) (fun q => by rw [t0 (w0 q)]; have := w0 q; omega) (fun q => by rw [t1 (w1 q)]; have := w1 q; omega) (fun q => by rw [t2 (w2 q).1]; have := (w2 q).1; omega)
        rw [← eb, ← e] at I
        rcases I with ⟨i0, i1, i2, -⟩ | ⟨i1, i2, i3, i4, i5⟩
        · rw [p3_eq, ← v0, ← v1, ← v2, i0, i1, i2] at hp
          exact absurd hp (by decide)
        have S : SoonP F (dueC F) := by
          refine ⟨by omega, by omega, by omega, fun q => ?_, fun q => ?_, fun q c => ?_, ?_⟩
          · rw [← t0 q]; exact i3 (by rw [v0]; simpa using q)
          · rw [← t1 q]; exact i4 (by rw [v1]; simpa using q)
          · rw [← t2 q]; exact i5 (by rw [v2, c]; simpa using q)
          · rcases i2 with ⟨g1, g2, g3⟩ | ⟨g1, g2, g3⟩ | ⟨g1, g2, g3⟩
            · exact .inl ⟨g1, by rw [g2, t0 (w0 g3)]⟩
            · exact .inr (.inl ⟨g1, by rw [g2, t1 (w1 g3)]⟩)
            · exact .inr (.inr ⟨g1, by rw [g2, t2 (w2 g3).1]⟩)
        refine ⟨by omega, by omega, fun _ q => by simp [hlm] at q, fun _ _ _ => ⟨i1, S, ?_⟩, by simp [hp], by simp [hp]⟩
        rcases i2 with ⟨g1, g2, g3⟩ | ⟨g1, g2, g3⟩ | ⟨g1, g2, g3⟩
        · exact .inl ⟨g1, w0 g3⟩
        · exact .inr (.inl ⟨g1, w1 g3⟩)
        · exact .inr (.inr ⟨g1, (w2 g3).1⟩)
  · rw [if_neg h] at e
    rw [show decide (lossL F = []) = false by simp [h]] at nL
    rw [e]
    rcases hl with ⟨_, q⟩ | ⟨hl0, q⟩
    · rw [q] at nL; exact absurd nL (by decide)
    · rcases q with ⟨q1, q2⟩ | ⟨q1, q2⟩ | ⟨q1, q2⟩ <;> rw [q1]
      · exact ⟨.inl rfl, fun _ => ⟨rfl, rfl, .inl ⟨rfl, q2⟩⟩, by omega, by omega, by omega, by omega⟩
      · exact ⟨.inr (.inl rfl), fun _ => ⟨rfl, rfl, .inr (.inl ⟨rfl, q2⟩)⟩, by omega, by omega, by omega, by omega⟩
      · exact ⟨.inr (.inr rfl), fun _ => ⟨rfl, rfl, .inr (.inr ⟨rfl, q2⟩)⟩, by omega, by omega, by omega, by omega⟩
section
attribute [local irreducible] evalC
set_option maxRecDepth 100000 in
theorem end6_0 (x0 x1 x2 : Rw) (F : Fc) (M : Md F) (x z : Int) (A : ArmP F (x, 0, z)) (Kt : KT) : evalC C14 64 0 c6_7 (f6 (iv (l3 F)) (.bool (p3 F)) (iv (m3 F)) .top) (m6 x0 x1 x2 F (x, 0, z)) (obsE Try.prog Try.f6.results.toList L6 M6 Kt (fun v => v = .bool true)) := by
  rw [p6_70]
  have hm : mayF (Fc.mk F.k0 F.a0 F.b0 F.n0 F.k1 F.a1 F.b1 F.n1 F.k2 F.a2 F.b2 F.n2 F.cf F.lm F.pr F.now) = true := M.bd.may
  rw [hm, Bool.not_true, cond_false]
  have b0 := M.b0
  have hw := M.w
  refine condSplit (fun h1 => ?_) fun h1 => ?_
  · obtain ⟨g1, g2, g3⟩ := A.loss (of_decide_eq_true h1)
    dsimp only at g1 g2 g3
    have g4 : F.a0 = l3 F := by omega
    rw [g1, g2, g4]
    simp
  have h1 : l3 F < 0 := by simp at h1; omega
  refine condSplit (fun h2 => ?_) fun h2 => ?_
  · have := A.lim h1 h2
    simp [noneD] at this
    obtain ⟨rfl, rfl⟩ := this
    simp
  refine condSplit (fun h3 => ?_) fun h3 => ?_
  · obtain ⟨g1, g2, g3⟩ := A.prob h1 h2 h3
    dsimp only at g1 g3
    have g4 : 0 < F.n0 := by omega
    have g5 := g2.at_
    dsimp only at g5
    have g6 : IntKind.i64.wrap (F.b0 + 3000000) ≤ z := by
      rw [wrap6 (by omega) (by omega)]; omega
    subst g1
    rw [decide_eq_true g4, decide_eq_true g6]
    exact ⟨g2, rfl⟩
  have N := A.none1 h1 h2 h3
  have T := A.last h1 h2 h3
  refine condSplit (fun h4 => ?_) fun h4 => ?_
  · have h4 : m3 F = 0 := by simpa using h4
    cases hpr : F.pr with
    | true =>
      have := N (.inr (.inl hpr))
      simp [noneD] at this
      obtain ⟨rfl, rfl⟩ := this
      simp
    | false =>
      have T := T h4 hpr
      cases hk0 : F.k0 <;> cases hk1 : F.k1
      · have := N (.inr (.inr ⟨hk0, hk1⟩))
        simp [noneD] at this
        obtain ⟨rfl, rfl⟩ := this
        simp
      all_goals
        have T := T (by simp [hk0, hk1])
        rw [hk1] at T
        simp only [Prod.mk.injEq, if_true, if_false, Bool.false_eq_true] at T
        obtain ⟨rfl, g2, rfl⟩ := T
        first | exact absurd g2 (by decide) | (rw [wrap6 (by omega) (by omega)]; simp)
  · have := N (.inl (by simpa using h4))
    simp [noneD] at this
    obtain ⟨rfl, rfl⟩ := this
    simp
set_option maxRecDepth 100000 in
theorem end6_1 (x0 x1 x2 : Rw) (F : Fc) (M : Md F) (x z : Int) (A : ArmP F (x, 1, z)) (Kt : KT) : evalC C14 64 0 c6_7 (f6 (iv (l3 F)) (.bool (p3 F)) (iv (m3 F)) .top) (m6 x0 x1 x2 F (x, 1, z)) (obsE Try.prog Try.f6.results.toList L6 M6 Kt (fun v => v = .bool true)) := by
  rw [p6_71]
  have hm : mayF (Fc.mk F.k0 F.a0 F.b0 F.n0 F.k1 F.a1 F.b1 F.n1 F.k2 F.a2 F.b2 F.n2 F.cf F.lm F.pr F.now) = true := M.bd.may
  rw [hm, Bool.not_true, cond_false]
  have b1 := M.b1
  have hw := M.w
  refine condSplit (fun h1 => ?_) fun h1 => ?_
  · obtain ⟨g1, g2, g3⟩ := A.loss (of_decide_eq_true h1)
    dsimp only at g1 g2 g3
    have g4 : F.a1 = l3 F := by omega
    rw [g1, g2, g4]
    simp
  have h1 : l3 F < 0 := by simp at h1; omega
  refine condSplit (fun h2 => ?_) fun h2 => ?_
  · have := A.lim h1 h2
    simp [noneD] at this
  refine condSplit (fun h3 => ?_) fun h3 => ?_
  · obtain ⟨g1, g2, g3⟩ := A.prob h1 h2 h3
    dsimp only at g1 g3
    have g4 : 0 < F.n1 := by omega
    have g5 := g2.at_
    dsimp only at g5
    have g6 : IntKind.i64.wrap (F.b1 + 3000000) ≤ z := by
      rw [wrap6 (by omega) (by omega)]; omega
    subst g1
    rw [decide_eq_true g4, decide_eq_true g6]
    exact ⟨g2, rfl⟩
  have N := A.none1 h1 h2 h3
  have T := A.last h1 h2 h3
  refine condSplit (fun h4 => ?_) fun h4 => ?_
  · have h4 : m3 F = 0 := by simpa using h4
    cases hpr : F.pr with
    | true =>
      have := N (.inr (.inl hpr))
      simp [noneD] at this
    | false =>
      have T := T h4 hpr
      cases hk0 : F.k0 <;> cases hk1 : F.k1
      · have := N (.inr (.inr ⟨hk0, hk1⟩))
        simp [noneD] at this
      all_goals
        have T := T (by simp [hk0, hk1])
        rw [hk1] at T
        simp only [Prod.mk.injEq, if_true, if_false, Bool.false_eq_true] at T
        obtain ⟨rfl, g2, rfl⟩ := T
        first | exact absurd g2 (by decide) | (rw [wrap6 (by omega) (by omega)]; simp)
  · have := N (.inl (by simpa using h4))
    simp [noneD] at this
set_option maxRecDepth 100000 in
theorem end6_2 (x0 x1 x2 : Rw) (F : Fc) (M : Md F) (x z : Int) (A : ArmP F (x, 2, z)) (Kt : KT) : evalC C14 64 0 c6_7 (f6 (iv (l3 F)) (.bool (p3 F)) (iv (m3 F)) .top) (m6 x0 x1 x2 F (x, 2, z)) (obsE Try.prog Try.f6.results.toList L6 M6 Kt (fun v => v = .bool true)) := by
  rw [p6_72]
  have hm : mayF (Fc.mk F.k0 F.a0 F.b0 F.n0 F.k1 F.a1 F.b1 F.n1 F.k2 F.a2 F.b2 F.n2 F.cf F.lm F.pr F.now) = true := M.bd.may
  rw [hm, Bool.not_true, cond_false]
  have b2 := M.b2
  have hw := M.w
  refine condSplit (fun h1 => ?_) fun h1 => ?_
  · obtain ⟨g1, g2, g3⟩ := A.loss (of_decide_eq_true h1)
    dsimp only at g1 g2 g3
    have g4 : F.a2 = l3 F := by omega
    rw [g1, g2, g4]
    simp
  have h1 : l3 F < 0 := by simp at h1; omega
  refine condSplit (fun h2 => ?_) fun h2 => ?_
  · have := A.lim h1 h2
    simp [noneD] at this
  refine condSplit (fun h3 => ?_) fun h3 => ?_
  · obtain ⟨g1, g2, g3⟩ := A.prob h1 h2 h3
    dsimp only at g1 g3
    have g4 : 0 < F.n2 := by omega
    have g5 := g2.at_
    dsimp only at g5
    have g6 : IntKind.i64.wrap (F.b2 + 3000000) ≤ z := by
      rw [wrap6 (by omega) (by omega)]; omega
    subst g1
    rw [decide_eq_true g4, decide_eq_true g6]
    exact ⟨g2, rfl⟩
  have N := A.none1 h1 h2 h3
  have T := A.last h1 h2 h3
  refine condSplit (fun h4 => ?_) fun h4 => ?_
  · have h4 : m3 F = 0 := by simpa using h4
    cases hpr : F.pr with
    | true =>
      have := N (.inr (.inl hpr))
      simp [noneD] at this
    | false =>
      have T := T h4 hpr
      cases hk0 : F.k0 <;> cases hk1 : F.k1
      · have := N (.inr (.inr ⟨hk0, hk1⟩))
        simp [noneD] at this
      all_goals
        have T := T (by simp [hk0, hk1])
        rw [hk1] at T
        simp only [Prod.mk.injEq, if_true, if_false, Bool.false_eq_true] at T
        obtain ⟨rfl, g2, rfl⟩ := T
        first | exact absurd g2 (by decide) | (rw [wrap6 (by omega) (by omega)]; simp)
  · have := N (.inl (by simpa using h4))
    simp [noneD] at this
set_option maxRecDepth 100000 in
theorem canon6 (x0 x1 x2 : Rw) (b w : Int) : Canon Try.prog 6 [.agg (rw3 x0 x1 x2), .int .i64 b, .int .i64 w] [] fun v _ => v = .bool true := by
  refine CodeOK.body Try.func6 (by kernel_rfl) ?_
  rw [code6]
  refine CodeOK.frontN (C := C14) ec gs14 mixed (u := 0) (len := 184) (L := L6) (M := M6) [c6_0, c6_1, c6_2, c6_3, c6_4] (Nat.zero_le _) (Q := fun x vals B => ∃ F d, Md F ∧ d = dueC F ∧ at6 x0 x1 x2 F d .normal (iv (-1)) (.bool false) (iv 0) .top x vals B) ?_ ?_
  · show evalC C14 0 0 (.seq c6_0 (.seq c6_1 (.seq c6_2 (.seq c6_3 (.seq c6_4 .skip))))) (enterS 184 _) _ _
    rw [p6a]
    intro F hF d hd
    exact ⟨rfl, rfl, ids6 x0 x1 x2 F d, F, d, hF ▸ made_ok _ _ _ _ _, hd, rfl, rfl, rfl⟩
  rintro x vals B ⟨F, d, M, hd, rfl, rfl, rfl⟩
  refine CodeOK.seq (CodeOK.seq (step6 x0 x1 x2 F d (l := iv (-1)) (p := .bool false) (m := iv 0) (i := iv 0) .normal ?_ (CodeOK.block (loop6 x0 x1 x2 F d M.bd.n0 M.bd.n1 M.bd.n2 ?_))))
  · show evalC C14 0 0 c6_5 (f6 (iv (-1)) (.bool false) (iv 0) .top) (m6 x0 x1 x2 F d) _
    rw [p6_5]
    exact ⟨rfl, rfl, ids6 x0 x1 x2 F d, rfl, rfl, rfl⟩
  show CodeOK Try.prog 0 c6_7 (f6 (iv (l3 F)) (.bool (p3 F)) (iv (m3 F)) .top) (m6 x0 x1 x2 F d) _
  refine CodeOK.lookE (C := C14) ec gs14 mixed (u := 64) (len := 184) (rs := Try.f6.results.toList) (L := L6) (M := M6) (Nat.zero_le _) (Q := fun _ _ _ => False) (kr := fun v => v = .bool true) ?_ (fun x vals B h => h.elim) fun fr hp h => h
  have A := arm M
  rw [← hd] at A
  obtain ⟨x, y, z⟩ := d
  rcases A.sp with h | h | h <;> (have h : y = _ := h) <;> subst h
  · exact end6_0 x0 x1 x2 F M x z A _
  · exact end6_1 x0 x1 x2 F M x z A _
  · exact end6_2 x0 x1 x2 F M x z A _
end
theorem armed_any (p0 q0 r0 s0 p1 q1 r1 s1 p2 q2 r2 s2 b now : Int) (W : World) : Calls Try.prog 6 #[.agg #[.int .i64 p0, .int .i64 q0, .int .i64 r0, .int .i64 s0, .int .i64 p1, .int .i64 q1, .int .i64 r1, .int .i64 s1, .int .i64 p2, .int .i64 q2, .int .i64 r2, .int .i64 s2], .int .i64 b, .int .i64 now] W fun e w' => e = .returned (.bool true) ∧ Below W.heap.size W w' := by
  refine lawOf (canon6 ⟨p0, q0, r0, s0⟩ ⟨p1, q1, r1, s1⟩ ⟨p2, q2, r2, s2⟩ b now) (vs := [.agg #[.int .i64 p0, .int .i64 q0, .int .i64 r0, .int .i64 s0, .int .i64 p1, .int .i64 q1, .int .i64 r1, .int .i64 s1, .int .i64 p2, .int .i64 q2, .int .i64 r2, .int .i64 s2], .int .i64 b, .int .i64 now]) ?_ W
  simp [RL, R, rw3]
end Go.Proofs.Ytfoogfhcjnpokaa
