/-
  Chapter 11 by the engine: WindowRuns.
-/
import Derived.Test.YtefjhkgkdmjopaaT6
import Derived.Test.YtefjhkgkdmjopaaV5
namespace Go.Proofs.Ytefjhkgkdmjopaa
open Go.RowKit
/-- A thing that happens, as it came: is it right, what becomes of a window. -/
def opOk (x : Th) : Bool := bif x.k % 8 == 5 then isT x.t && isT x.n else bif x.k % 8 == 6 then isT x.t && isT x.n else bif x.k % 8 == 7 then true else ackOk x.t x.s
def opW (w : Wn) (x : Th) : Wn := bif x.k % 8 == 5 then bad1 w x.t x.n else bif x.k % 8 == 6 then bad1 w x.t x.n else bif x.k % 8 == 7 then col1 w else ack1 w x.t x.s x.f
def stepR (w : Wn) (x : Th) : Wn := bif chE w (opOk x) == 0 then chW w (opOk x) (opW w x) else w
def runR' (w : Wn) (g : Nat → Th) : Nat → Wn
  | 0 => w
  | i + 1 => stepR (runR' w g i) (g i)
section
attribute [local irreducible] evalC
set_option maxRecDepth 100000
abbrev f4 (n : Nat) (e : Int) (i : SV) : List SV := tplF 154 L4 (v4 n e i)
abbrev m4 (n : Nat) (g : Nat → Th) (x y z : Int) (w : Wn) : LHeap := (h4 n g x y z w).map mkB
theorem ids4 (n : Nat) (g : Nat → Th) (x y z : Int) (w : Wn) : allIds 4 (h4 n g x y z w) := ⟨fun _ _ => rfl, rfl, rfl, rfl, trivial⟩
theorem wk4 (n : Nat) (g : Nat → Th) (x y z : Int) (w : Wn) (e : Int) {i i' : SV} (hv : ValW (v4 n e i') (v4 n e i)) (hi : ltAll 4 (svIdsL (v4 n e i')) = true) : Weak 1 (f4 n e i) (m4 n g x y z w) (f4 n e i') (m4 n g x y z w) :=
  tpl_weak (B := h4 n g x y z w) (R := []) hv hi (ids4 n g x y z w) (show 1 ≤ 4 by decide)
theorem round4 (n : Nat) (g : Nat → Th) (x y z : Int) (w : Wn) (i : Nat) (h : i < n) (h2 : i < 100) : evalC C8 0 1 c4_5 (f4 n 0 (ni i)) (m4 n g x y z w) (obsE Try.prog Try.f4.results.toList L4 M4 (seen 154 4 (atS .normal (v4 n 0 (ni (i + 1 : Nat))) (h4 n g x y z (stepR w (g i))))) (fun _ => False)) := by
  rw [p4c, eta]
  simp only [Nat.zero_add, Int.toNat_natCast, cb (show (i : Int) < n by omega), cb (show (i : Int) < 100 by omega), cb h, cond_true, Bool.and_true, i64n i (by omega), beq_self_eq_true]
  unfold stepR opOk opW
  generalize g i = t
  refine condSplit (fun q => ?_) fun q => ?_
  · simp only [q, cond_true]
    rintro r e rfl rfl r1 e1 rfl rfl
    simp only [beq_self_eq_true, bne_self_eq_false, Bool.and_self, Bool.not_true, cond_false]
    refine condSplit (fun q2 => ?_) fun q2 => ?_
    · simp only [q2, cond_true]
      exact ⟨rfl, rfl, ids4 n g x y z (chW w (isT t.t && isT t.n) (bad1 w t.t t.n)), rfl, rfl, rfl⟩
    · simp only [q2, cond_false]
      exact ⟨rfl, rfl, ids4 n g x y z w, rfl, rfl, rfl⟩
  simp only [q, cond_false]
  refine condSplit (fun q => ?_) fun q => ?_
  · simp only [q, cond_true]
    rintro r e rfl rfl r1 e1 rfl rfl
    simp only [beq_self_eq_true, bne_self_eq_false, Bool.and_self, Bool.not_true, cond_false]
    refine condSplit (fun q2 => ?_) fun q2 => ?_
    · simp only [q2, cond_true]
      exact ⟨rfl, rfl, ids4 n g x y z (chW w (isT t.t && isT t.n) (bad1 w t.t t.n)), rfl, rfl, rfl⟩
    · simp only [q2, cond_false]
      exact ⟨rfl, rfl, ids4 n g x y z w, rfl, rfl, rfl⟩
  simp only [q, cond_false]
  refine condSplit (fun q => ?_) fun q => ?_
  · simp only [q, cond_true]
    rintro r e rfl rfl r1 e1 rfl rfl
    simp only [beq_self_eq_true, bne_self_eq_false, Bool.and_self, Bool.not_true, cond_false]
    refine condSplit (fun q2 => ?_) fun q2 => ?_
    · simp only [q2, cond_true]
      exact ⟨rfl, rfl, ids4 n g x y z (chW w true (col1 w)), rfl, rfl, rfl⟩
    · simp only [q2, cond_false]
      exact ⟨rfl, rfl, ids4 n g x y z w, rfl, rfl, rfl⟩
  simp only [q, cond_false]
  rintro r e rfl rfl r1 e1 rfl rfl
  simp only [beq_self_eq_true, bne_self_eq_false, Bool.and_self, Bool.not_true, cond_false]
  refine condSplit (fun q2 => ?_) fun q2 => ?_
  · simp only [q2, cond_true]
    exact ⟨rfl, rfl, ids4 n g x y z (chW w (ackOk t.t t.s) (ack1 w t.t t.s t.f)), rfl, rfl, rfl⟩
  · simp only [q2, cond_false]
    exact ⟨rfl, rfl, ids4 n g x y z w, rfl, rfl, rfl⟩
theorem loop4 (n : Nat) (g : Nat → Th) (x y z : Int) (w : Wn) {K : KC} (hK : ∀ w', K (.exit 0) (f4 n 0 .top) (m4 n g x y z w')) : CodeOK Try.prog 1 (.loop c4_5) (f4 n 0 (ni 0)) (m4 n g x y z w) K := by
  refine CodeOK.count (n := min n 100) (F := fun i => f4 n 0 (ni i)) (H := fun i => m4 n g x y z (runR' w g i)) (fun i hi => ?_) ?_ (hK (runR' w g (min n 100)))
  · exact st8E (M := M4) (show 1 ≤ 4 by decide) .normal (round4 n g x y z (runR' w g i) i (by omega) (by omega)) ⟨rfl, wk4 n g x y z _ 0 ⟨.inr rfl, .inr rfl, .inr rfl, .inr rfl, .inr rfl, .inr rfl, trivial⟩ rfl⟩
  · refine st8E (M := M4) (rs := Try.f4.results.toList) (vals := v4 n 0 (ni (min n 100))) (B := h4 n g x y z (runR' w g (min n 100))) (show 1 ≤ 4 by decide) (.exit 0) ?_ ⟨rfl, wk4 n g x y z _ 0 ⟨.inr rfl, .inr rfl, .inr rfl, .inr rfl, .inr rfl, .inl rfl, trivial⟩ rfl⟩
    rw [p4c]
    by_cases h : n ≤ 100
    · refine condF' (cf (by omega)) ?_
      exact ⟨rfl, rfl, ids4 n g x y z _, rfl, rfl, rfl⟩
    · refine condT' (cb (by omega)) (condF' (cf (by omega)) ?_)
      exact ⟨rfl, rfl, ids4 n g x y z _, rfl, rfl, rfl⟩
theorem stop4 (n : Nat) (g : Nat → Th) (x y z : Int) (w : Wn) (e : Int) (he : (e == 0) = false) {K : KC} (hK : K (.exit 0) (f4 n e .top) (m4 n g x y z w)) : CodeOK Try.prog 1 (.loop c4_5) (f4 n e (ni 0)) (m4 n g x y z w) K := by
  refine CodeOK.count (n := 0) (F := fun i => f4 n e (ni i)) (H := fun _ => m4 n g x y z w) (fun i hi => absurd hi (Nat.not_lt_zero i)) ?_ hK
  refine st8E (M := M4) (rs := Try.f4.results.toList) (vals := v4 n e (ni 0)) (B := h4 n g x y z w) (show 1 ≤ 4 by decide) (.exit 0) ?_ ⟨rfl, wk4 n g x y z _ e ⟨.inr rfl, .inr rfl, .inr rfl, .inr rfl, .inr rfl, .inl rfl, trivial⟩ rfl⟩
  rw [p4c]
  refine condSplit (fun _ => condSplit (fun _ => condF' he ?_) fun _ => ?_) fun _ => ?_
  · exact ⟨rfl, rfl, ids4 n g x y z _, rfl, rfl, rfl⟩
  · exact ⟨rfl, rfl, ids4 n g x y z _, rfl, rfl, rfl⟩
  · exact ⟨rfl, rfl, ids4 n g x y z _, rfl, rfl, rfl⟩
theorem canon4 (n : Nat) (g : Nat → Th) (x y z : Int) : Canon Try.prog 4 [.agg [.int .i64 x, .int .i64 y, .int .i64 z], .slice 0 0 5 n] [some (bT n g)] fun v _ => v = .bool true := by
  refine CodeOK.body Try.func4 (by kernel_rfl) ?_
  rw [code4]
  refine CodeOK.frontE (C := C8) ec gs8 mixed (u := 0) (len := 154) (rs := Try.f4.results.toList) (L := L4) (M := M4) [c4_0, c4_1, c4_2, c4_3] (show 1 ≤ 4 by decide) (Q := atS .normal (v4 n (chE (newW x y z) true) .top) (h4 n g x y z (chW (newW x y z) true (newW x y z)))) (kr := fun _ => False) ?_ ?_ fun fr hp h => (endK_no' h).elim
  · show evalC C8 0 1 (.seq c4_0 (.seq c4_1 (.seq c4_2 (.seq c4_3 .skip)))) (enterS 154 _) _ (obsE Try.prog Try.f4.results.toList L4 M4 _ _)
    rw [p4a]
    rintro r e rfl rfl r1 e1 rfl rfl
    simp only [beq_self_eq_true, bne_self_eq_false, Bool.and_self, Bool.not_true, cond_false]
    exact ⟨rfl, rfl, ids4 n g x y z (chW (newW x y z) true (newW x y z)), rfl, rfl, rfl⟩
  rintro e vals B ⟨rfl, rfl, rfl⟩
  have tail : ∀ (e : Int) (w : Wn), CodeOK Try.prog 1 c4_6 (f4 n e .top) (m4 n g x y z w) (endK Try.prog Try.f4.results.toList fun v _ => v = .bool true) := fun e w => by
    refine CodeOK.eval (C := C8) ec gs8 mixed 0 ?_
    show evalC C8 0 1 c4_6 (f4 n e .top) (m4 n g x y z w) (endK Try.prog Try.f4.results.toList fun v _ => v = .bool true)
    rw [p4d n g x y z w e (fun v => v = .bool true)]
  generalize chE (newW x y z) true = e
  generalize chW (newW x y z) true (newW x y z) = w
  refine CodeOK.seq (CodeOK.seq (st8 (len := 154) (L := L4) (M := M4) (vals := v4 n e (ni 0)) (B := h4 n g x y z w) (show 1 ≤ 4 by decide) .normal ?_ (CodeOK.block ?_)))
  · show evalC C8 0 1 c4_4 (f4 n e .top) (m4 n g x y z w) _
    rw [p4b]
    exact ⟨rfl, rfl, ids4 n g x y z _, rfl, rfl, rfl⟩
  by_cases he : e = 0
  · subst he
    exact loop4 n g x y z w fun w' => tail 0 w'
  · exact stop4 n g x y z w e (beq_eq_false_iff_ne.2 he) (tail e w)
theorem canon4e (x y z : Int) : Canon Try.prog 4 [.agg [.int .i64 x, .int .i64 y, .int .i64 z], .eslice] [] fun v _ => v = .bool true := by
  refine evalF_ok (C := C8) ec gs8 mixed (u := 64) Try.func4 (by kernel_rfl) ?_
  show evalF C8 64 Try.f4 [.agg [.int .i64 x, .int .i64 y, .int .i64 z], .eslice] [] _
  rw [t4e x y z (fun v => v = .bool true)]
  rintro r e rfl rfl r1 e1 rfl rfl
  simp only [beq_self_eq_true, bne_self_eq_false, Bool.and_self, Bool.not_true, cond_false]
end
theorem runs_any (x y z : Int) (s : Option Addr) (len cap : Nat) (W : World) (h : IsThs W s len cap) : Calls Try.prog 4 #[.agg #[.int .i64 x, .int .i64 y, .int .i64 z], .slice s len cap] W fun e w' => e = .returned (.bool true) ∧ Below W.heap.size W w' := by
  rcases h.cases with rfl | ⟨hn, b1, off1, g, rfl, hc1, hB1⟩
  · exact lawOf (canon4e x y z) (RL.cons (by simp [R, RL]) (RL.cons (by simp [R]) RL.nil)) W
  · exact law1 rfl (canon4 len g x y z) hB1 (RL.cons (by simp [R, RL]) (RL.cons (by simp [R]; omega) RL.nil))
end Go.Proofs.Ytefjhkgkdmjopaa
