/-
  Chapter 9 by the engine: packets out of rows may be; when a packet was sent long enough ago; what is picked.
-/
import Derived.Test.YtcjfmkkfcbelpaaX18
namespace Go.Proofs.Ytcjfmkkfcbelpaa
open Go.RowKit
theorem prv_pk (R : Nat → Rw) : ∀ i, prv (-1) (pkR R) i = nmR R i
  | 0 => rfl
  | _ + 1 => rfl
theorem badV_no {x n a z : Int} (h1 : x < n) (h2 : n ≤ 9007199254740991) (h3 : 0 ≤ a) (h4 : a ≤ 9007199254740991) (h5 : 1 ≤ z) (h6 : z ≤ 65535) : badV x n a z = false := by
  unfold badV
  rw [cf (show ¬ n ≤ x by omega), cf (show ¬ 9007199254740991 < n by omega), isT_true h3 h4, cf (show ¬ z < 1 by omega), cf (show ¬ 65535 < z by omega)]
  rfl
theorem good_pk (R : Nat → Rw) : ∀ n : Nat, n ≤ 60 → anyBad (-1) (pkR R) n = false
  | 0, _ => rfl
  | n + 1, h => by
    have h1 := nmR_range R n
    simp only [anyBad, good_pk R n (by omega), Bool.false_or, prv_pk]
    have h2 : nmR R n < nmR R n + 1 + (R n).s % 4 := by omega
    exact badV_no (x := nmR R n) (n := nmR R n + 1 + (R n).s % 4) h2 (by omega) (show 0 ≤ (R n).t % 1125899906842624 by omega) (show (R n).t % 1125899906842624 ≤ 9007199254740991 by omega) (show 1 ≤ 1 + (R n).z % 65535 by omega) (show 1 + (R n).z % 65535 ≤ 65535 by omega)
/-- A measure of the laws. -/
structure Ms (l m s v : Int) : Prop where
  l0 : 0 ≤ l
  l1 : l < 1099511627776
  s0 : 0 ≤ s
  s1 : s < 1099511627776
  hm : m = (if s < l then s else l)
  hv : v = l / 2
theorem Ms.of {a b l m s v : Int} (h1 : l = a % 1099511627776) (h2 : s = b % 1099511627776) (h3 : m = (if s < l then s else l)) (h4 : v = l / 2) : Ms l m s v := ⟨by omega, by omega, by omega, by omega, h3, h4⟩
theorem Ms.ok {l m s v : Int} (h : Ms l m s v) : okR l m s v 0 = true := by
  obtain ⟨h1, h2, h3, h4, h5, h6⟩ := h
  unfold okR
  rw [if_neg (by omega)]
  simp only [Bool.and_eq_true, isT_iff, decide_eq_true_eq]
  split at h5 <;> omega
theorem Ms.wait {l m s v : Int} (h : Ms l m s v) : waitV l m s v 0 = if 9 * (if l > s then l else s) / 8 < 1000000 then 1000000 else 9 * (if l > s then l else s) / 8 := by
  unfold waitV greatV
  simp only [h.ok, if_true]
  obtain ⟨h1, h2, h3, h4, h5, h6⟩ := h
  have e : (if s < l then l else s) = (if l > s then l else s) := rfl
  rw [e]
  have h7 : (if l > s then l else s) < 1099511627776 := by split <;> omega
  generalize (if l > s then l else s) = G at h7
  rw [if_neg (by omega : ¬ 9007199254740991 < 9 * G / 8)]
theorem late_pk {R : Nat → Rw} {n : Nat} {g t l m s v : Int} (hn : n ≤ 60) (hg : -1 ≤ g ∧ g ≤ 9007199254740991) (ht : 0 ≤ t ∧ t ≤ 9007199254740991) (h : Ms l m s v) : Late n (pkR R) g t l m s v 0 := by
  refine ⟨?_, cf (by omega), cf (by omega), ?_, ?_⟩
  · unfold chkP
    rw [good_pk R n hn, cf (show ¬ 256 < n by omega)]
    rfl
  · rw [isT_true ht.1 ht.2]; rfl
  · unfold chkE; rw [h.ok]; rfl
theorem late_0 {g t l m s v : Int} (hg : -1 ≤ g ∧ g ≤ 9007199254740991) (ht : 0 ≤ t ∧ t ≤ 9007199254740991) (h : Ms l m s v) : Late 0 (fun _ => pk0) g t l m s v 0 :=
  ⟨rfl, cf (by omega), cf (by omega), by rw [isT_true ht.1 ht.2]; rfl, by unfold chkE; rw [h.ok]; rfl⟩
/-- Sent long enough ago. -/
theorem long_iff {l m s v a t : Int} (h : Ms l m s v) (ht : 0 ≤ t ∧ t ≤ 9007199254740991) (ha : 0 ≤ a ∧ a ≤ 9007199254740991) : decide (dueT a (waitV l m s v 0) ≤ t) = (decide (IntKind.i64.wrap (IntKind.i64.wrap (9 * (if l > s then l else s)) - 7) ≤ IntKind.i64.wrap (8 * IntKind.i64.wrap (t - a))) && decide (1000000 ≤ IntKind.i64.wrap (t - a))) := by
  have hw := waitV_range l m s v 0
  unfold dueT
  rw [wrap_id (n := a + waitV l m s v 0) (by omega) (by omega), h.wait]
  obtain ⟨h1, h2, h3, h4, h5, h6⟩ := h
  have h7 : 0 ≤ (if l > s then l else s) ∧ (if l > s then l else s) < 1099511627776 := by split <;> omega
  generalize (if l > s then l else s) = G at h7
  rw [wrap_id (n := 9 * G) (by omega) (by omega), wrap_id (n := 9 * G - 7) (by omega) (by omega), wrap_id (n := t - a) (by omega) (by omega), wrap_id (n := 8 * (t - a)) (by omega) (by omega), Bool.eq_iff_iff]
  simp only [Bool.and_eq_true, decide_eq_true_eq]
  split <;> omega
/-- What is picked in the round. -/
theorem pick_at {f : Nat → Bool} {n i : Nat} (hi : i < n) (h : f i = true) : cntS f i < cntS f n ∧ ixS f n (cntS f i) = i := by
  induction n with
  | zero => omega
  | succ n ih =>
    by_cases e : i = n
    · subst e
      refine ⟨by rw [cntS_yes h]; omega, ixS_new h⟩
    · obtain ⟨h1, h2⟩ := ih (by omega)
      refine ⟨?_, by rw [ixS_old h1, h2]⟩
      cases q : f n with
      | true => rw [cntS_yes q]; omega
      | false => rw [cntS_no q]; exact h1
theorem cnt0_no {f : Nat → Bool} {n i : Nat} (hi : i < n) (h : cntS f n = 0) : f i = false := by
  cases q : f i with
  | false => rfl
  | true => have := (pick_at hi q).1; omega
theorem Pick.at {f : Nat → Bool} {P Q : Nat → Pk} {n a i : Nat} (p : Pick f P n a Q) (hi : i < n) (h : f i = true) : cntS f i < a + 1 ∧ Q (cntS f i) = P i := by
  obtain ⟨h1, h2⟩ := pick_at hi h
  rw [p.cnt] at h1
  exact ⟨h1, by rw [p.row _ h1, h2]⟩
end Go.Proofs.Ytcjfmkkfcbelpaa
