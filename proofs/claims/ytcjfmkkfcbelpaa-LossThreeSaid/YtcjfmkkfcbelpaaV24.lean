/-
  Chapter 9 by the engine: LossThree, in numbers.
-/
import Derived.Test.YtcjfmkkfcbelpaaX25
namespace Go.Proofs.Ytcjfmkkfcbelpaa
open Go.RowKit
set_option linter.unusedVariables false
theorem prv_3 : ∀ i : Nat, prv (-1) pk3 i = (i : Int) - 1
  | 0 => rfl
  | i + 1 => by
    show (i : Int) = ((i + 1 : Nat) : Int) - 1
    omega
theorem good_3 : ∀ n : Nat, n ≤ 250 → anyBad (-1) pk3 n = false
  | 0, _ => rfl
  | n + 1, h => by
    simp only [anyBad, good_3 n (by omega), Bool.false_or, prv_3]
    exact badV_no (x := (n : Int) - 1) (n := (n : Int)) (by omega) (by omega) (show (0 : Int) ≤ 5 by decide) (show (5 : Int) ≤ 9007199254740991 by decide) (show (1 : Int) ≤ 1200 by decide) (show (1200 : Int) ≤ 65535 by decide)
theorem late_3 {n : Nat} {g : Int} (hn : n ≤ 250) (hg : 0 ≤ g ∧ g ≤ 250) : Late n pk3 g 5 8000000 1 800 0 0 := by
  refine ⟨?_, cf (by omega), cf (by omega), by kernel_rfl, by kernel_rfl⟩
  unfold chkP
  rw [good_3 n hn, cf (show ¬ 256 < n by omega)]
  rfl
theorem late_30 {g : Int} (hg : 0 ≤ g ∧ g ≤ 250) : Late 0 (fun _ => pk0) g 5 8000000 1 800 0 0 :=
  ⟨rfl, cf (by omega), cf (by omega), by kernel_rfl, by kernel_rfl⟩
/-- Those below the third one before that which was acknowledged are lost. -/
theorem lost_3 {g : Int} (hg : 0 ≤ g ∧ g ≤ 250) {i : Nat} (hi : i < 251) : lostB g 5 9000000 pk3 i = decide (i < (g - 2).toNat) := by
  have h1 : decide (dueT (pk3 i).a 9000000 ≤ 5) = false := by kernel_rfl
  unfold lostB far
  rw [h1, Bool.or_false]
  show (decide ((i : Int) ≤ g) && decide (3 ≤ IntKind.i64.wrap (g - (i : Int)))) = _
  rw [wrap_id (n := g - (i : Int)) (by omega) (by omega), Bool.eq_iff_iff]
  simp only [Bool.and_eq_true, decide_eq_true_eq]
  omega
theorem cut_3l {g : Int} {n c : Nat} {Q : Nat → Pk} (hg : 0 ≤ g ∧ g ≤ 250) (hn : n ≤ 250) (p : Cut (lostB g 5 9000000 pk3) pk3 n c Q) : c = min n (g - 2).toNat ∧ ∀ r, r < c → Q r = pk3 r := by
  obtain ⟨h1, h2⟩ := sel_congr (f := lostB g 5 9000000 pk3) (g := fun i => decide (i < (g - 2).toNat)) (i := n) fun j hj => lost_3 hg (by omega)
  obtain ⟨h3, h4⟩ := cntS_low (c := (g - 2).toNat) n
  have e : c = min n (g - 2).toNat := by rw [← p.cnt, h1, h3]
  exact ⟨e, fun r hr => by rw [p.row r hr, h2, h4 r (by omega)]⟩
theorem cut_3r {g : Int} {n c : Nat} {Q : Nat → Pk} (hg : 0 ≤ g ∧ g ≤ 250) (hn : n ≤ 250) (p : Cut (restB g 5 9000000 pk3) pk3 n c Q) : c = n - (g - 2).toNat ∧ ∀ r, r < c → Q r = pk3 ((g - 2).toNat + r) := by
  obtain ⟨h1, h2⟩ := sel_congr (f := restB g 5 9000000 pk3) (g := fun i => !decide (i < (g - 2).toNat)) (i := n) fun j hj => by
    unfold restB
    rw [lost_3 hg (by omega)]
  obtain ⟨h3, h4⟩ := cntS_high (c := (g - 2).toNat) n
  have e : c = n - (g - 2).toNat := by rw [← p.cnt, h1, h3]
  exact ⟨e, fun r hr => by rw [p.row r hr, h2, h4 r (by omega)]⟩
theorem due_3 (i : Nat) : dueP 9000000 pk3 i = 9000005 := by kernel_rfl
/-- The timer. -/
theorem tm_3 {g : Int} {n : Nat} (hg : 0 ≤ g ∧ g ≤ 250) (hn : n ≤ 250) : (tmV g 5 9000000 pk3 n = 9000005 ∧ min n (g - 2).toNat < n) ∨ (tmV g 5 9000000 pk3 n = -1 ∧ min n (g - 2).toNat = n) := by
  rcases tmS_spec (f := lostB g 5 9000000 pk3) (le := leB g pk3) (d := dueP 9000000 pk3) (n := n) fun j _ => by rw [due_3]; omega with ⟨h1, h2⟩ | ⟨⟨j, h1, h2, h3, h4⟩, _⟩
  · refine .inr ⟨h1, ?_⟩
    by_cases h : (g - 2).toNat < n
    · have h3 := h2 (g - 2).toNat h (by rw [lost_3 hg (by omega)]; exact cf (Nat.lt_irrefl _))
      have h4 : ¬ (((g - 2).toNat : Nat) : Int) ≤ g := of_decide_eq_false h3
      omega
    · omega
  · refine .inl ⟨by rw [due_3] at h4; exact h4.symm, ?_⟩
    rw [lost_3 hg (by omega)] at h2
    have := of_decide_eq_false h2
    omega
theorem want_3 {g : Int} (n : Nat) (hg : 0 ≤ g ∧ g ≤ 250) : (if (if IntKind.i64.wrap (g - 2) > 0 then IntKind.i64.wrap (g - 2) else 0) < (n : Int) then (if IntKind.i64.wrap (g - 2) > 0 then IntKind.i64.wrap (g - 2) else 0) else (n : Int)) = ((min n (g - 2).toNat : Nat) : Int) := by
  rw [wrap_id (n := g - 2) (by omega) (by omega)]
  split <;> split at * <;> omega
end Go.Proofs.Ytcjfmkkfcbelpaa
