/-
  Chapter 9 by the engine: what the laws' walks share: measures, lists that may be, states said anew.
-/
import Derived.Test.YtcjfmkkfcbelpaaX21
import Derived.Test.YtcjfmkkfcbelpaaP5
namespace Go.Proofs.Ytcjfmkkfcbelpaa
open Go.RowKit
set_option linter.unusedVariables false
theorem isL_self (Q : Nat → Pk) (n : Nat) : IsL (bPw n Q) Q n := ⟨rfl, rfl, rfl, rfl, fun _ _ => rfl⟩
/-- The same list, whose first row is told by itself. -/
theorem isL_one' (Q : Nat → Pk) (n : Nat) : IsL ⟨6, n, fun r => bif r.beq 0 then pkC (Q 0) else pkC (Q r), true, 33⟩ Q n := ⟨rfl, rfl, rfl, rfl, fun r _ => by cases r <;> rfl⟩
theorem wb_one {ρ : Ren} {sz ty : Nat} {rw' : Bool} {l : List SV} (h : svIdsL l = []) : WB ρ ⟨sz, 1, fun r => [l].getD r [], rw', ty⟩ ⟨sz, 1, fun r => [l].getD r [], rw', ty⟩ :=
  ⟨rfl, Nat.le_refl _, fun h => h, fun _ => rfl, fun r hr => by
    obtain rfl : r = 0 := (by have : r < 1 := hr; omega)
    exact WL_self h ρ⟩
theorem wb_bR {ρ : Ren} {k : Nat} {R : Nat → Rw} : WB ρ (bR k R) (bR k R) := WB.of_rows rfl (Nat.le_refl _) (fun h => h) (fun _ => rfl) fun _ _ => ⟨rfl, rfl⟩
theorem gB_wb {Q : Nat → Pk} {c i : Nat} {ρ : Ren} {hp : LHeap} {A : Blk} (hA : hget hp i = some A) (lA : IsL A Q c) : ∀ b1, gB Q c = some b1 → ∃ b, hget hp i = some b ∧ WB ρ b1 b := fun b1 h => by
  cases c with
  | zero => cases h
  | succ c =>
    obtain rfl := Option.some.inj (show some (bPw (c + 1) Q) = some b1 from h)
    exact ⟨A, hA, lA.wb _⟩
theorem gB_ids (m : Nat) (Q : Nat → Pk) (c : Nat) : idsOkB m (.raw (gB Q c)) := by
  cases c with
  | zero => trivial
  | succ c => exact fun _ _ => rfl
theorem gB_self {Q : Nat → Pk} {c i : Nat} {ρ : Ren} {hp : LHeap} (hA : hget hp i = gB Q c) : ∀ b1, gB Q c = some b1 → ∃ b, hget hp i = some b ∧ WB ρ b1 b := fun b1 h => by
  cases c with
  | zero => cases h
  | succ c => exact gB_wb (A := bPw (c + 1) Q) hA (isL_self Q _) b1 h
theorem gV_lt {m id : Nat} (h : id < m) (c : Nat) : ltAll m (svIds (gV id c)) = true := by
  cases c with
  | zero => rfl
  | succ c =>
    show (Nat.blt id m && true) = true
    rw [Bool.and_true, Nat.blt_eq]
    exact h
/-- What the packets and the measure are. -/
structure Law (n : Nat) (P : Nat → Pk) (g t l m s v : Int) : Prop where
  hn : n + 1 ≤ 60
  ms : Ms l m s v
  g0 : -1 ≤ g ∧ g ≤ 9007199254740991
  t0 : 0 ≤ t ∧ t ≤ 9007199254740991
  pk : ∃ R, P = pkR R
theorem Law.pa {n : Nat} {P : Nat → Pk} {g t l m s v : Int} (h : Law n P g t l m s v) (i : Nat) : 0 ≤ (P i).a ∧ (P i).a ≤ 1125899906842623 := by
  obtain ⟨R, rfl⟩ := h.pk
  show 0 ≤ (R i).t % 1125899906842624 ∧ (R i).t % 1125899906842624 ≤ 1125899906842623
  omega
theorem Law.late {n : Nat} {P : Nat → Pk} {g t l m s v : Int} (h : Law n P g t l m s v) : Late (n + 1) P g t l m s v 0 := by
  obtain ⟨R, e⟩ := h.pk
  rw [e]
  exact late_pk h.hn h.g0 h.t0 h.ms
theorem Law.lost {n : Nat} {P : Nat → Pk} {g t l m s v : Int} (h : Law n P g t l m s v) (i : Nat) : lostB g t (waitV l m s v 0) P i = (decide ((P i).n ≤ g) && (decide (3 ≤ IntKind.i64.wrap (g - (P i).n)) || (decide (IntKind.i64.wrap (IntKind.i64.wrap (9 * (if l > s then l else s)) - 7) ≤ IntKind.i64.wrap (8 * IntKind.i64.wrap (t - (P i).a))) && decide (1000000 ≤ IntKind.i64.wrap (t - (P i).a))))) := by
  have := h.pa i
  unfold lostB far
  rw [long_iff h.ms h.t0 ⟨this.1, by omega⟩]
theorem Law.num {n : Nat} {P : Nat → Pk} {g t l m s v : Int} (h : Law n P g t l m s v) {i : Nat} (hi : i < n + 1) : 0 ≤ (P i).n ∧ (P i).n ≤ 300 := by
  obtain ⟨R, rfl⟩ := h.pk
  have h1 := nmR_range R (i + 1)
  have := h.hn
  show 0 ≤ nmR R (i + 1) ∧ nmR R (i + 1) ≤ 300
  omega
theorem Law.wait {n : Nat} {P : Nat → Pk} {g t l m s v : Int} (h : Law n P g t l m s v) : 1000000 ≤ waitV l m s v 0 ∧ waitV l m s v 0 ≤ 9895604649984 := by
  have hm := h.ms
  rw [hm.wait]
  obtain ⟨h1, h2, h3, h4, h5, h6⟩ := hm
  have h7 : 0 ≤ (if l > s then l else s) ∧ (if l > s then l else s) < 1099511627776 := by split <;> omega
  generalize (if l > s then l else s) = G at h7
  split <;> omega
/-- When a packet is due, in numbers. -/
theorem Law.due {n : Nat} {P : Nat → Pk} {g t l m s v : Int} (h : Law n P g t l m s v) (i : Nat) : dueT (P i).a (waitV l m s v 0) = (P i).a + waitV l m s v 0 ∧ minT ((P i).a + waitV l m s v 0) = (P i).a + waitV l m s v 0 := by
  have h1 := h.pa i
  have h2 := h.wait
  refine ⟨wrap_id (by omega) (by omega), ?_⟩
  unfold minT
  rw [if_neg (by omega)]
theorem Law.lostI {n : Nat} {P : Nat → Pk} {g t l m s v : Int} (h : Law n P g t l m s v) {i : Nat} (hi : i < n + 1) : lostB g t (waitV l m s v 0) P i = true ↔ (P i).n ≤ g ∧ (3 ≤ g - (P i).n ∨ (P i).a + waitV l m s v 0 ≤ t) := by
  have h1 := h.num hi
  have h2 := h.g0
  unfold lostB far
  rw [(h.due i).1, wrap_id (n := g - (P i).n) (by omega) (by omega)]
  simp only [Bool.and_eq_true, Bool.or_eq_true, decide_eq_true_eq]
/-- Later, and behind a greater number, no less is lost. -/
theorem Law.grow {n : Nat} {P : Nat → Pk} {g t g2 t2 l m s v : Int} (h : Law n P g t l m s v) (h2 : Law n P g2 t2 l m s v) (hg : g ≤ g2) (ht : t ≤ t2) {i : Nat} (hi : i < n + 1) (hl : lostB g t (waitV l m s v 0) P i = true) : lostB g2 t2 (waitV l m s v 0) P i = true := by
  rw [h.lostI hi] at hl
  rw [h2.lostI hi]
  omega
end Go.Proofs.Ytcjfmkkfcbelpaa
