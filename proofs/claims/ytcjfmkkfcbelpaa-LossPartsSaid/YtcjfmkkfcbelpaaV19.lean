/-
  Chapter 9 by the engine: LossParts. (Printed by genv19.py.)
-/
import Derived.Test.YtcjfmkkfcbelpaaT19
import Derived.Test.YtcjfmkkfcbelpaaV18
namespace Go.Proofs.Ytcjfmkkfcbelpaa
open Go.RowKit
set_option linter.unusedVariables false
theorem wkA {len k n : Nat} {R : Nat → Rw} {P : Nat → Pk} {g t l m s v : Int} {B : List BO} {A : Blk} (h0 : hget (B.map mkB) 0 = some (bR k R)) (h3 : hget (B.map mkB) 3 = some A) (lA : IsL A P n) (h4 : hget (B.map mkB) 4 = mkB (rO l m s v)) :
    Weak 1 (tplF len LA [.slice 3 0 6 n, .ptr 4 0 5 0, .int .i64 g, .int .i64 t]) (B.map mkB) (tplF len LA (vA n g t)) ((hA k R n P l m s v).map mkB) := by
  refine ren_weak (m0 := 1) (vals' := vA n g t) [0, 3, 4] rfl (show 1 ≤ 3 by decide) (fun j hj => by obtain rfl : j = 0 := (by omega); rfl) ⟨.inr rfl, .inr rfl, .inr rfl, .inr rfl, trivial⟩ (fun id b1 hb1 => ?_) (inj_nodup (by decide))
  match id, hb1 with
  | 0, hb1 =>
    obtain rfl := Option.some.inj (show some (bR k R) = some b1 from hb1)
    exact ⟨0, _, rfl, h0, WB.of_rows rfl (Nat.le_refl _) (fun h => h) (fun _ => rfl) fun _ _ => ⟨rfl, rfl⟩⟩
  | 1, hb1 =>
    obtain rfl := Option.some.inj (show some (bPw n P) = some b1 from hb1)
    exact ⟨3, _, rfl, h3, lA.wb _⟩
  | 2, hb1 =>
    have h := h4.trans hb1
    obtain rfl := Option.some.inj (show some _ = some b1 from hb1)
    exact ⟨4, _, rfl, h, rfl, Nat.le_refl _, (fun h => h), (fun _ => rfl), fun r hr => by
      obtain rfl : r = 0 := (by have : r < 1 := hr; omega)
      exact ⟨.inr rfl, .inr rfl, .inr rfl, .inr rfl, .inr rfl, trivial⟩⟩
  | id + 3, hb1 => exact nomatch (show (none : Option Blk) = some b1 from hb1)
theorem wb_rows1 {ρ : Ren} {sz ty : Nat} {rw' : Bool} {l : List SV} (h : svIdsL l = []) : WB ρ ⟨sz, 1, fun r => [l].getD r [], rw', ty⟩ ⟨sz, 1, fun r => [l].getD r [], rw', ty⟩ :=
  ⟨rfl, Nat.le_refl _, fun h => h, fun _ => rfl, fun r hr => by
    obtain rfl : r = 0 := (by have : r < 1 := hr; omega)
    exact WL_self h ρ⟩
theorem wkB1 {k n a : Nat} {R : Nat → Rw} {P PL : Nat → Pk} {l m s v : Int} {fr : List SV} {A : Blk} {T : LHeap} (lA : IsL A PL (a + 1)) (hv : ltAll 4 (svIdsL fr) = true) :
    Weak 1 fr (some (bR k R) :: some (bPw n P) :: mkB (rO l m s v) :: some A :: T) fr ((hA k R n P l m s v ++ [lO (a + 1) PL]).map mkB) := by
  refine heap_weak (m := 4) rfl (by decide) hv fun id b1 hb1 => ?_
  match id, hb1 with
  | 0, hb1 =>
    obtain rfl := Option.some.inj (show some (bR k R) = some b1 from hb1)
    exact ⟨_, rfl, WB.of_rows rfl (Nat.le_refl _) (fun h => h) (fun _ => rfl) fun _ _ => ⟨rfl, rfl⟩⟩
  | 1, hb1 =>
    obtain rfl := Option.some.inj (show some (bPw n P) = some b1 from hb1)
    exact ⟨_, rfl, WB.of_rows rfl (Nat.le_refl _) (fun h => h) (fun _ => rfl) fun _ _ => ⟨rfl, rfl⟩⟩
  | 2, hb1 =>
    obtain rfl := Option.some.inj (show some _ = some b1 from hb1)
    exact ⟨_, rfl, wb_rows1 rfl⟩
  | 3, hb1 =>
    obtain rfl := Option.some.inj (show some (bPw (a + 1) PL) = some b1 from hb1)
    exact ⟨A, rfl, lA.wb _⟩
  | id + 4, hb1 => exact nomatch (show (none : Option Blk) = some b1 from hb1)
theorem wkB2 {k n a b : Nat} {R : Nat → Rw} {P PL PR : Nat → Pk} {l m s v : Int} {fr : List SV} {A D : Blk} {T : LHeap} (lA : IsL A PL (a + 1)) (lD : IsL D PR (b + 1)) (hv : ltAll 5 (svIdsL fr) = true) :
    Weak 1 fr (some (bR k R) :: some (bPw n P) :: mkB (rO l m s v) :: some A :: some D :: T) fr ((hA k R n P l m s v ++ [lO (a + 1) PL, lO (b + 1) PR]).map mkB) := by
  refine heap_weak (m := 5) rfl (by decide) hv fun id b1 hb1 => ?_
  match id, hb1 with
  | 0, hb1 =>
    obtain rfl := Option.some.inj (show some (bR k R) = some b1 from hb1)
    exact ⟨_, rfl, WB.of_rows rfl (Nat.le_refl _) (fun h => h) (fun _ => rfl) fun _ _ => ⟨rfl, rfl⟩⟩
  | 1, hb1 =>
    obtain rfl := Option.some.inj (show some (bPw n P) = some b1 from hb1)
    exact ⟨_, rfl, WB.of_rows rfl (Nat.le_refl _) (fun h => h) (fun _ => rfl) fun _ _ => ⟨rfl, rfl⟩⟩
  | 2, hb1 =>
    obtain rfl := Option.some.inj (show some _ = some b1 from hb1)
    exact ⟨_, rfl, wb_rows1 rfl⟩
  | 3, hb1 =>
    obtain rfl := Option.some.inj (show some (bPw (a + 1) PL) = some b1 from hb1)
    exact ⟨A, rfl, lA.wb _⟩
  | 4, hb1 =>
    obtain rfl := Option.some.inj (show some (bPw (b + 1) PR) = some b1 from hb1)
    exact ⟨D, rfl, lD.wb _⟩
  | id + 5, hb1 => exact nomatch (show (none : Option Blk) = some b1 from hb1)
theorem isL_self (Q : Nat → Pk) (n : Nat) : IsL (bPw n Q) Q n := ⟨rfl, rfl, rfl, rfl, fun _ _ => rfl⟩
/-- The same list, whose first row is told by itself. -/
theorem isL_one' (Q : Nat → Pk) (n : Nat) : IsL ⟨6, n, fun r => bif r.beq 0 then pkC (Q 0) else pkC (Q r), true, 33⟩ Q n := ⟨rfl, rfl, rfl, rfl, fun r _ => by cases r <;> rfl⟩
/-- What the packets and the measure are. -/
structure Law (n : Nat) (P : Nat → Pk) (g t l m s v : Int) : Prop where
  hn : n + 1 ≤ 60
  ms : Ms l m s v
  g0 : -1 ≤ g ∧ g ≤ 9007199254740991
  t0 : 0 ≤ t ∧ t ≤ 9007199254740991
  pk : ∃ R, P = pkR R
theorem Law.pa {n : Nat} {P : Nat → Pk} {g t l m s v : Int} (h : Law n P g t l m s v) (i : Nat) : 0 ≤ (P i).a ∧ (P i).a ≤ 9007199254740991 := by
  obtain ⟨R, rfl⟩ := h.pk
  show 0 ≤ (R i).t % 1125899906842624 ∧ (R i).t % 1125899906842624 ≤ 9007199254740991
  omega
theorem Law.late {n : Nat} {P : Nat → Pk} {g t l m s v : Int} (h : Law n P g t l m s v) : Late (n + 1) P g t l m s v 0 := by
  obtain ⟨R, e⟩ := h.pk
  rw [e]
  exact late_pk h.hn h.g0 h.t0 h.ms
theorem Law.lost {n : Nat} {P : Nat → Pk} {g t l m s v : Int} (h : Law n P g t l m s v) (i : Nat) : lostB g t (waitV l m s v 0) P i = (decide ((P i).n ≤ g) && (decide (3 ≤ IntKind.i64.wrap (g - (P i).n)) || (decide (IntKind.i64.wrap (IntKind.i64.wrap (9 * (if l > s then l else s)) - 7) ≤ IntKind.i64.wrap (8 * IntKind.i64.wrap (t - (P i).a))) && decide (1000000 ≤ IntKind.i64.wrap (t - (P i).a))))) := by
  unfold lostB far
  rw [long_iff h.ms h.t0 (h.pa i)]
/-- What is there behind Find: three ways. -/
def QB (len k : Nat) (R : Nat → Rw) (n : Nat) (P : Nat → Pk) (g t l m s v : Int) (x : Ex) (vals : List SV) (B : List BO) : Prop := x = .normal ∧
  ((∃ a PL, Pick (lostB g t (waitV l m s v 0) P) P (n + 1) a PL ∧ cntS (restB g t (waitV l m s v 0) P) (n + 1) = 0 ∧ Weak 1 (tplF len LB vals) (B.map mkB) (tplF len LB (vB (n + 1) g t (.slice 3 0 6 (a + 1)) .nilSlice (tmV g t (waitV l m s v 0) P (n + 1)))) ((hA k R (n + 1) P l m s v ++ [lO (a + 1) PL]).map mkB)) ∨
   (∃ b PR, cntS (lostB g t (waitV l m s v 0) P) (n + 1) = 0 ∧ Pick (restB g t (waitV l m s v 0) P) P (n + 1) b PR ∧ Weak 1 (tplF len LB vals) (B.map mkB) (tplF len LB (vB (n + 1) g t .nilSlice (.slice 3 0 6 (b + 1)) (tmV g t (waitV l m s v 0) P (n + 1)))) ((hA k R (n + 1) P l m s v ++ [lO (b + 1) PR]).map mkB)) ∨
   (∃ a PL b PR, Pick (lostB g t (waitV l m s v 0) P) P (n + 1) a PL ∧ Pick (restB g t (waitV l m s v 0) P) P (n + 1) b PR ∧ Weak 1 (tplF len LB vals) (B.map mkB) (tplF len LB (vB (n + 1) g t (.slice 3 0 6 (a + 1)) (.slice 4 0 6 (b + 1)) (tmV g t (waitV l m s v 0) P (n + 1)))) ((hA k R (n + 1) P l m s v ++ [lO (a + 1) PL, lO (b + 1) PR]).map mkB)))
section
attribute [local irreducible] evalC
set_option maxRecDepth 100000
set_option maxHeartbeats 2000000
theorem findB5 {k n : Nat} {R : Nat → Rw} {P : Nat → Pk} {g t l m s v : Int} (h : Law n P g t l m s v) : evalC C18 0 1 c5_4 (tplF 163 LA (vA (n + 1) g t)) ((hA k R (n + 1) P l m s v).map mkB) (obsN LB M5b2 (seen 163 M5b2.length (QB 163 k R n P g t l m s v))) := by
  rw [p5b k R n P g t l m s v]
  refine ⟨⟨rfl, Nat.le_refl _, by have := h.hn; omega, fun r _ => ⟨P r, rfl⟩⟩, Nat.succ_le_succ (Nat.zero_le _), fun P1 e1 g' t' w e2 e3 e4 => ?_⟩
  obtain rfl : P1 = P := e1
  subst e2 e3 e4
  refine ⟨h.late, fun tm ht => ?_⟩
  subst ht
  have i0 : ∀ Q : Nat → Pk, ∀ c : Nat, ∀ r, r < c → ltAll 5 (svIdsL (pkC (Q r))) = true := fun _ _ _ _ => rfl
  have i1 : ∀ Q : Nat → Pk, ∀ c : Nat, ∀ r, r < c → ltAll 5 (svIdsL (bif r.beq 0 then pkC (Q 0) else pkC (Q r))) = true := fun Q c r _ => by cases r <;> rfl
  refine ⟨fun a PL p q => condSplit (fun _ => ?_) fun _ => ?_, fun b PR p q => condSplit (fun _ => ?_) fun _ => ?_, fun a PL b PR p q => condSplit (fun _ => condSplit (fun _ => ?_) fun _ => ?_) fun _ => condSplit (fun _ => ?_) fun _ => ?_⟩
  · exact ⟨rfl, rfl, ⟨i0 P1 _, i0 P1 _, rfl, i1 PL _, trivial, trivial⟩, rfl, .inl ⟨a, PL, p, q, wkB1 (isL_one' PL _) (by kernel_rfl)⟩⟩
  · exact ⟨rfl, rfl, ⟨i0 P1 _, i0 P1 _, rfl, i0 PL _, trivial, trivial⟩, rfl, .inl ⟨a, PL, p, q, wkB1 (isL_self PL _) (by kernel_rfl)⟩⟩
  · exact ⟨rfl, rfl, ⟨i0 P1 _, i0 P1 _, rfl, i1 PR _, trivial, trivial⟩, rfl, .inr (.inl ⟨b, PR, p, q, wkB1 (isL_one' PR _) (by kernel_rfl)⟩)⟩
  · exact ⟨rfl, rfl, ⟨i0 P1 _, i0 P1 _, rfl, i0 PR _, trivial, trivial⟩, rfl, .inr (.inl ⟨b, PR, p, q, wkB1 (isL_self PR _) (by kernel_rfl)⟩)⟩
  · exact ⟨rfl, rfl, ⟨i0 P1 _, i0 P1 _, rfl, i1 PL _, i1 PR _, trivial⟩, rfl, .inr (.inr ⟨a, PL, b, PR, p, q, wkB2 (isL_one' PL _) (isL_one' PR _) (by kernel_rfl)⟩)⟩
  · exact ⟨rfl, rfl, ⟨i0 P1 _, i0 P1 _, rfl, i1 PL _, i0 PR _, trivial⟩, rfl, .inr (.inr ⟨a, PL, b, PR, p, q, wkB2 (isL_one' PL _) (isL_self PR _) (by kernel_rfl)⟩)⟩
  · exact ⟨rfl, rfl, ⟨i0 P1 _, i0 P1 _, rfl, i0 PL _, i1 PR _, trivial⟩, rfl, .inr (.inr ⟨a, PL, b, PR, p, q, wkB2 (isL_self PL _) (isL_one' PR _) (by kernel_rfl)⟩)⟩
  · exact ⟨rfl, rfl, ⟨i0 P1 _, i0 P1 _, rfl, i0 PL _, i0 PR _, trivial⟩, rfl, .inr (.inr ⟨a, PL, b, PR, p, q, wkB2 (isL_self PL _) (isL_self PR _) (by kernel_rfl)⟩)⟩
theorem round5sn {k n : Nat} {R : Nat → Rw} {P : Nat → Pk} {g t l m s v : Int} {a : Nat} {PL : Nat → Pk} (h : Law n P g t l m s v) (pl : Pick (lostB g t (waitV l m s v 0) P) P (n + 1) a PL) (pr : cntS (restB g t (waitV l m s v 0) P) (n + 1) = 0) (i : Nat) : evalC C18 0 1 c5_8 (tplF 163 L5 (v5 (n + 1) g t (.slice 3 0 6 (a + 1)) .nilSlice (ni (cntS (lostB g t (waitV l m s v 0) P) i)) (ni (cntS (restB g t (waitV l m s v 0) P) i)) (ni i))) ((hA k R (n + 1) P l m s v ++ [lO (a + 1) PL]).map mkB) (obsE Try.prog Try.f5.results.toList L5 [false, false, true, false] (seen 163 [false, false, true, false].length fun x vals B => (i < n + 1 ∧ x = .normal ∧ vals = (v5 (n + 1) g t (.slice 3 0 6 (a + 1)) .nilSlice (ni (cntS (lostB g t (waitV l m s v 0) P) (i + 1))) (ni (cntS (restB g t (waitV l m s v 0) P) (i + 1))) (ni (i + 1))) ∧ B = (hA k R (n + 1) P l m s v ++ [lO (a + 1) PL])) ∨ (¬ i < n + 1 ∧ x = .exit 0 ∧ vals = (v5 (n + 1) g t (.slice 3 0 6 (a + 1)) .nilSlice (ni (cntS (lostB g t (waitV l m s v 0) P) i)) (ni (cntS (restB g t (waitV l m s v 0) P) i)) (ni i)) ∧ B = (hA k R (n + 1) P l m s v ++ [lO (a + 1) PL]))) fun _ => False) := by
  rw [p5esn k R n P g t l m s v a PL i (cntS (lostB g t (waitV l m s v 0) P) i) (cntS (restB g t (waitV l m s v 0) P) i)]
  simp only [Nat.zero_add, Int.toNat_natCast]
  by_cases hi : i < n + 1
  · have hn := h.hn
    have c1 : decide ((i : Int) < ((n + 1 : Nat) : Int)) = true := cb (by omega)
    have c2 : (decide (i < n + 1) && true) = true := by rw [cb hi]; rfl
    have hl := h.lost i
    have l1 := cntS_le (lostB g t (waitV l m s v 0) P) i
    have r1 := cntS_le (restB g t (waitV l m s v 0) P) i
    rw [c1, c2, i64n i (by omega)]
    generalize decide (IntKind.i64.wrap (IntKind.i64.wrap (9 * (if l > s then l else s)) - 7) ≤ IntKind.i64.wrap (8 * IntKind.i64.wrap (t - (P i).a))) = B1 at hl ⊢
    generalize decide (1000000 ≤ IntKind.i64.wrap (t - (P i).a)) = B2 at hl ⊢
    generalize decide (3 ≤ IntKind.i64.wrap (g - (P i).n)) = B3 at hl ⊢
    generalize decide ((P i).n ≤ g) = B4 at hl ⊢
    cases hlb : lostB g t (waitV l m s v 0) P i with
    | true =>
      rw [hlb] at hl
      have hr := rest_no hlb
      obtain ⟨k1, k2⟩ := pl.at hi hlb
      rw [i64n (cntS (lostB g t (waitV l m s v 0) P) i) (by omega), cntS_yes hlb, cntS_no hr]
      have k3 : ((PL (cntS (lostB g t (waitV l m s v 0) P) i)).n == (P i).n && ((PL (cntS (lostB g t (waitV l m s v 0) P) i)).a == (P i).a && ((PL (cntS (lostB g t (waitV l m s v 0) P) i)).z == (P i).z && ((PL (cntS (lostB g t (waitV l m s v 0) P) i)).b == (P i).b && ((PL (cntS (lostB g t (waitV l m s v 0) P) i)).c == (P i).c && ((PL (cntS (lostB g t (waitV l m s v 0) P) i)).d == (P i).d && true)))))) = true := eqP_iff.2 k2
      have k4 : decide ((cntS (lostB g t (waitV l m s v 0) P) i : Int) < ((a + 1 : Nat) : Int)) = true := cb (by omega)
      have k5 : (decide (cntS (lostB g t (waitV l m s v 0) P) i < a + 1) && true) = true := by rw [cb k1]; rfl
      rw [k3, k4, k5]
      cases B4 <;> cases B3 <;> cases B1 <;> cases B2 <;> first
        | exact absurd hl (by decide)
        | exact ⟨rfl, rfl, ⟨fun _ _ => rfl, fun _ _ => rfl, rfl, fun _ _ => rfl, trivial⟩, .inl ⟨hi, rfl, rfl, rfl⟩⟩
    | false =>
      have := cnt0_no hi pr
      rw [rest_yes hlb] at this
      cases this
  · rw [cf (show ¬ ((i : Int) < ((n + 1 : Nat) : Int)) by omega)]
    exact ⟨rfl, rfl, ⟨fun _ _ => rfl, fun _ _ => rfl, rfl, fun _ _ => rfl, trivial⟩, .inr ⟨hi, rfl, rfl, rfl⟩⟩
theorem round5ns {k n : Nat} {R : Nat → Rw} {P : Nat → Pk} {g t l m s v : Int} {b : Nat} {PR : Nat → Pk} (h : Law n P g t l m s v) (pl : cntS (lostB g t (waitV l m s v 0) P) (n + 1) = 0) (pr : Pick (restB g t (waitV l m s v 0) P) P (n + 1) b PR) (i : Nat) : evalC C18 0 1 c5_8 (tplF 163 L5 (v5 (n + 1) g t .nilSlice (.slice 3 0 6 (b + 1)) (ni (cntS (lostB g t (waitV l m s v 0) P) i)) (ni (cntS (restB g t (waitV l m s v 0) P) i)) (ni i))) ((hA k R (n + 1) P l m s v ++ [lO (b + 1) PR]).map mkB) (obsE Try.prog Try.f5.results.toList L5 [false, false, true, false] (seen 163 [false, false, true, false].length fun x vals B => (i < n + 1 ∧ x = .normal ∧ vals = (v5 (n + 1) g t .nilSlice (.slice 3 0 6 (b + 1)) (ni (cntS (lostB g t (waitV l m s v 0) P) (i + 1))) (ni (cntS (restB g t (waitV l m s v 0) P) (i + 1))) (ni (i + 1))) ∧ B = (hA k R (n + 1) P l m s v ++ [lO (b + 1) PR])) ∨ (¬ i < n + 1 ∧ x = .exit 0 ∧ vals = (v5 (n + 1) g t .nilSlice (.slice 3 0 6 (b + 1)) (ni (cntS (lostB g t (waitV l m s v 0) P) i)) (ni (cntS (restB g t (waitV l m s v 0) P) i)) (ni i)) ∧ B = (hA k R (n + 1) P l m s v ++ [lO (b + 1) PR]))) fun _ => False) := by
  rw [p5ens k R n P g t l m s v b PR i (cntS (lostB g t (waitV l m s v 0) P) i) (cntS (restB g t (waitV l m s v 0) P) i)]
  simp only [Nat.zero_add, Int.toNat_natCast]
  by_cases hi : i < n + 1
  · have hn := h.hn
    have c1 : decide ((i : Int) < ((n + 1 : Nat) : Int)) = true := cb (by omega)
    have c2 : (decide (i < n + 1) && true) = true := by rw [cb hi]; rfl
    have hl := h.lost i
    have l1 := cntS_le (lostB g t (waitV l m s v 0) P) i
    have r1 := cntS_le (restB g t (waitV l m s v 0) P) i
    rw [c1, c2, i64n i (by omega)]
    generalize decide (IntKind.i64.wrap (IntKind.i64.wrap (9 * (if l > s then l else s)) - 7) ≤ IntKind.i64.wrap (8 * IntKind.i64.wrap (t - (P i).a))) = B1 at hl ⊢
    generalize decide (1000000 ≤ IntKind.i64.wrap (t - (P i).a)) = B2 at hl ⊢
    generalize decide (3 ≤ IntKind.i64.wrap (g - (P i).n)) = B3 at hl ⊢
    generalize decide ((P i).n ≤ g) = B4 at hl ⊢
    cases hlb : lostB g t (waitV l m s v 0) P i with
    | true =>
      have := cnt0_no hi pl
      rw [hlb] at this
      cases this
    | false =>
      rw [hlb] at hl
      have hr := rest_yes hlb
      obtain ⟨k1, k2⟩ := pr.at hi hr
      rw [i64n (cntS (restB g t (waitV l m s v 0) P) i) (by omega), cntS_no hlb, cntS_yes hr]
      have k3 : ((PR (cntS (restB g t (waitV l m s v 0) P) i)).n == (P i).n && ((PR (cntS (restB g t (waitV l m s v 0) P) i)).a == (P i).a && ((PR (cntS (restB g t (waitV l m s v 0) P) i)).z == (P i).z && ((PR (cntS (restB g t (waitV l m s v 0) P) i)).b == (P i).b && ((PR (cntS (restB g t (waitV l m s v 0) P) i)).c == (P i).c && ((PR (cntS (restB g t (waitV l m s v 0) P) i)).d == (P i).d && true)))))) = true := eqP_iff.2 k2
      have k4 : decide ((cntS (restB g t (waitV l m s v 0) P) i : Int) < ((b + 1 : Nat) : Int)) = true := cb (by omega)
      have k5 : (decide (cntS (restB g t (waitV l m s v 0) P) i < b + 1) && true) = true := by rw [cb k1]; rfl
      rw [k3, k4, k5]
      cases B4 <;> cases B3 <;> cases B1 <;> cases B2 <;> first
        | exact absurd hl (by decide)
        | exact ⟨rfl, rfl, ⟨fun _ _ => rfl, fun _ _ => rfl, rfl, fun _ _ => rfl, trivial⟩, .inl ⟨hi, rfl, rfl, rfl⟩⟩
  · rw [cf (show ¬ ((i : Int) < ((n + 1 : Nat) : Int)) by omega)]
    exact ⟨rfl, rfl, ⟨fun _ _ => rfl, fun _ _ => rfl, rfl, fun _ _ => rfl, trivial⟩, .inr ⟨hi, rfl, rfl, rfl⟩⟩
theorem round5ss {k n : Nat} {R : Nat → Rw} {P : Nat → Pk} {g t l m s v : Int} {a : Nat} {PL : Nat → Pk} {b : Nat} {PR : Nat → Pk} (h : Law n P g t l m s v) (pl : Pick (lostB g t (waitV l m s v 0) P) P (n + 1) a PL) (pr : Pick (restB g t (waitV l m s v 0) P) P (n + 1) b PR) (i : Nat) : evalC C18 0 1 c5_8 (tplF 163 L5 (v5 (n + 1) g t (.slice 3 0 6 (a + 1)) (.slice 4 0 6 (b + 1)) (ni (cntS (lostB g t (waitV l m s v 0) P) i)) (ni (cntS (restB g t (waitV l m s v 0) P) i)) (ni i))) ((hA k R (n + 1) P l m s v ++ [lO (a + 1) PL, lO (b + 1) PR]).map mkB) (obsE Try.prog Try.f5.results.toList L5 [false, false, true, false, false] (seen 163 [false, false, true, false, false].length fun x vals B => (i < n + 1 ∧ x = .normal ∧ vals = (v5 (n + 1) g t (.slice 3 0 6 (a + 1)) (.slice 4 0 6 (b + 1)) (ni (cntS (lostB g t (waitV l m s v 0) P) (i + 1))) (ni (cntS (restB g t (waitV l m s v 0) P) (i + 1))) (ni (i + 1))) ∧ B = (hA k R (n + 1) P l m s v ++ [lO (a + 1) PL, lO (b + 1) PR])) ∨ (¬ i < n + 1 ∧ x = .exit 0 ∧ vals = (v5 (n + 1) g t (.slice 3 0 6 (a + 1)) (.slice 4 0 6 (b + 1)) (ni (cntS (lostB g t (waitV l m s v 0) P) i)) (ni (cntS (restB g t (waitV l m s v 0) P) i)) (ni i)) ∧ B = (hA k R (n + 1) P l m s v ++ [lO (a + 1) PL, lO (b + 1) PR]))) fun _ => False) := by
  rw [p5ess k R n P g t l m s v a PL b PR i (cntS (lostB g t (waitV l m s v 0) P) i) (cntS (restB g t (waitV l m s v 0) P) i)]
  simp only [Nat.zero_add, Int.toNat_natCast]
  by_cases hi : i < n + 1
  · have hn := h.hn
    have c1 : decide ((i : Int) < ((n + 1 : Nat) : Int)) = true := cb (by omega)
    have c2 : (decide (i < n + 1) && true) = true := by rw [cb hi]; rfl
    have hl := h.lost i
    have l1 := cntS_le (lostB g t (waitV l m s v 0) P) i
    have r1 := cntS_le (restB g t (waitV l m s v 0) P) i
    rw [c1, c2, i64n i (by omega)]
    generalize decide (IntKind.i64.wrap (IntKind.i64.wrap (9 * (if l > s then l else s)) - 7) ≤ IntKind.i64.wrap (8 * IntKind.i64.wrap (t - (P i).a))) = B1 at hl ⊢
    generalize decide (1000000 ≤ IntKind.i64.wrap (t - (P i).a)) = B2 at hl ⊢
    generalize decide (3 ≤ IntKind.i64.wrap (g - (P i).n)) = B3 at hl ⊢
    generalize decide ((P i).n ≤ g) = B4 at hl ⊢
    cases hlb : lostB g t (waitV l m s v 0) P i with
    | true =>
      rw [hlb] at hl
      have hr := rest_no hlb
      obtain ⟨k1, k2⟩ := pl.at hi hlb
      rw [i64n (cntS (lostB g t (waitV l m s v 0) P) i) (by omega), cntS_yes hlb, cntS_no hr]
      have k3 : ((PL (cntS (lostB g t (waitV l m s v 0) P) i)).n == (P i).n && ((PL (cntS (lostB g t (waitV l m s v 0) P) i)).a == (P i).a && ((PL (cntS (lostB g t (waitV l m s v 0) P) i)).z == (P i).z && ((PL (cntS (lostB g t (waitV l m s v 0) P) i)).b == (P i).b && ((PL (cntS (lostB g t (waitV l m s v 0) P) i)).c == (P i).c && ((PL (cntS (lostB g t (waitV l m s v 0) P) i)).d == (P i).d && true)))))) = true := eqP_iff.2 k2
      have k4 : decide ((cntS (lostB g t (waitV l m s v 0) P) i : Int) < ((a + 1 : Nat) : Int)) = true := cb (by omega)
      have k5 : (decide (cntS (lostB g t (waitV l m s v 0) P) i < a + 1) && true) = true := by rw [cb k1]; rfl
      rw [k3, k4, k5]
      cases B4 <;> cases B3 <;> cases B1 <;> cases B2 <;> first
        | exact absurd hl (by decide)
        | exact ⟨rfl, rfl, ⟨fun _ _ => rfl, fun _ _ => rfl, rfl, fun _ _ => rfl, fun _ _ => rfl, trivial⟩, .inl ⟨hi, rfl, rfl, rfl⟩⟩
    | false =>
      rw [hlb] at hl
      have hr := rest_yes hlb
      obtain ⟨k1, k2⟩ := pr.at hi hr
      rw [i64n (cntS (restB g t (waitV l m s v 0) P) i) (by omega), cntS_no hlb, cntS_yes hr]
      have k3 : ((PR (cntS (restB g t (waitV l m s v 0) P) i)).n == (P i).n && ((PR (cntS (restB g t (waitV l m s v 0) P) i)).a == (P i).a && ((PR (cntS (restB g t (waitV l m s v 0) P) i)).z == (P i).z && ((PR (cntS (restB g t (waitV l m s v 0) P) i)).b == (P i).b && ((PR (cntS (restB g t (waitV l m s v 0) P) i)).c == (P i).c && ((PR (cntS (restB g t (waitV l m s v 0) P) i)).d == (P i).d && true)))))) = true := eqP_iff.2 k2
      have k4 : decide ((cntS (restB g t (waitV l m s v 0) P) i : Int) < ((b + 1 : Nat) : Int)) = true := cb (by omega)
      have k5 : (decide (cntS (restB g t (waitV l m s v 0) P) i < b + 1) && true) = true := by rw [cb k1]; rfl
      rw [k3, k4, k5]
      cases B4 <;> cases B3 <;> cases B1 <;> cases B2 <;> first
        | exact absurd hl (by decide)
        | exact ⟨rfl, rfl, ⟨fun _ _ => rfl, fun _ _ => rfl, rfl, fun _ _ => rfl, fun _ _ => rfl, trivial⟩, .inl ⟨hi, rfl, rfl, rfl⟩⟩
  · rw [cf (show ¬ ((i : Int) < ((n + 1 : Nat) : Int)) by omega)]
    exact ⟨rfl, rfl, ⟨fun _ _ => rfl, fun _ _ => rfl, rfl, fun _ _ => rfl, fun _ _ => rfl, trivial⟩, .inr ⟨hi, rfl, rfl, rfl⟩⟩
theorem tail5sn {k n : Nat} {R : Nat → Rw} {P : Nat → Pk} {g t l m s v : Int} {a : Nat} {PL : Nat → Pk} (h : Law n P g t l m s v) (pl : Pick (lostB g t (waitV l m s v 0) P) P (n + 1) a PL) (pr : cntS (restB g t (waitV l m s v 0) P) (n + 1) = 0) (tm : Int) : CodeOK Try.prog 1 (.seq c5_5 (.seq c5_6 (.seq (.seq c5_7 (.block 0 (.loop c5_8))) c5_9))) (tplF 163 LB (vB (n + 1) g t (.slice 3 0 6 (a + 1)) .nilSlice tm)) ((hA k R (n + 1) P l m s v ++ [lO (a + 1) PL]).map mkB) (endK Try.prog Try.f5.results.toList fun v _ => v = .bool true) := by
  have hn := h.hn
  have hs := cntS_not (lostB g t (waitV l m s v 0) P) (n + 1)
  have hs : cntS (lostB g t (waitV l m s v 0) P) (n + 1) + cntS (restB g t (waitV l m s v 0) P) (n + 1) = n + 1 := hs
  have cl := pl.cnt
  have cr := pr
  have wk : ∀ {j q i i' : SV}, ValW (v5 (n + 1) g t (.slice 3 0 6 (a + 1)) .nilSlice j q i') (v5 (n + 1) g t (.slice 3 0 6 (a + 1)) .nilSlice j q i) → ltAll 4 (svIdsL (v5 (n + 1) g t (.slice 3 0 6 (a + 1)) .nilSlice j q i')) = true → Weak 1 (tplF 163 L5 (v5 (n + 1) g t (.slice 3 0 6 (a + 1)) .nilSlice j q i)) ((hA k R (n + 1) P l m s v ++ [lO (a + 1) PL]).map mkB) (tplF 163 L5 (v5 (n + 1) g t (.slice 3 0 6 (a + 1)) .nilSlice j q i')) ((hA k R (n + 1) P l m s v ++ [lO (a + 1) PL]).map mkB) := fun hv hi => tpl_weak (B := (hA k R (n + 1) P l m s v ++ [lO (a + 1) PL])) (R := []) hv hi ⟨fun _ _ => rfl, fun _ _ => rfl, rfl, fun _ _ => rfl, trivial⟩ (show 1 ≤ 4 by decide)
  refine CodeOK.frontE (C := C18) ec gs18 mixed (u := 0) (len := 163) (rs := Try.f5.results.toList) (L := L5) (M := [false, false, true, false]) [c5_5, c5_6] (show 1 ≤ 4 by decide) (Q := atS .normal (v5 (n + 1) g t (.slice 3 0 6 (a + 1)) .nilSlice (ni 0) (ni 0) .top) (hA k R (n + 1) P l m s v ++ [lO (a + 1) PL])) (kr := fun _ => False) ?_ ?_ fun fr hp h => (endK_no' h).elim
  · show evalC C18 0 1 (.seq c5_5 (.seq c5_6 .skip)) _ _ (obsE Try.prog Try.f5.results.toList L5 [false, false, true, false] _ _)
    rw [p5csn]
    refine condF' ?_ ⟨rfl, rfl, ⟨fun _ _ => rfl, fun _ _ => rfl, rfl, fun _ _ => rfl, trivial⟩, rfl, rfl, rfl⟩
    rw [wrap_id (by omega) (by omega), bne_eq_false_iff_eq]
    omega
  rintro x vals B ⟨rfl, rfl, rfl⟩
  refine CodeOK.seq (CodeOK.seq (CodeOK.at (C := C18) ec gs18 mixed (u := 0) (len := 163) (L := L5) (M := [false, false, true, false]) (vals := (v5 (n + 1) g t (.slice 3 0 6 (a + 1)) .nilSlice (ni 0) (ni 0) (ni 0))) (B := (hA k R (n + 1) P l m s v ++ [lO (a + 1) PL])) (show 1 ≤ 4 by decide) .normal ?_ (CodeOK.block ?_)))
  · show evalC C18 0 1 c5_7 (tplF 163 L5 (v5 (n + 1) g t (.slice 3 0 6 (a + 1)) .nilSlice (ni 0) (ni 0) .top)) ((hA k R (n + 1) P l m s v ++ [lO (a + 1) PL]).map mkB) _
    rw [p5dsn]
    exact ⟨rfl, rfl, ⟨fun _ _ => rfl, fun _ _ => rfl, rfl, fun _ _ => rfl, trivial⟩, rfl, rfl, rfl⟩
  refine CodeOK.loop (fun N fr hp => ∃ i : Nat, i + N = n + 1 ∧ fr = tplF 163 L5 (v5 (n + 1) g t (.slice 3 0 6 (a + 1)) .nilSlice (ni (cntS (lostB g t (waitV l m s v 0) P) i)) (ni (cntS (restB g t (waitV l m s v 0) P) i)) (ni i)) ∧ hp = (hA k R (n + 1) P l m s v ++ [lO (a + 1) PL]).map mkB) ?_ (n := n + 1) ⟨0, by omega, rfl, rfl⟩
  rintro N fr hp ⟨i, hi, rfl, rfl⟩
  refine CodeOK.lookE (C := C18) ec gs18 mixed (u := 0) (len := 163) (rs := Try.f5.results.toList) (L := L5) (M := [false, false, true, false]) (show 1 ≤ 4 by decide) (round5sn h pl pr i) ?_ fun fr hp h => (endK_no' h).elim
  rintro x vals B (⟨hin, rfl, rfl, rfl⟩ | ⟨hin, rfl, rfl, rfl⟩)
  · exact ⟨N - 1, _, _, by omega, wk ⟨.inr rfl, .inr rfl, .inr rfl, .inr rfl, .inr rfl, .inr rfl, .inr rfl, .inr rfl, .inr rfl, trivial⟩ rfl, i + 1, by omega, rfl, rfl⟩
  · obtain rfl : i = n + 1 := by omega
    refine CodeOK.pre (wk (i' := .top) ⟨.inr rfl, .inr rfl, .inr rfl, .inr rfl, .inr rfl, .inr rfl, .inr rfl, .inr rfl, .inl rfl, trivial⟩ rfl) ?_
    refine CodeOK.eval (C := C18) ec gs18 mixed 0 ?_
    show evalC C18 0 1 c5_9 (tplF 163 L5 (v5 (n + 1) g t (.slice 3 0 6 (a + 1)) .nilSlice (ni (cntS (lostB g t (waitV l m s v 0) P) (n + 1))) (ni (cntS (restB g t (waitV l m s v 0) P) (n + 1))) .top)) ((hA k R (n + 1) P l m s v ++ [lO (a + 1) PL]).map mkB) (endK Try.prog Try.f5.results.toList fun v _ => v = .bool true)
    rw [p5fsn k R n P g t l m s v a PL (cntS (lostB g t (waitV l m s v 0) P) (n + 1)) (cntS (restB g t (waitV l m s v 0) P) (n + 1)) (fun v => v = .bool true), cl, cr]
    simp
theorem tail5ns {k n : Nat} {R : Nat → Rw} {P : Nat → Pk} {g t l m s v : Int} {b : Nat} {PR : Nat → Pk} (h : Law n P g t l m s v) (pl : cntS (lostB g t (waitV l m s v 0) P) (n + 1) = 0) (pr : Pick (restB g t (waitV l m s v 0) P) P (n + 1) b PR) (tm : Int) : CodeOK Try.prog 1 (.seq c5_5 (.seq c5_6 (.seq (.seq c5_7 (.block 0 (.loop c5_8))) c5_9))) (tplF 163 LB (vB (n + 1) g t .nilSlice (.slice 3 0 6 (b + 1)) tm)) ((hA k R (n + 1) P l m s v ++ [lO (b + 1) PR]).map mkB) (endK Try.prog Try.f5.results.toList fun v _ => v = .bool true) := by
  have hn := h.hn
  have hs := cntS_not (lostB g t (waitV l m s v 0) P) (n + 1)
  have hs : cntS (lostB g t (waitV l m s v 0) P) (n + 1) + cntS (restB g t (waitV l m s v 0) P) (n + 1) = n + 1 := hs
  have cl := pl
  have cr := pr.cnt
  have wk : ∀ {j q i i' : SV}, ValW (v5 (n + 1) g t .nilSlice (.slice 3 0 6 (b + 1)) j q i') (v5 (n + 1) g t .nilSlice (.slice 3 0 6 (b + 1)) j q i) → ltAll 4 (svIdsL (v5 (n + 1) g t .nilSlice (.slice 3 0 6 (b + 1)) j q i')) = true → Weak 1 (tplF 163 L5 (v5 (n + 1) g t .nilSlice (.slice 3 0 6 (b + 1)) j q i)) ((hA k R (n + 1) P l m s v ++ [lO (b + 1) PR]).map mkB) (tplF 163 L5 (v5 (n + 1) g t .nilSlice (.slice 3 0 6 (b + 1)) j q i')) ((hA k R (n + 1) P l m s v ++ [lO (b + 1) PR]).map mkB) := fun hv hi => tpl_weak (B := (hA k R (n + 1) P l m s v ++ [lO (b + 1) PR])) (R := []) hv hi ⟨fun _ _ => rfl, fun _ _ => rfl, rfl, fun _ _ => rfl, trivial⟩ (show 1 ≤ 4 by decide)
  refine CodeOK.frontE (C := C18) ec gs18 mixed (u := 0) (len := 163) (rs := Try.f5.results.toList) (L := L5) (M := [false, false, true, false]) [c5_5, c5_6] (show 1 ≤ 4 by decide) (Q := atS .normal (v5 (n + 1) g t .nilSlice (.slice 3 0 6 (b + 1)) (ni 0) (ni 0) .top) (hA k R (n + 1) P l m s v ++ [lO (b + 1) PR])) (kr := fun _ => False) ?_ ?_ fun fr hp h => (endK_no' h).elim
  · show evalC C18 0 1 (.seq c5_5 (.seq c5_6 .skip)) _ _ (obsE Try.prog Try.f5.results.toList L5 [false, false, true, false] _ _)
    rw [p5cns]
    refine condF' ?_ ⟨rfl, rfl, ⟨fun _ _ => rfl, fun _ _ => rfl, rfl, fun _ _ => rfl, trivial⟩, rfl, rfl, rfl⟩
    rw [wrap_id (by omega) (by omega), bne_eq_false_iff_eq]
    omega
  rintro x vals B ⟨rfl, rfl, rfl⟩
  refine CodeOK.seq (CodeOK.seq (CodeOK.at (C := C18) ec gs18 mixed (u := 0) (len := 163) (L := L5) (M := [false, false, true, false]) (vals := (v5 (n + 1) g t .nilSlice (.slice 3 0 6 (b + 1)) (ni 0) (ni 0) (ni 0))) (B := (hA k R (n + 1) P l m s v ++ [lO (b + 1) PR])) (show 1 ≤ 4 by decide) .normal ?_ (CodeOK.block ?_)))
  · show evalC C18 0 1 c5_7 (tplF 163 L5 (v5 (n + 1) g t .nilSlice (.slice 3 0 6 (b + 1)) (ni 0) (ni 0) .top)) ((hA k R (n + 1) P l m s v ++ [lO (b + 1) PR]).map mkB) _
    rw [p5dns]
    exact ⟨rfl, rfl, ⟨fun _ _ => rfl, fun _ _ => rfl, rfl, fun _ _ => rfl, trivial⟩, rfl, rfl, rfl⟩
  refine CodeOK.loop (fun N fr hp => ∃ i : Nat, i + N = n + 1 ∧ fr = tplF 163 L5 (v5 (n + 1) g t .nilSlice (.slice 3 0 6 (b + 1)) (ni (cntS (lostB g t (waitV l m s v 0) P) i)) (ni (cntS (restB g t (waitV l m s v 0) P) i)) (ni i)) ∧ hp = (hA k R (n + 1) P l m s v ++ [lO (b + 1) PR]).map mkB) ?_ (n := n + 1) ⟨0, by omega, rfl, rfl⟩
  rintro N fr hp ⟨i, hi, rfl, rfl⟩
  refine CodeOK.lookE (C := C18) ec gs18 mixed (u := 0) (len := 163) (rs := Try.f5.results.toList) (L := L5) (M := [false, false, true, false]) (show 1 ≤ 4 by decide) (round5ns h pl pr i) ?_ fun fr hp h => (endK_no' h).elim
  rintro x vals B (⟨hin, rfl, rfl, rfl⟩ | ⟨hin, rfl, rfl, rfl⟩)
  · exact ⟨N - 1, _, _, by omega, wk ⟨.inr rfl, .inr rfl, .inr rfl, .inr rfl, .inr rfl, .inr rfl, .inr rfl, .inr rfl, .inr rfl, trivial⟩ rfl, i + 1, by omega, rfl, rfl⟩
  · obtain rfl : i = n + 1 := by omega
    refine CodeOK.pre (wk (i' := .top) ⟨.inr rfl, .inr rfl, .inr rfl, .inr rfl, .inr rfl, .inr rfl, .inr rfl, .inr rfl, .inl rfl, trivial⟩ rfl) ?_
    refine CodeOK.eval (C := C18) ec gs18 mixed 0 ?_
    show evalC C18 0 1 c5_9 (tplF 163 L5 (v5 (n + 1) g t .nilSlice (.slice 3 0 6 (b + 1)) (ni (cntS (lostB g t (waitV l m s v 0) P) (n + 1))) (ni (cntS (restB g t (waitV l m s v 0) P) (n + 1))) .top)) ((hA k R (n + 1) P l m s v ++ [lO (b + 1) PR]).map mkB) (endK Try.prog Try.f5.results.toList fun v _ => v = .bool true)
    rw [p5fns k R n P g t l m s v b PR (cntS (lostB g t (waitV l m s v 0) P) (n + 1)) (cntS (restB g t (waitV l m s v 0) P) (n + 1)) (fun v => v = .bool true), cl, cr]
    simp
theorem tail5ss {k n : Nat} {R : Nat → Rw} {P : Nat → Pk} {g t l m s v : Int} {a : Nat} {PL : Nat → Pk} {b : Nat} {PR : Nat → Pk} (h : Law n P g t l m s v) (pl : Pick (lostB g t (waitV l m s v 0) P) P (n + 1) a PL) (pr : Pick (restB g t (waitV l m s v 0) P) P (n + 1) b PR) (tm : Int) : CodeOK Try.prog 1 (.seq c5_5 (.seq c5_6 (.seq (.seq c5_7 (.block 0 (.loop c5_8))) c5_9))) (tplF 163 LB (vB (n + 1) g t (.slice 3 0 6 (a + 1)) (.slice 4 0 6 (b + 1)) tm)) ((hA k R (n + 1) P l m s v ++ [lO (a + 1) PL, lO (b + 1) PR]).map mkB) (endK Try.prog Try.f5.results.toList fun v _ => v = .bool true) := by
  have hn := h.hn
  have hs := cntS_not (lostB g t (waitV l m s v 0) P) (n + 1)
  have hs : cntS (lostB g t (waitV l m s v 0) P) (n + 1) + cntS (restB g t (waitV l m s v 0) P) (n + 1) = n + 1 := hs
  have cl := pl.cnt
  have cr := pr.cnt
  have wk : ∀ {j q i i' : SV}, ValW (v5 (n + 1) g t (.slice 3 0 6 (a + 1)) (.slice 4 0 6 (b + 1)) j q i') (v5 (n + 1) g t (.slice 3 0 6 (a + 1)) (.slice 4 0 6 (b + 1)) j q i) → ltAll 5 (svIdsL (v5 (n + 1) g t (.slice 3 0 6 (a + 1)) (.slice 4 0 6 (b + 1)) j q i')) = true → Weak 1 (tplF 163 L5 (v5 (n + 1) g t (.slice 3 0 6 (a + 1)) (.slice 4 0 6 (b + 1)) j q i)) ((hA k R (n + 1) P l m s v ++ [lO (a + 1) PL, lO (b + 1) PR]).map mkB) (tplF 163 L5 (v5 (n + 1) g t (.slice 3 0 6 (a + 1)) (.slice 4 0 6 (b + 1)) j q i')) ((hA k R (n + 1) P l m s v ++ [lO (a + 1) PL, lO (b + 1) PR]).map mkB) := fun hv hi => tpl_weak (B := (hA k R (n + 1) P l m s v ++ [lO (a + 1) PL, lO (b + 1) PR])) (R := []) hv hi ⟨fun _ _ => rfl, fun _ _ => rfl, rfl, fun _ _ => rfl, fun _ _ => rfl, trivial⟩ (show 1 ≤ 5 by decide)
  refine CodeOK.frontE (C := C18) ec gs18 mixed (u := 0) (len := 163) (rs := Try.f5.results.toList) (L := L5) (M := [false, false, true, false, false]) [c5_5, c5_6] (show 1 ≤ 5 by decide) (Q := atS .normal (v5 (n + 1) g t (.slice 3 0 6 (a + 1)) (.slice 4 0 6 (b + 1)) (ni 0) (ni 0) .top) (hA k R (n + 1) P l m s v ++ [lO (a + 1) PL, lO (b + 1) PR])) (kr := fun _ => False) ?_ ?_ fun fr hp h => (endK_no' h).elim
  · show evalC C18 0 1 (.seq c5_5 (.seq c5_6 .skip)) _ _ (obsE Try.prog Try.f5.results.toList L5 [false, false, true, false, false] _ _)
    rw [p5css]
    refine condF' ?_ ⟨rfl, rfl, ⟨fun _ _ => rfl, fun _ _ => rfl, rfl, fun _ _ => rfl, fun _ _ => rfl, trivial⟩, rfl, rfl, rfl⟩
    rw [wrap_id (by omega) (by omega), bne_eq_false_iff_eq]
    omega
  rintro x vals B ⟨rfl, rfl, rfl⟩
  refine CodeOK.seq (CodeOK.seq (CodeOK.at (C := C18) ec gs18 mixed (u := 0) (len := 163) (L := L5) (M := [false, false, true, false, false]) (vals := (v5 (n + 1) g t (.slice 3 0 6 (a + 1)) (.slice 4 0 6 (b + 1)) (ni 0) (ni 0) (ni 0))) (B := (hA k R (n + 1) P l m s v ++ [lO (a + 1) PL, lO (b + 1) PR])) (show 1 ≤ 5 by decide) .normal ?_ (CodeOK.block ?_)))
  · show evalC C18 0 1 c5_7 (tplF 163 L5 (v5 (n + 1) g t (.slice 3 0 6 (a + 1)) (.slice 4 0 6 (b + 1)) (ni 0) (ni 0) .top)) ((hA k R (n + 1) P l m s v ++ [lO (a + 1) PL, lO (b + 1) PR]).map mkB) _
    rw [p5dss]
    exact ⟨rfl, rfl, ⟨fun _ _ => rfl, fun _ _ => rfl, rfl, fun _ _ => rfl, fun _ _ => rfl, trivial⟩, rfl, rfl, rfl⟩
  refine CodeOK.loop (fun N fr hp => ∃ i : Nat, i + N = n + 1 ∧ fr = tplF 163 L5 (v5 (n + 1) g t (.slice 3 0 6 (a + 1)) (.slice 4 0 6 (b + 1)) (ni (cntS (lostB g t (waitV l m s v 0) P) i)) (ni (cntS (restB g t (waitV l m s v 0) P) i)) (ni i)) ∧ hp = (hA k R (n + 1) P l m s v ++ [lO (a + 1) PL, lO (b + 1) PR]).map mkB) ?_ (n := n + 1) ⟨0, by omega, rfl, rfl⟩
  rintro N fr hp ⟨i, hi, rfl, rfl⟩
  refine CodeOK.lookE (C := C18) ec gs18 mixed (u := 0) (len := 163) (rs := Try.f5.results.toList) (L := L5) (M := [false, false, true, false, false]) (show 1 ≤ 5 by decide) (round5ss h pl pr i) ?_ fun fr hp h => (endK_no' h).elim
  rintro x vals B (⟨hin, rfl, rfl, rfl⟩ | ⟨hin, rfl, rfl, rfl⟩)
  · exact ⟨N - 1, _, _, by omega, wk ⟨.inr rfl, .inr rfl, .inr rfl, .inr rfl, .inr rfl, .inr rfl, .inr rfl, .inr rfl, .inr rfl, trivial⟩ rfl, i + 1, by omega, rfl, rfl⟩
  · obtain rfl : i = n + 1 := by omega
    refine CodeOK.pre (wk (i' := .top) ⟨.inr rfl, .inr rfl, .inr rfl, .inr rfl, .inr rfl, .inr rfl, .inr rfl, .inr rfl, .inl rfl, trivial⟩ rfl) ?_
    refine CodeOK.eval (C := C18) ec gs18 mixed 0 ?_
    show evalC C18 0 1 c5_9 (tplF 163 L5 (v5 (n + 1) g t (.slice 3 0 6 (a + 1)) (.slice 4 0 6 (b + 1)) (ni (cntS (lostB g t (waitV l m s v 0) P) (n + 1))) (ni (cntS (restB g t (waitV l m s v 0) P) (n + 1))) .top)) ((hA k R (n + 1) P l m s v ++ [lO (a + 1) PL, lO (b + 1) PR]).map mkB) (endK Try.prog Try.f5.results.toList fun v _ => v = .bool true)
    rw [p5fss k R n P g t l m s v a PL b PR (cntS (lostB g t (waitV l m s v 0) P) (n + 1)) (cntS (restB g t (waitV l m s v 0) P) (n + 1)) (fun v => v = .bool true), cl, cr]
    simp
theorem canon5 (k : Nat) (R : Nat → Rw) (x y a b : Int) (hk : 0 < k) : Canon Try.prog 5 [.slice 0 0 3 k, .agg [.int .i64 x, .int .i64 y], .agg [.int .i64 a, .int .i64 b]] [some (bR k R)] fun v _ => v = .bool true := by
  refine CodeOK.body Try.func5 (by kernel_rfl) ?_
  rw [code5]
  have hg : IntKind.i64.wrap (x % 260 - 1) = x % 260 - 1 := wrap_id (by omega) (by omega)
  refine CodeOK.frontE (C := C18) ec gs18 mixed (u := 0) (len := 163) (rs := Try.f5.results.toList) (L := LA) (M := M5a) [c5_0, c5_1, c5_2, c5_3] (show 1 ≤ 5 by decide) (Q := fun e vals B => e = .normal ∧ ∃ n P l m s v, Law n P (x % 260 - 1) (y % 2251799813685248) l m s v ∧ Weak 1 (tplF 163 LA vals) (B.map mkB) (tplF 163 LA (vA (n + 1) (x % 260 - 1) (y % 2251799813685248))) ((hA k R (n + 1) P l m s v).map mkB)) (kr := fun _ => False) ?_ ?_ fun fr hp h => (endK_no' h).elim
  · show evalC C18 0 1 (.seq c5_0 (.seq c5_1 (.seq c5_2 (.seq c5_3 .skip)))) (enterS 163 _) _ (obsE Try.prog Try.f5.results.toList LA M5a _ _)
    rw [p5a, hg]
    refine ⟨⟨rfl, Nat.le_refl _, fun r _ => ⟨R r, rfl⟩⟩, hk, fun n hn P hP => condSplit (fun _ l m s v h1 h2 h3 h4 => ?_) fun _ l m s v h1 h2 h3 h4 => ?_⟩
    · refine ⟨rfl, rfl, ⟨fun _ _ => rfl, rfl, rfl, fun r _ => by cases r <;> rfl, rfl, trivial⟩, rfl, n, P, l, m, s, v, ⟨by omega, Ms.of h1 h2 h3 h4, by omega, by omega, _, hP⟩, ?_⟩
      exact wkA rfl rfl (isL_one' P (n + 1)) rfl
    · refine ⟨rfl, rfl, ⟨fun _ _ => rfl, rfl, rfl, fun r _ => rfl, rfl, trivial⟩, rfl, n, P, l, m, s, v, ⟨by omega, Ms.of h1 h2 h3 h4, by omega, by omega, _, hP⟩, ?_⟩
      exact wkA rfl rfl (isL_self P (n + 1)) rfl
  rintro e vals B ⟨rfl, n, P, l, m, s, v, h, hw⟩
  generalize x % 260 - 1 = g at h hw
  generalize y % 2251799813685248 = t at h hw
  refine CodeOK.pre hw ?_
  refine CodeOK.seq ((CodeOK.lookN (C := C18) ec gs18 mixed (u := 0) (len := 163) (L := LB) (M := M5b2) (show 1 ≤ 5 by decide) (findB5 h)).st ?_)
  rintro e vals B ⟨rfl, ⟨a, PL, pl, pr, hw⟩ | ⟨b, PR, pl, pr, hw⟩ | ⟨a, PL, b, PR, pl, pr, hw⟩⟩
  · exact CodeOK.pre hw (tail5sn h pl pr _)
  · exact CodeOK.pre hw (tail5ns h pl pr _)
  · exact CodeOK.pre hw (tail5ss h pl pr _)
theorem canon5z (u : SV) (hu : u = .nilSlice ∨ u = .eslice) (x y a b : Int) : Canon Try.prog 5 [u, .agg [.int .i64 x, .int .i64 y], .agg [.int .i64 a, .int .i64 b]] [] fun v _ => v = .bool true := by
  have hg : IntKind.i64.wrap (x % 260 - 1) = x % 260 - 1 := wrap_id (by omega) (by omega)
  refine evalF_ok (C := C18) ec gs18 mixed (u := 64) Try.func5 (by kernel_rfl) ?_
  rcases hu with rfl | rfl
  · show evalF C18 64 Try.f5 [.nilSlice, .agg [.int .i64 x, .int .i64 y], .agg [.int .i64 a, .int .i64 b]] [] _
    rw [t5n x y a b (fun v => v = .bool true), hg]
    exact fun l m s v h1 h2 h3 h4 => ⟨late_0 (by omega) (by omega) (Ms.of h1 h2 h3 h4), rfl⟩
  · show evalF C18 64 Try.f5 [.eslice, .agg [.int .i64 x, .int .i64 y], .agg [.int .i64 a, .int .i64 b]] [] _
    rw [t5e x y a b (fun v => v = .bool true), hg]
    exact fun l m s v h1 h2 h3 h4 => ⟨late_0 (by omega) (by omega) (Ms.of h1 h2 h3 h4), rfl⟩
end
end Go.Proofs.Ytcjfmkkfcbelpaa
