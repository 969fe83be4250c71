/-
  Chapter 9 by the engine: LossTimer. (Printed by genv23.py.)
-/
import Derived.Test.YtcjfmkkfcbelpaaT23
import Derived.Test.YtcjfmkkfcbelpaaX22
import Derived.Test.YtcjfmkkfcbelpaaV20
namespace Go.Proofs.Ytcjfmkkfcbelpaa
open Go.RowKit
set_option linter.unusedVariables false
/-! ### The timer, in numbers -/
theorem Law.dueQ {n : Nat} {P : Nat → Pk} {g t l m s v : Int} (h : Law n P g t l m s v) (i : Nat) : dueP (waitV l m s v 0) P i = (P i).a + waitV l m s v 0 := by
  show minT (dueT (P i).a (waitV l m s v 0)) = _
  rw [(h.due i).1, (h.due i).2]
theorem Law.timer {n : Nat} {P : Nat → Pk} {g t l m s v : Int} (h : Law n P g t l m s v) :
    (tmV g t (waitV l m s v 0) P (n + 1) = -1 ∧ ∀ j, j < n + 1 → lostB g t (waitV l m s v 0) P j = false → g < (P j).n) ∨
    (t < tmV g t (waitV l m s v 0) P (n + 1) ∧ tmV g t (waitV l m s v 0) P (n + 1) ≤ 9007199254740991 ∧
      (∃ j, j < n + 1 ∧ lostB g t (waitV l m s v 0) P j = false ∧ (P j).n ≤ g ∧ (P j).a + waitV l m s v 0 = tmV g t (waitV l m s v 0) P (n + 1)) ∧
      ∀ j, j < n + 1 → lostB g t (waitV l m s v 0) P j = false → (P j).n ≤ g → tmV g t (waitV l m s v 0) P (n + 1) ≤ (P j).a + waitV l m s v 0) := by
  have hw := h.wait
  rcases tmS_spec (f := lostB g t (waitV l m s v 0) P) (le := leB g P) (d := dueP (waitV l m s v 0) P) (n := n + 1) fun j _ => by
    rw [h.dueQ j]
    have := h.pa j
    omega with ⟨h1, h2⟩ | ⟨⟨j, h1, h2, h3, h4⟩, h5⟩
  · refine .inl ⟨h1, fun j hj hf => ?_⟩
    have h3 := h2 j hj hf
    unfold leB at h3
    have := of_decide_eq_false h3
    omega
  · have e : tmV g t (waitV l m s v 0) P (n + 1) = tmS (lostB g t (waitV l m s v 0) P) (leB g P) (dueP (waitV l m s v 0) P) (n + 1) := rfl
    rw [← e] at h4 h5
    rw [h.dueQ j] at h4
    have hp := h.pa j
    have h3' : (P j).n ≤ g := of_decide_eq_true h3
    have h6 : ¬ lostB g t (waitV l m s v 0) P j = true := by rw [h2]; simp
    rw [h.lostI h1] at h6
    refine .inr ⟨by omega, by omega, ⟨j, h1, h2, h3', h4⟩, fun i hi hf hl => ?_⟩
    have := h5 i hi hf (decide_eq_true hl)
    rw [h.dueQ i] at this
    exact this
/-- Till then the same ones are lost. -/
theorem Law.still {n : Nat} {P : Nat → Pk} {g t t2 l m s v : Int} (h : Law n P g t l m s v) (h2 : Law n P g t2 l m s v) (h3 : t ≤ t2) (h4 : tmV g t (waitV l m s v 0) P (n + 1) ≠ -1) (h5 : t2 < tmV g t (waitV l m s v 0) P (n + 1)) : ∀ j, j < n + 1 → lostB g t2 (waitV l m s v 0) P j = lostB g t (waitV l m s v 0) P j := fun j hj => by
  rcases h.timer with ⟨q, _⟩ | ⟨_, _, _, q⟩
  · exact absurd q h4
  · cases e : lostB g t (waitV l m s v 0) P j with
    | true => exact h.grow h2 (Int.le_refl _) h3 hj e
    | false =>
      cases e2 : lostB g t2 (waitV l m s v 0) P j with
      | false => rfl
      | true =>
        have e3 := (h2.lostI hj).1 e2
        have e4 : ¬ lostB g t (waitV l m s v 0) P j = true := by rw [e]; simp
        rw [h.lostI hj] at e4
        have := q j hj e e3.1
        omega
/-- Then one more is lost. -/
theorem Law.more {n : Nat} {P : Nat → Pk} {g t l m s v : Int} (h : Law n P g t l m s v) (h2 : Law n P g (tmV g t (waitV l m s v 0) P (n + 1)) l m s v) (h4 : tmV g t (waitV l m s v 0) P (n + 1) ≠ -1) : cntS (lostB g t (waitV l m s v 0) P) (n + 1) < cntS (lostB g (tmV g t (waitV l m s v 0) P (n + 1)) (waitV l m s v 0) P) (n + 1) := by
  rcases h.timer with ⟨q, _⟩ | ⟨q, _, ⟨j, q1, q2, q3, q4⟩, _⟩
  · exact absurd q h4
  · exact cntS_lt (i := j) (fun i hi hf => h.grow h2 (Int.le_refl _) (by omega) hi hf) q1 q2 ((h2.lostI q1).2 ⟨q3, .inr (by omega)⟩)
/-! ### States said anew -/
def xO (x0 x1 x2 : Int) : BO := .rows 3 1 true 45 [[.int .i64 x0, .int .i64 x1, .int .i64 x2]]
theorem wkA7 {k n : Nat} {R : Nat → Rw} {P : Nat → Pk} {g t l m s v x0 x1 x2 : Int} {B : List BO} {A : Blk} (h0 : hget (B.map mkB) 0 = some (bR k R)) (h1 : hget (B.map mkB) 1 = mkB (xO x0 x1 x2)) (h3 : hget (B.map mkB) 3 = some A) (lA : IsL A P n) (h4 : hget (B.map mkB) 4 = mkB (mO l m s v)) :
    Weak 1 (tplF 134 LA7 [.ptr 1 0 3 0, .slice 3 0 6 n, .ptr 4 0 5 0, .int .i64 g, .int .i64 t]) (B.map mkB) (tplF 134 LA7 (vA7 n g t)) ((hA7 k R n P l m s v x0 x1 x2).map mkB) := by
  refine ren_weak (m0 := 1) (vals' := vA7 n g t) [0, 3, 4, 1] rfl (show 1 ≤ 4 by decide) (fun j hj => by obtain rfl : j = 0 := (by omega); rfl) ⟨.inr rfl, .inr rfl, .inr rfl, .inr rfl, .inr rfl, trivial⟩ (fun id b1 hb1 => ?_) (inj_nodup (by decide))
  match id, hb1 with
  | 0, hb1 =>
    obtain rfl := Option.some.inj (show some (bR k R) = some b1 from hb1)
    exact ⟨0, _, rfl, h0, wb_bR⟩
  | 1, hb1 =>
    obtain rfl := Option.some.inj (show some (bPw n P) = some b1 from hb1)
    exact ⟨3, _, rfl, h3, lA.wb _⟩
  | 2, hb1 =>
    have h := h4.trans hb1
    obtain rfl := Option.some.inj (show some _ = some b1 from hb1)
    exact ⟨4, _, rfl, h, wb_one rfl⟩
  | 3, hb1 =>
    have h := h1.trans hb1
    obtain rfl := Option.some.inj (show some _ = some b1 from hb1)
    exact ⟨1, _, rfl, h, wb_one rfl⟩
  | id + 4, hb1 => exact nomatch (show (none : Option Blk) = some b1 from hb1)
/-- Blocks behind the first four. -/
def Tl (hp : LHeap) (m : Nat) (O : List BO) : Prop := ∀ id b1, hget (O.map mkB) id = some b1 → ∃ b, hget hp (4 + id) = some b ∧ WB (upTo m) b1 b
theorem wkB7 {k n : Nat} {R : Nat → Rw} {P : Nat → Pk} {l m s v x0 x1 x2 : Int} {fr : List SV} {hp : LHeap} {O : List BO} {q : Nat} (hq : q = 4 + O.length) (h0 : hget hp 0 = some (bR k R)) (h1 : hget hp 1 = some (bPw n P)) (h2 : hget hp 2 = mkB (mO l m s v)) (h3 : hget hp 3 = mkB (xO x0 x1 x2)) (hO : Tl hp q O) (hv : ltAll q (svIdsL fr) = true) :
    Weak 1 fr hp fr ((hA7 k R n P l m s v x0 x1 x2 ++ O).map mkB) := by
  refine heap_weak (m := q) (by simp [hA7]; omega) (by omega) hv fun id b1 hb1 => ?_
  match id, hb1 with
  | 0, hb1 =>
    obtain rfl := Option.some.inj (show some (bR k R) = some b1 from hb1)
    exact ⟨_, h0, wb_bR⟩
  | 1, hb1 =>
    obtain rfl := Option.some.inj (show some (bPw n P) = some b1 from hb1)
    exact ⟨_, h1, (isL_self P n).wb _⟩
  | 2, hb1 =>
    have h := h2.trans hb1
    obtain rfl := Option.some.inj (show some _ = some b1 from hb1)
    exact ⟨_, h, wb_one rfl⟩
  | 3, hb1 =>
    have h := h3.trans hb1
    obtain rfl := Option.some.inj (show some _ = some b1 from hb1)
    exact ⟨_, h, wb_one rfl⟩
  | id + 4, hb1 =>
    have h := hO id b1 hb1
    rw [Nat.add_comm] at h
    exact h
theorem tl1 {hp : LHeap} {m c : Nat} {Q : Nat → Pk} (h : ∀ b1, gB Q c = some b1 → ∃ b, hget hp 4 = some b ∧ WB (upTo m) b1 b) : Tl hp m [BO.raw (gB Q c)] := fun id b1 hb1 => by
  match id, hb1 with
  | 0, hb1 => exact h b1 hb1
  | id + 1, hb1 => exact nomatch (show (none : Option Blk) = some b1 from hb1)
theorem tl2 {hp : LHeap} {m c e : Nat} {Q Q2 : Nat → Pk} (h : ∀ b1, gB Q c = some b1 → ∃ b, hget hp 4 = some b ∧ WB (upTo m) b1 b) (h2 : ∀ b1, gB Q2 e = some b1 → ∃ b, hget hp 5 = some b ∧ WB (upTo m) b1 b) : Tl hp m [BO.raw (gB Q c), BO.raw (gB Q2 e)] := fun id b1 hb1 => by
  match id, hb1 with
  | 0, hb1 => exact h b1 hb1
  | 1, hb1 => exact h2 b1 hb1
  | id + 2, hb1 => exact nomatch (show (none : Option Blk) = some b1 from hb1)
theorem wkE7 {k c e d : Nat} {R : Nat → Rw} {PL PA PB : Nat → Pk} {tm to nx : Int} {hp : LHeap} (h0 : hget hp 0 = some (bR k R)) (h1 : ∀ b1, gB PL c = some b1 → ∃ b, hget hp 4 = some b ∧ WB (fun i => [0, 4, 5, 6][i]?) b1 b) (h2 : ∀ b1, gB PA e = some b1 → ∃ b, hget hp 5 = some b ∧ WB (fun i => [0, 4, 5, 6][i]?) b1 b) (h3 : ∀ b1, gB PB d = some b1 → ∃ b, hget hp 6 = some b ∧ WB (fun i => [0, 4, 5, 6][i]?) b1 b) :
    Weak 1 (tplF 134 LE7 (vE7 (gV 4 c) tm (gV 5 e) to (gV 6 d) nx)) hp (tplF 134 LE7 (vE7 (gV 1 c) tm (gV 2 e) to (gV 3 d) nx)) ((hE7 k R (gB PL c) (gB PA e) (gB PB d)).map mkB) := by
  refine ren_weak (m0 := 1) (vals' := vE7 (gV 1 c) tm (gV 2 e) to (gV 3 d) nx) [0, 4, 5, 6] rfl (show 1 ≤ 4 by decide) (fun j hj => by obtain rfl : j = 0 := (by omega); rfl) ⟨.inr ?_, .inr rfl, .inr ?_, .inr rfl, .inr rfl, .inr ?_, .inr rfl, .inr rfl, trivial⟩ (fun id b1 hb1 => ?_) (inj_nodup (by decide))
  · cases c <;> rfl
  · cases e <;> rfl
  · cases d <;> rfl
  match id, hb1 with
  | 0, hb1 =>
    obtain rfl := Option.some.inj (show some (bR k R) = some b1 from hb1)
    exact ⟨0, _, rfl, h0, wb_bR⟩
  | 1, hb1 =>
    obtain ⟨b, q1, q2⟩ := h1 b1 hb1
    exact ⟨4, b, rfl, q1, q2⟩
  | 2, hb1 =>
    obtain ⟨b, q1, q2⟩ := h2 b1 hb1
    exact ⟨5, b, rfl, q1, q2⟩
  | 3, hb1 =>
    obtain ⟨b, q1, q2⟩ := h3 b1 hb1
    exact ⟨6, b, rfl, q1, q2⟩
  | id + 4, hb1 => exact nomatch (show (none : Option Blk) = some b1 from hb1)
/-- A list that was found, or its first row told by itself. -/
def gBo (Q : Nat → Pk) (n : Nat) : Blk := ⟨6, n, fun r => bif r.beq 0 then pkC (Q 0) else pkC (Q r), true, 33⟩
def QB7 (k : Nat) (R : Nat → Rw) (n : Nat) (P : Nat → Pk) (g t l m s v x0 x1 x2 : Int) (x : Ex) (vals : List SV) (B : List BO) : Prop := x = .normal ∧
  ((∃ a PL, Pick (lostB g t (waitV l m s v 0) P) P (n + 1) a PL ∧ cntS (restB g t (waitV l m s v 0) P) (n + 1) = 0 ∧ Weak 1 (tplF 134 LB7 vals) (B.map mkB) (tplF 134 LB7 (vB7 (n + 1) g t (.slice 4 0 6 (a + 1)) .nilSlice (tmV g t (waitV l m s v 0) P (n + 1)))) ((hA7 k R (n + 1) P l m s v x0 x1 x2 ++ [lO (a + 1) PL]).map mkB)) ∨
   (∃ b PR, cntS (lostB g t (waitV l m s v 0) P) (n + 1) = 0 ∧ Pick (restB g t (waitV l m s v 0) P) P (n + 1) b PR ∧ Weak 1 (tplF 134 LB7 vals) (B.map mkB) (tplF 134 LB7 (vB7 (n + 1) g t .nilSlice (.slice 4 0 6 (b + 1)) (tmV g t (waitV l m s v 0) P (n + 1)))) ((hA7 k R (n + 1) P l m s v x0 x1 x2 ++ [lO (b + 1) PR]).map mkB)) ∨
   (∃ a PL b PR, Pick (lostB g t (waitV l m s v 0) P) P (n + 1) a PL ∧ Pick (restB g t (waitV l m s v 0) P) P (n + 1) b PR ∧ Weak 1 (tplF 134 LB7 vals) (B.map mkB) (tplF 134 LB7 (vB7 (n + 1) g t (.slice 4 0 6 (a + 1)) (.slice 5 0 6 (b + 1)) (tmV g t (waitV l m s v 0) P (n + 1)))) ((hA7 k R (n + 1) P l m s v x0 x1 x2 ++ [lO (a + 1) PL, lO (b + 1) PR]).map mkB)))
section
attribute [local irreducible] evalC
set_option maxRecDepth 100000
set_option maxHeartbeats 2000000
theorem findB7 {k n : Nat} {R : Nat → Rw} {P : Nat → Pk} {g t l m s v : Int} (x0 x1 x2 : Int) (h : Law n P g t l m s v) : evalC C18 0 1 c7_3 (tplF 134 LA7 (vA7 (n + 1) g t)) ((hA7 k R (n + 1) P l m s v x0 x1 x2).map mkB) (obsN LB7 M7b (seen 134 M7b.length (QB7 k R n P g t l m s v x0 x1 x2))) := by
  rw [p7b k R n P g t l m s v x0 x1 x2]
  refine ⟨⟨rfl, Nat.le_refl _, by have := h.hn; omega, fun r _ => ⟨P r, rfl⟩⟩, Nat.succ_le_succ (Nat.zero_le _), fun P1 e1 g' t' w e2 e3 e4 => ?_⟩
  obtain rfl : P1 = P := e1
  subst e2 e3 e4
  refine ⟨h.late, fun tm ht => ?_⟩
  subst ht
  have i0 : ∀ Q : Nat → Pk, ∀ c : Nat, ∀ r, r < c → ltAll 6 (svIdsL (pkC (Q r))) = true := fun _ _ _ _ => rfl
  have i1 : ∀ Q : Nat → Pk, ∀ c : Nat, ∀ r, r < c → ltAll 6 (svIdsL (bif r.beq 0 then pkC (Q 0) else pkC (Q r))) = true := fun Q c r _ => by cases r <;> rfl
  refine ⟨fun a PL p q => condSplit (fun _ => ?_) fun _ => ?_, fun b PR p q => condSplit (fun _ => ?_) fun _ => ?_, fun a PL b PR p q => condSplit (fun _ => condSplit (fun _ => ?_) fun _ => ?_) fun _ => condSplit (fun _ => ?_) fun _ => ?_⟩
  · exact ⟨rfl, rfl, ⟨fun _ _ => rfl, i0 P1 _, rfl, rfl, i1 PL _, trivial, trivial⟩, rfl, .inl ⟨a, PL, p, q, wkB7 (O := [lO (a + 1) PL]) rfl rfl rfl rfl rfl (tl1 (c := a + 1) (gB_wb (hp := _ :: _ :: _ :: _ :: some _ :: _) rfl (isL_one' PL _))) (by kernel_rfl)⟩⟩
  · exact ⟨rfl, rfl, ⟨fun _ _ => rfl, i0 P1 _, rfl, rfl, i0 PL _, trivial, trivial⟩, rfl, .inl ⟨a, PL, p, q, wkB7 (O := [lO (a + 1) PL]) rfl rfl rfl rfl rfl (tl1 (c := a + 1) (gB_wb (hp := _ :: _ :: _ :: _ :: some _ :: _) rfl (isL_self PL _))) (by kernel_rfl)⟩⟩
  · exact ⟨rfl, rfl, ⟨fun _ _ => rfl, i0 P1 _, rfl, rfl, i1 PR _, trivial, trivial⟩, rfl, .inr (.inl ⟨b, PR, p, q, wkB7 (O := [lO (b + 1) PR]) rfl rfl rfl rfl rfl (tl1 (c := b + 1) (gB_wb (hp := _ :: _ :: _ :: _ :: some _ :: _) rfl (isL_one' PR _))) (by kernel_rfl)⟩)⟩
  · exact ⟨rfl, rfl, ⟨fun _ _ => rfl, i0 P1 _, rfl, rfl, i0 PR _, trivial, trivial⟩, rfl, .inr (.inl ⟨b, PR, p, q, wkB7 (O := [lO (b + 1) PR]) rfl rfl rfl rfl rfl (tl1 (c := b + 1) (gB_wb (hp := _ :: _ :: _ :: _ :: some _ :: _) rfl (isL_self PR _))) (by kernel_rfl)⟩)⟩
  · exact ⟨rfl, rfl, ⟨fun _ _ => rfl, i0 P1 _, rfl, rfl, i1 PL _, i1 PR _, trivial⟩, rfl, .inr (.inr ⟨a, PL, b, PR, p, q, wkB7 (O := [lO (a + 1) PL, lO (b + 1) PR]) rfl rfl rfl rfl rfl (tl2 (c := a + 1) (e := b + 1) (gB_wb (hp := _ :: _ :: _ :: _ :: some _ :: some _ :: _) rfl (isL_one' PL _)) (gB_wb (hp := _ :: _ :: _ :: _ :: some _ :: some _ :: _) rfl (isL_one' PR _))) (by kernel_rfl)⟩)⟩
  · exact ⟨rfl, rfl, ⟨fun _ _ => rfl, i0 P1 _, rfl, rfl, i1 PL _, i0 PR _, trivial⟩, rfl, .inr (.inr ⟨a, PL, b, PR, p, q, wkB7 (O := [lO (a + 1) PL, lO (b + 1) PR]) rfl rfl rfl rfl rfl (tl2 (c := a + 1) (e := b + 1) (gB_wb (hp := _ :: _ :: _ :: _ :: some _ :: some _ :: _) rfl (isL_one' PL _)) (gB_wb (hp := _ :: _ :: _ :: _ :: some _ :: some _ :: _) rfl (isL_self PR _))) (by kernel_rfl)⟩)⟩
  · exact ⟨rfl, rfl, ⟨fun _ _ => rfl, i0 P1 _, rfl, rfl, i0 PL _, i1 PR _, trivial⟩, rfl, .inr (.inr ⟨a, PL, b, PR, p, q, wkB7 (O := [lO (a + 1) PL, lO (b + 1) PR]) rfl rfl rfl rfl rfl (tl2 (c := a + 1) (e := b + 1) (gB_wb (hp := _ :: _ :: _ :: _ :: some _ :: some _ :: _) rfl (isL_self PL _)) (gB_wb (hp := _ :: _ :: _ :: _ :: some _ :: some _ :: _) rfl (isL_one' PR _))) (by kernel_rfl)⟩)⟩
  · exact ⟨rfl, rfl, ⟨fun _ _ => rfl, i0 P1 _, rfl, rfl, i0 PL _, i0 PR _, trivial⟩, rfl, .inr (.inr ⟨a, PL, b, PR, p, q, wkB7 (O := [lO (a + 1) PL, lO (b + 1) PR]) rfl rfl rfl rfl rfl (tl2 (c := a + 1) (e := b + 1) (gB_wb (hp := _ :: _ :: _ :: _ :: some _ :: some _ :: _) rfl (isL_self PL _)) (gB_wb (hp := _ :: _ :: _ :: _ :: some _ :: some _ :: _) rfl (isL_self PR _))) (by kernel_rfl)⟩)⟩
theorem stage7sn {k n : Nat} {R : Nat → Rw} {P : Nat → Pk} {g t l m s v : Int} (x0 x1 x2 : Int) {a : Nat} {PL : Nat → Pk} (h : Law n P g t l m s v) (pl : Pick (lostB g t (waitV l m s v 0) P) P (n + 1) a PL) (pr : cntS (restB g t (waitV l m s v 0) P) (n + 1) = 0) : evalC C18 0 1 (.seq c7_4 (.seq c7_5 (.seq c7_6 .skip))) (tplF 134 LB7 (vB7 (n + 1) g t (.slice 4 0 6 (a + 1)) .nilSlice (tmV g t (waitV l m s v 0) P (n + 1)))) ((hA7 k R (n + 1) P l m s v x0 x1 x2 ++ [lO (a + 1) PL]).map mkB) (obsE Try.prog Try.f7.results.toList LC7 [false, false, true, true, false] (seen 134 5 fun x vals B => x = .normal ∧ tmV g t (waitV l m s v 0) P (n + 1) ≠ -1 ∧ ∃ c Q, Cut (lostB g t (waitV l m s v 0) P) P (n + 1) c Q ∧ Weak 1 (tplF 134 LC7 vals) (B.map mkB) (tplF 134 LC7 (vC7 (n + 1) g t (gV 4 c) (tmV g t (waitV l m s v 0) P (n + 1)))) ((hA7 k R (n + 1) P l m s v x0 x1 x2 ++ [BO.raw (gB Q c)]).map mkB)) fun v => v = .bool true) := by
  rw [p7csn k R n P g t l m s v x0 x1 x2 a PL]
  rcases h.timer with ⟨e, q⟩ | ⟨q1, q2, _, _⟩
  · refine condT' (by rw [e]; rfl) ?_
    rfl
  · have ne : tmV g t (waitV l m s v 0) P (n + 1) ≠ -1 := by have := h.t0; omega
    refine condF' (beq_eq_false_iff_ne.2 ne) (condF' (cf (by omega)) (condF' (cf (by omega)) ?_))
    generalize tmV g t (waitV l m s v 0) P (n + 1) = tm at ne ⊢
    exact ⟨rfl, rfl, ⟨fun _ _ => rfl, fun _ _ => rfl, rfl, rfl, fun _ _ => rfl, trivial⟩, rfl, ne, a + 1, PL, pl.cut, wkB7 (O := [BO.raw (gB PL (a + 1))]) rfl rfl rfl rfl rfl (tl1 (gB_wb (hp := _ :: _ :: _ :: _ :: some _ :: _) rfl (isL_self PL _))) (by kernel_rfl)⟩
theorem stage7ns {k n : Nat} {R : Nat → Rw} {P : Nat → Pk} {g t l m s v : Int} (x0 x1 x2 : Int) {b : Nat} {PR : Nat → Pk} (h : Law n P g t l m s v) (pl : cntS (lostB g t (waitV l m s v 0) P) (n + 1) = 0) (pr : Pick (restB g t (waitV l m s v 0) P) P (n + 1) b PR) : evalC C18 0 1 (.seq c7_4 (.seq c7_5 (.seq c7_6 .skip))) (tplF 134 LB7 (vB7 (n + 1) g t .nilSlice (.slice 4 0 6 (b + 1)) (tmV g t (waitV l m s v 0) P (n + 1)))) ((hA7 k R (n + 1) P l m s v x0 x1 x2 ++ [lO (b + 1) PR]).map mkB) (obsE Try.prog Try.f7.results.toList LC7 [false, false, true, true, false] (seen 134 5 fun x vals B => x = .normal ∧ tmV g t (waitV l m s v 0) P (n + 1) ≠ -1 ∧ ∃ c Q, Cut (lostB g t (waitV l m s v 0) P) P (n + 1) c Q ∧ Weak 1 (tplF 134 LC7 vals) (B.map mkB) (tplF 134 LC7 (vC7 (n + 1) g t (gV 4 c) (tmV g t (waitV l m s v 0) P (n + 1)))) ((hA7 k R (n + 1) P l m s v x0 x1 x2 ++ [BO.raw (gB Q c)]).map mkB)) fun v => v = .bool true) := by
  rw [p7cns k R n P g t l m s v x0 x1 x2 b PR]
  rcases h.timer with ⟨e, q⟩ | ⟨q1, q2, _, _⟩
  · refine condT' (by rw [e]; rfl) ?_
    obtain ⟨h1, h2⟩ := ixS_lt (restB g t (waitV l m s v 0) P) (i := n + 1) (r := 0) (by rw [pr.cnt]; omega)
    have h3 := q _ h1 (bnF h2)
    refine condT' (cb (by omega)) (condT' (cb ?_) rfl)
    show g < (PR 0).n
    rw [pr.row 0 (by omega)]
    exact h3
  · have ne : tmV g t (waitV l m s v 0) P (n + 1) ≠ -1 := by have := h.t0; omega
    refine condF' (beq_eq_false_iff_ne.2 ne) (condF' (cf (by omega)) (condF' (cf (by omega)) ?_))
    generalize tmV g t (waitV l m s v 0) P (n + 1) = tm at ne ⊢
    exact ⟨rfl, rfl, ⟨fun _ _ => rfl, fun _ _ => rfl, rfl, rfl, fun _ _ => rfl, trivial⟩, rfl, ne, 0, P, Cut.none pl, wkB7 (O := [BO.raw (gB P 0)]) rfl rfl rfl rfl rfl (tl1 fun b1 q => nomatch (show (none : Option Blk) = some b1 from q)) (by kernel_rfl)⟩
theorem stage7ss {k n : Nat} {R : Nat → Rw} {P : Nat → Pk} {g t l m s v : Int} (x0 x1 x2 : Int) {a : Nat} {PL : Nat → Pk} {b : Nat} {PR : Nat → Pk} (h : Law n P g t l m s v) (pl : Pick (lostB g t (waitV l m s v 0) P) P (n + 1) a PL) (pr : Pick (restB g t (waitV l m s v 0) P) P (n + 1) b PR) : evalC C18 0 1 (.seq c7_4 (.seq c7_5 (.seq c7_6 .skip))) (tplF 134 LB7 (vB7 (n + 1) g t (.slice 4 0 6 (a + 1)) (.slice 5 0 6 (b + 1)) (tmV g t (waitV l m s v 0) P (n + 1)))) ((hA7 k R (n + 1) P l m s v x0 x1 x2 ++ [lO (a + 1) PL, lO (b + 1) PR]).map mkB) (obsE Try.prog Try.f7.results.toList LC7 [false, false, true, true, false, false] (seen 134 6 fun x vals B => x = .normal ∧ tmV g t (waitV l m s v 0) P (n + 1) ≠ -1 ∧ ∃ c Q, Cut (lostB g t (waitV l m s v 0) P) P (n + 1) c Q ∧ Weak 1 (tplF 134 LC7 vals) (B.map mkB) (tplF 134 LC7 (vC7 (n + 1) g t (gV 4 c) (tmV g t (waitV l m s v 0) P (n + 1)))) ((hA7 k R (n + 1) P l m s v x0 x1 x2 ++ [BO.raw (gB Q c)]).map mkB)) fun v => v = .bool true) := by
  rw [p7css k R n P g t l m s v x0 x1 x2 a PL b PR]
  rcases h.timer with ⟨e, q⟩ | ⟨q1, q2, _, _⟩
  · refine condT' (by rw [e]; rfl) ?_
    obtain ⟨h1, h2⟩ := ixS_lt (restB g t (waitV l m s v 0) P) (i := n + 1) (r := 0) (by rw [pr.cnt]; omega)
    have h3 := q _ h1 (bnF h2)
    refine condT' (cb (by omega)) (condT' (cb ?_) rfl)
    show g < (PR 0).n
    rw [pr.row 0 (by omega)]
    exact h3
  · have ne : tmV g t (waitV l m s v 0) P (n + 1) ≠ -1 := by have := h.t0; omega
    refine condF' (beq_eq_false_iff_ne.2 ne) (condF' (cf (by omega)) (condF' (cf (by omega)) ?_))
    generalize tmV g t (waitV l m s v 0) P (n + 1) = tm at ne ⊢
    exact ⟨rfl, rfl, ⟨fun _ _ => rfl, fun _ _ => rfl, rfl, rfl, fun _ _ => rfl, fun _ _ => rfl, trivial⟩, rfl, ne, a + 1, PL, pl.cut, wkB7 (O := [BO.raw (gB PL (a + 1))]) rfl rfl rfl rfl rfl (tl1 (gB_wb (hp := _ :: _ :: _ :: _ :: some _ :: _) rfl (isL_self PL _))) (by kernel_rfl)⟩
theorem findD7z {k n : Nat} {R : Nat → Rw} {P Q : Nat → Pk} {g t tm l m s v : Int} (x0 x1 x2 : Int) (hd : 0 < IntKind.i64.wrap (tm - t) ∧ IntKind.i64.wrap (tm - t) ≤ 9223372036854775807) (h : Law n P g (IntKind.i64.wrap (t + x2 % IntKind.i64.wrap (tm - t))) l m s v) : evalC C18 0 1 c7_7 (tplF 134 LC7 (vC7 (n + 1) g t (gV 4 0) tm)) ((hA7 k R (n + 1) P l m s v x0 x1 x2 ++ [BO.raw (gB Q 0)]).map mkB) (obsN LD7 M7d (seen 134 M7d.length fun x vals B => x = .normal ∧ ∃ e QA, Cut (lostB g (IntKind.i64.wrap (t + x2 % IntKind.i64.wrap (tm - t))) (waitV l m s v 0) P) P (n + 1) e QA ∧ Weak 1 (tplF 134 LD7 vals) (B.map mkB) (tplF 134 LD7 (vD7 (n + 1) g t (gV 4 0) tm (gV 5 e) (tmV g (IntKind.i64.wrap (t + x2 % IntKind.i64.wrap (tm - t))) (waitV l m s v 0) P (n + 1)))) ((hA7 k R (n + 1) P l m s v x0 x1 x2 ++ [BO.raw (gB Q 0), BO.raw (gB QA e)]).map mkB))) := by
  rw [p7d k R n P g t l m s v x0 x1 x2 (gV 4 0) (gB Q 0) tm]
  refine condT' (by rw [cb hd.1, cb hd.2]; rfl) ?_
  generalize IntKind.i64.wrap (t + x2 % IntKind.i64.wrap (tm - t)) = t2 at h ⊢
  refine ⟨⟨rfl, Nat.le_refl _, by have := h.hn; omega, fun r _ => ⟨P r, rfl⟩⟩, Nat.succ_le_succ (Nat.zero_le _), fun P1 e1 g' t' w e2 e3 e4 => ?_⟩
  obtain rfl : P1 = P := e1
  subst e2 e3 e4
  refine ⟨h.late, fun to ht => ?_⟩
  subst ht
  generalize tmV g' t' (waitV l m s v 0) P1 (n + 1) = to
  have i0 : ∀ Q : Nat → Pk, ∀ c : Nat, ∀ r, r < c → ltAll 7 (svIdsL (pkC (Q r))) = true := fun _ _ _ _ => rfl
  have i1 : ∀ Q : Nat → Pk, ∀ c : Nat, ∀ r, r < c → ltAll 7 (svIdsL (bif r.beq 0 then pkC (Q 0) else pkC (Q r))) = true := fun Q c r _ => by cases r <;> rfl
  refine ⟨fun a PL p q => condSplit (fun _ => ?_) fun _ => ?_, fun b PR p q => condSplit (fun _ => ?_) fun _ => ?_, fun a PL b PR p q => condSplit (fun _ => condSplit (fun _ => ?_) fun _ => ?_) fun _ => condSplit (fun _ => ?_) fun _ => ?_⟩
  · exact ⟨rfl, rfl, ⟨fun _ _ => rfl, i0 P1 _, rfl, rfl, gB_ids _ Q 0, i1 PL _, trivial, trivial⟩, rfl, a + 1, PL, p.cut, wkB7 (O := [BO.raw (gB Q 0), BO.raw (gB PL (a + 1))]) rfl rfl rfl rfl rfl (tl2 (fun b1 q => nomatch (show (none : Option Blk) = some b1 from q)) (gB_wb (hp := _ :: _ :: _ :: _ :: _ :: some _ :: _) rfl (isL_one' PL _))) (by kernel_rfl)⟩
  · exact ⟨rfl, rfl, ⟨fun _ _ => rfl, i0 P1 _, rfl, rfl, gB_ids _ Q 0, i0 PL _, trivial, trivial⟩, rfl, a + 1, PL, p.cut, wkB7 (O := [BO.raw (gB Q 0), BO.raw (gB PL (a + 1))]) rfl rfl rfl rfl rfl (tl2 (fun b1 q => nomatch (show (none : Option Blk) = some b1 from q)) (gB_wb (hp := _ :: _ :: _ :: _ :: _ :: some _ :: _) rfl (isL_self PL _))) (by kernel_rfl)⟩
  · exact ⟨rfl, rfl, ⟨fun _ _ => rfl, i0 P1 _, rfl, rfl, gB_ids _ Q 0, i1 PR _, trivial, trivial⟩, rfl, 0, P1, Cut.none p, wkB7 (O := [BO.raw (gB Q 0), BO.raw (gB P1 0)]) rfl rfl rfl rfl rfl (tl2 (fun b1 q => nomatch (show (none : Option Blk) = some b1 from q)) (fun b1 q => nomatch (show (none : Option Blk) = some b1 from q))) (by kernel_rfl)⟩
  · exact ⟨rfl, rfl, ⟨fun _ _ => rfl, i0 P1 _, rfl, rfl, gB_ids _ Q 0, i0 PR _, trivial, trivial⟩, rfl, 0, P1, Cut.none p, wkB7 (O := [BO.raw (gB Q 0), BO.raw (gB P1 0)]) rfl rfl rfl rfl rfl (tl2 (fun b1 q => nomatch (show (none : Option Blk) = some b1 from q)) (fun b1 q => nomatch (show (none : Option Blk) = some b1 from q))) (by kernel_rfl)⟩
  · exact ⟨rfl, rfl, ⟨fun _ _ => rfl, i0 P1 _, rfl, rfl, gB_ids _ Q 0, i1 PL _, i1 PR _, trivial⟩, rfl, a + 1, PL, p.cut, wkB7 (O := [BO.raw (gB Q 0), BO.raw (gB PL (a + 1))]) rfl rfl rfl rfl rfl (tl2 (fun b1 q => nomatch (show (none : Option Blk) = some b1 from q)) (gB_wb (hp := _ :: _ :: _ :: _ :: _ :: some _ :: _) rfl (isL_one' PL _))) (by kernel_rfl)⟩
  · exact ⟨rfl, rfl, ⟨fun _ _ => rfl, i0 P1 _, rfl, rfl, gB_ids _ Q 0, i1 PL _, i0 PR _, trivial⟩, rfl, a + 1, PL, p.cut, wkB7 (O := [BO.raw (gB Q 0), BO.raw (gB PL (a + 1))]) rfl rfl rfl rfl rfl (tl2 (fun b1 q => nomatch (show (none : Option Blk) = some b1 from q)) (gB_wb (hp := _ :: _ :: _ :: _ :: _ :: some _ :: _) rfl (isL_one' PL _))) (by kernel_rfl)⟩
  · exact ⟨rfl, rfl, ⟨fun _ _ => rfl, i0 P1 _, rfl, rfl, gB_ids _ Q 0, i0 PL _, i1 PR _, trivial⟩, rfl, a + 1, PL, p.cut, wkB7 (O := [BO.raw (gB Q 0), BO.raw (gB PL (a + 1))]) rfl rfl rfl rfl rfl (tl2 (fun b1 q => nomatch (show (none : Option Blk) = some b1 from q)) (gB_wb (hp := _ :: _ :: _ :: _ :: _ :: some _ :: _) rfl (isL_self PL _))) (by kernel_rfl)⟩
  · exact ⟨rfl, rfl, ⟨fun _ _ => rfl, i0 P1 _, rfl, rfl, gB_ids _ Q 0, i0 PL _, i0 PR _, trivial⟩, rfl, a + 1, PL, p.cut, wkB7 (O := [BO.raw (gB Q 0), BO.raw (gB PL (a + 1))]) rfl rfl rfl rfl rfl (tl2 (fun b1 q => nomatch (show (none : Option Blk) = some b1 from q)) (gB_wb (hp := _ :: _ :: _ :: _ :: _ :: some _ :: _) rfl (isL_self PL _))) (by kernel_rfl)⟩
theorem findE7z {k n : Nat} {R : Nat → Rw} {P Q QA : Nat → Pk} {g t tm to l m s v : Int} (x0 x1 x2 : Int) (h : Law n P g tm l m s v) : evalC C18 0 1 c7_8 (tplF 134 LD7 (vD7 (n + 1) g t (gV 4 0) tm (gV 5 0) to)) ((hA7 k R (n + 1) P l m s v x0 x1 x2 ++ [BO.raw (gB Q 0), BO.raw (gB QA 0)]).map mkB) (obsN LE7 M7e (seen 134 M7e.length fun x vals B => x = .normal ∧ ∃ d QB, Cut (lostB g tm (waitV l m s v 0) P) P (n + 1) d QB ∧ Weak 1 (tplF 134 LE7 vals) (B.map mkB) (tplF 134 LE7 (vE7 (gV 1 0) tm (gV 2 0) to (gV 3 d) (tmV g tm (waitV l m s v 0) P (n + 1)))) ((hE7 k R (gB Q 0) (gB QA 0) (gB QB d)).map mkB))) := by
  rw [p7e k R n P g t l m s v x0 x1 x2 (gV 4 0) (gB Q 0) tm (gV 5 0) (gB QA 0) to]
  refine ⟨⟨rfl, Nat.le_refl _, by have := h.hn; omega, fun r _ => ⟨P r, rfl⟩⟩, Nat.succ_le_succ (Nat.zero_le _), fun P1 e1 g' t' w e2 e3 e4 => ?_⟩
  obtain rfl : P1 = P := e1
  subst e2 e3 e4
  refine ⟨h.late, fun nx ht => ?_⟩
  subst ht
  generalize tmV g' t' (waitV l m s v 0) P1 (n + 1) = nx
  have i0 : ∀ Q : Nat → Pk, ∀ c : Nat, ∀ r, r < c → ltAll 8 (svIdsL (pkC (Q r))) = true := fun _ _ _ _ => rfl
  have i1 : ∀ Q : Nat → Pk, ∀ c : Nat, ∀ r, r < c → ltAll 8 (svIdsL (bif r.beq 0 then pkC (Q 0) else pkC (Q r))) = true := fun Q c r _ => by cases r <;> rfl
  refine ⟨fun a PL p q => condSplit (fun _ => ?_) fun _ => ?_, fun b PR p q => condSplit (fun _ => ?_) fun _ => ?_, fun a PL b PR p q => condSplit (fun _ => condSplit (fun _ => ?_) fun _ => ?_) fun _ => condSplit (fun _ => ?_) fun _ => ?_⟩
  · exact ⟨rfl, rfl, ⟨fun _ _ => rfl, i0 P1 _, rfl, rfl, gB_ids _ Q 0, gB_ids _ QA 0, i1 PL _, trivial, trivial⟩, rfl, a + 1, PL, p.cut, wkE7 (c := 0) (e := 0) (d := a + 1) rfl (fun b1 q => nomatch (show (none : Option Blk) = some b1 from q)) (fun b1 q => nomatch (show (none : Option Blk) = some b1 from q)) (gB_wb rfl (isL_one' PL _))⟩
  · exact ⟨rfl, rfl, ⟨fun _ _ => rfl, i0 P1 _, rfl, rfl, gB_ids _ Q 0, gB_ids _ QA 0, i0 PL _, trivial, trivial⟩, rfl, a + 1, PL, p.cut, wkE7 (c := 0) (e := 0) (d := a + 1) rfl (fun b1 q => nomatch (show (none : Option Blk) = some b1 from q)) (fun b1 q => nomatch (show (none : Option Blk) = some b1 from q)) (gB_wb rfl (isL_self PL _))⟩
  · exact ⟨rfl, rfl, ⟨fun _ _ => rfl, i0 P1 _, rfl, rfl, gB_ids _ Q 0, gB_ids _ QA 0, i1 PR _, trivial, trivial⟩, rfl, 0, P1, Cut.none p, wkE7 (c := 0) (e := 0) (d := 0) rfl (fun b1 q => nomatch (show (none : Option Blk) = some b1 from q)) (fun b1 q => nomatch (show (none : Option Blk) = some b1 from q)) (fun b1 q => nomatch (show (none : Option Blk) = some b1 from q))⟩
  · exact ⟨rfl, rfl, ⟨fun _ _ => rfl, i0 P1 _, rfl, rfl, gB_ids _ Q 0, gB_ids _ QA 0, i0 PR _, trivial, trivial⟩, rfl, 0, P1, Cut.none p, wkE7 (c := 0) (e := 0) (d := 0) rfl (fun b1 q => nomatch (show (none : Option Blk) = some b1 from q)) (fun b1 q => nomatch (show (none : Option Blk) = some b1 from q)) (fun b1 q => nomatch (show (none : Option Blk) = some b1 from q))⟩
  · exact ⟨rfl, rfl, ⟨fun _ _ => rfl, i0 P1 _, rfl, rfl, gB_ids _ Q 0, gB_ids _ QA 0, i1 PL _, i1 PR _, trivial⟩, rfl, a + 1, PL, p.cut, wkE7 (c := 0) (e := 0) (d := a + 1) rfl (fun b1 q => nomatch (show (none : Option Blk) = some b1 from q)) (fun b1 q => nomatch (show (none : Option Blk) = some b1 from q)) (gB_wb rfl (isL_one' PL _))⟩
  · exact ⟨rfl, rfl, ⟨fun _ _ => rfl, i0 P1 _, rfl, rfl, gB_ids _ Q 0, gB_ids _ QA 0, i1 PL _, i0 PR _, trivial⟩, rfl, a + 1, PL, p.cut, wkE7 (c := 0) (e := 0) (d := a + 1) rfl (fun b1 q => nomatch (show (none : Option Blk) = some b1 from q)) (fun b1 q => nomatch (show (none : Option Blk) = some b1 from q)) (gB_wb rfl (isL_one' PL _))⟩
  · exact ⟨rfl, rfl, ⟨fun _ _ => rfl, i0 P1 _, rfl, rfl, gB_ids _ Q 0, gB_ids _ QA 0, i0 PL _, i1 PR _, trivial⟩, rfl, a + 1, PL, p.cut, wkE7 (c := 0) (e := 0) (d := a + 1) rfl (fun b1 q => nomatch (show (none : Option Blk) = some b1 from q)) (fun b1 q => nomatch (show (none : Option Blk) = some b1 from q)) (gB_wb rfl (isL_self PL _))⟩
  · exact ⟨rfl, rfl, ⟨fun _ _ => rfl, i0 P1 _, rfl, rfl, gB_ids _ Q 0, gB_ids _ QA 0, i0 PL _, i0 PR _, trivial⟩, rfl, a + 1, PL, p.cut, wkE7 (c := 0) (e := 0) (d := a + 1) rfl (fun b1 q => nomatch (show (none : Option Blk) = some b1 from q)) (fun b1 q => nomatch (show (none : Option Blk) = some b1 from q)) (gB_wb rfl (isL_self PL _))⟩
theorem findD7s {k n c : Nat} {R : Nat → Rw} {P Q : Nat → Pk} {g t tm l m s v : Int} (x0 x1 x2 : Int) (hd : 0 < IntKind.i64.wrap (tm - t) ∧ IntKind.i64.wrap (tm - t) ≤ 9223372036854775807) (h : Law n P g (IntKind.i64.wrap (t + x2 % IntKind.i64.wrap (tm - t))) l m s v) : evalC C18 0 1 c7_7 (tplF 134 LC7 (vC7 (n + 1) g t (gV 4 (c + 1)) tm)) ((hA7 k R (n + 1) P l m s v x0 x1 x2 ++ [BO.raw (gB Q (c + 1))]).map mkB) (obsN LD7 M7d (seen 134 M7d.length fun x vals B => x = .normal ∧ ∃ e QA, Cut (lostB g (IntKind.i64.wrap (t + x2 % IntKind.i64.wrap (tm - t))) (waitV l m s v 0) P) P (n + 1) e QA ∧ Weak 1 (tplF 134 LD7 vals) (B.map mkB) (tplF 134 LD7 (vD7 (n + 1) g t (gV 4 (c + 1)) tm (gV 5 e) (tmV g (IntKind.i64.wrap (t + x2 % IntKind.i64.wrap (tm - t))) (waitV l m s v 0) P (n + 1)))) ((hA7 k R (n + 1) P l m s v x0 x1 x2 ++ [BO.raw (gB Q (c + 1)), BO.raw (gB QA e)]).map mkB))) := by
  rw [p7d k R n P g t l m s v x0 x1 x2 (gV 4 (c + 1)) (gB Q (c + 1)) tm]
  refine condT' (by rw [cb hd.1, cb hd.2]; rfl) ?_
  generalize IntKind.i64.wrap (t + x2 % IntKind.i64.wrap (tm - t)) = t2 at h ⊢
  refine ⟨⟨rfl, Nat.le_refl _, by have := h.hn; omega, fun r _ => ⟨P r, rfl⟩⟩, Nat.succ_le_succ (Nat.zero_le _), fun P1 e1 g' t' w e2 e3 e4 => ?_⟩
  obtain rfl : P1 = P := e1
  subst e2 e3 e4
  refine ⟨h.late, fun to ht => ?_⟩
  subst ht
  generalize tmV g' t' (waitV l m s v 0) P1 (n + 1) = to
  have i0 : ∀ Q : Nat → Pk, ∀ c : Nat, ∀ r, r < c → ltAll 7 (svIdsL (pkC (Q r))) = true := fun _ _ _ _ => rfl
  have i1 : ∀ Q : Nat → Pk, ∀ c : Nat, ∀ r, r < c → ltAll 7 (svIdsL (bif r.beq 0 then pkC (Q 0) else pkC (Q r))) = true := fun Q c r _ => by cases r <;> rfl
  refine ⟨fun a PL p q => condSplit (fun _ => ?_) fun _ => ?_, fun b PR p q => condSplit (fun _ => ?_) fun _ => ?_, fun a PL b PR p q => condSplit (fun _ => condSplit (fun _ => ?_) fun _ => ?_) fun _ => condSplit (fun _ => ?_) fun _ => ?_⟩
  · exact ⟨rfl, rfl, ⟨fun _ _ => rfl, i0 P1 _, rfl, rfl, gB_ids _ Q (c + 1), i1 PL _, trivial, trivial⟩, rfl, a + 1, PL, p.cut, wkB7 (O := [BO.raw (gB Q (c + 1)), BO.raw (gB PL (a + 1))]) rfl rfl rfl rfl rfl (tl2 (gB_self (hp := _ :: _ :: _ :: _ :: some _ :: _) rfl) (gB_wb (hp := _ :: _ :: _ :: _ :: _ :: some _ :: _) rfl (isL_one' PL _))) (by kernel_rfl)⟩
  · exact ⟨rfl, rfl, ⟨fun _ _ => rfl, i0 P1 _, rfl, rfl, gB_ids _ Q (c + 1), i0 PL _, trivial, trivial⟩, rfl, a + 1, PL, p.cut, wkB7 (O := [BO.raw (gB Q (c + 1)), BO.raw (gB PL (a + 1))]) rfl rfl rfl rfl rfl (tl2 (gB_self (hp := _ :: _ :: _ :: _ :: some _ :: _) rfl) (gB_wb (hp := _ :: _ :: _ :: _ :: _ :: some _ :: _) rfl (isL_self PL _))) (by kernel_rfl)⟩
  · exact ⟨rfl, rfl, ⟨fun _ _ => rfl, i0 P1 _, rfl, rfl, gB_ids _ Q (c + 1), i1 PR _, trivial, trivial⟩, rfl, 0, P1, Cut.none p, wkB7 (O := [BO.raw (gB Q (c + 1)), BO.raw (gB P1 0)]) rfl rfl rfl rfl rfl (tl2 (gB_self (hp := _ :: _ :: _ :: _ :: some _ :: _) rfl) (fun b1 q => nomatch (show (none : Option Blk) = some b1 from q))) (by kernel_rfl)⟩
  · exact ⟨rfl, rfl, ⟨fun _ _ => rfl, i0 P1 _, rfl, rfl, gB_ids _ Q (c + 1), i0 PR _, trivial, trivial⟩, rfl, 0, P1, Cut.none p, wkB7 (O := [BO.raw (gB Q (c + 1)), BO.raw (gB P1 0)]) rfl rfl rfl rfl rfl (tl2 (gB_self (hp := _ :: _ :: _ :: _ :: some _ :: _) rfl) (fun b1 q => nomatch (show (none : Option Blk) = some b1 from q))) (by kernel_rfl)⟩
  · exact ⟨rfl, rfl, ⟨fun _ _ => rfl, i0 P1 _, rfl, rfl, gB_ids _ Q (c + 1), i1 PL _, i1 PR _, trivial⟩, rfl, a + 1, PL, p.cut, wkB7 (O := [BO.raw (gB Q (c + 1)), BO.raw (gB PL (a + 1))]) rfl rfl rfl rfl rfl (tl2 (gB_self (hp := _ :: _ :: _ :: _ :: some _ :: _) rfl) (gB_wb (hp := _ :: _ :: _ :: _ :: _ :: some _ :: _) rfl (isL_one' PL _))) (by kernel_rfl)⟩
  · exact ⟨rfl, rfl, ⟨fun _ _ => rfl, i0 P1 _, rfl, rfl, gB_ids _ Q (c + 1), i1 PL _, i0 PR _, trivial⟩, rfl, a + 1, PL, p.cut, wkB7 (O := [BO.raw (gB Q (c + 1)), BO.raw (gB PL (a + 1))]) rfl rfl rfl rfl rfl (tl2 (gB_self (hp := _ :: _ :: _ :: _ :: some _ :: _) rfl) (gB_wb (hp := _ :: _ :: _ :: _ :: _ :: some _ :: _) rfl (isL_one' PL _))) (by kernel_rfl)⟩
  · exact ⟨rfl, rfl, ⟨fun _ _ => rfl, i0 P1 _, rfl, rfl, gB_ids _ Q (c + 1), i0 PL _, i1 PR _, trivial⟩, rfl, a + 1, PL, p.cut, wkB7 (O := [BO.raw (gB Q (c + 1)), BO.raw (gB PL (a + 1))]) rfl rfl rfl rfl rfl (tl2 (gB_self (hp := _ :: _ :: _ :: _ :: some _ :: _) rfl) (gB_wb (hp := _ :: _ :: _ :: _ :: _ :: some _ :: _) rfl (isL_self PL _))) (by kernel_rfl)⟩
  · exact ⟨rfl, rfl, ⟨fun _ _ => rfl, i0 P1 _, rfl, rfl, gB_ids _ Q (c + 1), i0 PL _, i0 PR _, trivial⟩, rfl, a + 1, PL, p.cut, wkB7 (O := [BO.raw (gB Q (c + 1)), BO.raw (gB PL (a + 1))]) rfl rfl rfl rfl rfl (tl2 (gB_self (hp := _ :: _ :: _ :: _ :: some _ :: _) rfl) (gB_wb (hp := _ :: _ :: _ :: _ :: _ :: some _ :: _) rfl (isL_self PL _))) (by kernel_rfl)⟩
theorem findE7s {k n c : Nat} {R : Nat → Rw} {P Q QA : Nat → Pk} {g t tm to l m s v : Int} (x0 x1 x2 : Int) (h : Law n P g tm l m s v) : evalC C18 0 1 c7_8 (tplF 134 LD7 (vD7 (n + 1) g t (gV 4 (c + 1)) tm (gV 5 (c + 1)) to)) ((hA7 k R (n + 1) P l m s v x0 x1 x2 ++ [BO.raw (gB Q (c + 1)), BO.raw (gB QA (c + 1))]).map mkB) (obsN LE7 M7e (seen 134 M7e.length fun x vals B => x = .normal ∧ ∃ d QB, Cut (lostB g tm (waitV l m s v 0) P) P (n + 1) d QB ∧ Weak 1 (tplF 134 LE7 vals) (B.map mkB) (tplF 134 LE7 (vE7 (gV 1 (c + 1)) tm (gV 2 (c + 1)) to (gV 3 d) (tmV g tm (waitV l m s v 0) P (n + 1)))) ((hE7 k R (gB Q (c + 1)) (gB QA (c + 1)) (gB QB d)).map mkB))) := by
  rw [p7e k R n P g t l m s v x0 x1 x2 (gV 4 (c + 1)) (gB Q (c + 1)) tm (gV 5 (c + 1)) (gB QA (c + 1)) to]
  refine ⟨⟨rfl, Nat.le_refl _, by have := h.hn; omega, fun r _ => ⟨P r, rfl⟩⟩, Nat.succ_le_succ (Nat.zero_le _), fun P1 e1 g' t' w e2 e3 e4 => ?_⟩
  obtain rfl : P1 = P := e1
  subst e2 e3 e4
  refine ⟨h.late, fun nx ht => ?_⟩
  subst ht
  generalize tmV g' t' (waitV l m s v 0) P1 (n + 1) = nx
  have i0 : ∀ Q : Nat → Pk, ∀ c : Nat, ∀ r, r < c → ltAll 8 (svIdsL (pkC (Q r))) = true := fun _ _ _ _ => rfl
  have i1 : ∀ Q : Nat → Pk, ∀ c : Nat, ∀ r, r < c → ltAll 8 (svIdsL (bif r.beq 0 then pkC (Q 0) else pkC (Q r))) = true := fun Q c r _ => by cases r <;> rfl
  refine ⟨fun a PL p q => condSplit (fun _ => ?_) fun _ => ?_, fun b PR p q => condSplit (fun _ => ?_) fun _ => ?_, fun a PL b PR p q => condSplit (fun _ => condSplit (fun _ => ?_) fun _ => ?_) fun _ => condSplit (fun _ => ?_) fun _ => ?_⟩
  · exact ⟨rfl, rfl, ⟨fun _ _ => rfl, i0 P1 _, rfl, rfl, gB_ids _ Q (c + 1), gB_ids _ QA (c + 1), i1 PL _, trivial, trivial⟩, rfl, a + 1, PL, p.cut, wkE7 (c := (c + 1)) (e := (c + 1)) (d := a + 1) rfl (gB_self rfl) (gB_self rfl) (gB_wb rfl (isL_one' PL _))⟩
  · exact ⟨rfl, rfl, ⟨fun _ _ => rfl, i0 P1 _, rfl, rfl, gB_ids _ Q (c + 1), gB_ids _ QA (c + 1), i0 PL _, trivial, trivial⟩, rfl, a + 1, PL, p.cut, wkE7 (c := (c + 1)) (e := (c + 1)) (d := a + 1) rfl (gB_self rfl) (gB_self rfl) (gB_wb rfl (isL_self PL _))⟩
  · exact ⟨rfl, rfl, ⟨fun _ _ => rfl, i0 P1 _, rfl, rfl, gB_ids _ Q (c + 1), gB_ids _ QA (c + 1), i1 PR _, trivial, trivial⟩, rfl, 0, P1, Cut.none p, wkE7 (c := (c + 1)) (e := (c + 1)) (d := 0) rfl (gB_self rfl) (gB_self rfl) (fun b1 q => nomatch (show (none : Option Blk) = some b1 from q))⟩
  · exact ⟨rfl, rfl, ⟨fun _ _ => rfl, i0 P1 _, rfl, rfl, gB_ids _ Q (c + 1), gB_ids _ QA (c + 1), i0 PR _, trivial, trivial⟩, rfl, 0, P1, Cut.none p, wkE7 (c := (c + 1)) (e := (c + 1)) (d := 0) rfl (gB_self rfl) (gB_self rfl) (fun b1 q => nomatch (show (none : Option Blk) = some b1 from q))⟩
  · exact ⟨rfl, rfl, ⟨fun _ _ => rfl, i0 P1 _, rfl, rfl, gB_ids _ Q (c + 1), gB_ids _ QA (c + 1), i1 PL _, i1 PR _, trivial⟩, rfl, a + 1, PL, p.cut, wkE7 (c := (c + 1)) (e := (c + 1)) (d := a + 1) rfl (gB_self rfl) (gB_self rfl) (gB_wb rfl (isL_one' PL _))⟩
  · exact ⟨rfl, rfl, ⟨fun _ _ => rfl, i0 P1 _, rfl, rfl, gB_ids _ Q (c + 1), gB_ids _ QA (c + 1), i1 PL _, i0 PR _, trivial⟩, rfl, a + 1, PL, p.cut, wkE7 (c := (c + 1)) (e := (c + 1)) (d := a + 1) rfl (gB_self rfl) (gB_self rfl) (gB_wb rfl (isL_one' PL _))⟩
  · exact ⟨rfl, rfl, ⟨fun _ _ => rfl, i0 P1 _, rfl, rfl, gB_ids _ Q (c + 1), gB_ids _ QA (c + 1), i0 PL _, i1 PR _, trivial⟩, rfl, a + 1, PL, p.cut, wkE7 (c := (c + 1)) (e := (c + 1)) (d := a + 1) rfl (gB_self rfl) (gB_self rfl) (gB_wb rfl (isL_self PL _))⟩
  · exact ⟨rfl, rfl, ⟨fun _ _ => rfl, i0 P1 _, rfl, rfl, gB_ids _ Q (c + 1), gB_ids _ QA (c + 1), i0 PL _, i0 PR _, trivial⟩, rfl, a + 1, PL, p.cut, wkE7 (c := (c + 1)) (e := (c + 1)) (d := a + 1) rfl (gB_self rfl) (gB_self rfl) (gB_wb rfl (isL_self PL _))⟩
theorem end7 {k c d n : Nat} {R : Nat → Rw} {P Q QA QB : Nat → Pk} {tm nx : Int} {f f2 : Nat → Bool} (hn : n ≤ 100) (c1 : Cut f P n c Q) (c2 : Cut f P n c QA) (c3 : Cut f2 P n d QB) (hd : c < d) (hx : nx = -1 ∨ tm < nx) : CodeOK Try.prog 1 c7_9 (tplF 134 LE7 (vE7 (gV 1 c) tm (gV 2 c) tm (gV 3 d) nx)) ((hE7 k R (gB Q c) (gB QA c) (gB QB d)).map mkB) (endK Try.prog Try.f7.results.toList fun v _ => v = .bool true) := by
  have hc : c ≤ n := by rw [← c1.cnt]; exact cntS_le _ _
  have hd2 : d ≤ n := by rw [← c3.cnt]; exact cntS_le _ _
  have last : bif nx == -1 then SV.bool true = .bool true else bif decide (tm < nx) then SV.bool true = .bool true else SV.bool false = .bool true := by
    rcases hx with rfl | hx
    · rfl
    · rw [cb hx]
      cases nx == -1 <;> rfl
  cases d with
  | zero => omega
  | succ d =>
    refine CodeOK.eval (C := C18) ec gs18 mixed 0 ?_
    cases c with
    | zero =>
      show evalC C18 0 1 c7_9 (tplF 134 LE7 (vE7 .nilSlice tm .nilSlice tm (.slice 3 0 6 (d + 1)) nx)) ([BO.raw (some (bR k R)), BO.raw none, BO.raw none, lO (d + 1) QB].map mkB) (endK Try.prog Try.f7.results.toList fun v _ => v = .bool true)
      rw [p7fn k R tm tm nx d QB (fun v => v = .bool true)]
      exact condT' (beq_self_eq_true tm) (condT' (cb (by omega)) last)
    | succ c =>
      show evalC C18 0 1 c7_9 (tplF 134 LE7 (vE7 (.slice 1 0 6 (c + 1)) tm (.slice 2 0 6 (c + 1)) tm (.slice 3 0 6 (d + 1)) nx)) ([BO.raw (some (bR k R)), lO (c + 1) Q, lO (c + 1) QA, lO (d + 1) QB].map mkB) (endK Try.prog Try.f7.results.toList fun v _ => v = .bool true)
      rw [p7fs k R tm tm nx c Q c QA d QB (fun v => v = .bool true)]
      refine ⟨⟨rfl, Nat.le_refl _, by omega, fun r _ => ⟨QA r, rfl⟩⟩, ⟨rfl, Nat.le_of_eq (Nat.zero_add _), by omega, fun r _ => ⟨Q r, rfl⟩⟩, condT' ?_ (condT' (beq_self_eq_true tm) (condT' (cb (by omega)) last))⟩
      have h1 : eqPs (fun r => rowP ((bPw (c + 1) QA).rd r)) (fun r => rowP ((bPw (c + 1) Q).rd (0 + r))) (c + 1) = true := eqPs_same fun r hr => by
        show QA r = Q (0 + r)
        rw [Nat.zero_add, c2.row r hr, c1.row r hr]
      rw [h1, Nat.beq_refl]
      rfl
theorem canon7 (k : Nat) (R : Nat → Rw) (x0 x1 x2 a b : Int) (hk : 0 < k) : Canon Try.prog 7 [.slice 0 0 3 k, .agg [.int .i64 x0, .int .i64 x1, .int .i64 x2], .agg [.int .i64 a, .int .i64 b]] [some (bR k R)] fun v _ => v = .bool true := by
  refine CodeOK.body Try.func7 (by kernel_rfl) ?_
  rw [code7]
  have hg : IntKind.i64.wrap (x0 % 260 - 1) = x0 % 260 - 1 := wrap_id (by omega) (by omega)
  refine CodeOK.frontN (C := C18) ec gs18 mixed (u := 0) (len := 134) (L := LA7) (M := M7a) [c7_0, c7_1, c7_2] (show 1 ≤ 5 by decide) (Q := fun e vals B => e = .normal ∧ ∃ n P l m s v, Law n P (x0 % 260 - 1) (x1 % 2251799813685248) l m s v ∧ Weak 1 (tplF 134 LA7 vals) (B.map mkB) (tplF 134 LA7 (vA7 (n + 1) (x0 % 260 - 1) (x1 % 2251799813685248))) ((hA7 k R (n + 1) P l m s v x0 x1 x2).map mkB)) ?_ ?_
  · show evalC C18 0 1 (.seq c7_0 (.seq c7_1 (.seq c7_2 .skip))) (enterS 134 _) _ (obsN LA7 M7a _)
    rw [p7a, hg]
    refine ⟨⟨rfl, Nat.le_refl _, fun r _ => ⟨R r, rfl⟩⟩, hk, fun n hn P hP => condSplit (fun _ l m s v h1 h2 h3 h4 => ?_) fun _ l m s v h1 h2 h3 h4 => ?_⟩
    · refine ⟨rfl, rfl, ⟨fun _ _ => rfl, rfl, rfl, fun r _ => by cases r <;> rfl, rfl, trivial⟩, rfl, n, P, l, m, s, v, ⟨by omega, Ms.of h1 h2 h3 h4, by omega, by omega, _, hP⟩, ?_⟩
      exact wkA7 rfl rfl rfl (isL_one' P (n + 1)) rfl
    · refine ⟨rfl, rfl, ⟨fun _ _ => rfl, rfl, rfl, fun r _ => rfl, rfl, trivial⟩, rfl, n, P, l, m, s, v, ⟨by omega, Ms.of h1 h2 h3 h4, by omega, by omega, _, hP⟩, ?_⟩
      exact wkA7 rfl rfl rfl (isL_self P (n + 1)) rfl
  rintro e vals B ⟨rfl, n, P, l, m, s, v, h, hw⟩
  generalize x0 % 260 - 1 = g at h hw
  generalize x1 % 2251799813685248 = t at h hw
  refine CodeOK.pre hw ?_
  refine CodeOK.seq ((CodeOK.lookN (C := C18) ec gs18 mixed (u := 0) (len := 134) (L := LB7) (M := M7b) (show 1 ≤ 6 by decide) (findB7 x0 x1 x2 h)).st ?_)
  rintro e vals B ⟨rfl, hB⟩
  have fin : ∀ (x : Ex) (vals : List SV) (B : List BO), (x = .normal ∧ tmV g t (waitV l m s v 0) P (n + 1) ≠ -1 ∧ ∃ c Q, Cut (lostB g t (waitV l m s v 0) P) P (n + 1) c Q ∧ Weak 1 (tplF 134 LC7 vals) (B.map mkB) (tplF 134 LC7 (vC7 (n + 1) g t (gV 4 c) (tmV g t (waitV l m s v 0) P (n + 1)))) ((hA7 k R (n + 1) P l m s v x0 x1 x2 ++ [BO.raw (gB Q c)]).map mkB)) → thenK (endK Try.prog Try.f7.results.toList fun v _ => v = .bool true) (fun fr hp => CodeOK Try.prog 1 (.seq c7_7 (.seq c7_8 c7_9)) fr hp (endK Try.prog Try.f7.results.toList fun v _ => v = .bool true)) x (tplF 134 LC7 vals) (B.map mkB) := by
    rintro x vals B ⟨rfl, ne, c, Q, c1, hw⟩
    refine CodeOK.pre hw ?_
    rcases h.timer with ⟨q, _⟩ | ⟨q1, q2, _, _⟩
    · exact absurd q ne
    · have t0 := h.t0
      generalize ht : tmV g t (waitV l m s v 0) P (n + 1) = tm at ne q1 q2
      have w1 : IntKind.i64.wrap (tm - t) = tm - t := wrap_id (by omega) (by omega)
      have m0 := Int.emod_nonneg x2 (show tm - t ≠ 0 by omega)
      have m1 := Int.emod_lt_of_pos x2 (show 0 < tm - t by omega)
      have w2 : IntKind.i64.wrap (t + x2 % (tm - t)) = t + x2 % (tm - t) := wrap_id (by omega) (by omega)
      have hd : 0 < IntKind.i64.wrap (tm - t) ∧ IntKind.i64.wrap (tm - t) ≤ 9223372036854775807 := by rw [w1]; omega
      have h2 : Law n P g (IntKind.i64.wrap (t + x2 % IntKind.i64.wrap (tm - t))) l m s v := ⟨h.hn, h.ms, h.g0, by rw [w1, w2]; omega, h.pk⟩
      have h3 : Law n P g tm l m s v := ⟨h.hn, h.ms, h.g0, by omega, h.pk⟩
      have same := h.still h2 (by rw [w1, w2]; omega) (by rw [ht]; exact ne) (by rw [w1, w2, ht]; omega)
      have hto : tmV g (IntKind.i64.wrap (t + x2 % IntKind.i64.wrap (tm - t))) (waitV l m s v 0) P (n + 1) = tm := (tmS_congr same).trans ht
      obtain ⟨s1, s2⟩ := sel_congr (i := n + 1) same
      have more := h.more (by rw [ht]; exact h3) (by rw [ht]; exact ne)
      rw [ht] at more
      have hx : tmV g tm (waitV l m s v 0) P (n + 1) = -1 ∨ tm < tmV g tm (waitV l m s v 0) P (n + 1) := by
        rcases h3.timer with ⟨q, _⟩ | ⟨q, _⟩
        · exact .inl q
        · exact .inr q
      have hn := h.hn
      have cut2 : ∀ {e : Nat} {QA : Nat → Pk}, Cut (lostB g (IntKind.i64.wrap (t + x2 % IntKind.i64.wrap (tm - t))) (waitV l m s v 0) P) P (n + 1) e QA → e = c ∧ Cut (lostB g t (waitV l m s v 0) P) P (n + 1) e QA := fun {e QA} q => ⟨by rw [← q.cnt, s1, c1.cnt], by rw [← s1]; exact q.cnt, fun r hr => by rw [← s2]; exact q.row r hr⟩
      cases c with
      | zero =>
        refine CodeOK.seq ((CodeOK.lookN (C := C18) ec gs18 mixed (u := 0) (len := 134) (L := LD7) (M := M7d) (show 1 ≤ 7 by decide) (findD7z (Q := Q) x0 x1 x2 hd h2)).st ?_)
        rintro x vals B ⟨rfl, e, QA, c2, hw⟩
        rw [hto] at hw
        obtain ⟨rfl, c2⟩ := cut2 c2
        refine CodeOK.pre hw ?_
        refine CodeOK.seq ((CodeOK.lookN (C := C18) ec gs18 mixed (u := 0) (len := 134) (L := LE7) (M := M7e) (show 1 ≤ 8 by decide) (findE7z (Q := Q) (QA := QA) x0 x1 x2 h3)).st ?_)
        rintro x vals B ⟨rfl, d, QB, c3, hw⟩
        exact CodeOK.pre hw (end7 (f := lostB g t (waitV l m s v 0) P) (f2 := lostB g tm (waitV l m s v 0) P) (by omega) c1 c2 c3 (by rw [← c1.cnt, ← c3.cnt]; exact more) hx)
      | succ c =>
        refine CodeOK.seq ((CodeOK.lookN (C := C18) ec gs18 mixed (u := 0) (len := 134) (L := LD7) (M := M7d) (show 1 ≤ 7 by decide) (findD7s (Q := Q) (c := c) x0 x1 x2 hd h2)).st ?_)
        rintro x vals B ⟨rfl, e, QA, c2, hw⟩
        rw [hto] at hw
        obtain ⟨rfl, c2⟩ := cut2 c2
        refine CodeOK.pre hw ?_
        refine CodeOK.seq ((CodeOK.lookN (C := C18) ec gs18 mixed (u := 0) (len := 134) (L := LE7) (M := M7e) (show 1 ≤ 8 by decide) (findE7s (Q := Q) (QA := QA) (c := c) x0 x1 x2 h3)).st ?_)
        rintro x vals B ⟨rfl, d, QB, c3, hw⟩
        exact CodeOK.pre hw (end7 (f := lostB g t (waitV l m s v 0) P) (f2 := lostB g tm (waitV l m s v 0) P) (by omega) c1 c2 c3 (by rw [← c1.cnt, ← c3.cnt]; exact more) hx)
  rcases hB with ⟨a, PL, pl, pr, hw⟩ | ⟨b, PR, pl, pr, hw⟩ | ⟨a, PL, b, PR, pl, pr, hw⟩
  · exact CodeOK.pre hw (CodeOK.frontE (C := C18) ec gs18 mixed (u := 0) (len := 134) (rs := Try.f7.results.toList) (L := LC7) (M := [false, false, true, true, false]) [c7_4, c7_5, c7_6] (show 1 ≤ 5 by decide) (stage7sn x0 x1 x2 h pl pr) fin fun fr hp h => h)
  · exact CodeOK.pre hw (CodeOK.frontE (C := C18) ec gs18 mixed (u := 0) (len := 134) (rs := Try.f7.results.toList) (L := LC7) (M := [false, false, true, true, false]) [c7_4, c7_5, c7_6] (show 1 ≤ 5 by decide) (stage7ns x0 x1 x2 h pl pr) fin fun fr hp h => h)
  · exact CodeOK.pre hw (CodeOK.frontE (C := C18) ec gs18 mixed (u := 0) (len := 134) (rs := Try.f7.results.toList) (L := LC7) (M := [false, false, true, true, false, false]) [c7_4, c7_5, c7_6] (show 1 ≤ 6 by decide) (stage7ss x0 x1 x2 h pl pr) fin fun fr hp h => h)
theorem canon7z (x0 x1 x2 a b : Int) : Canon Try.prog 7 [.eslice, .agg [.int .i64 x0, .int .i64 x1, .int .i64 x2], .agg [.int .i64 a, .int .i64 b]] [] fun v _ => v = .bool true := by
  have hg : IntKind.i64.wrap (x0 % 260 - 1) = x0 % 260 - 1 := wrap_id (by omega) (by omega)
  refine evalF_ok (C := C18) ec gs18 mixed (u := 64) Try.func7 (by kernel_rfl) ?_
  show evalF C18 64 Try.f7 [.eslice, .agg [.int .i64 x0, .int .i64 x1, .int .i64 x2], .agg [.int .i64 a, .int .i64 b]] [] _
  rw [t7e x0 x1 x2 a b (fun v => v = .bool true), hg]
  exact fun l m s v h1 h2 h3 h4 => ⟨late_0 (by omega) (by omega) (Ms.of h1 h2 h3 h4), rfl⟩
end
theorem timer_any (s : Option Addr) (len cap : Nat) (x0 x1 x2 a b : Int) (W : World) (h : IsRws W s len cap) : Calls Try.prog 7 #[.slice s len cap, .agg #[.int .i64 x0, .int .i64 x1, .int .i64 x2], .agg #[.int .i64 a, .int .i64 b]] W fun e w' => e = .returned (.bool true) ∧ Below W.heap.size W w' := by
  rcases h.cases with rfl | ⟨hn, b1, off1, g, rfl, hc1, hB1⟩
  · exact lawOf (canon7z x0 x1 x2 a b) (RL.cons (by simp [R]) (RL.cons (by simp [R, RL]) (RL.cons (by simp [R, RL]) RL.nil))) W
  · exact law1 rfl (canon7 len g x0 x1 x2 a b hn) hB1 (RL.cons (by simp [R]; omega) (RL.cons (by simp [R, RL]) (RL.cons (by simp [R, RL]) RL.nil)))
end Go.Proofs.Ytcjfmkkfcbelpaa
