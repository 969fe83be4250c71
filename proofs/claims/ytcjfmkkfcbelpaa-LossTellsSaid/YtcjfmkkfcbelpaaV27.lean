/-
  Chapter 9 by the engine: LossTells. (Printed by genv27.py.)
-/
import Derived.Test.YtcjfmkkfcbelpaaT27
import Derived.Test.YtcjfmkkfcbelpaaV26
import Derived.Test.YtcjfmkkfcbelpaaV20
namespace Go.Proofs.Ytcjfmkkfcbelpaa
open Go.RowKit
set_option linter.unusedVariables false
theorem beqT3 {a b : Nat} (h : a = b) : Nat.beq a b = true := by subst h; exact Nat.beq_refl a
theorem wb_bP {ρ : Ren} {k : Nat} {R : Nat → Pk} : WB ρ (bP k R) (bP k R) := WB.of_rows rfl (Nat.le_refl _) (fun h => h) (fun _ => rfl) fun _ _ => ⟨rfl, rfl⟩
theorem IsL.eqv {A : Blk} {f h : Nat → Pk} {n : Nat} (q : IsL A f n) (e : ∀ r, r < n → f r = h r) : IsL A h n := ⟨q.sz, q.len, q.rw, q.ty, fun r hr => by rw [q.rd r hr, e r hr]⟩
theorem IsL.ps {A : Blk} {f : Nat → Pk} {n : Nat} (q : IsL A f n) : IsPs A n := ⟨q.sz, by rw [q.len]; exact Nat.le_refl _, fun r hr => ⟨f r, q.rd r hr⟩⟩
theorem IsL.p {A : Blk} {f : Nat → Pk} {n : Nat} (q : IsL A f n) (h : n ≤ 100000) : IsP A n := ⟨q.sz, by rw [q.len]; exact Nat.le_refl _, h, fun r hr => ⟨f r, q.rd r hr⟩⟩
/-- What a copy holds, told by what it was copied from. -/
theorem IsL.copy {A : Blk} {f h : Nat → Pk} {n m : Nat} (q : IsL A f n) (e : ∀ r, r < m → h r = rowP (A.rd r)) (hm : m ≤ n) : ∀ r, r < m → h r = f r := fun r hr => by
  rw [e r hr, q.rd r (by omega)]
  rfl
theorem wkA3 {k n : Nat} {R P : Nat → Pk} {g t l m s v f : Int} {B : List BO} {A1 A2 : Blk} (h0 : hget (B.map mkB) 0 = some (bP k R)) (h1 : hget (B.map mkB) 1 = mkB (yO g t)) (h2 : hget (B.map mkB) 2 = mkB (meO l m s v f)) (h3 : hget (B.map mkB) 3 = some A1) (l1 : IsL A1 P n) (h4 : hget (B.map mkB) 4 = some A2) (l2 : IsL A2 P n) :
    Weak 1 (tplF 99 L3A [.slice 3 0 6 n, .ptr 1 0 2 0, .ptr 2 0 5 0, .slice 4 0 6 n]) (B.map mkB) (tplF 99 L3A (v3A n)) ((h3A k R n P g t l m s v f).map mkB) := by
  refine ren_weak (m0 := 1) (vals' := v3A n) [0, 3, 4, 1, 2] rfl (show 1 ≤ 5 by decide) (fun j hj => by obtain rfl : j = 0 := (by omega); rfl) ⟨.inr rfl, .inr rfl, .inr rfl, .inr rfl, trivial⟩ (fun id b1 hb1 => ?_) (inj_nodup (by decide))
  match id, hb1 with
  | 0, hb1 =>
    obtain rfl := Option.some.inj (show some (bP k R) = some b1 from hb1)
    exact ⟨0, _, rfl, h0, wb_bP⟩
  | 1, hb1 =>
    obtain rfl := Option.some.inj (show some (bPw n P) = some b1 from hb1)
    exact ⟨3, _, rfl, h3, l1.wb _⟩
  | 2, hb1 =>
    obtain rfl := Option.some.inj (show some (bPw n P) = some b1 from hb1)
    exact ⟨4, _, rfl, h4, l2.wb _⟩
  | 3, hb1 =>
    have h := h1.trans hb1
    obtain rfl := Option.some.inj (show some _ = some b1 from hb1)
    exact ⟨1, _, rfl, h, wb_one rfl⟩
  | 4, hb1 =>
    have h := h2.trans hb1
    obtain rfl := Option.some.inj (show some _ = some b1 from hb1)
    exact ⟨2, _, rfl, h, wb_one rfl⟩
  | id + 5, hb1 => exact nomatch (show (none : Option Blk) = some b1 from hb1)
theorem wkB3 {k n c d i1 i2 : Nat} {R P PL PR : Nat → Pk} {g t l m s v f tm e : Int} {hp : LHeap} (nd : [0, 1, 2, 3, 4, i1, i2].Nodup) (h0 : hget hp 0 = some (bP k R)) (h1 : hget hp 1 = some (bPw n P)) (h2 : hget hp 2 = some (bPw n P)) (h3 : hget hp 3 = mkB (yO g t)) (h4 : hget hp 4 = mkB (meO l m s v f)) (h5 : ∀ b1, gB PL c = some b1 → ∃ b, hget hp i1 = some b ∧ WB (fun i => [0, 1, 2, 3, 4, i1, i2][i]?) b1 b) (h6 : ∀ b1, gB PR d = some b1 → ∃ b, hget hp i2 = some b ∧ WB (fun i => [0, 1, 2, 3, 4, i1, i2][i]?) b1 b) :
    Weak 1 (tplF 99 L3B (v3B n (gV i1 c) (gV i2 d) tm e)) hp (tplF 99 L3B (v3B n (gV 5 c) (gV 6 d) tm e)) ((h3B k R n P g t l m s v f (gB PL c) (gB PR d)).map mkB) := by
  refine ren_weak (m0 := 1) (vals' := v3B n (gV 5 c) (gV 6 d) tm e) [0, 1, 2, 3, 4, i1, i2] rfl (show 1 ≤ 7 by decide) (fun j hj => by obtain rfl : j = 0 := (by omega); rfl) ⟨.inr rfl, .inr rfl, .inr rfl, .inr rfl, .inr ?_, .inr ?_, .inr rfl, .inr rfl, trivial⟩ (fun id b1 hb1 => ?_) (inj_nodup nd)
  · cases c <;> rfl
  · cases d <;> rfl
  match id, hb1 with
  | 0, hb1 =>
    obtain rfl := Option.some.inj (show some (bP k R) = some b1 from hb1)
    exact ⟨0, _, rfl, h0, wb_bP⟩
  | 1, hb1 =>
    obtain rfl := Option.some.inj (show some (bPw n P) = some b1 from hb1)
    exact ⟨1, _, rfl, h1, (isL_self P n).wb _⟩
  | 2, hb1 =>
    obtain rfl := Option.some.inj (show some (bPw n P) = some b1 from hb1)
    exact ⟨2, _, rfl, h2, (isL_self P n).wb _⟩
  | 3, hb1 =>
    have h := h3.trans hb1
    obtain rfl := Option.some.inj (show some _ = some b1 from hb1)
    exact ⟨3, _, rfl, h, wb_one rfl⟩
  | 4, hb1 =>
    have h := h4.trans hb1
    obtain rfl := Option.some.inj (show some _ = some b1 from hb1)
    exact ⟨4, _, rfl, h, wb_one rfl⟩
  | 5, hb1 =>
    obtain ⟨b, q1, q2⟩ := h5 b1 hb1
    exact ⟨i1, b, rfl, q1, q2⟩
  | 6, hb1 =>
    obtain ⟨b, q1, q2⟩ := h6 b1 hb1
    exact ⟨i2, b, rfl, q1, q2⟩
  | id + 7, hb1 => exact nomatch (show (none : Option Blk) = some b1 from hb1)
theorem wkC3 {k n c d j1 j2 : Nat} {R P PL PR PA PB : Nat → Pk} {tm e : Int} {hp : LHeap} (nd : [0, 1, 2, 5, 6, j1, j2].Nodup) (h0 : hget hp 0 = some (bP k R)) (h1 : hget hp 1 = some (bPw n P)) (h2 : hget hp 2 = some (bPw n P)) (h3 : hget hp 5 = gB PL c) (h4 : hget hp 6 = gB PR d) (h5 : ∀ b1, gB PA c = some b1 → ∃ b, hget hp j1 = some b ∧ WB (fun i => [0, 1, 2, 5, 6, j1, j2][i]?) b1 b) (h6 : ∀ b1, gB PB d = some b1 → ∃ b, hget hp j2 = some b ∧ WB (fun i => [0, 1, 2, 5, 6, j1, j2][i]?) b1 b) :
    Weak 1 (tplF 99 L3C (v3C n (gV 5 c) (gV 6 d) tm e (gV j1 c) (gV j2 d) tm e)) hp (tplF 99 L3C (v3C n (gV 3 c) (gV 4 d) tm e (gV 5 c) (gV 6 d) tm e)) ((h3C k R n P (gB PL c) (gB PR d) (gB PA c) (gB PB d)).map mkB) := by
  refine ren_weak (m0 := 1) (vals' := v3C n (gV 3 c) (gV 4 d) tm e (gV 5 c) (gV 6 d) tm e) [0, 1, 2, 5, 6, j1, j2] rfl (show 1 ≤ 7 by decide) (fun j hj => by obtain rfl : j = 0 := (by omega); rfl) ⟨.inr rfl, .inr rfl, .inr ?_, .inr ?_, .inr rfl, .inr rfl, .inr ?_, .inr ?_, .inr rfl, .inr rfl, trivial⟩ (fun id b1 hb1 => ?_) (inj_nodup nd)
  · cases c <;> rfl
  · cases d <;> rfl
  · cases c <;> rfl
  · cases d <;> rfl
  match id, hb1 with
  | 0, hb1 =>
    obtain rfl := Option.some.inj (show some (bP k R) = some b1 from hb1)
    exact ⟨0, _, rfl, h0, wb_bP⟩
  | 1, hb1 =>
    obtain rfl := Option.some.inj (show some (bPw n P) = some b1 from hb1)
    exact ⟨1, _, rfl, h1, (isL_self P n).wb _⟩
  | 2, hb1 =>
    obtain rfl := Option.some.inj (show some (bPw n P) = some b1 from hb1)
    exact ⟨2, _, rfl, h2, (isL_self P n).wb _⟩
  | 3, hb1 =>
    obtain ⟨b, q1, q2⟩ := gB_self h3 b1 hb1
    exact ⟨5, b, rfl, q1, q2⟩
  | 4, hb1 =>
    obtain ⟨b, q1, q2⟩ := gB_self h4 b1 hb1
    exact ⟨6, b, rfl, q1, q2⟩
  | 5, hb1 =>
    obtain ⟨b, q1, q2⟩ := h5 b1 hb1
    exact ⟨j1, b, rfl, q1, q2⟩
  | 6, hb1 =>
    obtain ⟨b, q1, q2⟩ := h6 b1 hb1
    exact ⟨j2, b, rfl, q1, q2⟩
  | id + 7, hb1 => exact nomatch (show (none : Option Blk) = some b1 from hb1)
/-- Only the four blocks behind the first change. -/
theorem wkD3 {k n : Nat} {R P : Nat → Pk} {fr : List SV} {hp : LHeap} {o1 o2 : Option Blk} (h0 : hget hp 0 = some (bP k R)) (h1 : hget hp 1 = some (bPw n P)) (h2 : hget hp 2 = some (bPw n P)) (h3 : ∀ b1, o1 = some b1 → ∃ b, hget hp 3 = some b ∧ WB (upTo 5) b1 b) (h4 : ∀ b1, o2 = some b1 → ∃ b, hget hp 4 = some b ∧ WB (upTo 5) b1 b) (hv : ltAll 5 (svIdsL fr) = true) :
    Weak 1 fr hp fr ((h3D k R n P o1 o2).map mkB) := by
  refine heap_weak (m := 5) rfl (by decide) hv fun id b1 hb1 => ?_
  match id, hb1 with
  | 0, hb1 =>
    obtain rfl := Option.some.inj (show some (bP k R) = some b1 from hb1)
    exact ⟨_, h0, wb_bP⟩
  | 1, hb1 =>
    obtain rfl := Option.some.inj (show some (bPw n P) = some b1 from hb1)
    exact ⟨_, h1, (isL_self P n).wb _⟩
  | 2, hb1 =>
    obtain rfl := Option.some.inj (show some (bPw n P) = some b1 from hb1)
    exact ⟨_, h2, (isL_self P n).wb _⟩
  | 3, hb1 => exact h3 b1 hb1
  | 4, hb1 => exact h4 b1 hb1
  | id + 5, hb1 => exact nomatch (show (none : Option Blk) = some b1 from hb1)
/-- What Find told. -/
def Way3 (n : Nat) (P : Nat → Pk) (g t l m s v f : Int) (c d : Nat) (PL PR : Nat → Pk) (tm e : Int) : Prop :=
  (errV n P g t l m s v f ≠ 0 ∧ e = errV n P g t l m s v f ∧ tm = 0 ∧ c = 0 ∧ d = 0) ∨
  (errV n P g t l m s v f = 0 ∧ e = 0 ∧ tm = tmV g t (waitV l m s v f) P n ∧ Cut (lostB g t (waitV l m s v f) P) P n c PL ∧ Cut (restB g t (waitV l m s v f) P) P n d PR)
def QB3 (k : Nat) (R : Nat → Pk) (n : Nat) (P : Nat → Pk) (g t l m s v f : Int) (x : Ex) (vals : List SV) (B : List BO) : Prop := x = .normal ∧ ∃ c d PL PR tm e, Way3 (n + 1) P g t l m s v f c d PL PR tm e ∧
  Weak 1 (tplF 99 L3B vals) (B.map mkB) (tplF 99 L3B (v3B (n + 1) (gV 5 c) (gV 6 d) tm e)) ((h3B k R (n + 1) P g t l m s v f (gB PL c) (gB PR d)).map mkB)
def QC3 (k : Nat) (R : Nat → Pk) (n : Nat) (P : Nat → Pk) (c d : Nat) (PL PR : Nat → Pk) (tm e : Int) (x : Ex) (vals : List SV) (B : List BO) : Prop := x = .normal ∧ ∃ PA PB : Nat → Pk, (∀ r, r < c → PA r = PL r) ∧ (∀ r, r < d → PB r = PR r) ∧
  Weak 1 (tplF 99 L3C vals) (B.map mkB) (tplF 99 L3C (v3C (n + 1) (gV 3 c) (gV 4 d) tm e (gV 5 c) (gV 6 d) tm e)) ((h3C k R (n + 1) P (gB PL c) (gB PR d) (gB PA c) (gB PB d)).map mkB)
theorem nbF {a b : Nat} (h : a ≠ b) : Nat.beq a b = false := by
  cases e : Nat.beq a b with
  | false => rfl
  | true => exact absurd (Nat.eq_of_beq_eq_true e) h
/-- The numbers of the first ones are taken away. -/
def mkQ (Q : Nat → Pk) (i r : Nat) : Pk := bif decide (r < i) then negP (Q r) else Q r
theorem mk_step (Q : Nat → Pk) (i r : Nat) : (bif r.beq i then pkC (negP (mkQ Q i i)) else pkC (mkQ Q i r)) = pkC (mkQ Q (i + 1) r) := by
  unfold mkQ
  rcases Nat.lt_trichotomy r i with h | h | h
  · rw [show r.beq i = false from nbF (by omega) , cb h, cb (show r < i + 1 by omega)]; rfl
  · subst h
    rw [show r.beq r = true from Nat.beq_refl r, cf (Nat.lt_irrefl r), cb (show r < r + 1 by omega)]; rfl
  · rw [show r.beq i = false from nbF (by omega), cf (show ¬ r < i by omega), cf (show ¬ r < i + 1 by omega)]; rfl
section
attribute [local irreducible] evalC
set_option maxRecDepth 100000
set_option maxHeartbeats 2000000
theorem copyA3 {k : Nat} {R : Nat → Pk} {g t l m s v f : Int} (hk : 0 < k) : evalC C27t 0 1 (.seq c3_0 (.seq c3_1 (.seq c3_2 .skip))) (enterS 99 [.slice 0 0 6 k, .agg [.int .i64 g, .int .i64 t], .agg [.int .i64 l, .int .i64 m, .int .i64 s, .int .i64 v, .int .i64 f]]) [some (bP k R)] (obsN L3A M3a (seen 99 M3a.length fun x vals B => x = .normal ∧ ∃ n P, n + 1 ≤ 260 ∧ Weak 1 (tplF 99 L3A vals) (B.map mkB) (tplF 99 L3A (v3A (n + 1))) ((h3A k R (n + 1) P g t l m s v f).map mkB))) := by
  rw [p3a k R g t l m s v f]
  have i0 : ∀ Q : Nat → Pk, ∀ c : Nat, ∀ r, r < c → ltAll 5 (svIdsL (pkC (Q r))) = true := fun _ _ _ _ => rfl
  have i1 : ∀ Q : Nat → Pk, ∀ c : Nat, ∀ r, r < c → ltAll 5 (svIdsL (bif r.beq 0 then pkC (Q 0) else pkC (Q r))) = true := fun Q c r _ => by cases r <;> rfl
  refine ⟨⟨rfl, Nat.le_refl _, fun r _ => ⟨R r, rfl⟩⟩, hk, fun q Q hq hQ => condSplit (fun _ => ⟨(isL_one' Q (q + 1)).ps, Nat.succ_le_succ (Nat.zero_le _), fun q1 Q1 hq1 hQ1 => ?_⟩) fun _ => ⟨(isL_self Q (q + 1)).ps, Nat.succ_le_succ (Nat.zero_le _), fun q1 Q1 hq1 hQ1 => ?_⟩⟩
  · have hc := (isL_one' Q (q + 1)).copy hQ1 (by omega)
    obtain rfl : q1 = q := by omega
    refine condSplit (fun _ => ?_) fun _ => ?_
    · exact ⟨rfl, rfl, ⟨fun _ _ => rfl, rfl, rfl, i1 Q _, i1 Q1 _, trivial⟩, rfl, q1, Q, by omega, wkA3 rfl rfl rfl rfl (isL_one' Q (q1 + 1)) rfl ((isL_one' Q1 (q1 + 1)).eqv hc)⟩
    · exact ⟨rfl, rfl, ⟨fun _ _ => rfl, rfl, rfl, i1 Q _, i0 Q1 _, trivial⟩, rfl, q1, Q, by omega, wkA3 rfl rfl rfl rfl (isL_one' Q (q1 + 1)) rfl ((isL_self Q1 (q1 + 1)).eqv hc)⟩
  · have hc := (isL_self Q (q + 1)).copy hQ1 (by omega)
    obtain rfl : q1 = q := by omega
    refine condSplit (fun _ => ?_) fun _ => ?_
    · exact ⟨rfl, rfl, ⟨fun _ _ => rfl, rfl, rfl, i0 Q _, i1 Q1 _, trivial⟩, rfl, q1, Q, by omega, wkA3 rfl rfl rfl rfl (isL_self Q (q1 + 1)) rfl ((isL_one' Q1 (q1 + 1)).eqv hc)⟩
    · exact ⟨rfl, rfl, ⟨fun _ _ => rfl, rfl, rfl, i0 Q _, i0 Q1 _, trivial⟩, rfl, q1, Q, by omega, wkA3 rfl rfl rfl rfl (isL_self Q (q1 + 1)) rfl ((isL_self Q1 (q1 + 1)).eqv hc)⟩
theorem findB3 {k n : Nat} {R P : Nat → Pk} {g t l m s v f : Int} (hn : n + 1 ≤ 260) : evalC C27t 0 1 c3_3 (tplF 99 L3A (v3A (n + 1))) ((h3A k R (n + 1) P g t l m s v f).map mkB) (obsN L3B M3b (seen 99 M3b.length (QB3 k R n P g t l m s v f))) := by
  rw [p3b k R n P g t l m s v f]
  have i0 : ∀ Q : Nat → Pk, ∀ c : Nat, ∀ r, r < c → ltAll 7 (svIdsL (pkC (Q r))) = true := fun _ _ _ _ => rfl
  have i1 : ∀ Q : Nat → Pk, ∀ c : Nat, ∀ r, r < c → ltAll 7 (svIdsL (bif r.beq 0 then pkC (Q 0) else pkC (Q r))) = true := fun Q c r _ => by cases r <;> rfl
  refine ⟨(isL_self P (n + 1)).p (by omega), Nat.succ_le_succ (Nat.zero_le _), fun P1 tm e F E e1 sl => ?_⟩
  obtain rfl : P1 = P := e1
  obtain ⟨rfl, rfl, rfl, rfl⟩ := sl
  refine ⟨fun h0 => ?_, fun h0 a PL p q => condSplit (fun _ => ?_) fun _ => ?_, fun h0 b PR p q => condSplit (fun _ => ?_) fun _ => ?_, fun h0 a PL b PR p q => condSplit (fun _ => condSplit (fun _ => ?_) fun _ => ?_) fun _ => condSplit (fun _ => ?_) fun _ => ?_⟩
  · exact ⟨rfl, rfl, ⟨fun _ _ => rfl, i0 P1 _, i0 P1 _, rfl, rfl, trivial, trivial, trivial⟩, rfl, 0, 0, P1, P1, 0, _, .inl ⟨h0, rfl, rfl, rfl, rfl⟩, wkB3 (i1 := 5) (i2 := 6) (c := 0) (d := 0) (by decide) rfl rfl rfl rfl rfl (fun b1 q => nomatch (show (none : Option Blk) = some b1 from q)) (fun b1 q => nomatch (show (none : Option Blk) = some b1 from q))⟩
  · exact ⟨rfl, rfl, ⟨fun _ _ => rfl, i0 P1 _, i0 P1 _, rfl, rfl, i1 PL _, trivial, trivial⟩, rfl, a + 1, 0, PL, P1, _, 0, .inr ⟨h0, rfl, rfl, p.cut, Cut.none q⟩, wkB3 (i1 := 5) (i2 := 6) (c := a + 1) (d := 0) (by decide) rfl rfl rfl rfl rfl (gB_wb rfl (isL_one' PL _)) (fun b1 q => nomatch (show (none : Option Blk) = some b1 from q))⟩
  · exact ⟨rfl, rfl, ⟨fun _ _ => rfl, i0 P1 _, i0 P1 _, rfl, rfl, i0 PL _, trivial, trivial⟩, rfl, a + 1, 0, PL, P1, _, 0, .inr ⟨h0, rfl, rfl, p.cut, Cut.none q⟩, wkB3 (i1 := 5) (i2 := 6) (c := a + 1) (d := 0) (by decide) rfl rfl rfl rfl rfl (gB_wb rfl (isL_self PL _)) (fun b1 q => nomatch (show (none : Option Blk) = some b1 from q))⟩
  · exact ⟨rfl, rfl, ⟨fun _ _ => rfl, i0 P1 _, i0 P1 _, rfl, rfl, i1 PR _, trivial, trivial⟩, rfl, 0, b + 1, P1, PR, _, 0, .inr ⟨h0, rfl, rfl, Cut.none p, q.cut⟩, wkB3 (i1 := 6) (i2 := 5) (c := 0) (d := b + 1) (by decide) rfl rfl rfl rfl rfl (fun b1 q => nomatch (show (none : Option Blk) = some b1 from q)) (gB_wb rfl (isL_one' PR _))⟩
  · exact ⟨rfl, rfl, ⟨fun _ _ => rfl, i0 P1 _, i0 P1 _, rfl, rfl, i0 PR _, trivial, trivial⟩, rfl, 0, b + 1, P1, PR, _, 0, .inr ⟨h0, rfl, rfl, Cut.none p, q.cut⟩, wkB3 (i1 := 6) (i2 := 5) (c := 0) (d := b + 1) (by decide) rfl rfl rfl rfl rfl (fun b1 q => nomatch (show (none : Option Blk) = some b1 from q)) (gB_wb rfl (isL_self PR _))⟩
  · exact ⟨rfl, rfl, ⟨fun _ _ => rfl, i0 P1 _, i0 P1 _, rfl, rfl, i1 PL _, i1 PR _, trivial⟩, rfl, a + 1, b + 1, PL, PR, _, 0, .inr ⟨h0, rfl, rfl, p.cut, q.cut⟩, wkB3 (i1 := 5) (i2 := 6) (c := a + 1) (d := b + 1) (by decide) rfl rfl rfl rfl rfl (gB_wb rfl (isL_one' PL _)) (gB_wb rfl (isL_one' PR _))⟩
  · exact ⟨rfl, rfl, ⟨fun _ _ => rfl, i0 P1 _, i0 P1 _, rfl, rfl, i1 PL _, i0 PR _, trivial⟩, rfl, a + 1, b + 1, PL, PR, _, 0, .inr ⟨h0, rfl, rfl, p.cut, q.cut⟩, wkB3 (i1 := 5) (i2 := 6) (c := a + 1) (d := b + 1) (by decide) rfl rfl rfl rfl rfl (gB_wb rfl (isL_one' PL _)) (gB_wb rfl (isL_self PR _))⟩
  · exact ⟨rfl, rfl, ⟨fun _ _ => rfl, i0 P1 _, i0 P1 _, rfl, rfl, i0 PL _, i1 PR _, trivial⟩, rfl, a + 1, b + 1, PL, PR, _, 0, .inr ⟨h0, rfl, rfl, p.cut, q.cut⟩, wkB3 (i1 := 5) (i2 := 6) (c := a + 1) (d := b + 1) (by decide) rfl rfl rfl rfl rfl (gB_wb rfl (isL_self PL _)) (gB_wb rfl (isL_one' PR _))⟩
  · exact ⟨rfl, rfl, ⟨fun _ _ => rfl, i0 P1 _, i0 P1 _, rfl, rfl, i0 PL _, i0 PR _, trivial⟩, rfl, a + 1, b + 1, PL, PR, _, 0, .inr ⟨h0, rfl, rfl, p.cut, q.cut⟩, wkB3 (i1 := 5) (i2 := 6) (c := a + 1) (d := b + 1) (by decide) rfl rfl rfl rfl rfl (gB_wb rfl (isL_self PL _)) (gB_wb rfl (isL_self PR _))⟩
theorem findC3e {k n : Nat} {R P PL PR : Nat → Pk} {g t l m s v f : Int} (hn : n + 1 ≤ 260) (h0 : errV (n + 1) P g t l m s v f ≠ 0) : evalC C27e 0 1 c3_4 (tplF 99 L3B (v3B (n + 1) (gV 5 0) (gV 6 0) 0 (errV (n + 1) P g t l m s v f))) ((h3B k R (n + 1) P g t l m s v f (gB PL 0) (gB PR 0)).map mkB) (obsN L3C M3c (seen 99 M3c.length (QC3 k R n P 0 0 PL PR 0 (errV (n + 1) P g t l m s v f)))) := by
  rw [p3ce k R n P g t l m s v f]
  have i0 : ∀ Q : Nat → Pk, ∀ c : Nat, ∀ r, r < c → ltAll 9 (svIdsL (pkC (Q r))) = true := fun _ _ _ _ => rfl
  have i1 : ∀ Q : Nat → Pk, ∀ c : Nat, ∀ r, r < c → ltAll 9 (svIdsL (bif r.beq 0 then pkC (Q 0) else pkC (Q r))) = true := fun Q c r _ => by cases r <;> rfl
  refine ⟨(isL_self P (n + 1)).p (by omega), Nat.succ_le_succ (Nat.zero_le _), fun P1 tm e F E e1 sl => ?_⟩
  obtain rfl : P1 = P := e1
  obtain ⟨rfl, rfl, rfl, rfl⟩ := sl
  exact ⟨h0, rfl, rfl, ⟨fun _ _ => rfl, i0 P1 _, i0 P1 _, rfl, rfl, gB_ids _ PL 0, gB_ids _ PR 0, trivial, trivial, trivial⟩, rfl, P1, P1, fun r hr => absurd hr (Nat.not_lt_zero r), fun r hr => absurd hr (Nat.not_lt_zero r), wkC3 (j1 := 7) (j2 := 8) (c := 0) (d := 0) (by decide) rfl rfl rfl rfl rfl (fun b1 q => nomatch (show (none : Option Blk) = some b1 from q)) (fun b1 q => nomatch (show (none : Option Blk) = some b1 from q))⟩
theorem findC3sn {k n a : Nat} {R P PL PR : Nat → Pk} {g t l m s v f : Int} (hn : n + 1 ≤ 260) (h0 : errV (n + 1) P g t l m s v f = 0) (pl : Cut (lostB g t (waitV l m s v f) P) P (n + 1) (a + 1) PL) (pr : Cut (restB g t (waitV l m s v f) P) P (n + 1) 0 PR) : evalC C27sn 0 1 c3_4 (tplF 99 L3B (v3B (n + 1) (gV 5 (a + 1)) (gV 6 0) (tmV g t (waitV l m s v f) P (n + 1)) 0)) ((h3B k R (n + 1) P g t l m s v f (gB PL (a + 1)) (gB PR 0)).map mkB) (obsN L3C M3c (seen 99 M3c.length (QC3 k R n P (a + 1) 0 PL PR (tmV g t (waitV l m s v f) P (n + 1)) 0))) := by
  rw [p3csn k R n P g t l m s v f]
  have i0 : ∀ Q : Nat → Pk, ∀ c : Nat, ∀ r, r < c → ltAll 9 (svIdsL (pkC (Q r))) = true := fun _ _ _ _ => rfl
  have i1 : ∀ Q : Nat → Pk, ∀ c : Nat, ∀ r, r < c → ltAll 9 (svIdsL (bif r.beq 0 then pkC (Q 0) else pkC (Q r))) = true := fun Q c r _ => by cases r <;> rfl
  refine ⟨(isL_self P (n + 1)).p (by omega), Nat.succ_le_succ (Nat.zero_le _), fun P1 tm e F E e1 sl => ?_⟩
  obtain rfl : P1 = P := e1
  obtain ⟨rfl, rfl, rfl, rfl⟩ := sl
  refine ⟨h0, pr.cnt, fun a1 PA p => ?_⟩
  obtain rfl : a1 = a := by have := p.cnt; have := pl.cnt; omega
  refine condSplit (fun _ => ?_) fun _ => ?_
  · exact ⟨rfl, rfl, ⟨fun _ _ => rfl, i0 P1 _, i0 P1 _, rfl, rfl, gB_ids _ PL (a1 + 1), gB_ids _ PR 0, i1 PA _, trivial, trivial⟩, rfl, PA, PR, fun r hr => by rw [p.row r hr, pl.row r hr], fun r hr => rfl, wkC3 (j1 := 7) (j2 := 8) (c := (a1 + 1)) (d := 0) (by decide) rfl rfl rfl rfl rfl (gB_wb rfl (isL_one' PA _)) (fun b1 q => nomatch (show (none : Option Blk) = some b1 from q))⟩
  · exact ⟨rfl, rfl, ⟨fun _ _ => rfl, i0 P1 _, i0 P1 _, rfl, rfl, gB_ids _ PL (a1 + 1), gB_ids _ PR 0, i0 PA _, trivial, trivial⟩, rfl, PA, PR, fun r hr => by rw [p.row r hr, pl.row r hr], fun r hr => rfl, wkC3 (j1 := 7) (j2 := 8) (c := (a1 + 1)) (d := 0) (by decide) rfl rfl rfl rfl rfl (gB_wb rfl (isL_self PA _)) (fun b1 q => nomatch (show (none : Option Blk) = some b1 from q))⟩
theorem findC3ns {k n b : Nat} {R P PL PR : Nat → Pk} {g t l m s v f : Int} (hn : n + 1 ≤ 260) (h0 : errV (n + 1) P g t l m s v f = 0) (pl : Cut (lostB g t (waitV l m s v f) P) P (n + 1) 0 PL) (pr : Cut (restB g t (waitV l m s v f) P) P (n + 1) (b + 1) PR) : evalC C27ns 0 1 c3_4 (tplF 99 L3B (v3B (n + 1) (gV 5 0) (gV 6 (b + 1)) (tmV g t (waitV l m s v f) P (n + 1)) 0)) ((h3B k R (n + 1) P g t l m s v f (gB PL 0) (gB PR (b + 1))).map mkB) (obsN L3C M3c (seen 99 M3c.length (QC3 k R n P 0 (b + 1) PL PR (tmV g t (waitV l m s v f) P (n + 1)) 0))) := by
  rw [p3cns k R n P g t l m s v f]
  have i0 : ∀ Q : Nat → Pk, ∀ c : Nat, ∀ r, r < c → ltAll 9 (svIdsL (pkC (Q r))) = true := fun _ _ _ _ => rfl
  have i1 : ∀ Q : Nat → Pk, ∀ c : Nat, ∀ r, r < c → ltAll 9 (svIdsL (bif r.beq 0 then pkC (Q 0) else pkC (Q r))) = true := fun Q c r _ => by cases r <;> rfl
  refine ⟨(isL_self P (n + 1)).p (by omega), Nat.succ_le_succ (Nat.zero_le _), fun P1 tm e F E e1 sl => ?_⟩
  obtain rfl : P1 = P := e1
  obtain ⟨rfl, rfl, rfl, rfl⟩ := sl
  refine ⟨h0, pl.cnt, fun b1 PB p => ?_⟩
  obtain rfl : b1 = b := by have := p.cnt; have := pr.cnt; omega
  refine condSplit (fun _ => ?_) fun _ => ?_
  · exact ⟨rfl, rfl, ⟨fun _ _ => rfl, i0 P1 _, i0 P1 _, rfl, rfl, gB_ids _ PL 0, gB_ids _ PR (b1 + 1), i1 PB _, trivial, trivial⟩, rfl, PL, PB, fun r hr => rfl, fun r hr => by rw [p.row r hr, pr.row r hr], wkC3 (j1 := 8) (j2 := 7) (c := 0) (d := (b1 + 1)) (by decide) rfl rfl rfl rfl rfl (fun b2 q => nomatch (show (none : Option Blk) = some b2 from q)) (gB_wb rfl (isL_one' PB _))⟩
  · exact ⟨rfl, rfl, ⟨fun _ _ => rfl, i0 P1 _, i0 P1 _, rfl, rfl, gB_ids _ PL 0, gB_ids _ PR (b1 + 1), i0 PB _, trivial, trivial⟩, rfl, PL, PB, fun r hr => rfl, fun r hr => by rw [p.row r hr, pr.row r hr], wkC3 (j1 := 8) (j2 := 7) (c := 0) (d := (b1 + 1)) (by decide) rfl rfl rfl rfl rfl (fun b2 q => nomatch (show (none : Option Blk) = some b2 from q)) (gB_wb rfl (isL_self PB _))⟩
theorem findC3ss {k n a b : Nat} {R P PL PR : Nat → Pk} {g t l m s v f : Int} (hn : n + 1 ≤ 260) (h0 : errV (n + 1) P g t l m s v f = 0) (pl : Cut (lostB g t (waitV l m s v f) P) P (n + 1) (a + 1) PL) (pr : Cut (restB g t (waitV l m s v f) P) P (n + 1) (b + 1) PR) : evalC C27ss 0 1 c3_4 (tplF 99 L3B (v3B (n + 1) (gV 5 (a + 1)) (gV 6 (b + 1)) (tmV g t (waitV l m s v f) P (n + 1)) 0)) ((h3B k R (n + 1) P g t l m s v f (gB PL (a + 1)) (gB PR (b + 1))).map mkB) (obsN L3C M3c (seen 99 M3c.length (QC3 k R n P (a + 1) (b + 1) PL PR (tmV g t (waitV l m s v f) P (n + 1)) 0))) := by
  rw [p3css k R n P g t l m s v f]
  have i0 : ∀ Q : Nat → Pk, ∀ c : Nat, ∀ r, r < c → ltAll 9 (svIdsL (pkC (Q r))) = true := fun _ _ _ _ => rfl
  have i1 : ∀ Q : Nat → Pk, ∀ c : Nat, ∀ r, r < c → ltAll 9 (svIdsL (bif r.beq 0 then pkC (Q 0) else pkC (Q r))) = true := fun Q c r _ => by cases r <;> rfl
  refine ⟨(isL_self P (n + 1)).p (by omega), Nat.succ_le_succ (Nat.zero_le _), fun P1 tm e F E e1 sl => ?_⟩
  obtain rfl : P1 = P := e1
  obtain ⟨rfl, rfl, rfl, rfl⟩ := sl
  refine ⟨h0, (by show 1 ≤ _; rw [pl.cnt]; omega), (by show 1 ≤ _; rw [pr.cnt]; omega), fun a1 PA b1 PB p q => ?_⟩
  obtain rfl : a1 = a := by have := p.cnt; have := pl.cnt; omega
  obtain rfl : b1 = b := by have := q.cnt; have := pr.cnt; omega
  refine condSplit (fun _ => condSplit (fun _ => ?_) fun _ => ?_) fun _ => condSplit (fun _ => ?_) fun _ => ?_
  · exact ⟨rfl, rfl, ⟨fun _ _ => rfl, i0 P1 _, i0 P1 _, rfl, rfl, gB_ids _ PL (a1 + 1), gB_ids _ PR (b1 + 1), i1 PA _, i1 PB _, trivial⟩, rfl, PA, PB, fun r hr => by rw [p.row r hr, pl.row r hr], fun r hr => by rw [q.row r hr, pr.row r hr], wkC3 (j1 := 7) (j2 := 8) (c := (a1 + 1)) (d := (b1 + 1)) (by decide) rfl rfl rfl rfl rfl (gB_wb rfl (isL_one' PA _)) (gB_wb rfl (isL_one' PB _))⟩
  · exact ⟨rfl, rfl, ⟨fun _ _ => rfl, i0 P1 _, i0 P1 _, rfl, rfl, gB_ids _ PL (a1 + 1), gB_ids _ PR (b1 + 1), i1 PA _, i0 PB _, trivial⟩, rfl, PA, PB, fun r hr => by rw [p.row r hr, pl.row r hr], fun r hr => by rw [q.row r hr, pr.row r hr], wkC3 (j1 := 7) (j2 := 8) (c := (a1 + 1)) (d := (b1 + 1)) (by decide) rfl rfl rfl rfl rfl (gB_wb rfl (isL_one' PA _)) (gB_wb rfl (isL_self PB _))⟩
  · exact ⟨rfl, rfl, ⟨fun _ _ => rfl, i0 P1 _, i0 P1 _, rfl, rfl, gB_ids _ PL (a1 + 1), gB_ids _ PR (b1 + 1), i0 PA _, i1 PB _, trivial⟩, rfl, PA, PB, fun r hr => by rw [p.row r hr, pl.row r hr], fun r hr => by rw [q.row r hr, pr.row r hr], wkC3 (j1 := 7) (j2 := 8) (c := (a1 + 1)) (d := (b1 + 1)) (by decide) rfl rfl rfl rfl rfl (gB_wb rfl (isL_self PA _)) (gB_wb rfl (isL_one' PB _))⟩
  · exact ⟨rfl, rfl, ⟨fun _ _ => rfl, i0 P1 _, i0 P1 _, rfl, rfl, gB_ids _ PL (a1 + 1), gB_ids _ PR (b1 + 1), i0 PA _, i0 PB _, trivial⟩, rfl, PA, PB, fun r hr => by rw [p.row r hr, pl.row r hr], fun r hr => by rw [q.row r hr, pr.row r hr], wkC3 (j1 := 7) (j2 := 8) (c := (a1 + 1)) (d := (b1 + 1)) (by decide) rfl rfl rfl rfl rfl (gB_wb rfl (isL_self PA _)) (gB_wb rfl (isL_self PB _))⟩
theorem same3 {c n : Nat} {Q Q2 : Nat → Pk} (h : ∀ r, r < c → Q2 r = Q r) : (Nat.beq c c && eqPs (fun r => rowP ((bPw n Q).rd r)) (fun r => rowP ((bPw n Q2).rd r)) c) = true := by
  rw [Nat.beq_refl, eqPs_same fun r hr => by show Q r = Q2 r; exact (h r hr).symm]
  rfl
theorem bothD3 {k n c d : Nat} {R P PL PR PA PB : Nat → Pk} {tm e : Int} {X : Code} {K : KC} (hn : n + 1 ≤ 260) (hc : c ≤ 260) (hd : d ≤ 260) (ha : ∀ r, r < c → PA r = PL r) (hb : ∀ r, r < d → PB r = PR r) (hK : CodeOK Try.prog 1 X (tplF 99 L3D (v3D (n + 1) (gV 3 c) (gV 4 d))) ((h3D k R (n + 1) P (gB PL c) (gB PR d)).map mkB) K) :
    CodeOK Try.prog 1 (.seq c3_5 X) (tplF 99 L3C (v3C (n + 1) (gV 3 c) (gV 4 d) tm e (gV 5 c) (gV 6 d) tm e)) ((h3C k R (n + 1) P (gB PL c) (gB PR d) (gB PA c) (gB PB d)).map mkB) K := by
  refine CodeOK.seq (CodeOK.atE (C := C18) ec gs18 mixed (u := 0) (len := 99) (rs := Try.f3.results.toList) (L := L3D) (M := M3d) (vals := v3D (n + 1) (gV 3 c) (gV 4 d)) (B := h3D k R (n + 1) P (gB PL c) (gB PR d)) (show 1 ≤ 5 by decide) .normal ?_ hK)
  have hp := (isL_self P (n + 1)).p (by omega)
  have hx : (chkP (fun r => rowP ((bPw (n + 1) P).rd r)) (n + 1) != chkP (fun r => rowP ((bPw (n + 1) P).rd r)) (n + 1)) = false := bne_self_eq_false' _
  have ht : (tm != tm) = false := bne_self_eq_false' _
  have he : (e != e) = false := bne_self_eq_false' _
  cases c with
  | zero =>
    cases d with
    | zero =>
      show evalC C18 0 1 c3_5 (tplF 99 L3C (v3C (n + 1) .nilSlice .nilSlice tm e .nilSlice .nilSlice tm e)) ((h3C k R (n + 1) P none none none none).map mkB) (obsE Try.prog Try.f3.results.toList L3D M3d _ _)
      rw [p3dnn k R n P tm e]
      exact condF' ht (condF' he ⟨hp, hp, condF' hx ⟨rfl, rfl, ⟨fun _ _ => rfl, fun _ _ => rfl, fun _ _ => rfl, trivial, trivial, trivial⟩, rfl, rfl, rfl⟩⟩)
    | succ b =>
      show evalC C18 0 1 c3_5 (tplF 99 L3C (v3C (n + 1) .nilSlice (.slice 4 0 6 (b + 1)) tm e .nilSlice (.slice 6 0 6 (b + 1)) tm e)) ((h3C k R (n + 1) P none (some (bPw (b + 1) PR)) none (some (bPw (b + 1) PB))).map mkB) (obsE Try.prog Try.f3.results.toList L3D M3d _ _)
      rw [p3dns k R n P b PR PB tm e]
      exact ⟨(isL_self PR (b + 1)).p (by omega), (isL_self PB (b + 1)).p (by omega), condF' (by rw [same3 hb]; rfl) (condF' ht (condF' he ⟨hp, hp, condF' hx ⟨rfl, rfl, ⟨fun _ _ => rfl, fun _ _ => rfl, fun _ _ => rfl, trivial, fun _ _ => rfl, trivial⟩, rfl, rfl, rfl⟩⟩))⟩
  | succ a =>
    cases d with
    | zero =>
      show evalC C18 0 1 c3_5 (tplF 99 L3C (v3C (n + 1) (.slice 3 0 6 (a + 1)) .nilSlice tm e (.slice 5 0 6 (a + 1)) .nilSlice tm e)) ((h3C k R (n + 1) P (some (bPw (a + 1) PL)) none (some (bPw (a + 1) PA)) none).map mkB) (obsE Try.prog Try.f3.results.toList L3D M3d _ _)
      rw [p3dsn k R n P a PL PA tm e]
      exact ⟨(isL_self PL (a + 1)).p (by omega), (isL_self PA (a + 1)).p (by omega), condF' (by rw [same3 ha]; rfl) (condF' ht (condF' he ⟨hp, hp, condF' hx ⟨rfl, rfl, ⟨fun _ _ => rfl, fun _ _ => rfl, fun _ _ => rfl, fun _ _ => rfl, trivial, trivial⟩, rfl, rfl, rfl⟩⟩))⟩
    | succ b =>
      show evalC C18 0 1 c3_5 (tplF 99 L3C (v3C (n + 1) (.slice 3 0 6 (a + 1)) (.slice 4 0 6 (b + 1)) tm e (.slice 5 0 6 (a + 1)) (.slice 6 0 6 (b + 1)) tm e)) ((h3C k R (n + 1) P (some (bPw (a + 1) PL)) (some (bPw (b + 1) PR)) (some (bPw (a + 1) PA)) (some (bPw (b + 1) PB))).map mkB) (obsE Try.prog Try.f3.results.toList L3D M3d _ _)
      rw [p3dss k R n P a PL PA b PR PB tm e]
      exact ⟨(isL_self PL (a + 1)).p (by omega), (isL_self PA (a + 1)).p (by omega), condF' (by rw [same3 ha]; rfl) ⟨(isL_self PR (b + 1)).p (by omega), (isL_self PB (b + 1)).p (by omega), condF' (by rw [same3 hb]; rfl) (condF' ht (condF' he ⟨hp, hp, condF' hx ⟨rfl, rfl, ⟨fun _ _ => rfl, fun _ _ => rfl, fun _ _ => rfl, fun _ _ => rfl, fun _ _ => rfl, trivial⟩, rfl, rfl, rfl⟩⟩))⟩⟩
theorem roundF3 {k n c : Nat} {R P Q : Nat → Pk} {rest : SV} {o2 : Option Blk} (hc : c ≤ 260) (hB : idsOkB 5 (BO.raw o2)) (hS : ∀ (hp : LHeap), hget hp 4 = o2 → ∀ b1, o2 = some b1 → ∃ b, hget hp 4 = some b ∧ WB (upTo 5) b1 b) (hw : ∀ i, ltAll 5 (svIdsL (v3E (n + 1) (gV 3 c) rest (ni i))) = true) (hv : ∀ i, ltAll 5 (svIdsL (tplF 99 L3E (v3E (n + 1) (gV 3 c) rest (ni i)))) = true) (i : Nat) (hi : i < c) : CodeOK Try.prog 1 c3_7 (tplF 99 L3E (v3E (n + 1) (gV 3 c) rest (ni i))) ((h3D k R (n + 1) P (gB (mkQ Q i) c) o2).map mkB) (fun x fr hp => x = .normal ∧ Weak 1 fr hp (tplF 99 L3E (v3E (n + 1) (gV 3 c) rest (ni (i + 1)))) ((h3D k R (n + 1) P (gB (mkQ Q (i + 1)) c) o2).map mkB)) := by
  refine (CodeOK.lookN (C := C18) ec gs18 mixed (u := 0) (len := 99) (L := L3E) (M := M3d) (show 1 ≤ 5 by decide) (Q := fun x vals B => x = .normal ∧ Weak 1 (tplF 99 L3E vals) (B.map mkB) (tplF 99 L3E (v3E (n + 1) (gV 3 c) rest (ni (i + 1)))) ((h3D k R (n + 1) P (gB (mkQ Q (i + 1)) c) o2).map mkB)) ?_).st fun x vals B h => h
  match c, hi, hc, hw, hv with
  | 0, hi, _, _, _ => omega
  | 1, hi, _, hw, hv =>
    obtain rfl : i = 0 := by omega
    show evalC C18 0 1 c3_7 (tplF 99 L3E (v3E (n + 1) (.slice 3 0 6 1) rest (.int .i64 0))) ((h3D k R (n + 1) P (some (bPw 1 (mkQ Q 0))) o2).map mkB) _
    rw [p3f0 k R n P rest (mkQ Q 0) o2]
    exact ⟨rfl, hw 1, ⟨fun _ _ => rfl, fun _ _ => rfl, fun _ _ => rfl, fun r _ => by cases r <;> rfl, hB, trivial⟩, rfl, wkD3 rfl rfl rfl (gB_wb (c := 1) rfl ⟨rfl, rfl, rfl, rfl, fun r hr => by obtain rfl : r = 0 := (by omega); rfl⟩) (hS _ rfl) (hv 1)⟩
  | a + 2, hi, hc, hw, hv =>
    have ha : decide ((i : Int) < ((a + 2 : Nat) : Int)) = true := cb (by omega)
    have e0 : 0 + ((i : Nat) : Int).toNat = i := by rw [Nat.zero_add]; rfl
    have hb : (decide (0 + ((i : Nat) : Int).toNat < a + 2) && true && true && true && true && true) = true := by rw [e0, cb hi]; rfl
    show evalC C18 0 1 c3_7 (tplF 99 L3E (v3E (n + 1) (.slice 3 0 6 (a + 2)) rest (.int .i64 i))) ((h3D k R (n + 1) P (some (bPw (a + 2) (mkQ Q i))) o2).map mkB) _
    rw [p3fs k R n P rest a (mkQ Q i) o2 i]
    refine condT' ha (condT' ha (condT' hb ?_))
    rw [i64n i (by omega), e0]
    have hl : IsL ⟨6, a + 2, fun r => bif r.beq i then pkC (negP (mkQ Q i i)) else pkC (mkQ Q i r), true, 33⟩ (mkQ Q (i + 1)) (a + 2) := ⟨rfl, rfl, rfl, rfl, fun r _ => mk_step Q i r⟩
    exact ⟨rfl, hw (i + 1), ⟨fun _ _ => rfl, fun _ _ => rfl, fun _ _ => rfl, hl.ids, hB, trivial⟩, rfl, wkD3 rfl rfl rfl (gB_wb (c := a + 2) rfl hl) (hS _ rfl) (hv (i + 1))⟩
theorem loopF3 {k n c : Nat} {R P Q : Nat → Pk} {rest : SV} {o2 : Option Blk} (hc : c ≤ 260) (hB : idsOkB 5 (BO.raw o2)) (hS : ∀ (hp : LHeap), hget hp 4 = o2 → ∀ b1, o2 = some b1 → ∃ b, hget hp 4 = some b ∧ WB (upTo 5) b1 b) (hw : ∀ i, ltAll 5 (svIdsL (v3E (n + 1) (gV 3 c) rest (ni i))) = true) (hv : ∀ i, ltAll 5 (svIdsL (tplF 99 L3E (v3E (n + 1) (gV 3 c) rest (ni i)))) = true) {K : KC} (hK : K (.exit 0) (tplF 99 L3E (v3E (n + 1) (gV 3 c) rest (ni c))) ((h3D k R (n + 1) P (gB (mkQ Q c) c) o2).map mkB)) : CodeOK Try.prog 1 (.loop c3_7) (tplF 99 L3E (v3E (n + 1) (gV 3 c) rest (ni 0))) ((h3D k R (n + 1) P (gB (mkQ Q 0) c) o2).map mkB) K := by
  refine CodeOK.count (n := c) (F := fun i => (tplF 99 L3E (v3E (n + 1) (gV 3 c) rest (ni i)))) (H := fun i => ((h3D k R (n + 1) P (gB (mkQ Q i) c) o2).map mkB)) (fun i hi => roundF3 hc hB hS hw hv i hi) ?_ hK
  refine (CodeOK.lookN (C := C18) ec gs18 mixed (u := 0) (len := 99) (L := L3E) (M := M3d) (show 1 ≤ 5 by decide) (Q := fun x vals B => x = .exit 0 ∧ Weak 1 (tplF 99 L3E vals) (B.map mkB) (tplF 99 L3E (v3E (n + 1) (gV 3 c) rest (ni c))) ((h3D k R (n + 1) P (gB (mkQ Q c) c) o2).map mkB)) ?_).st fun x vals B h => h
  match c, hc, hw, hv with
  | 0, _, hw, hv =>
    show evalC C18 0 1 c3_7 (tplF 99 L3E (v3E (n + 1) .nilSlice rest (.int .i64 (0 : Nat)))) ((h3D k R (n + 1) P (gB (mkQ Q 0) 0) o2).map mkB) _
    rw [p3fn k R n P rest (gB (mkQ Q 0) 0) o2 0]
    exact ⟨rfl, hw 0, ⟨fun _ _ => rfl, fun _ _ => rfl, fun _ _ => rfl, trivial, hB, trivial⟩, rfl, wkD3 rfl rfl rfl (fun b1 q => nomatch (show (none : Option Blk) = some b1 from q)) (hS _ rfl) (hv 0)⟩
  | 1, _, hw, hv =>
    show evalC C18 0 1 c3_7 (tplF 99 L3E (v3E (n + 1) (.slice 3 0 6 1) rest (.int .i64 1))) ((h3D k R (n + 1) P (some (bPw 1 (mkQ Q 1))) o2).map mkB) _
    rw [p3f1 k R n P rest (mkQ Q 1) o2]
    exact ⟨rfl, hw 1, ⟨fun _ _ => rfl, fun _ _ => rfl, fun _ _ => rfl, fun r _ => rfl, hB, trivial⟩, rfl, wkD3 rfl rfl rfl (gB_self (c := 1) rfl) (hS _ rfl) (hv 1)⟩
  | a + 2, hc, hw, hv =>
    show evalC C18 0 1 c3_7 (tplF 99 L3E (v3E (n + 1) (.slice 3 0 6 (a + 2)) rest (.int .i64 (a + 2 : Nat)))) ((h3D k R (n + 1) P (some (bPw (a + 2) (mkQ Q (a + 2)))) o2).map mkB) _
    rw [p3fs k R n P rest a (mkQ Q (a + 2)) o2 (a + 2)]
    exact condF' (cf (by omega)) ⟨rfl, hw (a + 2), ⟨fun _ _ => rfl, fun _ _ => rfl, fun _ _ => rfl, fun r _ => rfl, hB, trivial⟩, rfl, wkD3 rfl rfl rfl (gB_self (c := a + 2) rfl) (hS _ rfl) (hv (a + 2))⟩
theorem roundH3 {k n c : Nat} {R P Q : Nat → Pk} {lost : SV} {o1 : Option Blk} (hc : c ≤ 260) (hB : idsOkB 5 (BO.raw o1)) (hS : ∀ (hp : LHeap), hget hp 3 = o1 → ∀ b1, o1 = some b1 → ∃ b, hget hp 3 = some b ∧ WB (upTo 5) b1 b) (hw : ∀ i, ltAll 5 (svIdsL (v3E (n + 1) lost (gV 4 c) (ni i))) = true) (hv : ∀ i, ltAll 5 (svIdsL (tplF 99 L3F (v3E (n + 1) lost (gV 4 c) (ni i)))) = true) (i : Nat) (hi : i < c) : CodeOK Try.prog 1 c3_9 (tplF 99 L3F (v3E (n + 1) lost (gV 4 c) (ni i))) ((h3D k R (n + 1) P o1 (gB (mkQ Q i) c)).map mkB) (fun x fr hp => x = .normal ∧ Weak 1 fr hp (tplF 99 L3F (v3E (n + 1) lost (gV 4 c) (ni (i + 1)))) ((h3D k R (n + 1) P o1 (gB (mkQ Q (i + 1)) c)).map mkB)) := by
  refine (CodeOK.lookN (C := C18) ec gs18 mixed (u := 0) (len := 99) (L := L3F) (M := M3d) (show 1 ≤ 5 by decide) (Q := fun x vals B => x = .normal ∧ Weak 1 (tplF 99 L3F vals) (B.map mkB) (tplF 99 L3F (v3E (n + 1) lost (gV 4 c) (ni (i + 1)))) ((h3D k R (n + 1) P o1 (gB (mkQ Q (i + 1)) c)).map mkB)) ?_).st fun x vals B h => h
  match c, hi, hc, hw, hv with
  | 0, hi, _, _, _ => omega
  | 1, hi, _, hw, hv =>
    obtain rfl : i = 0 := by omega
    show evalC C18 0 1 c3_9 (tplF 99 L3F (v3E (n + 1) lost (.slice 4 0 6 1) (.int .i64 0))) ((h3D k R (n + 1) P o1 (some (bPw 1 (mkQ Q 0)))).map mkB) _
    rw [p3h0 k R n P lost o1 (mkQ Q 0)]
    exact ⟨rfl, hw 1, ⟨fun _ _ => rfl, fun _ _ => rfl, fun _ _ => rfl, hB, fun r _ => by cases r <;> rfl, trivial⟩, rfl, wkD3 rfl rfl rfl (hS _ rfl) (gB_wb (c := 1) rfl ⟨rfl, rfl, rfl, rfl, fun r hr => by obtain rfl : r = 0 := (by omega); rfl⟩) (hv 1)⟩
  | a + 2, hi, hc, hw, hv =>
    have ha : decide ((i : Int) < ((a + 2 : Nat) : Int)) = true := cb (by omega)
    have e0 : 0 + ((i : Nat) : Int).toNat = i := by rw [Nat.zero_add]; rfl
    have hb : (decide (0 + ((i : Nat) : Int).toNat < a + 2) && true && true && true && true && true) = true := by rw [e0, cb hi]; rfl
    show evalC C18 0 1 c3_9 (tplF 99 L3F (v3E (n + 1) lost (.slice 4 0 6 (a + 2)) (.int .i64 i))) ((h3D k R (n + 1) P o1 (some (bPw (a + 2) (mkQ Q i)))).map mkB) _
    rw [p3hs k R n P lost o1 a (mkQ Q i) i]
    refine condT' ha (condT' ha (condT' hb ?_))
    rw [i64n i (by omega), e0]
    have hl : IsL ⟨6, a + 2, fun r => bif r.beq i then pkC (negP (mkQ Q i i)) else pkC (mkQ Q i r), true, 33⟩ (mkQ Q (i + 1)) (a + 2) := ⟨rfl, rfl, rfl, rfl, fun r _ => mk_step Q i r⟩
    exact ⟨rfl, hw (i + 1), ⟨fun _ _ => rfl, fun _ _ => rfl, fun _ _ => rfl, hB, hl.ids, trivial⟩, rfl, wkD3 rfl rfl rfl (hS _ rfl) (gB_wb (c := a + 2) rfl hl) (hv (i + 1))⟩
theorem loopH3 {k n c : Nat} {R P Q : Nat → Pk} {lost : SV} {o1 : Option Blk} (hc : c ≤ 260) (hB : idsOkB 5 (BO.raw o1)) (hS : ∀ (hp : LHeap), hget hp 3 = o1 → ∀ b1, o1 = some b1 → ∃ b, hget hp 3 = some b ∧ WB (upTo 5) b1 b) (hw : ∀ i, ltAll 5 (svIdsL (v3E (n + 1) lost (gV 4 c) (ni i))) = true) (hv : ∀ i, ltAll 5 (svIdsL (tplF 99 L3F (v3E (n + 1) lost (gV 4 c) (ni i)))) = true) {K : KC} (hK : K (.exit 2) (tplF 99 L3F (v3E (n + 1) lost (gV 4 c) (ni c))) ((h3D k R (n + 1) P o1 (gB (mkQ Q c) c)).map mkB)) : CodeOK Try.prog 1 (.loop c3_9) (tplF 99 L3F (v3E (n + 1) lost (gV 4 c) (ni 0))) ((h3D k R (n + 1) P o1 (gB (mkQ Q 0) c)).map mkB) K := by
  refine CodeOK.count (n := c) (F := fun i => (tplF 99 L3F (v3E (n + 1) lost (gV 4 c) (ni i)))) (H := fun i => ((h3D k R (n + 1) P o1 (gB (mkQ Q i) c)).map mkB)) (fun i hi => roundH3 hc hB hS hw hv i hi) ?_ hK
  refine (CodeOK.lookN (C := C18) ec gs18 mixed (u := 0) (len := 99) (L := L3F) (M := M3d) (show 1 ≤ 5 by decide) (Q := fun x vals B => x = .exit 2 ∧ Weak 1 (tplF 99 L3F vals) (B.map mkB) (tplF 99 L3F (v3E (n + 1) lost (gV 4 c) (ni c))) ((h3D k R (n + 1) P o1 (gB (mkQ Q c) c)).map mkB)) ?_).st fun x vals B h => h
  match c, hc, hw, hv with
  | 0, _, hw, hv =>
    show evalC C18 0 1 c3_9 (tplF 99 L3F (v3E (n + 1) lost .nilSlice (.int .i64 (0 : Nat)))) ((h3D k R (n + 1) P o1 (gB (mkQ Q 0) 0)).map mkB) _
    rw [p3hn k R n P lost o1 (gB (mkQ Q 0) 0) 0]
    exact ⟨rfl, hw 0, ⟨fun _ _ => rfl, fun _ _ => rfl, fun _ _ => rfl, hB, trivial, trivial⟩, rfl, wkD3 rfl rfl rfl (hS _ rfl) (fun b1 q => nomatch (show (none : Option Blk) = some b1 from q)) (hv 0)⟩
  | 1, _, hw, hv =>
    show evalC C18 0 1 c3_9 (tplF 99 L3F (v3E (n + 1) lost (.slice 4 0 6 1) (.int .i64 1))) ((h3D k R (n + 1) P o1 (some (bPw 1 (mkQ Q 1)))).map mkB) _
    rw [p3h1 k R n P lost o1 (mkQ Q 1)]
    exact ⟨rfl, hw 1, ⟨fun _ _ => rfl, fun _ _ => rfl, fun _ _ => rfl, hB, fun r _ => rfl, trivial⟩, rfl, wkD3 rfl rfl rfl (hS _ rfl) (gB_self (c := 1) rfl) (hv 1)⟩
  | a + 2, hc, hw, hv =>
    show evalC C18 0 1 c3_9 (tplF 99 L3F (v3E (n + 1) lost (.slice 4 0 6 (a + 2)) (.int .i64 (a + 2 : Nat)))) ((h3D k R (n + 1) P o1 (some (bPw (a + 2) (mkQ Q (a + 2))))).map mkB) _
    rw [p3hs k R n P lost o1 a (mkQ Q (a + 2)) (a + 2)]
    exact condF' (cf (by omega)) ⟨rfl, hw (a + 2), ⟨fun _ _ => rfl, fun _ _ => rfl, fun _ _ => rfl, hB, fun r _ => rfl, trivial⟩, rfl, wkD3 rfl rfl rfl (hS _ rfl) (gB_self (c := a + 2) rfl) (hv (a + 2))⟩
theorem end3 {k n : Nat} {R P : Nat → Pk} {lost rest i : SV} {o1 o2 : Option Blk} (hn : n + 1 ≤ 260) : CodeOK Try.prog 1 c3_10 (tplF 99 L3F (v3E (n + 1) lost rest i)) ((h3D k R (n + 1) P o1 o2).map mkB) (endK Try.prog Try.f3.results.toList fun v _ => v = .bool true) := by
  refine CodeOK.eval (C := C18) ec gs18 mixed 0 ?_
  have hp := (isL_self P (n + 1)).p (by omega)
  show evalC C18 0 1 c3_10 (tplF 99 L3F (v3E (n + 1) lost rest i)) ((h3D k R (n + 1) P o1 o2).map mkB) (endK Try.prog Try.f3.results.toList fun v _ => v = .bool true)
  rw [p3i k R n P lost rest i o1 o2 (fun v => v = .bool true)]
  exact ⟨hp, hp, condT' (same3 fun _ _ => rfl) rfl⟩
theorem tail3 {k n c d : Nat} {R P PL PR : Nat → Pk} (hn : n + 1 ≤ 260) (hc : c ≤ 260) (hd : d ≤ 260) : CodeOK Try.prog 1 (.seq (.seq c3_6 (.block 0 (.loop c3_7))) (.seq (.seq c3_8 (.block 2 (.loop c3_9))) c3_10)) (tplF 99 L3D (v3D (n + 1) (gV 3 c) (gV 4 d))) ((h3D k R (n + 1) P (gB PL c) (gB PR d)).map mkB) (endK Try.prog Try.f3.results.toList fun v _ => v = .bool true) := by
  refine CodeOK.seq (CodeOK.seq (CodeOK.at (C := C18) ec gs18 mixed (u := 0) (len := 99) (L := L3E) (M := M3d) (vals := v3E (n + 1) (gV 3 c) (gV 4 d) (ni 0)) (B := h3D k R (n + 1) P (gB (mkQ PL 0) c) (gB PR d)) (show 1 ≤ 5 by decide) .normal ?_ (CodeOK.block ?_)))
  · rw [p3e k R n P (gV 3 c) (gV 4 d) (gB PL c) (gB PR d)]
    exact ⟨rfl, (by cases c <;> cases d <;> rfl), ⟨fun _ _ => rfl, fun _ _ => rfl, fun _ _ => rfl, gB_ids _ PL c, gB_ids _ PR d, trivial⟩, rfl, rfl, (by cases c <;> rfl)⟩
  refine loopF3 (c := c) (Q := PL) (rest := gV 4 d) (o2 := gB PR d) hc (gB_ids _ PR d) (fun hp h => gB_self h) (fun i => by cases c <;> cases d <;> rfl) (fun i => by cases c <;> cases d <;> kernel_rfl) ?_
  refine CodeOK.seq (CodeOK.seq (CodeOK.at (C := C18) ec gs18 mixed (u := 0) (len := 99) (L := L3F) (M := M3d) (vals := v3E (n + 1) (gV 3 c) (gV 4 d) (ni 0)) (B := h3D k R (n + 1) P (gB (mkQ PL c) c) (gB (mkQ PR 0) d)) (show 1 ≤ 5 by decide) .normal ?_ (CodeOK.block ?_)))
  · rw [p3g k R n P (gV 3 c) (gV 4 d) (ni c) (gB (mkQ PL c) c) (gB PR d)]
    exact ⟨rfl, (by cases c <;> cases d <;> rfl), ⟨fun _ _ => rfl, fun _ _ => rfl, fun _ _ => rfl, gB_ids _ _ c, gB_ids _ PR d, trivial⟩, rfl, rfl, (by cases d <;> rfl)⟩
  refine loopH3 (c := d) (Q := PR) (lost := gV 3 c) (o1 := gB (mkQ PL c) c) hd (gB_ids _ _ c) (fun hp h => gB_self h) (fun i => by cases c <;> cases d <;> rfl) (fun i => by cases c <;> cases d <;> kernel_rfl) ?_
  exact end3 hn
theorem canon3 (k : Nat) (R : Nat → Pk) (g t l m s v f : Int) (hk : 0 < k) : Canon Try.prog 3 [.slice 0 0 6 k, .agg [.int .i64 g, .int .i64 t], .agg [.int .i64 l, .int .i64 m, .int .i64 s, .int .i64 v, .int .i64 f]] [some (bP k R)] fun v _ => v = .bool true := by
  refine CodeOK.body Try.func3 (by kernel_rfl) ?_
  rw [code3]
  refine CodeOK.frontN (C := C27t) ec gs27t mixed (u := 0) (len := 99) (L := L3A) (M := M3a) [c3_0, c3_1, c3_2] (show 1 ≤ 5 by decide) (copyA3 hk) ?_
  rintro e vals B ⟨rfl, n, P, hn, hw⟩
  refine CodeOK.pre hw ?_
  refine CodeOK.seq ((CodeOK.lookN (C := C27t) ec gs27t mixed (u := 0) (len := 99) (L := L3B) (M := M3b) (show 1 ≤ 7 by decide) (findB3 hn)).st ?_)
  rintro e vals B ⟨rfl, c, d, PL, PR, tm, e, way, hw⟩
  refine CodeOK.pre hw ?_
  have hcd : c ≤ 260 ∧ d ≤ 260 := by
    rcases way with ⟨_, _, _, rfl, rfl⟩ | ⟨_, _, _, p, q⟩
    · omega
    · have h1 := cntS_le (lostB g t (waitV l m s v f) P) (n + 1)
      have h2 := cntS_le (restB g t (waitV l m s v f) P) (n + 1)
      rw [p.cnt] at h1
      rw [q.cnt] at h2
      omega
  have fin : ∀ (x : Ex) (vals : List SV) (B : List BO), QC3 k R n P c d PL PR tm e x vals B → thenK (endK Try.prog Try.f3.results.toList fun v _ => v = .bool true) (fun fr hp => CodeOK Try.prog 1 (.seq c3_5 (.seq (.seq c3_6 (.block 0 (.loop c3_7))) (.seq (.seq c3_8 (.block 2 (.loop c3_9))) c3_10))) fr hp (endK Try.prog Try.f3.results.toList fun v _ => v = .bool true)) x (tplF 99 L3C vals) (B.map mkB) := by
    rintro x vals B ⟨rfl, PA, PB, ha, hb, hw⟩
    exact CodeOK.pre hw (bothD3 hn hcd.1 hcd.2 ha hb (tail3 hn hcd.1 hcd.2))
  refine CodeOK.seq ?_
  rcases way with ⟨h0, rfl, rfl, rfl, rfl⟩ | ⟨h0, rfl, rfl, p, q⟩
  · exact (CodeOK.lookN (C := C27e) ec gs27e mixed (u := 0) (len := 99) (L := L3C) (M := M3c) (show 1 ≤ 9 by decide) (findC3e hn h0)).st fin
  · have hs := cnt_sum g t (waitV l m s v f) P (n + 1)
    rw [p.cnt, q.cnt] at hs
    cases c with
    | zero =>
      cases d with
      | zero => omega
      | succ b => exact (CodeOK.lookN (C := C27ns) ec gs27ns mixed (u := 0) (len := 99) (L := L3C) (M := M3c) (show 1 ≤ 9 by decide) (findC3ns hn h0 p q)).st fin
    | succ a =>
      cases d with
      | zero => exact (CodeOK.lookN (C := C27sn) ec gs27sn mixed (u := 0) (len := 99) (L := L3C) (M := M3c) (show 1 ≤ 9 by decide) (findC3sn hn h0 p q)).st fin
      | succ b => exact (CodeOK.lookN (C := C27ss) ec gs27ss mixed (u := 0) (len := 99) (L := L3C) (M := M3c) (show 1 ≤ 9 by decide) (findC3ss hn h0 p q)).st fin
theorem canon3n (g t l m s v f : Int) : Canon Try.prog 3 [.nilSlice, .agg [.int .i64 g, .int .i64 t], .agg [.int .i64 l, .int .i64 m, .int .i64 s, .int .i64 v, .int .i64 f]] [] fun v _ => v = .bool true := by
  refine evalF_ok (C := C27z) ec gs27z mixed (u := 64) Try.func3 (by kernel_rfl) ?_
  show evalF C27z 64 Try.f3 [.nilSlice, .agg [.int .i64 g, .int .i64 t], .agg [.int .i64 l, .int .i64 m, .int .i64 s, .int .i64 v, .int .i64 f]] [] _
  rw [t3n g t l m s v f (fun v => v = .bool true)]
  exact fun e he => ⟨fun h1 e2 h2 => ⟨fun _ => condF' (by rw [he, h2]; exact bne_self_eq_false' _) rfl, fun h3 => absurd (he.trans (h2.symm.trans h3)) h1⟩, fun h1 e2 h2 => ⟨fun h3 => absurd (h2.trans (he.symm.trans h1)) h3, fun _ => rfl⟩⟩
theorem canon3e (g t l m s v f : Int) : Canon Try.prog 3 [.eslice, .agg [.int .i64 g, .int .i64 t], .agg [.int .i64 l, .int .i64 m, .int .i64 s, .int .i64 v, .int .i64 f]] [] fun v _ => v = .bool true := by
  refine evalF_ok (C := C27z) ec gs27z mixed (u := 64) Try.func3 (by kernel_rfl) ?_
  show evalF C27z 64 Try.f3 [.eslice, .agg [.int .i64 g, .int .i64 t], .agg [.int .i64 l, .int .i64 m, .int .i64 s, .int .i64 v, .int .i64 f]] [] _
  rw [t3e g t l m s v f (fun v => v = .bool true)]
  exact fun e he => ⟨fun h1 e2 h2 => ⟨fun _ => condF' (by rw [he, h2]; exact bne_self_eq_false' _) rfl, fun h3 => absurd (he.trans (h2.symm.trans h3)) h1⟩, fun h1 e2 h2 => ⟨fun h3 => absurd (h2.trans (he.symm.trans h1)) h3, fun _ => rfl⟩⟩
end
theorem tells_any (a : Option Addr) (len cap : Nat) (g t l m s v f : Int) (W : World) (h : IsPks W a len cap) : Calls Try.prog 3 #[.slice a len cap, .agg #[.int .i64 g, .int .i64 t], .agg #[.int .i64 l, .int .i64 m, .int .i64 s, .int .i64 v, .int .i64 f]] W fun e w' => e = .returned (.bool true) ∧ Below W.heap.size W w' := by
  rcases h.cases with rfl | ⟨hn, b1, off1, q, rfl, hc1, hB1⟩
  · exact lawOf (canon3e g t l m s v f) (RL.cons (by simp [R]) (RL.cons (by simp [R, RL]) (RL.cons (by simp [R, RL]) RL.nil))) W
  · exact law1 rfl (canon3 len q g t l m s v f hn) hB1 (RL.cons (by simp [R]; omega) (RL.cons (by simp [R, RL]) (RL.cons (by simp [R, RL]) RL.nil)))
end Go.Proofs.Ytcjfmkkfcbelpaa
