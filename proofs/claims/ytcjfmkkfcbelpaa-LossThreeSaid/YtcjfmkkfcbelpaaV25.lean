/-
  Chapter 9 by the engine: LossThree. (Printed by genv25.py.)
-/
import Derived.Test.YtcjfmkkfcbelpaaT25
import Derived.Test.YtcjfmkkfcbelpaaV24
namespace Go.Proofs.Ytcjfmkkfcbelpaa
open Go.RowKit
set_option linter.unusedVariables false
abbrev F8 (n g : Int) (i : Nat) : List SV := tplF 67 L8 (v8 n g (gV 0 i) (ni i))
abbrev H8 (i : Nat) : LHeap := (gO pk3 i).map mkB
theorem grow8 {n g x1 : Int} {i x : Nat} {B : List BO} {A : Blk} (h1 : x1 = ((i + 1 : Nat) : Int)) (hA : hget (B.map mkB) x = some A) (lA : IsL A pk3 (i + 1)) :
    Weak 0 (tplF 67 L8 [.int .i64 n, .int .i64 g, .slice x 0 6 (i + 1), .int .i64 x1]) (B.map mkB) (F8 n g (i + 1)) (H8 (i + 1)) := by
  subst h1
  refine ren_weak (m0 := 0) (vals' := v8 n g (.slice 0 0 6 (i + 1)) (ni (i + 1))) [x] rfl (Nat.zero_le _) (fun j hj => absurd hj (Nat.not_lt_zero j)) ⟨.inr rfl, .inr rfl, .inr rfl, .inr rfl, trivial⟩ (fun id b1 hb1 => ?_) (inj_nodup (List.nodup_cons.2 ⟨List.not_mem_nil, List.nodup_nil⟩))
  match id, hb1 with
  | 0, hb1 =>
    obtain rfl := Option.some.inj (show some (bPw (i + 1) pk3) = some b1 from hb1)
    exact ⟨x, _, rfl, hA, lA.wb _⟩
  | id + 1, hb1 => exact nomatch (show (none : Option Blk) = some b1 from hb1)
theorem wk8 {n c d i1 i2 : Nat} {P PL PR : Nat → Pk} {g tm : Int} {hp : LHeap} (nd : [0, i1, i2].Nodup) (h0 : hget hp 0 = some (bPw (n + 1) P)) (h1 : ∀ b1, gB PL c = some b1 → ∃ b, hget hp i1 = some b ∧ WB (fun i => [0, i1, i2][i]?) b1 b) (h2 : ∀ b1, gB PR d = some b1 → ∃ b, hget hp i2 = some b ∧ WB (fun i => [0, i1, i2][i]?) b1 b) :
    Weak 0 (tplF 67 L8b (v8b (n + 1 : Nat) g (.slice 0 0 6 (n + 1)) (gV i1 c) (gV i2 d) tm)) hp (tplF 67 L8b (v8b (n + 1 : Nat) g (.slice 0 0 6 (n + 1)) (gV 1 c) (gV 2 d) tm)) ((h8b (n + 1) P (gB PL c) (gB PR d)).map mkB) := by
  refine ren_weak (m0 := 0) (vals' := v8b (n + 1 : Nat) g (.slice 0 0 6 (n + 1)) (gV 1 c) (gV 2 d) tm) [0, i1, i2] rfl (Nat.zero_le _) (fun j hj => absurd hj (Nat.not_lt_zero j)) ⟨.inr rfl, .inr rfl, .inr rfl, .inr ?_, .inr ?_, .inr rfl, .inr rfl, trivial⟩ (fun id b1 hb1 => ?_) (inj_nodup nd)
  · cases c <;> rfl
  · cases d <;> rfl
  match id, hb1 with
  | 0, hb1 =>
    obtain rfl := Option.some.inj (show some (bPw (n + 1) P) = some b1 from hb1)
    exact ⟨0, _, rfl, h0, (isL_self P (n + 1)).wb _⟩
  | 1, hb1 =>
    obtain ⟨b, q1, q2⟩ := h1 b1 hb1
    exact ⟨i1, b, rfl, q1, q2⟩
  | 2, hb1 =>
    obtain ⟨b, q1, q2⟩ := h2 b1 hb1
    exact ⟨i2, b, rfl, q1, q2⟩
  | id + 3, hb1 => exact nomatch (show (none : Option Blk) = some b1 from hb1)
def QB8 (n : Nat) (g : Int) (x : Ex) (vals : List SV) (B : List BO) : Prop := x = .normal ∧ ∃ c d PL PR, Cut (lostB g 5 9000000 pk3) pk3 (n + 1) c PL ∧ Cut (restB g 5 9000000 pk3) pk3 (n + 1) d PR ∧
  Weak 0 (tplF 67 L8b vals) (B.map mkB) (tplF 67 L8b (v8b (n + 1 : Nat) g (.slice 0 0 6 (n + 1)) (gV 1 c) (gV 2 d) (tmV g 5 9000000 pk3 (n + 1)))) ((h8b (n + 1) pk3 (gB PL c) (gB PR d)).map mkB)
theorem beqT {a b : Nat} (h : a = b) : Nat.beq a b = true := by subst h; exact Nat.beq_refl a
section
attribute [local irreducible] evalC
set_option maxRecDepth 100000
set_option maxHeartbeats 2000000
theorem round8 (N : Nat) (g : Int) (i : Nat) (hi : i < N) (hN : N ≤ 250) : CodeOK Try.prog 0 c8_5 (F8 N g i) (H8 i) (fun x fr hp => x = .normal ∧ Weak 0 fr hp (F8 N g (i + 1)) (H8 (i + 1))) := by
  have ha : decide ((i : Int) < (N : Int)) = true := cb (by omega)
  cases i with
  | zero =>
    refine (CodeOK.lookN (C := C18) ec gs18 mixed (u := 0) (len := 67) (L := L8) (M := M8n) (Nat.zero_le _) (Q := fun x vals B => x = .normal ∧ Weak 0 (tplF 67 L8 vals) (B.map mkB) (F8 N g (0 + 1)) (H8 (0 + 1))) ?_).st fun x vals B h => h
    show evalC C18 0 0 c8_5 (tplF 67 L8 (v8 N g .nilSlice (.int .i64 (0 : Nat)))) [] (obsN L8 M8n _)
    rw [p8cn N g 0]
    refine condT' ha ?_
    rw [i64n 0 (by omega)]
    exact ⟨rfl, rfl, ⟨rfl, rfl, trivial⟩, rfl, grow8 (A := ⟨6, 1, fun r => [pkC (pk3 0)].getD r [], true, 33⟩) rfl rfl (isL_fst rfl rfl rfl rfl rfl)⟩
  | succ q =>
    refine (CodeOK.lookN (C := C18) ec gs18 mixed (u := 0) (len := 67) (L := L8) (M := M8s) (Nat.zero_le _) (Q := fun x vals B => x = .normal ∧ Weak 0 (tplF 67 L8 vals) (B.map mkB) (F8 N g (q + 1 + 1)) (H8 (q + 1 + 1))) ?_).st fun x vals B h => h
    show evalC C18 0 0 c8_5 (tplF 67 L8 (v8 N g (.slice 0 0 6 (q + 1)) (.int .i64 (q + 1 : Nat)))) ([lO (q + 1) pk3].map mkB) (obsN L8 M8s _)
    rw [p8cs N g (q + 1) q pk3]
    refine condT' ha (condT' (cap6q (a := q) (by omega)) ?_)
    rw [i64n (q + 1) (by omega)]
    exact ⟨rfl, rfl, ⟨trivial, rfl, ((isL_snoc rfl rfl rfl rfl (fun r hr => by show cond _ _ _ = _; rw [decide_eq_true hr]; rfl) (by show cond _ _ _ = _; rw [decide_eq_false (Nat.lt_irrefl _), Nat.sub_self]; rfl)) : IsL _ pk3 (q + 1 + 1)).ids, trivial⟩, rfl, grow8 (x := 2) rfl rfl (isL_snoc rfl rfl rfl rfl (fun r hr => by show cond _ _ _ = _; rw [decide_eq_true hr]; rfl) (by show cond _ _ _ = _; rw [decide_eq_false (Nat.lt_irrefl _), Nat.sub_self]; rfl))⟩
theorem loop8z (g : Int) {K : KC} (hK : K (.exit 0) (tplF 67 L8 (v8 0 g .nilSlice .top)) []) : CodeOK Try.prog 0 (.loop c8_5) (F8 0 g 0) (H8 0) K := by
  refine CodeOK.count (n := 0) (F := fun i => F8 0 g i) (H := fun i => H8 i) (fun i hi => absurd hi (Nat.not_lt_zero i)) ?_ hK
  have hW : Weak 0 (tplF 67 L8 (v8 0 g .nilSlice (ni 0))) (([] : List BO).map mkB) (tplF 67 L8 (v8 0 g .nilSlice .top)) [] :=
    tpl_weak (B := []) (R := []) ⟨.inr rfl, .inr rfl, .inr rfl, .inl rfl, trivial⟩ rfl trivial (Nat.zero_le _)
  refine (CodeOK.lookN (C := C18) ec gs18 mixed (u := 0) (len := 67) (L := L8) (M := M8n) (Nat.zero_le _) (Q := fun x vals B => x = .exit 0 ∧ Weak 0 (tplF 67 L8 vals) (B.map mkB) (tplF 67 L8 (v8 0 g .nilSlice .top)) []) ?_).st fun x vals B h => h
  show evalC C18 0 0 c8_5 (tplF 67 L8 (v8 0 g .nilSlice (.int .i64 (0 : Nat)))) [] (obsN L8 M8n _)
  rw [p8cn 0 g 0]
  exact condF' (cf (by omega)) ⟨rfl, rfl, ⟨trivial, trivial, trivial⟩, rfl, tpl_weak (B := []) (R := [.raw none, .raw none]) ⟨.inr rfl, .inr rfl, .inr rfl, .inl rfl, trivial⟩ rfl trivial (Nat.zero_le _)⟩
theorem loop8 (g : Int) (q : Nat) (hq : q + 1 ≤ 250) {K : KC} (hK : K (.exit 0) (tplF 67 L8 (v8 (q + 1 : Nat) g (.slice 0 0 6 (q + 1)) .top)) (H8 (q + 1))) : CodeOK Try.prog 0 (.loop c8_5) (F8 (q + 1 : Nat) g 0) (H8 0) K := by
  refine CodeOK.count (n := q + 1) (F := fun i => F8 (q + 1 : Nat) g i) (H := fun i => H8 i) (fun i hi => round8 (q + 1) g i hi hq) ?_ hK
  refine (CodeOK.lookN (C := C18) ec gs18 mixed (u := 0) (len := 67) (L := L8) (M := M8s) (Nat.zero_le _) (Q := fun x vals B => x = .exit 0 ∧ Weak 0 (tplF 67 L8 vals) (B.map mkB) (tplF 67 L8 (v8 (q + 1 : Nat) g (.slice 0 0 6 (q + 1)) .top)) (H8 (q + 1))) ?_).st fun x vals B h => h
  show evalC C18 0 0 c8_5 (tplF 67 L8 (v8 (q + 1 : Nat) g (.slice 0 0 6 (q + 1)) (.int .i64 (q + 1 : Nat)))) ([lO (q + 1) pk3].map mkB) (obsN L8 M8s _)
  rw [p8cs (q + 1 : Nat) g (q + 1) q pk3]
  exact condF' (cf (by omega)) ⟨rfl, rfl, ⟨fun _ _ => rfl, trivial, trivial, trivial⟩, rfl, tpl_weak (B := [lO (q + 1) pk3]) (R := [.raw none, .raw none]) ⟨.inr rfl, .inr rfl, .inr rfl, .inl rfl, trivial⟩ rfl ⟨fun _ _ => rfl, trivial⟩ (show 0 ≤ 1 by decide)⟩
theorem findB8 {n : Nat} {g : Int} (hn : n + 1 ≤ 250) (hg : 0 ≤ g ∧ g ≤ 250) : evalC C18 0 0 c8_7 (tplF 67 L8 (v8 (n + 1 : Nat) g (.slice 0 0 6 (n + 1)) .top)) ([lO (n + 1) pk3].map mkB) (obsN L8b [false, false, false] (seen 67 3 (QB8 n g))) := by
  rw [p8d n g pk3]
  refine ⟨⟨rfl, Nat.le_refl _, by omega, fun r _ => ⟨pk3 r, rfl⟩⟩, Nat.succ_le_succ (Nat.zero_le _), fun P1 e1 g' t' w e2 e3 e4 => ?_⟩
  obtain rfl : P1 = pk3 := e1
  subst e2 e3 e4
  refine ⟨late_3 hn hg, fun tm ht => ?_⟩
  subst ht
  have i0 : ∀ Q : Nat → Pk, ∀ c : Nat, ∀ r, r < c → ltAll 3 (svIdsL (pkC (Q r))) = true := fun _ _ _ _ => rfl
  have i1 : ∀ Q : Nat → Pk, ∀ c : Nat, ∀ r, r < c → ltAll 3 (svIdsL (bif r.beq 0 then pkC (Q 0) else pkC (Q r))) = true := fun Q c r _ => by cases r <;> rfl
  refine ⟨fun a PL p q => condSplit (fun _ => ?_) fun _ => ?_, fun b PR p q => condSplit (fun _ => ?_) fun _ => ?_, fun a PL b PR p q => condSplit (fun _ => condSplit (fun _ => ?_) fun _ => ?_) fun _ => condSplit (fun _ => ?_) fun _ => ?_⟩
  · exact ⟨rfl, rfl, ⟨i0 pk3 _, i1 PL _, trivial, trivial⟩, rfl, a + 1, 0, PL, pk3, p.cut, Cut.none q, wk8 (i1 := 1) (i2 := 2) (c := a + 1) (d := 0) (by decide) rfl (gB_wb rfl (isL_one' PL _)) (fun b1 q => nomatch (show (none : Option Blk) = some b1 from q))⟩
  · exact ⟨rfl, rfl, ⟨i0 pk3 _, i0 PL _, trivial, trivial⟩, rfl, a + 1, 0, PL, pk3, p.cut, Cut.none q, wk8 (i1 := 1) (i2 := 2) (c := a + 1) (d := 0) (by decide) rfl (gB_wb rfl (isL_self PL _)) (fun b1 q => nomatch (show (none : Option Blk) = some b1 from q))⟩
  · exact ⟨rfl, rfl, ⟨i0 pk3 _, i1 PR _, trivial, trivial⟩, rfl, 0, b + 1, pk3, PR, Cut.none p, q.cut, wk8 (i1 := 5) (i2 := 1) (c := 0) (d := b + 1) (by decide) rfl (fun b1 q => nomatch (show (none : Option Blk) = some b1 from q)) (gB_wb rfl (isL_one' PR _))⟩
  · exact ⟨rfl, rfl, ⟨i0 pk3 _, i0 PR _, trivial, trivial⟩, rfl, 0, b + 1, pk3, PR, Cut.none p, q.cut, wk8 (i1 := 5) (i2 := 1) (c := 0) (d := b + 1) (by decide) rfl (fun b1 q => nomatch (show (none : Option Blk) = some b1 from q)) (gB_wb rfl (isL_self PR _))⟩
  · exact ⟨rfl, rfl, ⟨i0 pk3 _, i1 PL _, i1 PR _, trivial⟩, rfl, a + 1, b + 1, PL, PR, p.cut, q.cut, wk8 (i1 := 1) (i2 := 2) (c := a + 1) (d := b + 1) (by decide) rfl (gB_wb rfl (isL_one' PL _)) (gB_wb rfl (isL_one' PR _))⟩
  · exact ⟨rfl, rfl, ⟨i0 pk3 _, i1 PL _, i0 PR _, trivial⟩, rfl, a + 1, b + 1, PL, PR, p.cut, q.cut, wk8 (i1 := 1) (i2 := 2) (c := a + 1) (d := b + 1) (by decide) rfl (gB_wb rfl (isL_one' PL _)) (gB_wb rfl (isL_self PR _))⟩
  · exact ⟨rfl, rfl, ⟨i0 pk3 _, i0 PL _, i1 PR _, trivial⟩, rfl, a + 1, b + 1, PL, PR, p.cut, q.cut, wk8 (i1 := 1) (i2 := 2) (c := a + 1) (d := b + 1) (by decide) rfl (gB_wb rfl (isL_self PL _)) (gB_wb rfl (isL_one' PR _))⟩
  · exact ⟨rfl, rfl, ⟨i0 pk3 _, i0 PL _, i0 PR _, trivial⟩, rfl, a + 1, b + 1, PL, PR, p.cut, q.cut, wk8 (i1 := 1) (i2 := 2) (c := a + 1) (d := b + 1) (by decide) rfl (gB_wb rfl (isL_self PL _)) (gB_wb rfl (isL_self PR _))⟩
theorem end8 {n c d : Nat} {PL PR : Nat → Pk} {g tm : Int} (hn : n + 1 ≤ 250) (hcd : c + d = n + 1) (l : ∀ r, r < c → PL r = pk3 r) (q : ∀ r, r < d → PR r = pk3 (c + r)) (ht : (tm == 9000005) = decide ((c : Int) < ((n + 1 : Nat) : Int))) :
    CodeOK Try.prog 0 c8_9 (tplF 67 L8c (v8c (n + 1 : Nat) g (.slice 0 0 6 (n + 1)) (gV 1 c) (gV 2 d) tm c)) ((h8b (n + 1) pk3 (gB PL c) (gB PR d)).map mkB) (endK Try.prog Try.f8.results.toList fun v _ => v = .bool true) := by
  have hb : decide ((c : Int) ≤ ((n + 1 : Nat) : Int)) = true := cb (by omega)
  have hb2 : (decide ((c : Int) ≤ ((n + 1 : Nat) : Int)) && decide (((n + 1 : Nat) : Int) ≤ ((n + 1 : Nat) : Int))) = true := by rw [hb, cb (Int.le_refl _)]; rfl
  have ht2 : ((tm == 9000005) == decide ((c : Int) < ((n + 1 : Nat) : Int))) = true := by rw [ht]; exact beq_self_eq_true _
  have e1 : eqPs (fun r => rowP ((bPw c PL).rd r)) (fun r => rowP ((bPw (n + 1) pk3).rd (0 + Int.toNat 0 + r))) c = true := eqPs_same fun r hr => by
    show PL r = pk3 (0 + 0 + r)
    rw [Nat.zero_add]
    exact l r hr
  have e2 : eqPs (fun r => rowP ((bPw d PR).rd r)) (fun r => rowP ((bPw (n + 1) pk3).rd (0 + (c : Int).toNat + r))) d = true := eqPs_same fun r hr => by
    show PR r = pk3 (0 + (c : Int).toNat + r)
    rw [Nat.zero_add, Int.toNat_natCast]
    exact q r hr
  have p1 : IsP (bPw c PL) c := ⟨rfl, Nat.le_refl _, by omega, fun r _ => ⟨PL r, rfl⟩⟩
  have p2 : IsP (bPw d PR) d := ⟨rfl, Nat.le_refl _, by omega, fun r _ => ⟨PR r, rfl⟩⟩
  have p3 : IsP (bPw (n + 1) pk3) (0 + ((c : Int).toNat - 0)) := ⟨rfl, by show 0 + ((c : Int).toNat - 0) ≤ n + 1; omega, by omega, fun r _ => ⟨pk3 r, rfl⟩⟩
  have p4 : IsP (bPw (n + 1) pk3) (0 + (c : Int).toNat + (((n + 1 : Nat) : Int).toNat - (c : Int).toNat)) := ⟨rfl, by show 0 + (c : Int).toNat + (((n + 1 : Nat) : Int).toNat - (c : Int).toNat) ≤ n + 1; omega, by omega, fun r _ => ⟨pk3 r, rfl⟩⟩
  have b1 : Nat.beq c ((c : Int).toNat - 0) = true := beqT (by omega)
  have b2 : Nat.beq d (((n + 1 : Nat) : Int).toNat - (c : Int).toNat) = true := beqT (by omega)
  have e3 : (Nat.beq c ((c : Int).toNat - 0) && eqPs (fun r => rowP ((bPw c PL).rd r)) (fun r => rowP ((bPw (n + 1) pk3).rd (0 + Int.toNat 0 + r))) c) = true := by rw [b1, e1]; rfl
  have e4 : (Nat.beq d (((n + 1 : Nat) : Int).toNat - (c : Int).toNat) && eqPs (fun r => rowP ((bPw d PR).rd r)) (fun r => rowP ((bPw (n + 1) pk3).rd (0 + (c : Int).toNat + r))) d) = true := by rw [b2, e2]; rfl
  refine CodeOK.eval (C := C18) ec gs18 mixed 0 ?_
  cases c with
  | zero =>
    cases d with
    | zero => omega
    | succ b =>
      show evalC C18 0 0 c8_9 (tplF 67 L8c (v8c (n + 1 : Nat) g (.slice 0 0 6 (n + 1)) .nilSlice (.slice 2 0 6 (b + 1)) tm (0 : Nat))) ((h8b (n + 1) pk3 none (some (bPw (b + 1) PR))).map mkB) (endK Try.prog Try.f8.results.toList fun v _ => v = .bool true)
      rw [p8ens n g pk3 b PR tm 0 (fun v => v = .bool true)]
      exact condT' hb (condF' (cf (by omega)) (condT' hb2 (condT' (cb (by omega)) ⟨p2, p4, condT' e4 (condT' ht2 rfl)⟩)))
  | succ a =>
    cases d with
    | zero =>
      show evalC C18 0 0 c8_9 (tplF 67 L8c (v8c (n + 1 : Nat) g (.slice 0 0 6 (n + 1)) (.slice 1 0 6 (a + 1)) .nilSlice tm (a + 1 : Nat))) ((h8b (n + 1) pk3 (some (bPw (a + 1) PL)) none).map mkB) (endK Try.prog Try.f8.results.toList fun v _ => v = .bool true)
      rw [p8esn n g pk3 a PL tm (a + 1) (fun v => v = .bool true)]
      exact condT' hb (condT' (cb (by omega)) ⟨p1, p3, condT' e3 (condT' hb2 (condF' (cf (by omega)) (condT' ht2 rfl)))⟩)
    | succ b =>
      show evalC C18 0 0 c8_9 (tplF 67 L8c (v8c (n + 1 : Nat) g (.slice 0 0 6 (n + 1)) (.slice 1 0 6 (a + 1)) (.slice 2 0 6 (b + 1)) tm (a + 1 : Nat))) ((h8b (n + 1) pk3 (some (bPw (a + 1) PL)) (some (bPw (b + 1) PR))).map mkB) (endK Try.prog Try.f8.results.toList fun v _ => v = .bool true)
      rw [p8ess n g pk3 a PL b PR tm (a + 1) (fun v => v = .bool true)]
      exact condT' hb (condT' (cb (by omega)) ⟨p1, p3, condT' e3 (condT' hb2 (condT' (cb (by omega)) ⟨p2, p4, condT' e4 (condT' ht2 rfl)⟩))⟩)
theorem zero8 {g : Int} (hg : 0 ≤ g ∧ g ≤ 250) : CodeOK Try.prog 0 c8_6 (tplF 67 L8 (v8 0 g .nilSlice .top)) [] (endK Try.prog Try.f8.results.toList fun v _ => v = .bool true) := by
  refine CodeOK.eval (C := C18) ec gs18 mixed 64 ?_
  rw [p8z g (fun v => v = .bool true)]
  have e := want_3 0 hg
  have e : (if (if IntKind.i64.wrap (g - 2) > 0 then IntKind.i64.wrap (g - 2) else 0) < 0 then (if IntKind.i64.wrap (g - 2) > 0 then IntKind.i64.wrap (g - 2) else 0) else 0) = (0 : Int) := e.trans (by rw [Nat.zero_min]; rfl)
  rw [e]
  exact ⟨late_30 hg, rfl⟩
theorem canon8 (x y : Int) : Canon Try.prog 8 [.int .i64 x, .int .i64 y] [] fun v _ => v = .bool true := by
  refine CodeOK.body Try.func8 (by kernel_rfl) ?_
  rw [code8]
  refine CodeOK.frontN (C := C18) ec gs18 mixed (u := 0) (len := 67) (L := L8) (M := []) [c8_0, c8_1, c8_2, c8_3] (Nat.zero_le _) (Q := atS .normal (v8 (x % 251) (y % 251) .nilSlice .top) []) ?_ ?_
  · show evalC C18 0 0 (.seq c8_0 (.seq c8_1 (.seq c8_2 (.seq c8_3 .skip)))) (enterS 67 _) _ (obsN L8 [] _)
    rw [p8a]
    exact ⟨rfl, rfl, trivial, rfl, rfl, rfl⟩
  rintro e vals B ⟨rfl, rfl, rfl⟩
  have hg : 0 ≤ y % 251 ∧ y % 251 ≤ 250 := by omega
  obtain ⟨N, hN⟩ := Int.eq_ofNat_of_zero_le (show 0 ≤ x % 251 by omega)
  have hN2 : N ≤ 250 := by omega
  rw [hN]
  generalize y % 251 = g at hg ⊢
  refine CodeOK.seq (CodeOK.seq (CodeOK.at (C := C18) ec gs18 mixed (u := 0) (len := 67) (L := L8) (M := []) (vals := v8 N g .nilSlice (ni 0)) (B := []) (Nat.zero_le _) .normal ?_ (CodeOK.block ?_)))
  · show evalC C18 0 0 c8_4 (tplF 67 L8 (v8 N g .nilSlice .top)) [] _
    rw [p8b]
    exact ⟨rfl, rfl, trivial, rfl, rfl, rfl⟩
  cases N with
  | zero => exact loop8z g (zero8 hg)
  | succ n =>
    refine loop8 g n hN2 ?_
    rw [code8b]
    refine CodeOK.seq ((CodeOK.lookN (C := C18) ec gs18 mixed (u := 0) (len := 67) (L := L8b) (M := [false, false, false]) (Nat.zero_le _) (findB8 hN2 hg)).st ?_)
    rintro e vals B ⟨rfl, c, d, PL, PR, cl, cr, hw⟩
    refine CodeOK.pre hw ?_
    obtain ⟨c1, c2⟩ := cut_3l hg hN2 cl
    obtain ⟨d1, d2⟩ := cut_3r hg hN2 cr
    have ht : (tmV g 5 9000000 pk3 (n + 1) == 9000005) = decide ((c : Int) < ((n + 1 : Nat) : Int)) := by
      rcases tm_3 hg hN2 with ⟨q1, q2⟩ | ⟨q1, q2⟩
      · rw [q1, cb (by omega)]; rfl
      · rw [q1, cf (by omega)]; rfl
    generalize tmV g 5 9000000 pk3 (n + 1) = tm at ht hw ⊢
    refine CodeOK.seq (CodeOK.at (C := C18) ec gs18 mixed (u := 0) (len := 67) (L := L8c) (M := [false, false, false]) (vals := v8c (n + 1 : Nat) g (.slice 0 0 6 (n + 1)) (gV 1 c) (gV 2 d) tm c) (B := h8b (n + 1) pk3 (gB PL c) (gB PR d)) (Nat.zero_le _) .normal ?_ (end8 hN2 (by omega) c2 (fun r hr => by rw [d2 r hr]; congr 1; omega) ht))
    show evalC C18 0 0 c8_8 (tplF 67 L8b (v8b (n + 1 : Nat) g (.slice 0 0 6 (n + 1)) (gV 1 c) (gV 2 d) tm)) ([BO.raw (some (bPw (n + 1) pk3)), BO.raw (gB PL c), BO.raw (gB PR d)].map mkB) _
    rw [p8w, want_3 (n + 1) hg, ← c1]
    exact ⟨rfl, (by cases c <;> cases d <;> rfl), ⟨fun _ _ => rfl, gB_ids _ PL c, gB_ids _ PR d, trivial⟩, rfl, rfl, rfl⟩
end
theorem three_any (x y : Int) (W : World) : Calls Try.prog 8 #[.int .i64 x, .int .i64 y] W fun e w' => e = .returned (.bool true) ∧ Below W.heap.size W w' :=
  lawOf (canon8 x y) (RL.cons (by simp [R]) (RL.cons (by simp [R]) RL.nil)) W
end Go.Proofs.Ytcjfmkkfcbelpaa
