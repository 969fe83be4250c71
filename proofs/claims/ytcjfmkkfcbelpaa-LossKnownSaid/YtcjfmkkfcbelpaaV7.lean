/-
  Chapter 9 by the engine: what is lost: loss.Find, its loop and what it answers.
-/
import Derived.Test.YtcjfmkkfcbelpaaV6
import Derived.Test.YtcjfmkkfcbelpaaT7
namespace Go.Proofs.Ytcjfmkkfcbelpaa
open Go.RowKit
set_option linter.unusedVariables false
section
attribute [local irreducible] evalC
set_option maxRecDepth 100000
theorem loop11 {n : Nat} {P : Nat → Pk} {g t w : Int} (hn : n ≤ 100000) {fr : List SV} {hp : LHeap} (h0 : St n P g t w 0 fr hp) {K : KC} (hK : ∀ fr hp, St n P g t w n fr hp → K (.exit 1) fr hp) : CodeOK Try.prog 1 (.loop c11_5) fr hp K := by
  refine CodeOK.monoW (K := fun x fr hp => x = .exit 1 ∧ ∃ fr' hp', Weak 1 fr hp fr' hp' ∧ St n P g t w n fr' hp') ?_ ?_
  · refine CodeOK.loop (fun N fr hp => ∃ i : Nat, i + N = n ∧ St n P g t w i fr hp) ?_ (n := n) ⟨0, by omega, h0⟩
    rintro N fr hp ⟨i, hi, rfl, rfl⟩
    have fin : ∀ (x : Ex) (vals : List SV) (B : List BO), QR n P g t w i x vals B → (roundK 1 (fun x fr hp => x = .exit 1 ∧ ∃ fr' hp', Weak 1 fr hp fr' hp' ∧ St n P g t w n fr' hp') (fun N fr hp => ∃ i : Nat, i + N = n ∧ St n P g t w i fr hp) N) x (tplF 89 L11 vals) (B.map mkB) := by
      rintro x vals B (⟨rfl, hge, fr', hp', hw, hs⟩ | ⟨rfl, hlt, fr', hp', hw, hs⟩)
      · obtain rfl : i = n := by omega
        exact ⟨rfl, fr', hp', hw, hs⟩
      · exact ⟨N - 1, fr', hp', by omega, hw, i + 1, by omega, hs⟩
    cases e1 : cntS (lostB g t w P) i with
    | zero =>
      cases e2 : cntS (restB g t w P) i with
      | zero =>
        simp only [lsV, lsO, e1, e2, List.length_nil, List.nil_append, List.append_nil]
        exact (CodeOK.lookN (C := C9) ec gs9 mixed (u := 0) (len := 89) (L := L11) (M := M11nn) (show 1 ≤ 10 by decide) (roundnn (a := 0) (b := 0) hn e1 e2)).st fin
      | succ b =>
        simp only [lsV, lsO, e1, e2, List.length_nil, List.nil_append]
        exact (CodeOK.lookN (C := C9) ec gs9 mixed (u := 0) (len := 89) (L := L11) (M := M11s) (show 1 ≤ 11 by decide) (roundns (a := 0) hn e1 e2)).st fin
    | succ a =>
      cases e2 : cntS (restB g t w P) i with
      | zero =>
        simp only [lsV, lsO, e1, e2, List.append_nil]
        exact (CodeOK.lookN (C := C9) ec gs9 mixed (u := 0) (len := 89) (L := L11) (M := M11s) (show 1 ≤ 11 by decide) (roundsn (b := 0) hn e1 e2)).st fin
      | succ b =>
        simp only [lsV, lsO, e1, e2, List.length_cons, List.length_nil, List.cons_append, List.nil_append]
        exact (CodeOK.lookN (C := C9) ec gs9 mixed (u := 0) (len := 89) (L := L11) (M := M11ss) (show 1 ≤ 12 by decide) (roundss hn e1 e2)).st fin
  · rintro x fr hp ⟨rfl, fr', hp', hw, hs⟩
    exact ⟨fr', hp', hw, hK fr' hp' hs⟩
/-- What is told of the lists at the end. -/
def Told (n : Nat) (P : Nat → Pk) (g t w : Int) (v : SV) (x7 x8 : Option Blk) : Prop :=
  (cntS (lostB g t w P) n = 0 ∧ cntS (restB g t w P) n = 0 ∧ v = .tuple [.nilSlice, .nilSlice, .int .i64 (tmV g t w P n), .int .i64 0]) ∨
  (∃ a A, cntS (lostB g t w P) n = a + 1 ∧ cntS (restB g t w P) n = 0 ∧ v = .tuple [.slice 7 0 6 (a + 1), .nilSlice, .int .i64 (tmV g t w P n), .int .i64 0] ∧ x7 = some A ∧ IsL A (fun r => P (ixS (lostB g t w P) n r)) (a + 1)) ∨
  (∃ b D, cntS (lostB g t w P) n = 0 ∧ cntS (restB g t w P) n = b + 1 ∧ v = .tuple [.nilSlice, .slice 7 0 6 (b + 1), .int .i64 (tmV g t w P n), .int .i64 0] ∧ x7 = some D ∧ IsL D (fun r => P (ixS (restB g t w P) n r)) (b + 1)) ∨
  (∃ a b A D, cntS (lostB g t w P) n = a + 1 ∧ cntS (restB g t w P) n = b + 1 ∧ v = .tuple [.slice 7 0 6 (a + 1), .slice 8 0 6 (b + 1), .int .i64 (tmV g t w P n), .int .i64 0] ∧ x7 = some A ∧ IsL A (fun r => P (ixS (lostB g t w P) n r)) (a + 1) ∧ x8 = some D ∧ IsL D (fun r => P (ixS (restB g t w P) n r)) (b + 1))
theorem end11 {n : Nat} {P : Nat → Pk} {g t w : Int} {fr : List SV} {hp : LHeap} (h : St n P g t w n fr hp) : CodeOK Try.prog 1 c11_6 fr hp (endK Try.prog Try.f11.results.toList fun v hp => Told n P g t w v (hget hp 7) (hget hp 8)) := by
  obtain ⟨rfl, rfl⟩ := h
  have ids : allIds 7 (h11 n P g t w) := ⟨fun _ _ => rfl, trivial, rfl, rfl, rfl, rfl, rfl, trivial⟩
  cases e1 : cntS (lostB g t w P) n with
  | zero =>
    cases e2 : cntS (restB g t w P) n with
    | zero =>
      simp only [lsV, lsO, e1, e2, List.length_nil, List.nil_append, List.append_nil]
      refine CodeOK.pre (tpl_weak (len := 89) (L := L11) (vals' := v11 n .nilSlice .nilSlice (tmV g t w P n) .top .top) (B := h11 n P g t w) (R := []) ⟨.inr rfl, .inr rfl, .inr rfl, .inr rfl, .inr rfl, .inl rfl, .inl rfl, .inl rfl, trivial⟩ rfl ids (show 1 ≤ 7 by decide)) ?_
      refine CodeOK.eval (C := C9) ec gs9 mixed 0 ?_
      rw [p11enn n P g t w (tmV g t w P n) (fun v x7 x8 => Told n P g t w v x7 x8)]
      exact .inl ⟨e1, e2, rfl⟩
    | succ b =>
      simp only [lsV, lsO, e1, e2, List.length_nil, List.nil_append]
      refine CodeOK.pre (tpl_weak (len := 89) (L := L11) (vals' := v11 n .nilSlice (.slice 7 0 6 (b + 1)) (tmV g t w P n) .top .top) (B := h11 n P g t w ++ [lO (b + 1) fun r => P (ixS (restB g t w P) n r)]) (R := []) ⟨.inr rfl, .inr rfl, .inr rfl, .inr rfl, .inr rfl, .inl rfl, .inl rfl, .inl rfl, trivial⟩ rfl ⟨fun _ _ => rfl, trivial, rfl, rfl, rfl, rfl, rfl, fun _ _ => rfl, trivial⟩ (show 1 ≤ 8 by decide)) ?_
      refine CodeOK.eval (C := C9) ec gs9 mixed 0 ?_
      rw [p11ens n P g t w (tmV g t w P n) b _ (fun v x7 x8 => Told n P g t w v x7 x8)]
      exact .inr (.inr (.inl ⟨b, _, e1, e2, rfl, rfl, rfl, rfl, rfl, rfl, fun r _ => rfl⟩))
  | succ a =>
    cases e2 : cntS (restB g t w P) n with
    | zero =>
      simp only [lsV, lsO, e1, e2, List.append_nil]
      refine CodeOK.pre (tpl_weak (len := 89) (L := L11) (vals' := v11 n (.slice 7 0 6 (a + 1)) .nilSlice (tmV g t w P n) .top .top) (B := h11 n P g t w ++ [lO (a + 1) fun r => P (ixS (lostB g t w P) n r)]) (R := []) ⟨.inr rfl, .inr rfl, .inr rfl, .inr rfl, .inr rfl, .inl rfl, .inl rfl, .inl rfl, trivial⟩ rfl ⟨fun _ _ => rfl, trivial, rfl, rfl, rfl, rfl, rfl, fun _ _ => rfl, trivial⟩ (show 1 ≤ 8 by decide)) ?_
      refine CodeOK.eval (C := C9) ec gs9 mixed 0 ?_
      rw [p11esn n P g t w (tmV g t w P n) a _ (fun v x7 x8 => Told n P g t w v x7 x8)]
      exact .inr (.inl ⟨a, _, e1, e2, rfl, rfl, rfl, rfl, rfl, rfl, fun r _ => rfl⟩)
    | succ b =>
      simp only [lsV, lsO, e1, e2, List.length_cons, List.length_nil, List.cons_append, List.nil_append]
      refine CodeOK.pre (tpl_weak (len := 89) (L := L11) (vals' := v11 n (.slice 7 0 6 (a + 1)) (.slice 8 0 6 (b + 1)) (tmV g t w P n) .top .top) (B := h11 n P g t w ++ [lO (a + 1) fun r => P (ixS (lostB g t w P) n r), lO (b + 1) fun r => P (ixS (restB g t w P) n r)]) (R := []) ⟨.inr rfl, .inr rfl, .inr rfl, .inr rfl, .inr rfl, .inl rfl, .inl rfl, .inl rfl, trivial⟩ rfl ⟨fun _ _ => rfl, trivial, rfl, rfl, rfl, rfl, rfl, fun _ _ => rfl, fun _ _ => rfl, trivial⟩ (show 1 ≤ 9 by decide)) ?_
      refine CodeOK.eval (C := C9) ec gs9 mixed 0 ?_
      rw [p11ess n P g t w (tmV g t w P n) a _ b _ (fun v x7 x8 => Told n P g t w v x7 x8)]
      exact .inr (.inr (.inr ⟨a, b, _, _, e1, e2, rfl, rfl, ⟨rfl, rfl, rfl, rfl, fun r _ => rfl⟩, rfl, ⟨rfl, rfl, rfl, rfl, fun r _ => rfl⟩⟩))
end
end Go.Proofs.Ytcjfmkkfcbelpaa
