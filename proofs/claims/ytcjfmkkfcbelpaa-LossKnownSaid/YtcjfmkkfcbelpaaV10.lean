/-
  Chapter 9 by the engine: what is lost: the reference's Find, its loop and what it answers.
-/
import Derived.Test.YtcjfmkkfcbelpaaV9
namespace Go.Proofs.Ytcjfmkkfcbelpaa
open Go.RowKit
set_option linter.unusedVariables false
section
attribute [local irreducible] evalC
set_option maxRecDepth 100000
theorem loop12 {n : Nat} {P : Nat → Pk} {g t l m s v f : Int} (hn : n ≤ 100000) (N12 : Num n P g) {fr : List SV} {hp : LHeap} (h0 : St12 n P g t l m s v f 0 fr hp) {K : KC} (hK : ∀ fr hp, St12 n P g t l m s v f n fr hp → K (.exit 0) fr hp) : CodeOK Try.prog 1 (.loop c12_7) fr hp K := by
  refine CodeOK.monoW (K := fun x fr hp => x = .exit 0 ∧ ∃ fr' hp', Weak 1 fr hp fr' hp' ∧ St12 n P g t l m s v f n fr' hp') ?_ ?_
  · refine CodeOK.loop (fun N fr hp => ∃ i : Nat, i + N = n ∧ St12 n P g t l m s v f i fr hp) ?_ (n := n) ⟨0, by omega, h0⟩
    rintro N fr hp ⟨i, hi, rfl, rfl⟩
    have fin : ∀ (x : Ex) (vals : List SV) (B : List BO), QR12 n P g t l m s v f i x vals B → (roundK 1 (fun x fr hp => x = .exit 0 ∧ ∃ fr' hp', Weak 1 fr hp fr' hp' ∧ St12 n P g t l m s v f n fr' hp') (fun N fr hp => ∃ i : Nat, i + N = n ∧ St12 n P g t l m s v f i fr hp) N) x (tplF 112 L12 vals) (B.map mkB) := by
      rintro x vals B (⟨rfl, hge, fr', hp', hw, hs⟩ | ⟨rfl, hlt, fr', hp', hw, hs⟩)
      · obtain rfl : i = n := by omega
        exact ⟨rfl, fr', hp', hw, hs⟩
      · exact ⟨N - 1, fr', hp', by omega, hw, i + 1, by omega, hs⟩
    cases e1 : cntS (lostB g t (waitV l m s v f) P) i with
    | zero =>
      cases e2 : cntS (restB g t (waitV l m s v f) P) i with
      | zero =>
        simp only [lsV, lsO, e1, e2, List.length_nil, List.nil_append, List.append_nil]
        exact (CodeOK.lookN (C := C9) ec gs9 mixed (u := 0) (len := 112) (L := L12) (M := M12nn) (show 1 ≤ 7 by decide) (round12nn (a := 0) (b := 0) hn N12 e1 e2)).st fin
      | succ b =>
        simp only [lsV, lsO, e1, e2, List.length_nil, List.nil_append]
        exact (CodeOK.lookN (C := C9) ec gs9 mixed (u := 0) (len := 112) (L := L12) (M := M12s) (show 1 ≤ 5 by decide) (round12ns (a := 0) hn N12 e1 e2)).st fin
    | succ a =>
      cases e2 : cntS (restB g t (waitV l m s v f) P) i with
      | zero =>
        simp only [lsV, lsO, e1, e2, List.append_nil]
        exact (CodeOK.lookN (C := C9) ec gs9 mixed (u := 0) (len := 112) (L := L12) (M := M12s) (show 1 ≤ 5 by decide) (round12sn (b := 0) hn N12 e1 e2)).st fin
      | succ b =>
        simp only [lsV, lsO, e1, e2, List.length_cons, List.length_nil, List.cons_append, List.nil_append]
        exact (CodeOK.lookN (C := C9) ec gs9 mixed (u := 0) (len := 112) (L := L12) (M := M12ss) (show 1 ≤ 6 by decide) (round12ss hn N12 e1 e2)).st fin
  · rintro x fr hp ⟨rfl, fr', hp', hw, hs⟩
    exact ⟨fr', hp', hw, hK fr' hp' hs⟩
/-- What is told of the lists at the end. -/
def Told12 (n : Nat) (P : Nat → Pk) (g t l m s v f : Int) (z : SV) (x7 x8 : Option Blk) : Prop :=
  (cntS (lostB g t (waitV l m s v f) P) n = 0 ∧ cntS (restB g t (waitV l m s v f) P) n = 0 ∧ z = .tuple [.nilSlice, .nilSlice, .int .i64 (tmV g t (waitV l m s v f) P n), .int .i64 0]) ∨
  (∃ a A, cntS (lostB g t (waitV l m s v f) P) n = a + 1 ∧ cntS (restB g t (waitV l m s v f) P) n = 0 ∧ z = .tuple [.slice 2 0 6 (a + 1), .nilSlice, .int .i64 (tmV g t (waitV l m s v f) P n), .int .i64 0] ∧ x7 = some A ∧ IsL A (fun r => P (ixS (lostB g t (waitV l m s v f) P) n r)) (a + 1)) ∨
  (∃ b D, cntS (lostB g t (waitV l m s v f) P) n = 0 ∧ cntS (restB g t (waitV l m s v f) P) n = b + 1 ∧ z = .tuple [.nilSlice, .slice 2 0 6 (b + 1), .int .i64 (tmV g t (waitV l m s v f) P n), .int .i64 0] ∧ x7 = some D ∧ IsL D (fun r => P (ixS (restB g t (waitV l m s v f) P) n r)) (b + 1)) ∨
  (∃ a b A D, cntS (lostB g t (waitV l m s v f) P) n = a + 1 ∧ cntS (restB g t (waitV l m s v f) P) n = b + 1 ∧ z = .tuple [.slice 2 0 6 (a + 1), .slice 3 0 6 (b + 1), .int .i64 (tmV g t (waitV l m s v f) P n), .int .i64 0] ∧ x7 = some A ∧ IsL A (fun r => P (ixS (lostB g t (waitV l m s v f) P) n r)) (a + 1) ∧ x8 = some D ∧ IsL D (fun r => P (ixS (restB g t (waitV l m s v f) P) n r)) (b + 1))
theorem end12 {n : Nat} {P : Nat → Pk} {g t l m s v f : Int} {fr : List SV} {hp : LHeap} (h : St12 n P g t l m s v f n fr hp) : CodeOK Try.prog 1 c12_8 fr hp (endK Try.prog Try.f12.results.toList fun z hp => Told12 n P g t l m s v f z (hget hp 2) (hget hp 3)) := by
  obtain ⟨rfl, rfl⟩ := h
  have ids : allIds 2 (h12 n P l m s v f) := ⟨fun _ _ => rfl, rfl, trivial⟩
  cases e1 : cntS (lostB g t (waitV l m s v f) P) n with
  | zero =>
    cases e2 : cntS (restB g t (waitV l m s v f) P) n with
    | zero =>
      simp only [lsV, lsO, e1, e2, List.length_nil, List.nil_append, List.append_nil]
      refine CodeOK.pre (tpl_weak (len := 112) (L := L12) (vals' := v12 n g t .nilSlice .nilSlice (tmV g t (waitV l m s v f) P n) .top) (B := h12 n P l m s v f) (R := []) ⟨.inr rfl, .inr rfl, .inr rfl, .inr rfl, .inr rfl, .inr rfl, .inr rfl, .inl rfl, trivial⟩ rfl ids (show 1 ≤ 2 by decide)) ?_
      refine CodeOK.eval (C := C9) ec gs9 mixed 0 ?_
      rw [p12enn n P g t l m s v f (tmV g t (waitV l m s v f) P n) (fun z x7 x8 => Told12 n P g t l m s v f z x7 x8)]
      exact .inl ⟨e1, e2, rfl⟩
    | succ b =>
      simp only [lsV, lsO, e1, e2, List.length_nil, List.nil_append]
      refine CodeOK.pre (tpl_weak (len := 112) (L := L12) (vals' := v12 n g t .nilSlice (.slice 2 0 6 (b + 1)) (tmV g t (waitV l m s v f) P n) .top) (B := h12 n P l m s v f ++ [lO (b + 1) fun r => P (ixS (restB g t (waitV l m s v f) P) n r)]) (R := []) ⟨.inr rfl, .inr rfl, .inr rfl, .inr rfl, .inr rfl, .inr rfl, .inr rfl, .inl rfl, trivial⟩ rfl ⟨fun _ _ => rfl, rfl, fun _ _ => rfl, trivial⟩ (show 1 ≤ 3 by decide)) ?_
      refine CodeOK.eval (C := C9) ec gs9 mixed 0 ?_
      rw [p12ens n P g t l m s v f (tmV g t (waitV l m s v f) P n) b _ (fun z x7 x8 => Told12 n P g t l m s v f z x7 x8)]
      exact .inr (.inr (.inl ⟨b, _, e1, e2, rfl, rfl, rfl, rfl, rfl, rfl, fun r _ => rfl⟩))
  | succ a =>
    cases e2 : cntS (restB g t (waitV l m s v f) P) n with
    | zero =>
      simp only [lsV, lsO, e1, e2, List.append_nil]
      refine CodeOK.pre (tpl_weak (len := 112) (L := L12) (vals' := v12 n g t (.slice 2 0 6 (a + 1)) .nilSlice (tmV g t (waitV l m s v f) P n) .top) (B := h12 n P l m s v f ++ [lO (a + 1) fun r => P (ixS (lostB g t (waitV l m s v f) P) n r)]) (R := []) ⟨.inr rfl, .inr rfl, .inr rfl, .inr rfl, .inr rfl, .inr rfl, .inr rfl, .inl rfl, trivial⟩ rfl ⟨fun _ _ => rfl, rfl, fun _ _ => rfl, trivial⟩ (show 1 ≤ 3 by decide)) ?_
      refine CodeOK.eval (C := C9) ec gs9 mixed 0 ?_
      rw [p12esn n P g t l m s v f (tmV g t (waitV l m s v f) P n) a _ (fun z x7 x8 => Told12 n P g t l m s v f z x7 x8)]
      exact .inr (.inl ⟨a, _, e1, e2, rfl, rfl, rfl, rfl, rfl, rfl, fun r _ => rfl⟩)
    | succ b =>
      simp only [lsV, lsO, e1, e2, List.length_cons, List.length_nil, List.cons_append, List.nil_append]
      refine CodeOK.pre (tpl_weak (len := 112) (L := L12) (vals' := v12 n g t (.slice 2 0 6 (a + 1)) (.slice 3 0 6 (b + 1)) (tmV g t (waitV l m s v f) P n) .top) (B := h12 n P l m s v f ++ [lO (a + 1) fun r => P (ixS (lostB g t (waitV l m s v f) P) n r), lO (b + 1) fun r => P (ixS (restB g t (waitV l m s v f) P) n r)]) (R := []) ⟨.inr rfl, .inr rfl, .inr rfl, .inr rfl, .inr rfl, .inr rfl, .inr rfl, .inl rfl, trivial⟩ rfl ⟨fun _ _ => rfl, rfl, fun _ _ => rfl, fun _ _ => rfl, trivial⟩ (show 1 ≤ 4 by decide)) ?_
      refine CodeOK.eval (C := C9) ec gs9 mixed 0 ?_
      rw [p12ess n P g t l m s v f (tmV g t (waitV l m s v f) P n) a _ b _ (fun z x7 x8 => Told12 n P g t l m s v f z x7 x8)]
      exact .inr (.inr (.inr ⟨a, b, _, _, e1, e2, rfl, rfl, ⟨rfl, rfl, rfl, rfl, fun r _ => rfl⟩, rfl, ⟨rfl, rfl, rfl, rfl, fun r _ => rfl⟩⟩))
end
end Go.Proofs.Ytcjfmkkfcbelpaa
