/-
  Chapter 9 by the engine: sameness with a list that begins at a later row: the contract is kept.
-/
import Derived.Test.YtcjfmkkfcbelpaaT14
namespace Go.Proofs.Ytcjfmkkfcbelpaa
open Go.RowKit
set_option linter.unusedVariables false
def LpO (h : Heap) (v : SV) (P : Nat → Pk) (n : Nat) : Prop := ((v = .nilSlice ∨ v = .eslice) ∧ P = (fun _ => pk0) ∧ n = 0) ∨ ∃ id r0 b, v = .slice id r0 6 n ∧ h id = some b ∧ IsP b (r0 + n) ∧ P = fun r => rowP (b.rd (r0 + r))
theorem lpO_ok {h : Heap} {v : SV} {K : (Nat → Pk) → Nat → Prop} (hk : lpO h v K) : ∃ P n, LpO h v P n ∧ K P n := by
  unfold lpO at hk
  split at hk
  · exact ⟨_, _, .inl ⟨.inl rfl, rfl, rfl⟩, hk⟩
  · exact ⟨_, _, .inl ⟨.inr rfl, rfl, rfl⟩, hk⟩
  · split at hk
    · rename_i id r0 n x b hb
      exact ⟨_, _, .inr ⟨_, _, _, rfl, hb, hk.1, rfl⟩, hk.2⟩
    · cases hk
  · cases hk
theorem IsP.less {b : Blk} {n m : Nat} (h : IsP b n) (hm : m ≤ n) : IsP b m := ⟨h.sz, by have := h.le; omega, by have := h.sm; omega, fun r hr => h.rd r (by omega)⟩
section
attribute [local irreducible] evalC
set_option maxRecDepth 100000
theorem canon22o (n m r0 : Nat) (P Q : Nat → Pk) (hn : n ≤ 100000) : Canon Try.prog 22 [.slice 0 0 6 n, .slice 1 r0 6 m] [some (bP n P), some (bP (r0 + m) Q)] fun v _ => v = .bool (Nat.beq n m && eqPs P (fun r => Q (r0 + r)) n) := by
  refine CodeOK.body Try.func22 (by kernel_rfl) ?_
  rw [code22]
  have ids : allIds 2 (h22 n m r0 P Q) := ⟨fun _ _ => rfl, fun _ _ => rfl, trivial⟩
  have wk : ∀ {i i' : SV}, ValW (v22 n m r0 i') (v22 n m r0 i) → ltAll 2 (svIdsL (v22 n m r0 i')) = true → Weak 2 (tplF 26 L13 (v22 n m r0 i)) ((h22 n m r0 P Q).map mkB) (tplF 26 L13 (v22 n m r0 i')) ((h22 n m r0 P Q).map mkB) := fun hv hi => tpl_weak (B := h22 n m r0 P Q) (R := []) hv hi ids (show 2 ≤ 2 by decide)
  refine CodeOK.frontE (C := C6) ec gs6 mixed (u := 0) (len := 26) (rs := Try.f22.results.toList) (L := L13) (M := [false, false]) [c22_0, c22_1] (show 2 ≤ 2 by decide) (Q := fun x vals B => x = .normal ∧ n = m ∧ vals = v22 n m r0 .top ∧ B = h22 n m r0 P Q) (kr := fun v => v = SV.bool (Nat.beq n m && eqPs P (fun r => Q (r0 + r)) n)) ?_ ?_ fun fr hp h => h
  · show evalC C6 0 2 (.seq c22_0 (.seq c22_1 .skip)) (enterS 26 _) _ (obsE Try.prog Try.f22.results.toList L13 [false, false] _ _)
    rw [p22oa]
    refine condSplit (fun q => ?_) fun q => ?_
    · show SV.bool false = .bool (Nat.beq n m && eqPs P (fun r => Q (r0 + r)) n)
      have : ¬ n = m := fun e => by subst e; simp at q
      rw [show Nat.beq n m = false from neB this]
      rfl
    · exact ⟨rfl, rfl, ids, rfl, by simp at q; omega, rfl, rfl⟩
  rintro x vals B ⟨rfl, rfl, rfl, rfl⟩
  have hnn : Nat.beq n n = true := Nat.beq_refl n
  refine CodeOK.seq (CodeOK.seq (CodeOK.at (C := C6) ec gs6 mixed (u := 0) (len := 26) (L := L13) (M := [false, false]) (vals := v22 n n r0 (ni 0)) (B := h22 n n r0 P Q) (show 2 ≤ 2 by decide) .normal ?_ (CodeOK.block ?_)))
  · show evalC C6 0 2 c22_2 (tplF 26 L13 (v22 n n r0 .top)) ((h22 n n r0 P Q).map mkB) _
    rw [p22ob]
    exact ⟨rfl, rfl, ids, rfl, rfl, rfl⟩
  refine CodeOK.loop (fun N fr hp => ∃ i : Nat, i + N = n ∧ eqPs P (fun r => Q (r0 + r)) i = true ∧ fr = tplF 26 L13 (v22 n n r0 (ni i)) ∧ hp = (h22 n n r0 P Q).map mkB) ?_ (n := n) ⟨0, by omega, rfl, rfl, rfl⟩
  rintro N fr hp ⟨i, hi, hf, rfl, rfl⟩
  refine CodeOK.lookE (C := C6) ec gs6 mixed (u := 0) (len := 26) (rs := Try.f22.results.toList) (L := L13) (M := [false, false]) (show 2 ≤ 2 by decide) (Q := fun x vals B => (i < n ∧ eqP (P i) (Q (r0 + i)) = true ∧ x = .normal ∧ vals = v22 n n r0 (ni (i + 1 : Nat)) ∧ B = h22 n n r0 P Q) ∨ (i = n ∧ x = .exit 0 ∧ vals = v22 n n r0 (ni i) ∧ B = h22 n n r0 P Q)) (kr := fun v => v = SV.bool (Nat.beq n n && eqPs P (fun r => Q (r0 + r)) n)) ?_ ?_ fun fr hp h => h
  · show evalC C6 0 2 c22_3 (tplF 26 L13 (v22 n n r0 (ni i))) ((h22 n n r0 P Q).map mkB) (obsE Try.prog Try.f22.results.toList L13 [false, false] _ _)
    rw [p22oc]
    by_cases hin : i < n
    · have c3 : (decide (0 + (i : Int).toNat < n) && true) = true := by simp only [Bool.and_true, Nat.zero_add, Int.toNat_natCast]; exact cb hin
      refine condT' (cb (by omega)) (condT' (cb (by omega)) (condT' c3 (condT' (cb (by omega)) (condT' (by simp only [Bool.and_true, Int.toNat_natCast]; exact cb (by omega)) ?_))))
      simp only [Nat.zero_add, Int.toNat_natCast]
      refine condSplit (fun q => ?_) fun q => ?_
      · have q : eqP (P i) (Q (r0 + i)) = false := bnF q
        show SV.bool false = .bool (Nat.beq n n && eqPs P (fun r => Q (r0 + r)) n)
        rw [eqPs_no hin q, Bool.and_false]
      · rw [i64n i (by omega)]
        exact ⟨rfl, rfl, ids, .inl ⟨hin, bnT q, rfl, rfl, rfl⟩⟩
    · refine condF' (cf (by omega)) ?_
      exact ⟨rfl, rfl, ids, .inr ⟨by omega, rfl, rfl, rfl⟩⟩
  · rintro x vals B (⟨hin, q, rfl, rfl, rfl⟩ | ⟨rfl, rfl, rfl, rfl⟩)
    · exact ⟨N - 1, _, _, by omega, wk ⟨.inr rfl, .inr rfl, .inr rfl, trivial⟩ rfl, i + 1, by omega, by simp only [eqPs, hf, q, Bool.and_self], rfl, rfl⟩
    · refine CodeOK.pre (wk (i := ni i) (i' := .top) ⟨.inr rfl, .inr rfl, .inl rfl, trivial⟩ rfl) ?_
      refine CodeOK.eval (C := C6) ec gs6 mixed 0 ?_
      show evalC C6 0 2 c22_4 (tplF 26 L13 (v22 i i r0 .top)) ((h22 i i r0 P Q).map mkB) (endK Try.prog Try.f22.results.toList fun v _ => v = .bool (Nat.beq i i && eqPs P (fun r => Q (r0 + r)) i))
      rw [p22od i i r0 P Q (fun v => v = .bool (Nat.beq i i && eqPs P (fun r => Q (r0 + r)) i)), hf, hnn]
      rfl
theorem ok22o : SpecOK Try.prog 22 s22 := by
  intro args h base k hk
  unfold s22 at hk
  split at hk
  · rename_i v w
    have hc := cal (f := 22) Try.func22 (by kernel_rfl) (by kernel_rfl)
    obtain ⟨P, n, lg, hk⟩ := lp_ok hk
    obtain ⟨Q, m, lm, hk⟩ := lpO_ok hk
    rcases lm with ⟨he, rfl, rfl⟩ | ⟨id', r0, bl', rfl, g1', g2', rfl⟩
    · refine ok22 [v, w] h base k ?_
      unfold s13
      have hw : lp h w fun Q m => k (.bool (Nat.beq n m && eqPs P Q n)) [] [] := by
        rcases he with rfl | rfl <;> exact hk
      rcases lg with ⟨rfl | rfl, rfl, rfl⟩ | ⟨id, bl, rfl, g1, g2, rfl⟩
      · exact hw
      · exact hw
      · unfold lp
        simp only [g1]
        exact ⟨g2, hw⟩
    · rcases lg with ⟨rfl | rfl, rfl, rfl⟩ | ⟨id, bl, rfl, g1, g2, rfl⟩
      · refine ⟨_, [], [], hk, CSim.reads hc [.nilSlice, .slice 0 r0 6 m] [some (bP (r0 + m) fun r => rowP (bl'.rd r))] [id'] rfl (evalF_ok (C := C6) ec gs6 mixed (u := 64) Try.func22 (by kernel_rfl) ?_) rfl (one1 g1' g2') rfl base⟩
        rw [t22no m r0 _ (fun v => v = _)]
        exact same_o m
      · refine ⟨_, [], [], hk, CSim.reads hc [.eslice, .slice 0 r0 6 m] [some (bP (r0 + m) fun r => rowP (bl'.rd r))] [id'] rfl (evalF_ok (C := C6) ec gs6 mixed (u := 64) Try.func22 (by kernel_rfl) ?_) rfl (one1 g1' g2') rfl base⟩
        rw [t22eo m r0 _ (fun v => v = _)]
        exact same_o m
      · refine ⟨_, [], [], hk, CSim.reads hc [.slice 0 0 6 n, .slice 1 r0 6 m] [some (bP n fun r => rowP (bl.rd r)), some (bP (r0 + m) fun r => rowP (bl'.rd r))] [id, id'] rfl (canon22o n m r0 _ _ g2.sm) rfl (fun i b1 e => ?_) rfl base⟩
        match i, e with
        | 0, e =>
          obtain rfl := Option.some.inj (show some (bP n fun r => rowP (bl.rd r)) = some b1 from e)
          exact ⟨rfl, id, bl, rfl, g1, g2.wb _⟩
        | 1, e =>
          obtain rfl := Option.some.inj (show some (bP (r0 + m) fun r => rowP (bl'.rd r)) = some b1 from e)
          exact ⟨rfl, id', bl', rfl, g1', g2'.wb _⟩
        | i + 2, e => exact nomatch (show (none : Option Blk) = some b1 from e)
  · cases hk
theorem gs14 : GSound C14 := gs13.add ok22o
end
end Go.Proofs.Ytcjfmkkfcbelpaa
