/-
  Chapter 9 by the engine: what is lost: the rounds of loss.Find.
-/
import Derived.Test.YtcjfmkkfcbelpaaV5
namespace Go.Proofs.Ytcjfmkkfcbelpaa
open Go.RowKit
set_option linter.unusedVariables false
theorem IsL.ids {A : Blk} {f : Nat → Pk} {n m : Nat} (hA : IsL A f n) : ∀ r, r < A.n → ltAll m (svIdsL (A.rd r)) = true := fun r hr => by
  rw [hA.rd r (by rw [← hA.len]; exact hr)]
  rfl
theorem isL_app {A : Blk} {f : Nat → Bool} {P : Nat → Pk} {i a : Nat} (h1 : A.sz = 6) (h2 : A.n = a + 1 + 1) (h3 : A.rw = true) (h4 : A.ty = 33) (h5 : ∀ r, r < a + 1 → A.rd r = pkC (P (ixS f i r))) (h6 : A.rd (a + 1) = pkC (P i)) (hf : f i = true) (e : cntS f i = a + 1) : IsL A (fun r => P (ixS f (i + 1) r)) (a + 1 + 1) :=
  ⟨h1, h2, h3, h4, fun r hr => by
    by_cases h : r < a + 1
    · rw [h5 r h, ixS_old (by rw [e]; exact h)]
    · obtain rfl : r = a + 1 := by omega
      have := ixS_new hf
      rw [e] at this
      rw [h6, this]⟩
theorem isL_one {A : Blk} {f : Nat → Bool} {P : Nat → Pk} {i : Nat} (h1 : A.sz = 6) (h2 : A.n = 1) (h3 : A.rw = true) (h4 : A.ty = 33) (h5 : A.rd 0 = pkC (P i)) (hf : f i = true) (e : cntS f i = 0) : IsL A (fun r => P (ixS f (i + 1) r)) (0 + 1) :=
  ⟨h1, h2, h3, h4, fun r hr => by
    obtain rfl : r = 0 := by omega
    have := ixS_new hf
    rw [e] at this
    rw [h5, this]⟩
theorem isL_keep {A : Blk} {f : Nat → Bool} {P : Nat → Pk} {i n : Nat} (h1 : A.sz = 6) (h2 : A.n = n) (h3 : A.rw = true) (h4 : A.ty = 33) (h5 : ∀ r, A.rd r = pkC (P (ixS f i r))) (hf : f i = false) : IsL A (fun r => P (ixS f (i + 1) r)) n :=
  ⟨h1, h2, h3, h4, fun r hr => by rw [h5 r, ixS_no hf]⟩
section
variable {n i : Nat} {P : Nat → Pk} {g t w : Int}
theorem lost_yes (h1 : decide ((P i).n ≤ g) = true) (h2 : (far g (P i).n || decide (dueT (P i).a w ≤ t)) = true) : lostB g t w P i = true := by unfold lostB; rw [h1, h2]; rfl
theorem lost_no1 (h1 : decide ((P i).n ≤ g) = false) : lostB g t w P i = false := by unfold lostB; rw [h1]; rfl
theorem lost_no2 (h2 : (far g (P i).n || decide (dueT (P i).a w ≤ t)) = false) : lostB g t w P i = false := by unfold lostB; rw [h2, Bool.and_false]
theorem rest_no (h : lostB g t w P i = true) : restB g t w P i = false := by unfold restB; rw [h]; rfl
theorem rest_yes (h : lostB g t w P i = false) : restB g t w P i = true := by unfold restB; rw [h]; rfl
theorem tm_lost (h : lostB g t w P i = true) : tmV g t w P i = tmV g t w P (i + 1) := by
  show _ = tmS _ _ _ (i + 1)
  simp only [tmS, h, cond_true]
  rfl
theorem tm_new (h : lostB g t w P i = false) (h1 : decide ((P i).n ≤ g) = true) (h2 : (tmV g t w P i == -1) = true) : minT (dueT (P i).a w) = tmV g t w P (i + 1) := by
  have h2 : (tmS (lostB g t w P) (leB g P) (dueP w P) i == -1) = true := h2
  have h1 : leB g P i = true := h1
  show _ = tmS _ _ _ (i + 1)
  simp only [tmS, h, cond_false, h1, h2, Bool.true_or, Bool.and_self, cond_true]
  rfl
theorem tm_less (h : lostB g t w P i = false) (h1 : decide ((P i).n ≤ g) = true) (h2 : decide (minT (dueT (P i).a w) < tmV g t w P i) = true) : minT (dueT (P i).a w) = tmV g t w P (i + 1) := by
  have h2 : decide (dueP w P i < tmS (lostB g t w P) (leB g P) (dueP w P) i) = true := h2
  have h1 : leB g P i = true := h1
  show _ = tmS _ _ _ (i + 1)
  simp only [tmS, h, cond_false, h1, h2, Bool.or_true, Bool.and_self, cond_true]
  rfl
theorem tm_same1 (h : lostB g t w P i = false) (h1 : (tmV g t w P i == -1) = false) (h2 : decide (minT (dueT (P i).a w) < tmV g t w P i) = false) : tmV g t w P i = tmV g t w P (i + 1) := by
  have h2 : decide (dueP w P i < tmS (lostB g t w P) (leB g P) (dueP w P) i) = false := h2
  have h1 : (tmS (lostB g t w P) (leB g P) (dueP w P) i == -1) = false := h1
  show _ = tmS _ _ _ (i + 1)
  simp only [tmS, h, cond_false, h1, h2, Bool.or_self, Bool.and_false]
  rfl
theorem tm_same2 (h : lostB g t w P i = false) (h1 : decide ((P i).n ≤ g) = false) : tmV g t w P i = tmV g t w P (i + 1) := by
  have h1 : leB g P i = false := h1
  show _ = tmS _ _ _ (i + 1)
  simp only [tmS, h, cond_false, h1, Bool.false_and]
  rfl
theorem cap6 {a : Nat} (h : a + 1 ≤ 100000) : (decide (a + 1 + 1 ≤ 9223372036854775807) && decide ((a + 1 + 1) * 32 ≤ 140737488355328) && true && true && true && true && decide True && true) = true := by
  have h1 : a + 1 + 1 ≤ 9223372036854775807 := by omega
  have h2 : (a + 1 + 1) * 32 ≤ 140737488355328 := by omega
  simp only [h1, h2, decide_true, Bool.and_true]
/-- A round's end, or the loop's. -/
def QR (n : Nat) (P : Nat → Pk) (g t w : Int) (i : Nat) : Ex → List SV → List BO → Prop := fun x vals B => (x = .exit 1 ∧ ¬ i < n ∧ ∃ fr' hp', Weak 1 (tplF 89 L11 vals) (B.map mkB) fr' hp' ∧ St n P g t w i fr' hp') ∨ (x = .normal ∧ i < n ∧ Nx n P g t w (i + 1) (tplF 89 L11 vals) (B.map mkB))
theorem base_of {B : List BO} (h0 : hget (B.map mkB) 0 = some (bP n P)) (h2 : hget (B.map mkB) 2 = mkB (cO g)) (h3 : hget (B.map mkB) 3 = mkB (cO t)) (h4 : hget (B.map mkB) 4 = mkB (cO w)) (h5 : hget (B.map mkB) 5 = mkB dueO) (h6 : hget (B.map mkB) 6 = mkB (.rows 3 1 true 56 [rulC 2 5 3])) : Base n P g t w (B.map mkB) := ⟨h0, h2, h3, h4, h5, h6⟩
end
section
attribute [local irreducible] evalC
set_option maxRecDepth 100000
theorem roundnn {n i a b : Nat} {P : Nat → Pk} {g t w : Int} (hn : n ≤ 100000) (e1 : cntS (lostB g t w P) i = 0) (e2 : cntS (restB g t w P) i = 0) : evalC C9 0 1 c11_5 (tplF 89 L11 (v11 n .nilSlice .nilSlice (tmV g t w P i) (.slice 0 0 6 n) (.int .i64 i))) ((h11 n P g t w).map mkB) (obsN L11 M11nn (seen 89 10 (QR n P g t w i))) := by
  rw [p11nn n P g t w (tmV g t w P i) i]
  refine condSplit (fun hin => ?_) fun hin => ?_
  rotate_left
  · refine ⟨rfl, rfl, ⟨fun _ _ => rfl, trivial, rfl, rfl, rfl, rfl, rfl, trivial, trivial, trivial, trivial⟩, .inl ⟨rfl, by have := of_decide_eq_false hin; omega, _, _, ?_, rfl, rfl⟩⟩
    simp only [lsV, lsO, e1, e2, List.length_nil, List.length_cons, List.nil_append, List.append_nil, List.cons_append]
    exact tpl_weak (len := 89) (L := L11) (vals' := v11 n .nilSlice .nilSlice (tmV g t w P i) (.slice 0 0 6 n) (.int .i64 i)) (B := h11 n P g t w) (R := [.raw none, .raw none, .raw none]) ⟨.inr rfl, .inr rfl, .inr rfl, .inr rfl, .inr rfl, .inr rfl, .inr rfl, .inr rfl, trivial⟩ rfl ⟨fun _ _ => rfl, trivial, rfl, rfl, rfl, rfl, rfl, trivial⟩ (show 1 ≤ 7 by decide)
  have hi : i < n := by have := of_decide_eq_true hin; omega
  have hw : IntKind.i64.wrap ((i : Int) + 1) = ((i + 1 : Nat) : Int) := i64n i (by omega)
  refine condT' hin (condT' (by simp only [Bool.and_true, Nat.zero_add, Int.toNat_natCast]; exact cb hi) ?_)
  simp only [Nat.zero_add, Int.toNat_natCast]
  refine condSplit (fun q1 => condSplit (fun q2 => ?_) fun q2 => condSplit (fun q3 => condSplit (fun q4 => ?_) fun q4 => condSplit (fun q5 => ?_) fun q5 => ?_) fun q3 => ?_) fun q1 => condSplit (fun q3 => ?_) fun q3 => ?_
  · have hl := lost_yes q1 q2
    exact ⟨rfl, rfl, ⟨fun _ _ => rfl, trivial, rfl, rfl, rfl, rfl, rfl, rfl, rfl, rfl, trivial⟩, .inr ⟨rfl, hi, nxSN (x := 9) hw (base_of rfl rfl rfl rfl rfl rfl) (tm_lost hl) (by rw [cntS_yes hl, e1]) (by rw [cntS_no (rest_no hl), e2]) rfl (isL_one rfl rfl rfl rfl rfl hl e1) (by decide)⟩⟩
  · have hl : lostB g t w P i = false := lost_no2 q2
    exact ⟨rfl, rfl, ⟨fun _ _ => rfl, trivial, rfl, rfl, rfl, rfl, rfl, rfl, rfl, rfl, trivial⟩, .inr ⟨rfl, hi, nxNS (y := 9) hw (base_of rfl rfl rfl rfl rfl rfl) (tm_new hl q1 q4) (by rw [cntS_no hl, e1]) (by rw [cntS_yes (rest_yes hl), e2]) rfl (isL_one rfl rfl rfl rfl rfl (rest_yes hl) e2) (by decide)⟩⟩
  · have hl : lostB g t w P i = false := lost_no2 q2
    exact ⟨rfl, rfl, ⟨fun _ _ => rfl, trivial, rfl, rfl, rfl, rfl, rfl, rfl, rfl, rfl, trivial⟩, .inr ⟨rfl, hi, nxNS (y := 9) hw (base_of rfl rfl rfl rfl rfl rfl) (tm_less hl q1 q5) (by rw [cntS_no hl, e1]) (by rw [cntS_yes (rest_yes hl), e2]) rfl (isL_one rfl rfl rfl rfl rfl (rest_yes hl) e2) (by decide)⟩⟩
  · have hl : lostB g t w P i = false := lost_no2 q2
    exact ⟨rfl, rfl, ⟨fun _ _ => rfl, trivial, rfl, rfl, rfl, rfl, rfl, rfl, rfl, rfl, trivial⟩, .inr ⟨rfl, hi, nxNS (y := 9) hw (base_of rfl rfl rfl rfl rfl rfl) (tm_same1 hl q4 q5) (by rw [cntS_no hl, e1]) (by rw [cntS_yes (rest_yes hl), e2]) rfl (isL_one rfl rfl rfl rfl rfl (rest_yes hl) e2) (by decide)⟩⟩
  · rw [q1] at q3; cases q3
  · rw [q1] at q3; cases q3
  · have hl : lostB g t w P i = false := lost_no1 q1
    exact ⟨rfl, rfl, ⟨fun _ _ => rfl, trivial, rfl, rfl, rfl, rfl, rfl, rfl, rfl, rfl, trivial⟩, .inr ⟨rfl, hi, nxNS (y := 9) hw (base_of rfl rfl rfl rfl rfl rfl) (tm_same2 hl q1) (by rw [cntS_no hl, e1]) (by rw [cntS_yes (rest_yes hl), e2]) rfl (isL_one rfl rfl rfl rfl rfl (rest_yes hl) e2) (by decide)⟩⟩
theorem roundsn {n i a b : Nat} {P : Nat → Pk} {g t w : Int} (hn : n ≤ 100000) (e1 : cntS (lostB g t w P) i = a + 1) (e2 : cntS (restB g t w P) i = 0) : evalC C9 0 1 c11_5 (tplF 89 L11 (v11 n (.slice 7 0 6 (a + 1)) .nilSlice (tmV g t w P i) (.slice 0 0 6 n) (.int .i64 i))) ((h11 n P g t w ++ [lO (a + 1) (fun r => P (ixS (lostB g t w P) i r))]).map mkB) (obsN L11 M11s (seen 89 11 (QR n P g t w i))) := by
  rw [p11sn n P g t w (tmV g t w P i) i a (fun r => P (ixS (lostB g t w P) i r))]
  refine condSplit (fun hin => ?_) fun hin => ?_
  rotate_left
  · refine ⟨rfl, rfl, ⟨fun _ _ => rfl, trivial, rfl, rfl, rfl, rfl, rfl, (fun _ _ => rfl), trivial, trivial, trivial, trivial⟩, .inl ⟨rfl, by have := of_decide_eq_false hin; omega, _, _, ?_, rfl, rfl⟩⟩
    simp only [lsV, lsO, e1, e2, List.length_nil, List.length_cons, List.nil_append, List.append_nil, List.cons_append]
    exact tpl_weak (len := 89) (L := L11) (vals' := v11 n (.slice 7 0 6 (a + 1)) .nilSlice (tmV g t w P i) (.slice 0 0 6 n) (.int .i64 i)) (B := h11 n P g t w ++ [lO (a + 1) (fun r => P (ixS (lostB g t w P) i r))]) (R := [.raw none, .raw none, .raw none]) ⟨.inr rfl, .inr rfl, .inr rfl, .inr rfl, .inr rfl, .inr rfl, .inr rfl, .inr rfl, trivial⟩ rfl ⟨fun _ _ => rfl, trivial, rfl, rfl, rfl, rfl, rfl, (fun _ _ => rfl), trivial⟩ (show 1 ≤ 8 by decide)
  have hi : i < n := by have := of_decide_eq_true hin; omega
  have hw : IntKind.i64.wrap ((i : Int) + 1) = ((i + 1 : Nat) : Int) := i64n i (by omega)
  refine condT' hin (condT' (by simp only [Bool.and_true, Nat.zero_add, Int.toNat_natCast]; exact cb hi) ?_)
  simp only [Nat.zero_add, Int.toNat_natCast]
  have ha : a + 1 ≤ 100000 := by have := cntS_le (lostB g t w P) i; omega
  refine condSplit (fun q1 => condSplit (fun q2 => condT' (cap6 ha) ?_) fun q2 => condSplit (fun q3 => condSplit (fun q4 => ?_) fun q4 => condSplit (fun q5 => ?_) fun q5 => ?_) fun q3 => ?_) fun q1 => condSplit (fun q3 => ?_) fun q3 => ?_
  · have hl := lost_yes q1 q2
    exact ⟨rfl, rfl, ⟨fun _ _ => rfl, trivial, rfl, rfl, rfl, rfl, rfl, trivial, rfl, rfl, ((isL_app rfl rfl rfl rfl (fun r hr => by show cond _ _ _ = _; rw [decide_eq_true hr]; rfl) (by show cond _ _ _ = _; rw [decide_eq_false (Nat.lt_irrefl _), Nat.sub_self]; rfl) hl e1)).ids, trivial⟩, .inr ⟨rfl, hi, nxSN (x := 10) hw (base_of rfl rfl rfl rfl rfl rfl) (tm_lost hl) (by rw [cntS_yes hl, e1]) (by rw [cntS_no (rest_no hl), e2]) rfl (isL_app rfl rfl rfl rfl (fun r hr => by show cond _ _ _ = _; rw [decide_eq_true hr]; rfl) (by show cond _ _ _ = _; rw [decide_eq_false (Nat.lt_irrefl _), Nat.sub_self]; rfl) hl e1) (by decide)⟩⟩
  · have hl : lostB g t w P i = false := lost_no2 q2
    exact ⟨rfl, rfl, ⟨fun _ _ => rfl, trivial, rfl, rfl, rfl, rfl, rfl, (fun _ _ => rfl), rfl, rfl, ((isL_one rfl rfl rfl rfl rfl (rest_yes hl) e2)).ids, trivial⟩, .inr ⟨rfl, hi, nxSS (x := 7) (y := 10) hw (base_of rfl rfl rfl rfl rfl rfl) (tm_new hl q1 q4) (by rw [cntS_no hl, e1]) (by rw [cntS_yes (rest_yes hl), e2]) rfl (isL_keep rfl rfl rfl rfl (fun r => rfl) hl) rfl (isL_one rfl rfl rfl rfl rfl (rest_yes hl) e2) (by decide)⟩⟩
  · have hl : lostB g t w P i = false := lost_no2 q2
    exact ⟨rfl, rfl, ⟨fun _ _ => rfl, trivial, rfl, rfl, rfl, rfl, rfl, (fun _ _ => rfl), rfl, rfl, ((isL_one rfl rfl rfl rfl rfl (rest_yes hl) e2)).ids, trivial⟩, .inr ⟨rfl, hi, nxSS (x := 7) (y := 10) hw (base_of rfl rfl rfl rfl rfl rfl) (tm_less hl q1 q5) (by rw [cntS_no hl, e1]) (by rw [cntS_yes (rest_yes hl), e2]) rfl (isL_keep rfl rfl rfl rfl (fun r => rfl) hl) rfl (isL_one rfl rfl rfl rfl rfl (rest_yes hl) e2) (by decide)⟩⟩
  · have hl : lostB g t w P i = false := lost_no2 q2
    exact ⟨rfl, rfl, ⟨fun _ _ => rfl, trivial, rfl, rfl, rfl, rfl, rfl, (fun _ _ => rfl), rfl, rfl, ((isL_one rfl rfl rfl rfl rfl (rest_yes hl) e2)).ids, trivial⟩, .inr ⟨rfl, hi, nxSS (x := 7) (y := 10) hw (base_of rfl rfl rfl rfl rfl rfl) (tm_same1 hl q4 q5) (by rw [cntS_no hl, e1]) (by rw [cntS_yes (rest_yes hl), e2]) rfl (isL_keep rfl rfl rfl rfl (fun r => rfl) hl) rfl (isL_one rfl rfl rfl rfl rfl (rest_yes hl) e2) (by decide)⟩⟩
  · rw [q1] at q3; cases q3
  · rw [q1] at q3; cases q3
  · have hl : lostB g t w P i = false := lost_no1 q1
    exact ⟨rfl, rfl, ⟨fun _ _ => rfl, trivial, rfl, rfl, rfl, rfl, rfl, (fun _ _ => rfl), rfl, rfl, ((isL_one rfl rfl rfl rfl rfl (rest_yes hl) e2)).ids, trivial⟩, .inr ⟨rfl, hi, nxSS (x := 7) (y := 10) hw (base_of rfl rfl rfl rfl rfl rfl) (tm_same2 hl q1) (by rw [cntS_no hl, e1]) (by rw [cntS_yes (rest_yes hl), e2]) rfl (isL_keep rfl rfl rfl rfl (fun r => rfl) hl) rfl (isL_one rfl rfl rfl rfl rfl (rest_yes hl) e2) (by decide)⟩⟩
theorem roundns {n i a b : Nat} {P : Nat → Pk} {g t w : Int} (hn : n ≤ 100000) (e1 : cntS (lostB g t w P) i = 0) (e2 : cntS (restB g t w P) i = b + 1) : evalC C9 0 1 c11_5 (tplF 89 L11 (v11 n .nilSlice (.slice 7 0 6 (b + 1)) (tmV g t w P i) (.slice 0 0 6 n) (.int .i64 i))) ((h11 n P g t w ++ [lO (b + 1) (fun r => P (ixS (restB g t w P) i r))]).map mkB) (obsN L11 M11s (seen 89 11 (QR n P g t w i))) := by
  rw [p11ns n P g t w (tmV g t w P i) i b (fun r => P (ixS (restB g t w P) i r))]
  refine condSplit (fun hin => ?_) fun hin => ?_
  rotate_left
  · refine ⟨rfl, rfl, ⟨fun _ _ => rfl, trivial, rfl, rfl, rfl, rfl, rfl, (fun _ _ => rfl), trivial, trivial, trivial, trivial⟩, .inl ⟨rfl, by have := of_decide_eq_false hin; omega, _, _, ?_, rfl, rfl⟩⟩
    simp only [lsV, lsO, e1, e2, List.length_nil, List.length_cons, List.nil_append, List.append_nil, List.cons_append]
    exact tpl_weak (len := 89) (L := L11) (vals' := v11 n .nilSlice (.slice 7 0 6 (b + 1)) (tmV g t w P i) (.slice 0 0 6 n) (.int .i64 i)) (B := h11 n P g t w ++ [lO (b + 1) (fun r => P (ixS (restB g t w P) i r))]) (R := [.raw none, .raw none, .raw none]) ⟨.inr rfl, .inr rfl, .inr rfl, .inr rfl, .inr rfl, .inr rfl, .inr rfl, .inr rfl, trivial⟩ rfl ⟨fun _ _ => rfl, trivial, rfl, rfl, rfl, rfl, rfl, (fun _ _ => rfl), trivial⟩ (show 1 ≤ 8 by decide)
  have hi : i < n := by have := of_decide_eq_true hin; omega
  have hw : IntKind.i64.wrap ((i : Int) + 1) = ((i + 1 : Nat) : Int) := i64n i (by omega)
  refine condT' hin (condT' (by simp only [Bool.and_true, Nat.zero_add, Int.toNat_natCast]; exact cb hi) ?_)
  simp only [Nat.zero_add, Int.toNat_natCast]
  have hb : b + 1 ≤ 100000 := by have := cntS_le (restB g t w P) i; omega
  refine condSplit (fun q1 => condSplit (fun q2 => ?_) fun q2 => condT' (cap6 hb) (condSplit (fun q3 => condSplit (fun q4 => ?_) fun q4 => condSplit (fun q5 => ?_) fun q5 => ?_) fun q3 => ?_)) fun q1 => condT' (cap6 hb) (condSplit (fun q3 => ?_) fun q3 => ?_)
  · have hl := lost_yes q1 q2
    exact ⟨rfl, rfl, ⟨fun _ _ => rfl, trivial, rfl, rfl, rfl, rfl, rfl, (fun _ _ => rfl), rfl, rfl, ((isL_one rfl rfl rfl rfl rfl hl e1)).ids, trivial⟩, .inr ⟨rfl, hi, nxSS (x := 10) (y := 7) hw (base_of rfl rfl rfl rfl rfl rfl) (tm_lost hl) (by rw [cntS_yes hl, e1]) (by rw [cntS_no (rest_no hl), e2]) rfl (isL_one rfl rfl rfl rfl rfl hl e1) rfl (isL_keep rfl rfl rfl rfl (fun r => rfl) (rest_no hl)) (by decide)⟩⟩
  · have hl : lostB g t w P i = false := lost_no2 q2
    exact ⟨rfl, rfl, ⟨fun _ _ => rfl, trivial, rfl, rfl, rfl, rfl, rfl, trivial, rfl, rfl, ((isL_app rfl rfl rfl rfl (fun r hr => by show cond _ _ _ = _; rw [decide_eq_true hr]; rfl) (by show cond _ _ _ = _; rw [decide_eq_false (Nat.lt_irrefl _), Nat.sub_self]; rfl) (rest_yes hl) e2)).ids, trivial⟩, .inr ⟨rfl, hi, nxNS (y := 10) hw (base_of rfl rfl rfl rfl rfl rfl) (tm_new hl q1 q4) (by rw [cntS_no hl, e1]) (by rw [cntS_yes (rest_yes hl), e2]) rfl (isL_app rfl rfl rfl rfl (fun r hr => by show cond _ _ _ = _; rw [decide_eq_true hr]; rfl) (by show cond _ _ _ = _; rw [decide_eq_false (Nat.lt_irrefl _), Nat.sub_self]; rfl) (rest_yes hl) e2) (by decide)⟩⟩
  · have hl : lostB g t w P i = false := lost_no2 q2
    exact ⟨rfl, rfl, ⟨fun _ _ => rfl, trivial, rfl, rfl, rfl, rfl, rfl, trivial, rfl, rfl, ((isL_app rfl rfl rfl rfl (fun r hr => by show cond _ _ _ = _; rw [decide_eq_true hr]; rfl) (by show cond _ _ _ = _; rw [decide_eq_false (Nat.lt_irrefl _), Nat.sub_self]; rfl) (rest_yes hl) e2)).ids, trivial⟩, .inr ⟨rfl, hi, nxNS (y := 10) hw (base_of rfl rfl rfl rfl rfl rfl) (tm_less hl q1 q5) (by rw [cntS_no hl, e1]) (by rw [cntS_yes (rest_yes hl), e2]) rfl (isL_app rfl rfl rfl rfl (fun r hr => by show cond _ _ _ = _; rw [decide_eq_true hr]; rfl) (by show cond _ _ _ = _; rw [decide_eq_false (Nat.lt_irrefl _), Nat.sub_self]; rfl) (rest_yes hl) e2) (by decide)⟩⟩
  · have hl : lostB g t w P i = false := lost_no2 q2
    exact ⟨rfl, rfl, ⟨fun _ _ => rfl, trivial, rfl, rfl, rfl, rfl, rfl, trivial, rfl, rfl, ((isL_app rfl rfl rfl rfl (fun r hr => by show cond _ _ _ = _; rw [decide_eq_true hr]; rfl) (by show cond _ _ _ = _; rw [decide_eq_false (Nat.lt_irrefl _), Nat.sub_self]; rfl) (rest_yes hl) e2)).ids, trivial⟩, .inr ⟨rfl, hi, nxNS (y := 10) hw (base_of rfl rfl rfl rfl rfl rfl) (tm_same1 hl q4 q5) (by rw [cntS_no hl, e1]) (by rw [cntS_yes (rest_yes hl), e2]) rfl (isL_app rfl rfl rfl rfl (fun r hr => by show cond _ _ _ = _; rw [decide_eq_true hr]; rfl) (by show cond _ _ _ = _; rw [decide_eq_false (Nat.lt_irrefl _), Nat.sub_self]; rfl) (rest_yes hl) e2) (by decide)⟩⟩
  · rw [q1] at q3; cases q3
  · rw [q1] at q3; cases q3
  · have hl : lostB g t w P i = false := lost_no1 q1
    exact ⟨rfl, rfl, ⟨fun _ _ => rfl, trivial, rfl, rfl, rfl, rfl, rfl, trivial, rfl, rfl, ((isL_app rfl rfl rfl rfl (fun r hr => by show cond _ _ _ = _; rw [decide_eq_true hr]; rfl) (by show cond _ _ _ = _; rw [decide_eq_false (Nat.lt_irrefl _), Nat.sub_self]; rfl) (rest_yes hl) e2)).ids, trivial⟩, .inr ⟨rfl, hi, nxNS (y := 10) hw (base_of rfl rfl rfl rfl rfl rfl) (tm_same2 hl q1) (by rw [cntS_no hl, e1]) (by rw [cntS_yes (rest_yes hl), e2]) rfl (isL_app rfl rfl rfl rfl (fun r hr => by show cond _ _ _ = _; rw [decide_eq_true hr]; rfl) (by show cond _ _ _ = _; rw [decide_eq_false (Nat.lt_irrefl _), Nat.sub_self]; rfl) (rest_yes hl) e2) (by decide)⟩⟩
theorem roundss {n i a b : Nat} {P : Nat → Pk} {g t w : Int} (hn : n ≤ 100000) (e1 : cntS (lostB g t w P) i = a + 1) (e2 : cntS (restB g t w P) i = b + 1) : evalC C9 0 1 c11_5 (tplF 89 L11 (v11 n (.slice 7 0 6 (a + 1)) (.slice 8 0 6 (b + 1)) (tmV g t w P i) (.slice 0 0 6 n) (.int .i64 i))) ((h11 n P g t w ++ [lO (a + 1) (fun r => P (ixS (lostB g t w P) i r)), lO (b + 1) (fun r => P (ixS (restB g t w P) i r))]).map mkB) (obsN L11 M11ss (seen 89 12 (QR n P g t w i))) := by
  rw [p11ss n P g t w (tmV g t w P i) i a (fun r => P (ixS (lostB g t w P) i r)) b (fun r => P (ixS (restB g t w P) i r))]
  refine condSplit (fun hin => ?_) fun hin => ?_
  rotate_left
  · refine ⟨rfl, rfl, ⟨fun _ _ => rfl, trivial, rfl, rfl, rfl, rfl, rfl, (fun _ _ => rfl), (fun _ _ => rfl), trivial, trivial, trivial, trivial⟩, .inl ⟨rfl, by have := of_decide_eq_false hin; omega, _, _, ?_, rfl, rfl⟩⟩
    simp only [lsV, lsO, e1, e2, List.length_nil, List.length_cons, List.nil_append, List.append_nil, List.cons_append]
    exact tpl_weak (len := 89) (L := L11) (vals' := v11 n (.slice 7 0 6 (a + 1)) (.slice 8 0 6 (b + 1)) (tmV g t w P i) (.slice 0 0 6 n) (.int .i64 i)) (B := h11 n P g t w ++ [lO (a + 1) (fun r => P (ixS (lostB g t w P) i r)), lO (b + 1) (fun r => P (ixS (restB g t w P) i r))]) (R := [.raw none, .raw none, .raw none]) ⟨.inr rfl, .inr rfl, .inr rfl, .inr rfl, .inr rfl, .inr rfl, .inr rfl, .inr rfl, trivial⟩ rfl ⟨fun _ _ => rfl, trivial, rfl, rfl, rfl, rfl, rfl, (fun _ _ => rfl), (fun _ _ => rfl), trivial⟩ (show 1 ≤ 9 by decide)
  have hi : i < n := by have := of_decide_eq_true hin; omega
  have hw : IntKind.i64.wrap ((i : Int) + 1) = ((i + 1 : Nat) : Int) := i64n i (by omega)
  refine condT' hin (condT' (by simp only [Bool.and_true, Nat.zero_add, Int.toNat_natCast]; exact cb hi) ?_)
  simp only [Nat.zero_add, Int.toNat_natCast]
  have ha : a + 1 ≤ 100000 := by have := cntS_le (lostB g t w P) i; omega
  have hb : b + 1 ≤ 100000 := by have := cntS_le (restB g t w P) i; omega
  refine condSplit (fun q1 => condSplit (fun q2 => condT' (cap6 ha) ?_) fun q2 => condT' (cap6 hb) (condSplit (fun q3 => condSplit (fun q4 => ?_) fun q4 => condSplit (fun q5 => ?_) fun q5 => ?_) fun q3 => ?_)) fun q1 => condT' (cap6 hb) (condSplit (fun q3 => ?_) fun q3 => ?_)
  · have hl := lost_yes q1 q2
    exact ⟨rfl, rfl, ⟨fun _ _ => rfl, trivial, rfl, rfl, rfl, rfl, rfl, trivial, (fun _ _ => rfl), rfl, rfl, ((isL_app rfl rfl rfl rfl (fun r hr => by show cond _ _ _ = _; rw [decide_eq_true hr]; rfl) (by show cond _ _ _ = _; rw [decide_eq_false (Nat.lt_irrefl _), Nat.sub_self]; rfl) hl e1)).ids, trivial⟩, .inr ⟨rfl, hi, nxSS (x := 11) (y := 8) hw (base_of rfl rfl rfl rfl rfl rfl) (tm_lost hl) (by rw [cntS_yes hl, e1]) (by rw [cntS_no (rest_no hl), e2]) rfl (isL_app rfl rfl rfl rfl (fun r hr => by show cond _ _ _ = _; rw [decide_eq_true hr]; rfl) (by show cond _ _ _ = _; rw [decide_eq_false (Nat.lt_irrefl _), Nat.sub_self]; rfl) hl e1) rfl (isL_keep rfl rfl rfl rfl (fun r => rfl) (rest_no hl)) (by decide)⟩⟩
  · have hl : lostB g t w P i = false := lost_no2 q2
    exact ⟨rfl, rfl, ⟨fun _ _ => rfl, trivial, rfl, rfl, rfl, rfl, rfl, (fun _ _ => rfl), trivial, rfl, rfl, ((isL_app rfl rfl rfl rfl (fun r hr => by show cond _ _ _ = _; rw [decide_eq_true hr]; rfl) (by show cond _ _ _ = _; rw [decide_eq_false (Nat.lt_irrefl _), Nat.sub_self]; rfl) (rest_yes hl) e2)).ids, trivial⟩, .inr ⟨rfl, hi, nxSS (x := 7) (y := 11) hw (base_of rfl rfl rfl rfl rfl rfl) (tm_new hl q1 q4) (by rw [cntS_no hl, e1]) (by rw [cntS_yes (rest_yes hl), e2]) rfl (isL_keep rfl rfl rfl rfl (fun r => rfl) hl) rfl (isL_app rfl rfl rfl rfl (fun r hr => by show cond _ _ _ = _; rw [decide_eq_true hr]; rfl) (by show cond _ _ _ = _; rw [decide_eq_false (Nat.lt_irrefl _), Nat.sub_self]; rfl) (rest_yes hl) e2) (by decide)⟩⟩
  · have hl : lostB g t w P i = false := lost_no2 q2
    exact ⟨rfl, rfl, ⟨fun _ _ => rfl, trivial, rfl, rfl, rfl, rfl, rfl, (fun _ _ => rfl), trivial, rfl, rfl, ((isL_app rfl rfl rfl rfl (fun r hr => by show cond _ _ _ = _; rw [decide_eq_true hr]; rfl) (by show cond _ _ _ = _; rw [decide_eq_false (Nat.lt_irrefl _), Nat.sub_self]; rfl) (rest_yes hl) e2)).ids, trivial⟩, .inr ⟨rfl, hi, nxSS (x := 7) (y := 11) hw (base_of rfl rfl rfl rfl rfl rfl) (tm_less hl q1 q5) (by rw [cntS_no hl, e1]) (by rw [cntS_yes (rest_yes hl), e2]) rfl (isL_keep rfl rfl rfl rfl (fun r => rfl) hl) rfl (isL_app rfl rfl rfl rfl (fun r hr => by show cond _ _ _ = _; rw [decide_eq_true hr]; rfl) (by show cond _ _ _ = _; rw [decide_eq_false (Nat.lt_irrefl _), Nat.sub_self]; rfl) (rest_yes hl) e2) (by decide)⟩⟩
  · have hl : lostB g t w P i = false := lost_no2 q2
    exact ⟨rfl, rfl, ⟨fun _ _ => rfl, trivial, rfl, rfl, rfl, rfl, rfl, (fun _ _ => rfl), trivial, rfl, rfl, ((isL_app rfl rfl rfl rfl (fun r hr => by show cond _ _ _ = _; rw [decide_eq_true hr]; rfl) (by show cond _ _ _ = _; rw [decide_eq_false (Nat.lt_irrefl _), Nat.sub_self]; rfl) (rest_yes hl) e2)).ids, trivial⟩, .inr ⟨rfl, hi, nxSS (x := 7) (y := 11) hw (base_of rfl rfl rfl rfl rfl rfl) (tm_same1 hl q4 q5) (by rw [cntS_no hl, e1]) (by rw [cntS_yes (rest_yes hl), e2]) rfl (isL_keep rfl rfl rfl rfl (fun r => rfl) hl) rfl (isL_app rfl rfl rfl rfl (fun r hr => by show cond _ _ _ = _; rw [decide_eq_true hr]; rfl) (by show cond _ _ _ = _; rw [decide_eq_false (Nat.lt_irrefl _), Nat.sub_self]; rfl) (rest_yes hl) e2) (by decide)⟩⟩
  · rw [q1] at q3; cases q3
  · rw [q1] at q3; cases q3
  · have hl : lostB g t w P i = false := lost_no1 q1
    exact ⟨rfl, rfl, ⟨fun _ _ => rfl, trivial, rfl, rfl, rfl, rfl, rfl, (fun _ _ => rfl), trivial, rfl, rfl, ((isL_app rfl rfl rfl rfl (fun r hr => by show cond _ _ _ = _; rw [decide_eq_true hr]; rfl) (by show cond _ _ _ = _; rw [decide_eq_false (Nat.lt_irrefl _), Nat.sub_self]; rfl) (rest_yes hl) e2)).ids, trivial⟩, .inr ⟨rfl, hi, nxSS (x := 7) (y := 11) hw (base_of rfl rfl rfl rfl rfl rfl) (tm_same2 hl q1) (by rw [cntS_no hl, e1]) (by rw [cntS_yes (rest_yes hl), e2]) rfl (isL_keep rfl rfl rfl rfl (fun r => rfl) hl) rfl (isL_app rfl rfl rfl rfl (fun r hr => by show cond _ _ _ = _; rw [decide_eq_true hr]; rfl) (by show cond _ _ _ = _; rw [decide_eq_false (Nat.lt_irrefl _), Nat.sub_self]; rfl) (rest_yes hl) e2) (by decide)⟩⟩
end
end Go.Proofs.Ytcjfmkkfcbelpaa
