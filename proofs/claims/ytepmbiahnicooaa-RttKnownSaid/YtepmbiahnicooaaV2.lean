/-
  Chapter 7 by the engine: the contracts are kept (2).
-/
import Derived.Test.YtepmbiahnicooaaV1
import Derived.Test.YtepmbiahnicooaaT2
namespace Go.Proofs.Ytepmbiahnicooaa
open Go.RowKit

theorem ok21 : SpecOK Try.prog 21 s21 := by
  intro args h base k hk
  unfold s21 at hk
  split at hk
  · rename_i l m s v f
    refine ⟨_, [], [], hk, plainOK gs1 Try.func21 (by kernel_rfl) (by kernel_rfl) ?_ rfl rfl h base⟩
    show evalF C1 64 Try.f21 _ [] _
    rw [t21 l m s v f (fun v => v = _)]
    by_cases hf : f = -1
    · subst hf
      simp only [beq_self_eq_true, cond_true]
      by_cases hn : newOk s = true
      · have h2 : newE s = 0 := by rw [newE, if_pos hn]
        simp only [newOk, Bool.and_eq_true, decide_eq_true_eq] at hn
        simp only [h2, zi, if_true, bne_self_eq_false, cond_false, beq_self_eq_true, Bool.true_and, Bool.and_true]
        by_cases hl : l = 0
        · by_cases hm : m = 0
          · by_cases hv : v = s / 2
            · subst hl hm hv; simp [chkE, okR, hn]
            · have h3 : ¬ (s / 2 = v) := fun e => hv e.symm
              subst hl hm; simp [chkE, okR, hv, h3]
          · have h3 : ¬ (0 = m) := fun e => hm e.symm
            subst hl; simp [chkE, okR, hm, h3]
        · have h3 : ¬ (0 = l) := fun e => hl e.symm
          simp [chkE, okR, hl, h3]
      · have h2 : newE s = 9 := by rw [newE, if_neg hn]
        have h3 : okR l m s v (-1) = false := by
          simp only [newOk, Bool.and_eq_true, decide_eq_true_eq] at hn
          simp only [okR, if_true, decide_eq_false_iff_not]; omega
        simp [h2, chkE, h3]
    · rw [show (f == -1) = false by simpa using hf, cond_false]
      have h2 : okR l m s v f = (isT f && isT l && isT m && isT s && isT v && decide (m ≤ l ∧ m ≤ s)) := by rw [okR, if_neg hf]
      have h3 : decide ((if s < l then s else l) < m) = !decide (m ≤ l ∧ m ≤ s) := by
        rw [← decide_not, decide_eq_decide]; split <;> omega
      rw [h3, chkE, h2]
      cases isT f <;> cases isT l <;> cases isT m <;> cases isT s <;> cases isT v <;> cases decide (m ≤ l ∧ m ≤ s) <;> rfl
  · cases hk
theorem ok22 : SpecOK Try.prog 22 s21 := by
  intro args h base k hk
  unfold s21 at hk
  split at hk
  · rename_i l m s v f
    refine ⟨_, [], [], hk, plainOK gs1 Try.func22 (by kernel_rfl) (by kernel_rfl) ?_ rfl rfl h base⟩
    show evalF C1 64 Try.f22 _ [] _
    rw [t22 l m s v f (fun v => v = _)]
    by_cases hf : f = -1
    · subst hf
      simp only [beq_self_eq_true, cond_true]
      by_cases hl : l = 0
      · by_cases hm : m = 0
        · by_cases h1 : s < 1000000
          · subst hl hm; simp [chkE, okR, h1, show ¬ (1000000 ≤ s) by omega]
          · by_cases h2 : 60000000000 < s
            · subst hl hm; simp [chkE, okR, h1, h2, show ¬ (s ≤ 60000000000) by omega]
            · rw [tdv (by omega) (by omega) (by omega)]
              by_cases hv : v = s / 2
              · subst hl hm hv; simp [chkE, okR, h1, h2, show 1000000 ≤ s by omega, show s ≤ 60000000000 by omega]
              · subst hl hm; simp [chkE, okR, h1, h2, hv]
        · subst hl; simp [chkE, okR, hm]
      · simp [chkE, okR, hl]
    · rw [show (f == -1) = false by simpa using hf, cond_false]
      have h2 : okR l m s v f = (isT f && isT l && isT m && isT s && isT v && decide (m ≤ l ∧ m ≤ s)) := by rw [okR, if_neg hf]
      have h3 : decide (m ≤ l ∧ m ≤ s) = (!decide (l < m) && !decide (s < m)) := by
        rw [← decide_not, ← decide_not, ← Bool.decide_and, decide_eq_decide]; omega
      rw [chkE, h2, h3]
      cases isT f <;> cases isT l <;> cases isT m <;> cases isT s <;> cases isT v <;> cases decide (l < m) <;> cases decide (s < m) <;> rfl
  · cases hk
theorem gs2 : GSound C2 := (gs1.add ok21).add ok22
theorem great_tree (l m s v f : Int) (K : SV → Prop) (k : K (.int .i64 (greatV l m s v f))) : (bif chkE l m s v f != (0 : Int) then K (SV.int IntKind.i64 (0 : Int)) else K (SV.int IntKind.i64 (if l > s then l else s))) := by
  unfold greatV at k
  cases h : okR l m s v f
  · rw [chkE, h]; simpa [h] using k
  · rw [chkE, h]; simpa [h] using k
theorem ok23 : SpecOK Try.prog 23 s23 := by
  intro args h base k hk
  unfold s23 at hk
  split at hk
  · rename_i l m s v f
    refine ⟨_, [], [], hk, plainOK gs2 Try.func23 (by kernel_rfl) (by kernel_rfl) ?_ rfl rfl h base⟩
    show evalF C2 64 Try.f23 _ [] _
    rw [t23 l m s v f (fun v => v = _)]
    exact great_tree l m s v f (fun v => v = _) rfl
  · cases hk
theorem ok24 : SpecOK Try.prog 24 s23 := by
  intro args h base k hk
  unfold s23 at hk
  split at hk
  · rename_i l m s v f
    refine ⟨_, [], [], hk, plainOK gs2 Try.func24 (by kernel_rfl) (by kernel_rfl) ?_ rfl rfl h base⟩
    show evalF C2 64 Try.f24 _ [] _
    rw [t24 l m s v f (fun v => v = _)]
    exact great_tree l m s v f (fun v => v = _) rfl
  · cases hk
theorem ok12 : SpecOK Try.prog 12 s11 := by
  intro args h base k hk
  unfold s11 at hk
  split at hk
  · rename_i d m b
    refine ⟨_, [], [], hk, plainOK gs1 Try.func12 (by kernel_rfl) (by kernel_rfl) ?_ rfl rfl h base⟩
    show evalF C1 64 Try.f12 _ [] _
    rw [t12 d m b (fun v => v = _)]
    cases b <;> rfl
  · cases hk
theorem ok16 : SpecOK Try.prog 16 s16 := by
  intro args h base k hk
  unfold s16 at hk
  split at hk
  · rename_i l m s v f x d n
    refine ⟨_, [], [], hk, plainOK gs2 Try.func16 (by kernel_rfl) (by kernel_rfl) ?_ rfl rfl h base⟩
    show evalF C2 64 Try.f16 _ [] _
    rw [t16 l m s v f x d n (fun v => v = _)]
    cases h : okR l m s v f with
    | false => simp [chkE, smp, smE, h, zi, rtt]
    | true =>
      have r := okR_range h
      cases hx : isT x with
      | false => simp [chkE, smp, smE, h, zi, rtt, hx]
      | true =>
        cases hd : isT d with
        | false => simp [chkE, smp, smE, h, zi, rtt, hx, hd]
        | true =>
          cases hn : isT n with
          | false => simp [chkE, smp, smE, h, zi, rtt, hx, hd, hn]
          | true =>
            have tx := isT_iff.1 hx
            have td := isT_iff.1 hd
            by_cases hf : f = -1
            · subst hf
              have hT : Tm x := ⟨tx.1, tx.2⟩
              simp [chkE, smp, smE, h, zi, rtt, hx, hd, hn, smM, smS, smV, smF, hT]
            · have hT : Times m s v x d := ⟨⟨by omega, by omega⟩, ⟨by omega, by omega⟩, ⟨by omega, by omega⟩, ⟨tx.1, tx.2⟩, ⟨td.1, td.2⟩⟩
              simp [chkE, smp, smE, h, zi, rtt, hx, hd, hn, smM, smS, smV, smF, hT, hf]
  · cases hk
theorem max_abs (a b : Int) : (if b - a > a - b then b - a else a - b) = absI (a - b) := by
  unfold absI; split <;> split <;> omega
theorem ok17 : SpecOK Try.prog 17 s16 := by
  intro args h base k hk
  unfold s16 at hk
  split at hk
  · rename_i l m s v f x d n
    refine ⟨_, [], [], hk, plainOK gs2 Try.func17 (by kernel_rfl) (by kernel_rfl) ?_ rfl rfl h base⟩
    show evalF C2 64 Try.f17 _ [] _
    rw [t17 l m s v f x d n (fun v => v = _)]
    cases h : okR l m s v f with
    | false => simp [chkE, smp, smE, h, zi, rtt]
    | true =>
      have r := okR_range h
      cases hx : isT x with
      | false => simp [chkE, smp, smE, h, zi, rtt, hx]
      | true =>
        cases hd : isT d with
        | false => simp [chkE, smp, smE, h, zi, rtt, hx, hd]
        | true =>
          cases hn : isT n with
          | false => simp [chkE, smp, smE, h, zi, rtt, hx, hd, hn]
          | true =>
            have tx := isT_iff.1 hx
            have td := isT_iff.1 hd
            by_cases hf : f = -1
            · subst hf
              rw [tdv (a := x) (by omega) (by omega) (by omega)]
              simp [chkE, smp, smE, h, zi, rtt, hx, hd, hn, smM, smS, smV, smF]
            · have hmn : 0 ≤ mnI m x ∧ mnI m x ≤ 9007199254740991 := by unfold mnI; split <;> omega
              simp only [show (if x < m then x else m) = mnI m x from rfl]
              rw [wrap_id (n := mnI m x + d) (by omega) (by omega), wrap_id (n := x - d) (by omega) (by omega), wrap_id (n := x - d - s) (by omega) (by omega), wrap_id (n := s - (x - d)) (by omega) (by omega), wrap_id (n := x - s) (by omega) (by omega),
                wrap_id (n := s - x) (by omega) (by omega), max_abs, max_abs, wrap_id (n := 7 * s) (by omega) (by omega), wrap_id (n := 3 * v) (by omega) (by omega)]
              have a1 := absI_range (a := s - (x - d)) (n := 18014398509481982) (by omega)
              have a2 := absI_range (a := s - x) (n := 18014398509481982) (by omega)
              by_cases h1 : mnI m x ≤ x - d
              · have hc : cnt m x d = x - d := by rw [cnt, if_pos h1]
                rw [wrap_id (n := 7 * s + (x - d)) (by omega) (by omega), wrap_id (n := 3 * v + absI (s - (x - d))) (by omega) (by omega), tdv (a := 7 * s + (x - d)) (by omega) (by omega) (by omega), tdv (a := 3 * v + absI (s - (x - d))) (by omega) (by omega) (by omega)]
                simp [chkE, smp, smE, h, zi, rtt, hx, hd, hn, smM, smS, smV, smF, hf, hc, show mnI m x + d ≤ x by omega]
              · have hc : cnt m x d = x := by rw [cnt, if_neg h1]
                rw [wrap_id (n := 7 * s + x) (by omega) (by omega), wrap_id (n := 3 * v + absI (s - x)) (by omega) (by omega), tdv (a := 7 * s + x) (by omega) (by omega) (by omega), tdv (a := 3 * v + absI (s - x)) (by omega) (by omega) (by omega)]
                simp [chkE, smp, smE, h, zi, rtt, hx, hd, hn, smM, smS, smV, smF, hf, hc, show ¬ (mnI m x + d ≤ x) by omega]
  · cases hk
theorem gs3 : GSound C3 := ((((gs2.add ok23).add ok24).add ok16).add ok17).add ok12
theorem ok13 : SpecOK Try.prog 13 s13 := by
  intro args h base k hk
  unfold s13 at hk
  split at hk
  · refine ⟨_, [], [], hk, plainOK gs3 Try.func13 (by kernel_rfl) (by kernel_rfl) ?_ rfl rfl h base⟩
    show evalF C3 64 Try.f13 _ [] _
    rw [t13 (fun v => v = _)]
  · cases hk
theorem gs4 : GSound C4 := gs3.add ok13
end Go.Proofs.Ytepmbiahnicooaa
