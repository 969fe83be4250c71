/-
  Chapter 12 by the engine: the contracts are kept (2).
-/
import Derived.Test.YthiencdknndagaaV2
namespace Go.Proofs.Ythiencdknndagaa
open Go.RowKit

theorem ok18 : SpecOK Try.prog 18 s18 := by
  intro args h base k hk
  unfold s18 at hk
  split at hk
  · rename_i id row sz len
    split at hk
    · rename_i b hb
      cases hc : Nat.beq row 0 && Nat.beq sz 1 && Nat.beq b.sz 1 && decide (row + len ≤ b.n) && decide (len ≤ 1000000) with
      | false => simp [hc] at hk
      | true =>
        simp only [hc, cond_true] at hk
        simp only [Bool.and_eq_true, decide_eq_true_eq] at hc
        obtain ⟨⟨⟨⟨c1, c2⟩, c3⟩, c4⟩, c5⟩ := hc
        have c1 := Nat.eq_of_beq_eq_true c1
        have c2 := Nat.eq_of_beq_eq_true c2
        have c3 := Nat.eq_of_beq_eq_true c3
        subst c1 c2
        split at hk
        · rename_i l hl
          obtain ⟨l1, l2⟩ := intsOf_ok _ _ _ _ hl
          refine ⟨_, [], [], hk, CSim.reads (cal Try.func18 (by kernel_rfl) (by kernel_rfl)) [.slice 0 0 1 len] (hp18 len fun i => l.getD i 0) [id] rfl ?_ rfl (fun i b1 hb1 => ?_) rfl base⟩
          · refine (canon18 len (fun i => l.getD i 0) c5).mono fun v _ hv => ?_
            rw [hv, areN_all, ← l1, range_getD]
          · cases i with
            | succ i => simp [hp18, hget] at hb1
            | zero =>
              simp [hp18, hget] at hb1
              subst hb1
              refine ⟨rfl, id, b, rfl, hb, ⟨c3.symm, by dsimp only; omega, (fun h => nomatch h), (fun h => nomatch h), fun r hr => ?_⟩⟩
              have := l2 r hr
              rw [Nat.zero_add] at this
              rw [this]
              exact ⟨.inr rfl, trivial⟩
        · cases hk
    · cases hk
  · cases hk
theorem ok24 : SpecOK Try.prog 24 s24 := by
  intro args h base k hk
  unfold s24 at hk
  split at hk
  · rename_i id row sz len
    split at hk
    · rename_i b hb
      cases hc : Nat.beq row 0 && Nat.beq sz 1 && Nat.beq b.sz 1 && decide (row + len ≤ b.n) && decide (len ≤ 1000000) with
      | false => simp [hc] at hk
      | true =>
        simp only [hc, cond_true] at hk
        simp only [Bool.and_eq_true, decide_eq_true_eq] at hc
        obtain ⟨⟨⟨⟨c1, c2⟩, c3⟩, c4⟩, c5⟩ := hc
        have c1 := Nat.eq_of_beq_eq_true c1
        have c2 := Nat.eq_of_beq_eq_true c2
        have c3 := Nat.eq_of_beq_eq_true c3
        subst c1 c2
        split at hk
        · rename_i l hl
          obtain ⟨l1, l2⟩ := boolsOf_ok _ _ _ _ hl
          refine ⟨_, [], [], hk, CSim.reads (cal Try.func24 (by kernel_rfl) (by kernel_rfl)) [.slice 0 0 1 len] (hp24 len fun i => l.getD i false) [id] rfl ?_ rfl (fun i b1 hb1 => ?_) rfl base⟩
          · refine (canon24 len (fun i => l.getD i false) c5).mono fun v _ hv => ?_
            rw [hv, anyB_any, ← l1, range_getD]
          · cases i with
            | succ i => simp [hp24, hget] at hb1
            | zero =>
              simp [hp24, hget] at hb1
              subst hb1
              refine ⟨rfl, id, b, rfl, hb, ⟨c3.symm, by dsimp only; omega, (fun h => nomatch h), (fun h => nomatch h), fun r hr => ?_⟩⟩
              have := l2 r hr
              rw [Nat.zero_add] at this
              rw [this]
              exact ⟨.inr rfl, trivial⟩
        · cases hk
    · cases hk
  · cases hk
theorem gs1 : GSound C1 := (((g0.add ok16).add ok18).add ok24).add ok21
theorem ok22 : SpecOK Try.prog 22 s22 := by
  intro args h base k hk
  unfold s22 at hk
  split at hk
  · rename_i a b c
    refine ⟨_, [], [], hk, plainOK gs1 Try.func22 (by kernel_rfl) (by kernel_rfl) ?_ rfl rfl h base⟩
    show evalF C1 64 Try.f22 _ [] _
    rw [t22 a b c (fun v => v = _)]
    cases isN a <;> cases isN b <;> simp
  · cases hk
theorem ok13 : SpecOK Try.prog 13 s13 := by
  intro args h base k hk
  unfold s13 at hk
  split at hk
  · rename_i s a b c f
    refine ⟨_, [], [], hk, plainOK gs1 Try.func13 (by kernel_rfl) (by kernel_rfl) ?_ rfl rfl h base⟩
    show evalF C1 64 Try.f13 [cntS s a b c f] [] _
    rw [t13 s a b c f (fun v => v = _)]
    simp only [areN, chkE, okC]
    rcases Bool.eq_false_or_eq_true (isN s) with h1 | h1 <;> rcases Bool.eq_false_or_eq_true (isN a) with h2 | h2 <;> rcases Bool.eq_false_or_eq_true (isN b) with h3 | h3 <;> rcases Bool.eq_false_or_eq_true (isN c) with h4 | h4 <;> simp [h1, h2, h3, h4]
  · cases hk
theorem ok14 : SpecOK Try.prog 14 s13 := by
  intro args h base k hk
  unfold s13 at hk
  split at hk
  · rename_i s a b c f
    refine ⟨_, [], [], hk, plainOK (gs1.add ok22) Try.func14 (by kernel_rfl) (by kernel_rfl) ?_ rfl rfl h base⟩
    show evalF C1a 64 Try.f14 [cntS s a b c f] [] _
    rw [t14 s a b c f (fun v => v = _)]
    simp only [chkE, okC]
    rcases Bool.eq_false_or_eq_true (isN s) with h1 | h1 <;> rcases Bool.eq_false_or_eq_true (isN a) with h2 | h2 <;> rcases Bool.eq_false_or_eq_true (isN b) with h3 | h3 <;> rcases Bool.eq_false_or_eq_true (isN c) with h4 | h4 <;> simp [h1, h2, h3, h4]
  · cases hk
theorem ok10 : SpecOK Try.prog 10 s10 := by
  intro args h base k hk
  unfold s10 at hk
  split at hk
  · rename_i s a b c f
    refine ⟨_, [], [], hk, plainOK g0 Try.func10 (by kernel_rfl) (by kernel_rfl) ?_ rfl rfl h base⟩
    show evalF C0 64 Try.f10 [cntS s a b c f] [] _
    rw [t10 s a b c f (fun v => v = _)]
  · cases hk
theorem ok19 : SpecOK Try.prog 19 s19 := by
  intro args h base k hk
  unfold s19 at hk
  split at hk
  · rename_i a b c
    refine ⟨_, [], [], hk, plainOK g0 Try.func19 (by kernel_rfl) (by kernel_rfl) ?_ rfl rfl h base⟩
    show evalF C0 64 Try.f19 _ [] _
    rw [t19 a b c (fun v => v = _)]
  · cases hk
theorem ok17 : SpecOK Try.prog 17 s17 := by
  intro args h base k hk
  unfold s17 at hk
  split at hk
  · rename_i a b c
    refine ⟨_, [], [], hk, plainOK g0 Try.func17 (by kernel_rfl) (by kernel_rfl) ?_ rfl rfl h base⟩
    show evalF C0 64 Try.f17 _ [] _
    rw [t17 a b c (fun v => v = _)]
  · cases hk
theorem gs2 : GSound C2 := (((((gs1.add ok22).add ok13).add ok14).add ok10).add ok19).add ok17
theorem ok20 : SpecOK Try.prog 20 s20 := by
  intro args h base k hk
  unfold s20 at hk
  split at hk
  · rename_i s a b c f x y z newly
    refine ⟨_, [], [], hk, plainOK gs2 Try.func20 (by kernel_rfl) (by kernel_rfl) ?_ rfl rfl h base⟩
    show evalF C2 64 Try.f20 [cntS s a b c f, _, _] [] _
    rw [t20 s a b c f x y z newly (fun v => v = _)]
    rfl
  · cases hk
theorem ok8 : SpecOK Try.prog 8 s8 := by
  intro args h base k hk
  unfold s8 at hk
  split at hk
  · rename_i s a b c f
    refine ⟨_, [], [], hk, plainOK gs2 Try.func8 (by kernel_rfl) (by kernel_rfl) ?_ rfl rfl h base⟩
    show evalF C2 64 Try.f8 [cntS s a b c f] [] _
    rw [t8 s a b c f (fun v => v = _)]
    rcases Bool.eq_false_or_eq_true (okC s a b c) with h1 | h1
    · have hr := okC_range h1
      by_cases h2 : s = 9007199254740991
      · subst h2; simp [chkE, mE, h1, cntE, zi, zb]
      · have h3 : IntKind.i64.wrap (s + 1) = s + 1 := wrap_id (by omega) (by omega)
        simp [chkE, mE, h1, h2, cntE, zi, zb, h3]
    · simp [chkE, mE, h1, cntE, zi, zb]
  · cases hk
theorem ok9 : SpecOK Try.prog 9 s8 := by
  intro args h base k hk
  unfold s8 at hk
  split at hk
  · rename_i s a b c f
    refine ⟨_, [], [], hk, plainOK gs2 Try.func9 (by kernel_rfl) (by kernel_rfl) ?_ rfl rfl h base⟩
    show evalF C2 64 Try.f9 [cntS s a b c f] [] _
    rw [t9 s a b c f (fun v => v = _)]
    rcases Bool.eq_false_or_eq_true (okC s a b c) with h1 | h1
    · have hr := okC_range h1
      by_cases h2 : s = 9007199254740991
      · subst h2; simp [chkE, mE, h1, cntE, zi, zb]
      · have h3 : IntKind.i64.wrap (s + 1) = s + 1 := wrap_id (by omega) (by omega)
        simp [chkE, mE, h1, h2, cntE, zi, zb, h3]
    · simp [chkE, mE, h1, cntE, zi, zb]
  · cases hk

theorem failR_or (m : Bool) (s a b c x y z newly : Int) (K : SV → Prop) :
    (bif !m then K (SV.bool (decide ((0 : Int) < newly)))
    else
      bif decide (x < a) then K (SV.bool true)
      else
        bif decide (y < b) then K (SV.bool true)
        else
          bif decide (z < c) then K (SV.bool true)
          else
            bif decide (b < y) then K (SV.bool true)
            else
              bif decide (s < IntKind.i64.wrap (x + z)) then K (SV.bool true)
              else K (SV.bool (decide (IntKind.i64.wrap (IntKind.i64.wrap (IntKind.i64.wrap (x + z) - a) - c) < newly)))) = K (SV.bool (failR m s a b c x y z newly)) := by
  unfold failR
  cases m
  · rfl
  · simp only [Bool.not_true, cond_false]
    cases decide (x < a) <;> cases decide (y < b) <;> cases decide (z < c) <;> cases decide (b < y) <;> cases decide (s < IntKind.i64.wrap (x + z)) <;> simp
theorem ok23 : SpecOK Try.prog 23 s23 := by
  intro args h base k hk
  unfold s23 at hk
  split at hk
  · rename_i s a b c f d q m x y z newly
    cases hq : okSl q with
    | false => simp [hq] at hk
    | true =>
      simp only [hq, cond_true] at hk
      cases q <;> simp [okSl] at hq
      case nilSlice =>
        refine ⟨_, [], [], hk, plainOK gs2 Try.func23 (by kernel_rfl) (by kernel_rfl) ?_ rfl rfl h base⟩
        show evalF C2 64 Try.f23 [cntS s a b c f, _, _] [] _
        rw [t23n s a b c f d m x y z newly (fun v => v = _)]
        rw [failR_or m s a b c x y z newly (fun v => v = _)]
      case raw q =>
        refine ⟨_, [], [], hk, plainOK gs2 Try.func23 (by kernel_rfl) (by kernel_rfl) ?_ rfl rfl h base⟩
        show evalF C2 64 Try.f23 [cntS s a b c f, _, _] [] _
        rw [t23 s a b c f d q m x y z newly (fun v => v = _)]
        rw [failR_or m s a b c x y z newly (fun v => v = _)]
  · cases hk
theorem gs3 : GSound C3 := (((gs2.add ok20).add ok23).add ok8).add ok9
end Go.Proofs.Ythiencdknndagaa
