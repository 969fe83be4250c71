/-
  Chapter 9 by the engine: measures: the contracts are kept.
-/
import Derived.Test.YtcjfmkkfcbelpaaT1
namespace Go.Proofs.Ytcjfmkkfcbelpaa
open Go.RowKit
theorem ec {Γ : Gam} : EqOK ⟨Try.prog, Γ, fun t => memN t eqs⟩ := EqOK.of_list eqs_ok
theorem cal {f : FuncId} {fn : Func} (hf : Try.prog.funcs[f]? = some fn) (hn : (fn.name == "runtime.NumGoroutine") = false) (hb : fn.body.isSome = true) : ∀ vs w, (callFunc f vs).run Try.prog w = .ok (.enter f vs) w := fun vs w => callable hf hn hb vs w
theorem plainOK {Γ : Gam} (hΓ : GSound ⟨Try.prog, Γ, fun t => memN t eqs⟩) {f : FuncId} {fn : Func} (hf : Try.prog.funcs[f]? = some fn) (hn : (fn.name == "runtime.NumGoroutine") = false) (hb : fn.body.isSome = true) {args : List SV} {v : SV}
    (he : evalF ⟨Try.prog, Γ, fun t => memN t eqs⟩ 64 fn args [] fun v' _ => v' = v) (ha : svIdsL args = []) (hv : svIds v = []) (h : Heap) (base : Nat) : CSim Try.prog f args h base v [] [] :=
  CSim.plain (cal hf hn hb) (evalF_ok (C := ⟨Try.prog, Γ, fun t => memN t eqs⟩) ec hΓ mixed hf hb he) (renL_id_of ha _) (ren_id_of hv _) h base
theorem g0 : GSound C0 := GSound.none
theorem tmod_emod (i n : Int) (h : 0 < n) : (if i.tmod n < 0 then i.tmod n + n else i.tmod n) = i % n := by
  have h1 := Int.emod_nonneg i (show n ≠ 0 by omega)
  have h2 := Int.emod_lt_of_pos i h
  rw [Int.tmod_eq_emod]
  split <;> split <;> omega
theorem wrap_id {n : Int} (h : -9223372036854775808 ≤ n) (h' : n ≤ 9223372036854775807) : IntKind.i64.wrap n = n := by
  simp only [IntKind.wrap, IntKind.bits, IntKind.signed]
  simp
  omega
theorem tdv {a k : Int} (h0 : 0 ≤ a) (h1 : a ≤ 9223372036854775807) (hk : 0 < k) : IntKind.i64.wrap (a.tdiv k) = a / k := by
  have h2 := Int.ediv_nonneg h0 (Int.le_of_lt hk)
  have h3 := Int.ediv_le_self k h0
  rw [Int.tdiv_eq_ediv_of_nonneg h0, wrap_id (by omega) (by omega)]
theorem cb {c : Prop} [Decidable c] (h : c) : decide c = true := by simp [h]
theorem cf {c : Prop} [Decidable c] (h : ¬ c) : decide c = false := by simp [h]

theorem ok25 : SpecOK Try.prog 25 s25 := by
  intro args h base k hk
  unfold s25 at hk
  split at hk
  · rename_i n
    refine ⟨_, [], [], hk, plainOK g0 Try.func25 (by kernel_rfl) (by kernel_rfl) ?_ rfl rfl h base⟩
    show evalF C0 64 Try.f25 _ [] _
    rw [t25 n (fun v => v = _)]
    simp only [isT]
    cases decide (0 ≤ n) <;> simp
  · cases hk
theorem ok28 : SpecOK Try.prog 28 s25 := by
  intro args h base k hk
  unfold s25 at hk
  split at hk
  · rename_i n
    refine ⟨_, [], [], hk, plainOK g0 Try.func28 (by kernel_rfl) (by kernel_rfl) ?_ rfl rfl h base⟩
    show evalF C0 64 Try.f28 _ [] _
    rw [t28 n (fun v => v = _)]
    simp only [isT]
    cases decide (0 ≤ n) <;> simp
  · cases hk
theorem ok41 : SpecOK Try.prog 41 s25 := by
  intro args h base k hk
  unfold s25 at hk
  split at hk
  · rename_i n
    refine ⟨_, [], [], hk, plainOK g0 Try.func41 (by kernel_rfl) (by kernel_rfl) ?_ rfl rfl h base⟩
    show evalF C0 64 Try.f41 _ [] _
    rw [t41 n (fun v => v = _)]
    simp only [isT]
    cases decide (0 ≤ n) <;> simp
  · cases hk
theorem new_tree (n : Int) (K : SV → Prop) (k : K (.tuple [rtt 0 0 (zi (newE n) n) (zi (newE n) (n / 2)) (zi (newE n) (-1)), .int .i64 (newE n)])) :
    (bif decide (n < (1000000 : Int)) then K (.tuple [rtt 0 0 0 0 0, .int .i64 9]) else bif decide ((60000000000 : Int) < n) then K (.tuple [rtt 0 0 0 0 0, .int .i64 9])
      else K (.tuple [rtt 0 0 n (IntKind.i64.wrap (n.tdiv 2)) (-1), .int .i64 0])) := by
  by_cases h1 : n < 1000000
  · rw [cb h1, cond_true]
    simpa [newE, newOk, zi, show ¬ (1000000 ≤ n) by omega] using k
  · by_cases h2 : 60000000000 < n
    · rw [cf h1, cb h2, cond_true, cond_false]
      simpa [newE, newOk, zi, show ¬ (n ≤ 60000000000) by omega] using k
    · rw [cf h1, cf h2, cond_false, cond_false, tdv (by omega) (by omega) (by omega)]
      simpa [newE, newOk, zi, show 1000000 ≤ n by omega, show n ≤ 60000000000 by omega] using k
theorem ok35 : SpecOK Try.prog 35 s35 := by
  intro args h base k hk
  unfold s35 at hk
  split at hk
  · rename_i n
    refine ⟨_, [], [], hk, plainOK g0 Try.func35 (by kernel_rfl) (by kernel_rfl) ?_ rfl rfl h base⟩
    show evalF C0 64 Try.f35 _ [] _
    rw [t35 n (fun v => v = _)]
    exact new_tree n (fun v => v = _) rfl
  · cases hk
theorem isT_tree (n : Int) (P Q : Prop) : (bif decide (n < (0 : Int)) then P else bif decide ((9007199254740991 : Int) < n) then P else Q) = (bif isT n then Q else P) := by
  by_cases h1 : n < 0
  · rw [cb h1, cond_true, isT, cf (show ¬ (0 ≤ n) by omega)]; rfl
  · by_cases h2 : 9007199254740991 < n
    · rw [cf h1, cb h2, isT, cf (show ¬ (n ≤ 9007199254740991) by omega), Bool.and_false]; rfl
    · rw [cf h1, cf h2, isT_true (by omega) (by omega)]; rfl
theorem ok36 : SpecOK Try.prog 36 s36 := by
  intro args h base k hk
  unfold s36 at hk
  split at hk
  · rename_i id
    split at hk
    · rename_i b hb
      split at hk
      · rename_i x0 x1 x2 x3 x4 e1 e2 r0 r1 r2 r3 r4
        refine ⟨_, [], [], hk, CSim.reads (cal Try.func36 (by kernel_rfl) (by kernel_rfl)) [.slice 0 0 1 5] [some (bI [x0, x1, x2, x3, x4])] [id] rfl
          (evalF_ok (C := C0) ec g0 mixed (u := 64) Try.func36 (by kernel_rfl) ?_) rfl (fun i b1 hb1 => ?_) rfl base⟩
        · rw [t36 x0 x1 x2 x3 x4 (fun v => v = _)]
          simp only [List.getD_cons_zero, List.getD_cons_succ, isT_tree]
          cases isT x0 <;> cases isT x1 <;> cases isT x2 <;> cases isT x3 <;> cases isT x4 <;> rfl
        · match i, hb1 with
          | 0, hb1 =>
            obtain rfl : bI [x0, x1, x2, x3, x4] = b1 := by simpa [hget] using hb1
            refine ⟨rfl, id, b, rfl, hb, ⟨e1.symm, by rw [e2]; exact Nat.le_refl _, fun h => (nomatch h), fun h => (nomatch h), fun r hr => ?_⟩⟩
            have hr : r < 5 := hr
            match r, hr with
            | 0, _ => rw [r0]; exact ⟨.inr rfl, trivial⟩
            | 1, _ => rw [r1]; exact ⟨.inr rfl, trivial⟩
            | 2, _ => rw [r2]; exact ⟨.inr rfl, trivial⟩
            | 3, _ => rw [r3]; exact ⟨.inr rfl, trivial⟩
            | 4, _ => rw [r4]; exact ⟨.inr rfl, trivial⟩
          | i + 1, hb1 => simp [hget] at hb1
      · cases hk
    · cases hk
  · cases hk
theorem gs1 : GSound C1 := ((((GSound.none.add ok25).add ok28).add ok41).add ok35).add ok36
theorem ok26 : SpecOK Try.prog 26 s26 := by
  intro args h base k hk
  unfold s26 at hk
  split at hk
  · rename_i l m s v f
    refine ⟨_, [], [], hk, plainOK gs1 Try.func26 (by kernel_rfl) (by kernel_rfl) ?_ rfl rfl h base⟩
    show evalF C1 64 Try.f26 _ [] _
    rw [t26 l m s v f (fun v => v = _)]
    by_cases hf : f = -1
    · subst hf
      simp only [beq_self_eq_true, cond_true]
      by_cases hn : newOk s = true
      · have h2 : newE s = 0 := by rw [newE, if_pos hn]
        simp only [newOk, Bool.and_eq_true, decide_eq_true_eq] at hn
        simp only [h2, zi, if_true, bne_self_eq_false, cond_false, beq_self_eq_true, Bool.true_and, Bool.and_true]
        by_cases hl : l = 0
        · by_cases hm : m = 0
          · by_cases hv : v = s / 2
            · subst hl hm hv; simp [chkE, okR, hn]
            · have h3 : ¬ (s / 2 = v) := fun e => hv e.symm
              subst hl hm; simp [chkE, okR, hv, h3]
          · have h3 : ¬ (0 = m) := fun e => hm e.symm
            subst hl; simp [chkE, okR, hm, h3]
        · have h3 : ¬ (0 = l) := fun e => hl e.symm
          simp [chkE, okR, hl, h3]
      · have h2 : newE s = 9 := by rw [newE, if_neg hn]
        have h3 : okR l m s v (-1) = false := by
          simp only [newOk, Bool.and_eq_true, decide_eq_true_eq] at hn
          simp only [okR, if_true, decide_eq_false_iff_not]; omega
        simp [h2, chkE, h3]
    · rw [show (f == -1) = false by simpa using hf, cond_false]
      have h2 : okR l m s v f = (isT f && isT l && isT m && isT s && isT v && decide (m ≤ l ∧ m ≤ s)) := by rw [okR, if_neg hf]
      have h3 : decide ((if s < l then s else l) < m) = !decide (m ≤ l ∧ m ≤ s) := by
        rw [← decide_not, decide_eq_decide]; split <;> omega
      rw [h3, chkE, h2]
      cases isT f <;> cases isT l <;> cases isT m <;> cases isT s <;> cases isT v <;> cases decide (m ≤ l ∧ m ≤ s) <;> rfl
  · cases hk
theorem ok29 : SpecOK Try.prog 29 s26 := by
  intro args h base k hk
  unfold s26 at hk
  split at hk
  · rename_i l m s v f
    refine ⟨_, [], [], hk, plainOK gs1 Try.func29 (by kernel_rfl) (by kernel_rfl) ?_ rfl rfl h base⟩
    show evalF C1 64 Try.f29 _ [] _
    rw [t29 l m s v f (fun v => v = _)]
    by_cases hf : f = -1
    · subst hf
      simp only [beq_self_eq_true, cond_true]
      by_cases hl : l = 0
      · by_cases hm : m = 0
        · by_cases h1 : s < 1000000
          · subst hl hm; simp [chkE, okR, h1, show ¬ (1000000 ≤ s) by omega]
          · by_cases h2 : 60000000000 < s
            · subst hl hm; simp [chkE, okR, h1, h2, show ¬ (s ≤ 60000000000) by omega]
            · rw [tdv (by omega) (by omega) (by omega)]
              by_cases hv : v = s / 2
              · subst hl hm hv; simp [chkE, okR, h1, h2, show 1000000 ≤ s by omega, show s ≤ 60000000000 by omega]
              · subst hl hm; simp [chkE, okR, h1, h2, hv]
        · subst hl; simp [chkE, okR, hm]
      · simp [chkE, okR, hl]
    · rw [show (f == -1) = false by simpa using hf, cond_false]
      have h2 : okR l m s v f = (isT f && isT l && isT m && isT s && isT v && decide (m ≤ l ∧ m ≤ s)) := by rw [okR, if_neg hf]
      have h3 : decide (m ≤ l ∧ m ≤ s) = (!decide (l < m) && !decide (s < m)) := by
        rw [← decide_not, ← decide_not, ← Bool.decide_and, decide_eq_decide]; omega
      rw [chkE, h2, h3]
      cases isT f <;> cases isT l <;> cases isT m <;> cases isT s <;> cases isT v <;> cases decide (l < m) <;> cases decide (s < m) <;> rfl
  · cases hk
theorem gs2 : GSound C2 := (gs1.add ok26).add ok29
theorem great_tree (l m s v f : Int) (K : SV → Prop) (k : K (.int .i64 (greatV l m s v f))) : (bif chkE l m s v f != (0 : Int) then K (SV.int IntKind.i64 (0 : Int)) else K (SV.int IntKind.i64 (if l > s then l else s))) := by
  unfold greatV at k
  cases h : okR l m s v f
  · rw [chkE, h]; simpa [h] using k
  · rw [chkE, h]; simpa [h] using k
theorem ok33 : SpecOK Try.prog 33 s33 := by
  intro args h base k hk
  unfold s33 at hk
  split at hk
  · rename_i l m s v f
    refine ⟨_, [], [], hk, plainOK gs2 Try.func33 (by kernel_rfl) (by kernel_rfl) ?_ rfl rfl h base⟩
    show evalF C2 64 Try.f33 _ [] _
    rw [t33 l m s v f (fun v => v = _)]
    exact great_tree l m s v f (fun v => v = _) rfl
  · cases hk
theorem ok34 : SpecOK Try.prog 34 s33 := by
  intro args h base k hk
  unfold s33 at hk
  split at hk
  · rename_i l m s v f
    refine ⟨_, [], [], hk, plainOK gs2 Try.func34 (by kernel_rfl) (by kernel_rfl) ?_ rfl rfl h base⟩
    show evalF C2 64 Try.f34 _ [] _
    rw [t34 l m s v f (fun v => v = _)]
    exact great_tree l m s v f (fun v => v = _) rfl
  · cases hk
theorem gs3 : GSound C3 := (gs2.add ok33).add ok34
theorem ok21 : SpecOK Try.prog 21 s21 := by
  intro args h base k hk
  unfold s21 at hk
  split at hk
  · rename_i i n
    cases hc : decide (0 < n) && decide (n ≤ 9223372036854775807) with
    | false => simp [hc] at hk
    | true =>
      simp only [hc, cond_true] at hk
      simp only [Bool.and_eq_true, decide_eq_true_eq] at hc
      refine ⟨_, [], [], hk, plainOK g0 Try.func21 (by kernel_rfl) (by kernel_rfl) ?_ rfl rfl h base⟩
      show evalF C0 64 Try.f21 _ [] _
      rw [t21 i n (fun v => v = _)]
      have hz : (n == 0) = false := by rw [beq_eq_false_iff_ne]; omega
      have hb := tmod_emod i n hc.1
      have h1 := Int.emod_nonneg i (show n ≠ 0 by omega)
      have h2 := Int.emod_lt_of_pos i hc.1
      rw [hz, cond_false]
      cases hd : decide (i.tmod n < 0) with
      | true =>
        have hd' : i.tmod n < 0 := by simpa using hd
        rw [if_pos hd'] at hb
        rw [cond_true, hb, wrap_id (by omega) (by omega)]
      | false =>
        have hd' : ¬ i.tmod n < 0 := by simpa using hd
        rw [if_neg hd'] at hb
        rw [cond_false, hb]
  · cases hk
theorem wait_tree (l m s v f : Int) (K : SV → Prop) (k : K (.int .i64 (waitV l m s v f))) : (bif chkE l m s v f != (0 : Int) then K (SV.int .i64 (0 : Int)) else K (SV.int .i64 (if (if (9007199254740991 : Int) < IntKind.i64.wrap ((IntKind.i64.wrap ((9 : Int) * greatV l m s v f)).tdiv (8 : Int)) then (9007199254740991 : Int) else IntKind.i64.wrap ((IntKind.i64.wrap ((9 : Int) * greatV l m s v f)).tdiv (8 : Int))) > (1000000 : Int) then
    if (9007199254740991 : Int) < IntKind.i64.wrap ((IntKind.i64.wrap ((9 : Int) * greatV l m s v f)).tdiv (8 : Int)) then (9007199254740991 : Int) else IntKind.i64.wrap ((IntKind.i64.wrap ((9 : Int) * greatV l m s v f)).tdiv (8 : Int)) else (1000000 : Int)))) := by
  have hr := greatV_range l m s v f
  rw [wrap_id (n := 9 * greatV l m s v f) (by omega) (by omega), tdv (by omega) (by omega) (by omega)]
  unfold waitV at k
  cases h : okR l m s v f
  · rw [chkE, h]; simpa [h] using k
  · rw [chkE, h]
    simp only [h, if_true] at k
    simp only [if_true, bne_self_eq_false, cond_false]
    have e : ∀ w : Int, (if w > 1000000 then w else 1000000) = (if w < 1000000 then 1000000 else w) := fun w => by (repeat' split) <;> omega
    rw [e]
    exact k
theorem ok17 : SpecOK Try.prog 17 s17 := by
  intro args h base k hk
  unfold s17 at hk
  split at hk
  · rename_i l m s v f
    refine ⟨_, [], [], hk, plainOK gs3 Try.func17 (by kernel_rfl) (by kernel_rfl) ?_ rfl rfl h base⟩
    show evalF C3 64 Try.f17 _ [] _
    rw [t17 l m s v f (fun v => v = _)]
    exact wait_tree l m s v f (fun v => v = _) rfl
  · cases hk
theorem ok18 : SpecOK Try.prog 18 s17 := by
  intro args h base k hk
  unfold s17 at hk
  split at hk
  · rename_i l m s v f
    refine ⟨_, [], [], hk, plainOK gs3 Try.func18 (by kernel_rfl) (by kernel_rfl) ?_ rfl rfl h base⟩
    show evalF C3 64 Try.f18 _ [] _
    rw [t18 l m s v f (fun v => v = _)]
    exact wait_tree l m s v f (fun v => v = _) rfl
  · cases hk
theorem gs4 : GSound C4 := ((gs3.add ok17).add ok18).add ok21
end Go.Proofs.Ytcjfmkkfcbelpaa
