/-
  Chapter 18 by the engine: the contracts are kept (1).
-/
import Derived.Test.YtfoogfhcjnpokaaT1
import Derived.Test.YtfoogfhcjnpokaaT2
namespace Go.Proofs.Ytfoogfhcjnpokaa
open Go.RowKit

theorem ec {Γ : Gam} : EqOK ⟨Try.prog, Γ, fun t => memN t eqs⟩ := EqOK.of_list eqs_ok
theorem cal {f : FuncId} {fn : Func} (hf : Try.prog.funcs[f]? = some fn) (hn : (fn.name == "runtime.NumGoroutine") = false) (hb : fn.body.isSome = true) : ∀ vs w, (callFunc f vs).run Try.prog w = .ok (.enter f vs) w := fun vs w => callable hf hn hb vs w
/-- Numbers in, numbers out. -/
theorem plainOK {Γ : Gam} (hΓ : GSound ⟨Try.prog, Γ, fun t => memN t eqs⟩) {f : FuncId} {fn : Func} (hf : Try.prog.funcs[f]? = some fn) (hn : (fn.name == "runtime.NumGoroutine") = false) (hb : fn.body.isSome = true) {args : List SV} {v : SV}
    (he : evalF ⟨Try.prog, Γ, fun t => memN t eqs⟩ 64 fn args [] fun v' _ => v' = v) (ha : svIdsL args = []) (hv : svIds v = []) (h : Heap) (base : Nat) : CSim Try.prog f args h base v [] [] :=
  CSim.plain (cal hf hn hb) (evalF_ok (C := ⟨Try.prog, Γ, fun t => memN t eqs⟩) ec hΓ mixed hf hb he) (renL_id_of ha _) (ren_id_of hv _) h base
theorem g0 : GSound C0 := GSound.none
theorem tmod_emod (i n : Int) (h : 0 < n) : (if i.tmod n < 0 then i.tmod n + n else i.tmod n) = i % n := by
  have h1 := Int.emod_nonneg i (show n ≠ 0 by omega)
  have h2 := Int.emod_lt_of_pos i h
  rw [Int.tmod_eq_emod]
  split <;> split <;> omega
theorem wrap_id {n : Int} (h : -9223372036854775808 ≤ n) (h' : n ≤ 9223372036854775807) : IntKind.i64.wrap n = n := by
  simp only [IntKind.wrap, IntKind.bits, IntKind.signed]
  simp
  omega
theorem tdv {a k : Int} (h0 : 0 ≤ a) (h1 : a ≤ 9223372036854775807) (hk : 0 < k) : IntKind.i64.wrap (a.tdiv k) = a / k := by
  have h2 := Int.ediv_nonneg h0 (Int.le_of_lt hk)
  have h3 := Int.ediv_le_self k h0
  rw [Int.tdiv_eq_ediv_of_nonneg h0, wrap_id (by omega) (by omega)]
theorem cb {c : Prop} [Decidable c] (h : c) : decide c = true := by simp [h]
theorem cf {c : Prop} [Decidable c] (h : ¬ c) : decide c = false := by simp [h]

theorem ok43 : SpecOK Try.prog 43 sIs := by
  intro args h base k hk
  unfold sIs at hk
  split at hk
  · rename_i n
    refine ⟨_, [], [], hk, plainOK g0 Try.func43 (by kernel_rfl) (by kernel_rfl) ?_ rfl rfl h base⟩
    show evalF C0 64 Try.f43 _ [] _
    rw [t43 n (fun v => v = _)]
    simp only [isT]
    cases decide (0 ≤ n) <;> simp
  · cases hk
theorem ok37 : SpecOK Try.prog 37 sIs := by
  intro args h base k hk
  unfold sIs at hk
  split at hk
  · rename_i n
    refine ⟨_, [], [], hk, plainOK g0 Try.func37 (by kernel_rfl) (by kernel_rfl) ?_ rfl rfl h base⟩
    show evalF C0 64 Try.f37 _ [] _
    rw [t37 n (fun v => v = _)]
    simp only [isT]
    cases decide (0 ≤ n) <;> simp
  · cases hk
theorem time_tree (n : Int) : (if (if (9007199254740991 : Int) < n then (9007199254740991 : Int) else n) > (0 : Int) then (if (9007199254740991 : Int) < n then (9007199254740991 : Int) else n) else (0 : Int)) = timeV n := by
  unfold timeV; (repeat' split) <;> omega
theorem ok41 : SpecOK Try.prog 41 sTime := by
  intro args h base k hk
  unfold sTime at hk
  split at hk
  · rename_i n
    refine ⟨_, [], [], hk, plainOK g0 Try.func41 (by kernel_rfl) (by kernel_rfl) ?_ rfl rfl h base⟩
    show evalF C0 64 Try.f41 _ [] _
    rw [t41 n (fun v => v = _), time_tree]
  · cases hk
theorem ok44 : SpecOK Try.prog 44 sTime := by
  intro args h base k hk
  unfold sTime at hk
  split at hk
  · rename_i n
    refine ⟨_, [], [], hk, plainOK g0 Try.func44 (by kernel_rfl) (by kernel_rfl) ?_ rfl rfl h base⟩
    show evalF C0 64 Try.f44 _ [] _
    rw [t44 n (fun v => v = _), time_tree]
  · cases hk
theorem new_tree (n : Int) (K : SV → Prop) (k : K (.tuple [rtt 0 0 (zi (newE n) n) (zi (newE n) (n / 2)) (zi (newE n) (-1)), .int .i64 (newE n)])) :
    (bif decide (n < (1000000 : Int)) then K (.tuple [rtt 0 0 0 0 0, .int .i64 9]) else bif decide ((60000000000 : Int) < n) then K (.tuple [rtt 0 0 0 0 0, .int .i64 9])
      else K (.tuple [rtt 0 0 n (IntKind.i64.wrap (n.tdiv 2)) (-1), .int .i64 0])) := by
  by_cases h1 : n < 1000000
  · rw [cb h1, cond_true]
    simpa [newE, newOk, zi, show ¬ (1000000 ≤ n) by omega] using k
  · by_cases h2 : 60000000000 < n
    · rw [cf h1, cb h2, cond_true, cond_false]
      simpa [newE, newOk, zi, show ¬ (n ≤ 60000000000) by omega] using k
    · rw [cf h1, cf h2, cond_false, cond_false, tdv (by omega) (by omega) (by omega)]
      simpa [newE, newOk, zi, show 1000000 ≤ n by omega, show n ≤ 60000000000 by omega] using k
theorem ok39 : SpecOK Try.prog 39 s39 := by
  intro args h base k hk
  unfold s39 at hk
  split at hk
  · rename_i n
    refine ⟨_, [], [], hk, plainOK g0 Try.func39 (by kernel_rfl) (by kernel_rfl) ?_ rfl rfl h base⟩
    show evalF C0 64 Try.f39 _ [] _
    rw [t39 n (fun v => v = _)]
    exact new_tree n (fun v => v = _) rfl
  · cases hk
theorem isT_tree (n : Int) (P Q : Prop) : (bif decide (n < (0 : Int)) then P else bif decide ((9007199254740991 : Int) < n) then P else Q) = (bif isT n then Q else P) := by
  by_cases h1 : n < 0
  · rw [cb h1, cond_true, isT, cf (show ¬ (0 ≤ n) by omega)]; rfl
  · by_cases h2 : 9007199254740991 < n
    · rw [cf h1, cb h2, isT, cf (show ¬ (n ≤ 9007199254740991) by omega), Bool.and_false]; rfl
    · rw [cf h1, cf h2, isT_true (by omega) (by omega)]; rfl
theorem ok40 : SpecOK Try.prog 40 s40 := by
  intro args h base k hk
  unfold s40 at hk
  split at hk
  · rename_i id
    split at hk
    · rename_i b hb
      split at hk
      · rename_i x0 x1 x2 x3 x4 e1 e2 r0 r1 r2 r3 r4
        refine ⟨_, [], [], hk, CSim.reads (cal Try.func40 (by kernel_rfl) (by kernel_rfl)) [.slice 0 0 1 5] [some (bI [x0, x1, x2, x3, x4])] [id] rfl
          (evalF_ok (C := C0) ec g0 mixed (u := 64) Try.func40 (by kernel_rfl) ?_) rfl (fun i b1 hb1 => ?_) rfl base⟩
        · rw [t40_5 x0 x1 x2 x3 x4 (fun v => v = _)]
          simp only [List.getD_cons_zero, List.getD_cons_succ, isT_tree]
          cases isT x0 <;> cases isT x1 <;> cases isT x2 <;> cases isT x3 <;> cases isT x4 <;> rfl
        · match i, hb1 with
          | 0, hb1 =>
            obtain rfl : bI [x0, x1, x2, x3, x4] = b1 := by simpa [hget] using hb1
            refine ⟨rfl, id, b, rfl, hb, ⟨e1.symm, by rw [e2]; exact Nat.le_refl _, fun h => (nomatch h), fun h => (nomatch h), fun r hr => ?_⟩⟩
            have hr : r < 5 := hr
            match r, hr with
            | 0, _ => rw [r0]; exact ⟨.inr rfl, trivial⟩
            | 1, _ => rw [r1]; exact ⟨.inr rfl, trivial⟩
            | 2, _ => rw [r2]; exact ⟨.inr rfl, trivial⟩
            | 3, _ => rw [r3]; exact ⟨.inr rfl, trivial⟩
            | 4, _ => rw [r4]; exact ⟨.inr rfl, trivial⟩
          | i + 1, hb1 => simp [hget] at hb1
      · cases hk
    · cases hk
  · cases hk
theorem ok11 : SpecOK Try.prog 11 s11 := by
  intro args h base k hk
  unfold s11 at hk
  split at hk
  · rename_i i n
    cases hc : decide (0 < n) && decide (n ≤ 9223372036854775807) with
    | false => simp [hc] at hk
    | true =>
      simp only [hc, cond_true] at hk
      simp only [Bool.and_eq_true, decide_eq_true_eq] at hc
      refine ⟨_, [], [], hk, plainOK g0 Try.func11 (by kernel_rfl) (by kernel_rfl) ?_ rfl rfl h base⟩
      show evalF C0 64 Try.f11 _ [] _
      rw [t11 i n (fun v => v = _)]
      have hz : (n == 0) = false := by rw [beq_eq_false_iff_ne]; omega
      have hb := tmod_emod i n hc.1
      have h1 := Int.emod_nonneg i (show n ≠ 0 by omega)
      have h2 := Int.emod_lt_of_pos i hc.1
      rw [hz, cond_false]
      cases hd : decide (i.tmod n < 0) with
      | true =>
        have hd' : i.tmod n < 0 := by simpa using hd
        rw [if_pos hd'] at hb
        rw [cond_true, hb, wrap_id (by omega) (by omega)]
      | false =>
        have hd' : ¬ i.tmod n < 0 := by simpa using hd
        rw [if_neg hd'] at hb
        rw [cond_false, hb]
  · cases hk
theorem ok13 : SpecOK Try.prog 13 s13 := by
  intro args h base k hk
  unfold s13 at hk
  split at hk
  · refine ⟨_, [], [], hk, plainOK g0 Try.func13 (by kernel_rfl) (by kernel_rfl) ?_ rfl rfl h base⟩
    show evalF C0 64 Try.f13 _ [] _
    rw [t13 (fun v => v = _)]
  · cases hk
theorem ok14 : SpecOK Try.prog 14 s14 := by
  intro args h base k hk
  unfold s14 at hk
  split at hk
  · refine ⟨_, [], [], hk, plainOK g0 Try.func14 (by kernel_rfl) (by kernel_rfl) ?_ rfl rfl h base⟩
    show evalF C0 64 Try.f14 _ [] _
    rw [t14 (fun v => v = _)]
    rfl
  · cases hk
theorem ok33 : SpecOK Try.prog 33 s33 := by
  intro args h base k hk
  unfold s33 at hk
  split at hk
  · refine ⟨_, [], [], hk, plainOK g0 Try.func33 (by kernel_rfl) (by kernel_rfl) ?_ rfl rfl h base⟩
    show evalF C0 64 Try.f33 _ [] _
    rw [t33 (fun v => v = _)]
    rfl
  · cases hk
theorem ok47 : SpecOK Try.prog 47 s47 := by
  intro args h base k hk
  unfold s47 at hk
  split at hk
  · rename_i n a b
    refine ⟨_, [], [], hk, plainOK g0 Try.func47 (by kernel_rfl) (by kernel_rfl) ?_ rfl rfl h base⟩
    show evalF C0 64 Try.f47 _ [] _
    rw [t47 n a b (fun v => v = _)]
    rfl
  · cases hk
theorem ok27 : SpecOK Try.prog 27 s27 := by
  intro args h base k hk
  unfold s27 at hk
  split at hk
  · rename_i a b c
    refine ⟨_, [], [], hk, plainOK g0 Try.func27 (by kernel_rfl) (by kernel_rfl) ?_ rfl rfl h base⟩
    show evalF C0 64 Try.f27 _ [] _
    rw [t27 a b c (fun v => v = _)]
  · cases hk
theorem gs1 : GSound C1 := (((((((((((GSound.none.add ok43).add ok41).add ok44).add ok39).add ok40).add ok47).add ok37).add ok11).add ok13).add ok14).add ok33).add ok27
theorem ok23 : SpecOK Try.prog 23 sChk := by
  intro args h base k hk
  unfold sChk at hk
  split at hk
  · rename_i l m s v f
    refine ⟨_, [], [], hk, plainOK gs1 Try.func23 (by kernel_rfl) (by kernel_rfl) ?_ rfl rfl h base⟩
    show evalF C1 64 Try.f23 _ [] _
    rw [t23 l m s v f (fun v => v = _)]
    by_cases hf : f = -1
    · subst hf
      simp only [beq_self_eq_true, cond_true]
      by_cases hn : newOk s = true
      · have h2 : newE s = 0 := by rw [newE, if_pos hn]
        simp only [newOk, Bool.and_eq_true, decide_eq_true_eq] at hn
        simp only [h2, zi, if_true, bne_self_eq_false, cond_false, beq_self_eq_true, Bool.true_and, Bool.and_true]
        by_cases hl : l = 0
        · by_cases hm : m = 0
          · by_cases hv : v = s / 2
            · subst hl hm hv; simp [chkE, okR, hn]
            · have h3 : ¬ (s / 2 = v) := fun e => hv e.symm
              subst hl hm; simp [chkE, okR, hv, h3]
          · have h3 : ¬ (0 = m) := fun e => hm e.symm
            subst hl; simp [chkE, okR, hm, h3]
        · have h3 : ¬ (0 = l) := fun e => hl e.symm
          simp [chkE, okR, hl, h3]
      · have h2 : newE s = 9 := by rw [newE, if_neg hn]
        have h3 : okR l m s v (-1) = false := by
          simp only [newOk, Bool.and_eq_true, decide_eq_true_eq] at hn
          simp only [okR, if_true, decide_eq_false_iff_not]; omega
        simp [h2, chkE, h3]
    · rw [show (f == -1) = false by simpa using hf, cond_false]
      have h2 : okR l m s v f = (isT f && isT l && isT m && isT s && isT v && decide (m ≤ l ∧ m ≤ s)) := by rw [okR, if_neg hf]
      have h3 : decide ((if s < l then s else l) < m) = !decide (m ≤ l ∧ m ≤ s) := by
        rw [← decide_not, decide_eq_decide]; split <;> omega
      rw [h3, chkE, h2]
      cases isT f <;> cases isT l <;> cases isT m <;> cases isT s <;> cases isT v <;> cases decide (m ≤ l ∧ m ≤ s) <;> rfl
  · cases hk
theorem ok32 : SpecOK Try.prog 32 sChk := by
  intro args h base k hk
  unfold sChk at hk
  split at hk
  · rename_i l m s v f
    refine ⟨_, [], [], hk, plainOK gs1 Try.func32 (by kernel_rfl) (by kernel_rfl) ?_ rfl rfl h base⟩
    show evalF C1 64 Try.f32 _ [] _
    rw [t32 l m s v f (fun v => v = _)]
    by_cases hf : f = -1
    · subst hf
      simp only [beq_self_eq_true, cond_true]
      by_cases hl : l = 0
      · by_cases hm : m = 0
        · by_cases h1 : s < 1000000
          · subst hl hm; simp [chkE, okR, h1, show ¬ (1000000 ≤ s) by omega]
          · by_cases h2 : 60000000000 < s
            · subst hl hm; simp [chkE, okR, h1, h2, show ¬ (s ≤ 60000000000) by omega]
            · rw [tdv (by omega) (by omega) (by omega)]
              by_cases hv : v = s / 2
              · subst hl hm hv; simp [chkE, okR, h1, h2, show 1000000 ≤ s by omega, show s ≤ 60000000000 by omega]
              · subst hl hm; simp [chkE, okR, h1, h2, hv]
        · subst hl; simp [chkE, okR, hm]
      · simp [chkE, okR, hl]
    · rw [show (f == -1) = false by simpa using hf, cond_false]
      have h2 : okR l m s v f = (isT f && isT l && isT m && isT s && isT v && decide (m ≤ l ∧ m ≤ s)) := by rw [okR, if_neg hf]
      have h3 : decide (m ≤ l ∧ m ≤ s) = (!decide (l < m) && !decide (s < m)) := by
        rw [← decide_not, ← decide_not, ← Bool.decide_and, decide_eq_decide]; omega
      rw [chkE, h2, h3]
      cases isT f <;> cases isT l <;> cases isT m <;> cases isT s <;> cases isT v <;> cases decide (l < m) <;> cases decide (s < m) <;> rfl
  · cases hk
theorem clamp_time (n : Int) : clampV n 0 9007199254740991 = timeV n := time_tree n
theorem ok38 : SpecOK Try.prog 38 sTime := by
  intro args h base k hk
  unfold sTime at hk
  split at hk
  · rename_i n
    refine ⟨_, [], [], hk, plainOK gs1 Try.func38 (by kernel_rfl) (by kernel_rfl) ?_ rfl rfl h base⟩
    show evalF C1 64 Try.f38 _ [] _
    rw [t38 n (fun v => v = _), clamp_time]
  · cases hk
theorem ok34 : SpecOK Try.prog 34 sDue := by
  intro args h base k hk
  unfold sDue at hk
  split at hk
  · rename_i a b
    refine ⟨_, [], [], hk, plainOK gs1 Try.func34 (by kernel_rfl) (by kernel_rfl) ?_ rfl rfl h base⟩
    show evalF C1 64 Try.f34 _ [] _
    rw [t34 a b (fun v => v = _), isT_tree, dueV]
    have hb := timeV_range b
    cases ha : isT a with
    | false => rfl
    | true =>
      have := isT_iff.1 ha
      rw [cond_true, if_pos rfl, wrap_id (by omega) (by omega)]
  · cases hk
theorem time_is (a : Int) : (a != timeV a) = !isT a := by
  cases h : isT a with
  | true => have := isT_iff.1 h; simp [timeV_in this.1 this.2]
  | false =>
    have h1 := timeV_range a
    have h2 : ¬ (0 ≤ a ∧ a ≤ 9007199254740991) := fun e => by rw [isT_true e.1 e.2] at h; cases h
    have h3 : a ≠ timeV a := fun e => h2 (by rw [e]; exact h1)
    simpa using h3
theorem ok42 : SpecOK Try.prog 42 sDue := by
  intro args h base k hk
  unfold sDue at hk
  split at hk
  · rename_i a b
    refine ⟨_, [], [], hk, plainOK gs1 Try.func42 (by kernel_rfl) (by kernel_rfl) ?_ rfl rfl h base⟩
    show evalF C1 64 Try.f42 _ [] _
    rw [t42 a b (fun v => v = _), time_is, dueV]
    have hb := timeV_range b
    cases ha : isT a with
    | false => rfl
    | true =>
      have := isT_iff.1 ha
      rw [Bool.not_true, cond_false, if_pos rfl, wrap_id (by omega) (by omega)]
  · cases hk
theorem ok36 : SpecOK Try.prog 36 sIsT := by
  intro args h base k hk
  unfold sIsT at hk
  split at hk
  · rename_i n
    refine ⟨_, [], [], hk, plainOK gs1 Try.func36 (by kernel_rfl) (by kernel_rfl) ?_ rfl rfl h base⟩
    show evalF C1 64 Try.f36 _ [] _
    rw [t36 n (fun v => v = _), isOrNever]
    cases n == -1 <;> rfl
  · cases hk
theorem gs2 : GSound C2 := (((((gs1.add ok38).add ok23).add ok32).add ok34).add ok42).add ok36
theorem ok22 : SpecOK Try.prog 22 sIs := by
  intro args h base k hk
  unfold sIs at hk
  split at hk
  · rename_i n
    refine ⟨_, [], [], hk, plainOK gs2 Try.func22 (by kernel_rfl) (by kernel_rfl) ?_ rfl rfl h base⟩
    show evalF C2 64 Try.f22 _ [] _
    rw [t22 n (fun v => v = _)]
    have e : (n == timeV n) = isT n := Bool.not_inj (time_is n)
    rw [e]
  · cases hk
theorem base_tree (l m s v f sp d : Int) (K : SV → Prop) (hK : K (.int .i64 (baseV l m s v f sp d))) :
    (bif chkE l m s v f != (0 : Int) then K (SV.int IntKind.i64 (0 : Int)) else bif decide (sp < (0 : Int)) then K (SV.int IntKind.i64 (0 : Int)) else bif decide ((3 : Int) ≤ sp) then K (SV.int IntKind.i64 (0 : Int)) else
      bif sp == (2 : Int) then K (SV.int IntKind.i64 (timeV (IntKind.i64.wrap (IntKind.i64.wrap (s + if (1000000 : Int) > IntKind.i64.wrap ((4 : Int) * v) then (1000000 : Int) else IntKind.i64.wrap ((4 : Int) * v)) + timeV d))))
      else K (SV.int IntKind.i64 (timeV (IntKind.i64.wrap (s + if (1000000 : Int) > IntKind.i64.wrap ((4 : Int) * v) then (1000000 : Int) else IntKind.i64.wrap ((4 : Int) * v)))))) := by
  cases h : okR l m s v f with
  | false =>
    rw [baseV_bad (.inl h)] at hK
    rw [chkE_bad h]
    exact hK
  | true =>
    rw [chkE_ok h, bne_self_eq_false, cond_false]
    have hr := okR_range h
    have hd := timeV_range d
    by_cases h1 : sp < 0
    · rw [baseV_bad (.inr (.inl h1))] at hK
      rw [cb h1]; exact hK
    by_cases h2 : 3 ≤ sp
    · rw [baseV_bad (.inr (.inr h2))] at hK
      rw [cf h1, cb h2]; exact hK
    rw [cf h1, cf h2, cond_false, cond_false, wrap_id (n := 4 * v) (by omega) (by omega)]
    have hv : (if (1000000 : Int) > 4 * v then (1000000 : Int) else 4 * v) = varV v := rfl
    have hv2 : 0 ≤ varV v ∧ varV v ≤ 4 * 9007199254740991 + 1000000 := by unfold varV; split <;> omega
    rw [hv, wrap_id (n := s + varV v) (by omega) (by omega), wrap_id (n := s + varV v + timeV d) (by omega) (by omega)]
    by_cases h3 : sp = 2
    · subst h3
      rw [baseV_two h] at hK
      exact hK
    · rw [baseV_low h (by omega) (by omega)] at hK
      rw [show (sp == 2) = false by simpa using h3]
      exact hK
theorem ok26 : SpecOK Try.prog 26 sBase := by
  intro args h base k hk
  unfold sBase at hk
  split at hk
  · rename_i l m s v f sp d
    refine ⟨_, [], [], hk, plainOK gs2 Try.func26 (by kernel_rfl) (by kernel_rfl) ?_ rfl rfl h base⟩
    show evalF C2 64 Try.f26 _ [] _
    rw [t26 l m s v f sp d (fun v => v = _)]
    exact base_tree l m s v f sp d (fun v => v = _) rfl
  · cases hk
theorem ok46 : SpecOK Try.prog 46 sBase := by
  intro args h base k hk
  unfold sBase at hk
  split at hk
  · rename_i l m s v f sp d
    refine ⟨_, [], [], hk, plainOK gs2 Try.func46 (by kernel_rfl) (by kernel_rfl) ?_ rfl rfl h base⟩
    show evalF C2 64 Try.f46 _ [] _
    rw [t46 l m s v f sp d (fun v => v = _)]
    exact base_tree l m s v f sp d (fun v => v = _) rfl
  · cases hk
theorem gs3 : GSound C3 := ((gs2.add ok22).add ok26).add ok46
theorem ok21 : SpecOK Try.prog 21 sIsT := by
  intro args h base k hk
  unfold sIsT at hk
  split at hk
  · rename_i n
    refine ⟨_, [], [], hk, plainOK gs3 Try.func21 (by kernel_rfl) (by kernel_rfl) ?_ rfl rfl h base⟩
    show evalF C3 64 Try.f21 _ [] _
    rw [t21 n (fun v => v = _), isOrNever]
    cases n == -1 <;> rfl
  · cases hk
end Go.Proofs.Ytfoogfhcjnpokaa
