/-
  Chapter 7 by the engine: the contracts are kept (1).
-/
import Derived.Test.YtepmbiahnicooaaT1
import Derived.Test.YtepmbiahnicooaaX2
namespace Go.Proofs.Ytepmbiahnicooaa
open Go.RowKit

theorem ec {Γ : Gam} : EqOK ⟨Try.prog, Γ, fun t => memN t eqs⟩ := EqOK.of_list eqs_ok
theorem cal {f : FuncId} {fn : Func} (hf : Try.prog.funcs[f]? = some fn) (hn : (fn.name == "runtime.NumGoroutine") = false) (hb : fn.body.isSome = true) : ∀ vs w, (callFunc f vs).run Try.prog w = .ok (.enter f vs) w := fun vs w => callable hf hn hb vs w
/-- Numbers in, numbers out. -/
theorem plainOK {Γ : Gam} (hΓ : GSound ⟨Try.prog, Γ, fun t => memN t eqs⟩) {f : FuncId} {fn : Func} (hf : Try.prog.funcs[f]? = some fn) (hn : (fn.name == "runtime.NumGoroutine") = false) (hb : fn.body.isSome = true) {args : List SV} {v : SV}
    (he : evalF ⟨Try.prog, Γ, fun t => memN t eqs⟩ 64 fn args [] fun v' _ => v' = v) (ha : svIdsL args = []) (hv : svIds v = []) (h : Heap) (base : Nat) : CSim Try.prog f args h base v [] [] :=
  CSim.plain (cal hf hn hb) (evalF_ok (C := ⟨Try.prog, Γ, fun t => memN t eqs⟩) ec hΓ mixed hf hb he) (renL_id_of ha _) (ren_id_of hv _) h base
theorem g0 : GSound C0 := GSound.none
theorem tmod_emod (i n : Int) (h : 0 < n) : (if i.tmod n < 0 then i.tmod n + n else i.tmod n) = i % n := by
  have h1 := Int.emod_nonneg i (show n ≠ 0 by omega)
  have h2 := Int.emod_lt_of_pos i h
  rw [Int.tmod_eq_emod]
  split <;> split <;> omega
theorem wrap_id {n : Int} (h : -9223372036854775808 ≤ n) (h' : n ≤ 9223372036854775807) : IntKind.i64.wrap n = n := by
  simp only [IntKind.wrap, IntKind.bits, IntKind.signed]
  simp
  omega
theorem tdv {a k : Int} (h0 : 0 ≤ a) (h1 : a ≤ 9223372036854775807) (hk : 0 < k) : IntKind.i64.wrap (a.tdiv k) = a / k := by
  have h2 := Int.ediv_nonneg h0 (Int.le_of_lt hk)
  have h3 := Int.ediv_le_self k h0
  rw [Int.tdiv_eq_ediv_of_nonneg h0, wrap_id (by omega) (by omega)]
theorem cb {c : Prop} [Decidable c] (h : c) : decide c = true := by simp [h]
theorem cf {c : Prop} [Decidable c] (h : ¬ c) : decide c = false := by simp [h]

theorem ok29 : SpecOK Try.prog 29 s29 := by
  intro args h base k hk
  unfold s29 at hk
  split at hk
  · rename_i n
    refine ⟨_, [], [], hk, plainOK g0 Try.func29 (by kernel_rfl) (by kernel_rfl) ?_ rfl rfl h base⟩
    show evalF C0 64 Try.f29 _ [] _
    rw [t29 n (fun v => v = _)]
    simp only [isT]
    cases decide (0 ≤ n) <;> simp
  · cases hk
theorem time_tree (n : Int) : (if (if (9007199254740991 : Int) < n then (9007199254740991 : Int) else n) > (0 : Int) then (if (9007199254740991 : Int) < n then (9007199254740991 : Int) else n) else (0 : Int)) = timeV n := by
  unfold timeV; (repeat' split) <;> omega
theorem ok25 : SpecOK Try.prog 25 s25 := by
  intro args h base k hk
  unfold s25 at hk
  split at hk
  · rename_i n
    refine ⟨_, [], [], hk, plainOK g0 Try.func25 (by kernel_rfl) (by kernel_rfl) ?_ rfl rfl h base⟩
    show evalF C0 64 Try.f25 _ [] _
    rw [t25 n (fun v => v = _), time_tree]
  · cases hk
theorem new_tree (n : Int) (K : SV → Prop) (k : K (.tuple [rtt 0 0 (zi (newE n) n) (zi (newE n) (n / 2)) (zi (newE n) (-1)), .int .i64 (newE n)])) :
    (bif decide (n < (1000000 : Int)) then K (.tuple [rtt 0 0 0 0 0, .int .i64 9]) else bif decide ((60000000000 : Int) < n) then K (.tuple [rtt 0 0 0 0 0, .int .i64 9])
      else K (.tuple [rtt 0 0 n (IntKind.i64.wrap (n.tdiv 2)) (-1), .int .i64 0])) := by
  by_cases h1 : n < 1000000
  · rw [cb h1, cond_true]
    simpa [newE, newOk, zi, show ¬ (1000000 ≤ n) by omega] using k
  · by_cases h2 : 60000000000 < n
    · rw [cf h1, cb h2, cond_true, cond_false]
      simpa [newE, newOk, zi, show ¬ (n ≤ 60000000000) by omega] using k
    · rw [cf h1, cf h2, cond_false, cond_false, tdv (by omega) (by omega) (by omega)]
      simpa [newE, newOk, zi, show 1000000 ≤ n by omega, show n ≤ 60000000000 by omega] using k
theorem ok14 : SpecOK Try.prog 14 s14 := by
  intro args h base k hk
  unfold s14 at hk
  split at hk
  · rename_i n
    refine ⟨_, [], [], hk, plainOK g0 Try.func14 (by kernel_rfl) (by kernel_rfl) ?_ rfl rfl h base⟩
    show evalF C0 64 Try.f14 _ [] _
    rw [t14 n (fun v => v = _)]
    exact new_tree n (fun v => v = _) rfl
  · cases hk
theorem ok15 : SpecOK Try.prog 15 s14 := by
  intro args h base k hk
  unfold s14 at hk
  split at hk
  · rename_i n
    refine ⟨_, [], [], hk, plainOK g0 Try.func15 (by kernel_rfl) (by kernel_rfl) ?_ rfl rfl h base⟩
    show evalF C0 64 Try.f15 _ [] _
    rw [t15 n (fun v => v = _)]
    exact new_tree n (fun v => v = _) rfl
  · cases hk
theorem ok18 : SpecOK Try.prog 18 s18 := by
  intro args h base k hk
  unfold s18 at hk
  split at hk
  · rename_i i n
    cases hc : decide (0 < n) && decide (n ≤ 9223372036854775807) with
    | false => simp [hc] at hk
    | true =>
      simp only [hc, cond_true] at hk
      simp only [Bool.and_eq_true, decide_eq_true_eq] at hc
      refine ⟨_, [], [], hk, plainOK g0 Try.func18 (by kernel_rfl) (by kernel_rfl) ?_ rfl rfl h base⟩
      show evalF C0 64 Try.f18 _ [] _
      rw [t18 i n (fun v => v = _)]
      have hz : (n == 0) = false := by rw [beq_eq_false_iff_ne]; omega
      have hb := tmod_emod i n hc.1
      have h1 := Int.emod_nonneg i (show n ≠ 0 by omega)
      have h2 := Int.emod_lt_of_pos i hc.1
      rw [hz, cond_false]
      cases hd : decide (i.tmod n < 0) with
      | true =>
        have hd' : i.tmod n < 0 := by simpa using hd
        rw [if_pos hd'] at hb
        rw [cond_true, hb, wrap_id (by omega) (by omega)]
      | false =>
        have hd' : ¬ i.tmod n < 0 := by simpa using hd
        rw [if_neg hd'] at hb
        rw [cond_false, hb]
  · cases hk
theorem ok11 : SpecOK Try.prog 11 s11 := by
  intro args h base k hk
  unfold s11 at hk
  split at hk
  · rename_i d m b
    refine ⟨_, [], [], hk, plainOK g0 Try.func11 (by kernel_rfl) (by kernel_rfl) ?_ rfl rfl h base⟩
    show evalF C0 64 Try.f11 _ [] _
    rw [t11 d m b (fun v => v = _)]
    simp only [time_tree]
    cases b
    · rfl
    · by_cases h1 : timeV m < timeV d
      · simp [heldV, mnI, h1]
      · simp [heldV, mnI, h1]
  · cases hk
theorem ok28 : SpecOK Try.prog 28 s28 := by
  intro args h base k hk
  unfold s28 at hk
  split at hk
  · rename_i l m s v f x d n
    obtain ⟨⟨h1, h2⟩, hk⟩ := hk
    refine ⟨_, [], [], hk, plainOK g0 Try.func28 (by kernel_rfl) (by kernel_rfl) ?_ rfl rfl h base⟩
    show evalF C0 64 Try.f28 _ [] _
    rw [t28 l m s v f x d n (fun v => v = _), tdv (by omega) (by omega) (by omega)]
    rfl
  · cases hk
theorem ok27 : SpecOK Try.prog 27 s27 := by
  intro args h base k hk
  unfold s27 at hk
  split at hk
  · rename_i l m s v f x d n
    obtain ⟨⟨⟨hm, hm'⟩, ⟨hs, hs'⟩, ⟨hv, hv'⟩, ⟨hx, hx'⟩, ⟨hd, hd'⟩⟩, hk⟩ := hk
    refine ⟨_, [], [], hk, plainOK g0 Try.func27 (by kernel_rfl) (by kernel_rfl) ?_ rfl rfl h base⟩
    show evalF C0 64 Try.f27 _ [] _
    rw [t27 l m s v f x d n (fun v => v = _)]
    simp only [show (if x < m then x else m) = mnI m x from rfl]
    have hmn : 0 ≤ mnI m x := by unfold mnI; split <;> omega
    rw [wrap_id (n := x - d) (by omega) (by omega), wrap_id (n := s - (x - d)) (by omega) (by omega), wrap_id (n := s - x) (by omega) (by omega), wrap_id (n := 7 * s) (by omega) (by omega), wrap_id (n := 3 * v) (by omega) (by omega)]
    rw [wrap_id (n := 0 - (s - (x - d))) (by omega) (by omega), wrap_id (n := 0 - (s - x)) (by omega) (by omega)]
    by_cases h1 : mnI m x ≤ x - d
    · have hc : cnt m x d = x - d := by rw [cnt, if_pos h1]
      rw [cb h1, cond_true, hc, wrap_id (n := 7 * s + (x - d)) (by omega) (by omega), tdv (a := 7 * s + (x - d)) (by omega) (by omega) (by omega)]
      by_cases h2 : s - (x - d) < 0
      · rw [cb h2, cond_true, wrap_id (n := 3 * v + (0 - (s - (x - d)))) (by omega) (by omega), tdv (a := 3 * v + (0 - (s - (x - d)))) (by omega) (by omega) (by omega), absI, if_pos h2, Int.zero_sub]
        rfl
      · rw [cf h2, cond_false, wrap_id (n := 3 * v + (s - (x - d))) (by omega) (by omega), tdv (a := 3 * v + (s - (x - d))) (by omega) (by omega) (by omega), absI, if_neg h2]
        rfl
    · have hc : cnt m x d = x := by rw [cnt, if_neg h1]
      rw [cf h1, cond_false, hc, wrap_id (n := 7 * s + x) (by omega) (by omega), tdv (a := 7 * s + x) (by omega) (by omega) (by omega)]
      by_cases h2 : s - x < 0
      · rw [cb h2, cond_true, wrap_id (n := 3 * v + (0 - (s - x))) (by omega) (by omega), tdv (a := 3 * v + (0 - (s - x))) (by omega) (by omega) (by omega), absI, if_pos h2, Int.zero_sub]
        rfl
      · rw [cf h2, cond_false, wrap_id (n := 3 * v + (s - x)) (by omega) (by omega), tdv (a := 3 * v + (s - x)) (by omega) (by omega) (by omega), absI, if_neg h2]
        rfl
  · cases hk
theorem isT_tree (n : Int) (P Q : Prop) : (bif decide (n < (0 : Int)) then P else bif decide ((9007199254740991 : Int) < n) then P else Q) = (bif isT n then Q else P) := by
  by_cases h1 : n < 0
  · rw [cb h1, cond_true, isT, cf (show ¬ (0 ≤ n) by omega)]; rfl
  · by_cases h2 : 9007199254740991 < n
    · rw [cf h1, cb h2, isT, cf (show ¬ (n ≤ 9007199254740991) by omega), Bool.and_false]; rfl
    · rw [cf h1, cf h2, isT_true (by omega) (by omega)]; rfl
theorem ok26 : SpecOK Try.prog 26 s26 := by
  intro args h base k hk
  unfold s26 at hk
  split at hk
  · rename_i id
    split at hk
    · rename_i b hb
      split at hk
      · rename_i x0 x1 x2 x3 x4 e1 e2 r0 r1 r2 r3 r4
        refine ⟨_, [], [], hk, CSim.reads (cal Try.func26 (by kernel_rfl) (by kernel_rfl)) [.slice 0 0 1 5] [some (bI [x0, x1, x2, x3, x4])] [id] rfl
          (evalF_ok (C := C0) ec g0 mixed (u := 64) Try.func26 (by kernel_rfl) ?_) rfl (fun i b1 hb1 => ?_) rfl base⟩
        · rw [t26_5 x0 x1 x2 x3 x4 (fun v => v = _)]
          simp only [List.getD_cons_zero, List.getD_cons_succ, isT_tree]
          cases isT x0 <;> cases isT x1 <;> cases isT x2 <;> cases isT x3 <;> cases isT x4 <;> rfl
        · match i, hb1 with
          | 0, hb1 =>
            obtain rfl : bI [x0, x1, x2, x3, x4] = b1 := by simpa [hget] using hb1
            refine ⟨rfl, id, b, rfl, hb, ⟨e1.symm, by rw [e2]; exact Nat.le_refl _, fun h => (nomatch h), fun h => (nomatch h), fun r hr => ?_⟩⟩
            have hr : r < 5 := hr
            match r, hr with
            | 0, _ => rw [r0]; exact ⟨.inr rfl, trivial⟩
            | 1, _ => rw [r1]; exact ⟨.inr rfl, trivial⟩
            | 2, _ => rw [r2]; exact ⟨.inr rfl, trivial⟩
            | 3, _ => rw [r3]; exact ⟨.inr rfl, trivial⟩
            | 4, _ => rw [r4]; exact ⟨.inr rfl, trivial⟩
          | i + 1, hb1 => simp [hget] at hb1
      · cases hk
    · cases hk
  · rename_i id
    split at hk
    · rename_i b hb
      split at hk
      · rename_i x0 x1 x2 e1 e2 r0 r1 r2
        refine ⟨_, [], [], hk, CSim.reads (cal Try.func26 (by kernel_rfl) (by kernel_rfl)) [.slice 0 0 1 3] [some (bI [x0, x1, x2])] [id] rfl
          (evalF_ok (C := C0) ec g0 mixed (u := 64) Try.func26 (by kernel_rfl) ?_) rfl (fun i b1 hb1 => ?_) rfl base⟩
        · rw [t26_3 x0 x1 x2 (fun v => v = _)]
          simp only [List.getD_cons_zero, List.getD_cons_succ, isT_tree]
          cases isT x0 <;> cases isT x1 <;> cases isT x2 <;> rfl
        · match i, hb1 with
          | 0, hb1 =>
            obtain rfl : bI [x0, x1, x2] = b1 := by simpa [hget] using hb1
            refine ⟨rfl, id, b, rfl, hb, ⟨e1.symm, by rw [e2]; exact Nat.le_refl _, fun h => (nomatch h), fun h => (nomatch h), fun r hr => ?_⟩⟩
            have hr : r < 3 := hr
            match r, hr with
            | 0, _ => rw [r0]; exact ⟨.inr rfl, trivial⟩
            | 1, _ => rw [r1]; exact ⟨.inr rfl, trivial⟩
            | 2, _ => rw [r2]; exact ⟨.inr rfl, trivial⟩
          | i + 1, hb1 => simp [hget] at hb1
      · cases hk
    · cases hk
  · cases hk
theorem gs1 : GSound C1 := ((((((((GSound.none.add ok29).add ok25).add ok14).add ok15).add ok26).add ok27).add ok28).add ok18).add ok11
end Go.Proofs.Ytepmbiahnicooaa
