/-
  Chapter 16 by the engine: the contracts of a handshake's functions.
-/
import Derived.Test.YtllkhfabfcpieaaT1
namespace Go.Proofs.Ytllkhfabfcpieaa
open Go.RowKit
theorem ec {Γ : Gam} : EqOK ⟨Try.prog, Γ, fun t => memN t eqs⟩ := EqOK.of_list eqs_ok
theorem cal {f : FuncId} {fn : Func} (hf : Try.prog.funcs[f]? = some fn) (hn : (fn.name == "runtime.NumGoroutine") = false) (hb : fn.body.isSome = true) : ∀ vs w, (callFunc f vs).run Try.prog w = .ok (.enter f vs) w := fun vs w => callable hf hn hb vs w
/-- Numbers in, numbers out. -/
theorem plainOK {Γ : Gam} (hΓ : GSound ⟨Try.prog, Γ, fun t => memN t eqs⟩) {f : FuncId} {fn : Func} (hf : Try.prog.funcs[f]? = some fn) (hn : (fn.name == "runtime.NumGoroutine") = false) (hb : fn.body.isSome = true) {args : List SV} {v : SV}
    (he : evalF ⟨Try.prog, Γ, fun t => memN t eqs⟩ 64 fn args [] fun v' _ => v' = v) (ha : svIdsL args = []) (hv : svIds v = []) (h : Heap) (base : Nat) : CSim Try.prog f args h base v [] [] :=
  CSim.plain (cal hf hn hb) (evalF_ok (C := ⟨Try.prog, Γ, fun t => memN t eqs⟩) ec hΓ mixed hf hb he) (renL_id_of ha _) (ren_id_of hv _) h base
theorem wrap_id {n : Int} (h1 : -9223372036854775808 ≤ n) (h2 : n ≤ 9223372036854775807) : IntKind.i64.wrap n = n := by
  simp [IntKind.wrap, IntKind.signed, IntKind.bits]
  omega
theorem g0 : GSound C0 := GSound.none
theorem tmod_emod (i n : Int) (h : 0 < n) : (if i.tmod n < 0 then i.tmod n + n else i.tmod n) = i % n := by
  have h1 := Int.emod_nonneg i (show n ≠ 0 by omega)
  have h2 := Int.emod_lt_of_pos i h
  rw [Int.tmod_eq_emod]
  split <;> split <;> omega
theorem weaken {f : FuncId} {s s' : Spec} (h : SpecOK Try.prog f s) (hw : ∀ args hp base k, s' args hp base k → s args hp base k) : SpecOK Try.prog f s' :=
  fun args hp base k hk => h args hp base k (hw args hp base k hk)
theorem condSplit {c : Bool} {p q : Prop} (h1 : c = true → p) (h2 : c = false → q) : bif c then p else q := by
  cases c
  · exact h2 rfl
  · exact h1 rfl
theorem handR_ok {h : Heap} {id : Nat} {K : Hd → Prop} (hk : handR h id K) : ∃ (b : Blk) (hd : Hd), h id = some b ∧ b.sz = 7 ∧ b.n = 1 ∧ b.rd 0 = hC hd ∧ K hd := by
  unfold handR at hk
  split at hk
  · rename_i b hb
    split at hk
    · rename_i sv e0 e1 e2 va cf an h1 h2 h3
      exact ⟨b, ⟨sv, e0, e1, e2, va, cf, an⟩, hb, h1, h2, h3, hk⟩
    · cases hk
  · cases hk
theorem handW_ok {h : Heap} {id : Nat} {K : Hd → Prop} (hk : handW h id K) : ∃ (b : Blk) (hd : Hd), h id = some b ∧ b.sz = 7 ∧ b.n = 1 ∧ b.rw = true ∧ b.ty = 54 ∧ b.rd 0 = hC hd ∧ K hd := by
  unfold handW at hk
  split at hk
  · rename_i b hb
    split at hk
    · rename_i sv e0 e1 e2 va cf an h1 h2 h3 h4 h5
      exact ⟨b, ⟨sv, e0, e1, e2, va, cf, an⟩, hb, h1, h2, h3, h4, h5, hk⟩
    · cases hk
  · cases hk
/-- A handshake is read. -/
def RunR (f : FuncId) (rest : List SV) (h : Hd) (v : SV) : Prop := Canon Try.prog f (.ptr 0 0 7 0 :: rest) (rB h) fun v' _ => v' = v
/-- A handshake is written. -/
def RunW (f : FuncId) (rest : List SV) (h : Hd) (v : SV) (h' : Hd) : Prop := Canon Try.prog f (.ptr 0 0 7 0 :: rest) (wB h) fun v' hp => v' = v ∧ obsB true (hget hp 0) = .rows 7 1 true 54 [hC h']
theorem readOK {f : FuncId} {fn : Func} (hf : Try.prog.funcs[f]? = some fn) (hn : (fn.name == "runtime.NumGoroutine") = false) (hb : fn.body.isSome = true) {rest : List SV} {hd : Hd} {v : SV} (hr : RunR f rest hd v) {h : Heap} {id : Nat} {b : Blk}
    (h1 : h id = some b) (h2 : b.sz = 7) (h3 : b.n = 1) (h4 : b.rd 0 = hC hd) (h5 : svIdsL rest = []) (h6 : svIds v = []) (base : Nat) : CSim Try.prog f (.ptr id 0 7 0 :: rest) h base v [] [] :=
  CSim.ptrR (cells := hC hd) (cal hf hn hb) hr h1 h2 h3 h4 rfl h5 h6 base
theorem writeOK {f : FuncId} {fn : Func} (hf : Try.prog.funcs[f]? = some fn) (hn : (fn.name == "runtime.NumGoroutine") = false) (hb : fn.body.isSome = true) {rest : List SV} {hd hd' : Hd} {v : SV} (hr : RunW f rest hd v hd') {h : Heap} {id : Nat} {b : Blk}
    (h1 : h id = some b) (h2 : b.sz = 7) (h3 : b.n = 1) (h3' : b.rw = true) (h3'' : b.ty = 54) (h4 : b.rd 0 = hC hd) (h5 : svIdsL rest = []) (h6 : svIds v = []) (base : Nat) : CSim Try.prog f (.ptr id 0 7 0 :: rest) h base v [(id, some (hB hd'))] [] :=
  CSim.ptrW (cells := hC hd) (cells' := hC hd') (cal hf hn hb) hr h1 h2 h3 h3' h3'' h4 rfl rfl rfl h5 h6 base
theorem runR {C : Ctx} (hP : C.P = Try.prog) (he : EqOK C) (gs : GSound C) {f : FuncId} {fn : Func} (hf : Try.prog.funcs[f]? = some fn) (hb : fn.body.isSome = true) {rest : List SV} {h : Hd} {v : SV}
    (hh : evalC C 64 1 (bodF fn) (enterS fn.ntmps (.ptr 0 0 7 0 :: rest)) (rB h) (endK Try.prog fn.results.toList fun v' _ => v' = v)) : RunR f rest h v := by
  refine CodeOK.body hf hb ?_
  have := CodeOK.eval (C := C) he gs (by rw [hP]; exact mixed) 64 hh
  rw [hP] at this
  exact this
theorem runW {C : Ctx} (hP : C.P = Try.prog) (he : EqOK C) (gs : GSound C) {f : FuncId} {fn : Func} (hf : Try.prog.funcs[f]? = some fn) (hb : fn.body.isSome = true) {rest : List SV} {h h' : Hd} {v : SV}
    (hh : evalC C 64 1 (bodF fn) (enterS fn.ntmps (.ptr 0 0 7 0 :: rest)) (wB h) (endK Try.prog fn.results.toList fun v' hp => v' = v ∧ obsB true (hget hp 0) = .rows 7 1 true 54 [hC h'])) : RunW f rest h v h' := by
  refine CodeOK.body hf hb ?_
  have := CodeOK.eval (C := C) he gs (by rw [hP]; exact mixed) 64 hh
  rw [hP] at this
  exact this
theorem ok35 : SpecOK Try.prog 35 s35 := by
  intro args h base k hk
  unfold s35 at hk
  split at hk
  · rename_i s
    refine ⟨_, [], [], hk, plainOK g0 Try.func35 (by kernel_rfl) (by kernel_rfl) ?_ rfl rfl h base⟩
    show evalF C0 64 Try.f35 _ [] _
    rw [t35 s (fun v => v = _)]
    unfold inS
    refine condSplit (fun q => ?_) fun q => ?_ <;> rw [q] <;> rfl
  · cases hk
theorem ok11 : SpecOK Try.prog 11 s11 := by
  intro args h base k hk
  unfold s11 at hk
  split at hk
  · rename_i i n
    cases hc : decide (0 < n) && decide (n ≤ 9223372036854775807) with
    | false => simp [hc] at hk
    | true =>
      simp only [hc, cond_true] at hk
      simp only [Bool.and_eq_true, decide_eq_true_eq] at hc
      refine ⟨_, [], [], hk, plainOK g0 Try.func11 (by kernel_rfl) (by kernel_rfl) ?_ rfl rfl h base⟩
      show evalF C0 64 Try.f11 _ [] _
      rw [t11 i n (fun v => v = _)]
      have hz : (n == 0) = false := by rw [beq_eq_false_iff_ne]; omega
      have hb := tmod_emod i n hc.1
      have h1 := Int.emod_nonneg i (show n ≠ 0 by omega)
      have h2 := Int.emod_lt_of_pos i hc.1
      rw [hz, cond_false]
      cases hd : decide (i.tmod n < 0) with
      | true =>
        have hd' : i.tmod n < 0 := by simpa using hd
        rw [if_pos hd'] at hb
        rw [cond_true, hb, wrap_id (by omega) (by omega)]
      | false =>
        have hd' : ¬ i.tmod n < 0 := by simpa using hd
        rw [if_neg hd'] at hb
        rw [cond_false, hb]
  · cases hk
section
attribute [local irreducible] evalC
set_option maxRecDepth 100000
theorem r33 (h : Hd) : RunR 33 [] h (.bool (nothV h)) := by
  refine runR (C := C0) rfl ec g0 Try.func33 (by kernel_rfl) ?_
  show evalC C0 64 1 (bodF Try.f33) (enterS 13 _) _ (endK Try.prog Try.f33.results.toList _)
  rw [t33 h (fun v => v = .bool (nothV h))]
  simp [nothV]
theorem ok33 : SpecOK Try.prog 33 s33 := by
  intro args h base k hk
  unfold s33 at hk
  split at hk
  · refine ⟨_, [], [], hk, plainOK g0 Try.func33 (by kernel_rfl) (by kernel_rfl) ?_ rfl rfl h base⟩
    show evalF C0 64 Try.f33 _ [] _
    rw [n33 (fun v => v = _)]
  · obtain ⟨b, hd, h1, h2, h3, h4, hk⟩ := handR_ok hk
    exact ⟨_, [], [], hk, readOK Try.func33 (by kernel_rfl) (by kernel_rfl) (r33 hd) h1 h2 h3 h4 rfl rfl base⟩
  · cases hk
theorem gs1 : GSound C1 := (GSound.none.add ok35).add ok33
theorem gs1x : GSound C1x := gs1.add (weaken ok35 fun args hp base k hk => by
  unfold x35 at hk
  split at hk
  · rename_i s
    show k (.bool (inS s)) [] []
    rw [hk.1]; exact hk.2
  · cases hk)
theorem in3 (s : Int) : s = 0 ∨ s = 1 ∨ s = 2 ∨ inS s = false := by
  unfold inS
  by_cases h : 0 ≤ s ∧ s < 3
  · omega
  · right; right; right
    simp; omega
theorem r32 (h : Hd) (s : Int) : RunR 32 [.int .i64 s] h (.int .i64 (needsV h s)) := by
  rcases in3 s with rfl | rfl | rfl | hs
  · refine runR (C := C1) rfl ec gs1 Try.func32 (by kernel_rfl) ?_
    show evalC C1 64 1 (bodF Try.f32) (enterS 20 _) _ (endK Try.prog Try.f32.results.toList _)
    rw [t32_0 h (fun v => v = (.int .i64 (needsV h 0)))]
    have e : Hd.mk h.sv h.e0 h.e1 h.e2 h.va h.cf h.an = h := rfl
    rw [e]
    repeat' (refine condSplit (fun q => ?_) fun q => ?_)
    all_goals simp_all [Bool.cond_eq_ite, needsV, stg, inS]
  · refine runR (C := C1) rfl ec gs1 Try.func32 (by kernel_rfl) ?_
    show evalC C1 64 1 (bodF Try.f32) (enterS 20 _) _ (endK Try.prog Try.f32.results.toList _)
    rw [t32_1 h (fun v => v = (.int .i64 (needsV h 1)))]
    have e : Hd.mk h.sv h.e0 h.e1 h.e2 h.va h.cf h.an = h := rfl
    rw [e]
    repeat' (refine condSplit (fun q => ?_) fun q => ?_)
    all_goals simp_all [Bool.cond_eq_ite, needsV, stg, inS]
  · refine runR (C := C1) rfl ec gs1 Try.func32 (by kernel_rfl) ?_
    show evalC C1 64 1 (bodF Try.f32) (enterS 20 _) _ (endK Try.prog Try.f32.results.toList _)
    rw [t32_2 h (fun v => v = (.int .i64 (needsV h 2)))]
    have e : Hd.mk h.sv h.e0 h.e1 h.e2 h.va h.cf h.an = h := rfl
    rw [e]
    repeat' (refine condSplit (fun q => ?_) fun q => ?_)
    all_goals simp_all [Bool.cond_eq_ite, needsV, stg, inS]
  · refine runR (C := C1x) rfl ec gs1x Try.func32 (by kernel_rfl) ?_
    show evalC C1x 64 1 (bodF Try.f32) (enterS 20 _) _ (endK Try.prog Try.f32.results.toList _)
    rw [t32_x h s (fun v => v = (.int .i64 (needsV h s)))]
    have e : Hd.mk h.sv h.e0 h.e1 h.e2 h.va h.cf h.an = h := rfl
    have n0 : s ≠ 0 := by rintro rfl; exact absurd hs (by decide)
    have n1 : s ≠ 1 := by rintro rfl; exact absurd hs (by decide)
    have n2 : s ≠ 2 := by rintro rfl; exact absurd hs (by decide)
    rw [e]
    simp only [hs, true_and]
    repeat' (refine condSplit (fun q => ?_) fun q => ?_)
    all_goals simp_all [needsV, Bool.cond_eq_ite]
theorem ok32 : SpecOK Try.prog 32 s32 := by
  intro args h base k hk
  unfold s32 at hk
  split at hk
  · rename_i s
    refine ⟨_, [], [], hk, plainOK gs1 Try.func32 (by kernel_rfl) (by kernel_rfl) ?_ rfl rfl h base⟩
    show evalF C1 64 Try.f32 _ [] _
    rw [n32 s (fun v => v = _)]
  · rename_i id s
    obtain ⟨b, hd, h1, h2, h3, h4, hk⟩ := handR_ok hk
    exact ⟨_, [], [], hk, readOK Try.func32 (by kernel_rfl) (by kernel_rfl) (r32 hd s) h1 h2 h3 h4 rfl rfl base⟩
  · cases hk
theorem gs2 : GSound C2 := gs1.add ok32
theorem gs2x : GSound C2x := gs1.add (weaken ok32 fun args hp base k hk => by
  unfold x32 at hk
  split at hk
  · rename_i id s
    show handR hp id fun hd => k (.int .i64 (needsV hd s)) [] []
    unfold handR at hk ⊢
    split at hk
    · split at hk
      · obtain ⟨h1, h2⟩ := hk
        unfold needsV
        rw [h1]
        cases hq : nothV _ <;> rw [hq] at h2 <;> exact h2
      · cases hk
    · cases hk
  · cases hk)
theorem r14 (h : Hd) : RunR 14 [] h (.bool (sureV h)) := by
  refine runR (C := C1) rfl ec gs1 Try.func14 (by kernel_rfl) ?_
  show evalC C1 64 1 (bodF Try.f14) (enterS 24 _) _ (endK Try.prog Try.f14.results.toList _)
  rw [t14 h (fun v => v = .bool (sureV h))]
  unfold sureV
  repeat' (refine condSplit (fun q => ?_) fun q => ?_)
  all_goals
    have e : Hd.mk h.sv h.e0 h.e1 h.e2 h.va h.cf h.an = h := rfl
    simp_all
theorem r15 (h : Hd) : RunR 15 [] h (.bool (validV h)) := by
  refine runR (C := C1) rfl ec gs1 Try.func15 (by kernel_rfl) ?_
  show evalC C1 64 1 (bodF Try.f15) (enterS 12 _) _ (endK Try.prog Try.f15.results.toList _)
  rw [t15 h (fun v => v = .bool (validV h))]
  unfold validV
  repeat' (refine condSplit (fun q => ?_) fun q => ?_)
  all_goals
    have e : Hd.mk h.sv h.e0 h.e1 h.e2 h.va h.cf h.an = h := rfl
    simp_all
theorem r16 (h : Hd) : RunR 16 [] h (.bool (confV h)) := by
  refine runR (C := C1) rfl ec gs1 Try.func16 (by kernel_rfl) ?_
  show evalC C1 64 1 (bodF Try.f16) (enterS 12 _) _ (endK Try.prog Try.f16.results.toList _)
  rw [t16 h (fun v => v = .bool (confV h))]
  unfold confV
  repeat' (refine condSplit (fun q => ?_) fun q => ?_)
  all_goals
    have e : Hd.mk h.sv h.e0 h.e1 h.e2 h.va h.cf h.an = h := rfl
    simp_all
theorem ok14 : SpecOK Try.prog 14 s14 := by
  intro args h base k hk
  unfold s14 at hk
  split at hk
  · refine ⟨_, [], [], hk, plainOK gs1 Try.func14 (by kernel_rfl) (by kernel_rfl) ?_ rfl rfl h base⟩
    show evalF C1 64 Try.f14 _ [] _
    rw [n14 (fun v => v = _)]
  · obtain ⟨b, hd, h1, h2, h3, h4, hk⟩ := handR_ok hk
    exact ⟨_, [], [], hk, readOK Try.func14 (by kernel_rfl) (by kernel_rfl) (r14 hd) h1 h2 h3 h4 rfl rfl base⟩
  · cases hk
theorem ok15 : SpecOK Try.prog 15 s15 := by
  intro args h base k hk
  unfold s15 at hk
  split at hk
  · refine ⟨_, [], [], hk, plainOK gs1 Try.func15 (by kernel_rfl) (by kernel_rfl) ?_ rfl rfl h base⟩
    show evalF C1 64 Try.f15 _ [] _
    rw [n15 (fun v => v = _)]
  · obtain ⟨b, hd, h1, h2, h3, h4, hk⟩ := handR_ok hk
    exact ⟨_, [], [], hk, readOK Try.func15 (by kernel_rfl) (by kernel_rfl) (r15 hd) h1 h2 h3 h4 rfl rfl base⟩
  · cases hk
theorem ok16 : SpecOK Try.prog 16 s16 := by
  intro args h base k hk
  unfold s16 at hk
  split at hk
  · refine ⟨_, [], [], hk, plainOK gs1 Try.func16 (by kernel_rfl) (by kernel_rfl) ?_ rfl rfl h base⟩
    show evalF C1 64 Try.f16 _ [] _
    rw [n16 (fun v => v = _)]
  · obtain ⟨b, hd, h1, h2, h3, h4, hk⟩ := handR_ok hk
    exact ⟨_, [], [], hk, readOK Try.func16 (by kernel_rfl) (by kernel_rfl) (r16 hd) h1 h2 h3 h4 rfl rfl base⟩
  · cases hk
theorem r19 (h : Hd) (s : Int) : RunR 19 [.int .i64 s] h (.bool (hasV h s)) := by
  rcases in3 s with rfl | rfl | rfl | hs
  · refine runR (C := C1) rfl ec gs1 Try.func19 (by kernel_rfl) ?_
    show evalC C1 64 1 (bodF Try.f19) (enterS 21 _) _ (endK Try.prog Try.f19.results.toList _)
    rw [t19_0 h (fun v => v = (.bool (hasV h 0)))]
    have e : Hd.mk h.sv h.e0 h.e1 h.e2 h.va h.cf h.an = h := rfl
    rw [e]
    repeat' (refine condSplit (fun q => ?_) fun q => ?_)
    all_goals simp_all [Bool.cond_eq_ite, hasV, stg, inS]
  · refine runR (C := C1) rfl ec gs1 Try.func19 (by kernel_rfl) ?_
    show evalC C1 64 1 (bodF Try.f19) (enterS 21 _) _ (endK Try.prog Try.f19.results.toList _)
    rw [t19_1 h (fun v => v = (.bool (hasV h 1)))]
    have e : Hd.mk h.sv h.e0 h.e1 h.e2 h.va h.cf h.an = h := rfl
    rw [e]
    repeat' (refine condSplit (fun q => ?_) fun q => ?_)
    all_goals simp_all [Bool.cond_eq_ite, hasV, stg, inS]
  · refine runR (C := C1) rfl ec gs1 Try.func19 (by kernel_rfl) ?_
    show evalC C1 64 1 (bodF Try.f19) (enterS 21 _) _ (endK Try.prog Try.f19.results.toList _)
    rw [t19_2 h (fun v => v = (.bool (hasV h 2)))]
    have e : Hd.mk h.sv h.e0 h.e1 h.e2 h.va h.cf h.an = h := rfl
    rw [e]
    repeat' (refine condSplit (fun q => ?_) fun q => ?_)
    all_goals simp_all [Bool.cond_eq_ite, hasV, stg, inS]
  · refine runR (C := C1x) rfl ec gs1x Try.func19 (by kernel_rfl) ?_
    show evalC C1x 64 1 (bodF Try.f19) (enterS 21 _) _ (endK Try.prog Try.f19.results.toList _)
    rw [t19_x h s (fun v => v = (.bool (hasV h s)))]
    have e : Hd.mk h.sv h.e0 h.e1 h.e2 h.va h.cf h.an = h := rfl
    have n0 : s ≠ 0 := by rintro rfl; exact absurd hs (by decide)
    have n1 : s ≠ 1 := by rintro rfl; exact absurd hs (by decide)
    have n2 : s ≠ 2 := by rintro rfl; exact absurd hs (by decide)
    rw [e]
    simp only [hs, true_and]
    repeat' (refine condSplit (fun q => ?_) fun q => ?_)
    all_goals simp_all [hasV]
theorem ok19 : SpecOK Try.prog 19 s19 := by
  intro args h base k hk
  unfold s19 at hk
  split at hk
  · rename_i s
    refine ⟨_, [], [], hk, plainOK gs1 Try.func19 (by kernel_rfl) (by kernel_rfl) ?_ rfl rfl h base⟩
    show evalF C1 64 Try.f19 _ [] _
    rw [n19 s (fun v => v = _)]
  · rename_i id s
    obtain ⟨b, hd, h1, h2, h3, h4, hk⟩ := handR_ok hk
    exact ⟨_, [], [], hk, readOK Try.func19 (by kernel_rfl) (by kernel_rfl) (r19 hd s) h1 h2 h3 h4 rfl rfl base⟩
  · cases hk
theorem r12 (h : Hd) (s : Int) : RunR 12 [.int .i64 s] h (.bool (livesV h s)) := by
  refine runR (C := C2) rfl ec gs2 Try.func12 (by kernel_rfl) ?_
  show evalC C2 64 1 (bodF Try.f12) (enterS 9 _) _ (endK Try.prog Try.f12.results.toList _)
  rw [t12 h s (fun v => v = .bool (livesV h s))]
  rfl
theorem ok12 : SpecOK Try.prog 12 s12 := by
  intro args h base k hk
  unfold s12 at hk
  split at hk
  · rename_i s
    refine ⟨_, [], [], hk, plainOK gs2 Try.func12 (by kernel_rfl) (by kernel_rfl) ?_ rfl rfl h base⟩
    show evalF C2 64 Try.f12 _ [] _
    rw [n12 s (fun v => v = _)]
  · rename_i id s
    obtain ⟨b, hd, h1, h2, h3, h4, hk⟩ := handR_ok hk
    exact ⟨_, [], [], hk, readOK Try.func12 (by kernel_rfl) (by kernel_rfl) (r12 hd s) h1 h2 h3 h4 rfl rfl base⟩
  · cases hk
theorem r30 (h : Hd) : RunW 30 [] h (.int .i64 (valE h)) (valH h) := by
  refine runW (C := C1) rfl ec gs1 Try.func30 (by kernel_rfl) ?_
  show evalC C1 64 1 (bodF Try.f30) (enterS 8 _) _ (endK Try.prog Try.f30.results.toList _)
  rw [t30 h (fun v b => v = (.int .i64 (valE h)) ∧ b = .rows 7 1 true 54 [hC (valH h)])]
  have e : Hd.mk h.sv h.e0 h.e1 h.e2 h.va h.cf h.an = h := rfl
  rw [e]
  repeat' (refine condSplit (fun q => ?_) fun q => ?_)
  all_goals simp_all [Bool.cond_eq_ite, valE, valH, hC]
theorem ok30 : SpecOK Try.prog 30 s30 := by
  intro args h base k hk
  unfold s30 at hk
  split at hk
  · skip
    refine ⟨_, [], [], hk, plainOK gs1 Try.func30 (by kernel_rfl) (by kernel_rfl) ?_ rfl rfl h base⟩
    show evalF C1 64 Try.f30 _ [] _
    rw [n30 (fun v => v = _)]
  · skip
    obtain ⟨b, hd, h1, h2, h3, h4, h5, h6, hk⟩ := handW_ok hk
    exact ⟨_, _, [], hk _ _ rfl rfl, writeOK Try.func30 (by kernel_rfl) (by kernel_rfl) (r30 hd) h1 h2 h3 h4 h5 h6 rfl rfl base⟩
  · cases hk
theorem r27 (h : Hd) : RunW 27 [] h (.int .i64 (needsV h 2)) (confH h) := by
  refine runW (C := C2) rfl ec gs2 Try.func27 (by kernel_rfl) ?_
  show evalC C2 64 1 (bodF Try.f27) (enterS 15 _) _ (endK Try.prog Try.f27.results.toList _)
  rw [t27 h (fun v b => v = (.int .i64 (needsV h 2)) ∧ b = .rows 7 1 true 54 [hC (confH h)])]
  have e : Hd.mk h.sv h.e0 h.e1 h.e2 h.va h.cf h.an = h := rfl
  rw [e]
  repeat' (refine condSplit (fun q => ?_) fun q => ?_)
  all_goals simp_all [Bool.cond_eq_ite, confH, hC]
theorem ok27 : SpecOK Try.prog 27 s27 := by
  intro args h base k hk
  unfold s27 at hk
  split at hk
  · skip
    refine ⟨_, [], [], hk, plainOK gs2 Try.func27 (by kernel_rfl) (by kernel_rfl) ?_ rfl rfl h base⟩
    show evalF C2 64 Try.f27 _ [] _
    rw [n27 (fun v => v = _)]
  · skip
    obtain ⟨b, hd, h1, h2, h3, h4, h5, h6, hk⟩ := handW_ok hk
    exact ⟨_, _, [], hk _ _ rfl rfl, writeOK Try.func27 (by kernel_rfl) (by kernel_rfl) (r27 hd) h1 h2 h3 h4 h5 h6 rfl rfl base⟩
  · cases hk
theorem r31 (h : Hd) (s : Int) : RunW 31 [.int .i64 s] h (.int .i64 (needsV h s)) (ansH h s) := by
  refine runW (C := C2) rfl ec gs2 Try.func31 (by kernel_rfl) ?_
  show evalC C2 64 1 (bodF Try.f31) (enterS 19 _) _ (endK Try.prog Try.f31.results.toList _)
  rw [t31 h s (fun v b => v = (.int .i64 (needsV h s)) ∧ b = .rows 7 1 true 54 [hC (ansH h s)])]
  have e : Hd.mk h.sv h.e0 h.e1 h.e2 h.va h.cf h.an = h := rfl
  rw [e]
  repeat' (refine condSplit (fun q => ?_) fun q => ?_)
  all_goals simp_all [Bool.cond_eq_ite, ansH, hC]
theorem ok31 : SpecOK Try.prog 31 s31 := by
  intro args h base k hk
  unfold s31 at hk
  split at hk
  · rename_i s
    refine ⟨_, [], [], hk, plainOK gs2 Try.func31 (by kernel_rfl) (by kernel_rfl) ?_ rfl rfl h base⟩
    show evalF C2 64 Try.f31 _ [] _
    rw [n31 s (fun v => v = _)]
  · rename_i id s
    obtain ⟨b, hd, h1, h2, h3, h4, h5, h6, hk⟩ := handW_ok hk
    exact ⟨_, _, [], hk _ _ rfl rfl, writeOK Try.func31 (by kernel_rfl) (by kernel_rfl) (r31 hd s) h1 h2 h3 h4 h5 h6 rfl rfl base⟩
  · cases hk
theorem r26 (h : Hd) (s : Int) : RunW 26 [.int .i64 s] h (.int .i64 (keysE h s)) (keysH h s) := by
  rcases in3 s with rfl | rfl | rfl | hs
  · refine runW (C := C2) rfl ec gs2 Try.func26 (by kernel_rfl) ?_
    show evalC C2 64 1 (bodF Try.f26) (enterS 24 _) _ (endK Try.prog Try.f26.results.toList _)
    rw [t26_0 h (fun v b => v = (.int .i64 (keysE h 0)) ∧ b = .rows 7 1 true 54 [hC (keysH h 0)])]
    have e : Hd.mk h.sv h.e0 h.e1 h.e2 h.va h.cf h.an = h := rfl
    rw [e]
    repeat' (refine condSplit (fun q => ?_) fun q => ?_)
    all_goals simp_all [Bool.cond_eq_ite, keysE, keysH, setS, stg, hC]
  · refine runW (C := C2) rfl ec gs2 Try.func26 (by kernel_rfl) ?_
    show evalC C2 64 1 (bodF Try.f26) (enterS 24 _) _ (endK Try.prog Try.f26.results.toList _)
    rw [t26_1 h (fun v b => v = (.int .i64 (keysE h 1)) ∧ b = .rows 7 1 true 54 [hC (keysH h 1)])]
    have e : Hd.mk h.sv h.e0 h.e1 h.e2 h.va h.cf h.an = h := rfl
    rw [e]
    repeat' (refine condSplit (fun q => ?_) fun q => ?_)
    all_goals simp_all [Bool.cond_eq_ite, keysE, keysH, setS, stg, hC]
  · refine runW (C := C2) rfl ec gs2 Try.func26 (by kernel_rfl) ?_
    show evalC C2 64 1 (bodF Try.f26) (enterS 24 _) _ (endK Try.prog Try.f26.results.toList _)
    rw [t26_2 h (fun v b => v = (.int .i64 (keysE h 2)) ∧ b = .rows 7 1 true 54 [hC (keysH h 2)])]
    have e : Hd.mk h.sv h.e0 h.e1 h.e2 h.va h.cf h.an = h := rfl
    rw [e]
    repeat' (refine condSplit (fun q => ?_) fun q => ?_)
    all_goals simp_all [Bool.cond_eq_ite, keysE, keysH, setS, stg, hC]
  · refine runW (C := C2x) rfl ec gs2x Try.func26 (by kernel_rfl) ?_
    show evalC C2x 64 1 (bodF Try.f26) (enterS 24 _) _ (endK Try.prog Try.f26.results.toList _)
    rw [t26_x h s (fun v b => v = (.int .i64 (keysE h s)) ∧ b = .rows 7 1 true 54 [hC (keysH h s)])]
    have e : Hd.mk h.sv h.e0 h.e1 h.e2 h.va h.cf h.an = h := rfl
    have n0 : s ≠ 0 := by rintro rfl; exact absurd hs (by decide)
    have n1 : s ≠ 1 := by rintro rfl; exact absurd hs (by decide)
    have n2 : s ≠ 2 := by rintro rfl; exact absurd hs (by decide)
    rw [e]
    simp only [hs, true_and]
    repeat' (refine condSplit (fun q => ?_) fun q => ?_)
    all_goals simp_all [keysE, keysH, needsV, hC, Bool.cond_eq_ite]
theorem ok26 : SpecOK Try.prog 26 s26 := by
  intro args h base k hk
  unfold s26 at hk
  split at hk
  · rename_i s
    refine ⟨_, [], [], hk, plainOK gs2 Try.func26 (by kernel_rfl) (by kernel_rfl) ?_ rfl rfl h base⟩
    show evalF C2 64 Try.f26 _ [] _
    rw [n26 s (fun v => v = _)]
  · rename_i id s
    obtain ⟨b, hd, h1, h2, h3, h4, h5, h6, hk⟩ := handW_ok hk
    exact ⟨_, _, [], hk _ _ rfl rfl, writeOK Try.func26 (by kernel_rfl) (by kernel_rfl) (r26 hd s) h1 h2 h3 h4 h5 h6 rfl rfl base⟩
  · cases hk
theorem r29 (h : Hd) (s : Int) : RunW 29 [.int .i64 s] h (.int .i64 (discE h s)) (discH h s) := by
  rcases in3 s with rfl | rfl | rfl | hs
  · refine runW (C := C2) rfl ec gs2 Try.func29 (by kernel_rfl) ?_
    show evalC C2 64 1 (bodF Try.f29) (enterS 24 _) _ (endK Try.prog Try.f29.results.toList _)
    rw [t29_0 h (fun v b => v = (.int .i64 (discE h 0)) ∧ b = .rows 7 1 true 54 [hC (discH h 0)])]
    have e : Hd.mk h.sv h.e0 h.e1 h.e2 h.va h.cf h.an = h := rfl
    rw [e]
    have hn : nothV h = true → needsV h 0 = 1 := fun q => by simp [needsV, q]
    repeat' (refine condSplit (fun q => ?_) fun q => ?_)
    all_goals simp_all [Bool.cond_eq_ite, discE, discH, setS, hC]
  · refine runW (C := C2) rfl ec gs2 Try.func29 (by kernel_rfl) ?_
    show evalC C2 64 1 (bodF Try.f29) (enterS 24 _) _ (endK Try.prog Try.f29.results.toList _)
    rw [t29_1 h (fun v b => v = (.int .i64 (discE h 1)) ∧ b = .rows 7 1 true 54 [hC (discH h 1)])]
    have e : Hd.mk h.sv h.e0 h.e1 h.e2 h.va h.cf h.an = h := rfl
    rw [e]
    have hn : nothV h = true → needsV h 1 = 1 := fun q => by simp [needsV, q]
    repeat' (refine condSplit (fun q => ?_) fun q => ?_)
    all_goals simp_all [Bool.cond_eq_ite, discE, discH, setS, hC]
  · refine runW (C := C2) rfl ec gs2 Try.func29 (by kernel_rfl) ?_
    show evalC C2 64 1 (bodF Try.f29) (enterS 24 _) _ (endK Try.prog Try.f29.results.toList _)
    rw [t29_2 h (fun v b => v = (.int .i64 (discE h 2)) ∧ b = .rows 7 1 true 54 [hC (discH h 2)])]
    have e : Hd.mk h.sv h.e0 h.e1 h.e2 h.va h.cf h.an = h := rfl
    rw [e]
    have hn : nothV h = true → needsV h 2 = 1 := fun q => by simp [needsV, q]
    repeat' (refine condSplit (fun q => ?_) fun q => ?_)
    all_goals simp_all [Bool.cond_eq_ite, discE, discH, setS, hC]
  · refine runW (C := C2x) rfl ec gs2x Try.func29 (by kernel_rfl) ?_
    show evalC C2x 64 1 (bodF Try.f29) (enterS 24 _) _ (endK Try.prog Try.f29.results.toList _)
    rw [t29_x h s (fun v b => v = (.int .i64 (discE h s)) ∧ b = .rows 7 1 true 54 [hC (discH h s)])]
    have e : Hd.mk h.sv h.e0 h.e1 h.e2 h.va h.cf h.an = h := rfl
    have n0 : s ≠ 0 := by rintro rfl; exact absurd hs (by decide)
    have n1 : s ≠ 1 := by rintro rfl; exact absurd hs (by decide)
    have n2 : s ≠ 2 := by rintro rfl; exact absurd hs (by decide)
    rw [e]
    simp only [hs, true_and]
    repeat' (refine condSplit (fun q => ?_) fun q => ?_)
    all_goals simp_all [discE, discH, needsV, hC, Bool.cond_eq_ite]
theorem ok29 : SpecOK Try.prog 29 s29 := by
  intro args h base k hk
  unfold s29 at hk
  split at hk
  · rename_i s
    refine ⟨_, [], [], hk, plainOK gs2 Try.func29 (by kernel_rfl) (by kernel_rfl) ?_ rfl rfl h base⟩
    show evalF C2 64 Try.f29 _ [] _
    rw [n29 s (fun v => v = _)]
  · rename_i id s
    obtain ⟨b, hd, h1, h2, h3, h4, h5, h6, hk⟩ := handW_ok hk
    exact ⟨_, _, [], hk _ _ rfl rfl, writeOK Try.func29 (by kernel_rfl) (by kernel_rfl) (r29 hd s) h1 h2 h3 h4 h5 h6 rfl rfl base⟩
  · cases hk
end
end Go.Proofs.Ytllkhfabfcpieaa
