/-
  Chapter 11 by the engine: the contracts of a window's functions.
-/
import Derived.Test.YtefjhkgkdmjopaaT1
namespace Go.Proofs.Ytefjhkgkdmjopaa
open Go.RowKit
theorem ec {Γ : Gam} : EqOK ⟨Try.prog, Γ, fun t => memN t eqs⟩ := EqOK.of_list eqs_ok
theorem cal {f : FuncId} {fn : Func} (hf : Try.prog.funcs[f]? = some fn) (hn : (fn.name == "runtime.NumGoroutine") = false) (hb : fn.body.isSome = true) : ∀ vs w, (callFunc f vs).run Try.prog w = .ok (.enter f vs) w := fun vs w => callable hf hn hb vs w
/-- Numbers in, numbers out. -/
theorem plainOK {Γ : Gam} (hΓ : GSound ⟨Try.prog, Γ, fun t => memN t eqs⟩) {f : FuncId} {fn : Func} (hf : Try.prog.funcs[f]? = some fn) (hn : (fn.name == "runtime.NumGoroutine") = false) (hb : fn.body.isSome = true) {args : List SV} {v : SV}
    (he : evalF ⟨Try.prog, Γ, fun t => memN t eqs⟩ 64 fn args [] fun v' _ => v' = v) (ha : svIdsL args = []) (hv : svIds v = []) (h : Heap) (base : Nat) : CSim Try.prog f args h base v [] [] :=
  CSim.plain (cal hf hn hb) (evalF_ok (C := ⟨Try.prog, Γ, fun t => memN t eqs⟩) ec hΓ mixed hf hb he) (renL_id_of ha _) (ren_id_of hv _) h base
theorem wrap_id {n : Int} (h1 : -9223372036854775808 ≤ n) (h2 : n ≤ 9223372036854775807) : IntKind.i64.wrap n = n := by
  simp [IntKind.wrap, IntKind.signed, IntKind.bits]
  omega
theorem g0 : GSound C0 := GSound.none
theorem tmod_emod (i n : Int) (h : 0 < n) : (if i.tmod n < 0 then i.tmod n + n else i.tmod n) = i % n := by
  have h1 := Int.emod_nonneg i (show n ≠ 0 by omega)
  have h2 := Int.emod_lt_of_pos i h
  rw [Int.tmod_eq_emod]
  split <;> split <;> omega
theorem weaken {f : FuncId} {s s' : Spec} (h : SpecOK Try.prog f s) (hw : ∀ args hp base k, s' args hp base k → s args hp base k) : SpecOK Try.prog f s' :=
  fun args hp base k hk => h args hp base k (hw args hp base k hk)
theorem condSplit {c : Bool} {p q : Prop} (h1 : c = true → p) (h2 : c = false → q) : bif c then p else q := by
  cases c
  · exact h2 rfl
  · exact h1 rfl
theorem winR_ok {h : Heap} {id : Nat} {K : Wn → Prop} (hk : winR h id K) : ∃ (b : Blk) (w : Wn), h id = some b ∧ b.sz = 6 ∧ b.n = 1 ∧ b.rd 0 = wC w ∧ K w := by
  unfold winR at hk
  split at hk
  · rename_i b hb
    split at hk
    · rename_i d m c t s g h1 h2 h3
      exact ⟨b, ⟨d, m, c, t, s, g⟩, hb, h1, h2, h3, hk⟩
    · cases hk
  · cases hk
theorem winW_ok {h : Heap} {id : Nat} {K : Wn → Prop} (hk : winW h id K) : ∃ (b : Blk) (w : Wn), h id = some b ∧ b.sz = 6 ∧ b.n = 1 ∧ b.rw = true ∧ b.ty = 60 ∧ b.rd 0 = wC w ∧ K w := by
  unfold winW at hk
  split at hk
  · rename_i b hb
    split at hk
    · rename_i d m c t s g h1 h2 h3 h4 h5
      exact ⟨b, ⟨d, m, c, t, s, g⟩, hb, h1, h2, h3, h4, h5, hk⟩
    · cases hk
  · cases hk
/-- A window is read. -/
def RunR (f : FuncId) (rest : List SV) (h : Wn) (v : SV) : Prop := Canon Try.prog f (.ptr 0 0 6 0 :: rest) (rB h) fun v' _ => v' = v
/-- A window is written. -/
def RunW (f : FuncId) (rest : List SV) (h : Wn) (v : SV) (h' : Wn) : Prop := Canon Try.prog f (.ptr 0 0 6 0 :: rest) (wB h) fun v' hp => v' = v ∧ obsB true (hget hp 0) = .rows 6 1 true 60 [wC h']
theorem readOK {f : FuncId} {fn : Func} (hf : Try.prog.funcs[f]? = some fn) (hn : (fn.name == "runtime.NumGoroutine") = false) (hb : fn.body.isSome = true) {rest : List SV} {hd : Wn} {v : SV} (hr : RunR f rest hd v) {h : Heap} {id : Nat} {b : Blk}
    (h1 : h id = some b) (h2 : b.sz = 6) (h3 : b.n = 1) (h4 : b.rd 0 = wC hd) (h5 : svIdsL rest = []) (h6 : svIds v = []) (base : Nat) : CSim Try.prog f (.ptr id 0 6 0 :: rest) h base v [] [] :=
  CSim.ptrR (cells := wC hd) (cal hf hn hb) hr h1 h2 h3 h4 rfl h5 h6 base
theorem writeOK {f : FuncId} {fn : Func} (hf : Try.prog.funcs[f]? = some fn) (hn : (fn.name == "runtime.NumGoroutine") = false) (hb : fn.body.isSome = true) {rest : List SV} {hd hd' : Wn} {v : SV} (hr : RunW f rest hd v hd') {h : Heap} {id : Nat} {b : Blk}
    (h1 : h id = some b) (h2 : b.sz = 6) (h3 : b.n = 1) (h3' : b.rw = true) (h3'' : b.ty = 60) (h4 : b.rd 0 = wC hd) (h5 : svIdsL rest = []) (h6 : svIds v = []) (base : Nat) : CSim Try.prog f (.ptr id 0 6 0 :: rest) h base v [(id, some (wnB hd'))] [] :=
  CSim.ptrW (cells := wC hd) (cells' := wC hd') (cal hf hn hb) hr h1 h2 h3 h3' h3'' h4 rfl rfl rfl h5 h6 base
theorem runR {C : Ctx} (hP : C.P = Try.prog) (he : EqOK C) (gs : GSound C) {f : FuncId} {fn : Func} (hf : Try.prog.funcs[f]? = some fn) (hb : fn.body.isSome = true) {rest : List SV} {h : Wn} {v : SV}
    (hh : evalC C 64 1 (bodF fn) (enterS fn.ntmps (.ptr 0 0 6 0 :: rest)) (rB h) (endK Try.prog fn.results.toList fun v' _ => v' = v)) : RunR f rest h v := by
  refine CodeOK.body hf hb ?_
  have := CodeOK.eval (C := C) he gs (by rw [hP]; exact mixed) 64 hh
  rw [hP] at this
  exact this
theorem runW {C : Ctx} (hP : C.P = Try.prog) (he : EqOK C) (gs : GSound C) {f : FuncId} {fn : Func} (hf : Try.prog.funcs[f]? = some fn) (hb : fn.body.isSome = true) {rest : List SV} {h h' : Wn} {v : SV}
    (hh : evalC C 64 1 (bodF fn) (enterS fn.ntmps (.ptr 0 0 6 0 :: rest)) (wB h) (endK Try.prog fn.results.toList fun v' hp => v' = v ∧ obsB true (hget hp 0) = .rows 6 1 true 60 [wC h'])) : RunW f rest h v h' := by
  refine CodeOK.body hf hb ?_
  have := CodeOK.eval (C := C) he gs (by rw [hP]; exact mixed) 64 hh
  rw [hP] at this
  exact this
theorem ok11 : SpecOK Try.prog 11 s11 := by
  intro args h base k hk
  unfold s11 at hk
  split at hk
  · rename_i i n
    cases hc : decide (0 < n) && decide (n ≤ 9223372036854775807) with
    | false => simp [hc] at hk
    | true =>
      simp only [hc, cond_true] at hk
      simp only [Bool.and_eq_true, decide_eq_true_eq] at hc
      refine ⟨_, [], [], hk, plainOK g0 Try.func11 (by kernel_rfl) (by kernel_rfl) ?_ rfl rfl h base⟩
      show evalF C0 64 Try.f11 _ [] _
      rw [t11 i n (fun v => v = _)]
      have hz : (n == 0) = false := by rw [beq_eq_false_iff_ne]; omega
      have hb := tmod_emod i n hc.1
      have h1 := Int.emod_nonneg i (show n ≠ 0 by omega)
      have h2 := Int.emod_lt_of_pos i hc.1
      rw [hz, cond_false]
      cases hd : decide (i.tmod n < 0) with
      | true =>
        have hd' : i.tmod n < 0 := by simpa using hd
        rw [if_pos hd'] at hb
        rw [cond_true, hb, wrap_id (by omega) (by omega)]
      | false =>
        have hd' : ¬ i.tmod n < 0 := by simpa using hd
        rw [if_neg hd'] at hb
        rw [cond_false, hb]
  · cases hk
theorem ok30 : SpecOK Try.prog 30 sIsT := by
  intro args h base k hk
  unfold sIsT at hk
  split at hk
  · rename_i n
    refine ⟨_, [], [], hk, plainOK g0 Try.func30 (by kernel_rfl) (by kernel_rfl) ?_ rfl rfl h base⟩
    show evalF C0 64 Try.f30 _ [] _
    rw [t30 n (fun v => v = _)]
    unfold isT
    refine condSplit (fun q => ?_) fun q => ?_ <;> rw [q] <;> rfl
  · cases hk
theorem ok36 : SpecOK Try.prog 36 sIsT := by
  intro args h base k hk
  unfold sIsT at hk
  split at hk
  · rename_i n
    refine ⟨_, [], [], hk, plainOK g0 Try.func36 (by kernel_rfl) (by kernel_rfl) ?_ rfl rfl h base⟩
    show evalF C0 64 Try.f36 _ [] _
    rw [t36 n (fun v => v = _)]
    unfold isT
    refine condSplit (fun q => ?_) fun q => ?_ <;> rw [q] <;> rfl
  · cases hk
section
attribute [local irreducible] evalC
set_option maxRecDepth 100000
theorem r39 (w : Wn) (h : 1200 ≤ w.d ∧ w.d ≤ 65527) : RunR 39 [] w (.int .i64 (2 * w.d)) := by
  refine runR (C := C0) rfl ec g0 Try.func39 (by kernel_rfl) ?_
  show evalC C0 64 1 (bodF Try.f39) (enterS 9 _) _ (endK Try.prog Try.f39.results.toList _)
  rw [t39 w (fun v => v = .int .i64 (2 * w.d)), wrap_id (by omega) (by omega)]
theorem ok39 : SpecOK Try.prog 39 s39 := by
  intro args h base k hk
  unfold s39 at hk
  split at hk
  · obtain ⟨b, w, h1, h2, h3, h4, hk⟩ := winR_ok hk
    cases hc : decide (1200 ≤ w.d ∧ w.d ≤ 65527) with
    | false => rw [hc] at hk; exact hk.elim
    | true =>
      rw [hc] at hk
      exact ⟨_, [], [], hk, readOK Try.func39 (by kernel_rfl) (by kernel_rfl) (r39 w (of_decide_eq_true hc)) h1 h2 h3 h4 rfl rfl base⟩
  · cases hk
theorem r32 (w : Wn) (n : Int) : RunR 32 [.int .i64 n] w (.bool (behV w n)) := by
  refine runR (C := C0) rfl ec g0 Try.func32 (by kernel_rfl) ?_
  show evalC C0 64 1 (bodF Try.f32) (enterS 20 _) _ (endK Try.prog Try.f32.results.toList _)
  rw [t32 w n (fun v => v = .bool (behV w n))]
  unfold behV
  refine condSplit (fun q => ?_) fun q => ?_ <;> rw [q] <;> rfl
theorem ok32 : SpecOK Try.prog 32 s32 := by
  intro args h base k hk
  unfold s32 at hk
  split at hk
  · obtain ⟨b, w, h1, h2, h3, h4, hk⟩ := winR_ok hk
    exact ⟨_, [], [], hk, readOK Try.func32 (by kernel_rfl) (by kernel_rfl) (r32 w _) h1 h2 h3 h4 rfl rfl base⟩
  · cases hk
theorem r34 (w : Wn) : RunR 34 [] w (.bool (slowV w)) := by
  refine runR (C := C0) rfl ec g0 Try.func34 (by kernel_rfl) ?_
  show evalC C0 64 1 (bodF Try.f34) (enterS 22 _) _ (endK Try.prog Try.f34.results.toList _)
  rw [t34 w (fun v => v = .bool (slowV w))]
  unfold slowV
  refine condSplit (fun q => ?_) fun q => ?_ <;> rw [q] <;> rfl
theorem ok34 : SpecOK Try.prog 34 s34 := by
  intro args h base k hk
  unfold s34 at hk
  split at hk
  · obtain ⟨b, w, h1, h2, h3, h4, hk⟩ := winR_ok hk
    exact ⟨_, [], [], hk, readOK Try.func34 (by kernel_rfl) (by kernel_rfl) (r34 w) h1 h2 h3 h4 rfl rfl base⟩
  · cases hk
theorem gs1 : GSound C1 := ((((g0.add ok30).add ok36).add ok39).add ok32).add ok34
theorem may_of {w : Wn} {b : Bool} (h : (1200 ≤ w.d ∧ w.d ≤ 65527 ∧ w.m ≤ 1099511627776 ∧ 2 * w.d ≤ w.c ∧ w.c ≤ w.m ∧ 0 ≤ w.g ∧ w.g < w.c ∧ (w.t = -1 ∨ w.d ≤ w.t ∧ w.t ≤ w.m) ∧ (w.s = -1 ∨ 0 ≤ w.s ∧ w.s ≤ 9007199254740991)) ↔ b = true) : mayW w = b := by
  unfold mayW
  cases b
  · rw [decide_eq_false_iff_not, h]; simp
  · rw [decide_eq_true_eq, h]
theorem r41 (w : Wn) : RunR 41 [] w (.bool (mayW w)) := by
  refine runR (C := C1) rfl ec gs1 Try.func41 (by kernel_rfl) ?_
  show evalC C1 64 1 (bodF Try.f41) (enterS 116 _) _ (endK Try.prog Try.f41.results.toList _)
  rw [t41 w (fun v => v = .bool (mayW w))]
  repeat' (refine condSplit (fun q => ?_) fun q => ?_)
  all_goals
    simp only [decide_eq_true_eq, decide_eq_false_iff_not, bne_iff_ne, ne_eq, beq_iff_eq, bne_eq_false_iff_eq, beq_eq_false_iff_ne] at *
  all_goals first
    | (refine congrArg SV.bool (may_of ?_).symm; simp only [isT_iff, Bool.false_eq_true, iff_false, iff_true]; omega)
    | omega
theorem ok41 : SpecOK Try.prog 41 s41 := by
  intro args h base k hk
  unfold s41 at hk
  split at hk
  · obtain ⟨b, w, h1, h2, h3, h4, hk⟩ := winR_ok hk
    exact ⟨_, [], [], hk, readOK Try.func41 (by kernel_rfl) (by kernel_rfl) (r41 w) h1 h2 h3 h4 rfl rfl base⟩
  · cases hk
theorem r43 (w : Wn) (n : Int) (hw : Sm w ∧ 0 ≤ n ∧ n ≤ 65535) : RunW 43 [.int .i64 n] w (.tuple []) (growW w n) := by
  refine runW (C := C0) rfl ec g0 Try.func43 (by kernel_rfl) ?_
  show evalC C0 64 1 (bodF Try.f43) (enterS 21 _) _ (endK Try.prog Try.f43.results.toList _)
  rw [t43 w n (fun v o => v = .tuple [] ∧ o = .rows 6 1 true 60 [wC (growW w n)])]
  obtain ⟨⟨-, -, hc, -⟩, h1, h2⟩ := hw
  rw [wrap_id (by omega) (by omega)]
  exact ⟨rfl, rfl⟩
theorem ok43 : SpecOK Try.prog 43 s43 := by
  intro args h base k hk
  unfold s43 at hk
  split at hk
  · obtain ⟨b, w, h1, h2, h3, h4, h5, h6, hw, hk⟩ := winW_ok hk
    exact ⟨_, _, [], hk _ rfl, writeOK Try.func43 (by kernel_rfl) (by kernel_rfl) (r43 w _ hw) h1 h2 h3 h4 h5 h6 rfl rfl base⟩
  · cases hk
theorem r40 (w : Wn) (hw : mayW w = true) : RunW 40 [] w (.tuple []) (col1 w) := by
  refine runW (C := C1) rfl ec gs1 Try.func40 (by kernel_rfl) ?_
  show evalC C1 64 1 (bodF Try.f40) (enterS 16 _) _ (endK Try.prog Try.f40.results.toList _)
  rw [t40 w (fun v o => v = .tuple [] ∧ o = .rows 6 1 true 60 [wC (col1 w)])]
  have hd : 1200 ≤ w.d ∧ w.d ≤ 65527 := by have := of_decide_eq_true hw; omega
  rw [decide_eq_true hd]
  exact ⟨rfl, rfl⟩
end
end Go.Proofs.Ytefjhkgkdmjopaa
