/-
  Chapter 16 by the engine: New, Copy, call, what lives, the examples.
-/
import Derived.Test.YtllkhfabfcpieaaV2
import Derived.Test.YtllkhfabfcpieaaT3
namespace Go.Proofs.Ytllkhfabfcpieaa
open Go.RowKit
section
attribute [local irreducible] evalC
set_option maxRecDepth 100000
theorem nob (x : Nat) : hget [] x = none := by cases x <;> rfl
/-- A handshake is handed back, in a new block. -/
def NewP (m : Nat) (h : Hd) (v : SV) (o : BO) : Prop := ∃ t, m ≤ t ∧ v = .ptr t 0 7 0 ∧ o = hbO h
theorem newOK {f : FuncId} {args : List SV} {h : Heap} (hcall : ∀ vs w, (callFunc f vs).run Try.prog w = .ok (.enter f vs) w) (args1 : List SV) (hp1 : LHeap) (ψ : List Nat) (hl : ψ.length = hp1.length)
    {base : Nat} {hd : Hd} (hinj : ∀ (i j x : Nat), ψ[i]? = some x → ψ[j]? = some x → i = j) (ha : renL (fun i => ψ[i]?) args1 = some args)
    (hb : ∀ (i : Nat) (b1 : Blk), hget hp1 i = some b1 → b1.rw = false ∧ ∃ x b, ψ[i]? = some x ∧ h x = some b ∧ WB (fun i => ψ[i]?) b1 b)
    (hcan : Canon Try.prog f args1 hp1 fun v hp => NewP hp1.length hd v (obsP v hp)) : CSim Try.prog f args h base (.ptr base 0 7 0) [] [hB hd] :=
  CSim.newP (cells := hC hd) (ty := 54) hcall args1 hp1 ψ hl rfl hinj ha hb (hcan.mono fun v hp ⟨t, h1, h2, h3⟩ => by subst h2; exact ⟨t, rfl, h1, h3⟩)
theorem canon10 (b : Bool) : Canon Try.prog 10 [.bool b] [] fun v hp => NewP 0 (newH b) v (obsP v hp) := by
  refine CodeOK.body Try.func10 (by kernel_rfl) (CodeOK.eval (C := C0) ec g0 mixed 64 ?_)
  show evalC C0 64 0 (bodF Try.f10) (enterS 9 _) _ (endK Try.prog Try.f10.results.toList fun v hp => NewP 0 (newH b) v (obsP v hp))
  rw [t10 b (NewP 0 (newH b))]
  exact ⟨_, Nat.zero_le _, rfl, rfl⟩
theorem ok10 : SpecOK Try.prog 10 s10 := by
  intro args h base k hk
  unfold s10 at hk
  split at hk
  · rename_i b
    exact ⟨_, [], _, hk, newOK (cal Try.func10 (by kernel_rfl) (by kernel_rfl)) [.bool b] [] [] rfl (fun i j x e => by simp at e) rfl (fun i b1 e => by rw [nob] at e; cases e) (canon10 b)⟩
  · cases hk
theorem canon24 (h : Hd) : Canon Try.prog 24 [.ptr 0 0 7 0] (rB h) fun v hp => bif nothV h then v = .nilPtr else NewP 1 h v (obsP v hp) := by
  refine CodeOK.body Try.func24 (by kernel_rfl) (CodeOK.eval (C := C1) ec gs1 mixed 64 ?_)
  show evalC C1 64 1 (bodF Try.f24) (enterS 9 _) _ (endK Try.prog Try.f24.results.toList fun v hp => (fun v o => bif nothV h then v = .nilPtr else NewP 1 h v o) v (obsP v hp))
  rw [t24 h (fun v o => bif nothV h then v = .nilPtr else NewP 1 h v o)]
  have e : Hd.mk h.sv h.e0 h.e1 h.e2 h.va h.cf h.an = h := rfl
  rw [e]
  cases nothV h with
  | true => rfl
  | false => exact ⟨1, Nat.le_refl _, rfl, rfl⟩
theorem ok24 : SpecOK Try.prog 24 s24 := by
  intro args h base k hk
  unfold s24 at hk
  split at hk
  · refine ⟨_, [], [], hk, plainOK gs1 Try.func24 (by kernel_rfl) (by kernel_rfl) ?_ rfl rfl h base⟩
    show evalF C1 64 Try.f24 _ [] _
    rw [n24 (fun v => v = _)]
  · rename_i id
    obtain ⟨b, hd, h1, h2, h3, h4, hk⟩ := handR_ok hk
    have hc := canon24 hd
    cases hn : nothV hd with
    | true =>
      rw [hn] at hk hc
      exact ⟨_, [], [], hk, readOK Try.func24 (by kernel_rfl) (by kernel_rfl) (v := .nilPtr) hc h1 h2 h3 h4 rfl rfl base⟩
    | false =>
      rw [hn] at hk hc
      refine ⟨_, [], _, hk, newOK (cal Try.func24 (by kernel_rfl) (by kernel_rfl)) [.ptr 0 0 7 0] (rB hd) [id] rfl inj1 rfl (fun i b1 e => ?_) hc⟩
      match i, e with
      | 0, e =>
        obtain rfl := Option.some.inj (show some (oneB (hC hd) false 0) = some b1 from e)
        refine ⟨rfl, id, b, rfl, h1, WB.of_rows h2.symm (by rw [h3]; exact Nat.le_refl _) (fun q => nomatch q) (fun q => nomatch q) fun r hr' => ?_⟩
        obtain rfl : r = 0 := by have : r < 1 := hr'; omega
        exact ⟨h4.symm, rfl⟩
      | i + 1, e => exact nomatch (show (none : Option Blk) = some b1 from e)
  · cases hk
theorem gs3 : GSound C3 := ((((((((((gs2.add ok11).add ok12).add ok14).add ok15).add ok16).add ok19).add ok30).add ok27).add ok31).add ok26).add ok29
theorem r13 (h : Hd) (a b : Int) : RunW 13 [.agg [.int .i64 a, .int .i64 b]] h (.int .i64 (callE h a b)) (callH h a b) := by
  refine runW (C := C3) rfl ec gs3 Try.func13 (by kernel_rfl) ?_
  show evalC C3 64 1 (bodF Try.f13) (enterS 34 _) _ (endK Try.prog Try.f13.results.toList _)
  rw [t13 h a b (fun v o => v = .int .i64 (callE h a b) ∧ o = .rows 7 1 true 54 [hC (callH h a b)])]
  unfold callE callH
  have e : Hd.mk h.sv h.e0 h.e1 h.e2 h.va h.cf h.an = h := rfl
  rw [e]
  refine condSplit (fun q => ?_) fun q => ?_
  · rintro h' e rfl rfl; rw [q]; exact ⟨rfl, rfl⟩
  refine condSplit (fun q2 => ?_) fun q2 => ?_
  · rintro h' e rfl rfl; rw [q, q2]; exact ⟨rfl, rfl⟩
  refine condSplit (fun q3 => ?_) fun q3 => ?_
  · rintro h' e rfl rfl; rw [q, q2, q3]; exact ⟨rfl, rfl⟩
  refine condSplit (fun q4 => ?_) fun q4 => ?_
  · rintro h' e rfl rfl; rw [q, q2, q3, q4]; exact ⟨rfl, rfl⟩
  refine condSplit (fun q5 => ?_) fun q5 => ?_
  · rintro h' e rfl rfl; rw [q, q2, q3, q4, q5]; exact ⟨rfl, rfl⟩
  · rintro h' e rfl rfl; rw [q, q2, q3, q4, q5]; exact ⟨rfl, rfl⟩
theorem ok13 : SpecOK Try.prog 13 s13 := by
  intro args h base k hk
  unfold s13 at hk
  split at hk
  · rename_i id a b
    obtain ⟨bl, hd, h1, h2, h3, h4, h5, h6, hk⟩ := handW_ok hk
    exact ⟨_, _, [], hk _ _ rfl rfl, writeOK Try.func13 (by kernel_rfl) (by kernel_rfl) (r13 hd a b) h1 h2 h3 h4 h5 h6 rfl rfl base⟩
  · cases hk
/-- A list is handed back. -/
def NewL (m : Nat) (l : List Int) (v : SV) (o : BO) : Prop := match l with
  | [] => v = .nilSlice
  | x :: l => ∃ t, m ≤ t ∧ v = .slice t 0 1 (l.length + 1) ∧ o = .rows 1 (l.length + 1) true 3 ((x :: l).map fun n => [.int .i64 n])
theorem canon21 (h : Hd) : Canon Try.prog 21 [.ptr 0 0 7 0] (rB h) fun v hp => NewL 1 (liveL h) v (obsRes v hp) := by
  refine CodeOK.body Try.func21 (by kernel_rfl) (CodeOK.eval (C := C3) ec gs3 mixed 64 ?_)
  show evalC C3 64 1 (bodF Try.f21) (enterS 16 _) _ (endK Try.prog Try.f21.results.toList fun v hp => NewL 1 (liveL h) v (obsRes v hp))
  rw [t21 h (NewL 1 (liveL h))]
  have e : Hd.mk h.sv h.e0 h.e1 h.e2 h.va h.cf h.an = h := rfl
  rw [e]
  unfold liveL
  cases livesV h 0 <;> cases livesV h 1 <;> cases livesV h 2 <;> first | rfl | exact ⟨_, by omega, rfl, rfl⟩
theorem live_eq (h : Hd) (K : List Int → Prop) : (bif livesV h 0 then (bif livesV h 1 then (bif livesV h 2 then K [0, 1, 2] else K [0, 1]) else (bif livesV h 2 then K [0, 2] else K [0]))
    else (bif livesV h 1 then (bif livesV h 2 then K [1, 2] else K [1]) else (bif livesV h 2 then K [2] else K []))) = K (liveL h) := by
  unfold liveL
  cases livesV h 0 <;> cases livesV h 1 <;> cases livesV h 2 <;> rfl
theorem listOK {f : FuncId} {args : List SV} {h : Heap} (hcall : ∀ vs w, (callFunc f vs).run Try.prog w = .ok (.enter f vs) w) (args1 : List SV) (hp1 : LHeap) (ψ : List Nat) (hl : ψ.length = hp1.length)
    {base : Nat} {l : List Int} (hinj : ∀ (i j x : Nat), ψ[i]? = some x → ψ[j]? = some x → i = j) (ha : renL (fun i => ψ[i]?) args1 = some args)
    (hb : ∀ (i : Nat) (b1 : Blk), hget hp1 i = some b1 → b1.rw = false ∧ ∃ x b, ψ[i]? = some x ∧ h x = some b ∧ WB (fun i => ψ[i]?) b1 b)
    (hcan : Canon Try.prog f args1 hp1 fun v hp => NewL hp1.length l v (obsRes v hp)) {k : SV → Wr → List Blk → Prop} (hk : kI k base l) : ∃ v wr news, k v wr news ∧ CSim Try.prog f args h base v wr news := by
  cases l with
  | nil => exact ⟨_, _, _, hk, CSim.reads hcall args1 hp1 ψ hl (hcan.mono fun v hp h => h) ha hb rfl base⟩
  | cons x rows =>
    refine ⟨_, _, _, hk, CSim.list (b := bL (x :: rows)) hcall args1 hp1 ψ hl rfl (fun r _ => rfl) hinj hcan ha hb fun v' hp2 hk => ?_⟩
    obtain ⟨t, h1, rfl, h3⟩ := hk
    simp only [obsRes] at h3
    cases hb : hget hp2 t with
    | none => rw [hb] at h3; simp [obsB] at h3
    | some b2 =>
      rw [hb] at h3
      simp only [obsB, BO.rows.injEq] at h3
      obtain ⟨e1, e2, e3, e4, e5⟩ := h3
      refine ⟨t, b2, rfl, h1, hb, e1, e2, e3, e4, fun r hr => ?_⟩
      have hr : r < rows.length + 1 := hr
      have e6 := congrArg (fun L => L[r]?) e5
      simp only [List.getElem?_map] at e6
      rw [e2, List.getElem?_range hr, List.getElem?_eq_getElem (by simpa using hr)] at e6
      simp only [Option.map_some, Option.some.injEq] at e6
      show b2.rd r = [.int .i64 ((x :: rows).getD r 0)]
      rw [e6, List.getD_eq_getElem?_getD, List.getElem?_eq_getElem (by simpa using hr)]
      rfl
theorem one_wb {hd : Hd} {id : Nat} {b : Blk} {h : Heap} (h1 : h id = some b) (h2 : b.sz = 7) (h3 : b.n = 1) (h4 : b.rd 0 = hC hd) : ∀ (i : Nat) (b1 : Blk), hget (rB hd) i = some b1 → b1.rw = false ∧ ∃ x b, [id][i]? = some x ∧ h x = some b ∧ WB (fun i => [id][i]?) b1 b := fun i b1 e => by
  match i, e with
  | 0, e =>
    obtain rfl := Option.some.inj (show some (oneB (hC hd) false 0) = some b1 from e)
    refine ⟨rfl, id, b, rfl, h1, WB.of_rows h2.symm (by rw [h3]; exact Nat.le_refl _) (fun q => nomatch q) (fun q => nomatch q) fun r hr' => ?_⟩
    obtain rfl : r = 0 := by have : r < 1 := hr'; omega
    exact ⟨h4.symm, rfl⟩
  | i + 1, e => exact nomatch (show (none : Option Blk) = some b1 from e)
theorem ok21 : SpecOK Try.prog 21 s21 := by
  intro args h base k hk
  unfold s21 at hk
  split at hk
  · refine ⟨_, [], [], hk, CSim.plain (args := [.nilPtr]) (cal Try.func21 (by kernel_rfl) (by kernel_rfl)) (CodeOK.body Try.func21 (by kernel_rfl) (CodeOK.eval (C := C3) ec gs3 mixed 64 ?_)) rfl rfl h base⟩
    show evalC C3 64 0 (bodF Try.f21) (enterS 16 _) _ (endK Try.prog Try.f21.results.toList _)
    rw [n21 (fun v => v = .nilSlice)]
  · rename_i id
    obtain ⟨b, hd, h1, h2, h3, h4, hk⟩ := handR_ok hk
    rw [live_eq hd (kI k base)] at hk
    exact listOK (cal Try.func21 (by kernel_rfl) (by kernel_rfl)) [.ptr 0 0 7 0] (rB hd) [id] rfl inj1 rfl (one_wb h1 h2 h3 h4) (canon21 hd) hk
  · cases hk
theorem gs4 : GSound C4 := ((((gs3.add ok10).add ok24).add ok13).add ok21).add ok20
theorem r34 (h : Hd) (b : Bool) : RunR 34 [.bool b] h (.bool (begV h b)) := by
  refine runR (C := C4) rfl ec gs4 Try.func34 (by kernel_rfl) ?_
  show evalC C4 64 1 (bodF Try.f34) (enterS 31 _) _ (endK Try.prog Try.f34.results.toList _)
  rw [t34 h b (fun v => v = .bool (begV h b))]
  unfold begV liveL
  have e : Hd.mk h.sv h.e0 h.e1 h.e2 h.va h.cf h.an = h := rfl
  rw [e]
  cases livesV h 0 <;> cases livesV h 1 <;> cases livesV h 2 <;> (try rfl)
  cases (validV h == !b) <;> cases (sureV h == b) <;> rfl
theorem ok34 : SpecOK Try.prog 34 s34 := by
  intro args h base k hk
  unfold s34 at hk
  split at hk
  · rename_i id b
    obtain ⟨bl, hd, h1, h2, h3, h4, hk⟩ := handR_ok hk
    exact ⟨_, [], [], hk, readOK Try.func34 (by kernel_rfl) (by kernel_rfl) (r34 hd b) h1 h2 h3 h4 rfl rfl base⟩
  · cases hk
theorem handW_mono {h : Heap} {id : Nat} {K K' : Hd → Prop} (hk : handW h id K) (hK : ∀ hd, K hd → K' hd) : handW h id K' := by
  unfold handW at hk ⊢
  split at hk
  · split at hk
    · exact hK _ hk
    · cases hk
  · cases hk
theorem okv27 : SpecOK Try.prog 27 v27 := weaken ok27 fun args hp base k hk => by
  unfold v27 at hk
  split at hk
  · rename_i id
    unfold s27
    exact handW_mono hk fun hd hk h' e e1 e2 => by subst e1 e2; exact hk
  · cases hk
theorem okv31 : SpecOK Try.prog 31 v31 := weaken ok31 fun args hp base k hk => by
  unfold v31 at hk
  split at hk
  · rename_i id s
    unfold s31
    exact handW_mono hk fun hd hk h' e e1 e2 => by subst e1 e2; exact hk
  · cases hk
theorem okv26 : SpecOK Try.prog 26 v26 := weaken ok26 fun args hp base k hk => by
  unfold v26 at hk
  split at hk
  · rename_i id s
    unfold s26
    exact handW_mono hk fun hd hk h' e e1 e2 => by subst e1 e2; exact hk
  · cases hk
theorem okv29 : SpecOK Try.prog 29 v29 := weaken ok29 fun args hp base k hk => by
  unfold v29 at hk
  split at hk
  · rename_i id s
    unfold s29
    exact handW_mono hk fun hd hk h' e e1 e2 => by subst e1 e2; exact hk
  · cases hk
theorem gs5 : GSound C5 := ((((gs4.add ok34).add okv27).add okv31).add okv26).add okv29
theorem ok17 : SpecOK Try.prog 17 s17 := by
  intro args h base k hk
  unfold s17 at hk
  split at hk
  · refine ⟨_, [], [], hk, plainOK gs5 Try.func17 (by kernel_rfl) (by kernel_rfl) ?_ rfl rfl h base⟩
    show evalF C5 64 Try.f17 _ [] _
    rw [t17 (fun v => v = _)]
  · cases hk
theorem gs6 : GSound C6 := gs4.add ok17
end
end Go.Proofs.Ytllkhfabfcpieaa
