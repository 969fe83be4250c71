/-
  Chapter 16 by the engine: the document's handshake: New, Copy, Keys, Discard, Validate, Confirm, Answered, Live.
-/
import Derived.Test.YtllkhfabfcpieaaT11
namespace Go.Proofs.Ytllkhfabfcpieaa
open Go.RowKit
theorem neN_iff {a b : Nat} (h : neN a b = true) : a ≠ b := by
  rintro rfl
  simp [neN] at h
theorem mOk_k {id ik base : Nat} {gs : SV} (h : mOk id ik gs base = true) : id ≠ ik ∧ ik < base := by
  unfold mOk at h
  simp only [Bool.and_eq_true] at h
  exact ⟨neN_iff h.1, by simpa [Nat.blt_eq] using h.2.1⟩
theorem mOk_g {id ik ig ng base : Nat} (h : mOk id ik (.slice ig 0 1 ng) base = true) : id ≠ ig ∧ ik ≠ ig ∧ ig < base := by
  unfold mOk at h
  simp only [Bool.and_eq_true] at h
  obtain ⟨_, _, h3, h4, h5⟩ := h
  exact ⟨neN_iff h3, neN_iff h4, by simpa [Nat.blt_eq] using h5⟩
/-- A handshake that is to be written. -/
structure MW (h : Heap) (id base : Nat) (b bk : Blk) (sv : Bool) (ik nk : Nat) (gs : SV) (va cf an : Bool) (gf : Nat → Int) (ng : Nat) : Prop where
  hb : h id = some b
  sz : b.sz = 6
  n : b.n = 1
  rw : b.rw = true
  ty : b.ty = 57
  rd : b.rd 0 = mC sv (.slice ik 0 1 nk) gs va cf an
  hk : h ik = some bk
  isk : IsI bk nk
  lg : Lst h gs gf ng
  ok : mOk id ik gs base = true
theorem mAllW_ok {h : Heap} {id base : Nat} {K : Bool → Nat → Nat → (Nat → Int) → SV → (Nat → Int) → Nat → Bool → Bool → Bool → Prop} (hk : mAllW h id base K) : ∃ (b bk : Blk) (sv : Bool) (ik nk : Nat) (gs : SV) (va cf an : Bool) (gf : Nat → Int) (ng : Nat), MW h id base b bk sv ik nk gs va cf an gf ng ∧ K sv ik nk (fun r => rI (bk.rd r)) gs gf ng va cf an := by
  obtain ⟨b, sv, ik, nk, gs, va, cf, an, h1, h2, h3, h3', h3'', h4, hk⟩ := mW_ok hk
  obtain ⟨bk, k1, k2, hk⟩ := lst_sl hk
  obtain ⟨gf, ng, hg, hk⟩ := lst_ok hk
  cases ho : mOk id ik gs base with
  | false => rw [ho] at hk; exact hk.elim
  | true =>
    rw [ho] at hk
    exact ⟨b, bk, sv, ik, nk, gs, va, cf, an, gf, ng, ⟨h1, h2, h3, h3', h3'', h4, k1, k2, hg, ho⟩, hk⟩
section
variable {f : FuncId} {rest : List SV} {h : Heap} {id base ik nk ng : Nat} {b bk : Blk} {sv va cf an va' cf' an' : Bool} {gs V : SV} {gf : Nat → Int}
/-- Its facts are written. -/
theorem MW.flags (M : MW h id base b bk sv ik nk gs va cf an gf ng) (hcall : ∀ vs w, (callFunc f vs).run Try.prog w = .ok (.enter f vs) w)
    (hn : nk ≤ 100000 → ng = 0 → gf = (fun _ => 0) → Canon Try.prog f (.ptr 0 0 6 0 :: rest) (hpN (mB sv (.slice 1 0 1 nk) .nilSlice va cf an) (fun r => rI (bk.rd r)) nk) fun v' hp => v' = V ∧ obsB true (hget hp 0) = .rows 6 1 true 57 [mC sv (.slice 1 0 1 nk) .nilSlice va' cf' an'])
    (hs : nk ≤ 100000 → ng ≤ 100000 → Canon Try.prog f (.ptr 0 0 6 0 :: rest) (hpS (mB sv (.slice 1 0 1 nk) (.slice 2 0 1 ng) va cf an) (fun r => rI (bk.rd r)) nk gf ng) fun v' hp => v' = V ∧ obsB true (hget hp 0) = .rows 6 1 true 57 [mC sv (.slice 1 0 1 nk) (.slice 2 0 1 ng) va' cf' an'])
    (hr : svIdsL rest = []) (hv : svIds V = []) : CSim Try.prog f (.ptr id 0 6 0 :: rest) h base V (m1 id ik nk gs sv va' cf' an') [] := by
  have hk := mOk_k M.ok
  have lg := M.lg
  have M' := M
  rcases lg with ⟨rfl, rfl, rfl⟩ | ⟨ig, bg, rfl, g1, g2, rfl⟩
  · exact mwrite hcall (cl_k sv va cf an) (cl_k sv va' cf' an') M.hb M.sz M.n M.rw M.ty M.rd M.hk M.isk hk.2 (gv_n hk.1) (hn M.isk.sm rfl rfl) hr hv
  · have hg := mOk_g M.ok
    exact mwrite hcall (cl_k sv va cf an) (cl_k sv va' cf' an') M.hb M.sz M.n M.rw M.ty M.rd M.hk M.isk hk.2 (gv_s hk.1 hg.1 hg.2.1 g1 g2 hg.2.2) (hs M.isk.sm g2.sm) hr hv
end
section
attribute [local irreducible] evalC
set_option maxRecDepth 100000
theorem ok42 : SpecOK Try.prog 42 s42 := by
  intro args h base k hk
  unfold s42 at hk
  split at hk
  · rename_i id
    obtain ⟨b, bk, sv, ik, nk, gs, va, cf, an, gf, ng, M, hk⟩ := mAllW_ok hk
    refine ⟨_, _, [], hk, M.flags (rest := []) (cal Try.func42 (by kernel_rfl) (by kernel_rfl)) (fun hn e1 e2 => ?_) (fun hn hg => ?_) rfl rfl⟩
    · refine CodeOK.body Try.func42 (by kernel_rfl) (CodeOK.eval (C := C10) ec gs10 mixed 64 ?_)
      show evalC C10 64 2 (bodF Try.f42) (enterS 6 _) _ (endK Try.prog Try.f42.results.toList _)
      rw [t42n sv va cf an _ nk (fun v o => v = .int .i64 0 ∧ o = .rows 6 1 true 57 [mC sv (.slice 1 0 1 nk) .nilSlice true cf an])]
      exact ⟨rfl, rfl⟩
    · refine CodeOK.body Try.func42 (by kernel_rfl) (CodeOK.eval (C := C10) ec gs10 mixed 64 ?_)
      show evalC C10 64 3 (bodF Try.f42) (enterS 6 _) _ (endK Try.prog Try.f42.results.toList _)
      rw [t42s sv va cf an _ nk _ ng (fun v o => v = .int .i64 0 ∧ o = .rows 6 1 true 57 [mC sv (.slice 1 0 1 nk) (.slice 2 0 1 ng) true cf an])]
      exact ⟨rfl, rfl⟩
  · cases hk
theorem lvT {kf gf : Nat → Int} {nk ng : Nat} {s : Int} (q : livM kf gf nk ng s = true) : (!livM kf gf nk ng s) = false := by rw [q]; rfl
theorem lvF {kf gf : Nat → Int} {nk ng : Nat} {s : Int} (q : livM kf gf nk ng s = false) : (!livM kf gf nk ng s) = true := by rw [q]; rfl
theorem livM_nil (kf : Nat → Int) (nk : Nat) (s : Int) : livM kf (fun _ => 0) nk 0 s = inF kf nk s := by unfold livM; simp [inF]
theorem ok43 : SpecOK Try.prog 43 s43 := by
  intro args h base k hk
  unfold s43 at hk
  split at hk
  · rename_i id
    obtain ⟨b, bk, sv, ik, nk, gs, va, cf, an, gf, ng, M, hk⟩ := mAllW_ok hk
    cases q : livM (fun r => rI (bk.rd r)) gf nk ng 2 with
    | true =>
      rw [q] at hk
      refine ⟨_, _, [], hk, M.flags (rest := []) (cal Try.func43 (by kernel_rfl) (by kernel_rfl)) (fun hn e1 e2 => ?_) (fun hn hg => ?_) rfl rfl⟩
      · subst e1 e2
        refine CodeOK.body Try.func43 (by kernel_rfl) (CodeOK.eval (C := C10) ec gs10 mixed 64 ?_)
        show evalC C10 64 2 (bodF Try.f43) (enterS 12 _) _ (endK Try.prog Try.f43.results.toList _)
        rw [t43n sv va cf an _ nk (fun v o => v = .int .i64 0 ∧ o = .rows 6 1 true 57 [mC sv (.slice 1 0 1 nk) .nilSlice true true an])]
        exact ⟨isI_bF _ hn, condF (lvT q) ⟨rfl, rfl⟩⟩
      · refine CodeOK.body Try.func43 (by kernel_rfl) (CodeOK.eval (C := C10) ec gs10 mixed 64 ?_)
        show evalC C10 64 3 (bodF Try.f43) (enterS 12 _) _ (endK Try.prog Try.f43.results.toList _)
        rw [t43s sv va cf an _ nk _ ng (fun v o => v = .int .i64 0 ∧ o = .rows 6 1 true 57 [mC sv (.slice 1 0 1 nk) (.slice 2 0 1 ng) true true an])]
        exact ⟨isI_bF _ hn, isI_bF _ hg, condF (lvT q) ⟨rfl, rfl⟩⟩
    | false =>
      rw [q] at hk
      refine ⟨_, _, [], hk, M.flags (rest := []) (cal Try.func43 (by kernel_rfl) (by kernel_rfl)) (fun hn e1 e2 => ?_) (fun hn hg => ?_) rfl rfl⟩
      · subst e1 e2
        refine CodeOK.body Try.func43 (by kernel_rfl) (CodeOK.eval (C := C10) ec gs10 mixed 64 ?_)
        show evalC C10 64 2 (bodF Try.f43) (enterS 12 _) _ (endK Try.prog Try.f43.results.toList _)
        rw [t43n sv va cf an _ nk (fun v o => v = .int .i64 160 ∧ o = .rows 6 1 true 57 [mC sv (.slice 1 0 1 nk) .nilSlice va cf an])]
        exact ⟨isI_bF _ hn, condT (lvF q) ⟨rfl, rfl⟩⟩
      · refine CodeOK.body Try.func43 (by kernel_rfl) (CodeOK.eval (C := C10) ec gs10 mixed 64 ?_)
        show evalC C10 64 3 (bodF Try.f43) (enterS 12 _) _ (endK Try.prog Try.f43.results.toList _)
        rw [t43s sv va cf an _ nk _ ng (fun v o => v = .int .i64 160 ∧ o = .rows 6 1 true 57 [mC sv (.slice 1 0 1 nk) (.slice 2 0 1 ng) va cf an])]
        exact ⟨isI_bF _ hn, isI_bF _ hg, condT (lvF q) ⟨rfl, rfl⟩⟩
  · cases hk
/-- What Answered comes to. -/
theorem canon44 {sv va cf an : Bool} {kf : Nat → Int} {nk : Nat} (s : Int) (hn : nk ≤ 100000) : Canon Try.prog 44 [.ptr 0 0 6 0, .int .i64 s] (hpN (mB sv (.slice 1 0 1 nk) .nilSlice va cf an) kf nk) fun v' hp =>
    (fun v o => bif !inS s then v = .int .i64 9 ∧ o = .rows 6 1 true 57 [mC sv (.slice 1 0 1 nk) .nilSlice va cf an] else bif livM kf (fun _ => 0) nk 0 s then v = .int .i64 0 ∧ o = .rows 6 1 true 57 [mC sv (.slice 1 0 1 nk) .nilSlice va cf (an || s != 0)] else v = .int .i64 160 ∧ o = .rows 6 1 true 57 [mC sv (.slice 1 0 1 nk) .nilSlice va cf an]) v' (obsB true (hget hp 0)) := by
  refine CodeOK.body Try.func44 (by kernel_rfl) (CodeOK.eval (C := C10) ec gs10 mixed 64 ?_)
  show evalC C10 64 2 (bodF Try.f44) (enterS 23 _) _ (endK Try.prog Try.f44.results.toList fun v' hp => (fun v o => bif !inS s then v = .int .i64 9 ∧ o = .rows 6 1 true 57 [mC sv (.slice 1 0 1 nk) .nilSlice va cf an] else bif livM kf (fun _ => 0) nk 0 s then v = .int .i64 0 ∧ o = .rows 6 1 true 57 [mC sv (.slice 1 0 1 nk) .nilSlice va cf (an || s != 0)] else v = .int .i64 160 ∧ o = .rows 6 1 true 57 [mC sv (.slice 1 0 1 nk) .nilSlice va cf an]) v' (obsB true (hget hp 0)))
  rw [t44n sv va cf an kf nk s (fun v o => bif !inS s then v = .int .i64 9 ∧ o = .rows 6 1 true 57 [mC sv (.slice 1 0 1 nk) .nilSlice va cf an] else bif livM kf (fun _ => 0) nk 0 s then v = .int .i64 0 ∧ o = .rows 6 1 true 57 [mC sv (.slice 1 0 1 nk) .nilSlice va cf (an || s != 0)] else v = .int .i64 160 ∧ o = .rows 6 1 true 57 [mC sv (.slice 1 0 1 nk) .nilSlice va cf an])]
  refine condSplit (fun q => ?_) fun q => ?_
  · rw [q]; exact ⟨rfl, rfl⟩
  rw [q]
  refine ⟨isI_bF _ hn, condSplit (fun q2 => ?_) fun q2 => ?_⟩
  · have q2 : livM kf (fun _ => 0) nk 0 s = false := by have := (show (!livM kf (fun _ => 0) nk 0 s) = true from q2); simpa using this
    rw [q2]; exact ⟨rfl, rfl⟩
  · have q2 : livM kf (fun _ => 0) nk 0 s = true := by have := (show (!livM kf (fun _ => 0) nk 0 s) = false from q2); simpa using this
    rw [q2]
    cases an <;> exact ⟨rfl, rfl⟩
theorem canon44s {sv va cf an : Bool} {kf gf : Nat → Int} {nk ng : Nat} (s : Int) (hn : nk ≤ 100000) (hg : ng ≤ 100000) : Canon Try.prog 44 [.ptr 0 0 6 0, .int .i64 s] (hpS (mB sv (.slice 1 0 1 nk) (.slice 2 0 1 ng) va cf an) kf nk gf ng) fun v' hp =>
    (fun v o => bif !inS s then v = .int .i64 9 ∧ o = .rows 6 1 true 57 [mC sv (.slice 1 0 1 nk) (.slice 2 0 1 ng) va cf an] else bif livM kf gf nk ng s then v = .int .i64 0 ∧ o = .rows 6 1 true 57 [mC sv (.slice 1 0 1 nk) (.slice 2 0 1 ng) va cf (an || s != 0)] else v = .int .i64 160 ∧ o = .rows 6 1 true 57 [mC sv (.slice 1 0 1 nk) (.slice 2 0 1 ng) va cf an]) v' (obsB true (hget hp 0)) := by
  refine CodeOK.body Try.func44 (by kernel_rfl) (CodeOK.eval (C := C10) ec gs10 mixed 64 ?_)
  show evalC C10 64 3 (bodF Try.f44) (enterS 23 _) _ (endK Try.prog Try.f44.results.toList fun v' hp => (fun v o => bif !inS s then v = .int .i64 9 ∧ o = .rows 6 1 true 57 [mC sv (.slice 1 0 1 nk) (.slice 2 0 1 ng) va cf an] else bif livM kf gf nk ng s then v = .int .i64 0 ∧ o = .rows 6 1 true 57 [mC sv (.slice 1 0 1 nk) (.slice 2 0 1 ng) va cf (an || s != 0)] else v = .int .i64 160 ∧ o = .rows 6 1 true 57 [mC sv (.slice 1 0 1 nk) (.slice 2 0 1 ng) va cf an]) v' (obsB true (hget hp 0)))
  rw [t44s sv va cf an kf nk gf ng s (fun v o => bif !inS s then v = .int .i64 9 ∧ o = .rows 6 1 true 57 [mC sv (.slice 1 0 1 nk) (.slice 2 0 1 ng) va cf an] else bif livM kf gf nk ng s then v = .int .i64 0 ∧ o = .rows 6 1 true 57 [mC sv (.slice 1 0 1 nk) (.slice 2 0 1 ng) va cf (an || s != 0)] else v = .int .i64 160 ∧ o = .rows 6 1 true 57 [mC sv (.slice 1 0 1 nk) (.slice 2 0 1 ng) va cf an])]
  refine condSplit (fun q => ?_) fun q => ?_
  · rw [q]; exact ⟨rfl, rfl⟩
  rw [q]
  refine ⟨isI_bF _ hn, isI_bF _ hg, condSplit (fun q2 => ?_) fun q2 => ?_⟩
  · have q2 : livM kf gf nk ng s = false := by have := (show (!livM kf gf nk ng s) = true from q2); simpa using this
    rw [q2]; exact ⟨rfl, rfl⟩
  · have q2 : livM kf gf nk ng s = true := by have := (show (!livM kf gf nk ng s) = false from q2); simpa using this
    rw [q2]
    cases an <;> exact ⟨rfl, rfl⟩
theorem ok44 : SpecOK Try.prog 44 s44 := by
  intro args h base k hk
  unfold s44 at hk
  split at hk
  · rename_i id s
    obtain ⟨b, bk, sv, ik, nk, gs, va, cf, an, gf, ng, M, hk⟩ := mAllW_ok hk
    have hc := cal (f := 44) Try.func44 (by kernel_rfl) (by kernel_rfl)
    cases q : !inS s with
    | true =>
      rw [q] at hk
      refine ⟨_, _, [], hk, M.flags hc (fun hn e1 e2 => ?_) (fun hn hg => ?_) rfl rfl⟩
      · exact (canon44 s hn).mono fun v hp hh => by rw [q] at hh; exact hh
      · exact (canon44s s hn hg).mono fun v hp hh => by rw [q] at hh; exact hh
    | false =>
    rw [q, cond_false] at hk
    cases q2 : livM (fun r => rI (bk.rd r)) gf nk ng s with
    | true =>
      rw [q2] at hk
      refine ⟨_, _, [], hk, M.flags hc (fun hn e1 e2 => ?_) (fun hn hg => ?_) rfl rfl⟩
      · subst e1 e2
        exact (canon44 s hn).mono fun v hp hh => by rw [q, q2] at hh; exact hh
      · exact (canon44s s hn hg).mono fun v hp hh => by rw [q, q2] at hh; exact hh
    | false =>
      rw [q2] at hk
      refine ⟨_, _, [], hk, M.flags hc (fun hn e1 e2 => ?_) (fun hn hg => ?_) rfl rfl⟩
      · subst e1 e2
        exact (canon44 s hn).mono fun v hp hh => by rw [q, q2] at hh; exact hh
      · exact (canon44s s hn hg).mono fun v hp hh => by rw [q, q2] at hh; exact hh
  · cases hk
theorem bnF {b : Bool} (q : (!b) = true) : b = false := by cases b with
  | true => cases q
  | false => rfl
theorem bnT {b : Bool} (q : (!b) = false) : b = true := by cases b with
  | true => rfl
  | false => cases q
theorem cap {n : Nat} (h : n ≤ 1000) : (decide (n + 1 + 1 ≤ 9223372036854775807) && decide ((n + 1 + 1) * 8 ≤ 140737488355328) && true && true && true && true && decide (n + 1 = n + 1) && true) = true := by
  have h1 : n + 1 + 1 ≤ 9223372036854775807 := by omega
  have h2 : (n + 1 + 1) * 8 ≤ 140737488355328 := by omega
  simp only [h1, h2, decide_true, Bool.and_true]
theorem isA_app {A : Blk} {f : Nat → Int} {n : Nat} {s : Int} (h1 : A.sz = 1) (h2 : A.n = n + 1) (h3 : A.rw = true) (h4 : A.ty = 3) (h5 : ∀ r, r < n → A.rd r = [.int .i64 (f r)]) (h6 : A.rd n = [.int .i64 s]) : IsA A (appF f n s) (n + 1) :=
  ⟨h1, h2, h3, h4, fun r hr => by
    by_cases h : r < n
    · rw [h5 r h, show appF f n s r = f r by unfold appF; rw [decide_eq_true h, cond_true]]
    · obtain rfl : r = n := by omega
      rw [h6, show appF f r s r = s by unfold appF; rw [decide_eq_false h, cond_false]]⟩
theorem canon40n (sv va cf an : Bool) (kf : Nat → Int) (nk : Nat) (s : Int) (hn : nk ≤ 1000) : Canon Try.prog 40 [.ptr 0 0 6 0, .int .i64 s] [some (mB sv (.slice 1 0 1 (nk + 1)) .nilSlice va cf an), some (bFw kf (nk + 1))] fun v' hp =>
    (fun v o x1 x3 => bif !inS s then (v = .int .i64 9 ∧ o = .rows 6 1 true 57 [mC sv (.slice 1 0 1 (nk + 1)) .nilSlice va cf an] ∧ x1 = some (bFw kf (nk + 1))) else bif !inF kf (nk + 1) s then (v = .int .i64 0 ∧ o = .rows 6 1 true 57 [mC sv (.slice 3 0 1 (nk + 1 + 1)) .nilSlice va cf an] ∧ ∃ A, x3 = some A ∧ IsA A (appF kf (nk + 1) s) (nk + 1 + 1)) else (v = .int .i64 0 ∧ o = .rows 6 1 true 57 [mC sv (.slice 1 0 1 (nk + 1)) .nilSlice va cf an] ∧ x1 = some (bFw kf (nk + 1)))) v' (obsB true (hget hp 0)) (hget hp 1) (hget hp 3) := by
  refine CodeOK.body Try.func40 (by kernel_rfl) (CodeOK.eval (C := C10) ec gs10 mixed 64 ?_)
  show evalC C10 64 2 (bodF Try.f40) (enterS 31 _) _ (endK Try.prog Try.f40.results.toList fun v' hp => (fun v o x1 x3 => bif !inS s then (v = .int .i64 9 ∧ o = .rows 6 1 true 57 [mC sv (.slice 1 0 1 (nk + 1)) .nilSlice va cf an] ∧ x1 = some (bFw kf (nk + 1))) else bif !inF kf (nk + 1) s then (v = .int .i64 0 ∧ o = .rows 6 1 true 57 [mC sv (.slice 3 0 1 (nk + 1 + 1)) .nilSlice va cf an] ∧ ∃ A, x3 = some A ∧ IsA A (appF kf (nk + 1) s) (nk + 1 + 1)) else (v = .int .i64 0 ∧ o = .rows 6 1 true 57 [mC sv (.slice 1 0 1 (nk + 1)) .nilSlice va cf an] ∧ x1 = some (bFw kf (nk + 1)))) v' (obsB true (hget hp 0)) (hget hp 1) (hget hp 3))
  rw [t40n sv va cf an kf nk s (fun v o x1 x3 => bif !inS s then (v = .int .i64 9 ∧ o = .rows 6 1 true 57 [mC sv (.slice 1 0 1 (nk + 1)) .nilSlice va cf an] ∧ x1 = some (bFw kf (nk + 1))) else bif !inF kf (nk + 1) s then (v = .int .i64 0 ∧ o = .rows 6 1 true 57 [mC sv (.slice 3 0 1 (nk + 1 + 1)) .nilSlice va cf an] ∧ ∃ A, x3 = some A ∧ IsA A (appF kf (nk + 1) s) (nk + 1 + 1)) else (v = .int .i64 0 ∧ o = .rows 6 1 true 57 [mC sv (.slice 1 0 1 (nk + 1)) .nilSlice va cf an] ∧ x1 = some (bFw kf (nk + 1))))]
  refine condSplit (fun q => ?_) fun q => ?_
  · rw [q]; exact ⟨rfl, rfl, rfl⟩
  rw [q, cond_false]
  refine ⟨isI_bFw kf (by omega), condSplit (fun q2 => ?_) fun q2 => ?_⟩
  · rw [show (!inF kf (nk + 1) s) = true from q2, cond_true]
    refine condT (cap hn) ⟨rfl, rfl, _, rfl, isA_app rfl rfl rfl rfl (fun r hr => by show cond _ _ _ = _; rw [decide_eq_true hr]; rfl) (by show cond _ _ _ = _; rw [decide_eq_false (Nat.lt_irrefl _), Nat.sub_self]; rfl)⟩
  · rw [show (!inF kf (nk + 1) s) = false from q2]; exact ⟨rfl, rfl, rfl⟩
theorem canon40s (sv va cf an : Bool) (kf : Nat → Int) (nk : Nat) (gf : Nat → Int) (ng : Nat) (s : Int) (hn : nk ≤ 1000) (hg : ng ≤ 100000) : Canon Try.prog 40 [.ptr 0 0 6 0, .int .i64 s] [some (mB sv (.slice 1 0 1 (nk + 1)) (.slice 2 0 1 ng) va cf an), some (bFw kf (nk + 1)), some (bF gf ng)] fun v' hp =>
    (fun v o x1 x3 => bif !inS s then (v = .int .i64 9 ∧ o = .rows 6 1 true 57 [mC sv (.slice 1 0 1 (nk + 1)) (.slice 2 0 1 ng) va cf an] ∧ x1 = some (bFw kf (nk + 1))) else bif inF gf ng s then (v = .int .i64 160 ∧ o = .rows 6 1 true 57 [mC sv (.slice 1 0 1 (nk + 1)) (.slice 2 0 1 ng) va cf an] ∧ x1 = some (bFw kf (nk + 1))) else bif !inF kf (nk + 1) s then (v = .int .i64 0 ∧ o = .rows 6 1 true 57 [mC sv (.slice 4 0 1 (nk + 1 + 1)) (.slice 2 0 1 ng) va cf an] ∧ ∃ A, x3 = some A ∧ IsA A (appF kf (nk + 1) s) (nk + 1 + 1)) else (v = .int .i64 0 ∧ o = .rows 6 1 true 57 [mC sv (.slice 1 0 1 (nk + 1)) (.slice 2 0 1 ng) va cf an] ∧ x1 = some (bFw kf (nk + 1)))) v' (obsB true (hget hp 0)) (hget hp 1) (hget hp 4) := by
  refine CodeOK.body Try.func40 (by kernel_rfl) (CodeOK.eval (C := C10) ec gs10 mixed 64 ?_)
  show evalC C10 64 3 (bodF Try.f40) (enterS 31 _) _ (endK Try.prog Try.f40.results.toList fun v' hp => (fun v o x1 x3 => bif !inS s then (v = .int .i64 9 ∧ o = .rows 6 1 true 57 [mC sv (.slice 1 0 1 (nk + 1)) (.slice 2 0 1 ng) va cf an] ∧ x1 = some (bFw kf (nk + 1))) else bif inF gf ng s then (v = .int .i64 160 ∧ o = .rows 6 1 true 57 [mC sv (.slice 1 0 1 (nk + 1)) (.slice 2 0 1 ng) va cf an] ∧ x1 = some (bFw kf (nk + 1))) else bif !inF kf (nk + 1) s then (v = .int .i64 0 ∧ o = .rows 6 1 true 57 [mC sv (.slice 4 0 1 (nk + 1 + 1)) (.slice 2 0 1 ng) va cf an] ∧ ∃ A, x3 = some A ∧ IsA A (appF kf (nk + 1) s) (nk + 1 + 1)) else (v = .int .i64 0 ∧ o = .rows 6 1 true 57 [mC sv (.slice 1 0 1 (nk + 1)) (.slice 2 0 1 ng) va cf an] ∧ x1 = some (bFw kf (nk + 1)))) v' (obsB true (hget hp 0)) (hget hp 1) (hget hp 4))
  rw [t40s sv va cf an kf nk gf ng s (fun v o x1 x3 => bif !inS s then (v = .int .i64 9 ∧ o = .rows 6 1 true 57 [mC sv (.slice 1 0 1 (nk + 1)) (.slice 2 0 1 ng) va cf an] ∧ x1 = some (bFw kf (nk + 1))) else bif inF gf ng s then (v = .int .i64 160 ∧ o = .rows 6 1 true 57 [mC sv (.slice 1 0 1 (nk + 1)) (.slice 2 0 1 ng) va cf an] ∧ x1 = some (bFw kf (nk + 1))) else bif !inF kf (nk + 1) s then (v = .int .i64 0 ∧ o = .rows 6 1 true 57 [mC sv (.slice 4 0 1 (nk + 1 + 1)) (.slice 2 0 1 ng) va cf an] ∧ ∃ A, x3 = some A ∧ IsA A (appF kf (nk + 1) s) (nk + 1 + 1)) else (v = .int .i64 0 ∧ o = .rows 6 1 true 57 [mC sv (.slice 1 0 1 (nk + 1)) (.slice 2 0 1 ng) va cf an] ∧ x1 = some (bFw kf (nk + 1))))]
  refine condSplit (fun q => ?_) fun q => ?_
  · rw [q]; exact ⟨rfl, rfl, rfl⟩
  rw [q, cond_false]
  refine ⟨isI_bF gf hg, condSplit (fun q1 => ?_) fun q1 => ?_⟩
  · rw [show inF gf ng s = true from q1]; exact ⟨rfl, rfl, rfl⟩
  rw [show inF gf ng s = false from q1, cond_false]
  refine ⟨isI_bFw kf (by omega), condSplit (fun q2 => ?_) fun q2 => ?_⟩
  · rw [show (!inF kf (nk + 1) s) = true from q2, cond_true]
    refine condT (cap hn) ⟨rfl, rfl, _, rfl, isA_app rfl rfl rfl rfl (fun r hr => by show cond _ _ _ = _; rw [decide_eq_true hr]; rfl) (by show cond _ _ _ = _; rw [decide_eq_false (Nat.lt_irrefl _), Nat.sub_self]; rfl)⟩
  · rw [show (!inF kf (nk + 1) s) = false from q2]; exact ⟨rfl, rfl, rfl⟩
theorem ok40 : SpecOK Try.prog 40 s40 := by
  intro args h base k hk
  unfold s40 at hk
  split at hk
  · rename_i id s
    have hc := cal (f := 40) Try.func40 (by kernel_rfl) (by kernel_rfl)
    obtain ⟨b, sv, ik, nk, gs, va, cf, an, h1, h2, h3, h4, h5, h6, hk⟩ := mW_ok hk
    obtain ⟨bk, k1, k2, k3, k4, k5, hk⟩ := lstW_ok hk
    obtain ⟨gf, ng, lg, hk⟩ := lst_ok hk
    cases ho : mOk id ik gs base with
    | false => rw [ho] at hk; exact hk.elim
    | true =>
    rw [ho] at hk
    obtain ⟨⟨n1, n2⟩, hk⟩ := hk
    obtain ⟨m, rfl⟩ : ∃ m, nk = m + 1 := ⟨nk - 1, by omega⟩
    have hn : m ≤ 1000 := by omega
    have ok := mOk_k ho
    cases q : !inS s with
    | true =>
      rw [q] at hk
      rcases lg with ⟨rfl, rfl, rfl⟩ | ⟨ig, bg, rfl, g1, g2, rfl⟩
      · exact ⟨_, _, [], hk, mkeep hc (cl_k sv va cf an) h1 h2 h3 h4 h5 h6 k1 k2 k3 k5 ok.2 (gv_n ok.1) ((canon40n sv va cf an _ m s hn).mono fun v hp hh => by rw [q] at hh; exact hh) rfl rfl⟩
      · have og := mOk_g ho
        exact ⟨_, _, [], hk, mkeep hc (cl_k sv va cf an) h1 h2 h3 h4 h5 h6 k1 k2 k3 k5 ok.2 (gv_s ok.1 og.1 og.2.1 g1 g2 og.2.2) ((canon40s sv va cf an _ m _ ng s hn g2.sm).mono fun v hp hh => by rw [q] at hh; exact hh) rfl rfl⟩
    | false =>
    rw [q, cond_false] at hk
    cases q1 : inF gf ng s with
    | true =>
      rw [q1] at hk
      rcases lg with ⟨rfl, rfl, rfl⟩ | ⟨ig, bg, rfl, g1, g2, rfl⟩
      · cases q1
      · have og := mOk_g ho
        exact ⟨_, _, [], hk, mkeep hc (cl_k sv va cf an) h1 h2 h3 h4 h5 h6 k1 k2 k3 k5 ok.2 (gv_s ok.1 og.1 og.2.1 g1 g2 og.2.2) ((canon40s sv va cf an _ m _ ng s hn g2.sm).mono fun v hp hh => by rw [q, q1] at hh; exact hh) rfl rfl⟩
    | false =>
    rw [q1, cond_false] at hk
    cases q2 : !inF (fun r => rI (bk.rd r)) (m + 1) s with
    | true =>
      rw [q2] at hk
      rcases lg with ⟨rfl, rfl, rfl⟩ | ⟨ig, bg, rfl, g1, g2, rfl⟩
      · exact ⟨_, _, _, hk, mgrow (t := 3) hc (cl_k sv va cf an) h1 h2 h3 h4 h5 h6 k1 k2 k3 k5 (gv_n ok.1) (by decide) ((canon40n sv va cf an _ m s hn).mono fun v hp hh => by rw [q, q2] at hh; exact hh) rfl rfl⟩
      · have og := mOk_g ho
        exact ⟨_, _, _, hk, mgrow (t := 4) hc (cl_k sv va cf an) h1 h2 h3 h4 h5 h6 k1 k2 k3 k5 (gv_s (base := base) ok.1 og.1 og.2.1 g1 g2 og.2.2) (show 1 + 2 ≤ 4 by decide) ((canon40s sv va cf an _ m _ ng s hn g2.sm).mono fun v hp hh => by rw [q, q1, q2] at hh; exact hh) rfl rfl⟩
    | false =>
      rw [q2] at hk
      rcases lg with ⟨rfl, rfl, rfl⟩ | ⟨ig, bg, rfl, g1, g2, rfl⟩
      · exact ⟨_, _, [], hk, mkeep hc (cl_k sv va cf an) h1 h2 h3 h4 h5 h6 k1 k2 k3 k5 ok.2 (gv_n ok.1) ((canon40n sv va cf an _ m s hn).mono fun v hp hh => by rw [q, q2] at hh; exact hh) rfl rfl⟩
      · have og := mOk_g ho
        exact ⟨_, _, [], hk, mkeep hc (cl_k sv va cf an) h1 h2 h3 h4 h5 h6 k1 k2 k3 k5 ok.2 (gv_s ok.1 og.1 og.2.1 g1 g2 og.2.2) ((canon40s sv va cf an _ m _ ng s hn g2.sm).mono fun v hp hh => by rw [q, q1, q2] at hh; exact hh) rfl rfl⟩
  · cases hk
theorem canon41n (sv va cf an : Bool) (kf : Nat → Int) (nk : Nat) (s : Int) (hn : nk ≤ 100000) : Canon Try.prog 41 [.ptr 0 0 6 0, .int .i64 s] [some (mB sv (.slice 1 0 1 nk) .nilSlice va cf an), some (bF kf nk)] fun v' hp =>
    (fun v o x3 => bif !inS s then (v = .int .i64 9 ∧ o = .rows 6 1 true 57 [mC sv (.slice 1 0 1 nk) .nilSlice va cf an]) else bif s == 2 then (v = .int .i64 2 ∧ o = .rows 6 1 true 57 [mC sv (.slice 1 0 1 nk) .nilSlice va cf an]) else bif !livM kf (fun _ => 0) nk 0 s then (v = .int .i64 160 ∧ o = .rows 6 1 true 57 [mC sv (.slice 1 0 1 nk) .nilSlice va cf an]) else (v = .int .i64 0 ∧ o = .rows 6 1 true 57 [mC sv (.slice 1 0 1 nk) (.slice 3 0 1 1) va cf an] ∧ ∃ A, x3 = some A ∧ IsA A (appF (fun _ => 0) 0 s) 1)) v' (obsB true (hget hp 0)) (hget hp 3) := by
  refine CodeOK.body Try.func41 (by kernel_rfl) (CodeOK.eval (C := C10) ec gs10 mixed 64 ?_)
  show evalC C10 64 2 (bodF Try.f41) (enterS 24 _) _ (endK Try.prog Try.f41.results.toList fun v' hp => (fun v o x3 => bif !inS s then (v = .int .i64 9 ∧ o = .rows 6 1 true 57 [mC sv (.slice 1 0 1 nk) .nilSlice va cf an]) else bif s == 2 then (v = .int .i64 2 ∧ o = .rows 6 1 true 57 [mC sv (.slice 1 0 1 nk) .nilSlice va cf an]) else bif !livM kf (fun _ => 0) nk 0 s then (v = .int .i64 160 ∧ o = .rows 6 1 true 57 [mC sv (.slice 1 0 1 nk) .nilSlice va cf an]) else (v = .int .i64 0 ∧ o = .rows 6 1 true 57 [mC sv (.slice 1 0 1 nk) (.slice 3 0 1 1) va cf an] ∧ ∃ A, x3 = some A ∧ IsA A (appF (fun _ => 0) 0 s) 1)) v' (obsB true (hget hp 0)) (hget hp 3))
  rw [t41n sv va cf an kf nk s (fun v o x3 => bif !inS s then (v = .int .i64 9 ∧ o = .rows 6 1 true 57 [mC sv (.slice 1 0 1 nk) .nilSlice va cf an]) else bif s == 2 then (v = .int .i64 2 ∧ o = .rows 6 1 true 57 [mC sv (.slice 1 0 1 nk) .nilSlice va cf an]) else bif !livM kf (fun _ => 0) nk 0 s then (v = .int .i64 160 ∧ o = .rows 6 1 true 57 [mC sv (.slice 1 0 1 nk) .nilSlice va cf an]) else (v = .int .i64 0 ∧ o = .rows 6 1 true 57 [mC sv (.slice 1 0 1 nk) (.slice 3 0 1 1) va cf an] ∧ ∃ A, x3 = some A ∧ IsA A (appF (fun _ => 0) 0 s) 1))]
  refine condSplit (fun q => ?_) fun q => ?_
  · rw [q]; exact ⟨rfl, rfl⟩
  rw [q, cond_false]
  refine condSplit (fun q1 => ?_) fun q1 => ?_
  · rw [q1]; exact ⟨rfl, rfl⟩
  rw [q1, cond_false]
  refine ⟨isI_bF kf hn, condSplit (fun q2 => ?_) fun q2 => ?_⟩
  · rw [show (!livM kf (fun _ => 0) nk 0 s) = true from q2]; exact ⟨rfl, rfl⟩
  · rw [show (!livM kf (fun _ => 0) nk 0 s) = false from q2]
    exact ⟨rfl, rfl, _, rfl, rfl, rfl, rfl, rfl, fun r hr => by obtain rfl : r = 0 := (by omega); rfl⟩
theorem canon41s (sv va cf an : Bool) (kf : Nat → Int) (nk : Nat) (gf : Nat → Int) (ng : Nat) (s : Int) (hn : nk ≤ 100000) (hg : ng ≤ 1000) : Canon Try.prog 41 [.ptr 0 0 6 0, .int .i64 s] [some (mB sv (.slice 2 0 1 nk) (.slice 1 0 1 (ng + 1)) va cf an), some (bFw gf (ng + 1)), some (bF kf nk)] fun v' hp =>
    (fun v o x1 x3 => bif !inS s then (v = .int .i64 9 ∧ o = .rows 6 1 true 57 [mC sv (.slice 2 0 1 nk) (.slice 1 0 1 (ng + 1)) va cf an] ∧ x1 = some (bFw gf (ng + 1))) else bif s == 2 then (v = .int .i64 2 ∧ o = .rows 6 1 true 57 [mC sv (.slice 2 0 1 nk) (.slice 1 0 1 (ng + 1)) va cf an] ∧ x1 = some (bFw gf (ng + 1))) else bif !livM kf gf nk (ng + 1) s then (v = .int .i64 160 ∧ o = .rows 6 1 true 57 [mC sv (.slice 2 0 1 nk) (.slice 1 0 1 (ng + 1)) va cf an] ∧ x1 = some (bFw gf (ng + 1))) else (v = .int .i64 0 ∧ o = .rows 6 1 true 57 [mC sv (.slice 2 0 1 nk) (.slice 4 0 1 (ng + 1 + 1)) va cf an] ∧ ∃ A, x3 = some A ∧ IsA A (appF gf (ng + 1) s) (ng + 1 + 1))) v' (obsB true (hget hp 0)) (hget hp 1) (hget hp 4) := by
  refine CodeOK.body Try.func41 (by kernel_rfl) (CodeOK.eval (C := C10) ec gs10 mixed 64 ?_)
  show evalC C10 64 3 (bodF Try.f41) (enterS 24 _) _ (endK Try.prog Try.f41.results.toList fun v' hp => (fun v o x1 x3 => bif !inS s then (v = .int .i64 9 ∧ o = .rows 6 1 true 57 [mC sv (.slice 2 0 1 nk) (.slice 1 0 1 (ng + 1)) va cf an] ∧ x1 = some (bFw gf (ng + 1))) else bif s == 2 then (v = .int .i64 2 ∧ o = .rows 6 1 true 57 [mC sv (.slice 2 0 1 nk) (.slice 1 0 1 (ng + 1)) va cf an] ∧ x1 = some (bFw gf (ng + 1))) else bif !livM kf gf nk (ng + 1) s then (v = .int .i64 160 ∧ o = .rows 6 1 true 57 [mC sv (.slice 2 0 1 nk) (.slice 1 0 1 (ng + 1)) va cf an] ∧ x1 = some (bFw gf (ng + 1))) else (v = .int .i64 0 ∧ o = .rows 6 1 true 57 [mC sv (.slice 2 0 1 nk) (.slice 4 0 1 (ng + 1 + 1)) va cf an] ∧ ∃ A, x3 = some A ∧ IsA A (appF gf (ng + 1) s) (ng + 1 + 1))) v' (obsB true (hget hp 0)) (hget hp 1) (hget hp 4))
  rw [t41s sv va cf an kf nk gf ng s (fun v o x1 x3 => bif !inS s then (v = .int .i64 9 ∧ o = .rows 6 1 true 57 [mC sv (.slice 2 0 1 nk) (.slice 1 0 1 (ng + 1)) va cf an] ∧ x1 = some (bFw gf (ng + 1))) else bif s == 2 then (v = .int .i64 2 ∧ o = .rows 6 1 true 57 [mC sv (.slice 2 0 1 nk) (.slice 1 0 1 (ng + 1)) va cf an] ∧ x1 = some (bFw gf (ng + 1))) else bif !livM kf gf nk (ng + 1) s then (v = .int .i64 160 ∧ o = .rows 6 1 true 57 [mC sv (.slice 2 0 1 nk) (.slice 1 0 1 (ng + 1)) va cf an] ∧ x1 = some (bFw gf (ng + 1))) else (v = .int .i64 0 ∧ o = .rows 6 1 true 57 [mC sv (.slice 2 0 1 nk) (.slice 4 0 1 (ng + 1 + 1)) va cf an] ∧ ∃ A, x3 = some A ∧ IsA A (appF gf (ng + 1) s) (ng + 1 + 1)))]
  refine condSplit (fun q => ?_) fun q => ?_
  · rw [q]; exact ⟨rfl, rfl, rfl⟩
  rw [q, cond_false]
  refine condSplit (fun q1 => ?_) fun q1 => ?_
  · rw [q1]; exact ⟨rfl, rfl, rfl⟩
  rw [q1, cond_false]
  refine ⟨isI_bF kf hn, isI_bFw gf (by omega), condSplit (fun q2 => ?_) fun q2 => ?_⟩
  · rw [show (!livM kf gf nk (ng + 1) s) = true from q2]; exact ⟨rfl, rfl, rfl⟩
  · rw [show (!livM kf gf nk (ng + 1) s) = false from q2, cond_false]
    refine condT (cap hg) ⟨rfl, rfl, _, rfl, isA_app rfl rfl rfl rfl (fun r hr => by show cond _ _ _ = _; rw [decide_eq_true hr]; rfl) (by show cond _ _ _ = _; rw [decide_eq_false (Nat.lt_irrefl _), Nat.sub_self]; rfl)⟩
theorem ok41 : SpecOK Try.prog 41 s41 := by
  intro args h base k hk
  unfold s41 at hk
  split at hk
  · rename_i id s
    have hc := cal (f := 41) Try.func41 (by kernel_rfl) (by kernel_rfl)
    obtain ⟨b, sv, ik, nk, gs, va, cf, an, h1, h2, h3, h4, h5, h6, hk⟩ := mW_ok hk
    obtain ⟨bk, k1, k5, hk⟩ := lst_sl hk
    cases ho : mOk id ik gs base with
    | false => rw [ho] at hk; exact hk.elim
    | true =>
    rw [ho, cond_true] at hk
    have ok := mOk_k ho
    split at hk
    · cases q : !inS s with
      | true => rw [q] at hk; exact ⟨_, _, [], hk, mwrite hc (cl_k sv va cf an) (cl_k sv va cf an) h1 h2 h3 h4 h5 h6 k1 k5 ok.2 (gv_n ok.1) ((canon41n sv va cf an _ nk s k5.sm).mono fun v hp hh => by rw [q] at hh; exact hh) rfl rfl⟩
      | false =>
      rw [q, cond_false] at hk
      cases q1 : s == 2 with
      | true => rw [q1] at hk; exact ⟨_, _, [], hk, mwrite hc (cl_k sv va cf an) (cl_k sv va cf an) h1 h2 h3 h4 h5 h6 k1 k5 ok.2 (gv_n ok.1) ((canon41n sv va cf an _ nk s k5.sm).mono fun v hp hh => by rw [q, q1] at hh; exact hh) rfl rfl⟩
      | false =>
      rw [q1, cond_false] at hk
      cases q2 : !livM (fun r => rI (bk.rd r)) (fun _ => 0) nk 0 s with
      | true => rw [q2] at hk; exact ⟨_, _, [], hk, mwrite hc (cl_k sv va cf an) (cl_k sv va cf an) h1 h2 h3 h4 h5 h6 k1 k5 ok.2 (gv_n ok.1) ((canon41n sv va cf an _ nk s k5.sm).mono fun v hp hh => by rw [q, q1, q2] at hh; exact hh) rfl rfl⟩
      | false =>
        rw [q2] at hk
        exact ⟨_, _, _, hk, mbegin (t := 3) hc (cl_k sv va cf an) h1 h2 h3 h4 h5 h6 k1 k5 ok.2 ok.1 (by decide) ((canon41n sv va cf an _ nk s k5.sm).mono fun v hp hh => by rw [q, q1, q2] at hh; exact hh) rfl rfl ok.2⟩
    · rename_i ig ng hk0
      clear hk0
      obtain ⟨bg, g1, g2, g3, g4, g5, hk⟩ := lstW_ok hk
      obtain ⟨⟨n1, n2⟩, hk⟩ := hk
      obtain ⟨m, rfl⟩ : ∃ m, ng = m + 1 := ⟨ng - 1, by omega⟩
      have hn : m ≤ 1000 := by omega
      have og := mOk_g ho
      cases q : !inS s with
      | true => rw [q] at hk; exact ⟨_, _, [], hk, mkeep hc (cl_g sv va cf an) h1 h2 h3 h4 h5 h6 g1 g2 g3 g5 og.2.2 (gv_s og.1 ok.1 (Ne.symm og.2.1) k1 k5 ok.2) ((canon41s sv va cf an _ nk _ m s k5.sm hn).mono fun v hp hh => by rw [q] at hh; exact hh) rfl rfl⟩
      | false =>
      rw [q, cond_false] at hk
      cases q1 : s == 2 with
      | true => rw [q1] at hk; exact ⟨_, _, [], hk, mkeep hc (cl_g sv va cf an) h1 h2 h3 h4 h5 h6 g1 g2 g3 g5 og.2.2 (gv_s og.1 ok.1 (Ne.symm og.2.1) k1 k5 ok.2) ((canon41s sv va cf an _ nk _ m s k5.sm hn).mono fun v hp hh => by rw [q, q1] at hh; exact hh) rfl rfl⟩
      | false =>
      rw [q1, cond_false] at hk
      cases q2 : !livM (fun r => rI (bk.rd r)) (fun r => rI (bg.rd r)) nk (m + 1) s with
      | true => rw [q2] at hk; exact ⟨_, _, [], hk, mkeep hc (cl_g sv va cf an) h1 h2 h3 h4 h5 h6 g1 g2 g3 g5 og.2.2 (gv_s og.1 ok.1 (Ne.symm og.2.1) k1 k5 ok.2) ((canon41s sv va cf an _ nk _ m s k5.sm hn).mono fun v hp hh => by rw [q, q1, q2] at hh; exact hh) rfl rfl⟩
      | false =>
        rw [q2] at hk
        exact ⟨_, _, _, hk, mgrow (t := 4) hc (cl_g sv va cf an) h1 h2 h3 h4 h5 h6 g1 g2 g3 g5 (gv_s (base := base) og.1 ok.1 (Ne.symm og.2.1) k1 k5 ok.2) (show 1 + 2 ≤ 4 by decide) ((canon41s sv va cf an _ nk _ m s k5.sm hn).mono fun v hp hh => by rw [q, q1, q2] at hh; exact hh) rfl rfl⟩
    · cases hk
  · cases hk
theorem canon38n (sv va cf an : Bool) (kf : Nat → Int) (nk : Nat) (hn : nk ≤ 100000) : Canon Try.prog 38 [.ptr 0 0 6 0] (hpN (mRo sv (.slice 1 0 1 nk) .nilSlice va cf an) kf nk) fun v hp => NewL 2 (livL kf (fun _ => 0) nk 0) v (obsRes v hp) := by
  refine CodeOK.body Try.func38 (by kernel_rfl) (CodeOK.eval (C := C10) ec gs10 mixed 64 ?_)
  show evalC C10 64 2 (bodF Try.f38) (enterS 17 _) _ (endK Try.prog Try.f38.results.toList fun v hp => NewL 2 (livL kf (fun _ => 0) nk 0) v (obsRes v hp))
  rw [t38n sv va cf an kf nk (NewL 2 (livL kf (fun _ => 0) nk 0))]
  unfold livL
  refine ⟨isI_bF _ hn, condSplit (fun q0 => ⟨isI_bF _ hn, condSplit (fun q1 => ⟨isI_bF _ hn, condSplit (fun q2 => ?_) fun q2 => ?_⟩) fun q1 => ⟨isI_bF _ hn, condSplit (fun q2 => ?_) fun q2 => ?_⟩⟩) fun q0 => ⟨isI_bF _ hn, condSplit (fun q1 => ⟨isI_bF _ hn, condSplit (fun q2 => ?_) fun q2 => ?_⟩) fun q1 => ⟨isI_bF _ hn, condSplit (fun q2 => ?_) fun q2 => ?_⟩⟩⟩
  · rw [show livM kf (fun _ => 0) nk 0 0 = true from q0, show livM kf (fun _ => 0) nk 0 1 = true from q1, show livM kf (fun _ => 0) nk 0 2 = true from q2]; exact ⟨_, by decide, rfl, rfl⟩
  · rw [show livM kf (fun _ => 0) nk 0 0 = true from q0, show livM kf (fun _ => 0) nk 0 1 = true from q1, show livM kf (fun _ => 0) nk 0 2 = false from q2]; exact ⟨_, by decide, rfl, rfl⟩
  · rw [show livM kf (fun _ => 0) nk 0 0 = true from q0, show livM kf (fun _ => 0) nk 0 1 = false from q1, show livM kf (fun _ => 0) nk 0 2 = true from q2]; exact ⟨_, by decide, rfl, rfl⟩
  · rw [show livM kf (fun _ => 0) nk 0 0 = true from q0, show livM kf (fun _ => 0) nk 0 1 = false from q1, show livM kf (fun _ => 0) nk 0 2 = false from q2]; exact ⟨_, by decide, rfl, rfl⟩
  · rw [show livM kf (fun _ => 0) nk 0 0 = false from q0, show livM kf (fun _ => 0) nk 0 1 = true from q1, show livM kf (fun _ => 0) nk 0 2 = true from q2]; exact ⟨_, by decide, rfl, rfl⟩
  · rw [show livM kf (fun _ => 0) nk 0 0 = false from q0, show livM kf (fun _ => 0) nk 0 1 = true from q1, show livM kf (fun _ => 0) nk 0 2 = false from q2]; exact ⟨_, by decide, rfl, rfl⟩
  · rw [show livM kf (fun _ => 0) nk 0 0 = false from q0, show livM kf (fun _ => 0) nk 0 1 = false from q1, show livM kf (fun _ => 0) nk 0 2 = true from q2]; exact ⟨_, by decide, rfl, rfl⟩
  · rw [show livM kf (fun _ => 0) nk 0 0 = false from q0, show livM kf (fun _ => 0) nk 0 1 = false from q1, show livM kf (fun _ => 0) nk 0 2 = false from q2]; exact rfl
theorem canon38s (sv va cf an : Bool) (kf : Nat → Int) (nk : Nat) (gf : Nat → Int) (ng : Nat) (hn : nk ≤ 100000) (hg : ng ≤ 100000) : Canon Try.prog 38 [.ptr 0 0 6 0] (hpS (mRo sv (.slice 1 0 1 nk) (.slice 2 0 1 ng) va cf an) kf nk gf ng) fun v hp => NewL 3 (livL kf gf nk ng) v (obsRes v hp) := by
  refine CodeOK.body Try.func38 (by kernel_rfl) (CodeOK.eval (C := C10) ec gs10 mixed 64 ?_)
  show evalC C10 64 3 (bodF Try.f38) (enterS 17 _) _ (endK Try.prog Try.f38.results.toList fun v hp => NewL 3 (livL kf gf nk ng) v (obsRes v hp))
  rw [t38s sv va cf an kf nk gf ng (NewL 3 (livL kf gf nk ng))]
  unfold livL
  refine ⟨isI_bF _ hn, isI_bF _ hg, condSplit (fun q0 => ⟨isI_bF _ hn, isI_bF _ hg, condSplit (fun q1 => ⟨isI_bF _ hn, isI_bF _ hg, condSplit (fun q2 => ?_) fun q2 => ?_⟩) fun q1 => ⟨isI_bF _ hn, isI_bF _ hg, condSplit (fun q2 => ?_) fun q2 => ?_⟩⟩) fun q0 => ⟨isI_bF _ hn, isI_bF _ hg, condSplit (fun q1 => ⟨isI_bF _ hn, isI_bF _ hg, condSplit (fun q2 => ?_) fun q2 => ?_⟩) fun q1 => ⟨isI_bF _ hn, isI_bF _ hg, condSplit (fun q2 => ?_) fun q2 => ?_⟩⟩⟩
  · rw [show livM kf gf nk ng 0 = true from q0, show livM kf gf nk ng 1 = true from q1, show livM kf gf nk ng 2 = true from q2]; exact ⟨_, by decide, rfl, rfl⟩
  · rw [show livM kf gf nk ng 0 = true from q0, show livM kf gf nk ng 1 = true from q1, show livM kf gf nk ng 2 = false from q2]; exact ⟨_, by decide, rfl, rfl⟩
  · rw [show livM kf gf nk ng 0 = true from q0, show livM kf gf nk ng 1 = false from q1, show livM kf gf nk ng 2 = true from q2]; exact ⟨_, by decide, rfl, rfl⟩
  · rw [show livM kf gf nk ng 0 = true from q0, show livM kf gf nk ng 1 = false from q1, show livM kf gf nk ng 2 = false from q2]; exact ⟨_, by decide, rfl, rfl⟩
  · rw [show livM kf gf nk ng 0 = false from q0, show livM kf gf nk ng 1 = true from q1, show livM kf gf nk ng 2 = true from q2]; exact ⟨_, by decide, rfl, rfl⟩
  · rw [show livM kf gf nk ng 0 = false from q0, show livM kf gf nk ng 1 = true from q1, show livM kf gf nk ng 2 = false from q2]; exact ⟨_, by decide, rfl, rfl⟩
  · rw [show livM kf gf nk ng 0 = false from q0, show livM kf gf nk ng 1 = false from q1, show livM kf gf nk ng 2 = true from q2]; exact ⟨_, by decide, rfl, rfl⟩
  · rw [show livM kf gf nk ng 0 = false from q0, show livM kf gf nk ng 1 = false from q1, show livM kf gf nk ng 2 = false from q2]; exact rfl
theorem liv_eq (kf gf : Nat → Int) (nk ng : Nat) (K : List Int → Prop) : (bif livM kf gf nk ng 0 then (bif livM kf gf nk ng 1 then (bif livM kf gf nk ng 2 then K [0, 1, 2] else K [0, 1]) else (bif livM kf gf nk ng 2 then K [0, 2] else K [0]))
    else (bif livM kf gf nk ng 1 then (bif livM kf gf nk ng 2 then K [1, 2] else K [1]) else (bif livM kf gf nk ng 2 then K [2] else K []))) = K (livL kf gf nk ng) := by
  unfold livL
  cases livM kf gf nk ng 0 <;> cases livM kf gf nk ng 1 <;> cases livM kf gf nk ng 2 <;> rfl
theorem sz_ne {h : Heap} {i j : Nat} {b c : Blk} (h1 : h i = some b) (h2 : h j = some c) (h3 : b.sz = 6) (h4 : c.sz = 1) : i ≠ j := by
  rintro rfl
  rw [h1] at h2
  obtain rfl := Option.some.inj h2
  rw [h3] at h4
  cases h4
theorem mAllN_ok {h : Heap} {id : Nat} {K : Bool → Nat → (Nat → Int) → (Nat → Int) → Nat → Bool → Bool → Bool → Prop} (hk : mAllN h id K) : ∃ (b bk : Blk) (sv : Bool) (ik nk : Nat) (gs : SV) (va cf an : Bool) (gf : Nat → Int) (ng : Nat), h id = some b ∧ b.sz = 6 ∧ b.n = 1 ∧ b.rd 0 = mC sv (.slice ik 0 1 nk) gs va cf an ∧
    h ik = some bk ∧ IsI bk nk ∧ Lst h gs gf ng ∧ okN ik gs = true ∧ K sv nk (fun r => rI (bk.rd r)) gf ng va cf an := by
  obtain ⟨b, sv, ik, nk, gs, va, cf, an, h1, h2, h3, h4, hk⟩ := mR_ok hk
  obtain ⟨bk, k1, k2, hk⟩ := lst_sl hk
  obtain ⟨gf, ng, hg, hk⟩ := lst_ok hk
  cases ho : okN ik gs with
  | false => rw [ho] at hk; exact hk.elim
  | true => rw [ho] at hk; exact ⟨b, bk, sv, ik, nk, gs, va, cf, an, gf, ng, h1, h2, h3, h4, k1, k2, hg, ho, hk⟩
theorem ok38 : SpecOK Try.prog 38 s38 := by
  intro args h base k hk
  unfold s38 at hk
  split at hk
  · rename_i id
    have hc := cal (f := 38) Try.func38 (by kernel_rfl) (by kernel_rfl)
    obtain ⟨b, bk, sv, ik, nk, gs, va, cf, an, gf, ng, h1, h2, h3, h4, k1, k2, lg, ho, hk⟩ := mAllN_ok hk
    rw [liv_eq _ gf nk ng (kI k base)] at hk
    have n1 := sz_ne h1 k1 h2 k2.sz
    rcases lg with ⟨rfl, rfl, rfl⟩ | ⟨ig, bg, rfl, g1, g2, rfl⟩
    · exact listOK hc [.ptr 0 0 6 0] _ [id, ik] rfl (inj2 n1) rfl (fun i b1 e => ⟨ro_n rfl i b1 e, wb_n h1 h2 h3 h4 k1 k2.wb ⟨rfl, rfl, (fun q => nomatch (show (false : Bool) = true from q)), (fun q => nomatch (show (false : Bool) = true from q)), rfl⟩ i b1 e⟩) (canon38n sv va cf an _ nk k2.sm) hk
    · have n2 := sz_ne h1 g1 h2 g2.sz
      exact listOK hc [.ptr 0 0 6 0] _ [id, ik, ig] rfl (inj3 n1 n2 (neN_iff ho)) rfl (fun i b1 e => ⟨ro_s rfl i b1 e, wb_s h1 h2 h3 h4 k1 k2.wb g1 g2.wb ⟨rfl, rfl, (fun q => nomatch (show (false : Bool) = true from q)), (fun q => nomatch (show (false : Bool) = true from q)), rfl⟩ i b1 e⟩) (canon38s sv va cf an _ nk _ ng k2.sm g2.sm) hk
  · cases hk
/-! New, Copy. -/
theorem back_two {ψ : List Nat} {s t base : Nat} : back ψ [s, t] base (base + 1) = some t := back_at (ψ := ψ) (τ := [s, t]) (base := base) (j := 1) (by simp)
theorem back_fst {ψ : List Nat} {s : Nat} {τ : List Nat} {base : Nat} : back ψ (s :: τ) base base = some s := back_at (ψ := ψ) (τ := s :: τ) (base := base) (j := 0) (by simp)
theorem back_snd {ψ : List Nat} {s t : Nat} {τ : List Nat} {base : Nat} : back ψ (s :: t :: τ) base (base + 1) = some t := back_at (ψ := ψ) (τ := s :: t :: τ) (base := base) (j := 1) (by simp)
theorem back_thd {ψ : List Nat} {s t u : Nat} {τ : List Nat} {base : Nat} : back ψ (s :: t :: u :: τ) base (base + 2) = some u := back_at (ψ := ψ) (τ := s :: t :: u :: τ) (base := base) (j := 2) (by simp)
theorem ren_pt {ρ : Ren} {id i r s n : Nat} (h : ρ id = some i) : ren ρ (.ptr id r s n) = some (.ptr i r s n) := by simp only [ren, h]
/-- A handshake in new blocks of its own. -/
theorem newN {f : FuncId} {args args1 : List SV} {h : Heap} {base : Nat} {hp1 : LHeap} {ψ : List Nat} {sv va cf an : Bool} {kf : Nat → Int} {nk t u : Nat} (hcall : ∀ vs w, (callFunc f vs).run Try.prog w = .ok (.enter f vs) w) (hl : ψ.length = hp1.length) (hinj : ∀ (i j x : Nat), ψ[i]? = some x → ψ[j]? = some x → i = j) (ha : renL (fun i => ψ[i]?) args1 = some args)
    (hb : ∀ (i : Nat) (b1 : Blk), hget hp1 i = some b1 → b1.rw = false ∧ ∃ x b, ψ[i]? = some x ∧ h x = some b ∧ WB (fun i => ψ[i]?) b1 b) (ht : hp1.length ≤ t) (hu : hp1.length ≤ u) (hne : t ≠ u)
    (hcan : Canon Try.prog f args1 hp1 fun v hp => v = .ptr t 0 6 0 ∧ obsB true (hget hp t) = .rows 6 1 true 57 [mC sv (.slice u 0 1 nk) .nilSlice va cf an] ∧ ∃ A, hget hp u = some A ∧ IsA A kf nk) :
    CSim Try.prog f args h base (.ptr base 0 6 0) [] [mB sv (.slice (base + 1) 0 1 nk) .nilSlice va cf an, bFw kf nk] := by
  rw [← zipW_nil ψ]
  refine CSim.zip (outs := []) hcall args1 hp1 ψ hl hinj hcan ha (fun i b1 e => (hb i b1 e).2) (fun i b1 e hrw => by rw [(hb i b1 e).1] at hrw; cases hrw) (fun i hi => nomatch (show i < 0 from hi)) fun v' hp2 hk => ?_
  obtain ⟨rfl, ho, A, hg, hA⟩ := hk
  obtain ⟨b2, e1, e2, e3, e4, e5, e6⟩ := obsB_rows ho
  refine ⟨[t, u], rfl, fun x hx => ?_, inj2 hne, ren_pt back_fst, fun j c q => ?_, fun i b q => by simp at q⟩
  · simp at hx
    rcases hx with rfl | rfl
    · exact ht
    · exact hu
  · match j, q with
    | 0, q =>
      obtain rfl := Option.some.inj (show some (mB sv (.slice (base + 1) 0 1 nk) .nilSlice va cf an) = some c from q)
      exact ⟨rfl, t, b2, rfl, e1, wb_one (e2.symm ▸ rfl) e3 e4 e5 e6 ((cl_k sv va cf an).wl _ _ _ _ _ (ren_sl back_snd) rfl)⟩
    | 1, q =>
      obtain rfl := Option.some.inj (show some (bFw kf nk) = some c from q)
      exact ⟨rfl, u, A, rfl, hg, hA.wb _⟩
    | j + 2, q => simp at q
theorem newS {f : FuncId} {args args1 : List SV} {h : Heap} {base : Nat} {hp1 : LHeap} {ψ : List Nat} {sv va cf an : Bool} {kf gf : Nat → Int} {nk ng t u w : Nat} (hcall : ∀ vs w, (callFunc f vs).run Try.prog w = .ok (.enter f vs) w) (hl : ψ.length = hp1.length) (hinj : ∀ (i j x : Nat), ψ[i]? = some x → ψ[j]? = some x → i = j) (ha : renL (fun i => ψ[i]?) args1 = some args)
    (hb : ∀ (i : Nat) (b1 : Blk), hget hp1 i = some b1 → b1.rw = false ∧ ∃ x b, ψ[i]? = some x ∧ h x = some b ∧ WB (fun i => ψ[i]?) b1 b) (ht : hp1.length ≤ t) (hu : hp1.length ≤ u) (hw : hp1.length ≤ w) (n1 : t ≠ u) (n2 : t ≠ w) (n3 : u ≠ w)
    (hcan : Canon Try.prog f args1 hp1 fun v hp => v = .ptr t 0 6 0 ∧ obsB true (hget hp t) = .rows 6 1 true 57 [mC sv (.slice u 0 1 nk) (.slice w 0 1 ng) va cf an] ∧ (∃ A, hget hp u = some A ∧ IsA A kf nk) ∧ ∃ A, hget hp w = some A ∧ IsA A gf ng) :
    CSim Try.prog f args h base (.ptr base 0 6 0) [] [mB sv (.slice (base + 1) 0 1 nk) (.slice (base + 2) 0 1 ng) va cf an, bFw kf nk, bFw gf ng] := by
  rw [← zipW_nil ψ]
  refine CSim.zip (outs := []) hcall args1 hp1 ψ hl hinj hcan ha (fun i b1 e => (hb i b1 e).2) (fun i b1 e hrw => by rw [(hb i b1 e).1] at hrw; cases hrw) (fun i hi => nomatch (show i < 0 from hi)) fun v' hp2 hk => ?_
  obtain ⟨rfl, ho, ⟨A, hg, hA⟩, B, hg2, hB⟩ := hk
  obtain ⟨b2, e1, e2, e3, e4, e5, e6⟩ := obsB_rows ho
  refine ⟨[t, u, w], rfl, fun x hx => ?_, inj3 n1 n2 n3, ren_pt back_fst, fun j c q => ?_, fun i b q => by simp at q⟩
  · simp at hx
    rcases hx with rfl | rfl | rfl
    · exact ht
    · exact hu
    · exact hw
  · match j, q with
    | 0, q =>
      obtain rfl := Option.some.inj (show some (mB sv (.slice (base + 1) 0 1 nk) (.slice (base + 2) 0 1 ng) va cf an) = some c from q)
      exact ⟨rfl, t, b2, rfl, e1, wb_one (e2.symm ▸ rfl) e3 e4 e5 e6 ((cl_k sv va cf an).wl _ _ _ _ _ (ren_sl back_snd) (ren_sl back_thd))⟩
    | 1, q =>
      obtain rfl := Option.some.inj (show some (bFw kf nk) = some c from q)
      exact ⟨rfl, u, A, rfl, hg, hA.wb _⟩
    | 2, q =>
      obtain rfl := Option.some.inj (show some (bFw gf ng) = some c from q)
      exact ⟨rfl, w, B, rfl, hg2, hB.wb _⟩
    | j + 3, q => simp at q
theorem inj0 : ∀ (i j x : Nat), ([] : List Nat)[i]? = some x → ([] : List Nat)[j]? = some x → i = j := fun i j x q => by simp at q
theorem ok22 : SpecOK Try.prog 22 s22 := by
  intro args h base k hk
  unfold s22 at hk
  split at hk
  · rename_i b
    refine ⟨_, [], _, hk, newN (t := 1) (u := 0) (ψ := []) (hp1 := []) (args1 := [.bool b]) (cal Try.func22 (by kernel_rfl) (by kernel_rfl)) rfl inj0 rfl (fun i b1 e => by rw [nob] at e; cases e) (Nat.zero_le _) (Nat.zero_le _) (by decide) ?_⟩
    refine Canon.mono (k := fun v hp => (fun v o o2 => v = .ptr 1 0 6 0 ∧ o = .rows 6 1 true 57 [mC b (.slice 0 0 1 1) .nilSlice (!b) false false] ∧ o2 = .rows 1 1 true 3 [[.int .i64 0]]) v (obsB true (hget hp 1)) (obsB true (hget hp 0))) ?_ fun v hp hk => ?_
    · refine CodeOK.body Try.func22 (by kernel_rfl) (CodeOK.eval (C := C0) ec g0 mixed 64 ?_)
      show evalC C0 64 0 (bodF Try.f22) (enterS 9 _) [] (endK Try.prog Try.f22.results.toList (fun v hp => (fun v o o2 => v = .ptr 1 0 6 0 ∧ o = .rows 6 1 true 57 [mC b (.slice 0 0 1 1) .nilSlice (!b) false false] ∧ o2 = .rows 1 1 true 3 [[.int .i64 0]]) v (obsB true (hget hp 1)) (obsB true (hget hp 0))))
      rw [t22 b (fun v o o2 => v = .ptr 1 0 6 0 ∧ o = .rows 6 1 true 57 [mC b (.slice 0 0 1 1) .nilSlice (!b) false false] ∧ o2 = .rows 1 1 true 3 [[.int .i64 0]])]
      exact ⟨rfl, rfl, rfl⟩
    obtain ⟨e1, e2, e3⟩ := hk
    obtain ⟨A, a1, a2, a3, a4, a5, a6⟩ := obsB_rows e3
    exact ⟨e1, e2, A, a1, a2, a3, a4, a5, fun r hr => by obtain rfl : r = 0 := (by omega); exact a6⟩
  · cases hk
theorem rowsOne (kf : Nat → Int) (n k : Nat) : allOne (fun i => (bF kf n).rd (0 + i)) k = true := by
  induction k with
  | zero => rfl
  | succ k ih => simp only [allOne, ih, Bool.and_true]; rfl
theorem capC {kf : Nat → Int} {n k : Nat} (h : k ≤ 1000) : (allOne (fun i => (bF kf n).rd (0 + i)) (k + 1) && true && true && decide (k + 1 ≤ 9223372036854775807) && decide ((k + 1) * 8 ≤ 140737488355328)) = true := by
  have h1 : k + 1 ≤ 9223372036854775807 := by omega
  have h2 : (k + 1) * 8 ≤ 140737488355328 := by omega
  simp only [rowsOne, h1, h2, decide_true, Bool.and_true]
theorem cp1 {kf : Nat → Int} {n : Nat} {A : Blk} (h1 : A.sz = 1) (h2 : A.n = n) (h3 : A.rw = true) (h4 : A.ty = 3) (h5 : ∀ r, A.rd r = [.int .i64 (kf (0 + r))]) : IsA A kf n :=
  ⟨h1, h2, h3, h4, fun r _ => by rw [h5 r, Nat.zero_add]⟩
theorem canon25n (sv va cf an : Bool) (kf : Nat → Int) (nk : Nat) (hn : nk ≤ 1000) : Canon Try.prog 25 [.ptr 0 0 6 0] (hpN (mRo sv (.slice 1 0 1 (nk + 1)) .nilSlice va cf an) kf (nk + 1)) fun v hp =>
    (fun v o x => v = .ptr 2 0 6 0 ∧ o = .rows 6 1 true 57 [mC sv (.slice 3 0 1 (nk + 1)) .nilSlice va cf an] ∧ ∃ A, x = some A ∧ IsA A kf (nk + 1)) v (obsB true (hget hp 2)) (hget hp 3) := by
  refine CodeOK.body Try.func25 (by kernel_rfl) (CodeOK.eval (C := C0) ec g0 mixed 64 ?_)
  show evalC C0 64 2 (bodF Try.f25) (enterS 23 _) _ (endK Try.prog Try.f25.results.toList fun v hp => (fun v o x => v = .ptr 2 0 6 0 ∧ o = .rows 6 1 true 57 [mC sv (.slice 3 0 1 (nk + 1)) .nilSlice va cf an] ∧ ∃ A, x = some A ∧ IsA A kf (nk + 1)) v (obsB true (hget hp 2)) (hget hp 3))
  rw [t25n sv va cf an kf nk (fun v o x => v = .ptr 2 0 6 0 ∧ o = .rows 6 1 true 57 [mC sv (.slice 3 0 1 (nk + 1)) .nilSlice va cf an] ∧ ∃ A, x = some A ∧ IsA A kf (nk + 1))]
  refine condT (cb (by omega)) ?_
  refine condT (capC hn) ?_
  refine condSplit (fun q => ?_) fun q => ?_
  · exact ⟨rfl, rfl, _, rfl, cp1 rfl rfl rfl rfl fun r => by cases r <;> rfl⟩
  · exact ⟨rfl, rfl, _, rfl, cp1 rfl rfl rfl rfl fun r => rfl⟩
theorem canon25s (sv va cf an : Bool) (kf : Nat → Int) (nk : Nat) (gf : Nat → Int) (ng : Nat) (hn : nk ≤ 1000) (hg : ng ≤ 1000) : Canon Try.prog 25 [.ptr 0 0 6 0] (hpS (mRo sv (.slice 1 0 1 (nk + 1)) (.slice 2 0 1 (ng + 1)) va cf an) kf (nk + 1) gf (ng + 1)) fun v hp =>
    (fun v o x y => v = .ptr 3 0 6 0 ∧ o = .rows 6 1 true 57 [mC sv (.slice 4 0 1 (nk + 1)) (.slice 5 0 1 (ng + 1)) va cf an] ∧ (∃ A, x = some A ∧ IsA A kf (nk + 1)) ∧ ∃ A, y = some A ∧ IsA A gf (ng + 1)) v (obsB true (hget hp 3)) (hget hp 4) (hget hp 5) := by
  refine CodeOK.body Try.func25 (by kernel_rfl) (CodeOK.eval (C := C0) ec g0 mixed 64 ?_)
  show evalC C0 64 3 (bodF Try.f25) (enterS 23 _) _ (endK Try.prog Try.f25.results.toList fun v hp => (fun v o x y => v = .ptr 3 0 6 0 ∧ o = .rows 6 1 true 57 [mC sv (.slice 4 0 1 (nk + 1)) (.slice 5 0 1 (ng + 1)) va cf an] ∧ (∃ A, x = some A ∧ IsA A kf (nk + 1)) ∧ ∃ A, y = some A ∧ IsA A gf (ng + 1)) v (obsB true (hget hp 3)) (hget hp 4) (hget hp 5))
  rw [t25s sv va cf an kf nk gf ng (fun v o x y => v = .ptr 3 0 6 0 ∧ o = .rows 6 1 true 57 [mC sv (.slice 4 0 1 (nk + 1)) (.slice 5 0 1 (ng + 1)) va cf an] ∧ (∃ A, x = some A ∧ IsA A kf (nk + 1)) ∧ ∃ A, y = some A ∧ IsA A gf (ng + 1))]
  refine condT (cb (by omega)) ?_
  refine condT (capC hn) ?_
  refine condSplit (fun q => ?_) fun q => ?_
  all_goals
    refine condT (cb (by omega)) ?_
    refine condT (capC hg) ?_
    refine condSplit (fun q => ?_) fun q => ?_
  · exact ⟨rfl, rfl, ⟨_, rfl, cp1 rfl rfl rfl rfl fun r => by cases r <;> rfl⟩, _, rfl, cp1 rfl rfl rfl rfl fun r => by cases r <;> rfl⟩
  · exact ⟨rfl, rfl, ⟨_, rfl, cp1 rfl rfl rfl rfl fun r => by cases r <;> rfl⟩, _, rfl, cp1 rfl rfl rfl rfl fun r => rfl⟩
  · exact ⟨rfl, rfl, ⟨_, rfl, cp1 rfl rfl rfl rfl fun r => rfl⟩, _, rfl, cp1 rfl rfl rfl rfl fun r => by cases r <;> rfl⟩
  · exact ⟨rfl, rfl, ⟨_, rfl, cp1 rfl rfl rfl rfl fun r => rfl⟩, _, rfl, cp1 rfl rfl rfl rfl fun r => rfl⟩
theorem ok25 : SpecOK Try.prog 25 s25n := by
  intro args h base k hk
  unfold s25n at hk
  split at hk
  · rename_i id
    have hc := cal (f := 25) Try.func25 (by kernel_rfl) (by kernel_rfl)
    obtain ⟨b, sv, ik, nk, gs, va, cf, an, h1, h2, h3, h4, hk⟩ := mR_ok hk
    obtain ⟨bk, k1, k2, hk⟩ := lst_sl hk
    cases nk with
    | zero => exact hk.elim
    | succ nk =>
    obtain ⟨hn, hk⟩ := hk
    have n1 := sz_ne h1 k1 h2 k2.sz
    split at hk
    · exact ⟨_, [], _, hk, newN (t := 2) (u := 3) (ψ := [id, ik]) (args1 := [.ptr 0 0 6 0]) hc rfl (inj2 n1) rfl (fun i b1 e => ⟨ro_n rfl i b1 e, wb_n h1 h2 h3 h4 k1 k2.wb ⟨rfl, rfl, (fun q => nomatch (show (false : Bool) = true from q)), (fun q => nomatch (show (false : Bool) = true from q)), rfl⟩ i b1 e⟩) (Nat.le_refl _) (show 2 ≤ 3 by decide) (by decide) (canon25n sv va cf an _ nk hn)⟩
    · rename_i ig ng hk0
      clear hk0
      cases ng with
      | zero => exact hk.elim
      | succ ng =>
      obtain ⟨hg, hk⟩ := hk
      cases ho : neN ik ig with
      | false => rw [ho] at hk; exact hk.elim
      | true =>
      rw [ho, cond_true] at hk
      obtain ⟨bg, g1, g2, hk⟩ := lst_sl hk
      have n2 := sz_ne h1 g1 h2 g2.sz
      exact ⟨_, [], _, hk, newS (t := 3) (u := 4) (w := 5) (ψ := [id, ik, ig]) (args1 := [.ptr 0 0 6 0]) hc rfl (inj3 n1 n2 (neN_iff ho)) rfl (fun i b1 e => ⟨ro_s rfl i b1 e, wb_s h1 h2 h3 h4 k1 k2.wb g1 g2.wb ⟨rfl, rfl, (fun q => nomatch (show (false : Bool) = true from q)), (fun q => nomatch (show (false : Bool) = true from q)), rfl⟩ i b1 e⟩) (Nat.le_refl _) (show 3 ≤ 4 by decide) (show 3 ≤ 5 by decide) (by decide) (by decide) (by decide) (canon25s sv va cf an _ nk _ ng hn hg)⟩
    · cases hk
  · cases hk
theorem gs11 : GSound C11 := (((((((gs10.add ok38).add ok40).add ok41).add ok42).add ok43).add ok44).add ok22).add ok25
end
end Go.Proofs.Ytllkhfabfcpieaa
