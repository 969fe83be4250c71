/-
  Chapter 9 by the engine: small parts: the contracts are kept.
-/
import Derived.Test.YtcjfmkkfcbelpaaT13
import Derived.Test.YtcjfmkkfcbelpaaX13
namespace Go.Proofs.Ytcjfmkkfcbelpaa
open Go.RowKit
set_option linter.unusedVariables false
def fourL : List Pk := [⟨1, 0, 9, false, false, false⟩, ⟨2, 100, 9, false, false, false⟩, ⟨5, 200, 9, false, false, false⟩, ⟨6, 300, 9, false, false, false⟩]
theorem isL_rows {ob : Option Blk} {l : List Pk} {Q : Nat → Pk} (h : obsB true ob = .rows 6 l.length true 33 (l.map pkC)) (hQ : ∀ r, r < l.length → l[r]? = some (Q r)) : ∃ A, ob = some A ∧ IsL A Q l.length := by
  cases ob with
  | none => simp [obsB] at h
  | some b2 =>
    simp only [obsB, BO.rows.injEq] at h
    obtain ⟨e1, e2, e3, e4, e5⟩ := h
    refine ⟨b2, rfl, e1, e2, e3, e4, fun r hr => ?_⟩
    have e6 := congrArg (fun L => L[r]?) e5
    simp only [List.getElem?_map] at e6
    rw [e2, List.getElem?_range hr, hQ r hr] at e6
    simpa using e6
theorem ok23 : SpecOK Try.prog 23 s23 := by
  intro args h base k hk
  unfold s23 at hk
  split at hk
  · refine ⟨_, [], [], hk, plainOK gs12 Try.func23 (by kernel_rfl) (by kernel_rfl) ?_ rfl rfl h base⟩
    show evalF C12 64 Try.f23 _ [] _
    rw [t23 (fun v => v = _)]
    rfl
  · cases hk
theorem ok20 : SpecOK Try.prog 20 s20 := by
  intro args h base k hk
  unfold s20 at hk
  split at hk
  · rename_i a b
    refine ⟨_, [], [], hk, plainOK gs12 Try.func20 (by kernel_rfl) (by kernel_rfl) ?_ rfl rfl h base⟩
    show evalF C12 64 Try.f20 _ [] _
    rw [t20 a b (fun v => v = _), tdv (by omega) (by omega) (by omega)]
    rfl
  · cases hk
theorem condT {c : Bool} {p q : Prop} (h : c = true) (hp : p) : bif c then p else q := by rw [h]; exact hp
theorem condF {c : Bool} {p q : Prop} (h : c = false) (hq : q) : bif c then p else q := by rw [h]; exact hq
section
attribute [local irreducible] evalC
set_option maxRecDepth 100000
theorem ok24 : SpecOK Try.prog 24 s24 := by
  intro args h base k hk
  unfold s24 at hk
  split at hk
  · refine ⟨_, _, _, hk, find1 (ψ := []) (hp1 := []) (args1 := []) (x := 0) (V1 := .slice 0 0 6 4) (cal (f := 24) Try.func24 (by kernel_rfl) (by kernel_rfl)) rfl inj0 rfl (fun i b1 e => by rw [nob] at e; cases e) (Nat.zero_le _) (by simp only [ren, back_one]) ?_⟩
    refine Canon.mono (k := fun v hp => (fun v o => v = .slice 0 0 6 4 ∧ o = .rows 6 4 true 33 (fourL.map pkC)) v (obsB true (hget hp 0))) ?_ fun v hp hh => ⟨hh.1, isL_rows (l := fourL) (Q := four) hh.2 fun r hr => by
      have hr : r < 4 := hr
      match r, hr with
      | 0, _ => rfl
      | 1, _ => rfl
      | 2, _ => rfl
      | 3, _ => rfl⟩
    refine CodeOK.body Try.func24 (by kernel_rfl) (CodeOK.eval (C := C12) ec gs12 mixed 64 ?_)
    show evalC C12 64 0 (bodF Try.f24) (enterS 6 []) [] (endK Try.prog Try.f24.results.toList fun v hp => (fun v o => v = .slice 0 0 6 4 ∧ o = .rows 6 4 true 33 (fourL.map pkC)) v (obsB true (hget hp 0)))
    rw [t24 (fun v o => v = .slice 0 0 6 4 ∧ o = .rows 6 4 true 33 (fourL.map pkC))]
    exact ⟨rfl, rfl⟩
  · cases hk
theorem rowsP (P : Nat → Pk) (n k : Nat) : allOne (fun i => (bP n P).rd i) k = true := by
  induction k with
  | zero => rfl
  | succ k ih => simp only [allOne, ih, Bool.and_true]; rfl
theorem canon10 (n : Nat) (P : Nat → Pk) (q : Nat) (hq : q + 1 = min n 260) : Canon Try.prog 10 [.slice 0 0 6 n] [some (bP n P)] fun v hp => (fun v o => v = .slice 1 0 6 (q + 1) ∧ ∃ A, o = some A ∧ IsL A P (q + 1)) v (hget hp 1) := by
  have mi : (if (260 : Int) < (n : Int) then (260 : Int) else (n : Int)) = ((q + 1 : Nat) : Int) := by split <;> omega
  refine CodeOK.body Try.func10 (by kernel_rfl) (CodeOK.eval (C := C12) ec gs12 mixed 64 ?_)
  show evalC C12 64 1 (bodF Try.f10) (enterS 11 _) _ (endK Try.prog Try.f10.results.toList fun v hp => (fun v o => v = .slice 1 0 6 (q + 1) ∧ ∃ A, o = some A ∧ IsL A P (q + 1)) v (hget hp 1))
  rw [t10s n P (fun v o => v = .slice 1 0 6 (q + 1) ∧ ∃ A, o = some A ∧ IsL A P (q + 1))]
  simp only [mi, Int.toNat_natCast, Nat.sub_zero, Nat.zero_add, Int.toNat_zero]
  refine condT (by rw [cb (show (0 : Int) ≤ ((q + 1 : Nat) : Int) by omega), cb (show ((q + 1 : Nat) : Int) ≤ (n : Int) by omega)]; rfl) ?_
  refine condT (cb (by omega)) (condT (cb (by omega)) (condF (cf (by omega)) (condT (by rw [rowsP, cb (show q + 1 ≤ 9223372036854775807 by omega), cb (show (q + 1) * 32 ≤ 140737488355328 by omega)]; rfl) ?_)))
  refine condSplit (fun _ => ?_) fun _ => ?_
  · exact ⟨trivial, _, rfl, rfl, rfl, rfl, rfl, fun r _ => by cases r <;> rfl⟩
  · exact ⟨trivial, _, rfl, rfl, rfl, rfl, rfl, fun r _ => rfl⟩
theorem IsPs.wb {b : Blk} {n : Nat} (h : IsPs b n) (ρ : Ren) : WB ρ (bP n (fun r => rowP (b.rd r))) b :=
  WB.of_rows h.sz.symm h.le (fun q => nomatch (show (false : Bool) = true from q)) (fun q => nomatch (show (false : Bool) = true from q)) fun r hr => by
    obtain ⟨p, e⟩ := h.rd r hr
    refine ⟨?_, rfl⟩
    show pkC (rowP (b.rd r)) = b.rd r
    rw [e, rowP_pkC]
theorem ok10 : SpecOK Try.prog 10 s10 := by
  intro args h base k hk
  unfold s10 at hk
  have hc := cal (f := 10) Try.func10 (by kernel_rfl) (by kernel_rfl)
  split at hk
  · refine ⟨_, [], [], hk, find0 (ψ := []) (hp1 := []) (args1 := [.nilSlice]) hc rfl rfl (fun i b1 e => by rw [nob] at e; cases e) rfl ?_⟩
    refine CodeOK.body Try.func10 (by kernel_rfl) (CodeOK.eval (C := C12) ec gs12 mixed 64 ?_)
    show evalC C12 64 0 (bodF Try.f10) (enterS 11 _) [] (endK Try.prog Try.f10.results.toList fun v _ => v = .nilSlice)
    rw [t10n (fun v => v = .nilSlice)]
  · refine ⟨_, [], [], hk, find0 (ψ := []) (hp1 := []) (args1 := [.eslice]) hc rfl rfl (fun i b1 e => by rw [nob] at e; cases e) rfl ?_⟩
    refine CodeOK.body Try.func10 (by kernel_rfl) (CodeOK.eval (C := C12) ec gs12 mixed 64 ?_)
    show evalC C12 64 0 (bodF Try.f10) (enterS 11 _) [] (endK Try.prog Try.f10.results.toList fun v _ => v = .nilSlice)
    rw [t10e (fun v => v = .nilSlice)]
  · rename_i id n
    split at hk
    · rename_i b hb
      obtain ⟨hP, hn, hk⟩ := hk
      obtain ⟨q, hq⟩ : ∃ q, q + 1 = min n 260 := ⟨min n 260 - 1, by omega⟩
      refine ⟨_, _, _, hk q (fun r => rowP (b.rd r)) hq fun r _ => rfl, find1 (ψ := [id]) (hp1 := [some (bP n fun r => rowP (b.rd r))]) (args1 := [.slice 0 0 6 n]) (x := 1) (V1 := .slice 1 0 6 (q + 1)) hc rfl inj1 rfl (fun i b1 e => ?_) (Nat.le_refl _) (by simp only [ren, back_one]) (canon10 n _ q hq)⟩
      match i, e with
      | 0, e =>
        obtain rfl := Option.some.inj (show some (bP n fun r => rowP (b.rd r)) = some b1 from e)
        exact ⟨rfl, id, b, rfl, hb, hP.wb _⟩
      | i + 1, e => exact nomatch (show (none : Option Blk) = some b1 from e)
    · cases hk
  · cases hk
theorem gs13 : GSound C13 := (((gs12.add ok23).add ok24).add ok20).add ok10
end
end Go.Proofs.Ytcjfmkkfcbelpaa
