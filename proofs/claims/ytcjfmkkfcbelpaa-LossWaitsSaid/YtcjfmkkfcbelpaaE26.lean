/-
  A small engine for walks, part 26: contracts whose blocks are told in a row: first those that are written (or let go), then those that are read.
-/
import Derived.Test.YtcjfmkkfcbelpaaE25
namespace Go.Proofs.Ytcjfmkkfcbelpaa
open Go.RowKit

def zipW : List Nat → List (Option Blk) → Wr
  | a :: l, o :: m => (a, o) :: zipW l m
  | _, _ => []
theorem lk_zip_get : ∀ {ψ : List Nat} {outs : List (Option Blk)} {id : Nat} {ob : Option Blk}, lk (zipW ψ outs) id = some ob → ∃ i : Nat, ψ[i]? = some id ∧ outs[i]? = some ob
  | [], _, _, _, h => by simp [zipW, lk] at h
  | _ :: _, [], _, _, h => by simp [zipW, lk] at h
  | a :: l, o :: m, id, ob, h => by
    simp only [zipW, lk] at h
    split at h
    · rename_i e
      exact ⟨0, by simp [e], by simpa using h⟩
    · obtain ⟨i, h1, h2⟩ := lk_zip_get h
      exact ⟨i + 1, by simpa using h1, by simpa using h2⟩
theorem lk_zip_of : ∀ {ψ : List Nat} {outs : List (Option Blk)} {id i : Nat} {ob : Option Blk}, (∀ (i j x : Nat), ψ[i]? = some x → ψ[j]? = some x → i = j) → ψ[i]? = some id → outs[i]? = some ob → lk (zipW ψ outs) id = some ob
  | [], _, _, _, _, _, h, _ => by simp at h
  | _ :: _, [], _, _, _, _, _, h => by simp at h
  | a :: l, o :: m, id, i, ob, hinj, h1, h2 => by
    simp only [zipW, lk]
    cases i with
    | zero =>
      simp at h1 h2
      rw [if_pos h1.symm, h2]
    | succ i =>
      have hne : id ≠ a := by
        rintro rfl
        have := hinj 0 (i + 1) id (by simp) h1
        omega
      rw [if_neg hne]
      exact lk_zip_of (fun i j x e1 e2 => by have := hinj (i + 1) (j + 1) x (by simpa using e1) (by simpa using e2); omega) (by simpa using h1) (by simpa using h2)
theorem findN_of : ∀ {ψ : List Nat} {i x : Nat}, (∀ (i j x : Nat), ψ[i]? = some x → ψ[j]? = some x → i = j) → ψ[i]? = some x → findN x ψ = some i
  | [], _, _, _, h => by simp at h
  | a :: l, i, x, hinj, h => by
    simp only [findN]
    cases hb : Nat.beq a x with
    | true =>
      have := Nat.eq_of_beq_eq_true hb
      subst this
      have := hinj 0 i a (by simp) h
      subst this
      rfl
    | false =>
      cases i with
      | zero =>
        simp at h
        subst h
        simp at hb
      | succ i =>
        have := findN_of (ψ := l) (i := i) (x := x) (fun i j x e1 e2 => by have := hinj (i + 1) (j + 1) x (by simpa using e1) (by simpa using e2); omega) (by simpa using h)
        rw [cond_false, this]
        rfl
/-- An old block keeps its name. -/
theorem back_old {ψ τ : List Nat} {base i x : Nat} (hinj : ∀ (i j x : Nat), ψ[i]? = some x → ψ[j]? = some x → i = j) (h : ψ[i]? = some x) (hx : x < base) : back ψ τ base x = some i := by
  unfold back
  rw [show (Nat.ble base x && Nat.blt x (base + τ.length)) = false by
    cases hc : Nat.ble base x with
    | true => rw [Nat.ble_eq] at hc; omega
    | false => rfl, cond_false]
  exact findN_of hinj h
theorem CSim.zip {P : Program} {f : FuncId} {args : List SV} {h : Heap} {v : SV} {news : List Blk} (hcall : ∀ vs w, (callFunc f vs).run P w = .ok (.enter f vs) w) (args1 : List SV) (hp1 : LHeap) (ψ : List Nat) (hl : ψ.length = hp1.length)
    {base : Nat} (hinj : ∀ (i j x : Nat), ψ[i]? = some x → ψ[j]? = some x → i = j) {K : KV} (hcan : Canon P f args1 hp1 K) (ha : renL (fun i => ψ[i]?) args1 = some args)
    (hb : ∀ (i : Nat) (b1 : Blk), hget hp1 i = some b1 → ∃ x b, ψ[i]? = some x ∧ h x = some b ∧ WB (fun i => ψ[i]?) b1 b) (outs : List (Option Blk))
    (hrw : ∀ (i : Nat) (b1 : Blk), hget hp1 i = some b1 → b1.rw = true → ∃ x, ψ[i]? = some x ∧ i < outs.length) (hin : ∀ i, i < outs.length → ∃ b1, hget hp1 i = some b1 ∧ b1.rw = true)
    (hfin : ∀ v' hp2, K v' hp2 → ∃ τ : List Nat, τ.length = news.length ∧ (∀ t ∈ τ, hp1.length ≤ t) ∧ (∀ (i j x : Nat), τ[i]? = some x → τ[j]? = some x → i = j) ∧ ren (back ψ τ base) v = some v' ∧
      (∀ (j : Nat) (b : Blk), news[j]? = some b → b.rw = true ∧ ∃ i b2, τ[j]? = some i ∧ hget hp2 i = some b2 ∧ WB (back ψ τ base) b b2) ∧
      ∀ (i : Nat) (b : Blk), outs[i]? = some (some b) → b.rw = true ∧ ∃ b2, hget hp2 i = some b2 ∧ WB (back ψ τ base) b b2) :
    CSim P f args h base v (zipW ψ outs) news := by
  refine CSim.gen2 hcall args1 hp1 ψ hl hinj hcan ha hb fun v' hp2 hk => ?_
  obtain ⟨τ, h1, h2, h3, h4, h5, h6⟩ := hfin v' hp2 hk
  refine ⟨τ, h1, h2, h3, h4, h5, fun id b hlk => ?_, fun i b1 e1 e2 => ?_⟩
  · obtain ⟨i, q1, q2⟩ := lk_zip_get hlk
    obtain ⟨q3, b2, q4, q5⟩ := h6 i b q2
    obtain ⟨b1, q6, q7⟩ := hin i (List.getElem?_eq_some_iff.1 q2).1
    exact ⟨i, b2, b1, q1, q3, q6, q7, q4, q5⟩
  · obtain ⟨x, q1, q2⟩ := hrw i b1 e1 e2
    refine ⟨x, q1, ?_⟩
    have q3 : outs[i]? = some outs[i] := List.getElem?_eq_getElem q2
    cases ho : outs[i] with
    | none => exact .inl (lk_zip_of hinj q1 (by rw [q3, ho]))
    | some b =>
      obtain ⟨q4, b2, q5, q6⟩ := h6 i b (by rw [q3, ho])
      exact .inr ⟨b, b2, lk_zip_of hinj q1 (by rw [q3, ho]), q5, q6.rw q4⟩
end Go.Proofs.Ytcjfmkkfcbelpaa
