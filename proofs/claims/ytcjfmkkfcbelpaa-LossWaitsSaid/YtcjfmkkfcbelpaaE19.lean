/-
  A small engine for walks, part 19: templates by other names.
-/
import Derived.Test.YtcjfmkkfcbelpaaEng
namespace Go.Proofs.Ytcjfmkkfcbelpaa
open Go.RowKit

theorem WL.of_get {ρ : Ren} : ∀ {l r : List SV}, l.length = r.length → (∀ (i : Nat) (s t : SV), l[i]? = some s → r[i]? = some t → s = .top ∨ ren ρ s = some t) → WL ρ l r
  | [], [], _, _ => trivial
  | [], _ :: _, h, _ => by simp at h
  | _ :: _, [], h, _ => by simp at h
  | a :: l, b :: r, h, k => ⟨k 0 a b rfl rfl, WL.of_get (by simpa using h) fun i s t h1 h2 => k (i + 1) s t (by simpa using h1) (by simpa using h2)⟩
theorem WL.lkv {ρ : Ren} {i : Nat} : ∀ {L : List Nat} {a b : List SV}, WL ρ a b → lkv i L a = .top ∨ ren ρ (lkv i L a) = some (lkv i L b)
  | [], _, _, _ => .inl (by simp [Go.Proofs.Ytcjfmkkfcbelpaa.lkv])
  | _ :: _, [], [], _ => .inl (by simp [Go.Proofs.Ytcjfmkkfcbelpaa.lkv])
  | _ :: _, [], _ :: _, h => h.elim
  | _ :: _, _ :: _, [], h => h.elim
  | x :: L, s :: a, t :: b, h => by
    simp only [Go.Proofs.Ytcjfmkkfcbelpaa.lkv]
    cases Nat.beq x i with
    | true => exact h.1
    | false => exact WL.lkv h.2
theorem ren_weak {m0 len : Nat} {L : List Nat} {vals vals' : List SV} {hp hp' : LHeap} (ρ : List Nat) (hl : ρ.length = hp'.length) (hm : m0 ≤ hp'.length) (hid : ∀ i, i < m0 → ρ[i]? = some i) (hv : WL (fun i => ρ[i]?) vals' vals)
    (hb : ∀ (id : Nat) (b1 : Blk), hget hp' id = some b1 → ∃ i b, ρ[id]? = some i ∧ hget hp i = some b ∧ WB (fun i => ρ[i]?) b1 b) (hinj : ∀ (i j x : Nat), ρ[i]? = some x → ρ[j]? = some x → i = j) :
    Weak m0 (tplF len L vals) hp (tplF len L vals') hp' := by
  refine ⟨ρ, hl, hm, hid, ?_, hb, fun i j x _ _ h1 h2 => hinj i j x h1 h2⟩
  refine WL.of_get (by rw [tplF_length, tplF_length]) fun i s t e1 e2 => ?_
  rw [tplF_get] at e1 e2
  split at e1
  · rename_i hlt
    rw [if_pos hlt] at e2
    simp only [Option.some.injEq] at e1 e2
    rw [← e1, ← e2]
    exact hv.lkv
  · cases e1
/-- A block that says the same, row by row, and names none. -/
theorem WB.of_rows {ρ : Ren} {b1 b : Blk} (hs : b1.sz = b.sz) (hn : b1.n ≤ b.n) (hrw : b1.rw = true → b.rw = true) (ht : b1.rw = true → b1.ty = b.ty) (h : ∀ r, r < b1.n → b1.rd r = b.rd r ∧ svIdsL (b1.rd r) = []) : WB ρ b1 b :=
  ⟨hs, hn, hrw, ht, fun r hr => by rw [← (h r hr).1]; exact WL_self (h r hr).2 ρ⟩
theorem back_at {ψ τ : List Nat} {base j : Nat} (h : j < τ.length) : back ψ τ base (base + j) = τ[j]? := by
  unfold back
  rw [show (Nat.ble base (base + j) && Nat.blt (base + j) (base + τ.length)) = true by simp [Nat.ble_eq, Nat.blt_eq]; exact h, cond_true, Nat.add_sub_cancel_left]
theorem back_one {ψ : List Nat} {t base : Nat} : back ψ [t] base base = some t := back_at (ψ := ψ) (τ := [t]) (base := base) (j := 0) (by simp)
theorem inj1 {a : Nat} : ∀ (i j x : Nat), [a][i]? = some x → [a][j]? = some x → i = j := by
  intro i j x h1 h2
  match i, j with
  | 0, 0 => rfl
  | i + 1, _ => simp at h1
  | 0, j + 1 => simp at h2
theorem inj2 {a b : Nat} (h : a ≠ b) : ∀ (i j x : Nat), [a, b][i]? = some x → [a, b][j]? = some x → i = j := by
  intro i j x h1 h2
  match i, j with
  | 0, 0 => rfl
  | 1, 1 => rfl
  | 0, 1 => simp at h1 h2; omega
  | 1, 0 => simp at h1 h2; omega
  | i + 2, _ => simp at h1
  | 0, j + 2 => simp at h2
  | 1, j + 2 => simp at h2
theorem obsHs_raw {M : List Bool} {hp : LHeap} {i : Nat} {o : Option Blk} (h : (obsHs M hp)[i]? = some (.raw o)) : hget hp i = o := by
  obtain ⟨t, h1, _⟩ := obsHs_get h
  cases t with
  | false => simp only [obsB, BO.raw.injEq] at h1; exact h1.symm
  | true =>
    cases hh : hget hp i with
    | none => rw [hh] at h1; simp only [obsB, BO.raw.injEq] at h1; exact h1.symm
    | some b => rw [hh] at h1; simp [obsB] at h1
theorem obsHs_rows {M : List Bool} {hp : LHeap} {i sz n ty : Nat} {rw' : Bool} {l : List (List SV)} (h : (obsHs M hp)[i]? = some (.rows sz n rw' ty l)) : ∃ b, hget hp i = some b ∧ b.sz = sz ∧ b.n = n ∧ b.rw = rw' ∧ b.ty = ty ∧ (List.range n).map b.rd = l := by
  obtain ⟨t, h1, _⟩ := obsHs_get h
  cases hh : hget hp i with
  | none => rw [hh] at h1; cases t <;> simp [obsB] at h1
  | some b =>
    rw [hh] at h1
    cases t with
    | false => simp [obsB] at h1
    | true =>
      simp only [obsB, BO.rows.injEq] at h1
      obtain ⟨a1, a2, a3, a4, a5⟩ := h1
      exact ⟨b, rfl, a1.symm, a2.symm, a3.symm, a4.symm, by rw [a2]; exact a5.symm⟩
/-- A function that hands back one new list, and reads those that were given. -/
theorem CSim.list {P : Program} {f : FuncId} {args : List SV} {h : Heap} (hcall : ∀ vs w, (callFunc f vs).run P w = .ok (.enter f vs) w) (args1 : List SV) (hp1 : LHeap) (ψ : List Nat) (hl : ψ.length = hp1.length)
    {base sz n : Nat} {b : Blk} (hrw : b.rw = true) (hid : ∀ r, r < b.n → svIdsL (b.rd r) = []) (hinj : ∀ (i j x : Nat), ψ[i]? = some x → ψ[j]? = some x → i = j) {K : KV} (hcan : Canon P f args1 hp1 K) (ha : renL (fun i => ψ[i]?) args1 = some args)
    (hb : ∀ (i : Nat) (b1 : Blk), hget hp1 i = some b1 → b1.rw = false ∧ ∃ x b, ψ[i]? = some x ∧ h x = some b ∧ WB (fun i => ψ[i]?) b1 b)
    (hK : ∀ v' hp2, K v' hp2 → ∃ t b2, v' = .slice t 0 sz n ∧ hp1.length ≤ t ∧ hget hp2 t = some b2 ∧ b2.sz = b.sz ∧ b2.n = b.n ∧ b2.rw = true ∧ b2.ty = b.ty ∧ ∀ r, r < b.n → b2.rd r = b.rd r) :
    CSim P f args h base (.slice base 0 sz n) [] [b] := by
  refine CSim.gen hcall args1 hp1 ψ hl hinj hcan ha (fun i b1 e => (hb i b1 e).2) fun v' hp2 hk => ?_
  obtain ⟨t, b2, rfl, h1, h2, h3, h4, h5, h6, h7⟩ := hK v' hp2 hk
  refine ⟨[t], ⟨rfl, by simpa using h1, inj1, by simp only [ren, back_one], fun j c e => ?_, fun id ob e => (nomatch e), fun i b1 e1 e2 => by rw [(hb i b1 e1).1] at e2; cases e2⟩⟩
  match j, e with
  | 0, e =>
    simp only [List.getElem?_cons_zero, Option.some.injEq] at e
    subst e
    exact ⟨hrw, t, b2, rfl, h2, WB.of_rows h3.symm (by rw [h4]; exact Nat.le_refl _) (fun _ => h5) (fun _ => h6.symm) fun r hr => ⟨(h7 r hr).symm, hid r hr⟩⟩
  | j + 1, e => simp at e
/-- A loop that counts. -/
theorem CodeOK.count {P : Program} {m0 n id : Nat} {c : Code} {F : Nat → List SV} {H : Nat → LHeap} {fr' : List SV} {hp' : LHeap} (hround : ∀ i, i < n → CodeOK P m0 c (F i) (H i) (fun x fr hp => x = .normal ∧ Weak m0 fr hp (F (i + 1)) (H (i + 1))))
    (hend : CodeOK P m0 c (F n) (H n) (fun x fr hp => x = .exit id ∧ Weak m0 fr hp fr' hp')) {K : KC} (hK : K (.exit id) fr' hp') : CodeOK P m0 (.loop c) (F 0) (H 0) K := by
  refine CodeOK.monoW (K := fun x fr hp => x = .exit id ∧ Weak m0 fr hp fr' hp') ?_ ?_
  · refine CodeOK.loop (fun m fr hp => ∃ i : Nat, i + m = n ∧ fr = F i ∧ hp = H i) ?_ (n := n) ⟨0, by omega, rfl, rfl⟩
    rintro m fr hp ⟨i, him, rfl, rfl⟩
    by_cases h : i < n
    · refine (hround i h).mono ?_
      rintro x fr hp ⟨rfl, hw⟩
      exact ⟨m - 1, F (i + 1), H (i + 1), by omega, hw, i + 1, by omega, rfl, rfl⟩
    · obtain rfl : i = n := by omega
      refine hend.mono ?_
      rintro x fr hp ⟨rfl, hw⟩
      exact ⟨rfl, hw⟩
  · rintro x fr hp ⟨rfl, hw⟩
    exact ⟨fr', hp', hw, hK⟩
end Go.Proofs.Ytcjfmkkfcbelpaa
