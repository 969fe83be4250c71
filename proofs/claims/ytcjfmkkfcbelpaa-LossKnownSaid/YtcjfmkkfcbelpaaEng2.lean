/-
  A small engine for walks: values whose addresses are names; what every operation, every region in every order, every loop and call does, by functions; and that they do.
-/
import Derived.Test.YtcjfmkkfcbelpaaEng
import Derived.Scope
namespace Go.Proofs.Ytcjfmkkfcbelpaa
open Go.RowKit

theorem WL.of_get {ρ : Ren} : ∀ {l r : List SV}, l.length = r.length → (∀ (i : Nat) (s t : SV), l[i]? = some s → r[i]? = some t → s = .top ∨ ren ρ s = some t) → WL ρ l r
  | [], [], _, _ => trivial
  | [], _ :: _, h, _ => by simp at h
  | _ :: _, [], h, _ => by simp at h
  | a :: l, b :: r, h, k => ⟨k 0 a b rfl rfl, WL.of_get (by simpa using h) fun i s t h1 h2 => k (i + 1) s t (by simpa using h1) (by simpa using h2)⟩
theorem WL.lkv {ρ : Ren} {i : Nat} : ∀ {L : List Nat} {a b : List SV}, WL ρ a b → lkv i L a = .top ∨ ren ρ (lkv i L a) = some (lkv i L b)
  | [], _, _, _ => .inl (by simp [Go.Proofs.Ytcjfmkkfcbelpaa.lkv])
  | _ :: _, [], [], _ => .inl (by simp [Go.Proofs.Ytcjfmkkfcbelpaa.lkv])
  | _ :: _, [], _ :: _, h => h.elim
  | _ :: _, _ :: _, [], h => h.elim
  | x :: L, s :: a, t :: b, h => by
    simp only [Go.Proofs.Ytcjfmkkfcbelpaa.lkv]
    cases Nat.beq x i with
    | true => exact h.1
    | false => exact WL.lkv h.2
theorem ren_weak {m0 len : Nat} {L : List Nat} {vals vals' : List SV} {hp hp' : LHeap} (ρ : List Nat) (hl : ρ.length = hp'.length) (hm : m0 ≤ hp'.length) (hid : ∀ i, i < m0 → ρ[i]? = some i) (hv : WL (fun i => ρ[i]?) vals' vals)
    (hb : ∀ (id : Nat) (b1 : Blk), hget hp' id = some b1 → ∃ i b, ρ[id]? = some i ∧ hget hp i = some b ∧ WB (fun i => ρ[i]?) b1 b) (hinj : ∀ (i j x : Nat), ρ[i]? = some x → ρ[j]? = some x → i = j) :
    Weak m0 (tplF len L vals) hp (tplF len L vals') hp' := by
  refine ⟨ρ, hl, hm, hid, ?_, hb, fun i j x _ _ h1 h2 => hinj i j x h1 h2⟩
  refine WL.of_get (by rw [tplF_length, tplF_length]) fun i s t e1 e2 => ?_
  rw [tplF_get] at e1 e2
  split at e1
  · rename_i hlt
    rw [if_pos hlt] at e2
    simp only [Option.some.injEq] at e1 e2
    rw [← e1, ← e2]
    exact hv.lkv
  · cases e1
/-- A block that says the same, row by row, and names none. -/
theorem WB.of_rows {ρ : Ren} {b1 b : Blk} (hs : b1.sz = b.sz) (hn : b1.n ≤ b.n) (hrw : b1.rw = true → b.rw = true) (ht : b1.rw = true → b1.ty = b.ty) (h : ∀ r, r < b1.n → b1.rd r = b.rd r ∧ svIdsL (b1.rd r) = []) : WB ρ b1 b :=
  ⟨hs, hn, hrw, ht, fun r hr => by rw [← (h r hr).1]; exact WL_self (h r hr).2 ρ⟩
theorem back_at {ψ τ : List Nat} {base j : Nat} (h : j < τ.length) : back ψ τ base (base + j) = τ[j]? := by
  unfold back
  rw [show (Nat.ble base (base + j) && Nat.blt (base + j) (base + τ.length)) = true by simp [Nat.ble_eq, Nat.blt_eq]; exact h, cond_true, Nat.add_sub_cancel_left]
theorem back_one {ψ : List Nat} {t base : Nat} : back ψ [t] base base = some t := back_at (ψ := ψ) (τ := [t]) (base := base) (j := 0) (by simp)
theorem inj1 {a : Nat} : ∀ (i j x : Nat), [a][i]? = some x → [a][j]? = some x → i = j := by
  intro i j x h1 h2
  match i, j with
  | 0, 0 => rfl
  | i + 1, _ => simp at h1
  | 0, j + 1 => simp at h2
theorem inj2 {a b : Nat} (h : a ≠ b) : ∀ (i j x : Nat), [a, b][i]? = some x → [a, b][j]? = some x → i = j := by
  intro i j x h1 h2
  match i, j with
  | 0, 0 => rfl
  | 1, 1 => rfl
  | 0, 1 => simp at h1 h2; omega
  | 1, 0 => simp at h1 h2; omega
  | i + 2, _ => simp at h1
  | 0, j + 2 => simp at h2
  | 1, j + 2 => simp at h2
theorem obsHs_raw {M : List Bool} {hp : LHeap} {i : Nat} {o : Option Blk} (h : (obsHs M hp)[i]? = some (.raw o)) : hget hp i = o := by
  obtain ⟨t, h1, _⟩ := obsHs_get h
  cases t with
  | false => simp only [obsB, BO.raw.injEq] at h1; exact h1.symm
  | true =>
    cases hh : hget hp i with
    | none => rw [hh] at h1; simp only [obsB, BO.raw.injEq] at h1; exact h1.symm
    | some b => rw [hh] at h1; simp [obsB] at h1
theorem obsHs_rows {M : List Bool} {hp : LHeap} {i sz n ty : Nat} {rw' : Bool} {l : List (List SV)} (h : (obsHs M hp)[i]? = some (.rows sz n rw' ty l)) : ∃ b, hget hp i = some b ∧ b.sz = sz ∧ b.n = n ∧ b.rw = rw' ∧ b.ty = ty ∧ (List.range n).map b.rd = l := by
  obtain ⟨t, h1, _⟩ := obsHs_get h
  cases hh : hget hp i with
  | none => rw [hh] at h1; cases t <;> simp [obsB] at h1
  | some b =>
    rw [hh] at h1
    cases t with
    | false => simp [obsB] at h1
    | true =>
      simp only [obsB, BO.rows.injEq] at h1
      obtain ⟨a1, a2, a3, a4, a5⟩ := h1
      exact ⟨b, rfl, a1.symm, a2.symm, a3.symm, a4.symm, by rw [a2]; exact a5.symm⟩
/-- A function that hands back one new list, and reads those that were given. -/
theorem CSim.list {P : Program} {f : FuncId} {args : List SV} {h : Heap} (hcall : ∀ vs w, (callFunc f vs).run P w = .ok (.enter f vs) w) (args1 : List SV) (hp1 : LHeap) (ψ : List Nat) (hl : ψ.length = hp1.length)
    {base sz n : Nat} {b : Blk} (hrw : b.rw = true) (hid : ∀ r, r < b.n → svIdsL (b.rd r) = []) (hinj : ∀ (i j x : Nat), ψ[i]? = some x → ψ[j]? = some x → i = j) {K : KV} (hcan : Canon P f args1 hp1 K) (ha : renL (fun i => ψ[i]?) args1 = some args)
    (hb : ∀ (i : Nat) (b1 : Blk), hget hp1 i = some b1 → b1.rw = false ∧ ∃ x b, ψ[i]? = some x ∧ h x = some b ∧ WB (fun i => ψ[i]?) b1 b)
    (hK : ∀ v' hp2, K v' hp2 → ∃ t b2, v' = .slice t 0 sz n ∧ hp1.length ≤ t ∧ hget hp2 t = some b2 ∧ b2.sz = b.sz ∧ b2.n = b.n ∧ b2.rw = true ∧ b2.ty = b.ty ∧ ∀ r, r < b.n → b2.rd r = b.rd r) :
    CSim P f args h base (.slice base 0 sz n) [] [b] := by
  refine CSim.gen hcall args1 hp1 ψ hl hinj hcan ha (fun i b1 e => (hb i b1 e).2) fun v' hp2 hk => ?_
  obtain ⟨t, b2, rfl, h1, h2, h3, h4, h5, h6, h7⟩ := hK v' hp2 hk
  refine ⟨[t], ⟨rfl, by simpa using h1, inj1, by simp only [ren, back_one], fun j c e => ?_, fun id ob e => (nomatch e), fun i b1 e1 e2 => by rw [(hb i b1 e1).1] at e2; cases e2⟩⟩
  match j, e with
  | 0, e =>
    simp only [List.getElem?_cons_zero, Option.some.injEq] at e
    subst e
    exact ⟨hrw, t, b2, rfl, h2, WB.of_rows h3.symm (by rw [h4]; exact Nat.le_refl _) (fun _ => h5) (fun _ => h6.symm) fun r hr => ⟨(h7 r hr).symm, hid r hr⟩⟩
  | j + 1, e => simp at e
/-- A loop that counts. -/
theorem CodeOK.count {P : Program} {m0 n id : Nat} {c : Code} {F : Nat → List SV} {H : Nat → LHeap} {fr' : List SV} {hp' : LHeap} (hround : ∀ i, i < n → CodeOK P m0 c (F i) (H i) (fun x fr hp => x = .normal ∧ Weak m0 fr hp (F (i + 1)) (H (i + 1))))
    (hend : CodeOK P m0 c (F n) (H n) (fun x fr hp => x = .exit id ∧ Weak m0 fr hp fr' hp')) {K : KC} (hK : K (.exit id) fr' hp') : CodeOK P m0 (.loop c) (F 0) (H 0) K := by
  refine CodeOK.monoW (K := fun x fr hp => x = .exit id ∧ Weak m0 fr hp fr' hp') ?_ ?_
  · refine CodeOK.loop (fun m fr hp => ∃ i : Nat, i + m = n ∧ fr = F i ∧ hp = H i) ?_ (n := n) ⟨0, by omega, rfl, rfl⟩
    rintro m fr hp ⟨i, him, rfl, rfl⟩
    by_cases h : i < n
    · refine (hround i h).mono ?_
      rintro x fr hp ⟨rfl, hw⟩
      exact ⟨m - 1, F (i + 1), H (i + 1), by omega, hw, i + 1, by omega, rfl, rfl⟩
    · obtain rfl : i = n := by omega
      refine hend.mono ?_
      rintro x fr hp ⟨rfl, hw⟩
      exact ⟨rfl, hw⟩
  · rintro x fr hp ⟨rfl, hw⟩
    exact ⟨fr', hp', hw, hK⟩

theorem CodeOK.scope {P : Program} {m0 : Nat} {c : Code} {fr : List SV} {hp : LHeap} {K : KC} (h : CodeOK P m0 c fr hp K) : CodeOK P m0 (.scope c) fr hp K := by
  intro g φ a w hg hr
  refine wp_scope_straight (wp_mono (h g φ a w hg hr) fun e a' w' he => ?_)
  cases e <;> first | exact he | exact (show False from he)
theorem CodeOK.label {P : Program} {m0 l : Nat} {fr : List SV} {hp : LHeap} {K : KC} (h : K .normal fr hp) : CodeOK P m0 (.label l) fr hp K := by
  intro g φ a w hg hr
  exact wp_label ⟨φ, fr, hp, h, hr⟩
/-- A part that may return. -/
def obsE (P : Program) (rs : List ResultVar) (L : List Nat) (M : List Bool) (Kt : KT) (kr : SV → Prop) : KC := fun x fr hp => match x with
  | .ret => match resS P fr (hget hp) rs with | some l => kr (packS l) | none => False
  | .exit i => obs L M Kt (.exit i) fr hp
  | .normal => obs L M Kt .normal fr hp
theorem CodeOK.lookE {C : Ctx} (hC : EqOK C) (hΓ : GSound C) (hm : C.P.follows .mixedOrders = true) {u m0 len : Nat} {c : Code} {fr : List SV} {hp : LHeap} {rs : List ResultVar} {L : List Nat} {M : List Bool} (hm0 : m0 ≤ M.length) {Q : Ex → List SV → List BO → Prop} {kr : SV → Prop} {K : KC}
    (h : evalC C u m0 c fr hp (obsE C.P rs L M (seen len M.length Q) kr)) (hK : ∀ x vals B, Q x vals B → K x (tplF len L vals) (B.map mkB)) (hr : ∀ fr hp, endK C.P rs (fun v _ => kr v) .ret fr hp → K .ret fr hp) : CodeOK C.P m0 c fr hp K := by
  refine (CodeOK.eval hC hΓ hm u h).monoV fun x fr hp h => ?_
  have other : obs L M (seen len M.length Q) x fr hp → KW m0 K x fr hp := fun h => by
    obtain ⟨fr1, hp1, h1, vals, B, rfl, rfl, h2⟩ := obs_kw hm0 x fr hp h
    exact ⟨_, _, h1, hK x vals B h2⟩
  cases x with
  | ret => exact .inl (hr fr hp h)
  | exit i => exact .inr (other h)
  | normal => exact .inr (other h)
def scC : Code → Code | .scope c => c | c => c


/-- A block of one row. -/
def oneB (cells : List SV) (rw : Bool) (ty : Nat) : Blk := ⟨cells.length, 1, fun _ => cells, rw, ty⟩
theorem obsB_rows {ob : Option Blk} {sz ty : Nat} {cells : List SV} (h : obsB true ob = .rows sz 1 true ty [cells]) : ∃ b, ob = some b ∧ b.sz = sz ∧ b.n = 1 ∧ b.rw = true ∧ b.ty = ty ∧ b.rd 0 = cells := by
  cases ob with
  | none => simp [obsB] at h
  | some b =>
    simp only [obsB, BO.rows.injEq] at h
    obtain ⟨h1, h2, h3, h4, h5⟩ := h
    rw [h2] at h5
    exact ⟨b, rfl, h1, h2, h3, h4, by simpa [List.range_succ] using h5⟩
/-- A function that reads one block that a pointer tells. -/
theorem CSim.ptrR {P : Program} {f : FuncId} {v : SV} {h : Heap} {id : Nat} {b : Blk} {cells rest : List SV} (hcall : ∀ vs w, (callFunc f vs).run P w = .ok (.enter f vs) w)
    (hcan : Canon P f (.ptr 0 0 cells.length 0 :: rest) [some (oneB cells false 0)] fun v' _ => v' = v) (hb : h id = some b) (hs : b.sz = cells.length) (hn : b.n = 1) (hr : b.rd 0 = cells) (hc : svIdsL cells = []) (hrest : svIdsL rest = []) (hv : svIds v = []) (base : Nat) :
    CSim P f (.ptr id 0 cells.length 0 :: rest) h base v [] [] := by
  refine CSim.reads hcall _ _ [id] rfl hcan ?_ (fun i b1 e => ?_) (ren_id_of hv _) base
  · simp only [renL, ren, renL_id_of hrest]
    rfl
  · match i, e with
    | 0, e =>
      obtain rfl := Option.some.inj (show some (oneB cells false 0) = some b1 from e)
      refine ⟨rfl, id, b, rfl, hb, WB.of_rows hs.symm (by rw [hn]; exact Nat.le_refl _) (fun q => nomatch q) (fun q => nomatch q) fun r hr' => ?_⟩
      obtain rfl : r = 0 := by have : r < 1 := hr'; omega
      exact ⟨hr.symm, hc⟩
    | i + 1, e => exact nomatch (show (none : Option Blk) = some b1 from e)
/-- A function that writes one block that a pointer tells. -/
theorem CSim.ptrW {P : Program} {f : FuncId} {v : SV} {h : Heap} {id ty : Nat} {b : Blk} {cells cells' rest : List SV} (hcall : ∀ vs w, (callFunc f vs).run P w = .ok (.enter f vs) w)
    (hcan : Canon P f (.ptr 0 0 cells.length 0 :: rest) [some (oneB cells true ty)] fun v' hp => v' = v ∧ obsB true (hget hp 0) = .rows cells.length 1 true ty [cells']) (hb : h id = some b) (hs : b.sz = cells.length) (hn : b.n = 1) (hw : b.rw = true) (ht : b.ty = ty) (hr : b.rd 0 = cells)
    (hl : cells'.length = cells.length) (hc : svIdsL cells = []) (hc' : svIdsL cells' = []) (hrest : svIdsL rest = []) (hv : svIds v = []) (base : Nat) :
    CSim P f (.ptr id 0 cells.length 0 :: rest) h base v [(id, some (oneB cells' true ty))] [] := by
  refine CSim.gen hcall _ _ [id] rfl inj1 hcan ?_ (fun i b1 e => ?_) fun v' hp2 hk => ?_
  · simp only [renL, ren, renL_id_of hrest]
    rfl
  · match i, e with
    | 0, e =>
      obtain rfl := Option.some.inj (show some (oneB cells true ty) = some b1 from e)
      refine ⟨id, b, rfl, hb, WB.of_rows hs.symm (by rw [hn]; exact Nat.le_refl _) (fun _ => hw) (fun _ => ht.symm) fun r hr' => ?_⟩
      obtain rfl : r = 0 := by have : r < 1 := hr'; omega
      exact ⟨hr.symm, hc⟩
    | i + 1, e => exact nomatch (show (none : Option Blk) = some b1 from e)
  · obtain ⟨rfl, ho⟩ := hk
    obtain ⟨b2, e1, e2, e3, e4, e5, e6⟩ := obsB_rows ho
    refine ⟨[], rfl, by simp, fun i j x q => by simp at q, ren_id_of hv _, fun j b q => by simp at q, fun id' ob q => ?_, fun i b1 q1 q2 => ?_⟩
    · simp only [lk] at q
      by_cases hid : id' = id
      · subst hid
        rw [if_pos rfl] at q
        obtain rfl := Option.some.inj (show some (some (oneB cells' true ty)) = some ob from q)
        refine ⟨0, _, b2, _, rfl, rfl, rfl, rfl, rfl, e1, WB.of_rows (show cells'.length = b2.sz by rw [e2, hl]) (by rw [e3]; exact Nat.le_refl _) (fun _ => e4) (fun _ => e5.symm) fun r hr' => ?_⟩
        obtain rfl : r = 0 := by have : r < 1 := hr'; omega
        exact ⟨e6.symm, hc'⟩
      · rw [if_neg hid] at q; exact nomatch q
    · match i, q1 with
      | 0, _ => exact ⟨id, oneB cells' true ty, b2, rfl, by simp only [lk, if_true], e1, e4⟩
      | i + 1, e => exact nomatch (show (none : Option Blk) = some b1 from e)
/-- What is handed back by pointer. -/
def obsP (v : SV) (hp : LHeap) : BO := match v with
  | .ptr id 0 _ 0 => obsB true (hget hp id)
  | _ => .raw none
/-- A function that hands back a new block, by pointer. -/
theorem CSim.newP {P : Program} {f : FuncId} {args : List SV} {h : Heap} (hcall : ∀ vs w, (callFunc f vs).run P w = .ok (.enter f vs) w) (args1 : List SV) (hp1 : LHeap) (ψ : List Nat) (hl : ψ.length = hp1.length)
    {base ty : Nat} {cells : List SV} (hid : svIdsL cells = []) (hinj : ∀ (i j x : Nat), ψ[i]? = some x → ψ[j]? = some x → i = j) (ha : renL (fun i => ψ[i]?) args1 = some args)
    (hb : ∀ (i : Nat) (b1 : Blk), hget hp1 i = some b1 → b1.rw = false ∧ ∃ x b, ψ[i]? = some x ∧ h x = some b ∧ WB (fun i => ψ[i]?) b1 b)
    (hcan : Canon P f args1 hp1 fun v' hp2 => ∃ t, v' = .ptr t 0 cells.length 0 ∧ hp1.length ≤ t ∧ obsB true (hget hp2 t) = .rows cells.length 1 true ty [cells]) :
    CSim P f args h base (.ptr base 0 cells.length 0) [] [oneB cells true ty] := by
  refine CSim.gen hcall args1 hp1 ψ hl hinj hcan ha (fun i b1 e => (hb i b1 e).2) fun v' hp2 hk => ?_
  obtain ⟨t, rfl, h1, ho⟩ := hk
  obtain ⟨b2, e1, e2, e3, e4, e5, e6⟩ := obsB_rows ho
  refine ⟨[t], ⟨rfl, by simpa using h1, inj1, by simp only [ren, back_one], fun j c e => ?_, fun id ob e => (nomatch e), fun i b1 e1 e2 => by rw [(hb i b1 e1).1] at e2; cases e2⟩⟩
  match j, e with
  | 0, e =>
    simp only [List.getElem?_cons_zero, Option.some.injEq] at e
    subst e
    refine ⟨rfl, t, b2, rfl, e1, WB.of_rows e2.symm (by rw [e3]; exact Nat.le_refl _) (fun _ => e4) (fun _ => e5.symm) fun r hr => ?_⟩
    obtain rfl : r = 0 := by have : r < 1 := hr; omega
    exact ⟨e6.symm, hid⟩
  | j + 1, e => simp at e


/-- A function that writes one block and reads others. -/
theorem CSim.ptrWR {P : Program} {f : FuncId} {v : SV} {h : Heap} {id ty : Nat} {b : Blk} {cells cells' rest1 rest : List SV} {ids : List Nat} {ro : LHeap} (hcall : ∀ vs w, (callFunc f vs).run P w = .ok (.enter f vs) w)
    (hcan : Canon P f (.ptr 0 0 cells.length 0 :: rest1) (some (oneB cells true ty) :: ro) fun v' hp => v' = v ∧ obsB true (hget hp 0) = .rows cells.length 1 true ty [cells']) (hids : ids.length = ro.length) (hinj : ∀ (i j x : Nat), (id :: ids)[i]? = some x → (id :: ids)[j]? = some x → i = j)
    (hro : ∀ (i : Nat) (b1 : Blk), hget ro i = some b1 → b1.rw = false ∧ ∃ x b, ids[i]? = some x ∧ h x = some b ∧ WB (fun i => (id :: ids)[i]?) b1 b)
    (hb : h id = some b) (hs : b.sz = cells.length) (hn : b.n = 1) (hw : b.rw = true) (ht : b.ty = ty) (hr : b.rd 0 = cells)
    (hl : cells'.length = cells.length) (hc : svIdsL cells = []) (hc' : svIdsL cells' = []) (hrest : renL (fun i => (id :: ids)[i]?) rest1 = some rest) (hv : svIds v = []) (base : Nat) :
    CSim P f (.ptr id 0 cells.length 0 :: rest) h base v [(id, some (oneB cells' true ty))] [] := by
  have hget_succ : ∀ i, hget (some (oneB cells true ty) :: ro) (i + 1) = hget ro i := fun i => rfl
  refine CSim.gen hcall _ _ (id :: ids) (by simp [hids]) hinj hcan ?_ (fun i b1 e => ?_) fun v' hp2 hk => ?_
  · simp only [renL, ren, hrest]
    rfl
  · match i, e with
    | 0, e =>
      obtain rfl := Option.some.inj (show some (oneB cells true ty) = some b1 from e)
      refine ⟨id, b, rfl, hb, WB.of_rows hs.symm (by rw [hn]; exact Nat.le_refl _) (fun _ => hw) (fun _ => ht.symm) fun r hr' => ?_⟩
      obtain rfl : r = 0 := by have : r < 1 := hr'; omega
      exact ⟨hr.symm, hc⟩
    | i + 1, e =>
      obtain ⟨_, x, b, h1, h2, h3⟩ := hro i b1 e
      exact ⟨x, b, h1, h2, h3⟩
  · obtain ⟨rfl, ho⟩ := hk
    obtain ⟨b2, e1, e2, e3, e4, e5, e6⟩ := obsB_rows ho
    refine ⟨[], rfl, by simp, fun i j x q => by simp at q, ren_id_of hv _, fun j b q => by simp at q, fun id' ob q => ?_, fun i b1 q1 q2 => ?_⟩
    · simp only [lk] at q
      by_cases hid : id' = id
      · subst hid
        rw [if_pos rfl] at q
        obtain rfl := Option.some.inj (show some (some (oneB cells' true ty)) = some ob from q)
        refine ⟨0, _, b2, _, rfl, rfl, rfl, rfl, rfl, e1, WB.of_rows (show cells'.length = b2.sz by rw [e2, hl]) (by rw [e3]; exact Nat.le_refl _) (fun _ => e4) (fun _ => e5.symm) fun r hr' => ?_⟩
        obtain rfl : r = 0 := by have : r < 1 := hr'; omega
        exact ⟨e6.symm, hc'⟩
      · rw [if_neg hid] at q; exact nomatch q
    · match i, q1 with
      | 0, _ => exact ⟨id, oneB cells' true ty, b2, rfl, by simp only [lk, if_true], e1, e4⟩
      | i + 1, e => rw [(hro i b1 e).1] at q2; exact nomatch q2


/-- What a function leaves, by the caller's names. -/
structure FinOK2 (ψ : List Nat) (hp1 : LHeap) (base : Nat) (v : SV) (wr : Wr) (news : List Blk) (v' : SV) (hp2 : LHeap) (τ : List Nat) : Prop where
  len : τ.length = news.length
  lo : ∀ t ∈ τ, hp1.length ≤ t
  inj : ∀ (i j x : Nat), τ[i]? = some x → τ[j]? = some x → i = j
  val : ren (back ψ τ base) v = some v'
  nw : ∀ (j : Nat) (b : Blk), news[j]? = some b → b.rw = true ∧ ∃ i b2, τ[j]? = some i ∧ hget hp2 i = some b2 ∧ WB (back ψ τ base) b b2
  wrs : ∀ (id : Nat) (b : Blk), lk wr id = some (some b) → ∃ i b2 b1, ψ[i]? = some id ∧ b.rw = true ∧ hget hp1 i = some b1 ∧ b1.rw = true ∧ hget hp2 i = some b2 ∧ WB (back ψ τ base) b b2
  all : ∀ (i : Nat) (b1 : Blk), hget hp1 i = some b1 → b1.rw = true → ∃ x, ψ[i]? = some x ∧ (lk wr x = some none ∨ ∃ b b2, lk wr x = some (some b) ∧ hget hp2 i = some b2 ∧ b2.rw = true)

theorem CSim.gen2 {P : Program} {f : FuncId} {args : List SV} {h : Heap} {v : SV} {wr : Wr} {news : List Blk} (hcall : ∀ vs w, (callFunc f vs).run P w = .ok (.enter f vs) w) (args1 : List SV) (hp1 : LHeap) (ψ : List Nat) (hl : ψ.length = hp1.length)
    {base : Nat} (hinj : ∀ (i j x : Nat), ψ[i]? = some x → ψ[j]? = some x → i = j) {K : KV}
    (hcan : Canon P f args1 hp1 K) (ha : renL (fun i => ψ[i]?) args1 = some args) (hb : ∀ (i : Nat) (b1 : Blk), hget hp1 i = some b1 → ∃ x b, ψ[i]? = some x ∧ h x = some b ∧ WB (fun i => ψ[i]?) b1 b)
    (hfin : ∀ v' hp2, K v' hp2 → ∃ τ, FinOK2 ψ hp1 base v wr news v' hp2 τ) : CSim P f args h base v wr news := by
  refine ⟨hcall, fun g φ w vs hr has hf hm0 => ?_⟩
  have hr1 : HRep (liftG (φ.via fun i => ψ[i]?) (hget hp1) w hp1.length) (φ.via fun i => ψ[i]?) (hget hp1) w := by
    refine ⟨fun id b e => ?_, fun i j bi bj li lj hi hj hne hrw pi pj => ?_, fun id b l e hrw hp => .inl ⟨id, b, l, e, hrw, hp, rfl⟩, rfl, rfl, rfl, Nat.le_refl _, fun _ _ _ => rfl, fun _ _ => rfl⟩
    · obtain ⟨x, b', q1, q2, q3⟩ := hb id b e
      obtain ⟨l, p1, p2⟩ := hr.blk x b' q2
      exact ⟨l, by simp [Phi.via, q1, p1], p2.via q3⟩
    · obtain ⟨x, bx, q1, q2, q3⟩ := hb i bi hi
      obtain ⟨y, by', p1, p2, p3⟩ := hb j bj hj
      simp only [Phi.via, q1] at pi
      simp only [Phi.via, p1] at pj
      refine hr.sep x y bx by' li lj q2 p2 ?_ (q3.rw hrw) pi pj
      rintro rfl
      exact hne (hinj i j x q1 p1)
  refine (hcan (φ.via fun i => ψ[i]?) w vs hr1 (RL.via ha has) fun id hid => ?_).mono ?_
  · have : ψ[id]? = none := List.getElem?_eq_none (by omega)
    simp [Phi.via, this]
  rintro e w' ⟨u, φ', v', hp2, rfl, hK, hv, q4⟩
  obtain ⟨τ, F⟩ := hfin v' hp2 hK
  -- the names behind the call
  let φ2 : Phi := fun id => if base ≤ id ∧ id < base + news.length then (τ[id - base]?).bind φ' else φ id
  have φ2old : ∀ id, ¬ (base ≤ id ∧ id < base + news.length) → φ2 id = φ id := fun id h => if_neg h
  have φ2new : ∀ id, base ≤ id → id < base + news.length → φ2 id = (τ[id - base]?).bind φ' := fun id h1 h2 => if_pos ⟨h1, h2⟩
  have hidx : ∀ i x, ψ[i]? = some x → i < hp1.length := fun i x e => by
    rw [← hl]; exact (List.getElem?_eq_some_iff.1 e).1
  have hφ' : ∀ i x, ψ[i]? = some x → φ' i = φ x := fun i x e => by
    have := q4.ids i (hidx i x e)
    rw [this]
    simp [liftG, Phi.via, e]
  have hle : φ.le φ2 := fun id l e => by
    by_cases hc : base ≤ id ∧ id < base + news.length
    · have := hf (id - base) (by omega)
      rw [show base + (id - base) = id by omega] at this
      rw [this] at e; cases e
    · rw [φ2old id hc]; exact e
  have hvia : (φ'.via (back ψ τ base)).le φ2 := fun id l e => by
    simp only [Phi.via] at e
    split at e
    · rename_i i hi
      rcases back_cases hi with ⟨h1, h2, h3⟩ | ⟨h1, h2⟩
      · rw [F.len] at h2
        rw [φ2new id h1 h2, h3]; exact e
      · rw [F.len] at h1
        rw [φ2old id h1, ← hφ' i id h2]; exact e
    · cases e
  have hold : ∀ k, k < w.heap.size → (∀ i b1 l x, hget hp1 i = some b1 → b1.rw = true → ψ[i]? = some x → φ x = some l → l.blk ≠ k) → w'.heap[k]? = w.heap[k]? := fun k hk hn => q4.old k hk (by
    rintro ⟨i, b1, l, e1, e2, e3, e4⟩
    obtain ⟨x, b, p1, _, _⟩ := hb i b1 e1
    simp only [Phi.via, p1] at e3
    exact hn i b1 l x e1 e2 p1 e3 e4)
  have hnewloc : ∀ t b2 l, hp1.length ≤ t → hget hp2 t = some b2 → b2.rw = true → φ' t = some l → w.heap.size ≤ l.blk ∨ ∃ i b1 x d l0, hget hp1 i = some b1 ∧ b1.rw = true ∧ ψ[i]? = some x ∧ h x = some d ∧ d.rw = true ∧ φ x = some l0 ∧ l.blk = l0.blk := fun t b2 l ht e1 e2 e3 => by
    rcases q4.own t b2 l e1 e2 e3 with ⟨i, b1, l0, p1, p2, p3, p4⟩ | h1
    · obtain ⟨x, r1, hor⟩ := F.all i b1 p1 p2
      have hi := hidx i x r1
      rcases hor with hn | ⟨b, b2', _, r2, r3⟩
      · obtain ⟨x', d, s1, s2, s3⟩ := hb i b1 p1
        rw [r1] at s1; cases s1
        have p3' : φ x = some l0 := (hφ' i x r1).symm.trans ((q4.ids i hi).trans p3)
        exact .inr ⟨i, b1, x, d, l0, p1, p2, r1, s2, s3.rw p2, p3', p4.symm⟩
      · exfalso
        have p3' : φ' i = some l0 := (q4.ids i hi).trans p3
        exact q4.sep i t b2' b2 l0 l r2 e1 (by omega) r3 p3' e3 p4
    · exact .inl h1
  -- each block behind the call is the function's, or as it was
  have cls : ∀ id b, updH h base wr news id = some b →
      (b.rw = true ∧ ∃ c b2, hget hp2 c = some b2 ∧ b2.rw = true ∧ WB (back ψ τ base) b b2 ∧ φ2 id = φ' c ∧
        ((base ≤ id ∧ τ[id - base]? = some c ∧ hp1.length ≤ c) ∨ (ψ[c]? = some id ∧ c < hp1.length ∧ φ2 id = φ id ∧ ∃ d, h id = some d ∧ d.rw = true))) ∨
      (φ2 id = φ id ∧ h id = some b ∧ (∀ i b1, hget hp1 i = some b1 → b1.rw = true → ψ[i]? = some id → False)) := by
    intro id b e
    unfold updH at e
    by_cases hc : base ≤ id ∧ id < base + news.length
    · rw [if_pos hc] at e
      obtain ⟨h1, i, b2, h2, h3, h4⟩ := F.nw _ _ e
      refine .inl ⟨h1, i, b2, h3, h4.rw h1, h4, ?_, .inl ⟨hc.1, h2, F.lo i (List.mem_of_getElem? h2)⟩⟩
      rw [φ2new id hc.1 hc.2, h2]; rfl
    · rw [if_neg hc] at e
      cases hk : lk wr id with
      | some ob =>
        rw [hk, Option.getD_some] at e
        subst e
        obtain ⟨i, b2, b1, h1, h3, h4, h5, h6, h7⟩ := F.wrs id b hk
        obtain ⟨x, d, p1, p2, p3⟩ := hb i b1 h4
        rw [h1] at p1; cases p1
        exact .inl ⟨h3, i, b2, h6, h7.rw h3, h7, (φ2old id hc).trans (hφ' i id h1).symm, .inr ⟨h1, hidx i id h1, φ2old id hc, d, p2, p3.rw h5⟩⟩
      | none =>
        rw [hk, Option.getD_none] at e
        refine .inr ⟨φ2old id hc, e, fun i b1 e1 e2 e3 => ?_⟩
        obtain ⟨x, p1, p2⟩ := F.all i b1 e1 e2
        rw [e3] at p1; cases p1
        rcases p2 with p2 | ⟨_, _, p2, _⟩ <;> (rw [hk] at p2; cases p2)
  have sep1 : ∀ i j bi bj li lj, updH h base wr news i = some bi → updH h base wr news j = some bj → i ≠ j → (bi.rw = true ∨ bj.rw = true) → φ2 i = some li → φ2 j = some lj → li.blk ≠ lj.blk := by
    have mixed : ∀ i j bj li lj c b2, hget hp2 c = some b2 → b2.rw = true → φ2 i = φ' c → ((base ≤ i ∧ τ[i - base]? = some c ∧ hp1.length ≤ c) ∨ (ψ[c]? = some i ∧ c < hp1.length ∧ φ2 i = φ i ∧ ∃ d, h i = some d ∧ d.rw = true)) →
        h j = some bj → φ2 j = φ j → (∀ i b1, hget hp1 i = some b1 → b1.rw = true → ψ[i]? = some j → False) → i ≠ j → φ2 i = some li → φ2 j = some lj → li.blk ≠ lj.blk := by
      intro i j bj li lj c b2 h1 h2 h3 h4 h5 h6 h7 hne pi pj
      rw [h6] at pj
      rcases h4 with ⟨_, _, q3⟩ | ⟨_, _, q5, d, q6, q7⟩
      · rw [h3] at pi
        rcases hnewloc c b2 li q3 h1 h2 pi with hw | ⟨i0, b1, x, d, l0, s1, s2, s3, s4, s5, s6, s7⟩
        · obtain ⟨l, r1, r2⟩ := hr.blk j bj h5
          rw [pj] at r1; cases r1
          have := r2.lt
          omega
        · rw [s7]
          exact hr.sep x j d bj l0 lj s4 h5 (by rintro rfl; exact h7 i0 b1 s1 s2 s3) s5 s6 pj
      · rw [q5] at pi
        exact hr.sep i j d bj li lj q6 h5 hne q7 pi pj
    intro i j bi bj li lj hi hj hne hrw pi pj
    rcases cls i bi hi with ⟨a1, c, b2, a2, a3, a4, a5, a6⟩ | ⟨a1, a2, a3⟩ <;> rcases cls j bj hj with ⟨d1, c', b2', d2, d3, d4, d5, d6⟩ | ⟨d1, d2, d3⟩
    · have hcc : c ≠ c' := by
        rintro rfl
        rcases a6 with ⟨a7, a8, a9⟩ | ⟨a8, a9, _⟩ <;> rcases d6 with ⟨d7, d8, d9⟩ | ⟨d8, d9, _⟩
        · have := F.inj _ _ _ a8 d8
          omega
        · omega
        · omega
        · rw [a8] at d8; cases d8; exact hne rfl
      rw [a5] at pi
      rw [d5] at pj
      exact q4.sep c c' b2 b2' li lj a2 d2 hcc a3 pi pj
    · exact mixed i j bj li lj c b2 a2 a3 a5 a6 d2 d1 d3 hne pi pj
    · exact fun e => mixed j i bi lj li c' b2' d2 d3 d5 d6 a2 a1 a3 (Ne.symm hne) pj pi e.symm
    · rw [a1] at pi
      rw [d1] at pj
      rcases hrw with hrw | hrw
      · exact hr.sep i j bi bj li lj a2 d2 hne hrw pi pj
      · exact fun e => hr.sep j i bj bi lj li d2 a2 (Ne.symm hne) hrw pj pi e.symm
  refine ⟨u, φ2, rfl, hle, fun id => ?_, (R.via F.val hv).mono hvia, fun id b e => ?_, fun i j bi bj li lj hi hj hne hrw pi pj => sep1 i j bi bj li lj hi hj hne (.inl hrw) pi pj, fun id b l e hrw hp => ?_, q4.os.trans hr.os, q4.tape.trans hr.tape, q4.output.trans hr.output, Nat.le_trans hr.size q4.size, fun k hk hS => ?_, fun id hid => ?_⟩
  · by_cases hc : base ≤ id ∧ id < base + news.length
    · exact .inr hc
    · exact .inl (φ2old id hc)
  · rcases cls id b e with ⟨a1, c, b2, a2, a3, a4, a5, a6⟩ | ⟨a1, a2, a3⟩
    · obtain ⟨l, p1, p2⟩ := q4.blk c b2 a2
      exact ⟨l, a5.trans p1, (p2.via a4).mono hvia⟩
    · obtain ⟨l, p1, p2⟩ := hr.blk id b a2
      refine ⟨l, a1.trans p1, (p2.mono hle).same (hold l.blk p2.lt fun i b1 l' x e1 e2 e3 e4 => ?_)⟩
      obtain ⟨x', d, r1, r2, r3⟩ := hb i b1 e1
      rw [e3] at r1; cases r1
      exact hr.sep x id d b l' l r2 a2 (by rintro rfl; exact a3 i b1 e1 e2 e3) (r3.rw e2) e4 p1
  · rcases cls id b e with ⟨a1, c, b2, a2, a3, a4, a5, a6⟩ | ⟨a1, a2, a3⟩
    · rcases a6 with ⟨_, _, q3⟩ | ⟨_, _, q5, d, q6, q7⟩
      · rcases hnewloc c b2 l q3 a2 a3 (a5.symm.trans hp) with hw | ⟨i0, b1, x, d, l0, s1, s2, s3, s4, s5, s6, s7⟩
        · exact .inr (Nat.le_trans hr.size hw)
        · rw [s7]
          exact hr.own x d l0 s4 s5 s6
      · exact hr.own id d l q6 q7 (q5.symm.trans hp)
    · exact hr.own id b l a2 hrw (a1.symm.trans hp)
  · refine (hold k (Nat.lt_of_lt_of_le hk hr.size) fun i b1 l x e1 e2 e3 e4 => ?_).trans (hr.old k hk hS)
    rintro rfl
    obtain ⟨x', d, r1, r2, r3⟩ := hb i b1 e1
    rw [e3] at r1; cases r1
    rcases hr.own x d l r2 (r3.rw e2) e4 with h1 | h1
    · exact hS h1
    · omega
  · rw [φ2old id (by omega)]
    exact hr.ids id hid


theorem CodeOK.partsE' {C : Ctx} (hC : EqOK C) (hΓ : GSound C) (hm : C.P.follows .mixedOrders = true) {u m0 : Nat} {X : Code} {K K0 : KC} (hK : ∀ x fr hp, x ≠ .ret → K0 x fr hp → KW m0 (thenK K fun fr hp => CodeOK C.P m0 X fr hp K) x fr hp) (hr : ∀ fr hp, K0 .ret fr hp → K .ret fr hp) :
    ∀ (l : List Code) {fr : List SV} {hp : LHeap}, evalC C u m0 (l.foldr .seq .skip) fr hp K0 → CodeOK C.P m0 (l.foldr .seq X) fr hp (fun x fr hp => K x fr hp ∨ KW m0 K x fr hp)
  | [], fr, hp, h => by
    simp only [List.foldr, evalC] at h ⊢
    obtain ⟨fr1, hp1, h1, h2⟩ := hK _ _ _ (by simp) h
    exact (CodeOK.pre h1 h2).mono fun x fr hp h => .inl h
  | a :: l, fr, hp, h => by
    simp only [List.foldr, evalC] at h ⊢
    refine CodeOK.seq ((CodeOK.eval hC hΓ hm u h).mono fun x fr hp h => ?_)
    cases x with
    | exit i => exact .inr (hK _ _ _ (by simp) h)
    | ret => exact .inl (hr _ _ h)
    | normal => exact CodeOK.partsE' hC hΓ hm hK hr l h
theorem CodeOK.frontE {C : Ctx} (hC : EqOK C) (hΓ : GSound C) (hm : C.P.follows .mixedOrders = true) {u m0 len : Nat} {X : Code} {K : KC} (l : List Code) {fr : List SV} {hp : LHeap} {rs : List ResultVar} {L : List Nat} {M : List Bool} (hm0 : m0 ≤ M.length) {Q : Ex → List SV → List BO → Prop} {kr : SV → Prop}
    (h : evalC C u m0 (l.foldr .seq .skip) fr hp (obsE C.P rs L M (seen len M.length Q) kr)) (hK : ∀ x vals B, Q x vals B → thenK K (fun fr hp => CodeOK C.P m0 X fr hp K) x (tplF len L vals) (B.map mkB)) (hr : ∀ fr hp, endK C.P rs (fun v _ => kr v) .ret fr hp → K .ret fr hp) : CodeOK C.P m0 (l.foldr .seq X) fr hp K := by
  refine (CodeOK.partsE' hC hΓ hm (K := K) (K0 := obsE C.P rs L M (seen len M.length Q) kr) (fun x fr hp hx hs => ?_) (fun fr hp hs => hr fr hp hs) l h).monoV fun _ _ _ h => h
  have other : obs L M (seen len M.length Q) x fr hp → KW m0 (thenK K fun fr hp => CodeOK C.P m0 X fr hp K) x fr hp := fun h => by
    obtain ⟨fr1, hp1, h1, vals, B, rfl, rfl, h2⟩ := obs_kw hm0 x fr hp h
    exact ⟨_, _, h1, hK x vals B h2⟩
  cases x with
  | ret => exact absurd rfl hx
  | exit i => exact other hs
  | normal => exact other hs


def atS (e : Ex) (vals : List SV) (B : List BO) : Ex → List SV → List BO → Prop := fun x vs Bs => x = e ∧ vs = vals ∧ Bs = B
theorem CodeOK.at {C : Ctx} (hC : EqOK C) (hΓ : GSound C) (hm : C.P.follows .mixedOrders = true) {u m0 len : Nat} {L : List Nat} {M : List Bool} {vals : List SV} {B : List BO} (hm0 : m0 ≤ M.length) (e : Ex) {c : Code} {fr : List SV} {hp : LHeap}
    (hh : evalC C u m0 c fr hp (obsN L M (seen len M.length (atS e vals B)))) {K : KC} (hK : K e (tplF len L vals) (B.map mkB)) : CodeOK C.P m0 c fr hp K :=
  (CodeOK.lookN (C := C) hC hΓ hm (u := u) hm0 hh).st fun x vs Bs hh => by
    obtain ⟨rfl, rfl, rfl⟩ := hh
    exact hK
theorem endK_no' {P : Program} {rs : List ResultVar} {fr : List SV} {hp : LHeap} (h : endK P rs (fun _ _ => False) .ret fr hp) : False := by
  simp only [endK] at h
  split at h
  · exact h
  · exact h
theorem CodeOK.atE {C : Ctx} (hC : EqOK C) (hΓ : GSound C) (hm : C.P.follows .mixedOrders = true) {u m0 len : Nat} {rs : List ResultVar} {L : List Nat} {M : List Bool} {vals : List SV} {B : List BO} (hm0 : m0 ≤ M.length) (e : Ex) {c : Code} {fr : List SV} {hp : LHeap}
    (hh : evalC C u m0 c fr hp (obsE C.P rs L M (seen len M.length (atS e vals B)) (fun _ => False))) {K : KC} (hK : K e (tplF len L vals) (B.map mkB)) : CodeOK C.P m0 c fr hp K :=
  CodeOK.lookE (C := C) hC hΓ hm (u := u) hm0 hh (fun x vs Bs hh => by
    obtain ⟨rfl, rfl, rfl⟩ := hh
    exact hK) fun fr hp h => (endK_no' h).elim
theorem condT' {c : Bool} {p q : Prop} (h : c = true) (hp : p) : bif c then p else q := by rw [h]; exact hp
theorem condF' {c : Bool} {p q : Prop} (h : c = false) (hq : q) : bif c then p else q := by rw [h]; exact hq


def zipW : List Nat → List (Option Blk) → Wr
  | a :: l, o :: m => (a, o) :: zipW l m
  | _, _ => []
theorem lk_zip_get : ∀ {ψ : List Nat} {outs : List (Option Blk)} {id : Nat} {ob : Option Blk}, lk (zipW ψ outs) id = some ob → ∃ i : Nat, ψ[i]? = some id ∧ outs[i]? = some ob
  | [], _, _, _, h => by simp [zipW, lk] at h
  | _ :: _, [], _, _, h => by simp [zipW, lk] at h
  | a :: l, o :: m, id, ob, h => by
    simp only [zipW, lk] at h
    split at h
    · rename_i e
      exact ⟨0, by simp [e], by simpa using h⟩
    · obtain ⟨i, h1, h2⟩ := lk_zip_get h
      exact ⟨i + 1, by simpa using h1, by simpa using h2⟩
theorem lk_zip_of : ∀ {ψ : List Nat} {outs : List (Option Blk)} {id i : Nat} {ob : Option Blk}, (∀ (i j x : Nat), ψ[i]? = some x → ψ[j]? = some x → i = j) → ψ[i]? = some id → outs[i]? = some ob → lk (zipW ψ outs) id = some ob
  | [], _, _, _, _, _, h, _ => by simp at h
  | _ :: _, [], _, _, _, _, _, h => by simp at h
  | a :: l, o :: m, id, i, ob, hinj, h1, h2 => by
    simp only [zipW, lk]
    cases i with
    | zero =>
      simp at h1 h2
      rw [if_pos h1.symm, h2]
    | succ i =>
      have hne : id ≠ a := by
        rintro rfl
        have := hinj 0 (i + 1) id (by simp) h1
        omega
      rw [if_neg hne]
      exact lk_zip_of (fun i j x e1 e2 => by have := hinj (i + 1) (j + 1) x (by simpa using e1) (by simpa using e2); omega) (by simpa using h1) (by simpa using h2)
theorem findN_of : ∀ {ψ : List Nat} {i x : Nat}, (∀ (i j x : Nat), ψ[i]? = some x → ψ[j]? = some x → i = j) → ψ[i]? = some x → findN x ψ = some i
  | [], _, _, _, h => by simp at h
  | a :: l, i, x, hinj, h => by
    simp only [findN]
    cases hb : Nat.beq a x with
    | true =>
      have := Nat.eq_of_beq_eq_true hb
      subst this
      have := hinj 0 i a (by simp) h
      subst this
      rfl
    | false =>
      cases i with
      | zero =>
        simp at h
        subst h
        simp at hb
      | succ i =>
        have := findN_of (ψ := l) (i := i) (x := x) (fun i j x e1 e2 => by have := hinj (i + 1) (j + 1) x (by simpa using e1) (by simpa using e2); omega) (by simpa using h)
        rw [cond_false, this]
        rfl
/-- An old block keeps its name. -/
theorem back_old {ψ τ : List Nat} {base i x : Nat} (hinj : ∀ (i j x : Nat), ψ[i]? = some x → ψ[j]? = some x → i = j) (h : ψ[i]? = some x) (hx : x < base) : back ψ τ base x = some i := by
  unfold back
  rw [show (Nat.ble base x && Nat.blt x (base + τ.length)) = false by
    cases hc : Nat.ble base x with
    | true => rw [Nat.ble_eq] at hc; omega
    | false => rfl, cond_false]
  exact findN_of hinj h
theorem CSim.zip {P : Program} {f : FuncId} {args : List SV} {h : Heap} {v : SV} {news : List Blk} (hcall : ∀ vs w, (callFunc f vs).run P w = .ok (.enter f vs) w) (args1 : List SV) (hp1 : LHeap) (ψ : List Nat) (hl : ψ.length = hp1.length)
    {base : Nat} (hinj : ∀ (i j x : Nat), ψ[i]? = some x → ψ[j]? = some x → i = j) {K : KV} (hcan : Canon P f args1 hp1 K) (ha : renL (fun i => ψ[i]?) args1 = some args)
    (hb : ∀ (i : Nat) (b1 : Blk), hget hp1 i = some b1 → ∃ x b, ψ[i]? = some x ∧ h x = some b ∧ WB (fun i => ψ[i]?) b1 b) (outs : List (Option Blk))
    (hrw : ∀ (i : Nat) (b1 : Blk), hget hp1 i = some b1 → b1.rw = true → ∃ x, ψ[i]? = some x ∧ i < outs.length) (hin : ∀ i, i < outs.length → ∃ b1, hget hp1 i = some b1 ∧ b1.rw = true)
    (hfin : ∀ v' hp2, K v' hp2 → ∃ τ : List Nat, τ.length = news.length ∧ (∀ t ∈ τ, hp1.length ≤ t) ∧ (∀ (i j x : Nat), τ[i]? = some x → τ[j]? = some x → i = j) ∧ ren (back ψ τ base) v = some v' ∧
      (∀ (j : Nat) (b : Blk), news[j]? = some b → b.rw = true ∧ ∃ i b2, τ[j]? = some i ∧ hget hp2 i = some b2 ∧ WB (back ψ τ base) b b2) ∧
      ∀ (i : Nat) (b : Blk), outs[i]? = some (some b) → b.rw = true ∧ ∃ b2, hget hp2 i = some b2 ∧ WB (back ψ τ base) b b2) :
    CSim P f args h base v (zipW ψ outs) news := by
  refine CSim.gen2 hcall args1 hp1 ψ hl hinj hcan ha hb fun v' hp2 hk => ?_
  obtain ⟨τ, h1, h2, h3, h4, h5, h6⟩ := hfin v' hp2 hk
  refine ⟨τ, h1, h2, h3, h4, h5, fun id b hlk => ?_, fun i b1 e1 e2 => ?_⟩
  · obtain ⟨i, q1, q2⟩ := lk_zip_get hlk
    obtain ⟨q3, b2, q4, q5⟩ := h6 i b q2
    obtain ⟨b1, q6, q7⟩ := hin i (List.getElem?_eq_some_iff.1 q2).1
    exact ⟨i, b2, b1, q1, q3, q6, q7, q4, q5⟩
  · obtain ⟨x, q1, q2⟩ := hrw i b1 e1 e2
    refine ⟨x, q1, ?_⟩
    have q3 : outs[i]? = some outs[i] := List.getElem?_eq_getElem q2
    cases ho : outs[i] with
    | none => exact .inl (lk_zip_of hinj q1 (by rw [q3, ho]))
    | some b =>
      obtain ⟨q4, b2, q5, q6⟩ := h6 i b (by rw [q3, ho])
      exact .inr ⟨b, b2, lk_zip_of hinj q1 (by rw [q3, ho]), q5, q6.rw q4⟩

theorem condSplit {c : Bool} {p q : Prop} (h1 : c = true → p) (h2 : c = false → q) : bif c then p else q := by
  cases c
  · exact h2 rfl
  · exact h1 rfl
theorem bnF {b : Bool} (q : (!b) = true) : b = false := by cases b with
  | true => cases q
  | false => rfl
theorem bnT {b : Bool} (q : (!b) = false) : b = true := by cases b with
  | true => rfl
  | false => cases q
theorem zipW_nil : ∀ l : List Nat, zipW l [] = []
  | [] => rfl
  | _ :: _ => rfl
theorem nob (x : Nat) : hget [] x = none := by cases x <;> rfl
theorem inj0 : ∀ (i j x : Nat), ([] : List Nat)[i]? = some x → ([] : List Nat)[j]? = some x → i = j := fun i j x q => by simp at q
theorem inj_nodup {l : List Nat} (h : l.Nodup) : ∀ (i j x : Nat), l[i]? = some x → l[j]? = some x → i = j := by
  intro i j x e1 e2
  obtain ⟨h1, e1⟩ := List.getElem?_eq_some_iff.1 e1
  obtain ⟨h2, e2⟩ := List.getElem?_eq_some_iff.1 e2
  have hp := List.pairwise_iff_getElem.1 h
  rcases Nat.lt_trichotomy i j with q | q | q
  · exact absurd (e1.trans e2.symm) (hp i j h1 h2 q)
  · exact q
  · exact absurd (e2.trans e1.symm) (hp j i h2 h1 q)
theorem back_fst {ψ : List Nat} {s : Nat} {τ : List Nat} {base : Nat} : back ψ (s :: τ) base base = some s := back_at (ψ := ψ) (τ := s :: τ) (base := base) (j := 0) (by simp)
theorem back_snd {ψ : List Nat} {s t : Nat} {τ : List Nat} {base : Nat} : back ψ (s :: t :: τ) base (base + 1) = some t := back_at (ψ := ψ) (τ := s :: t :: τ) (base := base) (j := 1) (by simp)
theorem back_thd {ψ : List Nat} {s t u : Nat} {τ : List Nat} {base : Nat} : back ψ (s :: t :: u :: τ) base (base + 2) = some u := back_at (ψ := ψ) (τ := s :: t :: u :: τ) (base := base) (j := 2) (by simp)
theorem back_frt {ψ : List Nat} {s t u v : Nat} {τ : List Nat} {base : Nat} : back ψ (s :: t :: u :: v :: τ) base (base + 3) = some v := back_at (ψ := ψ) (τ := s :: t :: u :: v :: τ) (base := base) (j := 3) (by simp)
theorem ren_sl {ρ : Ren} {id i r s n : Nat} (h : ρ id = some i) : ren ρ (.slice id r s n) = some (.slice i r s n) := by simp only [ren, h]
theorem ren_pt {ρ : Ren} {id i r s n : Nat} (h : ρ id = some i) : ren ρ (.ptr id r s n) = some (.ptr i r s n) := by simp only [ren, h]
abbrev ni (n : Nat) : SV := .int .i64 n
/-- A part that may return, with what the blocks say then. -/
def obsX (P : Program) (rs : List ResultVar) (L : List Nat) (M : List Bool) (Kt : KT) (kr : SV → LHeap → Prop) : KC := fun x fr hp => match x with
  | .ret => match resS P fr (hget hp) rs with | some l => kr (packS l) hp | none => False
  | .exit i => obs L M Kt (.exit i) fr hp
  | .normal => obs L M Kt .normal fr hp
theorem CodeOK.lookX {C : Ctx} (hC : EqOK C) (hΓ : GSound C) (hm : C.P.follows .mixedOrders = true) {u m0 len : Nat} {c : Code} {fr : List SV} {hp : LHeap} {rs : List ResultVar} {L : List Nat} {M : List Bool} (hm0 : m0 ≤ M.length) {Q : Ex → List SV → List BO → Prop} {kr : SV → LHeap → Prop} {K : KC}
    (h : evalC C u m0 c fr hp (obsX C.P rs L M (seen len M.length Q) kr)) (hK : ∀ x vals B, Q x vals B → K x (tplF len L vals) (B.map mkB)) (hr : ∀ fr hp, endK C.P rs kr .ret fr hp → K .ret fr hp) : CodeOK C.P m0 c fr hp K := by
  refine (CodeOK.eval hC hΓ hm u h).monoV fun x fr hp h => ?_
  have other : obs L M (seen len M.length Q) x fr hp → KW m0 K x fr hp := fun h => by
    obtain ⟨fr1, hp1, h1, vals, B, rfl, rfl, h2⟩ := obs_kw hm0 x fr hp h
    exact ⟨_, _, h1, hK x vals B h2⟩
  cases x with
  | ret => exact .inl (hr fr hp h)
  | exit i => exact .inr (other h)
  | normal => exact .inr (other h)
theorem endK_no {P : Program} {rs : List ResultVar} {fr : List SV} {hp : LHeap} (h : endK P rs (fun _ _ => False) .ret fr hp) : False := endK_no' h
end Go.Proofs.Ytcjfmkkfcbelpaa
