/-
  A small engine for walks, part 21: contracts of functions of one block that a pointer tells, and of those that hand back one.
-/
import Derived.Test.YtcjfmkkfcbelpaaE20
namespace Go.Proofs.Ytcjfmkkfcbelpaa
open Go.RowKit

/-- A block of one row. -/
def oneB (cells : List SV) (rw : Bool) (ty : Nat) : Blk := ⟨cells.length, 1, fun _ => cells, rw, ty⟩
theorem obsB_rows {ob : Option Blk} {sz ty : Nat} {cells : List SV} (h : obsB true ob = .rows sz 1 true ty [cells]) : ∃ b, ob = some b ∧ b.sz = sz ∧ b.n = 1 ∧ b.rw = true ∧ b.ty = ty ∧ b.rd 0 = cells := by
  cases ob with
  | none => simp [obsB] at h
  | some b =>
    simp only [obsB, BO.rows.injEq] at h
    obtain ⟨h1, h2, h3, h4, h5⟩ := h
    rw [h2] at h5
    exact ⟨b, rfl, h1, h2, h3, h4, by simpa [List.range_succ] using h5⟩
/-- A function that reads one block that a pointer tells. -/
theorem CSim.ptrR {P : Program} {f : FuncId} {v : SV} {h : Heap} {id : Nat} {b : Blk} {cells rest : List SV} (hcall : ∀ vs w, (callFunc f vs).run P w = .ok (.enter f vs) w)
    (hcan : Canon P f (.ptr 0 0 cells.length 0 :: rest) [some (oneB cells false 0)] fun v' _ => v' = v) (hb : h id = some b) (hs : b.sz = cells.length) (hn : b.n = 1) (hr : b.rd 0 = cells) (hc : svIdsL cells = []) (hrest : svIdsL rest = []) (hv : svIds v = []) (base : Nat) :
    CSim P f (.ptr id 0 cells.length 0 :: rest) h base v [] [] := by
  refine CSim.reads hcall _ _ [id] rfl hcan ?_ (fun i b1 e => ?_) (ren_id_of hv _) base
  · simp only [renL, ren, renL_id_of hrest]
    rfl
  · match i, e with
    | 0, e =>
      obtain rfl := Option.some.inj (show some (oneB cells false 0) = some b1 from e)
      refine ⟨rfl, id, b, rfl, hb, WB.of_rows hs.symm (by rw [hn]; exact Nat.le_refl _) (fun q => nomatch q) (fun q => nomatch q) fun r hr' => ?_⟩
      obtain rfl : r = 0 := by have : r < 1 := hr'; omega
      exact ⟨hr.symm, hc⟩
    | i + 1, e => exact nomatch (show (none : Option Blk) = some b1 from e)
/-- A function that writes one block that a pointer tells. -/
theorem CSim.ptrW {P : Program} {f : FuncId} {v : SV} {h : Heap} {id ty : Nat} {b : Blk} {cells cells' rest : List SV} (hcall : ∀ vs w, (callFunc f vs).run P w = .ok (.enter f vs) w)
    (hcan : Canon P f (.ptr 0 0 cells.length 0 :: rest) [some (oneB cells true ty)] fun v' hp => v' = v ∧ obsB true (hget hp 0) = .rows cells.length 1 true ty [cells']) (hb : h id = some b) (hs : b.sz = cells.length) (hn : b.n = 1) (hw : b.rw = true) (ht : b.ty = ty) (hr : b.rd 0 = cells)
    (hl : cells'.length = cells.length) (hc : svIdsL cells = []) (hc' : svIdsL cells' = []) (hrest : svIdsL rest = []) (hv : svIds v = []) (base : Nat) :
    CSim P f (.ptr id 0 cells.length 0 :: rest) h base v [(id, some (oneB cells' true ty))] [] := by
  refine CSim.gen hcall _ _ [id] rfl inj1 hcan ?_ (fun i b1 e => ?_) fun v' hp2 hk => ?_
  · simp only [renL, ren, renL_id_of hrest]
    rfl
  · match i, e with
    | 0, e =>
      obtain rfl := Option.some.inj (show some (oneB cells true ty) = some b1 from e)
      refine ⟨id, b, rfl, hb, WB.of_rows hs.symm (by rw [hn]; exact Nat.le_refl _) (fun _ => hw) (fun _ => ht.symm) fun r hr' => ?_⟩
      obtain rfl : r = 0 := by have : r < 1 := hr'; omega
      exact ⟨hr.symm, hc⟩
    | i + 1, e => exact nomatch (show (none : Option Blk) = some b1 from e)
  · obtain ⟨rfl, ho⟩ := hk
    obtain ⟨b2, e1, e2, e3, e4, e5, e6⟩ := obsB_rows ho
    refine ⟨[], rfl, by simp, fun i j x q => by simp at q, ren_id_of hv _, fun j b q => by simp at q, fun id' ob q => ?_, fun i b1 q1 q2 => ?_⟩
    · simp only [lk] at q
      by_cases hid : id' = id
      · subst hid
        rw [if_pos rfl] at q
        obtain rfl := Option.some.inj (show some (some (oneB cells' true ty)) = some ob from q)
        refine ⟨0, _, b2, _, rfl, rfl, rfl, rfl, rfl, e1, WB.of_rows (show cells'.length = b2.sz by rw [e2, hl]) (by rw [e3]; exact Nat.le_refl _) (fun _ => e4) (fun _ => e5.symm) fun r hr' => ?_⟩
        obtain rfl : r = 0 := by have : r < 1 := hr'; omega
        exact ⟨e6.symm, hc'⟩
      · rw [if_neg hid] at q; exact nomatch q
    · match i, q1 with
      | 0, _ => exact ⟨id, oneB cells' true ty, b2, rfl, by simp only [lk, if_true], e1, e4⟩
      | i + 1, e => exact nomatch (show (none : Option Blk) = some b1 from e)
/-- What is handed back by pointer. -/
def obsP (v : SV) (hp : LHeap) : BO := match v with
  | .ptr id 0 _ 0 => obsB true (hget hp id)
  | _ => .raw none
/-- A function that hands back a new block, by pointer. -/
theorem CSim.newP {P : Program} {f : FuncId} {args : List SV} {h : Heap} (hcall : ∀ vs w, (callFunc f vs).run P w = .ok (.enter f vs) w) (args1 : List SV) (hp1 : LHeap) (ψ : List Nat) (hl : ψ.length = hp1.length)
    {base ty : Nat} {cells : List SV} (hid : svIdsL cells = []) (hinj : ∀ (i j x : Nat), ψ[i]? = some x → ψ[j]? = some x → i = j) (ha : renL (fun i => ψ[i]?) args1 = some args)
    (hb : ∀ (i : Nat) (b1 : Blk), hget hp1 i = some b1 → b1.rw = false ∧ ∃ x b, ψ[i]? = some x ∧ h x = some b ∧ WB (fun i => ψ[i]?) b1 b)
    (hcan : Canon P f args1 hp1 fun v' hp2 => ∃ t, v' = .ptr t 0 cells.length 0 ∧ hp1.length ≤ t ∧ obsB true (hget hp2 t) = .rows cells.length 1 true ty [cells]) :
    CSim P f args h base (.ptr base 0 cells.length 0) [] [oneB cells true ty] := by
  refine CSim.gen hcall args1 hp1 ψ hl hinj hcan ha (fun i b1 e => (hb i b1 e).2) fun v' hp2 hk => ?_
  obtain ⟨t, rfl, h1, ho⟩ := hk
  obtain ⟨b2, e1, e2, e3, e4, e5, e6⟩ := obsB_rows ho
  refine ⟨[t], ⟨rfl, by simpa using h1, inj1, by simp only [ren, back_one], fun j c e => ?_, fun id ob e => (nomatch e), fun i b1 e1 e2 => by rw [(hb i b1 e1).1] at e2; cases e2⟩⟩
  match j, e with
  | 0, e =>
    simp only [List.getElem?_cons_zero, Option.some.injEq] at e
    subst e
    refine ⟨rfl, t, b2, rfl, e1, WB.of_rows e2.symm (by rw [e3]; exact Nat.le_refl _) (fun _ => e4) (fun _ => e5.symm) fun r hr => ?_⟩
    obtain rfl : r = 0 := by have : r < 1 := hr; omega
    exact ⟨e6.symm, hid⟩
  | j + 1, e => simp at e
end Go.Proofs.Ytcjfmkkfcbelpaa
