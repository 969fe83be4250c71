/-
  A small engine for walks, part 22: contracts of functions that write the block that their first pointer tells, and read others.
-/
import Derived.Test.YtcjfmkkfcbelpaaE21
namespace Go.Proofs.Ytcjfmkkfcbelpaa
open Go.RowKit

/-- A function that writes one block and reads others. -/
theorem CSim.ptrWR {P : Program} {f : FuncId} {v : SV} {h : Heap} {id ty : Nat} {b : Blk} {cells cells' rest1 rest : List SV} {ids : List Nat} {ro : LHeap} (hcall : ∀ vs w, (callFunc f vs).run P w = .ok (.enter f vs) w)
    (hcan : Canon P f (.ptr 0 0 cells.length 0 :: rest1) (some (oneB cells true ty) :: ro) fun v' hp => v' = v ∧ obsB true (hget hp 0) = .rows cells.length 1 true ty [cells']) (hids : ids.length = ro.length) (hinj : ∀ (i j x : Nat), (id :: ids)[i]? = some x → (id :: ids)[j]? = some x → i = j)
    (hro : ∀ (i : Nat) (b1 : Blk), hget ro i = some b1 → b1.rw = false ∧ ∃ x b, ids[i]? = some x ∧ h x = some b ∧ WB (fun i => (id :: ids)[i]?) b1 b)
    (hb : h id = some b) (hs : b.sz = cells.length) (hn : b.n = 1) (hw : b.rw = true) (ht : b.ty = ty) (hr : b.rd 0 = cells)
    (hl : cells'.length = cells.length) (hc : svIdsL cells = []) (hc' : svIdsL cells' = []) (hrest : renL (fun i => (id :: ids)[i]?) rest1 = some rest) (hv : svIds v = []) (base : Nat) :
    CSim P f (.ptr id 0 cells.length 0 :: rest) h base v [(id, some (oneB cells' true ty))] [] := by
  have hget_succ : ∀ i, hget (some (oneB cells true ty) :: ro) (i + 1) = hget ro i := fun i => rfl
  refine CSim.gen hcall _ _ (id :: ids) (by simp [hids]) hinj hcan ?_ (fun i b1 e => ?_) fun v' hp2 hk => ?_
  · simp only [renL, ren, hrest]
    rfl
  · match i, e with
    | 0, e =>
      obtain rfl := Option.some.inj (show some (oneB cells true ty) = some b1 from e)
      refine ⟨id, b, rfl, hb, WB.of_rows hs.symm (by rw [hn]; exact Nat.le_refl _) (fun _ => hw) (fun _ => ht.symm) fun r hr' => ?_⟩
      obtain rfl : r = 0 := by have : r < 1 := hr'; omega
      exact ⟨hr.symm, hc⟩
    | i + 1, e =>
      obtain ⟨_, x, b, h1, h2, h3⟩ := hro i b1 e
      exact ⟨x, b, h1, h2, h3⟩
  · obtain ⟨rfl, ho⟩ := hk
    obtain ⟨b2, e1, e2, e3, e4, e5, e6⟩ := obsB_rows ho
    refine ⟨[], rfl, by simp, fun i j x q => by simp at q, ren_id_of hv _, fun j b q => by simp at q, fun id' ob q => ?_, fun i b1 q1 q2 => ?_⟩
    · simp only [lk] at q
      by_cases hid : id' = id
      · subst hid
        rw [if_pos rfl] at q
        obtain rfl := Option.some.inj (show some (some (oneB cells' true ty)) = some ob from q)
        refine ⟨0, _, b2, _, rfl, rfl, rfl, rfl, rfl, e1, WB.of_rows (show cells'.length = b2.sz by rw [e2, hl]) (by rw [e3]; exact Nat.le_refl _) (fun _ => e4) (fun _ => e5.symm) fun r hr' => ?_⟩
        obtain rfl : r = 0 := by have : r < 1 := hr'; omega
        exact ⟨e6.symm, hc'⟩
      · rw [if_neg hid] at q; exact nomatch q
    · match i, q1 with
      | 0, _ => exact ⟨id, oneB cells' true ty, b2, rfl, by simp only [lk, if_true], e1, e4⟩
      | i + 1, e => rw [(hro i b1 e).1] at q2; exact nomatch q2
end Go.Proofs.Ytcjfmkkfcbelpaa
