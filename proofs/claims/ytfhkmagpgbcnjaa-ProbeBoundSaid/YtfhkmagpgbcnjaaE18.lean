/-
  A small engine for walks, part 18: states by templates: the slots and the blocks that are looked at.
-/
import Derived.Test.YtfhkmagpgbcnjaaE17
namespace Go.Proofs.Ytfhkmagpgbcnjaa
open Go.RowKit

/-- A block, as it is told: itself, or its rows. -/
inductive BO where
  | raw (b : Option Blk)
  | rows (sz n : Nat) (rw : Bool) (ty : Nat) (l : List (List SV))
def obsB : Bool → Option Blk → BO
  | true, some b => .rows b.sz b.n b.rw b.ty ((List.range b.n).map b.rd)
  | _, b => .raw b
def mkB : BO → Option Blk
  | .raw b => b
  | .rows sz n rw ty l => some ⟨sz, n, fun r => l.getD r [], rw, ty⟩
def obsHs : List Bool → LHeap → List BO
  | [], _ => []
  | _ :: M, [] => .raw none :: obsHs M []
  | m :: M, b :: hp => obsB m b :: obsHs M hp
def lkv (i : Nat) : List Nat → List SV → SV
  | a :: L, v :: vs => bif Nat.beq a i then v else lkv i L vs
  | _, _ => .top
def tplG (L : List Nat) (vals : List SV) : Nat → Nat → List SV
  | 0, _ => []
  | n + 1, i => lkv i L vals :: tplG L vals n (i + 1)
/-- A frame of which these slots are told. -/
def tplF (len : Nat) (L : List Nat) (vals : List SV) : List SV := tplG L vals len 0
theorem tplG_get {L : List Nat} {vals : List SV} : ∀ {n i j : Nat}, (tplG L vals n i)[j]? = if j < n then some (lkv (i + j) L vals) else none
  | 0, _, _ => by simp [tplG]
  | n + 1, i, 0 => by simp [tplG]
  | n + 1, i, j + 1 => by
    simp only [tplG, List.getElem?_cons_succ]
    rw [tplG_get, show i + 1 + j = i + (j + 1) by omega]
    simp
theorem tplF_get {len : Nat} {L : List Nat} {vals : List SV} {j : Nat} : (tplF len L vals)[j]? = if j < len then some (lkv j L vals) else none := by
  rw [tplF, tplG_get, Nat.zero_add]
theorem tplG_length {L : List Nat} {vals : List SV} : ∀ {n i : Nat}, (tplG L vals n i).length = n
  | 0, _ => rfl
  | n + 1, i => by simp [tplG, tplG_length]
theorem tplF_length {len : Nat} {L : List Nat} {vals : List SV} : (tplF len L vals).length = len := tplG_length
theorem TopW.of_get {m : Nat} : ∀ {l r : List SV}, l.length = r.length → (∀ (i : Nat) (s t : SV), l[i]? = some s → r[i]? = some t → s = .top ∨ (ltAll m (svIds s) = true ∧ s = t)) → TopW m l r
  | [], [], _, _ => trivial
  | [], _ :: _, h, _ => by simp at h
  | _ :: _, [], h, _ => by simp at h
  | a :: l, b :: r, h, k => ⟨k 0 a b rfl rfl, TopW.of_get (by simpa using h) fun i s t h1 h2 => k (i + 1) s t (by simpa using h1) (by simpa using h2)⟩
theorem ltAll_mem {m : Nat} : ∀ {vs : List SV} {s : SV}, ltAll m (svIdsL vs) = true → s ∈ vs → ltAll m (svIds s) = true
  | [], _, _, h => by simp at h
  | a :: vs, s, h, hm => by
    simp only [svIdsL, ltAll_append, Bool.and_eq_true] at h
    rcases List.mem_cons.1 hm with rfl | hm
    · exact h.1
    · exact ltAll_mem h.2 hm
theorem lkv_mem {i : Nat} : ∀ {L : List Nat} {vs : List SV}, lkv i L vs = .top ∨ lkv i L vs ∈ vs
  | [], _ => .inl (by simp [lkv])
  | _ :: _, [] => .inl (by simp [lkv])
  | a :: L, v :: vs => by
    simp only [lkv]
    cases Nat.beq a i with
    | true => exact .inr (by simp)
    | false => exact (lkv_mem (L := L) (vs := vs)).imp id fun h => by simpa using .inr h
theorem lkv_map {i : Nat} {f : Nat → SV} : ∀ {L : List Nat}, lkv i L (L.map f) = .top ∨ lkv i L (L.map f) = f i
  | [] => .inl rfl
  | a :: L => by
    simp only [List.map_cons, lkv]
    cases h : Nat.beq a i with
    | true => exact .inr (by rw [Nat.eq_of_beq_eq_true h]; rfl)
    | false => exact lkv_map
def idsOkB (m : Nat) : BO → Prop
  | .raw (some b) => ∀ r, r < b.n → ltAll m (svIdsL (b.rd r)) = true
  | .raw none => True
  | .rows _ _ _ _ l => (l.all fun cs => ltAll m (svIdsL cs)) = true
def allIds (m : Nat) : List BO → Prop
  | [] => True
  | b :: l => idsOkB m b ∧ allIds m l
theorem allIds_get {m : Nat} : ∀ {B : List BO} {i : Nat} {b : BO}, allIds m B → B[i]? = some b → idsOkB m b
  | [], _, _, _, h => by simp at h
  | c :: B, 0, b, h, e => by simp at e; subst e; exact h.1
  | c :: B, i + 1, b, h, e => allIds_get h.2 (by simpa using e)
theorem obsHs_get : ∀ {M : List Bool} {hp : LHeap} {i : Nat} {x : BO}, (obsHs M hp)[i]? = some x → ∃ t, x = obsB t (hget hp i) ∧ i < M.length
  | [], _, _, _, h => by simp [obsHs] at h
  | m :: M, [], 0, x, h => by simp [obsHs] at h; exact ⟨false, by rw [← h]; rfl, by simp⟩
  | m :: M, [], i + 1, x, h => by
    simp only [obsHs, List.getElem?_cons_succ] at h
    obtain ⟨t, h1, h2⟩ := obsHs_get h
    exact ⟨t, h1, by simpa using h2⟩
  | m :: M, b :: hp, 0, x, h => by simp [obsHs] at h; exact ⟨m, by rw [← h]; rfl, by simp⟩
  | m :: M, b :: hp, i + 1, x, h => by
    simp only [obsHs, List.getElem?_cons_succ] at h
    obtain ⟨t, h1, h2⟩ := obsHs_get h
    exact ⟨t, h1, by simpa using h2⟩
theorem obsHs_length : ∀ {M : List Bool} {hp : LHeap}, (obsHs M hp).length = M.length
  | [], _ => rfl
  | _ :: M, [] => by simp [obsHs, obsHs_length]
  | _ :: M, _ :: hp => by simp [obsHs, obsHs_length]
theorem mkB_wb {m : Nat} {t : Bool} {o : Option Blk} {b1 : Blk} (hid : idsOkB m (obsB t o)) (h : mkB (obsB t o) = some b1) : ∃ b, o = some b ∧ WB (upTo m) b1 b := by
  cases o with
  | none => cases t <;> simp [obsB, mkB] at h
  | some b =>
    refine ⟨b, rfl, ?_⟩
    cases t with
    | false =>
      simp only [obsB, mkB, Option.some.injEq] at h
      subst h
      exact ⟨rfl, Nat.le_refl _, fun h => h, fun _ => rfl, fun r hr => WL_upTo (hid r hr)⟩
    | true =>
      simp only [obsB, mkB, Option.some.injEq] at h
      subst h
      refine ⟨rfl, Nat.le_refl _, fun h => h, fun _ => rfl, fun r hr => ?_⟩
      have hr : r < b.n := hr
      have e : ((List.range b.n).map b.rd).getD r [] = b.rd r := by
        rw [List.getD_eq_getElem?_getD, List.getElem?_map, List.getElem?_range hr]; rfl
      show WL _ (((List.range b.n).map b.rd).getD r []) (b.rd r)
      rw [e]
      simp only [obsB, idsOkB, List.all_eq_true] at hid
      exact WL_upTo (hid (b.rd r) (List.mem_map.2 ⟨r, List.mem_range.2 hr, rfl⟩))
theorem obs_weak {m0 : Nat} {fr : List SV} {hp : LHeap} {len : Nat} {L : List Nat} {vals : List SV} {M : List Bool} {B : List BO} (h1 : fr.length = len) (h2 : (L.map fun i => fr.getD i .top) = vals) (h3 : obsHs M hp = B) (hm : m0 ≤ M.length)
    (hv : ltAll M.length (svIdsL vals) = true) (hb : allIds M.length B) : Weak m0 fr hp (tplF len L vals) (B.map mkB) := by
  subst h1 h2 h3
  have hl : ((obsHs M hp).map mkB).length = M.length := by simp [obsHs_length]
  have hf : TopW M.length (tplF fr.length L (L.map fun i => fr.getD i .top)) fr := by
    refine TopW.of_get tplF_length fun i s t e1 e2 => ?_
    rw [tplF_get] at e1
    split at e1
    · simp only [Option.some.injEq] at e1
      have e3 : fr.getD i .top = t := by rw [List.getD_eq_getElem?_getD, e2]; rfl
      rcases lkv_map (i := i) (f := fun i => fr.getD i .top) (L := L) with h | h
      · exact .inl (e1 ▸ h)
      · rcases lkv_mem (i := i) (L := L) (vs := L.map fun i => fr.getD i .top) with h' | h'
        · exact .inl (e1 ▸ h')
        · exact .inr ⟨ltAll_mem hv (e1 ▸ h'), by rw [← e1, h, e3]⟩
    · cases e1
  refine ⟨List.range M.length, by rw [hl]; simp, by rw [hl]; exact hm, fun i hi => by rw [List.getElem?_range (by omega)], hf.wl, fun id b1 hb1 => ?_, fun i j x hi hj p1 p2 => ?_⟩
  · rw [hget_eq, List.getElem?_map] at hb1
    cases hx : (obsHs M hp)[id]? with
    | none => rw [hx] at hb1; cases hb1
    | some x =>
      obtain ⟨t, rfl, hlt⟩ := obsHs_get hx
      have hb1 : mkB (obsB t (hget hp id)) = some b1 := by
        rw [hx] at hb1
        simpa using hb1
      obtain ⟨b, q1, q2⟩ := mkB_wb (allIds_get hb hx) hb1
      exact ⟨id, b, by rw [List.getElem?_range hlt], q1, q2⟩
  · rw [hl] at hi hj
    rw [List.getElem?_range hi] at p1
    rw [List.getElem?_range hj] at p2
    simp only [Option.some.injEq] at p1 p2
    omega
/-- What is seen of a state. -/
abbrev KT := Ex → Nat → List SV → List BO → Prop
def obs (L : List Nat) (M : List Bool) (Kt : KT) : KC := fun x fr hp => Kt x fr.length (L.map fun i => fr.getD i .top) (obsHs M hp)
/-- A state by its template. -/
def stK (len : Nat) (L : List Nat) (Q : Ex → List SV → List BO → Prop) : KC := fun x fr hp => ∃ vals B, fr = tplF len L vals ∧ hp = B.map mkB ∧ Q x vals B
/-- What must be seen, so that it can be said. -/
def seen (len m : Nat) (Q : Ex → List SV → List BO → Prop) : KT := fun x n vals B => n = len ∧ ltAll m (svIdsL vals) = true ∧ allIds m B ∧ Q x vals B
theorem obs_kw {m0 len : Nat} {L : List Nat} {M : List Bool} {Q : Ex → List SV → List BO → Prop} (hm : m0 ≤ M.length) : ∀ x fr hp, obs L M (seen len M.length Q) x fr hp → KW m0 (stK len L Q) x fr hp :=
  fun _ _ _ ⟨h1, h2, h3, h4⟩ => ⟨_, _, obs_weak h1 rfl rfl hm h2 h3, _, _, rfl, rfl, h4⟩
theorem CodeOK.look {C : Ctx} (hC : EqOK C) (hΓ : GSound C) (hm : C.P.follows .mixedOrders = true) {u m0 len : Nat} {c : Code} {fr : List SV} {hp : LHeap} {L : List Nat} {M : List Bool} (hm0 : m0 ≤ M.length) {Q : Ex → List SV → List BO → Prop}
    (h : evalC C u m0 c fr hp (obs L M (seen len M.length Q))) : CodeOK C.P m0 c fr hp (stK len L Q) :=
  (CodeOK.eval hC hΓ hm u h).monoW (obs_kw hm0)
/-- It must not return here. -/
def obsN (L : List Nat) (M : List Bool) (Kt : KT) : KC := fun x fr hp => match x with
  | .ret => False
  | .exit i => obs L M Kt (.exit i) fr hp
  | .normal => obs L M Kt .normal fr hp
theorem obsN_obs {L : List Nat} {M : List Bool} {Kt : KT} : ∀ x fr hp, obsN L M Kt x fr hp → obs L M Kt x fr hp
  | .ret, _, _, h => h.elim
  | .exit _, _, _, h => h
  | .normal, _, _, h => h
theorem CodeOK.lookN {C : Ctx} (hC : EqOK C) (hΓ : GSound C) (hm : C.P.follows .mixedOrders = true) {u m0 len : Nat} {c : Code} {fr : List SV} {hp : LHeap} {L : List Nat} {M : List Bool} (hm0 : m0 ≤ M.length) {Q : Ex → List SV → List BO → Prop}
    (h : evalC C u m0 c fr hp (obsN L M (seen len M.length Q))) : CodeOK C.P m0 c fr hp (stK len L Q) :=
  (CodeOK.eval hC hΓ hm u h).monoW fun x fr hp h => obs_kw hm0 x fr hp (obsN_obs x fr hp h)
def ValW : List SV → List SV → Prop
  | [], [] => True
  | s :: l, t :: r => (s = .top ∨ s = t) ∧ ValW l r
  | _, _ => False
theorem ValW.lkv {i : Nat} : ∀ {L : List Nat} {a b : List SV}, ValW a b → lkv i L a = .top ∨ lkv i L a = lkv i L b
  | [], _, _, _ => .inl (by simp [Go.Proofs.Ytfhkmagpgbcnjaa.lkv])
  | _ :: _, [], [], _ => .inl (by simp [Go.Proofs.Ytfhkmagpgbcnjaa.lkv])
  | _ :: _, [], _ :: _, h => h.elim
  | _ :: _, _ :: _, [], h => h.elim
  | x :: L, s :: a, t :: b, h => by
    simp only [Go.Proofs.Ytfhkmagpgbcnjaa.lkv]
    cases Nat.beq x i with
    | true => exact h.1
    | false => exact ValW.lkv h.2
theorem tpl_weak {m0 len : Nat} {L : List Nat} {vals vals' : List SV} {B R : List BO} (hv : ValW vals' vals) (hi : ltAll B.length (svIdsL vals') = true) (hb : allIds B.length B) (hm : m0 ≤ B.length) :
    Weak m0 (tplF len L vals) ((B ++ R).map mkB) (tplF len L vals') (B.map mkB) := by
  have hl : (B.map mkB).length = B.length := by simp
  have hf : TopW B.length (tplF len L vals') (tplF len L vals) := by
    refine TopW.of_get (by rw [tplF_length, tplF_length]) fun i s t e1 e2 => ?_
    rw [tplF_get] at e1 e2
    split at e1
    · rename_i hlt
      rw [if_pos hlt] at e2
      simp only [Option.some.injEq] at e1 e2
      rcases hv.lkv (i := i) (L := L) with h | h
      · exact .inl (e1 ▸ h)
      · rcases lkv_mem (i := i) (L := L) (vs := vals') with h' | h'
        · exact .inl (e1 ▸ h')
        · exact .inr ⟨ltAll_mem hi (e1 ▸ h'), by rw [← e1, h, e2]⟩
    · cases e1
  refine ⟨List.range B.length, by rw [hl]; simp, by rw [hl]; exact hm, fun i hi => by rw [List.getElem?_range (by omega)], hf.wl, fun id b1 hb1 => ?_, fun i j x hi hj p1 p2 => ?_⟩
  · rw [hget_eq, List.getElem?_map] at hb1
    cases hx : B[id]? with
    | none => rw [hx] at hb1; cases hb1
    | some x =>
      have hlt : id < B.length := (List.getElem?_eq_some_iff.1 hx).1
      have e : mkB x = some b1 := by rw [hx] at hb1; simpa using hb1
      refine ⟨id, b1, by rw [List.getElem?_range hlt], ?_, ?_⟩
      · rw [hget_eq, List.getElem?_map, List.getElem?_append_left hlt, hx]
        simpa using e
      · have hid := allIds_get hb hx
        refine ⟨rfl, Nat.le_refl _, fun h => h, fun _ => rfl, fun r hr => WL_upTo ?_⟩
        cases x with
        | raw o => cases o with
          | none => cases e
          | some b => simp only [mkB, Option.some.injEq] at e; subst e; exact hid r hr
        | rows sz n rw ty l =>
          simp only [mkB, Option.some.injEq] at e
          subst e
          show ltAll _ (svIdsL (l.getD r [])) = true
          simp only [idsOkB, List.all_eq_true] at hid
          rw [List.getD_eq_getElem?_getD]
          cases hr' : l[r]? with
          | none => rfl
          | some cs => exact hid cs (List.mem_of_getElem? hr')
  · rw [hl] at hi hj
    rw [List.getElem?_range hi] at p1
    rw [List.getElem?_range hj] at p2
    simp only [Option.some.injEq] at p1 p2
    omega
/-- The same frame; blocks are said by other words. -/
theorem heap_weak {m0 m : Nat} {fr : List SV} {hp hp1 : LHeap} (hl : hp1.length = m) (hm : m0 ≤ m) (hf : ltAll m (svIdsL fr) = true) (hb : ∀ id b1, hget hp1 id = some b1 → ∃ b, hget hp id = some b ∧ WB (upTo m) b1 b) : Weak m0 fr hp fr hp1 := by
  subst hl
  refine ⟨List.range hp1.length, by simp, hm, fun i hi => by rw [List.getElem?_range (by omega)], WL_upTo hf, fun id b1 hb1 => ?_, fun i j x hi hj p1 p2 => ?_⟩
  · have hlt : id < hp1.length := by
      rcases Nat.lt_or_ge id hp1.length with h | h
      · exact h
      · rw [hget_none h] at hb1; cases hb1
    obtain ⟨b, q1, q2⟩ := hb id b1 hb1
    exact ⟨id, b, by rw [List.getElem?_range hlt], q1, q2⟩
  · rw [List.getElem?_range hi] at p1
    rw [List.getElem?_range hj] at p2
    simp only [Option.some.injEq] at p1 p2
    omega
/-- Parts one behind the other are walked at once; then the rest. -/
theorem CodeOK.monoV {P : Program} {m0 : Nat} {c : Code} {fr : List SV} {hp : LHeap} {K K' : KC} (h : CodeOK P m0 c fr hp K) (hK : ∀ x fr hp, K x fr hp → K' x fr hp ∨ KW m0 K' x fr hp) : CodeOK P m0 c fr hp K' := by
  intro g φ a w hg hr
  subst hg
  refine wp_mono (h g φ a w rfl hr) fun e a' w' he => ?_
  cases e <;> simp only [Post] at he ⊢ <;> first | exact he | (
    obtain ⟨φ, fr, hp, h1, h2⟩ := he
    rcases hK _ _ _ h1 with h3 | ⟨fr1, hp1, h3, h4⟩
    · exact ⟨φ, fr, hp, h3, h2⟩
    · obtain ⟨φ', h5⟩ := h2.weak h3
      exact ⟨φ', fr1, hp1, h4, h5⟩)
theorem CodeOK.parts' {C : Ctx} (hC : EqOK C) (hΓ : GSound C) (hm : C.P.follows .mixedOrders = true) {u m0 : Nat} {X : Code} {K K0 : KC} (hK : ∀ x fr hp, K0 x fr hp → KW m0 (thenK K fun fr hp => CodeOK C.P m0 X fr hp K) x fr hp) :
    ∀ (l : List Code) {fr : List SV} {hp : LHeap}, evalC C u m0 (l.foldr .seq .skip) fr hp K0 → CodeOK C.P m0 (l.foldr .seq X) fr hp (fun x fr hp => K x fr hp ∨ KW m0 K x fr hp)
  | [], fr, hp, h => by
    simp only [List.foldr, evalC] at h ⊢
    obtain ⟨fr1, hp1, h1, h2⟩ := hK _ _ _ h
    exact (CodeOK.pre h1 h2).mono fun x fr hp h => .inl h
  | a :: l, fr, hp, h => by
    simp only [List.foldr, evalC] at h ⊢
    refine CodeOK.seq ((CodeOK.eval hC hΓ hm u h).mono fun x fr hp h => ?_)
    cases x with
    | exit i => exact .inr (hK _ _ _ h)
    | ret => exact .inr (hK _ _ _ h)
    | normal => exact CodeOK.parts' hC hΓ hm hK l h
theorem CodeOK.parts {C : Ctx} (hC : EqOK C) (hΓ : GSound C) (hm : C.P.follows .mixedOrders = true) {u m0 : Nat} {X : Code} {K K0 : KC} (l : List Code) {fr : List SV} {hp : LHeap} (h : evalC C u m0 (l.foldr .seq .skip) fr hp K0)
    (hK : ∀ x fr hp, K0 x fr hp → KW m0 (thenK K fun fr hp => CodeOK C.P m0 X fr hp K) x fr hp) : CodeOK C.P m0 (l.foldr .seq X) fr hp K :=
  (CodeOK.parts' hC hΓ hm hK l h).monoV fun _ _ _ h => h
/-- The same, by templates. -/
theorem CodeOK.front {C : Ctx} (hC : EqOK C) (hΓ : GSound C) (hm : C.P.follows .mixedOrders = true) {u m0 len : Nat} {X : Code} {K : KC} (l : List Code) {fr : List SV} {hp : LHeap} {L : List Nat} {M : List Bool} (hm0 : m0 ≤ M.length) {Q : Ex → List SV → List BO → Prop}
    (h : evalC C u m0 (l.foldr .seq .skip) fr hp (obs L M (seen len M.length Q))) (hK : ∀ x vals B, Q x vals B → thenK K (fun fr hp => CodeOK C.P m0 X fr hp K) x (tplF len L vals) (B.map mkB)) : CodeOK C.P m0 (l.foldr .seq X) fr hp K :=
  CodeOK.parts hC hΓ hm l h fun x fr hp hs => by
    obtain ⟨fr1, hp1, h1, vals, B, rfl, rfl, h2⟩ := obs_kw hm0 x fr hp hs
    exact ⟨_, _, h1, hK x vals B h2⟩
theorem CodeOK.frontN {C : Ctx} (hC : EqOK C) (hΓ : GSound C) (hm : C.P.follows .mixedOrders = true) {u m0 len : Nat} {X : Code} {K : KC} (l : List Code) {fr : List SV} {hp : LHeap} {L : List Nat} {M : List Bool} (hm0 : m0 ≤ M.length) {Q : Ex → List SV → List BO → Prop}
    (h : evalC C u m0 (l.foldr .seq .skip) fr hp (obsN L M (seen len M.length Q))) (hK : ∀ x vals B, Q x vals B → thenK K (fun fr hp => CodeOK C.P m0 X fr hp K) x (tplF len L vals) (B.map mkB)) : CodeOK C.P m0 (l.foldr .seq X) fr hp K :=
  CodeOK.parts hC hΓ hm l h fun x fr hp hs => by
    obtain ⟨fr1, hp1, h1, vals, B, rfl, rfl, h2⟩ := obs_kw hm0 x fr hp (obsN_obs x fr hp hs)
    exact ⟨_, _, h1, hK x vals B h2⟩
theorem CodeOK.st {P : Program} {m0 len : Nat} {c : Code} {fr : List SV} {hp : LHeap} {L : List Nat} {Q : Ex → List SV → List BO → Prop} {K : KC} (h : CodeOK P m0 c fr hp (stK len L Q)) (hK : ∀ x vals B, Q x vals B → K x (tplF len L vals) (B.map mkB)) : CodeOK P m0 c fr hp K :=
  h.mono fun x fr hp ⟨vals, B, h1, h2, h3⟩ => by subst h1 h2; exact hK x vals B h3
theorem resS_tmps {P : Program} {fr : List SV} {h : Heap} : ∀ (L : List Nat), resS P fr h (L.map .tmp) = some (L.map fun i => fr.getD i .top)
  | [] => rfl
  | i :: L => by simp [resS, resS_tmps L]
/-- The end of a function, seen. -/
theorem CodeOK.fin {C : Ctx} (hC : EqOK C) (hΓ : GSound C) (hm : C.P.follows .mixedOrders = true) {u m0 : Nat} {c : Code} {fr : List SV} {hp : LHeap} {L : List Nat} {M : List Bool} {k : SV → List BO → Prop} {k' : KV}
    (h : evalC C u m0 c fr hp (obs L M fun x _ l B => (x = .ret ∨ x = .normal) ∧ k (packS l) B)) (hk : ∀ v hp, k v (obsHs M hp) → k' v hp) : CodeOK C.P m0 c fr hp (endK C.P (L.map .tmp) k') :=
  (CodeOK.eval hC hΓ hm u h).mono fun x fr hp h => by
    obtain ⟨hx, h⟩ := h
    rcases hx with rfl | rfl <;> (simp only [endK, resS_tmps]; exact hk _ _ h)
end Go.Proofs.Ytfhkmagpgbcnjaa
