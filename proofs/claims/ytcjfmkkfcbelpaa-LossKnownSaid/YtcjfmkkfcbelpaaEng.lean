/-
  A small engine for walks: values whose addresses are names; what every operation, every region in every order, every loop and call does, by functions; and that they do.
-/
import Derived.WalkKit
import Derived.Laws.CopyRow
import Derived.Laws.StructEq
import Derived.Laws.Build
import Derived.Deep.AppendLies
import Derived.Orders
import Derived.LoopN
import Derived.KernelRfl
namespace Go.Proofs.Ytcjfmkkfcbelpaa
open Go.RowKit

/-- A value, its blocks by name: a pointer and a slice say the block's name, the row, how many cells a row has. -/
inductive SV where
  | top
  | bool (b : Bool)
  | int (k : IntKind) (n : Int)
  | ptr (id row sz fld : Nat)
  | nilPtr
  | slice (id row sz len : Nat)
  | eslice
  | nilSlice
  | func (fn : Fn) (first captured : List SV)
  | nilFunc
  | agg (l : List SV)
  | tuple (l : List SV)
  | raw (v : Value)
  deriving Inhabited

/-- Where a name's block lies. -/
structure Loc where
  blk : Nat
  off : Nat
  cap : Nat
abbrev Phi := Nat → Option Loc

mutual
/-- What a value stands for. -/
def R (φ : Phi) : SV → Value → Prop
  | .top, _ => True
  | .bool b, v => v = .bool b
  | .int k n, v => v = .int k n
  | .ptr id row sz fld, v => ∃ l, φ id = some l ∧ v = .pointer (some ⟨l.blk, l.off + (row * sz + fld), none⟩)
  | .nilPtr, v => v = .pointer none
  | .slice id row sz len, v => ∃ l, φ id = some l ∧ row + len ≤ l.cap ∧ v = .slice (some ⟨l.blk, l.off + row * sz, none⟩) len (l.cap - row)
  | .eslice, v => ∃ a cap, v = .slice a 0 cap
  | .nilSlice, v => v = .slice none 0 0
  | .func fn a b, v => ∃ x y, RL φ a x ∧ RL φ b y ∧ v = .func fn x.toArray y.toArray
  | .nilFunc, v => v = .nilFunc
  | .agg l, v => ∃ x, RL φ l x ∧ v = .agg x.toArray
  | .tuple l, v => ∃ x, RL φ l x ∧ v = .tuple x.toArray
  | .raw u, v => v = u
def RL (φ : Phi) : List SV → List Value → Prop
  | [], vs => vs = []
  | s :: l, vs => ∃ v r, vs = v :: r ∧ R φ s v ∧ RL φ l r
end

/-- More names are known. -/
def Phi.le (φ ψ : Phi) : Prop := ∀ id l, φ id = some l → ψ id = some l
theorem Phi.le_refl (φ : Phi) : φ.le φ := fun _ _ h => h
theorem Phi.le_trans {a b c : Phi} (h : a.le b) (k : b.le c) : a.le c := fun i l e => k i l (h i l e)

mutual
theorem R.mono {φ ψ : Phi} (h : φ.le ψ) : ∀ {s : SV} {v : Value}, R φ s v → R ψ s v
  | .top, _, _ => by simp [R]
  | .bool _, _, e => by simpa [R] using e
  | .int _ _, _, e => by simpa [R] using e
  | .ptr .., _, e => by
    simp only [R] at e ⊢
    obtain ⟨l, h1, h2⟩ := e
    exact ⟨l, h _ _ h1, h2⟩
  | .nilPtr, _, e => by simpa [R] using e
  | .slice .., _, e => by
    simp only [R] at e ⊢
    obtain ⟨l, h1, h2⟩ := e
    exact ⟨l, h _ _ h1, h2⟩
  | .eslice, _, e => by simpa [R] using e
  | .nilSlice, _, e => by simpa [R] using e
  | .func .., _, e => by
    simp only [R] at e ⊢
    obtain ⟨x, y, h1, h2, h3⟩ := e
    exact ⟨x, y, RL.mono h h1, RL.mono h h2, h3⟩
  | .nilFunc, _, e => by simpa [R] using e
  | .agg _, _, e => by
    simp only [R] at e ⊢
    obtain ⟨x, h1, h3⟩ := e
    exact ⟨x, RL.mono h h1, h3⟩
  | .tuple _, _, e => by
    simp only [R] at e ⊢
    obtain ⟨x, h1, h3⟩ := e
    exact ⟨x, RL.mono h h1, h3⟩
  | .raw _, _, e => by simpa [R] using e
theorem RL.mono {φ ψ : Phi} (h : φ.le ψ) : ∀ {l : List SV} {vs : List Value}, RL φ l vs → RL ψ l vs
  | [], _, e => by simpa [RL] using e
  | _ :: _, _, e => by
    simp only [RL] at e ⊢
    obtain ⟨v, r, h1, h2, h3⟩ := e
    exact ⟨v, r, h1, R.mono h h2, RL.mono h h3⟩
end

theorem RL.length {φ : Phi} : ∀ {l : List SV} {vs : List Value}, RL φ l vs → vs.length = l.length
  | [], _, e => by simp only [RL] at e; simp [e]
  | _ :: _, _, e => by
    simp only [RL] at e
    obtain ⟨v, r, rfl, _, h3⟩ := e
    simp [RL.length h3]
theorem RL.get {φ : Phi} : ∀ {l : List SV} {vs : List Value} {i : Nat} {s : SV}, RL φ l vs → l[i]? = some s → ∃ v, vs[i]? = some v ∧ R φ s v
  | [], _, _, _, _, h => by simp at h
  | a :: l, _, i, s, e, h => by
    simp only [RL] at e
    obtain ⟨v, r, rfl, h2, h3⟩ := e
    cases i with
    | zero => simp at h; subst h; exact ⟨v, by simp, h2⟩
    | succ i => simp at h; obtain ⟨u, hu, hr⟩ := RL.get h3 h; exact ⟨u, by simpa using hu, hr⟩
theorem RL.nil {φ : Phi} : RL φ [] [] := by simp [RL]
theorem RL.cons {φ : Phi} {s : SV} {v : Value} {l : List SV} {vs : List Value} (h : R φ s v) (k : RL φ l vs) : RL φ (s :: l) (v :: vs) := by
  simp only [RL]; exact ⟨v, vs, rfl, h, k⟩
theorem RL.append {φ : Phi} : ∀ {l m : List SV} {vs us : List Value}, RL φ l vs → RL φ m us → RL φ (l ++ m) (vs ++ us)
  | [], _, _, _, e, k => by simp only [RL] at e; subst e; exact k
  | _ :: _, _, _, _, e, k => by
    simp only [RL] at e
    obtain ⟨v, r, rfl, h2, h3⟩ := e
    exact RL.cons h2 (RL.append h3 k)
theorem RL.take {φ : Phi} : ∀ {l : List SV} {vs : List Value} (n : Nat), RL φ l vs → RL φ (l.take n) (vs.take n)
  | _, _, 0, _ => by simp [RL]
  | [], _, n + 1, e => by simp only [RL] at e; subst e; simp [RL]
  | _ :: _, _, n + 1, e => by
    simp only [RL] at e
    obtain ⟨v, r, rfl, h2, h3⟩ := e
    exact RL.cons h2 (RL.take n h3)
theorem RL.drop {φ : Phi} : ∀ {l : List SV} {vs : List Value} (n : Nat), RL φ l vs → RL φ (l.drop n) (vs.drop n)
  | _, _, 0, e => e
  | [], _, n + 1, e => by simp only [RL] at e; subst e; simp [RL]
  | _ :: _, _, n + 1, e => by
    simp only [RL] at e
    obtain ⟨v, r, rfl, h2, h3⟩ := e
    exact RL.drop n h3
theorem RL.set {φ : Phi} : ∀ {l : List SV} {vs : List Value} (n : Nat) {s : SV} {v : Value}, RL φ l vs → R φ s v → RL φ (l.set n s) (vs.set n v)
  | [], _, _, _, _, e, _ => by simp only [RL] at e; subst e; simp [RL]
  | _ :: _, _, 0, _, _, e, k => by
    simp only [RL] at e
    obtain ⟨u, r, rfl, h2, h3⟩ := e
    exact RL.cons k h3
  | _ :: _, _, n + 1, _, _, e, k => by
    simp only [RL] at e
    obtain ⟨u, r, rfl, h2, h3⟩ := e
    exact RL.cons h2 (RL.set n h3 k)
theorem RL.replicate {φ : Phi} (n : Nat) (v : Value) : RL φ (List.replicate n .top) (List.replicate n v) := by
  induction n with
  | zero => simp [RL]
  | succ n ih => exact RL.cons (by simp [R]) ih
theorem RL.of_get {φ : Phi} : ∀ {l : List SV} {vs : List Value}, vs.length = l.length → (∀ (i : Nat) (s : SV) (v : Value), l[i]? = some s → vs[i]? = some v → R φ s v) → RL φ l vs
  | [], vs, h, _ => by simp at h; subst h; simp [RL]
  | a :: l, [], h, _ => by simp at h
  | a :: l, v :: vs, h, k => RL.cons (k 0 a v (by simp) (by simp)) (RL.of_get (by simpa using h) (fun i s u h1 h2 => k (i + 1) s u (by simpa using h1) (by simpa using h2)))

/-- A value of the program's own text. -/
def ofCell : Value → SV
  | .bool b => .bool b
  | .int k n => .int k n
  | .pointer none => .nilPtr
  | .slice none 0 0 => .nilSlice
  | .nilFunc => .nilFunc
  | v => .raw v
def ofValue : Value → SV
  | .agg cs => .agg (cs.toList.map ofCell)
  | v => ofCell v
theorem R_ofCell (φ : Phi) (v : Value) : R φ (ofCell v) v := by
  unfold ofCell; split <;> simp [R]
theorem RL_ofCells (φ : Phi) : ∀ l : List Value, RL φ (l.map ofCell) l
  | [] => by simp [RL]
  | v :: l => RL.cons (R_ofCell φ v) (RL_ofCells φ l)
theorem R_ofValue (φ : Phi) (v : Value) : R φ (ofValue v) v := by
  unfold ofValue; split
  · simp only [R]; exact ⟨_, RL_ofCells φ _, rfl⟩
  · exact R_ofCell φ v

/-- The cells of a value. -/
def SV.cells : SV → List SV
  | .agg l => l
  | s => [s]
def SV.cellsOk : SV → Bool
  | .top => false
  | .tuple _ => false
  | .raw v => v.oneCell'
  | _ => true
theorem R.cells {φ : Phi} {s : SV} {v : Value} (h : R φ s v) (hk : s.cellsOk = true) : RL φ s.cells v.cells.toList := by
  cases s <;> simp [SV.cellsOk] at hk <;> simp only [R] at h
  case agg l => obtain ⟨x, h1, rfl⟩ := h; simpa [SV.cells, Value.cells] using h1
  case ptr => obtain ⟨l, h1, rfl⟩ := h; exact RL.cons (by simp only [R]; exact ⟨l, h1, rfl⟩) RL.nil
  case slice => obtain ⟨l, h1, h2, rfl⟩ := h; exact RL.cons (by simp only [R]; exact ⟨l, h1, h2, rfl⟩) RL.nil
  case raw u => subst h; cases v <;> first | exact RL.cons (by simp [R]) RL.nil | (simp [Value.oneCell'] at hk)
  case eslice => obtain ⟨a, c, rfl⟩ := h; exact RL.cons (by simp only [R]; exact ⟨a, c, rfl⟩) RL.nil
  case func => obtain ⟨x, y, h1, h2, rfl⟩ := h; exact RL.cons (by simp only [R]; exact ⟨x, y, h1, h2, rfl⟩) RL.nil
  all_goals subst h; exact RL.cons (by simp [R]) RL.nil


/-- A block: rows of so many cells; may it be written? -/
structure Blk where
  sz : Nat
  n : Nat
  rd : Nat → List SV
  rw : Bool
  ty : TypeId

abbrev Heap := Nat → Option Blk

/-- The block lies there. -/
def BAt (φ : Phi) (l : Loc) (b : Blk) (w : World) : Prop :=
  ∃ cells ty fz, w.heap[l.blk]? = some (.cells cells ty fz) ∧ (b.rw = true → ty = b.ty ∧ l.off = 0 ∧ fz = (0, 0) ∧ cells.size = l.cap * b.sz ∧ b.n ≤ l.cap ∧ l.cap ≤ maxLen) ∧
    ∀ r, r < b.n → RL φ (b.rd r) ((cells.toList.drop (l.off + r * b.sz)).take b.sz) ∧ (b.rd r).length = b.sz

theorem BAt.mono {φ ψ : Phi} (h : φ.le ψ) {l : Loc} {b : Blk} {w : World} (k : BAt φ l b w) : BAt ψ l b w := by
  obtain ⟨cells, ty, fz, h1, h2, h3⟩ := k
  exact ⟨cells, ty, fz, h1, h2, fun r hr => ⟨(h3 r hr).1.mono h, (h3 r hr).2⟩⟩
theorem BAt.same {φ : Phi} {l : Loc} {b : Blk} {w w' : World} (k : BAt φ l b w) (h : w'.heap[l.blk]? = w.heap[l.blk]?) : BAt φ l b w' := by
  obtain ⟨cells, ty, fz, h1, h2, h3⟩ := k
  exact ⟨cells, ty, fz, h.trans h1, h2, h3⟩
theorem BAt.lt {φ : Phi} {l : Loc} {b : Blk} {w : World} (k : BAt φ l b w) : l.blk < w.heap.size := by
  obtain ⟨cells, ty, fz, h1, _⟩ := k
  exact (Array.getElem?_eq_some_iff.1 h1).1

/-- What stays: the world at the beginning, which of its blocks may be written, the names at the beginning, how many. -/
structure Gh where
  w0 : World
  S : Nat → Prop
  φ0 : Phi
  m0 : Nat

/-- The world holds the blocks by their names. -/
structure HRep (g : Gh) (φ : Phi) (h : Heap) (w : World) : Prop where
  blk : ∀ id b, h id = some b → ∃ l, φ id = some l ∧ BAt φ l b w
  sep : ∀ i j bi bj li lj, h i = some bi → h j = some bj → i ≠ j → bi.rw = true → φ i = some li → φ j = some lj → li.blk ≠ lj.blk
  own : ∀ id b l, h id = some b → b.rw = true → φ id = some l → g.S l.blk ∨ g.w0.heap.size ≤ l.blk
  os : w.os = g.w0.os
  tape : w.tape = g.w0.tape
  output : w.output = g.w0.output
  size : g.w0.heap.size ≤ w.heap.size
  old : ∀ k, k < g.w0.heap.size → ¬ g.S k → w.heap[k]? = g.w0.heap[k]?
  ids : ∀ id, id < g.m0 → φ id = g.φ0 id

theorem HRep.drew {g : Gh} {φ : Phi} {h : Heap} {w : World} (k : HRep g φ h w) : HRep g φ h { w with drawn := w.drawn + 1 } :=
  ⟨fun id b e => let ⟨l, h1, h2⟩ := k.blk id b e; ⟨l, h1, h2.same rfl⟩, k.sep, k.own, k.os, k.tape, k.output, k.size, k.old, k.ids⟩

/-- One name more. -/
def Phi.put (φ : Phi) (id : Nat) (l : Loc) : Phi := fun i => if i = id then some l else φ i
theorem Phi.le_put {φ : Phi} {id : Nat} {l : Loc} (h : φ id = none) : φ.le (φ.put id l) := by
  intro i m e
  unfold Phi.put
  split
  · rename_i hi; subst hi; simp [h] at e
  · exact e
theorem Phi.put_same (φ : Phi) (id : Nat) (l : Loc) : φ.put id l id = some l := by simp [Phi.put]
def Heap.put (h : Heap) (id : Nat) (b : Option Blk) : Heap := fun i => if i = id then b else h i
theorem Heap.put_same (h : Heap) (id : Nat) (b : Option Blk) : h.put id b id = b := by simp [Heap.put]
theorem Heap.put_ne (h : Heap) {id i : Nat} (b : Option Blk) (hi : i ≠ id) : h.put id b i = h i := by simp [Heap.put, hi]

/-- A new block. -/
theorem HRep.alloc {g : Gh} {φ : Phi} {h : Heap} {w : World} (k : HRep g φ h w) {id : Nat} (hid : φ id = none) (hm : g.m0 ≤ id) (b : Blk) (cells : Array Value) (ty : TypeId) (hty : ty = b.ty)
    (hsz : cells.size = b.n * b.sz) (hmx : b.n ≤ maxLen) (hr : ∀ r, r < b.n → RL φ (b.rd r) ((cells.toList.drop (r * b.sz)).take b.sz) ∧ (b.rd r).length = b.sz) :
    HRep g (φ.put id ⟨w.heap.size, 0, b.n⟩) (h.put id (some b)) (w.alloc (.cells cells ty)) := by
  have hle : φ.le (φ.put id ⟨w.heap.size, 0, b.n⟩) := Phi.le_put hid
  have hold : ∀ k, k < w.heap.size → (w.alloc (.cells cells ty)).heap[k]? = w.heap[k]? := fun k hk => by
    simp only [World.alloc, Array.getElem?_push]; rw [if_neg (by omega)]
  have hnew : (w.alloc (.cells cells ty)).heap[w.heap.size]? = some (.cells cells ty (0, 0)) := by
    show (w.heap.push _)[w.heap.size]? = _
    simp
  refine ⟨fun i c e => ?_, fun i j bi bj li lj hi hj hne hrw pi pj => ?_, fun i c l e hrw hp => ?_, k.os, k.tape, k.output, ?_, fun i hi hs => ?_, fun i hi => ?_⟩
  · by_cases hi : i = id
    · subst hi
      rw [Heap.put_same] at e
      cases e
      refine ⟨_, Phi.put_same _ _ _, cells, ty, (0, 0), hnew, fun _ => ⟨hty, rfl, rfl, hsz, Nat.le_refl _, hmx⟩, fun r hr' => ?_⟩
      have := hr r hr'
      simp only [Nat.zero_add]
      exact ⟨this.1.mono hle, this.2⟩
    · rw [Heap.put_ne _ _ hi] at e
      obtain ⟨l, h1, h2⟩ := k.blk i c e
      exact ⟨l, hle _ _ h1, (h2.mono hle).same (hold _ h2.lt)⟩
  · have key : ∀ x bx lx, x ≠ id → h.put id (some b) x = some bx → φ.put id ⟨w.heap.size, 0, b.n⟩ x = some lx → φ x = some lx ∧ h x = some bx ∧ lx.blk < w.heap.size := by
      intro x bx lx hx e1 e2
      rw [Heap.put_ne _ _ hx] at e1
      unfold Phi.put at e2
      rw [if_neg hx] at e2
      obtain ⟨l, h1, h2⟩ := k.blk x bx e1
      have : l = lx := by rw [h1] at e2; simpa using e2
      exact ⟨e2, e1, this ▸ h2.lt⟩
    by_cases hi' : i = id
    · subst hi'
      have := (key j bj lj (Ne.symm hne) hj pj).2.2
      rw [Phi.put_same] at pi
      cases pi
      dsimp only; omega
    · by_cases hj' : j = id
      · subst hj'
        have := (key i bi li hi' hi pi).2.2
        rw [Phi.put_same] at pj
        cases pj
        dsimp only; omega
      · obtain ⟨a1, a2, _⟩ := key i bi li hi' hi pi
        obtain ⟨b1, b2, _⟩ := key j bj lj hj' hj pj
        exact k.sep i j bi bj li lj a2 b2 hne hrw a1 b1
  · by_cases hi : i = id
    · subst hi
      rw [Phi.put_same] at hp
      cases hp
      exact .inr k.size
    · rw [Heap.put_ne _ _ hi] at e
      unfold Phi.put at hp
      rw [if_neg hi] at hp
      exact k.own i c l e hrw hp
  · have := k.size; simp; omega
  · rw [hold i (Nat.lt_of_lt_of_le hi k.size)]; exact k.old i hi hs
  · unfold Phi.put
    rw [if_neg (by omega)]
    exact k.ids i hi

/-- A name is forgotten. -/
theorem HRep.forget {g : Gh} {φ : Phi} {h : Heap} {w : World} (k : HRep g φ h w) (h' : Heap) (hh : ∀ i b, h' i = some b → h i = some b) : HRep g φ h' w :=
  ⟨fun id b e => k.blk id b (hh _ _ e), fun i j bi bj li lj hi hj => k.sep i j bi bj li lj (hh _ _ hi) (hh _ _ hj), fun id b l e => k.own id b l (hh _ _ e), k.os, k.tape, k.output, k.size, k.old, k.ids⟩

/-- One block is written. -/
theorem HRep.write {g : Gh} {φ : Phi} {h : Heap} {w w' : World} (k : HRep g φ h w) {id : Nat} {b b' : Blk} {l : Loc} (hb : h id = some b) (hrw : b.rw = true) (hl : φ id = some l)
    (hrw' : b'.rw = true) (hb' : BAt φ l b' w') (hot : ∀ i, i ≠ l.blk → w'.heap[i]? = w.heap[i]?) (hs : w'.heap.size = w.heap.size) (ho : w'.os = w.os) (ht : w'.tape = w.tape) (hu : w'.output = w.output) :
    HRep g φ (h.put id (some b')) w' := by
  have key : ∀ x bx, h.put id (some b') x = some bx → ∃ cx, h x = some cx ∧ cx.rw = bx.rw := by
    intro x bx e
    by_cases hx : x = id
    · subst hx; rw [Heap.put_same] at e; cases e; exact ⟨b, hb, by rw [hrw, hrw']⟩
    · rw [Heap.put_ne _ _ hx] at e; exact ⟨bx, e, rfl⟩
  refine ⟨fun i c e => ?_, fun i j bi bj li lj hi hj hne hr pi pj => ?_, fun i c l' e hr hp => ?_, ho.trans k.os, ht.trans k.tape, hu.trans k.output, by rw [hs]; exact k.size, fun i hi hS => ?_, k.ids⟩
  · by_cases hi : i = id
    · subst hi; rw [Heap.put_same] at e; cases e; exact ⟨l, hl, hb'⟩
    · rw [Heap.put_ne _ _ hi] at e
      obtain ⟨li, h1, h2⟩ := k.blk i c e
      exact ⟨li, h1, h2.same (hot _ (Ne.symm (k.sep id i b c l li hb e (Ne.symm hi) hrw hl h1)))⟩
  · obtain ⟨ci, e1, e2⟩ := key i bi hi
    obtain ⟨cj, e3, e4⟩ := key j bj hj
    exact k.sep i j ci cj li lj e1 e3 hne (by rw [e2]; exact hr) pi pj
  · obtain ⟨ci, e1, e2⟩ := key i c e
    exact k.own i ci l' e1 (by rw [e2]; exact hr) hp
  · rw [hot i, k.old i hi hS]
    rintro rfl
    rcases k.own id b l hb hrw hl with h1 | h1
    · exact hS h1
    · omega

/-- A list, in which some elements are others. -/
def splice {α : Type} (c : List α) (o : Nat) (vs : List α) : List α := c.take o ++ vs ++ c.drop (o + vs.length)
theorem splice_get {α : Type} (c : List α) (o : Nat) (vs : List α) (h : o + vs.length ≤ c.length) (k : Nat) :
    (splice c o vs)[k]? = if k < o then c[k]? else if k < o + vs.length then vs[k - o]? else c[k]? := by
  unfold splice
  have h1 : (c.take o).length = o := by simp; omega
  by_cases hk : k < o
  · rw [if_pos hk, List.append_assoc, List.getElem?_append_left (by omega), List.getElem?_take, if_pos hk]
  · rw [if_neg hk, List.append_assoc, List.getElem?_append_right (by omega), h1]
    by_cases hk2 : k < o + vs.length
    · rw [if_pos hk2, List.getElem?_append_left (by omega)]
    · rw [if_neg hk2, List.getElem?_append_right (by omega), List.getElem?_drop]
      congr 1; omega
theorem splice_length {α : Type} (c : List α) (o : Nat) (vs : List α) (h : o + vs.length ≤ c.length) : (splice c o vs).length = c.length := by
  unfold splice; simp; omega
theorem RL.splice {φ : Phi} {l : List SV} {vs : List Value} (h : RL φ l vs) {m : List SV} {us : List Value} (k : RL φ m us) (o : Nat) : RL φ (splice l o m) (splice vs o us) := by
  unfold Go.Proofs.Ytcjfmkkfcbelpaa.splice
  have := k.length
  rw [this]
  exact ((h.take o).append k).append (h.drop _)
theorem seg_get {α : Type} (c : List α) (o n k : Nat) : ((c.drop o).take n)[k]? = if k < n then c[o + k]? else none := by
  rw [List.getElem?_take]; split <;> simp
/-- The row that is written. -/
theorem seg_splice_in {α : Type} (c : List α) (o n f : Nat) (vs : List α) (h1 : f + vs.length ≤ n) (h2 : o + n ≤ c.length) :
    ((splice c (o + f) vs).drop o).take n = splice ((c.drop o).take n) f vs := by
  apply List.ext_getElem?
  intro k
  rw [seg_get, splice_get _ _ _ (by omega), splice_get _ _ _ (by simp; omega), seg_get]
  by_cases hk : k < n
  · rw [if_pos hk, if_pos hk]
    by_cases a : k < f
    · rw [if_pos (by omega), if_pos a]
    · rw [if_neg (by omega), if_neg a]
      by_cases b : k < f + vs.length
      · rw [if_pos (by omega), if_pos b]; congr 1; omega
      · rw [if_neg (by omega), if_neg b]
  · rw [if_neg hk, if_neg hk, if_neg (by omega), if_neg (by omega)]
/-- A row that is not. -/
theorem seg_splice_out {α : Type} (c : List α) (o n p : Nat) (vs : List α) (h : p + vs.length ≤ c.length) (h1 : o + n ≤ p ∨ p + vs.length ≤ o) :
    ((splice c p vs).drop o).take n = (c.drop o).take n := by
  apply List.ext_getElem?
  intro k
  rw [seg_get, seg_get, splice_get _ _ _ h]
  by_cases hk : k < n
  · rw [if_pos hk, if_pos hk]
    by_cases a : o + k < p
    · rw [if_pos a]
    · rw [if_neg a, if_neg (by omega)]
  · rw [if_neg hk, if_neg hk]

/-- One value that can lie in a cell. -/
def SV.one : SV → Bool
  | .bool _ | .int _ _ | .ptr .. | .nilPtr | .slice .. | .eslice | .nilSlice | .func .. | .nilFunc => true
  | .raw v => v.oneCell'
  | _ => false
theorem R.one {φ : Phi} {s : SV} {v : Value} (h : R φ s v) (hs : s.one = true) : v.oneCell' = true := by
  cases s <;> simp only [SV.one] at hs <;> simp only [R] at h
  case bool => subst h; rfl
  case int => subst h; rfl
  case ptr => obtain ⟨l, _, rfl⟩ := h; rfl
  case nilPtr => subst h; rfl
  case slice => obtain ⟨l, _, _, rfl⟩ := h; rfl
  case eslice => obtain ⟨a, c, rfl⟩ := h; rfl
  case nilSlice => subst h; rfl
  case func => obtain ⟨x, y, _, _, rfl⟩ := h; rfl
  case nilFunc => subst h; rfl
  case raw => subst h; exact hs
  all_goals simp at hs
theorem RL.ones {φ : Phi} : ∀ {l : List SV} {vs : List Value}, RL φ l vs → l.all SV.one = true → ∀ v ∈ vs, v.oneCell' = true
  | [], _, e, _, v, hv => by simp only [RL] at e; subst e; simp at hv
  | a :: l, _, e, k, v, hv => by
    simp only [RL] at e
    obtain ⟨u, r, rfl, h2, h3⟩ := e
    simp only [List.all_cons, Bool.and_eq_true] at k
    rcases List.mem_cons.1 hv with rfl | hv
    · exact h2.one k.1
    · exact RL.ones h3 k.2 v hv

/-- A row, of which some cells are others. -/
def Blk.store (b : Blk) (row fld : Nat) (cs : List SV) : Blk := { b with rd := fun r => bif Nat.beq r row then splice (b.rd row) fld cs else b.rd r }

theorem mul_lt_seg {r row sz : Nat} (h : r ≠ row) : r * sz + sz ≤ row * sz ∨ row * sz + sz ≤ r * sz := by
  rcases Nat.lt_or_gt_of_ne h with h | h
  · left; have := Nat.mul_le_mul_right sz (Nat.succ_le_of_lt h); simpa [Nat.succ_mul] using this
  · right; have := Nat.mul_le_mul_right sz (Nat.succ_le_of_lt h); simpa [Nat.succ_mul] using this
theorem seg_le {r n sz : Nat} (h : r < n) : r * sz + sz ≤ n * sz := by
  have := Nat.mul_le_mul_right sz (Nat.succ_le_of_lt h); simpa [Nat.succ_mul] using this

/-- Cells are stored. -/
theorem HRep.store {g : Gh} {φ : Phi} {h : Heap} {w : World} {P : Program} (k : HRep g φ h w) {id : Nat} {b : Blk} {l : Loc} (hb : h id = some b) (hrw : b.rw = true) (hl : φ id = some l)
    {row fld : Nat} (hrow : row < b.n) {cs : List SV} {vs : List Value} (hcs : RL φ cs vs) (hone : cs.all SV.one = true) (hf : fld + cs.length ≤ b.sz) :
    ∃ w', (storeCells ⟨l.blk, l.off + (row * b.sz + fld), none⟩ vs).run P w = .ok () w' ∧ HRep g φ (h.put id (some (b.store row fld cs))) w' := by
  obtain ⟨l', hl', cells, ty, fz, h1, h2, h3⟩ := k.blk id b hb
  obtain rfl : l' = l := by rw [hl] at hl'; simpa using hl'.symm
  obtain ⟨hty, hoff, rfl, hcap, hn, hmx⟩ := h2 hrw
  have hlen := hcs.length
  have hrs := seg_le (sz := b.sz) (Nat.lt_of_lt_of_le hrow hn)
  have hfit : l'.off + (row * b.sz + fld) + 0 + vs.length ≤ cells.size := by rw [hoff]; omega
  refine ⟨_, run_storeCells_at P l'.blk (l'.off + (row * b.sz + fld)) ty vs 0 cells w h1 hfit (hcs.ones hone), ?_⟩
  simp only [Nat.add_zero]
  have hheap : ∀ i, (w.setRow l'.blk (splice cells.toList (l'.off + (row * b.sz + fld)) vs).toArray).heap[i]? = if i = l'.blk then some (.cells (splice cells.toList (l'.off + (row * b.sz + fld)) vs).toArray ty (0, 0)) else w.heap[i]? := by
    intro i
    by_cases hi : i = l'.blk
    · subst hi; rw [if_pos rfl]; exact setRow_heap w _ cells _ ty _ h1
    · rw [if_neg hi]; simp only [World.setRow, Array.getElem?_modify]; rw [if_neg (Ne.symm hi)]
  have hsp : (splice cells.toList (l'.off + (row * b.sz + fld)) vs).length = cells.size := by rw [splice_length _ _ _ (by simpa using hfit)]; simp
  refine k.write hb hrw hl (b' := b.store row fld cs) hrw ⟨(splice cells.toList (l'.off + (row * b.sz + fld)) vs).toArray, ty, (0, 0), (hheap _).trans (if_pos rfl), fun _ => ⟨hty, hoff, rfl, by simpa [hsp, Blk.store] using hcap, hn, hmx⟩, fun r hr => ?_⟩ (fun i hi => (hheap i).trans (if_neg hi)) (by simp [World.setRow]) rfl rfl rfl
  simp only [Blk.store] at hr ⊢
  by_cases hrr : r = row
  · subst hrr
    obtain ⟨q1, q2⟩ := h3 r hr
    have : l'.off + (r * b.sz + fld) = (l'.off + r * b.sz) + fld := by omega
    rw [this, show Nat.beq r r = true from Nat.beq_refl r, cond_true, seg_splice_in _ _ _ _ _ (by omega) (by simp; omega)]
    exact ⟨q1.splice hcs fld, by rw [splice_length _ _ _ (by omega)]; exact q2⟩
  · obtain ⟨q1, q2⟩ := h3 r hr
    have hbeq : Nat.beq r row = false := by cases hc : Nat.beq r row with
      | false => rfl
      | true => exact absurd (Nat.eq_of_beq_eq_true hc) hrr
    rw [hbeq, cond_false]
    refine ⟨?_, q2⟩
    rw [seg_splice_out _ _ _ _ _ (by simpa using hfit) (by have := mul_lt_seg (sz := b.sz) hrr; omega)]
    exact q1


abbrev Wr := List (Nat × Option Blk)
def lk : Wr → Nat → Option (Option Blk)
  | [], _ => none
  | (i, b) :: l, id => if id = i then some b else lk l id
/-- The heap behind an operation. -/
def updH (h : Heap) (base : Nat) (wr : Wr) (news : List Blk) : Heap :=
  fun id => if base ≤ id ∧ id < base + news.length then news[id - base]? else (lk wr id).getD (h id)

theorem updH_nil (h : Heap) (base : Nat) : updH h base [] [] = h := by
  funext id; unfold updH; rw [if_neg (by simp)]; rfl
theorem updH_new (h : Heap) (base : Nat) (b : Blk) : updH h base [] [b] = h.put base (some b) := by
  funext id; unfold updH Heap.put
  by_cases hi : id = base
  · subst hi; simp
  · rw [if_neg (by simp; omega), if_neg hi]; rfl
theorem updH_wr (h : Heap) (base id : Nat) (b : Option Blk) : updH h base [(id, b)] [] = h.put id b := by
  funext i; unfold updH Heap.put
  rw [if_neg (by simp)]
  simp only [lk]
  by_cases hi : i = id <;> simp [hi]

/-- What the walks lean on: the program, the contracts of functions, the types that can be compared. -/
structure Ctx where
  P : Program
  Γ : FuncId → List SV → Heap → Nat → (SV → Wr → List Blk → Prop) → Prop
  eqOk : TypeId → Bool

def zeroOf (P : Program) (t : TypeId) : Option Value := (P.info? t).bind (·.zero)
def aggOf (P : Program) (t : TypeId) : Bool := match P.underlying t with | some (.struct _) | some (.array _ _) => true | _ => false

theorem run_isAgg {P : Program} {t : TypeId} {d : TypeDesc} (h : P.underlying t = some d) (w : World) : (isAgg t).run P w = .ok (aggOf P t) w := by
  unfold isAgg aggOf
  simp only [Sem.run_bind, run_underlying h, Result.andThen_ok, h]
  cases d <;> rfl
theorem run_sizeOf' {P : Program} {t : TypeId} {i : TypeInfo} (h : P.info? t = some i) (w : World) : (sizeOf t).run P w = .ok i.size w := by
  simp [sizeOf, typeInfo, h]
theorem run_zeroValue' {P : Program} {t : TypeId} {v : Value} (h : zeroOf P t = some v) (w : World) : (zeroValue t).run P w = .ok v w := by
  unfold zeroOf at h
  cases hi : P.info? t with
  | none => simp [hi] at h
  | some i => simp [hi] at h; simp [zeroValue, typeInfo, hi, h]

/-- What an operation comes to, in every world that holds what it looks at. -/
def OpOK (P : Program) (o : Oper) (e : Operand → SV) (h : Heap) (base : Nat) (v : SV) (wr : Wr) (news : List Blk) (tch : List Nat) : Prop :=
  ∀ (g : Gh) (φ : Phi) (h2 : Heap) (a : Act) (w : World) (K : Act → World → Prop) (Q : Exit → Act → World → Prop),
    HRep g φ h2 w → (∀ x ∈ o.op.operands.toList, R φ (e x) (a.eval x)) → (∀ id ∈ tch, h2 id = h id) →
    (∀ i, i < news.length → φ (base + i) = none ∧ h2 (base + i) = none) → g.m0 ≤ base →
    (∀ (φ' : Phi) (u : Value) (w' : World), HRep g φ' (updH h2 base wr news) w' → φ.le φ' → (∀ id, φ' id = φ id ∨ (base ≤ id ∧ id < base + news.length)) → R φ' v u → K (a.put o.dst u) w') →
    o.wp P a w K Q

/-- An operation that only reckons, or reads. -/
theorem OpOK.value {P : Program} {o : Oper} {e : Operand → SV} {h : Heap} {base : Nat} {v : SV} {tch : List Nat}
    (hx : ∀ (g : Gh) (φ : Phi) (h2 : Heap) (a : Act) (w : World), HRep g φ h2 w → (∀ x ∈ o.op.operands.toList, R φ (e x) (a.eval x)) → (∀ id ∈ tch, h2 id = h id) →
      ∃ u, (execOp a.eval o).run P w = .ok (.value u) w ∧ R φ v u) : OpOK P o e h base v [] [] tch := by
  intro g φ h2 a w K Q hr ho ht _ _ hk
  obtain ⟨u, h1, h2'⟩ := hx g φ h2 a w hr ho ht
  unfold Oper.wp
  rw [h1, Oper.upon_value]
  exact hk φ u w (by rw [updH_nil]; exact hr) (Phi.le_refl φ) (fun _ => .inl rfl) h2'

/-- The value of an operand. -/
def evalO (fr : List SV) : Operand → SV
  | .tmp t => fr.getD t .top
  | .const v => ofValue v
  | .func f => .func (.func f) [] []
  | .global _ => .top
theorem evalO_R {φ : Phi} {fr : List SV} {a : Act} (h : RL φ fr a.tmps.toList) (x : Operand) : R φ (evalO fr x) (a.eval x) := by
  cases x with
  | tmp t =>
    simp only [evalO, Act.eval]
    cases hs : fr[t]? with
    | none => rw [List.getD, hs]; simp [R]
    | some s =>
      obtain ⟨v, hv, hr⟩ := h.get hs
      rw [List.getD, hs]
      simp only [Array.getElem?_toList] at hv
      simp [hv]
      exact hr
  | const v => exact R_ofValue φ v
  | func f => simp only [evalO, R, Act.eval]; exact ⟨[], [], RL.nil, RL.nil, rfl⟩
  | global g => simp [evalO, R]

abbrev KO := SV → Wr → List Blk → List Nat → Prop

/-! ### Numbers -/
def bitI (op : BinOp) (k : IntKind) (x y : Int) : Int :=
  let a := BitVec.ofInt k.bits x
  let b := BitVec.ofInt k.bits y
  match op with
  | .and => k.wrap (a &&& b).toNat
  | .or => k.wrap (a ||| b).toNat
  | .xor => k.wrap (a ^^^ b).toNat
  | _ => k.wrap (a &&& ~~~b).toNat
def intBin (op : BinOp) (k : IntKind) (a b : Int) (K : SV → Prop) : Prop :=
  match op with
  | .add => K (.int k (k.wrap (a + b)))
  | .sub => K (.int k (k.wrap (a - b)))
  | .mul => K (.int k (k.wrap (a * b)))
  | .quo => bif b == 0 then False else K (.int k (k.wrap (a.tdiv b)))
  | .rem => bif b == 0 then False else K (.int k (a.tmod b))
  | .and => K (.int k (bitI .and k a b))
  | .or => K (.int k (bitI .or k a b))
  | .xor => K (.int k (bitI .xor k a b))
  | .andNot => K (.int k (bitI .andNot k a b))
  | .eql => K (.bool (a == b))
  | .neq => K (.bool (a != b))
  | .lss => K (.bool (decide (a < b)))
  | .leq => K (.bool (decide (a ≤ b)))
  | .gtr => K (.bool (decide (b < a)))
  | .geq => K (.bool (decide (b ≤ a)))
  | .shl => bif decide (b < 0) then False else K (.int k (k.wrap (a * 2 ^ (min b.toNat k.bits))))
  | .shr => bif decide (b < 0) then False else K (.int k (a.fdiv (2 ^ (min b.toNat k.bits))))

theorem intBin_ok {op : BinOp} {k k' : IntKind} {a b : Int} {K : SV → Prop} (P : Program) (t : TypeId) (hk : k = k' ∨ op = .shl ∨ op = .shr) (h : intBin op k a b K) :
    ∃ v u, K v ∧ (∀ w, (binOp op t (.int k a) (.int k' b)).run P w = .ok u w) ∧ ∀ φ, R φ v u := by
  have hk' : (op = .shl ∨ op = .shr) ∨ k = k' := by rcases hk with h | h; exact .inr h; exact .inl h
  cases op <;> simp only [intBin] at h
  case quo =>
    obtain rfl : k = k' := by simpa using hk
    cases hb : (b == 0) with
    | true => simp [hb] at h
    | false =>
      simp only [hb, cond_false] at h
      have hb' : ¬ b = 0 := by simpa using hb
      exact ⟨_, _, h, fun w => by simp [binOp, Op.intDiv, hb']; rfl, fun φ => by simp [R]⟩
  case rem =>
    obtain rfl : k = k' := by simpa using hk
    cases hb : (b == 0) with
    | true => simp [hb] at h
    | false =>
      simp only [hb, cond_false] at h
      have hb' : ¬ b = 0 := by simpa using hb
      exact ⟨_, _, h, fun w => by simp [binOp, Op.intDiv, hb']; rfl, fun φ => by simp [R]⟩
  case shl =>
    cases hb : decide (b < 0) with
    | true => simp [hb] at h
    | false =>
      simp only [hb, cond_false] at h
      have hb' : ¬ b < 0 := by simpa using hb
      exact ⟨_, _, h, fun w => by simp [binOp, Op.shift, hb']; rfl, fun φ => by simp [R]⟩
  case shr =>
    cases hb : decide (b < 0) with
    | true => simp [hb] at h
    | false =>
      simp only [hb, cond_false] at h
      have hb' : ¬ b < 0 := by simpa using hb
      exact ⟨_, _, h, fun w => by simp [binOp, Op.shift, hb']; rfl, fun φ => by simp [R]⟩
  all_goals
    obtain rfl : k = k' := by simpa using hk
    exact ⟨_, _, h, fun w => by simp [binOp, Op.intArith, Op.intCmp, Op.intBits]; rfl, fun φ => by simp [R, bitI]⟩

/-! ### Parts of values -/
def partS (P : Program) (t : TypeId) (cs : List SV) (off : Nat) : Option SV :=
  match P.underlying t, P.info? t with
  | some _, some i =>
    bif aggOf P t then some (.agg ((cs.drop off).take i.size))
    else cs[off]?
  | _, _ => none
theorem partS_ok {P : Program} {t : TypeId} {cs : List SV} {off : Nat} {s : SV} (h : partS P t cs off = some s) {φ : Phi} {vs : List Value} (hr : RL φ cs vs) (w : World) :
    ∃ u, (part t vs.toArray off).run P w = .ok u w ∧ R φ s u := by
  unfold partS at h
  split at h
  · rename_i d i hd hi
    cases ha : aggOf P t with
    | true =>
      simp only [ha, cond_true, Option.some.injEq] at h
      subst h
      refine ⟨.agg (vs.toArray.extract off (off + i.size)), by simp [part, run_isAgg hd, ha, run_sizeOf' hi], ?_⟩
      simp only [R]
      refine ⟨_, (hr.drop off).take i.size, ?_⟩
      congr 1
      apply Array.ext'
      simp [List.extract_eq_take_drop]
    | false =>
      simp only [ha, cond_false] at h
      obtain ⟨v, h1, h2⟩ := hr.get h
      exact ⟨v, by simp [part, run_isAgg hd, ha, h1], h2⟩
  · cases h

/-! ### Equal -/
def eqF (P : Program) (eq : TypeId → SV → SV → Option Bool) (xs ys : List SV) : List Field → Option Bool
  | [] => some true
  | f :: fs =>
    match partS P f.type xs f.offset, partS P f.type ys f.offset with
    | some a, some b =>
      match eq f.type a b, eqF P eq xs ys fs with
      | some r, some s => some (r && s)
      | _, _ => none
    | _, _ => none
def eqA (P : Program) (eq : TypeId → SV → SV → Option Bool) (e : TypeId) (n : Nat) (xs ys : List SV) (i : Nat) : Nat → Option Bool
  | 0 => some true
  | k + 1 =>
    match partS P e xs (i * n), partS P e ys (i * n) with
    | some a, some b =>
      match eq e a b, eqA P eq e n xs ys (i + 1) k with
      | some r, some s => some (r && s)
      | _, _ => none
    | _, _ => none
def aeq (C : Ctx) : Nat → TypeId → SV → SV → Option Bool
  | 0, _, _, _ => none
  | d + 1, t, x, y =>
    match C.P.underlying t with
    | some .bool => match x, y with | .bool a, .bool b => some (a == b) | _, _ => none
    | some (.int _) => match x, y with | .int k a, .int k' b => if k = k' then some (a == b) else none | _, _ => none
    | some (.struct fs) => match x, y with | .agg xs, .agg ys => bif C.eqOk t then eqF C.P (aeq C d) xs ys fs.toList else none | _, _ => none
    | some (.array n e) => match x, y, C.P.info? e with | .agg xs, .agg ys, some i => eqA C.P (aeq C d) e i.size xs ys 0 n | _, _, _ => none
    | _ => none

/-- The types that are said to be can be compared. -/
def EqOK (C : Ctx) : Prop := ∀ t, C.eqOk t = true → C.P.stoodInHeld t = false ∧ C.P.eqGuardType C.P.depth t = false ∧ ∀ fs, C.P.underlying t = some (.struct fs) → ∀ f ∈ fs.toList, f.name ≠ "_"

theorem eqF_ok {P : Program} {φ : Phi} {w : World} {d : Nat} {eq : TypeId → SV → SV → Option Bool} (heq : ∀ t x y r u v, eq t x y = some r → R φ x u → R φ y v → (Op.equalIn d t u v).run P w = .ok r w) {xs ys : List SV} {us vs : List Value} (hx : RL φ xs us) (hy : RL φ ys vs) :
    ∀ (fs : List Field) (r : Bool), (∀ f ∈ fs, f.name ≠ "_") → eqF P eq xs ys fs = some r → (Op.eqFields d us.toArray vs.toArray fs).run P w = .ok r w
  | [], r, _, h => by simp only [eqF, Option.some.injEq] at h; subst h; simp [Op.eqFields]
  | f :: fs, r, hn, h => by
    simp only [eqF] at h
    split at h
    · rename_i a b ha hb
      split at h
      · rename_i r1 s1 hr1 hs1
        simp only [Option.some.injEq] at h
        subst h
        obtain ⟨u, hu, hru⟩ := partS_ok ha hx w
        obtain ⟨v, hv, hrv⟩ := partS_ok hb hy w
        have ih := eqF_ok heq hx hy fs s1 (fun f hf => hn f (by simp [hf])) hs1
        have he := heq _ _ _ _ _ _ hr1 hru hrv
        simp only [Op.eqFields, if_pos (hn f (by simp)), Sem.run_bind, hu, hv, he, Result.andThen_ok]
        cases r1
        · simp
        · simpa using ih
      · cases h
    · cases h

theorem eqA_ok {P : Program} {φ : Phi} {w : World} {d : Nat} {eq : TypeId → SV → SV → Option Bool} (heq : ∀ t x y r u v, eq t x y = some r → R φ x u → R φ y v → (Op.equalIn d t u v).run P w = .ok r w) {xs ys : List SV} {us vs : List Value} (hx : RL φ xs us) (hy : RL φ ys vs) (e : TypeId) (n : Nat) :
    ∀ (k i : Nat) (r : Bool), eqA P eq e n xs ys i k = some r →
      (forIn (List.range' i k) (none, PUnit.unit) fun j (_ : Option Bool × PUnit) => (do
        let a ← part e us.toArray (j * n)
        let b ← part e vs.toArray (j * n)
        let q ← Op.equalIn d e a b
        if (!q) = true then pure (ForInStep.done (some false, PUnit.unit)) else pure (ForInStep.yield (none, PUnit.unit)) : Sem (ForInStep (Option Bool × PUnit)))).run P w = .ok (if r then none else some false, PUnit.unit) w
  | 0, i, r, h => by simp only [eqA, Option.some.injEq] at h; subst h; simp
  | k + 1, i, r, h => by
    simp only [eqA] at h
    split at h
    · rename_i a b ha hb
      split at h
      · rename_i r1 s1 hr1 hs1
        simp only [Option.some.injEq] at h
        subst h
        obtain ⟨u, hu, hru⟩ := partS_ok ha hx w
        obtain ⟨v, hv, hrv⟩ := partS_ok hb hy w
        have ih := eqA_ok heq hx hy e n k (i + 1) s1 hs1
        have he := heq _ _ _ _ _ _ hr1 hru hrv
        simp only [List.range'_succ, List.forIn_cons, Sem.run_bind, hu, hv, he, Result.andThen_ok]
        cases r1
        · simp
        · simpa using ih
      · cases h
    · cases h

theorem aeq_ok {C : Ctx} (hC : EqOK C) {φ : Phi} {w : World} : ∀ (d : Nat) (t : TypeId) (x y : SV) (r : Bool) (u v : Value), aeq C d t x y = some r → R φ x u → R φ y v → (Op.equalIn d t u v).run C.P w = .ok r w
  | 0, _, _, _, _, _, _, h, _, _ => by simp [aeq] at h
  | d + 1, t, x, y, r, u, v, h, hx, hy => by
    simp only [aeq] at h
    split at h
    · rename_i ht
      split at h
      · simp only [Option.some.injEq] at h
        simp only [R] at hx hy
        subst h hx hy
        exact run_equalIn_bool' w d t _ _ ht
      · cases h
    · rename_i k ht
      split at h
      · split at h
        · rename_i hk
          simp only [Option.some.injEq] at h
          simp only [R] at hx hy
          subst h hx hy hk
          exact run_equalIn_int w d t _ _ _ _ ht
        · cases h
      · cases h
    · rename_i fs ht
      split at h
      · cases hq : C.eqOk t with
        | false => simp [hq] at h
        | true =>
          simp only [hq, cond_true] at h
          simp only [R] at hx hy
          obtain ⟨us, h1, rfl⟩ := hx
          obtain ⟨vs, h2, rfl⟩ := hy
          obtain ⟨q1, _, q3⟩ := hC t hq
          have hfs : C.P.fieldsOf t = fs := by simp [Program.fieldsOf, ht]
          rw [run_equalIn_agg w d t _ _ (by rw [hfs]; exact ht) q1, hfs]
          exact eqF_ok (fun t x y r u v => aeq_ok hC d t x y r u v) h1 h2 _ _ (q3 fs ht) h
      · cases h
    · rename_i n e ht
      split at h
      · rename_i i hi
        simp only [R] at hx hy
        obtain ⟨us, h1, rfl⟩ := hx
        obtain ⟨vs, h2, rfl⟩ := hy
        have key := eqA_ok (P := C.P) (w := w) (d := d) (fun t x y r u v => aeq_ok hC d t x y r u v) h1 h2 e i.size n 0 r h
        rw [Op.equalIn]
        simp only [Sem.run_bind, run_underlying ht, Result.andThen_ok, run_sizeOf' hi]
        simp only [Std.Legacy.Range.forIn_eq_forIn_range', Std.Legacy.Range.size, Nat.sub_zero, Nat.add_sub_cancel, Nat.div_one]
        rw [key]
        cases r <;> simp
      · cases h
    · cases h


/-! ### The names in a value -/
mutual
def svIds : SV → List Nat
  | .ptr id .. => [id]
  | .slice id .. => [id]
  | .func _ a b => svIdsL a ++ svIdsL b
  | .agg l => svIdsL l
  | .tuple l => svIdsL l
  | _ => []
def svIdsL : List SV → List Nat
  | [] => []
  | s :: l => svIds s ++ svIdsL l
end
def stepIds (h : Heap) : List Nat → List Nat
  | [] => []
  | id :: l => (match h id with | some b => svIdsL (b.rd 0) | none => []) ++ stepIds h l
def reach (h : Heap) (args : List SV) : List Nat :=
  let a := svIdsL args
  let b := stepIds h a
  a ++ (b ++ stepIds h b)
def mask (h : Heap) (t : List Nat) : Heap := fun id => bif t.elem id then h id else none
def wrOk (h : Heap) : Wr → Bool
  | [] => true
  | (i, _) :: l => (match h i with | some b => b.rw | none => false) && wrOk h l

def callS (C : Ctx) (f : FuncId) (args : List SV) (h : Heap) (base : Nat) (K : KO) : Prop :=
  let t := reach h args
  C.Γ f args (mask h t) base fun v wr news => bif wrOk (mask h t) wr && news.all (·.rw) then K v wr news t else False

/-! ### Made of parts -/
def fillS (place : Nat → Option (Nat × Nat)) (cells : List SV) : List (Nat × SV) → Option (List SV)
  | [] => some cells
  | (i, v) :: rest =>
    match place i with
    | none => none
    | some (off, size) =>
      bif v.cellsOk && Nat.beq v.cells.length size && Nat.ble (off + size) cells.length then fillS place (splice cells off v.cells) rest
      else none
def placesOf (P : Program) : List Field → Option (List (Nat × Nat))
  | [] => some []
  | f :: fs => match P.info? f.type, placesOf P fs with
    | some i, some l => some ((f.offset, i.size) :: l)
    | _, _ => none
def partsS (e : Operand → SV) : List (Nat × Operand) → List (Nat × SV)
  | [] => []
  | (i, x) :: l => (i, e x) :: partsS e l
def buildS (P : Program) (t : TypeId) (parts : List (Nat × SV)) : Option (List SV) :=
  match zeroOf P t, P.underlying t with
  | some z, some (.struct fs) => match placesOf P fs.toList with
    | some pl => fillS (fun i => pl[i]?) (z.cells.toList.map ofCell) parts
    | none => none
  | some z, some (.array _ el) => match P.info? el with
    | some i => fillS (fun j => some (j * i.size, i.size)) (z.cells.toList.map ofCell) parts
    | none => none
  | _, _ => none
/-- So many copies. -/
def reps {α : Type} (l : List α) : Nat → List α
  | 0 => []
  | n + 1 => l ++ reps l n

def loadS (P : Program) (t : TypeId) (b : Blk) (row fld : Nat) : Option SV :=
  match P.underlying t, P.info? t with
  | some _, some i =>
    bif aggOf P t then (bif Nat.ble (fld + i.size) b.sz then some (.agg (((b.rd row).drop fld).take i.size)) else none)
    else (b.rd row)[fld]?
  | _, _ => none

def boolBin (op : BinOp) (a b : Bool) (K : SV → Prop) : Prop :=
  match op with
  | .eql => K (.bool (a == b))
  | .neq => K (.bool (a != b))
  | _ => False
def nilBin (op : BinOp) (r : Bool) (K : SV → Prop) : Prop :=
  match op with
  | .eql => K (.bool r)
  | .neq => K (.bool (!r))
  | _ => False
def isPtrT (P : Program) (t : TypeId) : Bool := match P.underlying t with | some (.pointer _) => true | _ => false
def isBoolT (P : Program) (t : TypeId) : Bool := match P.underlying t with | some .bool => true | _ => false
def isSliceT (P : Program) (t : TypeId) : Bool := match P.underlying t with | some (.slice _) => true | _ => false
def shiftOp (op : BinOp) : Bool := match op with | .shl | .shr => true | _ => false

def binS (C : Ctx) (op : BinOp) (t : TypeId) (x y : SV) (K : SV → Prop) : Prop :=
  match x, y with
  | .int k a, .int k' b => bif decide (k = k') || shiftOp op then intBin op k a b K else False
  | .bool a, .bool b => bif isBoolT C.P t then boolBin op a b K else False
  | .agg _, .agg _ => bif C.eqOk t then (match aeq C 10000 t x y with | some r => nilBin op r K | none => False) else False
  | .ptr .., .nilPtr => bif isPtrT C.P t then nilBin op false K else False
  | .nilPtr, .ptr .. => bif isPtrT C.P t then nilBin op false K else False
  | .nilPtr, .nilPtr => bif isPtrT C.P t then nilBin op true K else False
  | _, _ => False

def minS (op : Builtin) : Int → List SV → Option Int
  | a, [] => some a
  | a, .int .i64 b :: l => match op with
    | .min => minS op (if b < a then b else a) l
    | .max => minS op (if b > a then b else a) l
    | _ => none
  | _, _ => none

def lenS (P : Program) (t : TypeId) (x : SV) : Option Int :=
  match P.underlying t with
  | some (.array n _) => some n
  | some (.slice _) => match x with
    | .slice _ _ _ len => some len
    | .eslice => some 0
    | .nilSlice => some 0
    | _ => none
  | _ => none

/-- An end of a slice. -/
def endS (e : Operand → SV) (d : Int) : Option Operand → Option Int
  | none => some d
  | some x => match e x with | .int _ i => some i | _ => none
def sliceS (e : Operand → SV) (x : SV) (lo hi : Option Operand) (K : SV → Prop) : Prop :=
  match x with
  | .slice id row sz len => match endS e 0 lo, endS e len hi with
    | some l, some u => bif decide (0 ≤ l) && decide (l ≤ u) && decide (u ≤ len) then
        (bif decide (l < u) then K (.slice id (row + l.toNat) sz (u.toNat - l.toNat)) else K .eslice)
      else False
    | _, _ => False
  | .nilSlice => match endS e 0 lo, endS e 0 hi with
    | some l, some u => bif decide (l = 0) && decide (u = 0) then K .nilSlice else False
    | _, _ => False
  | .eslice => match endS e 0 lo, endS e 0 hi with
    | some l, some u => bif decide (l = 0) && decide (u = 0) then K .eslice else False
    | _, _ => False
  | _ => False

/-- The rows that are appended. -/
def rowsOf (h : Heap) (sz : Nat) : SV → Option (Nat × (Nat → List SV) × List Nat)
  | .slice id row s len => match h id with
    | some b => bif Nat.beq s sz && Nat.beq b.sz sz && decide (row + len ≤ b.n) then some (len, fun i => b.rd (row + i), [id]) else none
    | none => none
  | .eslice => some (0, fun _ => [], [])
  | .nilSlice => some (0, fun _ => [], [])
  | _ => none
/-- The same, way by way. -/
def rowsK (h : Heap) (sz : Nat) (x : SV) (K : Nat → (Nat → List SV) → List Nat → Prop) : Prop := match x with
  | .slice id row s len => match h id with
    | some b => bif Nat.beq s sz && Nat.beq b.sz sz && decide (row + len ≤ b.n) then K len (fun i => b.rd (row + i)) [id] else False
    | none => False
  | .eslice => K 0 (fun _ => []) []
  | .nilSlice => K 0 (fun _ => []) []
  | _ => False
theorem rowsK_ok {h : Heap} {sz : Nat} {x : SV} {K : Nat → (Nat → List SV) → List Nat → Prop} (hk : rowsK h sz x K) : ∃ m f tx, rowsOf h sz x = some (m, f, tx) ∧ K m f tx := by
  unfold rowsK at hk
  unfold rowsOf
  split at hk
  · split at hk
    · rename_i b hb
      rename_i id row s len o
      cases hc : Nat.beq s sz && Nat.beq b.sz sz && decide (row + len ≤ b.n) with
      | true =>
        rw [hc, cond_true] at hk
        exact ⟨_, _, _, by simp only [cond_true], hk⟩
      | false => rw [hc] at hk; exact hk.elim
    · exact hk.elim
  · exact ⟨_, _, _, rfl, hk⟩
  · exact ⟨_, _, _, rfl, hk⟩
  · exact hk.elim
def allOne (f : Nat → List SV) : Nat → Bool
  | 0 => true
  | n + 1 => (f n).all SV.one && allOne f n
def isSl : SV → Bool | .slice .. | .eslice | .nilSlice => true | _ => false
def zeroFits (i : TypeInfo) : Bool := match i.zero with | some z => Nat.beq z.cells.size i.size | none => false
/-- Rows are appended. -/
def appendS (P : Program) (t : TypeId) (s x : SV) (h : Heap) (base : Nat) (K : KO) : Prop :=
  match P.underlying t with
  | some (.slice el) => match P.info? el with
    | some i => rowsK h i.size x fun m f tx =>
        bif decide (m = 0) then (bif isSl s then K s [] [] tx else False) else
        match s with
        | .nilSlice =>
          (bif allOne f m && Nat.ble 1 i.size && zeroFits i && decide (m ≤ maxLen) && decide (m * i.bytes ≤ 140737488355328) then
            K (.slice base 0 i.size m) [] [⟨i.size, m, f, true, el⟩] tx else False)
        | .slice id row sz len => match h id with
          | some b =>
            (bif allOne f m && Nat.ble 1 i.size && zeroFits i && decide (len + m ≤ maxLen) && decide ((len + m) * i.bytes ≤ 140737488355328)
                && b.rw && Nat.beq row 0 && Nat.beq sz i.size && Nat.beq b.sz sz && decide (len = b.n) && Nat.beq b.ty el then
              K (.slice base 0 sz (len + m)) [(id, none)] [⟨sz, len + m, fun r => bif decide (r < len) then b.rd r else f (r - len), true, el⟩] (id :: tx) else False)
          | none => False
        | _ => False
    | none => False
  | _ => False

/-! What is laid by is reckoned out first: so the kernel does it once. -/
mutual
def frc : SV → (SV → Prop) → Prop
  | .agg l, K => frcA l fun l => K (.agg l)
  | .tuple l, K => frcA l fun l => K (.tuple l)
  | .func f a b, K => frcA a fun a => frcA b fun b => K (.func f a b)
  | .top, K => K .top
  | .bool b, K => K (.bool b)
  | .int k n, K => K (.int k n)
  | .ptr id row sz fld, K => K (.ptr id row sz fld)
  | .nilPtr, K => K .nilPtr
  | .slice id row sz len, K => K (.slice id row sz len)
  | .eslice, K => K .eslice
  | .nilSlice, K => K .nilSlice
  | .nilFunc, K => K .nilFunc
  | .raw v, K => K (.raw v)
def frcA : List SV → (List SV → Prop) → Prop
  | [], K => K []
  | s :: l, K => frc s fun s => frcA l fun l => K (s :: l)
end
mutual
theorem frc_eq : ∀ (s : SV) (K : SV → Prop), frc s K = K s
  | .agg l, K => by simp only [frc]; exact frcA_eq l _
  | .tuple l, K => by simp only [frc]; exact frcA_eq l _
  | .func f a b, K => by simp only [frc]; rw [frcA_eq a, frcA_eq b]
  | .top, _ => rfl
  | .bool _, _ => rfl
  | .int _ _, _ => rfl
  | .ptr .., _ => rfl
  | .nilPtr, _ => rfl
  | .slice .., _ => rfl
  | .eslice, _ => rfl
  | .nilSlice, _ => rfl
  | .nilFunc, _ => rfl
  | .raw _, _ => rfl
theorem frcA_eq : ∀ (l : List SV) (K : List SV → Prop), frcA l K = K l
  | [], _ => rfl
  | s :: l, K => by simp only [frcA]; rw [frc_eq s, frcA_eq l]
end
def argsS (e : Operand → SV) : List Operand → List SV
  | [] => []
  | x :: l => e x :: argsS e l

def aopCall (C : Ctx) (c : Call) (e : Operand → SV) (h : Heap) (base : Nat) (K : KO) : Prop :=
  match c.callee with
  | .value f => match e f with
    | .func (.func g) first cap => callS C g (first ++ argsS e c.args.toList ++ cap) h base K
    | _ => False
  | .builtin .len => match c.args.toList, c.argTypes.toList with
    | [x], [t] => match lenS C.P t (e x) with | some n => K (.int .i64 n) [] [] [] | none => False
    | _, _ => False
  | .builtin .min => match argsS e c.args.toList with
    | .int .i64 a :: l => match minS .min a l with | some n => K (.int .i64 n) [] [] [] | none => False
    | _ => False
  | .builtin .max => match argsS e c.args.toList with
    | .int .i64 a :: l => match minS .max a l with | some n => K (.int .i64 n) [] [] [] | none => False
    | _ => False
  | .builtin .append => match c.args.toList, c.argTypes.toList with
    | [s, x], [t, u] => bif Nat.beq t u then appendS C.P t (e s) (e x) h base K else False
    | _, _ => False
  | _ => False

def aop (C : Ctx) (o : Oper) (e : Operand → SV) (h : Heap) (base : Nat) (K : KO) : Prop :=
  match o.op with
  | .move x => K (e x) [] [] []
  | .assign x => K (e x) [] [] []
  | .pick c a b => match e c with
    | .bool t => bif t then K (e a) [] [] [] else K (e b) [] [] []
    | _ => False
  | .alloc t => match zeroOf C.P t with
    | some z => K (.ptr base 0 z.cells.size 0) [] [⟨z.cells.size, 1, fun _ => z.cells.toList.map ofCell, true, t⟩] []
    | none => False
  | .box t x => bif (e x).cellsOk then K (.ptr base 0 (e x).cells.length 0) [] [⟨(e x).cells.length, 1, fun _ => (e x).cells, true, t⟩] [] else False
  | .build t parts => match buildS C.P t (partsS e parts.toList) with
    | some cs => K (.agg cs) [] [] []
    | none => False
  | .buildSlice t len parts => match C.P.underlying t with
    | some (.slice el) => match C.P.info? el, zeroOf C.P el with
      | some i, some z =>
        bif Nat.ble 1 i.size && Nat.ble (len * i.size) 16777216 && Nat.beq z.cells.size i.size then
          match fillS (fun j => some (j * i.size, i.size)) (reps (z.cells.toList.map ofCell) len) (partsS e parts.toList) with
          | some cs => frcA cs fun cs => K (.slice base 0 i.size len) [] [⟨i.size, len, fun r => (cs.drop (r * i.size)).take i.size, true, el⟩] []
          | none => False
        else False
      | _, _ => False
    | _ => False
  | .load t a => match e a with
    | .ptr id row sz fld => match h id with
      | some b => bif decide (row < b.n) && Nat.beq sz b.sz then (match loadS C.P t b row fld with | some s => K s [] [] [id] | none => False) else False
      | none => False
    | _ => False
  | .store t a x => match e a, C.P.info? t with
    | .ptr id row sz fld, some i => match h id with
      | some b =>
        bif b.rw && decide (row < b.n) && Nat.beq sz b.sz && (e x).cellsOk && Nat.beq (e x).cells.length i.size && Nat.ble (fld + (e x).cells.length) b.sz && (e x).cells.all SV.one then
          K .top [(id, some (b.store row fld (e x).cells))] [] [id]
        else False
      | none => False
    | _, _ => False
  | .nilCheck x => match e x with
    | .ptr .. => K (e x) [] [] []
    | .func (.func _) _ _ => K (e x) [] [] []
    | _ => False
  | .binOp op t x y _ => binS C op t (e x) (e y) fun v => K v [] [] []
  | .unOp op _ x => match op, e x with
    | .not, .bool b => K (.bool (!b)) [] [] []
    | .neg, .int k n => K (.int k (k.wrap (0 - n))) [] [] []
    | _, _ => False
  | .makeFunc fn first cap => K (.func fn (argsS e first.toList) (argsS e cap.toList)) [] [] []
  | .slice t x lo hi none => bif isSliceT C.P t then (match C.P.underlying t with
      | some (.slice el) => match C.P.info? el, e x with
        | some i, .slice _ _ sz _ => bif Nat.beq sz i.size then sliceS e (e x) lo hi fun v => K v [] [] [] else False
        | some _, .nilSlice => sliceS e (e x) lo hi fun v => K v [] [] []
        | some _, .eslice => sliceS e (e x) lo hi fun v => K v [] [] []
        | _, _ => False
      | _ => False) else False
  | .fieldAddr s x f => match C.P.underlying s with
    | some (.struct fs) => match fs[f]?, e x with
      | some fd, .ptr id row sz fld => match C.P.info? fd.type with
        | some i => bif Nat.beq i.size 0 then False else K (.ptr id row sz (fld + fd.offset)) [] [] []
        | none => False
      | _, _ => False
    | _ => False
  | .field s x f => match C.P.underlying s with
    | some (.struct fs) => match fs[f]?, e x with
      | some fd, .agg l => match partS C.P fd.type l fd.offset with | some v => K v [] [] [] | none => False
      | _, _ => False
    | _ => False
  | .indexAddr t x ix => match C.P.underlying t with
    | some (.array n el) => match e x, e ix, C.P.info? el with
      | .ptr id row sz fld, .int _ i, some inf => bif decide (0 ≤ i) && decide (i < n) then K (.ptr id row sz (fld + i.toNat * inf.size)) [] [] [] else False
      | _, _, _ => False
    | some (.slice el) => match e x, e ix, C.P.info? el with
      | .slice id row sz len, .int _ i, some inf => bif Nat.beq inf.size sz && (decide (0 ≤ i) && decide (i < len)) then K (.ptr id (row + i.toNat) sz 0) [] [] [] else False
      | _, _, _ => False
    | _ => False
  | .index t x ix => match C.P.underlying t with
    | some (.array n el) => match e x, e ix, C.P.info? el with
      | .agg l, .int _ i, some inf => bif decide (0 ≤ i) && decide (i < n) then (match partS C.P el l (i.toNat * inf.size) with | some v => K v [] [] [] | none => False) else False
      | _, _, _ => False
    | _ => False
  | .extract x i => match e x with
    | .tuple l => match l[i]? with | some v => K v [] [] [] | none => False
    | _ => False
  | .call c => aopCall C c e h base K
  | _ => False


theorem argsS_R {φ : Phi} {e : Operand → SV} {a : Act} : ∀ {l : List Operand}, (∀ x ∈ l, R φ (e x) (a.eval x)) → RL φ (argsS e l) (l.map a.eval)
  | [], _ => RL.nil
  | x :: l, h => RL.cons (h x (by simp)) (argsS_R fun y hy => h y (by simp [hy]))

theorem info_of_und {P : Program} {t : TypeId} {d : TypeDesc} (h : P.underlying t = some d) : ∃ i, P.info? t = some i := by
  unfold Program.underlying at h
  cases hi : P.info? t with
  | some i => exact ⟨i, rfl⟩
  | none => simp [hi] at h

/-! ### fill -/
theorem foldl_splice (v : List Value) : ∀ (off : Nat) (cells : Array Value), off + v.length ≤ cells.size →
    (v.zipIdx 0).foldl (fun cs (c, j) => cs.setIfInBounds (off + j) c) cells = (splice cells.toList off v).toArray := by
  have key : ∀ (v : List Value) (k off : Nat) (cells : Array Value), off + k + v.length ≤ cells.size →
      (v.zipIdx k).foldl (fun cs (c, j) => cs.setIfInBounds (off + j) c) cells = (splice cells.toList (off + k) v).toArray := by
    intro v
    induction v with
    | nil => intro k off cells h; simp [splice]
    | cons x v ih =>
      intro k off cells h
      simp only [List.length_cons] at h
      rw [List.zipIdx_cons, List.foldl_cons, ih (k + 1) off _ (by simp; omega)]
      congr 1
      apply List.ext_getElem?
      intro i
      rw [splice_get (cells.setIfInBounds (off + k) x).toList (off + (k + 1)) v (by simp; omega), splice_get cells.toList (off + k) (x :: v) (by simp; omega)]
      simp only [Array.toList_setIfInBounds, List.length_cons, List.getElem?_set]
      by_cases h1 : i < off + k
      · rw [if_pos (by omega), if_neg (by omega), if_pos h1]
      · by_cases h2 : i = off + k
        · subst h2
          rw [if_pos (by omega), if_pos rfl, if_pos (by simp; omega), if_neg (by omega), if_pos (by omega)]
          simp
        · rw [if_neg h1]
          by_cases h3 : i < off + (k + 1) + v.length
          · rw [if_neg (by omega), if_pos h3, if_pos (by omega)]
            obtain ⟨j, rfl⟩ : ∃ j, i = off + k + 1 + j := ⟨i - (off + k + 1), by omega⟩
            rw [show off + k + 1 + j - (off + (k + 1)) = j by omega, show off + k + 1 + j - (off + k) = j + 1 by omega]
            simp
          · rw [if_neg (by omega), if_neg h3, if_neg (by omega), if_neg (by omega)]
  intro off cells h
  exact key v 0 off cells (by simpa using h)

theorem fillS_ok {φ : Phi} (place : Nat → Option (Nat × Nat)) : ∀ (ps : List (Nat × SV)) (us : List (Nat × Value)) (cs : List SV) (vs : List Value) (r : List SV),
    RL φ cs vs → fillS place cs ps = some r → ps.map (·.1) = us.map (·.1) → RL φ (ps.map (·.2)) (us.map (·.2)) → ∃ q, Instr.fill place vs.toArray us = some q.toArray ∧ RL φ r q
  | [], [], cs, vs, r, h, hf, _, _ => by simp only [fillS, Option.some.injEq] at hf; subst hf; exact ⟨vs, rfl, h⟩
  | [], _ :: _, _, _, _, _, _, hn, _ => by simp at hn
  | _ :: _, [], _, _, _, _, _, hn, _ => by simp at hn
  | (i, s) :: ps, (j, u) :: us, cs, vs, r, h, hf, hn, hr => by
    simp only [List.map_cons, List.cons.injEq] at hn
    obtain ⟨rfl, hn⟩ := hn
    simp only [List.map_cons, RL] at hr
    obtain ⟨v', r', he, hr1, hr2⟩ := hr
    simp only [List.cons.injEq] at he
    obtain ⟨rfl, rfl⟩ := he
    simp only [fillS] at hf
    cases hp : place i with
    | none => simp [hp] at hf
    | some x =>
      obtain ⟨off, size⟩ := x
      simp only [hp] at hf
      cases hc : s.cellsOk && Nat.beq s.cells.length size && Nat.ble (off + size) cs.length with
      | false => simp [hc] at hf
      | true =>
        simp only [hc, cond_true] at hf
        simp only [Bool.and_eq_true] at hc
        obtain ⟨⟨c1, c2⟩, c3⟩ := hc
        have c2 := Nat.eq_of_beq_eq_true c2
        have c3 := Nat.le_of_ble_eq_true c3
        have hcl := hr1.cells c1
        have l1 := hcl.length
        have l2 := h.length
        obtain ⟨q, q1, q2⟩ := fillS_ok place ps us (splice cs off s.cells) (splice vs off u.cells.toList) r (h.splice hcl off) hf hn hr2
        refine ⟨q, ?_, q2⟩
        have hsz : u.cells.size = size := by simpa using l1.trans c2
        have hle : ¬ (off + u.cells.size > vs.length) := by omega
        simp only [Instr.fill, hp]
        rw [if_neg (by simp [hsz]; omega)]
        rw [← q1]
        congr 1
        have := foldl_splice u.cells.toList off vs.toArray (by simp; omega)
        rw [← this]
        rw [← Array.foldl_toList]
        simp

theorem partsS_fst (e : Operand → SV) (f : Operand → Value) : ∀ (l : List (Nat × Operand)), (partsS e l).map (·.1) = (l.map fun (i, x) => (i, f x)).map (·.1)
  | [] => rfl
  | (i, x) :: l => by simp only [partsS, List.map_cons]; rw [partsS_fst e f l]
theorem partsS_snd {φ : Phi} {e : Operand → SV} {a : Act} : ∀ (l : List (Nat × Operand)), (∀ x ∈ l.map (·.2), R φ (e x) (a.eval x)) → RL φ ((partsS e l).map (·.2)) ((l.map fun (i, x) => (i, a.eval x)).map (·.2))
  | [], _ => RL.nil
  | (i, x) :: l, h => by
    simp only [partsS, List.map_cons]
    exact RL.cons (h x (by simp)) (partsS_snd l fun y hy => h y (by simp at hy ⊢; exact .inr hy))

theorem run_places {P : Program} (w : World) : ∀ (fs : List Field) (pl : List (Nat × Nat)), placesOf P fs = some pl →
    ((fs.mapM fun f => do pure (f.offset, ← sizeOf f.type) : Sem (List (Nat × Nat)))).run P w = .ok pl w
  | [], pl, h => by simp only [placesOf, Option.some.injEq] at h; subst h; simp
  | f :: fs, pl, h => by
    simp only [placesOf] at h
    split at h
    · rename_i i l hi hl
      simp only [Option.some.injEq] at h
      subst h
      have ih := run_places w fs l hl
      simp only [List.mapM_cons, Sem.run_bind, run_sizeOf' hi, Result.andThen_ok, Sem.run_pure, ih]
    · cases h

theorem buildS_ok {P : Program} {φ : Phi} {t : TypeId} {ps : List (Nat × SV)} {us : List (Nat × Value)} {cs : List SV} (h : buildS P t ps = some cs) (hn : ps.map (·.1) = us.map (·.1)) (hr : RL φ (ps.map (·.2)) (us.map (·.2))) (w : World) :
    ∃ q, (Instr.build t us.toArray).run P w = .ok (.agg q.toArray) w ∧ RL φ cs q := by
  unfold buildS at h
  split at h
  · rename_i z fs hz ht
    split at h
    · rename_i pl hpl
      obtain ⟨q, q1, q2⟩ := fillS_ok (φ := φ) (fun i => pl[i]?) ps us _ _ cs (RL_ofCells φ z.cells.toList) h hn hr
      refine ⟨q, ?_, q2⟩
      have hp := run_places w fs.toList pl hpl
      have hp' : ((fs.mapM fun f => do pure (f.offset, ← sizeOf f.type) : Sem (Array (Nat × Nat)))).run P w = .ok pl.toArray w := by
        rw [Array.mapM_eq_mapM_toList, Sem.run_map, hp]
        rfl
      simp only [Instr.build, Sem.run_bind, run_zeroValue' hz, Result.andThen_ok, run_underlying ht, hp']
      simp only [List.getElem?_toArray]
      simp at q1
      simp [q1]
    · cases h
  · rename_i z n el hz ht
    split at h
    · rename_i i hi
      obtain ⟨q, q1, q2⟩ := fillS_ok (φ := φ) (fun j => some (j * i.size, i.size)) ps us _ _ cs (RL_ofCells φ z.cells.toList) h hn hr
      refine ⟨q, ?_, q2⟩
      simp at q1
      simp [Instr.build, run_zeroValue' hz, run_underlying ht, run_sizeOf' hi, q1]
    · cases h
  · cases h

theorem reps_ok {φ : Phi} {l : List SV} {vs : List Value} (h : RL φ l vs) : ∀ n, RL φ (reps l n) (reps vs n)
  | 0 => RL.nil
  | n + 1 => h.append (reps_ok h n)
theorem reps_length {α : Type} (l : List α) : ∀ n, (reps l n).length = n * l.length
  | 0 => by simp [reps]
  | n + 1 => by simp [reps, reps_length l n, Nat.succ_mul]; omega
theorem reps_get {α : Type} (l : List α) (hl : 0 < l.length) : ∀ n k, k < n * l.length → (reps l n)[k]? = l[k % l.length]?
  | 0, k, h => by simp at h
  | n + 1, k, h => by
    simp only [reps]
    by_cases hk : k < l.length
    · rw [List.getElem?_append_left hk, Nat.mod_eq_of_lt hk]
    · rw [List.getElem?_append_right (by omega), reps_get l hl n _ (by rw [Nat.succ_mul] at h; omega)]
      congr 1
      rw [← Nat.mod_eq_sub_mod (by omega)]

/-- A slice literal's first cells. -/
theorem zeros_reps (z : Array Value) (len size : Nat) (hz : z.size = size) (h1 : 1 ≤ size) (hd : Value) :
    ((Array.range (len * size)).map fun j => z.getD (j % z.size) hd) = (reps z.toList len).toArray := by
  apply Array.ext_getElem?
  intro i
  rw [Array.getElem?_map]
  by_cases hi : i < len * size
  · have h3 : i % z.size < z.size := Nat.mod_lt _ (by omega)
    rw [show ((reps z.toList len).toArray)[i]? = (reps z.toList len)[i]? from by simp, reps_get z.toList (by simp; omega) len i (by simpa [hz] using hi)]
    simp [hi, h3]
  · rw [Array.getElem?_eq_none (by simp; omega), show ((reps z.toList len).toArray)[i]? = (reps z.toList len)[i]? from by simp, List.getElem?_eq_none (by rw [reps_length]; simp [hz]; omega)]
    rfl


/-- An operation that makes a block. -/
theorem OpOK.new {P : Program} {o : Oper} {e : Operand → SV} {h : Heap} {base : Nat} {v : SV} {b : Blk} {tch : List Nat}
    (hx : ∀ (g : Gh) (φ : Phi) (h2 : Heap) (a : Act) (w : World), HRep g φ h2 w → (∀ x ∈ o.op.operands.toList, R φ (e x) (a.eval x)) →
      ∃ cells u, (execOp a.eval o).run P w = .ok (.value u) (w.alloc (.cells cells b.ty)) ∧ cells.size = b.n * b.sz ∧ b.n ≤ maxLen ∧
        (∀ r, r < b.n → RL φ (b.rd r) ((cells.toList.drop (r * b.sz)).take b.sz) ∧ (b.rd r).length = b.sz) ∧ ∀ φ' : Phi, φ' base = some ⟨w.heap.size, 0, b.n⟩ → R φ' v u) : OpOK P o e h base v [] [b] tch := by
  intro g φ h2 a w K Q hr ho ht hn hm hk
  obtain ⟨cells, u, h1, h3, h4, h5, h6⟩ := hx g φ h2 a w hr ho
  unfold Oper.wp
  rw [h1, Oper.upon_value]
  obtain ⟨f1, f2⟩ := hn 0 (by simp)
  refine hk _ u _ (by rw [updH_new]; exact hr.alloc f1 hm b cells b.ty rfl h3 h4 h5) (Phi.le_put f1) (fun id => ?_) (h6 _ (Phi.put_same _ _ _))
  by_cases hi : id = base
  · right; simp [hi]
  · left; simp [Phi.put, hi]

theorem one_row {φ : Phi} {l : List SV} {vs : List Value} (h : RL φ l vs) : ∀ r, r < 1 → RL φ l ((vs.toArray.toList.drop (r * l.length)).take l.length) ∧ l.length = l.length := by
  intro r hr
  obtain rfl : r = 0 := by omega
  have := h.length
  refine ⟨?_, rfl⟩
  simp only [Nat.zero_mul, List.drop_zero]
  rw [← this]; simpa using h

theorem eval_in {φ : Phi} {e : Operand → SV} {a : Act} {op : Op} (h : ∀ x ∈ op.operands.toList, R φ (e x) (a.eval x)) {x : Operand} (hx : x ∈ op.operands.toList) : R φ (e x) (a.eval x) := h x hx

theorem add_addr (b o n : Nat) : (⟨b, o, none⟩ : Addr).add n = ⟨b, o + n, none⟩ := by
  unfold Addr.add; split <;> simp_all

theorem loadS_ok {P : Program} {t : TypeId} {b : Blk} {row fld : Nat} {s : SV} (h : loadS P t b row fld = some s) {φ : Phi} {l : Loc} {w : World} (hb : BAt φ l b w) (hrow : row < b.n) :
    ∃ u, (Instr.loadAt t (.pointer (some ⟨l.blk, l.off + (row * b.sz + fld), none⟩))).run P w = .ok u w ∧ R φ s u := by
  obtain ⟨cells, ty, fz, h1, _, h3⟩ := hb
  obtain ⟨q1, q2⟩ := h3 row hrow
  have hcell : ∀ k, w.cell? ⟨l.blk, k, none⟩ = cells.toList[k]? := fun k => by simp [World.cell?, h1]
  unfold loadS at h
  split at h
  · rename_i d i hd hi
    cases ha : aggOf P t with
    | true =>
      simp only [ha, cond_true] at h
      cases hle : Nat.ble (fld + i.size) b.sz with
      | false => simp [hle] at h
      | true =>
        simp only [hle, cond_true, Option.some.injEq] at h
        subst h
        have hle := Nat.le_of_ble_eq_true hle
        have q3 := (q1.drop fld).take i.size
        have hlen := q3.length
        have e1 : ((((b.rd row).drop fld).take i.size).length) = i.size := by simp; omega
        refine ⟨.agg ((((cells.toList.drop (l.off + row * b.sz)).take b.sz).drop fld).take i.size).toArray, ?_, by simp only [R]; exact ⟨_, q3, rfl⟩⟩
        have hl : (loadCells ⟨l.blk, l.off + (row * b.sz + fld), none⟩ i.size).run P w = .ok ((((cells.toList.drop (l.off + row * b.sz)).take b.sz).drop fld).take i.size).toArray w := by
          have := run_loadCells_list (P := P) w ⟨l.blk, l.off + (row * b.sz + fld), none⟩ ((((cells.toList.drop (l.off + row * b.sz)).take b.sz).drop fld).take i.size) (fun j v hv => by
            rw [add_addr, hcell]
            rw [List.getElem?_take] at hv
            split at hv
            · rw [List.getElem?_drop, List.getElem?_take] at hv
              split at hv
              · rw [List.getElem?_drop] at hv
                rw [← hv]; congr 1; omega
              · cases hv
            · cases hv)
          rwa [hlen, e1] at this
        simp [Instr.loadAt, Instr.sureAddr, loadVar, run_isAgg hd, ha, run_sizeOf' hi, hl]
    | false =>
      simp only [ha, cond_false] at h
      obtain ⟨v, v1, v2⟩ := q1.get h
      refine ⟨v, ?_, v2⟩
      have : w.cell? ⟨l.blk, l.off + (row * b.sz + fld), none⟩ = some v := by
        rw [hcell]
        rw [seg_get] at v1
        split at v1
        · rw [← v1]; congr 1; omega
        · cases v1
      simp [Instr.loadAt, Instr.sureAddr, loadVar, run_isAgg hd, ha, run_load, this]
  · cases h

theorem minS_ok {P : Program} {φ : Phi} {w : World} : ∀ {l : List SV} {vs : List Value} {a n : Int}, minS .min a l = some n → RL φ l vs → (vs.foldlM Builtin.min2 (.int .i64 a) : Sem Value).run P w = .ok (.int .i64 n) w
  | [], vs, a, n, h, hr => by simp only [minS, Option.some.injEq] at h; simp only [RL] at hr; subst h hr; simp
  | s :: l, vs, a, n, h, hr => by
    simp only [RL] at hr
    obtain ⟨v, r, rfl, h1, h2⟩ := hr
    unfold minS at h
    split at h
    case h_1 => rename_i e; cases e
    case h_3 => cases h
    rename_i b l' e
    simp only [List.cons.injEq] at e
    obtain ⟨rfl, rfl⟩ := e
    simp only [R] at h1
    subst h1
    have ih := minS_ok (P := P) (w := w) h h2
    simp only [List.foldlM_cons, Sem.run_bind, Builtin.min2, Sem.run_pure, Result.andThen_ok, ih]
theorem maxS_ok {P : Program} {φ : Phi} {w : World} : ∀ {l : List SV} {vs : List Value} {a n : Int}, minS .max a l = some n → RL φ l vs → (vs.foldlM Builtin.max2 (.int .i64 a) : Sem Value).run P w = .ok (.int .i64 n) w
  | [], vs, a, n, h, hr => by simp only [minS, Option.some.injEq] at h; simp only [RL] at hr; subst h hr; simp
  | s :: l, vs, a, n, h, hr => by
    simp only [RL] at hr
    obtain ⟨v, r, rfl, h1, h2⟩ := hr
    unfold minS at h
    split at h
    case h_1 => rename_i e; cases e
    case h_3 => cases h
    rename_i b l' e
    simp only [List.cons.injEq] at e
    obtain ⟨rfl, rfl⟩ := e
    simp only [R] at h1
    subst h1
    have ih := maxS_ok (P := P) (w := w) h h2
    simp only [List.foldlM_cons, Sem.run_bind, Builtin.max2, Sem.run_pure, Result.andThen_ok, ih]

theorem lenS_ok {P : Program} {φ : Phi} {w : World} {t ty : TypeId} {x : SV} {v : Value} {n : Int} (h : lenS P t x = some n) (hr : R φ x v) : (Builtin.len_ #[t] ty #[v]).run P w = .ok (.int .i64 n) w := by
  unfold lenS at h
  split at h
  · rename_i k e ht
    simp only [Option.some.injEq] at h
    subst h
    cases v <;> simp [Builtin.len_, run_underlying ht, goInt]
  · rename_i e ht
    split at h
    · simp only [Option.some.injEq] at h; subst h; simp only [R] at hr; obtain ⟨l, _, _, rfl⟩ := hr; simp [Builtin.len_, run_underlying ht, goInt]
    · simp only [Option.some.injEq] at h; subst h; simp only [R] at hr; obtain ⟨a, c, rfl⟩ := hr; simp [Builtin.len_, run_underlying ht, goInt]
    · simp only [Option.some.injEq] at h; subst h; simp only [R] at hr; subst hr; simp [Builtin.len_, run_underlying ht, goInt]
    · cases h
  · cases h

theorem boolBin_ok {op : BinOp} {a b : Bool} {K : SV → Prop} (P : Program) {t : TypeId} (ht : isBoolT P t = true) (h : boolBin op a b K) :
    ∃ v u, K v ∧ (∀ w, (binOp op t (.bool a) (.bool b)).run P w = .ok u w) ∧ ∀ φ, R φ v u := by
  have hu : P.underlying t = some .bool := by
    unfold isBoolT at ht; split at ht
    · assumption
    · cases ht
  cases op <;> simp only [boolBin] at h
  case eql => exact ⟨_, .bool (a == b), h, fun w => by simp [binOp, Op.equal, Op.maxDepth, run_equalIn_bool' w _ t a b hu], fun φ => by simp [R]⟩
  case neq => exact ⟨_, .bool (a != b), h, fun w => by simp [binOp, Op.equal, Op.maxDepth, run_equalIn_bool' w _ t a b hu, bne], fun φ => by simp [R]⟩

theorem eqPtr1 {P : Program} (w : World) {t el : TypeId} (hu : P.underlying t = some (.pointer el)) (a : Option Addr) (d : Nat) : (Op.equalIn (d + 1) t (.pointer a) (.pointer none)).run P w = .ok a.isNone w := by
  cases a <;> simp [Op.equalIn, run_underlying hu]
theorem eqPtr2 {P : Program} (w : World) {t el : TypeId} (hu : P.underlying t = some (.pointer el)) (a : Option Addr) (d : Nat) : (Op.equalIn (d + 1) t (.pointer none) (.pointer a)).run P w = .ok a.isNone w := by
  cases a <;> simp [Op.equalIn, run_underlying hu]
theorem nilBin_ok {op : BinOp} {r : Bool} {K : SV → Prop} (P : Program) (h : nilBin op r K) :
    ∃ v, K v ∧ ∀ (φ : Phi) (t : TypeId) (u v' : Value) (w : World) (xo yo : Operand), (∀ d, (Op.equalIn (d + 1) t u v').run P w = .ok r w) → (∃ a, u = .pointer a) → (∃ a, v' = .pointer a) →
      ∃ q, ((do eqGuard op t xo yo u v'; binOp op t u v') : Sem Value).run P w = .ok q w ∧ R φ v q := by
  cases op <;> simp only [nilBin] at h
  case eql =>
    refine ⟨_, h, fun φ t u v' w xo yo hk ⟨a, ha⟩ ⟨b, hb⟩ => ⟨.bool r, ?_, by simp [R]⟩⟩
    have := hk 9999
    subst ha hb
    cases a <;> cases b <;> simp [eqGuard, binOp, Op.equal, Op.maxDepth, this]
  case neq =>
    refine ⟨_, h, fun φ t u v' w xo yo hk ⟨a, ha⟩ ⟨b, hb⟩ => ⟨.bool (!r), ?_, by simp [R]⟩⟩
    have := hk 9999
    subst ha hb
    cases a <;> cases b <;> simp [eqGuard, binOp, Op.equal, Op.maxDepth, this]

theorem binS_ok {C : Ctx} (hC : EqOK C) {op : BinOp} {t : TypeId} {x y : SV} {K : SV → Prop} (h : binS C op t x y K) (xo yo : Operand) :
    ∃ v, K v ∧ ∀ (φ : Phi) (u v' : Value) (w : World), R φ x u → R φ y v' → ∃ r, ((do eqGuard op t xo yo u v'; binOp op t u v') : Sem Value).run C.P w = .ok r w ∧ R φ v r := by
  unfold binS at h
  split at h
  · rename_i k a k' b
    cases hk : decide (k = k') || shiftOp op with
    | false => simp [hk] at h
    | true =>
      simp only [hk, cond_true] at h
      have hk' : k = k' ∨ op = .shl ∨ op = .shr := by
        simp only [Bool.or_eq_true, decide_eq_true_eq] at hk
        rcases hk with hk | hk
        · exact .inl hk
        · right; cases op <;> simp [shiftOp] at hk <;> simp
      obtain ⟨v, r, h1, h2, h3⟩ := intBin_ok C.P t hk' h
      refine ⟨v, h1, fun φ u v' w' hu hv => ⟨r, ?_, h3 φ⟩⟩
      simp only [R] at hu hv
      subst hu hv
      have hg : (eqGuard op t xo yo (.int k a) (.int k' b)).run C.P w' = .ok () w' := by cases op <;> simp [eqGuard]
      simp [hg, h2 w']
  · rename_i a b
    cases hk : isBoolT C.P t with
    | false => simp [hk] at h
    | true =>
      simp only [hk, cond_true] at h
      obtain ⟨v, r, h1, h2, h3⟩ := boolBin_ok C.P hk h
      refine ⟨v, h1, fun φ u v' w' hu hv => ⟨r, ?_, h3 φ⟩⟩
      simp only [R] at hu hv
      subst hu hv
      have hg : (eqGuard op t xo yo (.bool a) (.bool b)).run C.P w' = .ok () w' := by cases op <;> simp [eqGuard]
      simp [hg, h2 w']
  · rename_i xs ys
    cases hq : C.eqOk t with
    | false => simp [hq] at h
    | true =>
      simp only [hq, cond_true] at h
      split at h
      · rename_i r hr
        obtain ⟨_, q2, _⟩ := hC t hq
        have key : ∀ (φ : Phi) (u v' : Value) (w : World), R φ (.agg xs) u → R φ (.agg ys) v' → (Op.equalIn 10000 t u v').run C.P w = .ok r w ∧ (eqGuard op t xo yo u v').run C.P w = .ok () w ∧ ∃ us vs, u = .agg us ∧ v' = .agg vs := by
          intro φ u v' w hu hv
          refine ⟨aeq_ok hC 10000 t _ _ r u v' hr hu hv, ?_⟩
          simp only [R] at hu hv
          obtain ⟨us, _, rfl⟩ := hu
          obtain ⟨vs, _, rfl⟩ := hv
          exact ⟨run_eqGuard_agg w op t xo yo _ _ q2, _, _, rfl, rfl⟩
        cases op <;> simp only [nilBin] at h
        case eql =>
          refine ⟨_, h, fun φ u v' w hu hv => ⟨.bool r, ?_, by simp [R]⟩⟩
          obtain ⟨k1, k2, us, vs, rfl, rfl⟩ := key φ u v' w hu hv
          simp only [Sem.run_bind, k2, Result.andThen_ok, run_eql_struct, k1]
        case neq =>
          refine ⟨_, h, fun φ u v' w hu hv => ⟨.bool (!r), ?_, by simp [R]⟩⟩
          obtain ⟨k1, k2, us, vs, rfl, rfl⟩ := key φ u v' w hu hv
          simp only [Sem.run_bind, k2, Result.andThen_ok, run_neq_struct, k1]
      · cases h
  all_goals first
    | cases h; done
    | (cases hk : isPtrT C.P t with
      | false => simp [hk] at h
      | true =>
        simp only [hk, cond_true] at h
        obtain ⟨el, hu⟩ : ∃ el, C.P.underlying t = some (.pointer el) := by
          unfold isPtrT at hk; split at hk
          · exact ⟨_, by assumption⟩
          · cases hk
        obtain ⟨v, hv1, hv2⟩ := nilBin_ok C.P h
        refine ⟨v, hv1, fun φ u v' w hu' hv => ?_⟩
        simp only [R] at hu' hv
        try obtain ⟨l, _, rfl⟩ := hu'
        try obtain ⟨l, _, rfl⟩ := hv
        try subst hu'
        try subst hv
        exact hv2 φ t _ _ w xo yo (fun d => by first | exact eqPtr1 w hu _ d | exact eqPtr2 w hu _ d) ⟨_, rfl⟩ ⟨_, rfl⟩)


/-- What a call comes to, in every world that holds the blocks. -/
def CSim (P : Program) (f : FuncId) (args : List SV) (h : Heap) (base : Nat) (v : SV) (wr : Wr) (news : List Blk) : Prop :=
  (∀ vs w, (callFunc f vs).run P w = .ok (.enter f vs) w) ∧
  ∀ (g : Gh) (φ : Phi) (w : World) (vs : List Value), HRep g φ h w → RL φ args vs → (∀ i, i < news.length → φ (base + i) = none) → g.m0 ≤ base →
    Calls P f vs.toArray w fun e w' => ∃ u φ', e = .returned u ∧ φ.le φ' ∧ (∀ id, φ' id = φ id ∨ (base ≤ id ∧ id < base + news.length)) ∧ R φ' v u ∧ HRep g φ' (updH h base wr news) w'
def GSound (C : Ctx) : Prop := ∀ f args h base k, C.Γ f args h base k → ∃ v wr news, k v wr news ∧ CSim C.P f args h base v wr news

/-- Seen from a call: the world ahead of it is the one at its beginning. -/
def liftG (φ : Phi) (hm : Heap) (w : World) (base : Nat) : Gh := ⟨w, fun k => ∃ id b l, hm id = some b ∧ b.rw = true ∧ φ id = some l ∧ l.blk = k, φ, base⟩
theorem HRep.lift {g : Gh} {φ : Phi} {h2 hm : Heap} {w : World} (k : HRep g φ h2 w) (hsub : ∀ id b, hm id = some b → h2 id = some b) (base : Nat) : HRep (liftG φ hm w base) φ hm w :=
  ⟨fun id b e => k.blk id b (hsub _ _ e), fun i j bi bj li lj hi hj => k.sep i j bi bj li lj (hsub _ _ hi) (hsub _ _ hj), fun id b l e hr hp => .inl ⟨id, b, l, e, hr, hp, rfl⟩,
    rfl, rfl, rfl, Nat.le_refl _, fun _ _ _ => rfl, fun _ _ => rfl⟩

theorem wrOk_lk {h : Heap} : ∀ {wr : Wr} {id : Nat} {b : Option Blk}, wrOk h wr = true → lk wr id = some b → ∃ c, h id = some c ∧ c.rw = true
  | [], _, _, _, h2 => by simp [lk] at h2
  | (i, c) :: l, id, b, h1, h2 => by
    simp only [wrOk, Bool.and_eq_true] at h1
    simp only [lk] at h2
    split at h2
    · rename_i hi
      subst hi
      have := h1.1
      split at this
      · rename_i d hd; exact ⟨d, hd, this⟩
      · cases this
    · exact wrOk_lk h1.2 h2

theorem HRep.lower {g : Gh} {φ φ' : Phi} {h2 hm : Heap} {w w' : World} (k : HRep g φ h2 w) (hsub : ∀ id b, hm id = some b → h2 id = some b) {base : Nat} {wr : Wr} {news : List Blk}
    (k' : HRep (liftG φ hm w base) φ' (updH hm base wr news) w') (hle : φ.le φ') (hex : ∀ id, φ' id = φ id ∨ (base ≤ id ∧ id < base + news.length)) (hwr : wrOk hm wr = true) (hnw : news.all (·.rw) = true)
    (hm0 : g.m0 ≤ base) : HRep g φ' (updH h2 base wr news) w' := by
  have cls : ∀ id b, updH h2 base wr news id = some b → (updH hm base wr news id = some b ∧ ((∃ c, hm id = some c ∧ φ' id = φ id) ∨ b.rw = true)) ∨ (hm id = none ∧ h2 id = some b ∧ φ' id = φ id) := by
    intro id b e
    unfold updH at e ⊢
    by_cases hr : base ≤ id ∧ id < base + news.length
    · rw [if_pos hr] at e
      rw [if_pos hr]
      refine .inl ⟨e, .inr ?_⟩
      rw [List.all_eq_true] at hnw
      exact hnw b (List.mem_of_getElem? e)
    · rw [if_neg hr] at e
      rw [if_neg hr]
      have hφ : φ' id = φ id := (hex id).resolve_right hr
      cases hl : lk wr id with
      | some c =>
        simp only [hl, Option.getD_some] at e ⊢
        obtain ⟨d, h1, _⟩ := wrOk_lk hwr hl
        exact .inl ⟨e, .inl ⟨d, h1, hφ⟩⟩
      | none =>
        simp only [hl, Option.getD_none] at e ⊢
        cases hh : hm id with
        | some c =>
          have := hsub id c hh
          rw [this] at e
          exact .inl ⟨e, .inl ⟨c, rfl, hφ⟩⟩
        | none => exact .inr ⟨rfl, e, hφ⟩
  -- a block that was not handed in is apart from those that may be written
  have apart : ∀ id b l, hm id = none → h2 id = some b → φ id = some l → ¬ (liftG φ hm w base).S l.blk := by
    rintro id b l h1 h3 h4 ⟨i, c, li, e1, e2, e3, e4⟩
    exact k.sep i id c b li l (hsub _ _ e1) h3 (by rintro rfl; rw [h1] at e1; cases e1) e2 e3 h4 e4
  have ownA : ∀ id b l, updH hm base wr news id = some b → b.rw = true → φ' id = some l → (g.S l.blk ∨ g.w0.heap.size ≤ l.blk) ∧ ∀ j c lj, hm j = none → h2 j = some c → φ j = some lj → l.blk ≠ lj.blk := by
    intro id b l e1 e2 e3
    rcases k'.own id b l e1 e2 e3 with ⟨i, c, li, f1, f2, f3, f4⟩ | hge
    · refine ⟨by rw [← f4]; exact k.own i c li (hsub _ _ f1) f2 f3, fun j d lj h1 h3 h4 heq => ?_⟩
      exact apart j d lj h1 h3 h4 ⟨i, c, li, f1, f2, f3, f4.trans heq⟩
    · refine ⟨.inr (Nat.le_trans k.size hge), fun j d lj h1 h3 h4 heq => ?_⟩
      obtain ⟨l', q1, q2⟩ := k.blk j d h3
      rw [h4] at q1
      cases q1
      have := q2.lt
      have hge : w.heap.size ≤ l.blk := hge
      omega
  refine ⟨fun id b e => ?_, fun i j bi bj li lj hi hj hne hrw pi pj => ?_, fun id b l e hrw hp => ?_, k'.os.trans k.os, k'.tape.trans k.tape, k'.output.trans k.output, Nat.le_trans k.size k'.size, fun i hi hS => ?_, fun id hid => ?_⟩
  · rcases cls id b e with ⟨e1, _⟩ | ⟨e1, e2, e3⟩
    · exact k'.blk id b e1
    · obtain ⟨l, q1, q2⟩ := k.blk id b e2
      exact ⟨l, hle _ _ q1, (q2.mono hle).same (k'.old l.blk q2.lt (apart id b l e1 e2 q1))⟩
  · rcases cls i bi hi with ⟨a1, a2⟩ | ⟨a1, a2, a3⟩
    · rcases cls j bj hj with ⟨b1, b2⟩ | ⟨b1, b2, b3⟩
      · exact k'.sep i j bi bj li lj a1 b1 hne hrw pi pj
      · rw [b3] at pj
        exact (ownA i bi li a1 hrw pi).2 j bj lj b1 b2 pj
    · rcases cls j bj hj with ⟨b1, b2⟩ | ⟨b1, b2, b3⟩
      · rw [a3] at pi
        rcases b2 with ⟨c, c1, c2⟩ | hrwj
        · rw [c2] at pj
          exact k.sep i j bi c li lj a2 (hsub _ _ c1) hne hrw pi pj
        · exact Ne.symm ((ownA j bj lj b1 hrwj pj).2 i bi li a1 a2 pi)
      · rw [a3] at pi
        rw [b3] at pj
        exact k.sep i j bi bj li lj a2 b2 hne hrw pi pj
  · rcases cls id b e with ⟨a1, _⟩ | ⟨a1, a2, a3⟩
    · exact (ownA id b l a1 hrw hp).1
    · rw [a3] at hp
      exact k.own id b l a2 hrw hp
  · have h1 : i < w.heap.size := Nat.lt_of_lt_of_le hi k.size
    refine (k'.old i h1 ?_).trans (k.old i hi hS)
    rintro ⟨id, b, l, e1, e2, e3, rfl⟩
    rcases k.own id b l (hsub _ _ e1) e2 e3 with q | q
    · exact hS q
    · omega
  · have : φ' id = φ id := (hex id).resolve_right (by omega)
    rw [this]
    exact k.ids id hid

theorem elem_true {t : List Nat} {id : Nat} (h : t.elem id = true) : id ∈ t := List.mem_of_elem_eq_true h

/-- A call of a function by its contract. -/
theorem callS_ok {C : Ctx} (hΓ : GSound C) {f : FuncId} {args : List SV} {h : Heap} {base : Nat} {K : KO} (hk : callS C f args h base K) :
    ∃ v wr news tch, K v wr news tch ∧ (∀ vs w, (callFunc f vs).run C.P w = .ok (.enter f vs) w) ∧
      ∀ (g : Gh) (φ : Phi) (h2 : Heap) (w : World) (vs : List Value), HRep g φ h2 w → RL φ args vs → (∀ id ∈ tch, h2 id = h id) → (∀ i, i < news.length → φ (base + i) = none ∧ h2 (base + i) = none) → g.m0 ≤ base →
        Calls C.P f vs.toArray w fun e w' => ∃ u φ', e = .returned u ∧ φ.le φ' ∧ (∀ id, φ' id = φ id ∨ (base ≤ id ∧ id < base + news.length)) ∧ R φ' v u ∧ HRep g φ' (updH h2 base wr news) w' := by
  unfold callS at hk
  obtain ⟨v, wr, news, h1, h2, h3⟩ := hΓ _ _ _ _ _ hk
  cases hc : wrOk (mask h (reach h args)) wr && news.all (·.rw) with
  | false => simp [hc] at h1
  | true =>
    simp only [hc, cond_true] at h1
    simp only [Bool.and_eq_true] at hc
    refine ⟨v, wr, news, _, h1, h2, fun g φ hh w vs hr ha ht hn hm => ?_⟩
    have hsub : ∀ id b, mask h (reach h args) id = some b → hh id = some b := by
      intro id b e
      unfold mask at e
      cases hel : (reach h args).elem id with
      | false => rw [hel, cond_false] at e; cases e
      | true => rw [hel, cond_true] at e; rw [ht id (elem_true hel)]; exact e
    refine (h3 (liftG φ (mask h (reach h args)) w base) φ w vs (hr.lift hsub base) ha (fun i hi => (hn i hi).1) (Nat.le_refl _)).mono ?_
    rintro e w' ⟨u, φ', rfl, q1, q2, q3, q4⟩
    exact ⟨u, φ', rfl, q1, q2, q3, hr.lower hsub q4 q1 q2 hc.1 hc.2 hm⟩

/-! ### append -/
theorem rowsOf_ok {h : Heap} {sz : Nat} {x : SV} {m : Nat} {f : Nat → List SV} {tx : List Nat} (hx : rowsOf h sz x = some (m, f, tx)) :
    (m = 0 ∧ ∀ (φ : Phi) (v : Value), R φ x v → ∃ a c, v = .slice a 0 c) ∨
    ∃ id row b, x = .slice id row sz m ∧ h id = some b ∧ b.sz = sz ∧ row + m ≤ b.n ∧ f = (fun i => b.rd (row + i)) ∧ tx = [id] := by
  unfold rowsOf at hx
  split at hx
  · rename_i id row s len
    split at hx
    · rename_i b hb
      cases hc : Nat.beq s sz && Nat.beq b.sz sz && decide (row + len ≤ b.n) with
      | false => simp [hc] at hx
      | true =>
        simp only [hc, cond_true, Option.some.injEq, Prod.mk.injEq] at hx
        obtain ⟨rfl, rfl, rfl⟩ := hx
        simp only [Bool.and_eq_true, decide_eq_true_eq] at hc
        have h1 := Nat.eq_of_beq_eq_true hc.1.1
        have h2 := Nat.eq_of_beq_eq_true hc.1.2
        subst h1
        exact .inr ⟨id, row, b, rfl, hb, h2, hc.2, rfl, rfl⟩
    · cases hx
  · simp only [Option.some.injEq, Prod.mk.injEq] at hx
    obtain ⟨rfl, rfl, rfl⟩ := hx
    exact .inl ⟨rfl, fun φ v hr => by simpa only [R] using hr⟩
  · simp only [Option.some.injEq, Prod.mk.injEq] at hx
    obtain ⟨rfl, rfl, rfl⟩ := hx
    exact .inl ⟨rfl, fun φ v hr => by simp only [R] at hr; exact ⟨none, 0, hr⟩⟩
  · cases hx

theorem allOne_get {f : Nat → List SV} : ∀ {n : Nat}, allOne f n = true → ∀ r, r < n → (f r).all SV.one = true
  | 0, _, r, h => by omega
  | n + 1, h, r, hr => by
    simp only [allOne, Bool.and_eq_true] at h
    by_cases e : r = n
    · subst e; exact h.1
    · exact allOne_get h.2 r (by omega)

/-- The elements of rows lie in some row. -/
theorem mem_rows {cells : List Value} {o sz m : Nat} {u : Value} (h : u ∈ (cells.drop o).take (m * sz)) (hs : 0 < sz) : ∃ r, r < m ∧ u ∈ (cells.drop (o + r * sz)).take sz := by
  obtain ⟨j, hj⟩ := List.getElem?_of_mem h
  rw [seg_get] at hj
  split at hj
  · rename_i hlt
    have h1 : j / sz < m := Nat.div_lt_of_lt_mul (by rwa [Nat.mul_comm] at hlt)
    refine ⟨j / sz, h1, ?_⟩
    refine List.mem_of_getElem? (i := j % sz) ?_
    rw [seg_get, if_pos (Nat.mod_lt _ hs), ← hj]
    congr 1
    have := Nat.div_add_mod j sz
    rw [Nat.mul_comm] at this
    omega
  · cases hj

theorem rows_bound {φ : Phi} {cells : List Value} {o sz : Nat} {l : List SV} (h : RL φ l ((cells.drop o).take sz)) (hl : l.length = sz) (hs : 0 < sz) : o + sz ≤ cells.length := by
  have := h.length
  simp at this
  omega

theorem seg_of_take {α : Type} {c d : List α} {k o n : Nat} (h : c.take k = d) (hb : o + n ≤ k) : (c.drop o).take n = (d.drop o).take n := by
  subst h
  apply List.ext_getElem?
  intro i
  rw [seg_get, seg_get]
  split
  · rw [List.getElem?_take, if_pos (by omega)]
  · rfl

/-- Where append puts what is appended: the new block. -/
theorem HRep.append {g : Gh} {φ : Phi} {h2 : Heap} {w w' : World} (k : HRep g φ h2 w) {own : Option Nat} (hg : w.grownBy w' own) {base gb cap : Nat} {b' : Blk} {wr : Wr}
    (hbase : φ base = none) (hm : g.m0 ≤ base) (hat : own = some gb ∨ gb = w.heap.size) 
    (hwr : (own = none ∧ wr = []) ∨ ∃ id b l, wr = [(id, none)] ∧ h2 id = some b ∧ b.rw = true ∧ φ id = some l ∧ own = some l.blk)
    (hb : BAt (φ.put base ⟨gb, 0, cap⟩) ⟨gb, 0, cap⟩ b' w') : HRep g (φ.put base ⟨gb, 0, cap⟩) (updH h2 base wr [b']) w' := by
  have hle : φ.le (φ.put base ⟨gb, 0, cap⟩) := Phi.le_put hbase
  -- what lives besides the new one
  have cls : ∀ i c, i ≠ base → updH h2 base wr [b'] i = some c → h2 i = some c ∧ ∀ l, φ i = some l → some l.blk ≠ own := by
    intro i c hi e
    unfold updH at e
    rw [if_neg (by simp; omega)] at e
    rcases hwr with ⟨h1, rfl⟩ | ⟨id, b, l0, rfl, q1, q2, q3, q4⟩
    · simp only [lk, Option.getD_none] at e
      exact ⟨e, fun l hl => by rw [h1]; simp⟩
    · simp only [lk] at e
      split at e
      · cases e
      · rename_i hid
        simp only [Option.getD_none] at e
        refine ⟨e, fun l hl => ?_⟩
        rw [q4]
        have := k.sep id i b c l0 l q1 e (Ne.symm hid) q2 q3 hl
        intro h
        exact this (by simpa using h.symm)
  have hnew : updH h2 base wr [b'] base = some b' := by unfold updH; rw [if_pos (by simp)]; simp
  have hput : ∀ i, i ≠ base → φ.put base ⟨gb, 0, cap⟩ i = φ i := fun i hi => by simp [Phi.put, hi]
  have hgb : ∀ i c l, i ≠ base → updH h2 base wr [b'] i = some c → φ i = some l → l.blk ≠ gb := by
    intro i c l hi e hl
    obtain ⟨e1, e2⟩ := cls i c hi e
    rcases hat with hat | hat
    · intro h; exact e2 l hl (by rw [hat, h])
    · obtain ⟨l', q1, q2⟩ := k.blk i c e1
      rw [hl] at q1; cases q1
      have := q2.lt
      omega
  refine ⟨fun i c e => ?_, fun i j bi bj li lj hi hj hne hrw pi pj => ?_, fun i c l e hrw hp => ?_, hg.os.trans k.os, hg.tape.trans k.tape, hg.output.trans k.output, Nat.le_trans k.size hg.size, fun i hi hS => ?_, fun i hi => ?_⟩
  · by_cases hi : i = base
    · subst hi; rw [hnew] at e; cases e; exact ⟨_, Phi.put_same _ _ _, hb⟩
    · obtain ⟨e1, e2⟩ := cls i c hi e
      obtain ⟨l, q1, q2⟩ := k.blk i c e1
      exact ⟨l, hle _ _ q1, (q2.mono hle).same (hg.block l.blk q2.lt (e2 l q1))⟩
  · by_cases hi' : i = base
    · subst hi'
      rw [Phi.put_same] at pi
      cases pi
      rw [hput j (Ne.symm hne)] at pj
      exact Ne.symm (hgb j bj lj (Ne.symm hne) hj pj)
    · rw [hput i hi'] at pi
      by_cases hj' : j = base
      · subst hj'
        rw [Phi.put_same] at pj
        cases pj
        exact hgb i bi li hi' hi pi
      · rw [hput j hj'] at pj
        exact k.sep i j bi bj li lj (cls i bi hi' hi).1 (cls j bj hj' hj).1 hne hrw pi pj
  · by_cases hi : i = base
    · subst hi
      rw [Phi.put_same] at hp
      cases hp
      rcases hat with hat | hat
      · rcases hwr with ⟨h1, _⟩ | ⟨id, b, l0, _, q1, q2, q3, q4⟩
        · rw [h1] at hat; cases hat
        · rw [q4] at hat
          have : l0.blk = gb := by simpa using hat
          have q := k.own id b l0 q1 q2 q3
          rw [this] at q
          exact q
      · exact .inr (by rw [hat]; exact k.size)
    · rw [hput i hi] at hp
      exact k.own i c l (cls i c hi e).1 hrw hp
  · rw [hg.block i (Nat.lt_of_lt_of_le hi k.size) ?_, k.old i hi hS]
    rcases hwr with ⟨h1, _⟩ | ⟨id, b, l0, _, q1, q2, q3, q4⟩
    · rw [h1]; simp
    · rw [q4]
      intro h
      have : i = l0.blk := by simpa using h
      subst this
      rcases k.own id b l0 q1 q2 q3 with q | q
      · exact hS q
      · omega
  · rw [hput i (by omega)]
    exact k.ids i hi

/-- The cells of the rows that are appended. -/
theorem rows_cells {φ : Phi} {h2 : Heap} {w : World} {g : Gh} (k : HRep g φ h2 w) {id row m : Nat} {b : Blk} (hb : h2 id = some b) (hrow : row + m ≤ b.n) (hm : 0 < m) (hs : 0 < b.sz)
    (hone : ∀ r, r < m → (b.rd (row + r)).all SV.one = true) {l : Loc} (hl : φ id = some l) :
    ∃ news : List Value, news.length = m * b.sz ∧ (∀ j u, news[j]? = some u → w.cell? ((⟨l.blk, l.off + row * b.sz, none⟩ : Addr).add j) = some u) ∧ (∀ u ∈ news, u.oneCell' = true) ∧
      ∀ r, r < m → RL φ (b.rd (row + r)) ((news.drop (r * b.sz)).take b.sz) ∧ (b.rd (row + r)).length = b.sz := by
  obtain ⟨l', hl', cells, ty, fz, h1, _, h3⟩ := k.blk id b hb
  obtain rfl : l' = l := by rw [hl] at hl'; simpa using hl'.symm
  have hlast := h3 (row + (m - 1)) (by omega)
  have hbd := rows_bound hlast.1 hlast.2 hs
  have e1 : (row + (m - 1)) * b.sz + b.sz = row * b.sz + m * b.sz := by
    rw [← Nat.succ_mul, ← Nat.add_mul]; congr 1; omega
  have hseg : ∀ r, r < m → (((cells.toList.drop (l'.off + row * b.sz)).take (m * b.sz)).drop (r * b.sz)).take b.sz = (cells.toList.drop (l'.off + (row + r) * b.sz)).take b.sz := by
    intro r hr
    have e2 := seg_le (sz := b.sz) hr
    have e3 : (row + r) * b.sz = row * b.sz + r * b.sz := Nat.add_mul ..
    apply List.ext_getElem?
    intro i
    rw [seg_get, seg_get, seg_get]
    split
    · rw [if_pos (by omega)]; congr 1; omega
    · rfl
  refine ⟨(cells.toList.drop (l'.off + row * b.sz)).take (m * b.sz), by simp at hbd ⊢; omega, fun j u hj => ?_, fun u hu => ?_, fun r hr => ?_⟩
  · rw [add_addr]
    rw [seg_get] at hj
    split at hj
    · simp [World.cell?, h1] at hj ⊢; exact hj
    · cases hj
  · obtain ⟨r, hr, hu'⟩ := mem_rows hu hs
    have e3 : (row + r) * b.sz = row * b.sz + r * b.sz := Nat.add_mul ..
    refine RL.ones (h3 (row + r) (by omega)).1 (hone r hr) u ?_
    rwa [e3, ← Nat.add_assoc]
  · rw [hseg r hr]
    exact h3 (row + r) (by omega)

theorem run_append_zero {P : Program} {w : World} {t ty el : TypeId} {i : TypeInfo} (ht : P.underlying t = some (.slice el)) (hi : P.info? el = some i) (A B : Option Addr) (n cap c : Nat) (hn : n ≤ cap) :
    (Builtin.append_ #[t, t] ty #[.slice A n cap, .slice B 0 c]).run P w = .ok (.slice A n cap) w := by
  cases A <;> cases B <;> simp [Builtin.append_, run_underlying ht, run_sizeOf' hi, Builtin.lenOf, hn, Builtin.firstCells, loadCells, loadCellsFrom, storeCells]

theorem isSl_zero {P : Program} {w : World} {t ty el : TypeId} {i : TypeInfo} (ht : P.underlying t = some (.slice el)) (hi : P.info? el = some i) {s : SV} (hs : isSl s = true) {φ : Phi} {u1 : Value} (h1 : R φ s u1) (B : Option Addr) (c : Nat) :
    (Builtin.append_ #[t, t] ty #[u1, .slice B 0 c]).run P w = .ok u1 w := by
  cases s <;> simp [isSl] at hs <;> simp only [R] at h1
  case slice => obtain ⟨l, _, h3, rfl⟩ := h1; exact run_append_zero ht hi _ _ _ _ _ (by omega)
  case eslice => obtain ⟨A, d, rfl⟩ := h1; exact run_append_zero ht hi _ _ _ _ _ (by omega)
  case nilSlice => subst h1; exact run_append_zero ht hi _ _ _ _ _ (by omega)

theorem appendS_ok {P : Program} {t : TypeId} {s x : SV} {h : Heap} {base : Nat} {K : KO} (hk : appendS P t s x h base K) :
    ∃ v wr news tch, K v wr news tch ∧ ∀ (g : Gh) (φ : Phi) (h2 : Heap) (w : World) (u1 u2 : Value) (ty : TypeId), HRep g φ h2 w → R φ s u1 → R φ x u2 → (∀ id ∈ tch, h2 id = h id) → (∀ i, i < news.length → φ (base + i) = none ∧ h2 (base + i) = none) → g.m0 ≤ base →
      ∃ (φ' : Phi) (u : Value) (w' : World), (Builtin.append_ #[t, t] ty #[u1, u2]).run P w = .ok u w' ∧ HRep g φ' (updH h2 base wr news) w' ∧ φ.le φ' ∧ (∀ id, φ' id = φ id ∨ (base ≤ id ∧ id < base + news.length)) ∧ R φ' v u := by
  unfold appendS at hk
  split at hk
  case h_2 => cases hk
  rename_i el ht
  split at hk
  case h_2 => cases hk
  rename_i i hi
  obtain ⟨m, f, tx, hx, hk'⟩ := rowsK_ok hk
  clear hk
  have hk := hk'
  clear hk'
  have hrow := rowsOf_ok hx
  cases hm : decide (m = 0) with
  | true =>
    simp only [hm, cond_true] at hk
    have hm : m = 0 := by simpa using hm
    cases hs : isSl s with
    | false => simp [hs] at hk
    | true =>
      simp only [hs, cond_true] at hk
      refine ⟨s, [], [], tx, hk, fun g φ h2 w u1 u2 ty hr h1 h2' ht' hn hm0 => ⟨φ, u1, w, ?_, by rw [updH_nil]; exact hr, Phi.le_refl φ, fun _ => .inl rfl, h1⟩⟩
      rcases hrow with ⟨_, h3⟩ | ⟨id, row, b, rfl, _, _, _, _, _⟩
      · obtain ⟨a, c, rfl⟩ := h3 φ u2 h2'
        exact isSl_zero ht hi hs h1 a c
      · subst hm
        simp only [R] at h2'
        obtain ⟨l, _, _, rfl⟩ := h2'
        exact isSl_zero ht hi hs h1 _ _
  | false =>
    simp only [hm, cond_false] at hk
    have hm : 0 < m := by have : ¬ m = 0 := by simpa using hm
                          omega
    obtain ⟨id, row, b, rfl, hb, hbs, hbn, rfl, rfl⟩ : ∃ id row b, x = .slice id row i.size m ∧ h id = some b ∧ b.sz = i.size ∧ row + m ≤ b.n ∧ f = (fun j => b.rd (row + j)) ∧ tx = [id] := by
      rcases hrow with ⟨h0, _⟩ | h0
      · omega
      · exact h0
    split at hk
    · -- onto nil
      cases hc : allOne (fun j => b.rd (row + j)) m && Nat.ble 1 i.size && zeroFits i && decide (m ≤ maxLen) && decide (m * i.bytes ≤ 140737488355328) with
      | false => simp [hc] at hk
      | true =>
        simp only [hc, cond_true] at hk
        simp only [Bool.and_eq_true, decide_eq_true_eq] at hc
        obtain ⟨⟨⟨⟨c1, c2⟩, c3⟩, c4⟩, c5⟩ := hc
        have c2 := Nat.le_of_ble_eq_true c2
        unfold zeroFits at c3
        split at c3
        case h_2 => cases c3
        rename_i z hz
        have c3 := Nat.eq_of_beq_eq_true c3
        refine ⟨_, _, _, _, hk, fun g φ h2 w u1 u2 ty hr h1 h2' ht' hn hm0 => ?_⟩
        simp only [R] at h1 h2'
        subst h1
        obtain ⟨l, hl, _, rfl⟩ := h2'
        have hb2 : h2 id = some b := by rw [ht' id (by simp)]; exact hb
        obtain ⟨news, n1, n2, n3, n4⟩ := rows_cells hr hb2 hbn hm (by omega) (allOne_get c1) hl
        rw [hbs] at n1 n2 n4
        obtain ⟨gb, cap, w', r1, r2, r3, r4, r5⟩ := run_append_lies (P := P) w t ty 0 el i z i.size i.bytes ht hi hz rfl rfl c3 (by omega) (.slice none 0 0) 0 [] ⟨by simp, .inl ⟨rfl, rfl⟩⟩ _ m _ news n1 n2 n3 hm (by omega) (by simpa using c5) (Nat.zero_le _) w.heap.size rfl
        have hgb : gb = w.heap.size := by rcases r4 with r4 | r4; · simp [Value.ownBlock] at r4
                                          · exact r4
        obtain ⟨q1, q2⟩ := r2
        rcases q2 with ⟨q2, _⟩ | ⟨g', cap', cur, q2, _, q3, q4, q5, q6, q7⟩
        · simp at q2
        simp only [Value.slice.injEq, Option.some.injEq, Addr.mk.injEq, and_true, true_and] at q2
        obtain ⟨rfl, rfl⟩ := q2
        simp only [Nat.zero_add, List.nil_append] at q7 q4
        refine ⟨φ.put base ⟨gb, 0, cap⟩, _, w', r1, hr.append r3 (hn 0 (by simp)).1 hm0 (.inr hgb) (.inl ⟨rfl, rfl⟩) ⟨cur, el, (0, 0), q3, fun _ => ⟨rfl, rfl, rfl, q6, q4, q5⟩, fun r hr' => ?_⟩, Phi.le_put (hn 0 (by simp)).1, fun j => ?_, ?_⟩
        · dsimp only at hr' ⊢
          obtain ⟨a1, a2⟩ := n4 r hr'
          refine ⟨?_, a2⟩
          have := seg_le (sz := i.size) hr'
          rw [Nat.zero_add, seg_of_take q7 (by omega)]
          exact a1.mono (Phi.le_put (hn 0 (by simp)).1)
        · by_cases hj : j = base
          · right; simp [hj]
          · left; simp [Phi.put, hj]
        · simp only [R]
          exact ⟨_, Phi.put_same _ _ _, by dsimp only; omega, by simp⟩
    · -- onto a row of one's own
      rename_i id0 row0 sz0 len0
      split at hk
      case h_2 => cases hk
      rename_i b0 hb0
      cases hc : allOne (fun j => b.rd (row + j)) m && Nat.ble 1 i.size && zeroFits i && decide (len0 + m ≤ maxLen) && decide ((len0 + m) * i.bytes ≤ 140737488355328)
                && b0.rw && Nat.beq row0 0 && Nat.beq sz0 i.size && Nat.beq b0.sz sz0 && decide (len0 = b0.n) && Nat.beq b0.ty el with
      | false => simp [hc] at hk
      | true =>
        simp only [hc, cond_true] at hk
        simp only [Bool.and_eq_true, decide_eq_true_eq] at hc
        obtain ⟨⟨⟨⟨⟨⟨⟨⟨⟨⟨c1, c2⟩, c3⟩, c4⟩, c5⟩, c6⟩, c7⟩, c8⟩, c9⟩, c10⟩, c11⟩ := hc
        have c2 := Nat.le_of_ble_eq_true c2
        have c7 := Nat.eq_of_beq_eq_true c7
        have c8 := Nat.eq_of_beq_eq_true c8
        have c9 := Nat.eq_of_beq_eq_true c9
        have c11 := Nat.eq_of_beq_eq_true c11
        unfold zeroFits at c3
        split at c3
        case h_2 => cases c3
        rename_i z hz
        have c3 := Nat.eq_of_beq_eq_true c3
        subst c7 c8 c10 c11
        refine ⟨_, _, _, _, hk, fun g φ h2 w u1 u2 ty hr h1 h2' ht' hn hm0 => ?_⟩
        simp only [R] at h1 h2'
        obtain ⟨l0, hl0, hcap0, rfl⟩ := h1
        obtain ⟨l, hl, _, rfl⟩ := h2'
        have hb2 : h2 id = some b := by rw [ht' id (by simp)]; exact hb
        have hb02 : h2 id0 = some b0 := by rw [ht' id0 (by simp)]; exact hb0
        obtain ⟨news, n1, n2, n3, n4⟩ := rows_cells hr hb2 hbn hm (by omega) (allOne_get c1) hl
        rw [hbs] at n1 n2 n4
        obtain ⟨l0', hl0', cells, ty0, fz, k1, k2, k3⟩ := hr.blk id0 b0 hb02
        obtain rfl : l0' = l0 := by rw [hl0] at hl0'; simpa using hl0'.symm
        obtain ⟨t1, t2, rfl, t4, t5, t6⟩ := k2 c6
        subst t1
        rw [c9] at t4 k3
        have hown : w.ownsRow 0 b0.ty i.size (.slice (some ⟨l0'.blk, l0'.off + 0 * i.size, none⟩) b0.n (l0'.cap - 0)) b0.n (cells.toList.take (b0.n * i.size)) := by
          refine ⟨?_, .inr ⟨l0'.blk, l0'.cap, cells, by simp [t2], Nat.zero_le _, k1, t5, t6, t4, rfl⟩⟩
          have := Nat.mul_le_mul_right i.size t5
          simp; omega
        obtain ⟨gb, cap, w', r1, r2, r3, r4, r5⟩ := run_append_lies (P := P) w t ty 0 b0.ty i z i.size i.bytes ht hi hz rfl rfl c3 (by omega) _ b0.n _ hown _ m _ news n1 n2 n3 hm c4 c5 (Nat.zero_le _) w.heap.size rfl
        obtain ⟨q1, q2⟩ := r2
        rcases q2 with ⟨q2, _⟩ | ⟨g', cap', cur, q2, _, q3, q4, q5, q6, q7⟩
        · simp at q2
        simp only [Value.slice.injEq, Option.some.injEq, Addr.mk.injEq, and_true, true_and] at q2
        obtain ⟨rfl, rfl⟩ := q2
        refine ⟨φ.put base ⟨gb, 0, cap⟩, _, w', r1, hr.append r3 (hn 0 (by simp)).1 hm0 r4 (.inr ⟨id0, b0, l0', rfl, hb02, c6, hl0, rfl⟩) ⟨cur, b0.ty, (0, 0), q3, fun _ => ⟨rfl, rfl, rfl, q6, q4, q5⟩, fun r hr' => ?_⟩, Phi.le_put (hn 0 (by simp)).1, fun j => ?_, ?_⟩
        · dsimp only at hr' ⊢
          have hlen : (cells.toList.take (b0.n * i.size)).length = b0.n * i.size := by
            have := Nat.mul_le_mul_right i.size t5
            simp; omega
          have hb := seg_le (sz := i.size) hr'
          rw [Nat.zero_add, seg_of_take q7 (by omega)]
          cases hd : decide (r < b0.n) with
          | true =>
            have hd : r < b0.n := by simpa using hd
            rw [cond_true]
            obtain ⟨a1, a2⟩ := k3 r hd
            refine ⟨?_, a2⟩
            have hb' := seg_le (sz := i.size) hd
            have : ((cells.toList.take (b0.n * i.size) ++ news).drop (r * i.size)).take i.size = (cells.toList.drop (l0'.off + r * i.size)).take i.size := by
              apply List.ext_getElem?
              intro j
              rw [seg_get, seg_get]
              split
              · rw [List.getElem?_append_left (by rw [hlen]; omega), List.getElem?_take, if_pos (by omega), t2, Nat.zero_add]
              · rfl
            rw [this]
            exact a1.mono (Phi.le_put (hn 0 (by simp)).1)
          | false =>
            have hd : ¬ r < b0.n := by simpa using hd
            rw [cond_false]
            obtain ⟨a1, a2⟩ := n4 (r - b0.n) (by omega)
            refine ⟨?_, a2⟩
            have e3 : r * i.size = b0.n * i.size + (r - b0.n) * i.size := by rw [← Nat.add_mul]; congr 1; omega
            have : ((cells.toList.take (b0.n * i.size) ++ news).drop (r * i.size)).take i.size = (news.drop ((r - b0.n) * i.size)).take i.size := by
              apply List.ext_getElem?
              intro j
              rw [seg_get, seg_get]
              split
              · rw [List.getElem?_append_right (by rw [hlen]; omega), hlen]; congr 1; omega
              · rfl
            rw [this]
            exact a1.mono (Phi.le_put (hn 0 (by simp)).1)
        · by_cases hj : j = base
          · right; simp [hj]
          · left; simp [Phi.put, hj]
        · simp only [R]
          exact ⟨_, Phi.put_same _ _ _, by dsimp only; omega, by simp⟩
    · cases hk


theorem ptrT {P : Program} {t : TypeId} (h : isSliceT P t = true) : ∃ el, P.underlying t = some (.slice el) := by
  unfold isSliceT at h; split at h
  · exact ⟨_, by assumption⟩
  · cases h

theorem endS_ok {φ : Phi} {e : Operand → SV} {a : Act} {d n : Int} : ∀ {x : Option Operand}, endS e d x = some n → (∀ y, x = some y → R φ (e y) (a.eval y)) → (x = none ∧ n = d) ∨ ∃ y k, x = some y ∧ a.eval y = .int k n
  | none, h, _ => by simp only [endS, Option.some.injEq] at h; exact .inl ⟨rfl, h.symm⟩
  | some y, h, hr => by
    simp only [endS] at h
    split at h
    · rename_i k i he
      simp only [Option.some.injEq] at h
      subst h
      have := hr y rfl
      rw [he] at this
      simp only [R] at this
      exact .inr ⟨y, k, rfl, this⟩
    · cases h

theorem sliceBounds_ok {P : Program} {w : World} {e : Operand → SV} {a : Act} {len cap : Nat} {lo hi : Option Operand} {l u : Int}
    (h1 : endS e 0 lo = some l) (h2 : endS e len hi = some u) {φ : Phi} (hl : ∀ y, lo = some y → R φ (e y) (a.eval y)) (hh : ∀ y, hi = some y → R φ (e y) (a.eval y)) (b1 : 0 ≤ l) (b2 : l ≤ u) (b3 : u ≤ len) (b4 : len ≤ cap) :
    (Instr.sliceBounds true len cap (lo.map a.eval) (hi.map a.eval) none).run P w = .ok (l.toNat, u.toNat, cap) w := by
  have hbnd : ∀ (k : IntKind) (i : Int) (y : Nat) (c : BoundsCode), 0 ≤ i → i ≤ y → (Instr.sliceBound (.int k i) y c).run P w = .ok i.toNat w := by
    intro k i y c h1 h2
    simp [Instr.sliceBound, asIntOf, h1, h2]
  rcases endS_ok h1 hl with ⟨rfl, rfl⟩ | ⟨y, k, rfl, hy⟩ <;> rcases endS_ok h2 hh with ⟨rfl, rfl⟩ | ⟨z, k', rfl, hz⟩
  · simp [Instr.sliceBounds]
  · simp [Instr.sliceBounds, hz, hbnd k' u cap _ (by omega) (by omega)]
  · simp [Instr.sliceBounds, hy, hbnd k l len _ b1 b2]
  · simp [Instr.sliceBounds, hy, hz, hbnd k' u cap _ (by omega) (by omega), hbnd k l u.toNat _ b1 (by omega)]

theorem sliceS_ok {P : Program} {t el : TypeId} {i : TypeInfo} (ht : P.underlying t = some (.slice el)) (hi : P.info? el = some i) {e : Operand → SV} {x : SV} {lo hi' : Option Operand} {K : SV → Prop} (h : sliceS e x lo hi' K)
    (hsz : ∀ id row sz len, x = .slice id row sz len → sz = i.size) :
    ∃ v, K v ∧ ∀ (φ : Phi) (a : Act) (w : World) (u : Value), R φ x u → (∀ y, lo = some y → R φ (e y) (a.eval y)) → (∀ y, hi' = some y → R φ (e y) (a.eval y)) →
      ∃ q, (Instr.sliceAt t u (lo.map a.eval) (hi'.map a.eval) none).run P w = .ok q w ∧ R φ v q := by
  unfold sliceS at h
  split at h
  · rename_i id row sz len
    obtain rfl := hsz _ _ _ _ rfl
    split at h
    · rename_i l u h1 h2
      cases hc : decide (0 ≤ l) && decide (l ≤ u) && decide (u ≤ len) with
      | false => simp [hc] at h
      | true =>
        simp only [hc, cond_true] at h
        simp only [Bool.and_eq_true, decide_eq_true_eq] at hc
        obtain ⟨⟨b1, b2⟩, b3⟩ := hc
        cases hd : decide (l < u) with
        | true =>
          simp only [hd, cond_true] at h
          have hd : l < u := by simpa using hd
          refine ⟨_, h, fun φ a w v hr hl hh => ?_⟩
          simp only [R] at hr
          obtain ⟨lc, q1, q2, rfl⟩ := hr
          have hb := sliceBounds_ok (P := P) (w := w) (cap := lc.cap - row) h1 h2 hl hh b1 b2 b3 (by omega)
          refine ⟨.slice (some ⟨lc.blk, lc.off + (row + l.toNat) * i.size, none⟩) (u.toNat - l.toNat) (lc.cap - (row + l.toNat)), ?_, by simp only [R]; exact ⟨lc, q1, by omega, rfl⟩⟩
          have hne : ¬ lc.cap - row = l.toNat := by omega
          simp [Instr.sliceAt, Instr.slice, run_underlying ht, run_sizeOf' hi, hb, hne, add_addr, Nat.add_mul, Nat.add_assoc, Nat.sub_sub]
        | false =>
          simp only [hd, cond_false] at h
          have hd : ¬ l < u := by simpa using hd
          refine ⟨_, h, fun φ a w v hr hl hh => ?_⟩
          simp only [R] at hr
          obtain ⟨lc, q1, q2, rfl⟩ := hr
          have hb := sliceBounds_ok (P := P) (w := w) (cap := lc.cap - row) h1 h2 hl hh b1 b2 b3 (by omega)
          have hz : u.toNat - l.toNat = 0 := by omega
          refine ⟨_, by simp only [Instr.sliceAt, Instr.slice, Sem.run_bind, run_underlying ht, run_sizeOf' hi, hb, Result.andThen_ok, Sem.run_pure, hz]; rfl, by simp only [R]; exact ⟨_, _, rfl⟩⟩
    · cases h
  · split at h
    · rename_i l u h1 h2
      cases hc : decide (l = 0) && decide (u = 0) with
      | false => simp [hc] at h
      | true =>
        simp only [hc, cond_true] at h
        simp only [Bool.and_eq_true, decide_eq_true_eq] at hc
        obtain ⟨rfl, rfl⟩ := hc
        refine ⟨_, h, fun φ a w v hr hl hh => ⟨.slice none 0 0, ?_, by simp [R]⟩⟩
        simp only [R] at hr
        subst hr
        have hb := sliceBounds_ok (P := P) (w := w) (cap := 0) (len := 0) h1 (by simpa using h2) hl hh (by omega) (by omega) (by omega) (by omega)
        simp at hb
        simp [Instr.sliceAt, Instr.slice, run_underlying ht, run_sizeOf' hi, hb]
    · cases h
  · split at h
    · rename_i l u h1 h2
      cases hc : decide (l = 0) && decide (u = 0) with
      | false => simp [hc] at h
      | true =>
        simp only [hc, cond_true] at h
        simp only [Bool.and_eq_true, decide_eq_true_eq] at hc
        obtain ⟨rfl, rfl⟩ := hc
        refine ⟨_, h, fun φ a w v hr hl hh => ?_⟩
        simp only [R] at hr
        obtain ⟨A, c, rfl⟩ := hr
        have hb := sliceBounds_ok (P := P) (w := w) (cap := c) (len := 0) h1 (by simpa using h2) hl hh (by omega) (by omega) (by omega) (by omega)
        simp at hb
        cases A with
        | none => exact ⟨_, by simp only [Instr.sliceAt, Instr.slice, Sem.run_bind, run_underlying ht, run_sizeOf' hi, hb, Result.andThen_ok, Sem.run_pure]; rfl, by simp only [R]; exact ⟨_, _, rfl⟩⟩
        | some A => exact ⟨_, by simp only [Instr.sliceAt, Instr.slice, Sem.run_bind, run_underlying ht, run_sizeOf' hi, hb, Result.andThen_ok, Sem.run_pure]; rfl, by simp only [R]; exact ⟨_, _, rfl⟩⟩
    · cases h
  · cases h

theorem buildSlice_ok {P : Program} {t el : TypeId} {i : TypeInfo} {z : Value} (ht : P.underlying t = some (.slice el)) (hi : P.info? el = some i) (hz : zeroOf P el = some z) {len : Nat} {ps : List (Nat × SV)} {cs : List SV}
    (h1 : 1 ≤ i.size) (h2 : len * i.size ≤ 16777216) (h3 : z.cells.size = i.size) (h : fillS (fun j => some (j * i.size, i.size)) (reps (z.cells.toList.map ofCell) len) ps = some cs)
    {φ : Phi} {us : List (Nat × Value)} (hn : ps.map (·.1) = us.map (·.1)) (hr : RL φ (ps.map (·.2)) (us.map (·.2))) (w : World) :
    ∃ q : List Value, (Instr.buildSlice t len us.toArray).run P w = .ok (.slice (some ⟨w.heap.size, 0, none⟩) len len) (w.alloc (.cells q.toArray el)) ∧ RL φ cs q ∧ q.length = len * i.size := by
  obtain ⟨q, q1, q2⟩ := fillS_ok (φ := φ) (fun j => some (j * i.size, i.size)) ps us _ _ cs (reps_ok (RL_ofCells φ z.cells.toList) len) h hn hr
  have hlen : ∀ (us : List (Nat × Value)) (c d : Array Value), Instr.fill (fun j => some (j * i.size, i.size)) c us = some d → d.size = c.size := by
    intro us
    induction us with
    | nil => intro c d e; simp only [Instr.fill, Option.some.injEq] at e; rw [e]
    | cons x us ih =>
      intro c d e
      obtain ⟨j, v⟩ := x
      simp only [Instr.fill] at e
      split at e
      · cases e
      · rw [ih _ _ e]
        rw [← Array.foldl_toList]
        generalize v.cells.zipIdx.toList = l
        have : ∀ (l : List (Value × Nat)) (c : Array Value), (l.foldl (fun cs x => cs.setIfInBounds (j * i.size + x.2) x.1) c).size = c.size := by
          intro l
          induction l with
          | nil => intro c; rfl
          | cons y l ih => intro c; rw [List.foldl_cons, ih]; simp
        exact this l c
  have hq : q.length = len * i.size := by
    have := hlen us _ _ q1
    simp [reps_length, h3] at this
    exact this
  refine ⟨q, ?_, q2, hq⟩
  by_cases h0 : len * i.size = 0
  · have hl0 : len = 0 := by rcases Nat.mul_eq_zero.1 h0 with h | h; exact h; omega
    subst hl0
    simp only [reps] at q1
    have e0 : ∀ d : Value, (Array.range 0).map (fun _ : Nat => d) = #[] := fun d => by apply Array.ext'; simp
    simp [Instr.buildSlice, run_underlying ht, run_sizeOf' hi, newRow, e0, q1]
  · have hzr := zeros_reps z.cells len i.size h3 h1 default
    have hge : ¬ (len * i.size > 2 ^ 24) := by simp; omega
    have q1' := q1
    rw [← hzr] at q1'
    simp only [Instr.buildSlice, Sem.run_bind, run_underlying ht, run_sizeOf' hi, Result.andThen_ok, if_neg hge, Sem.run_pure, if_neg h0, run_zeroValue' hz]
    simp only [Array.getElem!_eq_getD]
    rw [q1']
    simp [newRow]

theorem callF_ok {P : Program} {f : FuncId} (h : ∀ vs w, (callFunc f vs).run P w = .ok (.enter f vs) w) {ρ : Operand → Value} {c : Call} {fo : Operand} (hc : c.callee = .value fo) {x y : List Value} (hf : ρ fo = .func (.func f) x.toArray y.toArray) (ty : TypeId) (w : World) :
    ((do let d ← resolve ρ c ty; invoke d.target d.args) : Sem Next).run P w = .ok (.enter f (x ++ c.args.toList.map ρ ++ y).toArray) w := by
  simp only [resolve, hc, hf, Deferred.ofValue, Sem.run_bind, Sem.run_pure, Result.andThen_ok, invoke, h]
  congr 2
  apply Array.ext'
  simp

theorem aopCall_ok {C : Ctx} (hΓ : GSound C) {c : Call} {e : Operand → SV} {h : Heap} {base : Nat} {K : KO} (hk : aopCall C c e h base K) (dst : Option Tmp) (ty : TypeId) (pos : String) (aft : Array Edge) (gd : Option (Nat × Bool)) :
    ∃ v wr news tch, K v wr news tch ∧ OpOK C.P ⟨dst, .call c, ty, pos, aft, gd⟩ e h base v wr news tch := by
  have hargs : ∀ x ∈ c.args.toList, x ∈ (Op.call c).operands.toList := fun x hx => by simp [Op.operands, Call.operands] at hx ⊢; exact .inr hx
  unfold aopCall at hk
  split at hk
  · rename_i fo hcal
    split at hk
    · rename_i f first cap hfo
      obtain ⟨v, wr, news, tch, k1, k2, k3⟩ := callS_ok hΓ hk
      refine ⟨v, wr, news, tch, k1, fun g φ h2 a w K' Q hr ho ht hn hm hK => ?_⟩
      have hfr := ho fo (by simp [Op.operands, Call.operands, hcal])
      rw [hfo] at hfr
      simp only [R] at hfr
      obtain ⟨x, y, hx, hy, hfv⟩ := hfr
      unfold Oper.wp
      have hrun := callF_ok k2 hcal hfv ty w
      have : (execOp a.eval ⟨dst, .call c, ty, pos, aft, gd⟩).run C.P w = .ok (.enter f (x ++ c.args.toList.map a.eval ++ y).toArray) w := hrun
      rw [this, Oper.upon_enter]
      refine (k3 g φ h2 w _ hr ((hx.append (argsS_R fun z hz => ho z (hargs z hz))).append hy) ht hn hm).mono ?_
      rintro e w' ⟨u, φ', rfl, q1, q2, q3, q4⟩
      exact hK φ' u w' q4 q1 q2 q3
    · cases hk
  · rename_i hcal
    split at hk
    · rename_i x t hx ht
      split at hk
      · rename_i n hn
        refine ⟨_, _, _, _, hk, OpOK.value fun g φ h2 a w hr ho _ => ⟨.int .i64 n, ?_, by simp [R]⟩⟩
        have := lenS_ok (P := C.P) (w := w) (ty := ty) hn (ho x (hargs x (by rw [hx]; simp)))
        have e1 : c.args = #[x] := by apply Array.ext'; simpa using hx
        have e2 : c.argTypes = #[t] := by apply Array.ext'; simpa using ht
        simp [execOp, resolve, hcal, invoke, builtin, e1, e2, this]
      · cases hk
    · cases hk
  · rename_i hcal
    split at hk
    · rename_i b l hb
      split at hk
      · rename_i n hn
        refine ⟨_, _, _, _, hk, OpOK.value fun g φ h2 a w hr ho _ => ⟨.int .i64 n, ?_, by simp [R]⟩⟩
        have hR := argsS_R (φ := φ) (e := e) (a := a) fun z hz => ho z (hargs z hz)
        rw [hb] at hR
        simp only [RL] at hR
        obtain ⟨v, r, e1, e2, e3⟩ := hR
        simp only [R] at e2
        subst e2
        have := minS_ok (P := C.P) (w := w) hn e3
        have e4 : c.args.map a.eval = (.int .i64 b :: r : List Value).toArray := by apply Array.ext'; simpa using e1
        simp [execOp, resolve, hcal, invoke, builtin, e4, Builtin.min_, this]
      · cases hk
    · cases hk
  · rename_i hcal
    split at hk
    · rename_i b l hb
      split at hk
      · rename_i n hn
        refine ⟨_, _, _, _, hk, OpOK.value fun g φ h2 a w hr ho _ => ⟨.int .i64 n, ?_, by simp [R]⟩⟩
        have hR := argsS_R (φ := φ) (e := e) (a := a) fun z hz => ho z (hargs z hz)
        rw [hb] at hR
        simp only [RL] at hR
        obtain ⟨v, r, e1, e2, e3⟩ := hR
        simp only [R] at e2
        subst e2
        have := maxS_ok (P := C.P) (w := w) hn e3
        have e4 : c.args.map a.eval = (.int .i64 b :: r : List Value).toArray := by apply Array.ext'; simpa using e1
        simp [execOp, resolve, hcal, invoke, builtin, e4, Builtin.max_, this]
      · cases hk
    · cases hk
  · rename_i hcal
    split at hk
    · rename_i s x t u hsx htu
      cases htu' : Nat.beq t u with
      | false => simp [htu'] at hk
      | true =>
        simp only [htu', cond_true] at hk
        have htu' := Nat.eq_of_beq_eq_true htu'
        subst htu'
        obtain ⟨v, wr, news, tch, k1, k2⟩ := appendS_ok hk
        refine ⟨v, wr, news, tch, k1, fun g φ h2 a w K' Q hr ho ht hn hm hK => ?_⟩
        obtain ⟨φ', q, w', q1, q2, q3, q4, q5⟩ := k2 g φ h2 w (a.eval s) (a.eval x) ty hr (ho s (hargs s (by rw [hsx]; simp))) (ho x (hargs x (by rw [hsx]; simp))) ht hn hm
        have e1 : c.args = #[s, x] := by apply Array.ext'; simpa using hsx
        have e2 : c.argTypes = #[t, t] := by apply Array.ext'; simpa using htu
        unfold Oper.wp
        have : (execOp a.eval ⟨dst, .call c, ty, pos, aft, gd⟩).run C.P w = .ok (.value q) w' := by
          simp [execOp, resolve, hcal, invoke, builtin, e1, e2, q1]
        rw [this, Oper.upon_value]
        exact hK φ' q w' q2 q3 q4 q5
    · cases hk
  · cases hk

theorem aop_ok {C : Ctx} (hC : EqOK C) (hΓ : GSound C) {o : Oper} {e : Operand → SV} {h : Heap} {base : Nat} {K : KO} (hk : aop C o e h base K) :
    ∃ v wr news tch, K v wr news tch ∧ OpOK C.P o e h base v wr news tch := by
  obtain ⟨dst, op, ty, pos, aft, gd⟩ := o
  unfold aop at hk
  dsimp only at hk
  split at hk
  · -- move
    exact ⟨_, _, _, _, hk, OpOK.value fun g φ h2 a w hr ho _ => ⟨_, by simp only [execOp]; rfl, ho _ (by simp [Op.operands])⟩⟩
  · -- assign
    exact ⟨_, _, _, _, hk, OpOK.value fun g φ h2 a w hr ho _ => ⟨_, by simp only [execOp]; rfl, ho _ (by simp [Op.operands])⟩⟩
  · -- pick
    rename_i c a b
    split at hk
    · rename_i t ht
      cases t
      all_goals
        simp only [cond_true, cond_false] at hk
        refine ⟨_, _, _, _, hk, OpOK.value fun g φ h2 ac w hr ho _ => ⟨_, ?_, ho _ (by simp [Op.operands])⟩⟩
        have := ho c (by simp [Op.operands])
        rw [ht] at this
        simp only [R] at this
        simp [execOp, asBool, this]
    · cases hk
  · -- alloc
    rename_i t
    split at hk
    · rename_i z hz
      refine ⟨_, _, _, _, hk, OpOK.new fun g φ h2 a w hr ho => ⟨z.cells, .pointer (some ⟨w.heap.size, 0, none⟩), ?_, by simp, by show 1 ≤ maxLen; unfold maxLen; omega, ?_, fun φ' hφ => ?_⟩⟩
      · simp [execOp, Instr.alloc, run_zeroValue' hz, newVar, newRow]
      · have := one_row (RL_ofCells φ z.cells.toList)
        simpa using this
      · simp only [R]; exact ⟨_, hφ, by simp⟩
    · cases hk
  · -- box
    rename_i t x
    cases hc : (e x).cellsOk with
    | false => simp [hc] at hk
    | true =>
      simp only [hc, cond_true] at hk
      refine ⟨_, _, _, _, hk, OpOK.new fun g φ h2 a w hr ho => ?_⟩
      have hx := (ho x (by simp [Op.operands])).cells hc
      have hl := hx.length
      refine ⟨(a.eval x).cells, .pointer (some ⟨w.heap.size, 0, none⟩), ?_, by simp at hl ⊢; omega, by show 1 ≤ maxLen; unfold maxLen; omega, ?_, fun φ' hφ => ?_⟩
      · simp [execOp, Instr.box, newVar, newRow]
      · have := one_row hx
        simpa using this
      · simp only [R]; exact ⟨_, hφ, by simp⟩
  · -- build
    rename_i t parts
    split at hk
    · rename_i cs hcs
      refine ⟨_, _, _, _, hk, OpOK.value fun g φ h2 a w hr ho _ => ?_⟩
      have hmem : ∀ x ∈ (parts.toList.map (·.2)), R φ (e x) (a.eval x) := fun x hx => ho x (by simp [Op.operands] at hx ⊢; exact hx)
      obtain ⟨q, q1, q2⟩ := buildS_ok (P := C.P) hcs (partsS_fst e a.eval parts.toList) (partsS_snd parts.toList hmem) w
      refine ⟨_, ?_, by simp only [R]; exact ⟨q, q2, rfl⟩⟩
      have e1 : parts.map (fun (i, x) => (i, a.eval x)) = (parts.toList.map fun (i, x) => (i, a.eval x)).toArray := by apply Array.ext'; simp
      simp only [execOp, e1]
      simp [q1]
    · cases hk
  · -- buildSlice
    rename_i t len parts
    split at hk
    · rename_i el ht
      split at hk
      · rename_i i z hi hz
        cases hc : Nat.ble 1 i.size && Nat.ble (len * i.size) 16777216 && Nat.beq z.cells.size i.size with
        | false => simp [hc] at hk
        | true =>
          simp only [hc, cond_true] at hk
          simp only [Bool.and_eq_true] at hc
          have c1 := Nat.le_of_ble_eq_true hc.1.1
          have c2 := Nat.le_of_ble_eq_true hc.1.2
          have c3 := Nat.eq_of_beq_eq_true hc.2
          split at hk
          · rename_i cs hcs
            rw [frcA_eq] at hk
            refine ⟨_, _, _, _, hk, OpOK.new fun g φ h2 a w hr ho => ?_⟩
            have hmem : ∀ x ∈ (parts.toList.map (·.2)), R φ (e x) (a.eval x) := fun x hx => ho x (by simp [Op.operands] at hx ⊢; exact hx)
            obtain ⟨q, q1, q2, q3⟩ := buildSlice_ok (P := C.P) ht hi hz c1 c2 c3 hcs (partsS_fst e a.eval parts.toList) (partsS_snd parts.toList hmem) w
            have e1 : parts.map (fun (i, x) => (i, a.eval x)) = (parts.toList.map fun (i, x) => (i, a.eval x)).toArray := by apply Array.ext'; simp
            have q4 := q2.length
            have hlen : len ≤ maxLen := by
              have := Nat.le_mul_of_pos_right len (show 0 < i.size by omega)
              unfold maxLen; omega
            refine ⟨q.toArray, .slice (some ⟨w.heap.size, 0, none⟩) len len, ?_, by simpa using q3, hlen, fun r hr => ⟨?_, ?_⟩, fun φ' hφ => ?_⟩
            · simp only [execOp, e1]
              simp [q1]
            · exact (q2.drop _).take _
            · dsimp only at hr ⊢
              have := seg_le (sz := i.size) hr
              simp; omega
            · simp only [R]; exact ⟨_, hφ, by simp, by simp⟩
          · cases hk
      · cases hk
    · cases hk
  · -- load
    rename_i t a0
    split at hk
    · rename_i id row sz fld hp
      split at hk
      · rename_i b hb
        cases hc : decide (row < b.n) && Nat.beq sz b.sz with
        | false => simp [hc] at hk
        | true =>
          simp only [hc, cond_true] at hk
          simp only [Bool.and_eq_true, decide_eq_true_eq] at hc
          have c2 := Nat.eq_of_beq_eq_true hc.2
          subst c2
          split at hk
          · rename_i s hs
            refine ⟨_, _, _, _, hk, OpOK.value fun g φ h2 a w hr ho ht => ?_⟩
            have := ho a0 (by simp [Op.operands])
            rw [hp] at this
            simp only [R] at this
            obtain ⟨l, hl, hv⟩ := this
            obtain ⟨l', hl', hb'⟩ := hr.blk id b (by rw [ht id (by simp)]; exact hb)
            obtain rfl : l' = l := by rw [hl] at hl'; simpa using hl'.symm
            obtain ⟨u, u1, u2⟩ := loadS_ok (P := C.P) hs hb' hc.1
            exact ⟨u, by simp [execOp, hv, u1], u2⟩
          · cases hk
      · cases hk
    · cases hk
  · -- store
    rename_i t a0 x
    split at hk
    · rename_i id row sz fld i hp hi
      split at hk
      · rename_i b hb
        cases hc : b.rw && decide (row < b.n) && Nat.beq sz b.sz && (e x).cellsOk && Nat.beq (e x).cells.length i.size && Nat.ble (fld + (e x).cells.length) b.sz && (e x).cells.all SV.one with
        | false => simp [hc] at hk
        | true =>
          simp only [hc, cond_true] at hk
          simp only [Bool.and_eq_true, decide_eq_true_eq] at hc
          obtain ⟨⟨⟨⟨⟨⟨c1, c2⟩, c3⟩, c4⟩, c5⟩, c6⟩, c7⟩ := hc
          have c3 := Nat.eq_of_beq_eq_true c3
          have c5 := Nat.eq_of_beq_eq_true c5
          have c6 := Nat.le_of_ble_eq_true c6
          subst c3
          refine ⟨_, _, _, _, hk, fun g φ h2 a w K' Q hr ho ht hn hm hK => ?_⟩
          have hpt := ho a0 (by simp [Op.operands])
          rw [hp] at hpt
          simp only [R] at hpt
          obtain ⟨l, hl, hv⟩ := hpt
          have hx := (ho x (by simp [Op.operands])).cells c4
          obtain ⟨w', s1, s2⟩ := hr.store (P := C.P) (by rw [ht id (by simp)]; exact hb) c1 hl c2 hx c7 c6
          unfold Oper.wp
          have hlen := hx.length
          have hsz : (a.eval x).cells.size = i.size := by simpa [c5] using hlen
          have : (execOp a.eval ⟨dst, .store t a0 x, ty, pos, aft, gd⟩).run C.P w = .ok .skip w' := by
            simp [execOp, hv, Instr.storeAt, Instr.sureAddr, storeVar, run_sizeOf' hi, hsz, s1]
          rw [this, Oper.upon_skip]
          exact hK φ undef w' (by rw [updH_wr]; exact s2) (Phi.le_refl φ) (fun _ => .inl rfl) (by simp [R])
      · cases hk
    · cases hk
  · -- nilCheck
    rename_i x
    split at hk
    · rename_i id row sz fld hp
      refine ⟨_, _, _, _, hk, OpOK.value fun g φ h2 a w hr ho ht => ?_⟩
      have hx := ho x (by simp [Op.operands])
      have hx' := hx
      rw [hp] at hx
      simp only [R] at hx
      obtain ⟨l, hl, hv⟩ := hx
      exact ⟨a.eval x, by simp [execOp, hv], hx'⟩
    · rename_i f x1 x2 hp
      refine ⟨_, _, _, _, hk, OpOK.value fun g φ h2 a w hr ho ht => ?_⟩
      have hx := ho x (by simp [Op.operands])
      have hx' := hx
      rw [hp] at hx
      simp only [R] at hx
      obtain ⟨y1, y2, _, _, hv⟩ := hx
      exact ⟨a.eval x, by simp [execOp, hv], hx'⟩
    · cases hk
  · -- binOp
    rename_i op t x y t2
    obtain ⟨v, hv, hk2⟩ := binS_ok hC hk x y
    refine ⟨_, _, _, _, hv, OpOK.value fun g φ h2 a w hr ho ht => ?_⟩
    obtain ⟨r, r1, r2⟩ := hk2 φ _ _ w (ho x (by simp [Op.operands])) (ho y (by simp [Op.operands]))
    refine ⟨r, ?_, r2⟩
    simp only [execOp, Sem.run_bind] at r1 ⊢
    rw [r1]
    rfl
  · -- unOp
    rename_i op t x
    split at hk
    · rename_i b hb
      refine ⟨_, _, _, _, hk, OpOK.value fun g φ h2 a w hr ho ht => ⟨.bool (!b), ?_, by simp [R]⟩⟩
      have hx := ho x (by simp [Op.operands])
      rw [hb] at hx
      simp only [R] at hx
      simp [execOp, hx, Op.unary]
    · rename_i k n hb
      refine ⟨_, _, _, _, hk, OpOK.value fun g φ h2 a w hr ho ht => ⟨.int k (k.wrap (0 - n)), ?_, by simp [R]⟩⟩
      have hx := ho x (by simp [Op.operands])
      rw [hb] at hx
      simp only [R] at hx
      simp [execOp, hx, Op.unary, Op.intArith]
    · cases hk
  · -- makeFunc
    rename_i fn first cap
    refine ⟨_, _, _, _, hk, OpOK.value fun g φ h2 a w hr ho ht => ⟨_, by simp only [execOp, Instr.makeFunc]; rfl, ?_⟩⟩
    simp only [R]
    refine ⟨_, _, argsS_R fun x hx => ho x (by simp [Op.operands] at hx ⊢; exact .inl hx), argsS_R fun x hx => ho x (by simp [Op.operands] at hx ⊢; exact .inr hx), ?_⟩
    congr 1 <;> (apply Array.ext'; simp)
  · -- slice
    rename_i t x lo hi
    cases hst : isSliceT C.P t with
    | false => simp [hst] at hk
    | true =>
      simp only [hst, cond_true] at hk
      split at hk
      · rename_i el ht
        have hlo : ∀ {φ : Phi} {a : Act}, (∀ z ∈ (Op.slice t x lo hi none).operands.toList, R φ (e z) (a.eval z)) → (∀ y, lo = some y → R φ (e y) (a.eval y)) ∧ (∀ y, hi = some y → R φ (e y) (a.eval y)) := by
          intro φ a ho
          refine ⟨fun y hy => ho y (by subst hy; simp [Op.operands]), fun y hy => ho y (by subst hy; simp [Op.operands])⟩
        split at hk
        · rename_i i id row sz len hi' hx
          cases hs : Nat.beq sz i.size with
          | false => simp [hs] at hk
          | true =>
            simp only [hs, cond_true] at hk
            have hs := Nat.eq_of_beq_eq_true hs
            obtain ⟨v, v1, v2⟩ := sliceS_ok (P := C.P) ht hi' hk (fun id' row' sz' len' he => by rw [hx] at he; cases he; exact hs)
            refine ⟨_, _, _, _, v1, OpOK.value fun g φ h2 a w hr ho _ => ?_⟩
            obtain ⟨q, q1, q2⟩ := v2 φ a w _ (ho x (by simp [Op.operands])) (hlo ho).1 (hlo ho).2
            exact ⟨q, by simp [execOp, q1], q2⟩
        · rename_i i hi' hx
          obtain ⟨v, v1, v2⟩ := sliceS_ok (P := C.P) ht hi' hk (fun id' row' sz' len' he => by rw [hx] at he; cases he)
          refine ⟨_, _, _, _, v1, OpOK.value fun g φ h2 a w hr ho _ => ?_⟩
          obtain ⟨q, q1, q2⟩ := v2 φ a w _ (ho x (by simp [Op.operands])) (hlo ho).1 (hlo ho).2
          exact ⟨q, by simp [execOp, q1], q2⟩
        · rename_i i hi' hx
          obtain ⟨v, v1, v2⟩ := sliceS_ok (P := C.P) ht hi' hk (fun id' row' sz' len' he => by rw [hx] at he; cases he)
          refine ⟨_, _, _, _, v1, OpOK.value fun g φ h2 a w hr ho _ => ?_⟩
          obtain ⟨q, q1, q2⟩ := v2 φ a w _ (ho x (by simp [Op.operands])) (hlo ho).1 (hlo ho).2
          exact ⟨q, by simp [execOp, q1], q2⟩
        · cases hk
      · cases hk
  · -- fieldAddr
    rename_i s x f
    split at hk
    · rename_i fs hs
      split at hk
      · rename_i fd id row sz fld hfd hx
        split at hk
        · rename_i i hi
          cases hz : Nat.beq i.size 0 with
          | true => simp [hz] at hk
          | false =>
            simp only [hz, cond_false] at hk
            have hz : ¬ i.size = 0 := by intro h; rw [h] at hz; simp at hz
            refine ⟨_, _, _, _, hk, OpOK.value fun g φ h2 a w hr ho _ => ?_⟩
            have hp := ho x (by simp [Op.operands])
            rw [hx] at hp
            simp only [R] at hp
            obtain ⟨l, hl, hv⟩ := hp
            refine ⟨.pointer (some ⟨l.blk, l.off + (row * sz + (fld + fd.offset)), none⟩), ?_, by simp only [R]; exact ⟨l, hl, rfl⟩⟩
            simp [execOp, hv, Instr.fieldAt, Instr.sureAddr, run_underlying hs, hfd, fieldPlace, run_sizeOf' hi, hz, add_addr, Nat.add_assoc]
        · cases hk
      · cases hk
    · cases hk
  · -- field
    rename_i s x f
    split at hk
    · rename_i fs hs
      split at hk
      · rename_i fd l hfd hx
        split at hk
        · rename_i v hv
          refine ⟨_, _, _, _, hk, OpOK.value fun g φ h2 a w hr ho _ => ?_⟩
          have hp := ho x (by simp [Op.operands])
          rw [hx] at hp
          simp only [R] at hp
          obtain ⟨vs, hvs, hq⟩ := hp
          obtain ⟨u, u1, u2⟩ := partS_ok hv hvs w
          exact ⟨u, by simp [execOp, hq, Instr.field, asAgg, run_underlying hs, hfd, u1], u2⟩
        · cases hk
      · cases hk
    · cases hk
  · -- indexAddr
    rename_i t x ix
    split at hk
    · rename_i n el ht
      split at hk
      · rename_i id row sz fld k i inf hx hi hinf
        cases hc : decide (0 ≤ i) && decide (i < n) with
        | false => simp [hc] at hk
        | true =>
          simp only [hc, cond_true] at hk
          simp only [Bool.and_eq_true, decide_eq_true_eq] at hc
          refine ⟨_, _, _, _, hk, OpOK.value fun g φ h2 a w hr ho _ => ?_⟩
          have hp := ho x (by simp [Op.operands])
          rw [hx] at hp
          simp only [R] at hp
          obtain ⟨l, hl, hv⟩ := hp
          have hq := ho ix (by simp [Op.operands])
          rw [hi] at hq
          simp only [R] at hq
          refine ⟨.pointer (some ⟨l.blk, l.off + (row * sz + (fld + i.toNat * inf.size)), none⟩), ?_, by simp only [R]; exact ⟨l, hl, rfl⟩⟩
          simp [execOp, hv, hq, Instr.indexAt, Instr.sureAddr, asIntOf, run_underlying ht, run_sizeOf' hinf, add_addr, Nat.add_assoc, hc.1, hc.2]
      · cases hk
    · rename_i el ht
      split at hk
      · rename_i id row sz len k i inf hx hi hinf
        cases hc : Nat.beq inf.size sz && (decide (0 ≤ i) && decide (i < len)) with
        | false => simp [hc] at hk
        | true =>
          simp only [hc, cond_true] at hk
          simp only [Bool.and_eq_true, decide_eq_true_eq] at hc
          have c1 := Nat.eq_of_beq_eq_true hc.1
          subst c1
          refine ⟨_, _, _, _, hk, OpOK.value fun g φ h2 a w hr ho _ => ?_⟩
          have hp := ho x (by simp [Op.operands])
          rw [hx] at hp
          simp only [R] at hp
          obtain ⟨l, hl, _, hv⟩ := hp
          have hq := ho ix (by simp [Op.operands])
          rw [hi] at hq
          simp only [R] at hq
          refine ⟨.pointer (some ⟨l.blk, l.off + ((row + i.toNat) * inf.size + 0), none⟩), ?_, by simp only [R]; exact ⟨l, hl, rfl⟩⟩
          simp [execOp, hv, hq, Instr.indexAt, asIntOf, run_underlying ht, run_sizeOf' hinf, add_addr, Nat.add_assoc, Nat.add_mul, hc.2.1, hc.2.2]
      · cases hk
    · cases hk
  · -- index
    rename_i t x ix
    split at hk
    · rename_i n el ht
      split at hk
      · rename_i l k i inf hx hi hinf
        cases hc : decide (0 ≤ i) && decide (i < n) with
        | false => simp [hc] at hk
        | true =>
          simp only [hc, cond_true] at hk
          simp only [Bool.and_eq_true, decide_eq_true_eq] at hc
          split at hk
          · rename_i v hv
            refine ⟨_, _, _, _, hk, OpOK.value fun g φ h2 a w hr ho _ => ?_⟩
            have hp := ho x (by simp [Op.operands])
            rw [hx] at hp
            simp only [R] at hp
            obtain ⟨vs, hvs, hq⟩ := hp
            have hq' := ho ix (by simp [Op.operands])
            rw [hi] at hq'
            simp only [R] at hq'
            obtain ⟨u, u1, u2⟩ := partS_ok hv hvs w
            exact ⟨u, by simp [execOp, hq, hq', Instr.index, asIntOf, run_underlying ht, run_sizeOf' hinf, hc.1, hc.2, u1], u2⟩
          · cases hk
      · cases hk
    · cases hk
  · -- extract
    rename_i x i
    split at hk
    · rename_i l hx
      split at hk
      · rename_i v hv
        refine ⟨_, _, _, _, hk, OpOK.value fun g φ h2 a w hr ho _ => ?_⟩
        have hp := ho x (by simp [Op.operands])
        rw [hx] at hp
        simp only [R] at hp
        obtain ⟨vs, hvs, hq⟩ := hp
        obtain ⟨u, u1, u2⟩ := hvs.get hv
        exact ⟨u, by simp [execOp, hq, Instr.extract, u1], u2⟩
      · cases hk
    · cases hk
  · -- call
    exact aopCall_ok hΓ hk _ _ _ _ _
  · cases hk


abbrev LHeap := List (Option Blk)
def hget : LHeap → Heap
  | [], _ => none
  | b :: _, 0 => b
  | _ :: l, n + 1 => hget l n
def wrL (hp : LHeap) : Wr → LHeap
  | [] => hp
  | (i, b) :: r => (wrL hp r).set i b
def newsL : List Blk → LHeap
  | [] => []
  | b :: l => some b :: newsL l
def updL (hp : LHeap) (wr : Wr) (news : List Blk) : LHeap := wrL hp wr ++ newsL news
def putS (fr : List SV) (dst : Option Tmp) (v : SV) : List SV := match dst with | some d => fr.set d v | none => fr

theorem hget_eq : ∀ (hp : LHeap) (id : Nat), hget hp id = (hp[id]?).getD none
  | [], _ => by simp [hget]
  | b :: l, 0 => by simp [hget]
  | b :: l, n + 1 => by simp [hget, hget_eq l n]
theorem wrL_length (hp : LHeap) : ∀ wr : Wr, (wrL hp wr).length = hp.length
  | [] => rfl
  | (i, b) :: r => by simp [wrL, wrL_length hp r]
theorem newsL_eq : ∀ l : List Blk, newsL l = l.map some
  | [] => rfl
  | b :: l => by simp [newsL, newsL_eq l]
theorem updL_length (hp : LHeap) (wr : Wr) (news : List Blk) : (updL hp wr news).length = hp.length + news.length := by simp [updL, wrL_length, newsL_eq]
theorem wrL_get (hp : LHeap) (id : Nat) (hid : id < hp.length) : ∀ wr : Wr, (wrL hp wr)[id]? = ((lk wr id).map some).getD hp[id]?
  | [] => by simp [wrL, lk]
  | (i, b) :: r => by
    simp only [wrL, lk, List.getElem?_set]
    by_cases h : i = id
    · subst h; simp [wrL_length, hid]
    · rw [if_neg h, if_neg (Ne.symm h)]; exact wrL_get hp id hid r
theorem hget_updL {hp : LHeap} {wr : Wr} {news : List Blk} {id : Nat} {b : Blk} (h : hget (updL hp wr news) id = some b) : updH (hget hp) hp.length wr news id = some b := by
  rw [hget_eq] at h
  unfold updL at h
  unfold updH
  by_cases h1 : id < hp.length
  · rw [if_neg (by omega)]
    rw [List.getElem?_append_left (by rw [wrL_length]; exact h1), wrL_get hp id h1] at h
    rw [hget_eq]
    cases hl : lk wr id with
    | some c => simpa [hl] using h
    | none => simpa [hl] using h
  · rw [List.getElem?_append_right (by rw [wrL_length]; omega), wrL_length, newsL_eq] at h
    by_cases h2 : id < hp.length + news.length
    · rw [if_pos ⟨by omega, h2⟩]
      have h3 : id - hp.length < news.length := by omega
      rw [List.getElem?_map, List.getElem?_eq_getElem h3] at h
      rw [List.getElem?_eq_getElem h3]
      simpa using h
    · rw [List.getElem?_eq_none (by simp; omega)] at h
      cases h
theorem hget_none {hp : LHeap} {id : Nat} (h : hp.length ≤ id) : hget hp id = none := by
  rw [hget_eq, List.getElem?_eq_none h]; rfl

/-- The world and the frame hold what the lists say. -/
structure LRep (g : Gh) (φ : Phi) (fr : List SV) (hp : LHeap) (a : Act) (w : World) : Prop where
  hr : HRep g φ (hget hp) w
  fr : RL φ fr a.tmps.toList
  df : a.defers = []
  dom : ∀ id, hp.length ≤ id → φ id = none
  m0 : g.m0 ≤ hp.length

theorem RL.put {φ : Phi} {fr : List SV} {a : Act} (h : RL φ fr a.tmps.toList) (dst : Option Tmp) {v : SV} {u : Value} (hv : R φ v u) : RL φ (putS fr dst v) (a.put dst u).tmps.toList := by
  cases dst with
  | none => exact h
  | some d => simp only [putS, Act.put, Array.toList_setIfInBounds]; exact h.set d hv
theorem put_defers (a : Act) (dst : Option Tmp) (u : Value) : (a.put dst u).defers = a.defers := by cases dst <;> rfl

theorem LRep.step {g : Gh} {φ φ' : Phi} {fr : List SV} {hp : LHeap} {a : Act} {w w' : World} (k : LRep g φ fr hp a w) {wr : Wr} {news : List Blk} (hr : HRep g φ' (updH (hget hp) hp.length wr news) w') (hle : φ.le φ')
    (hex : ∀ id, φ' id = φ id ∨ (hp.length ≤ id ∧ id < hp.length + news.length)) {v : SV} {u : Value} (hv : R φ' v u) (dst : Option Tmp) : LRep g φ' (putS fr dst v) (updL hp wr news) (a.put dst u) w' := by
  refine ⟨hr.forget _ fun i b => hget_updL, (k.fr.mono hle).put dst hv, by rw [put_defers]; exact k.df, fun id hid => ?_, by rw [updL_length]; have := k.m0; omega⟩
  rw [updL_length] at hid
  rcases hex id with h | h
  · rw [h]; exact k.dom id (by omega)
  · omega

/-- What stands where nothing was reckoned. -/
def notYet : SV := .raw undef
/-- An operation is skipped. -/
theorem LRep.skip {g : Gh} {φ : Phi} {fr : List SV} {hp : LHeap} {a : Act} {w : World} (k : LRep g φ fr hp a w) (dst : Option Tmp) : LRep g φ (putS fr dst notYet) hp (a.put dst undef) w :=
  ⟨k.hr, k.fr.put dst (by simp [notYet, R]), by rw [put_defers]; exact k.df, k.dom, k.m0⟩

abbrev KF := List SV → LHeap → Prop
/-- The value that a guard looks at. -/
def guardV (ops : List Oper) (g : Nat) (fr : List SV) : Option Bool :=
  match ops[g]? with
  | some o => match o.dst with
    | some t => match fr[t]? with
      | some (.bool b) => some b
      | _ => none
    | none => none
  | none => none

/-- Nothing was reckoned there. -/
def guardU (ops : List Oper) (g : Nat) (fr : List SV) : Bool :=
  match ops[g]? with
  | some o => match o.dst with
    | some t => match fr[t]? with
      | some (.raw (.tuple _)) => true
      | _ => false
    | none => false
  | none => false
/-- The value that was looked at is known then. -/
def setG (ops : List Oper) (g : Nat) (fr : List SV) (b : Bool) : List SV :=
  match ops[g]? with
  | some o => match o.dst with
    | some t => fr.set t (.bool b)
    | none => fr
  | none => fr
theorem setG_eq {ops : List Oper} {g : Nat} {fr : List SV} {b : Bool} (h : guardV ops g fr = some b) : setG ops g fr b = fr := by
  unfold guardV at h
  unfold setG
  split at h
  · rename_i o ho
    try rw [ho]
    try dsimp only
    split at h
    · rename_i t ht
      try rw [ht]
      try dsimp only
      split at h
      · rename_i c hc
        simp only [Option.some.injEq] at h
        subst h
        apply List.ext_getElem?
        intro i
        rw [List.getElem?_set]
        split
        · rename_i e; subst e
          split
          · exact hc.symm
          · rename_i hlt; rw [List.getElem?_eq_none (by omega)]
        · rfl
      · cases h
    · cases h
  · cases h
/-! What is laid by is reckoned out first: so the kernel does it once. -/
def frcL : List SV → (List SV → Prop) → Prop
  | [], K => K []
  | s :: l, K => frcL l fun l => K (s :: l)
def frcB (b : Blk) (K : Blk → Prop) : Prop :=
  match b with
  | ⟨sz, n, rd, rw, ty⟩ => bif Nat.beq sz 2 then K ⟨sz, n, rd, rw, ty⟩ else bif Nat.beq n 1 then frcA (rd 0) fun l => K ⟨sz, n, fun r => bif Nat.beq r 0 then l else rd r, rw, ty⟩ else K ⟨sz, n, rd, rw, ty⟩
def frcO : Option Blk → (Option Blk → Prop) → Prop
  | none, K => K none
  | some b, K => frcB b fun b => K (some b)
def frcW : Wr → (Wr → Prop) → Prop
  | [], K => K []
  | (i, b) :: l, K => frcO b fun b => frcW l fun l => K ((i, b) :: l)
def frcNs : List Blk → (List Blk → Prop) → Prop
  | [], K => K []
  | b :: l, K => frcB b fun b => frcNs l fun l => K (b :: l)
def frcH : LHeap → (LHeap → Prop) → Prop
  | [], K => K []
  | b :: l, K => frcH l fun l => K (b :: l)
theorem frcL_eq : ∀ (l : List SV) (K : List SV → Prop), frcL l K = K l
  | [], _ => rfl
  | s :: l, K => by simp only [frcL]; rw [frcL_eq l]
theorem frcB_eq (b : Blk) (K : Blk → Prop) : frcB b K = K b := by
  obtain ⟨sz, n, rd, rw', ty⟩ := b
  unfold frcB
  dsimp only
  cases Nat.beq sz 2 with
  | true => rfl
  | false =>
  rw [cond_false]
  cases h : Nat.beq n 1 with
  | false => simp
  | true =>
    simp only [cond_true]
    rw [frcA_eq]
    congr 2
    funext r
    cases h2 : Nat.beq r 0 with
    | true => rw [Nat.eq_of_beq_eq_true h2]; rfl
    | false => rfl
theorem frcO_eq (b : Option Blk) (K : Option Blk → Prop) : frcO b K = K b := by
  cases b with
  | none => rfl
  | some b => simp only [frcO]; rw [frcB_eq]
theorem frcW_eq : ∀ (l : Wr) (K : Wr → Prop), frcW l K = K l
  | [], _ => rfl
  | (i, b) :: l, K => by simp only [frcW]; rw [frcO_eq, frcW_eq l]
theorem frcNs_eq : ∀ (l : List Blk) (K : List Blk → Prop), frcNs l K = K l
  | [], _ => rfl
  | b :: l, K => by simp only [frcNs]; rw [frcB_eq, frcNs_eq l]
theorem frcH_eq : ∀ (l : LHeap) (K : LHeap → Prop), frcH l K = K l
  | [], _ => rfl
  | b :: l, K => by simp only [frcH]; rw [frcH_eq l]
/-- The next state. -/
def nextS (fr : List SV) (dst : Option Tmp) (hp : LHeap) (v : SV) (wr : Wr) (news : List Blk) (K : List SV → LHeap → SV → Wr → List Blk → Prop) : Prop :=
  frc v fun v => frcW wr fun wr => frcNs news fun news => frcL (putS fr dst v) fun fr => frcH (updL hp wr news) fun hp => K fr hp v wr news
theorem nextS_eq (fr : List SV) (dst : Option Tmp) (hp : LHeap) (v : SV) (wr : Wr) (news : List Blk) (K : List SV → LHeap → SV → Wr → List Blk → Prop) : nextS fr dst hp v wr news K = K (putS fr dst v) (updL hp wr news) v wr news := by
  unfold nextS
  rw [frc_eq, frcW_eq, frcNs_eq, frcL_eq, frcH_eq]
def evalOps (C : Ctx) (ops : List Oper) : List Oper → List SV → LHeap → KF → Prop
  | [], fr, hp, k => k fr hp
  | o :: rest, fr, hp, k =>
    match o.guard with
    | none => aop C o (evalO fr) (hget hp) hp.length fun v wr news _ => nextS fr o.dst hp v wr news fun fr hp _ _ _ => evalOps C ops rest fr hp k
    | some (g, want) =>
      match guardV ops g fr with
      | some b =>
        match want with
        | true => bif b then (aop C o (evalO (setG ops g fr true)) (hget hp) hp.length fun v wr news _ => nextS (setG ops g fr true) o.dst hp v wr news fun fr hp _ _ _ => evalOps C ops rest fr hp k) else evalOps C ops rest (putS (setG ops g fr false) o.dst notYet) hp k
        | false => bif b then evalOps C ops rest (putS (setG ops g fr true) o.dst notYet) hp k else (aop C o (evalO (setG ops g fr false)) (hget hp) hp.length fun v wr news _ => nextS (setG ops g fr false) o.dst hp v wr news fun fr hp _ _ _ => evalOps C ops rest fr hp k)
      | none => bif guardU ops g fr then evalOps C ops rest (putS fr o.dst notYet) hp k else False

theorem guardV_ok {ops : List Oper} {g : Nat} {fr : List SV} {b : Bool} (h : guardV ops g fr = some b) {φ : Phi} {a : Act} (hr : RL φ fr a.tmps.toList) : yielded ops.toArray a.tmps g = some b := by
  unfold guardV at h
  split at h
  · rename_i o ho
    split at h
    · rename_i t ht
      split at h
      · rename_i c hc
        simp only [Option.some.injEq] at h
        subst h
        obtain ⟨v, hv, hr'⟩ := hr.get hc
        simp only [R] at hr'
        subst hr'
        simp only [Array.getElem?_toList] at hv
        simp [yielded, ho, ht, hv]
      · cases h
    · cases h
  · cases h

theorem guardU_ok {ops : List Oper} {g : Nat} {fr : List SV} (h : guardU ops g fr = true) {φ : Phi} {a : Act} (hr : RL φ fr a.tmps.toList) : yielded ops.toArray a.tmps g = none := by
  unfold guardU at h
  split at h
  · rename_i o ho
    split at h
    · rename_i t ht
      split at h
      · rename_i c hc
        obtain ⟨v, hv, hr'⟩ := hr.get hc
        simp only [R] at hr'
        subst hr'
        simp only [Array.getElem?_toList] at hv
        simp [yielded, ho, ht, hv]
      · cases h
    · cases h
  · cases h

section
variable {C : Ctx} (hC : EqOK C) (hΓ : GSound C)
include hC hΓ

theorem step_op {g : Gh} {φ : Phi} {fr : List SV} {hp : LHeap} {a : Act} {w : World} (k : LRep g φ fr hp a w) {o : Oper} {K : KF} {Kw : Act → World → Prop} {Q : Exit → Act → World → Prop}
    (h : aop C o (evalO fr) (hget hp) hp.length fun v wr news _ => K (putS fr o.dst v) (updL hp wr news))
    (hK : ∀ φ' fr' hp' a' w', K fr' hp' → LRep g φ' fr' hp' a' w' → Kw a' w') : o.wp C.P a w Kw Q := by
  obtain ⟨v, wr, news, tch, h1, h2⟩ := aop_ok hC hΓ h
  refine h2 g φ (hget hp) a w Kw Q k.hr (fun x _ => evalO_R k.fr x) (fun _ _ => rfl) (fun i hi => ⟨k.dom _ (by omega), hget_none (by omega)⟩) k.m0 fun φ' u w' q1 q2 q3 q4 => ?_
  exact hK φ' _ _ _ w' h1 (k.step q1 q2 q3 q4 o.dst)

theorem evalOps_ok (ops : List Oper) {Q : Exit → Act → World → Prop} {g : Gh} {k : KF} (hk : ∀ φ fr hp a w, k fr hp → LRep g φ fr hp a w → Q .normal a w) :
    ∀ (rest : List Oper) (i : Nat) (φ : Phi) (fr : List SV) (hp : LHeap) (a : Act) (w : World), ops.drop i = rest → evalOps C ops rest fr hp k → LRep g φ fr hp a w → wpOps C.P ops.toArray Q (List.range' i rest.length) a w
  | [], i, φ, fr, hp, a, w, _, h, hr => by simp only [List.length_nil, List.range'_zero, wpOps]; exact hk φ fr hp a w h hr
  | o :: rest, i, φ, fr, hp, a, w, hd, h, hr => by
    have ho : ops[i]? = some o := by
      have := congrArg (fun l => l[0]?) hd
      simpa using this
    have hd' : ops.drop (i + 1) = rest := by rw [← List.drop_drop, hd]; rfl
    have ih := evalOps_ok ops hk rest (i + 1)
    simp only [List.length_cons, List.range'_succ, wpOps, List.getElem?_toArray, ho]
    simp only [evalOps, nextS_eq] at h
    split at h
    · rename_i hg
      rw [if_pos (by simp [Region.wanted, hg])]
      exact .inl (step_op hC hΓ hr (K := fun fr hp => evalOps C ops rest fr hp k) h fun φ' fr' hp' a' w' h1 h2 => ih φ' fr' hp' a' w' hd' h1 h2)
    · rename_i gi want hg
      split at h
      · rename_i b hb
        have hy := guardV_ok hb hr.fr
        have hset := setG_eq hb
        cases want <;> cases b <;> simp only [cond_true, cond_false] at h <;> rw [hset] at h
        · rw [if_pos (by simp [Region.wanted, hg, hy])]
          exact .inl (step_op hC hΓ hr (K := fun fr hp => evalOps C ops rest fr hp k) h fun φ' fr' hp' a' w' h1 h2 => ih φ' fr' hp' a' w' hd' h1 h2)
        · rw [if_neg (by simp [Region.wanted, hg, hy])]
          exact ih φ _ _ _ w hd' h (hr.skip o.dst)
        · rw [if_neg (by simp [Region.wanted, hg, hy])]
          exact ih φ _ _ _ w hd' h (hr.skip o.dst)
        · rw [if_pos (by simp [Region.wanted, hg, hy])]
          exact .inl (step_op hC hΓ hr (K := fun fr hp => evalOps C ops rest fr hp k) h fun φ' fr' hp' a' w' h1 h2 => ih φ' fr' hp' a' w' hd' h1 h2)
      · cases hu : guardU ops gi fr with
        | false => simp [hu] at h
        | true =>
          simp only [hu, cond_true] at h
          have hy := guardU_ok hu hr.fr
          rw [if_neg (by simp [Region.wanted, hg, hy])]
          exact ih φ _ _ _ w hd' h (hr.skip o.dst)

theorem region_ok {ops : Array Oper} {id : Nat} {fr : List SV} {hp : LHeap} {k : KF} (h : evalOps C ops.toList ops.toList fr hp k) {g : Gh} {φ : Phi} {a : Act} {w : World} (hr : LRep g φ fr hp a w) {Q : Exit → Act → World → Prop}
    (hk : ∀ φ fr hp a w, k fr hp → LRep g φ fr hp a w → Q .normal a w) : (Code.region id ops false).wp C.P Q a w := by
  refine wp_region ?_
  have := evalOps_ok hC hΓ ops.toList hk ops.toList 0 φ fr hp a w rfl h hr
  rw [List.range_eq_range']
  simpa using this
end


/-! ### Done in part -/
section
variable {V : Type}
/-- What lies at a place when those operations are done that D names: what the last one of them lays there. -/
def val (D : Nat → Bool) (u : Nat → Option V) (x0 : V) : Nat → V
  | 0 => x0
  | m + 1 => if D m = true then (u m).getD (val D u x0 m) else val D u x0 m
theorem val_congr {D E : Nat → Bool} {u : Nat → Option V} {x0 : V} : ∀ {m : Nat}, (∀ i, i < m → u i ≠ none → D i = E i) → val D u x0 m = val E u x0 m
  | 0, _ => rfl
  | m + 1, h => by
    have ih := val_congr (x0 := x0) (m := m) fun i hi => h i (by omega)
    simp only [val, ih]
    cases hu : u m with
    | none => simp
    | some c => rw [h m (by omega) (by simp [hu])]
theorem val_lt {u : Nat → Option V} {x0 : V} (j : Nat) : ∀ n, j ≤ n → val (fun i => decide (i < j)) u x0 n = val (fun _ => true) u x0 j
  | 0, h => by obtain rfl : j = 0 := by omega
               rfl
  | n + 1, h => by
    by_cases hj : j = n + 1
    · subst hj
      refine val_congr fun i hi _ => by simpa using hi
    · simp only [val]
      rw [if_neg (by simp; omega)]
      exact val_lt j n (by omega)
theorem val_before {D : Nat → Bool} {u : Nat → Option V} {x0 : V} {j n : Nat} (hj : j ≤ n) (hD : D j = false) (h : ∀ i, i < n → i ≠ j → u i ≠ none → D i = decide (i < j)) : val D u x0 n = val (fun _ => true) u x0 j := by
  rw [← val_lt j n hj]
  refine val_congr fun i hi hu => ?_
  by_cases e : i = j
  · subst e; simp [hD]
  · exact h i hi e hu
theorem val_step {D : Nat → Bool} {u : Nat → Option V} {x0 : V} {j n : Nat} (hj : j < n) (hD : D j = false) (h : u j ≠ none → ∀ i, i < n → i ≠ j → u i ≠ none → D i = decide (i < j)) :
    val (fun i => if i = j then true else D i) u x0 n = (u j).getD (val D u x0 n) := by
  cases hu : u j with
  | none =>
    rw [Option.getD_none]
    refine val_congr fun i hi hui => ?_
    by_cases e : i = j
    · subst e; exact absurd hu hui
    · simp [e]
  | some c =>
    have := h (by simp [hu])
    rw [Option.getD_some]
    have h1 : val (fun i => if i = j then true else D i) u x0 n = val (fun i => decide (i < j + 1)) u x0 n := by
      refine val_congr fun i hi hui => ?_
      by_cases e : i = j
      · subst e; simp
      · simp only [e, if_false]; rw [this i hi e hui]; simp; omega
    rw [h1, val_lt (j + 1) n (by omega)]
    simp [val, hu]
end

structure Rec where
  dst : Option Tmp
  v : SV
  base : Nat
  wr : Wr
  news : List Blk
  tch : List Nat
  deriving Inhabited

def uT (r : Rec) (t : Nat) : Option SV := if r.dst = some t then some r.v else none
def uB (r : Rec) (id : Nat) : Option (Option Blk) := if r.base ≤ id ∧ id < r.base + r.news.length then some (r.news[id - r.base]?) else lk r.wr id
theorem updH_uB (h : Heap) (r : Rec) (id : Nat) : updH h r.base r.wr r.news id = (uB r id).getD (h id) := by
  unfold updH uB; split <;> simp

def rangeL (b : Nat) : Nat → List Nat
  | 0 => []
  | n + 1 => b :: rangeL (b + 1) n
def wrIds : Wr → List Nat
  | [] => []
  | (i, _) :: l => i :: wrIds l
def wsOf (r : Rec) : List Nat := wrIds r.wr ++ rangeL r.base r.news.length
def memN (x : Nat) : List Nat → Bool
  | [] => false
  | y :: l => Nat.beq x y || memN x l
def disjN : List Nat → List Nat → Bool
  | [], _ => true
  | x :: l, m => !memN x m && disjN l m
theorem memN_iff {x : Nat} : ∀ {l : List Nat}, memN x l = true ↔ x ∈ l
  | [] => by simp [memN]
  | y :: l => by
    simp only [memN, Bool.or_eq_true, List.mem_cons, memN_iff (l := l)]
    constructor
    · rintro (h | h)
      · exact .inl (Nat.eq_of_beq_eq_true h)
      · exact .inr h
    · rintro (rfl | h)
      · exact .inl (Nat.beq_refl x)
      · exact .inr h
theorem disjN_ok : ∀ {l m : List Nat}, disjN l m = true → ∀ x, x ∈ l → x ∉ m
  | [], _, _, x, h => by simp at h
  | y :: l, m, h, x, hx => by
    simp only [disjN, Bool.and_eq_true, Bool.not_eq_true'] at h
    rcases List.mem_cons.1 hx with rfl | hx
    · intro hm; rw [memN_iff.2 hm] at h; simp at h
    · exact disjN_ok h.2 x hx
theorem mem_rangeL {b n x : Nat} : x ∈ rangeL b n ↔ b ≤ x ∧ x < b + n := by
  induction n generalizing b with
  | zero => simp [rangeL]
  | succ n ih => simp only [rangeL, List.mem_cons, ih]; omega
theorem lk_mem : ∀ {wr : Wr} {id : Nat}, lk wr id ≠ none → id ∈ wrIds wr
  | [], _, h => by simp [lk] at h
  | (i, b) :: l, id, h => by
    simp only [lk] at h
    split at h
    · rename_i e; subst e; simp [wrIds]
    · simp only [wrIds, List.mem_cons]; exact .inr (lk_mem h)
theorem uB_mem {r : Rec} {id : Nat} (h : uB r id ≠ none) : id ∈ wsOf r := by
  unfold uB at h
  unfold wsOf
  split at h
  · rename_i e; exact List.mem_append.2 (.inr (mem_rangeL.2 e))
  · exact List.mem_append.2 (.inl (lk_mem h))

/-! ### Who is ahead of whom -/
def edgeMask (acc : List Nat) : List Edge → Nat
  | [] => 0
  | e :: l => bif Region.binds .any e then (2 ^ e.on ||| acc.getD e.on 0) ||| edgeMask acc l else edgeMask acc l
def ancsGo : List Oper → List Nat → List Nat
  | [], acc => acc
  | o :: l, acc => ancsGo l (acc ++ [edgeMask acc o.after.toList])
def ancs (ops : List Oper) : List Nat := ancsGo ops []
def edgesIn (j : Nat) : List Edge → Bool
  | [] => true
  | e :: l => (!Region.binds .any e || Nat.blt e.on j) && edgesIn j l
def edgesOk : Nat → List Oper → Bool
  | _, [] => true
  | j, o :: l => edgesIn j o.after.toList && edgesOk (j + 1) l

def opTmps : List Operand → List Nat
  | [] => []
  | .tmp t :: l => t :: opTmps l
  | _ :: l => opTmps l
def guardTmp (ops : List Oper) (o : Oper) : List Nat :=
  match o.guard with
  | some (g, _) => match ops[g]? with
    | some q => match q.dst with
      | some t => [t]
      | none => []
    | none => []
  | none => []
def usesOf (ops : List Oper) (o : Oper) : List Nat := opTmps o.op.operands.toList ++ guardTmp ops o
def dstL : Option Tmp → List Nat
  | some d => [d]
  | none => []
def apartT (ops : List Oper) (x y : Oper) : Bool := disjN (dstL x.dst) (usesOf ops y ++ dstL y.dst) && disjN (dstL y.dst) (usesOf ops x)
def stRow (ops : List Oper) (m : Nat) (y : Oper) : Nat → List Oper → Bool
  | _, [] => true
  | i, x :: l => (Nat.testBit m i || apartT ops x y) && stRow ops m y (i + 1) l
def stAll (ops : List Oper) : List Oper → List Oper → List Nat → Bool
  | _, [], _ => true
  | pre, y :: l, m :: ms => stRow ops m y 0 pre && stAll ops (pre ++ [y]) l ms
  | _, _ :: _, [] => false

def checkDyn (m : Nat) (r : Rec) : Nat → List Rec → Bool
  | _, [] => true
  | i, q :: qs => (Nat.testBit m i || (disjN (wsOf q) (r.tch ++ wsOf r) && disjN q.tch (wsOf r))) && checkDyn m r (i + 1) qs
def wrIn (n : Nat) : Wr → Bool
  | [] => true
  | (i, _) :: l => Nat.blt i n && wrIn n l

def evalOpsD (C : Ctx) (ops : List Oper) : List Oper → List Nat → List SV → LHeap → List Rec → KF → Prop
  | [], _, fr, hp, _, k => k fr hp
  | _ :: _, [], _, _, _, _ => False
  | o :: rest, m :: ms, fr, hp, recs, k =>
    match o.guard with
    | none => aop C o (evalO fr) (hget hp) hp.length fun v wr news tch => nextS fr o.dst hp v wr news fun fr' hp' v wr news =>
        bif wrIn hp.length wr && checkDyn m ⟨o.dst, v, hp.length, wr, news, tch⟩ 0 recs then evalOpsD C ops rest ms fr' hp' (recs ++ [⟨o.dst, v, hp.length, wr, news, tch⟩]) k else False
    | some (g, want) =>
      match guardV ops g fr with
      | some b =>
        match want with
        | true => bif b then (aop C o (evalO (setG ops g fr true)) (hget hp) hp.length fun v wr news tch => nextS (setG ops g fr true) o.dst hp v wr news fun fr' hp' v wr news =>
            bif wrIn hp.length wr && checkDyn m ⟨o.dst, v, hp.length, wr, news, tch⟩ 0 recs then evalOpsD C ops rest ms fr' hp' (recs ++ [⟨o.dst, v, hp.length, wr, news, tch⟩]) k else False)
            else evalOpsD C ops rest ms (putS (setG ops g fr false) o.dst notYet) hp (recs ++ [⟨o.dst, notYet, hp.length, [], [], []⟩]) k
        | false => bif b then evalOpsD C ops rest ms (putS (setG ops g fr true) o.dst notYet) hp (recs ++ [⟨o.dst, notYet, hp.length, [], [], []⟩]) k
            else (aop C o (evalO (setG ops g fr false)) (hget hp) hp.length fun v wr news tch => nextS (setG ops g fr false) o.dst hp v wr news fun fr' hp' v wr news =>
            bif wrIn hp.length wr && checkDyn m ⟨o.dst, v, hp.length, wr, news, tch⟩ 0 recs then evalOpsD C ops rest ms fr' hp' (recs ++ [⟨o.dst, v, hp.length, wr, news, tch⟩]) k else False)
      | none => bif guardU ops g fr then evalOpsD C ops rest ms (putS fr o.dst notYet) hp (recs ++ [⟨o.dst, notYet, hp.length, [], [], []⟩]) k else False
def evalD (C : Ctx) (ops : List Oper) (fr : List SV) (hp : LHeap) (k : KF) : Prop :=
  bif edgesOk 0 ops && stAll ops [] ops (ancs ops) then evalOpsD C ops ops (ancs ops) fr hp [] k else False

/-! ### What the text's order came to -/
def frT (fr0 : List SV) (L : List Rec) : List SV := L.foldl (fun fr r => putS fr r.dst r.v) fr0
def hpT (hp0 : LHeap) (L : List Rec) : LHeap := L.foldl (fun hp r => updL hp r.wr r.news) hp0

def GuardIs (ops : List Oper) (o : Oper) (fr : List SV) (t : Bool) : Prop :=
  match o.guard with
  | none => t = true
  | some (g, want) => (∃ b, guardV ops g fr = some b ∧ (b == want) = t) ∨ (guardU ops g fr = true ∧ t = false)

structure StepOK (C : Ctx) (ops : List Oper) (o : Oper) (m : Nat) (r : Rec) (fr : List SV) (hp : LHeap) (pre : List Rec) : Prop where
  dst : r.dst = o.dst
  base : r.base = hp.length
  win : wrIn hp.length r.wr = true
  chk : checkDyn m r 0 pre = true
  run : (GuardIs ops o fr true ∧ OpOK C.P o (evalO fr) (hget hp) hp.length r.v r.wr r.news r.tch) ∨ (GuardIs ops o fr false ∧ r.v = notYet ∧ r.wr = [] ∧ r.news = [] ∧ r.tch = [])

theorem checkDyn_nil (m : Nat) (d : Option Tmp) (b : Nat) : ∀ (i : Nat) (l : List Rec), checkDyn m ⟨d, notYet, b, [], [], []⟩ i l = true
  | _, [] => rfl
  | i, q :: l => by
    simp only [checkDyn, checkDyn_nil m d b (i + 1) l, Bool.and_true, wsOf, wrIds, List.length_nil, rangeL, List.append_nil]
    have : ∀ l : List Nat, disjN l [] = true := by intro l; induction l with | nil => rfl | cons x l ih => simp [disjN, memN, ih]
    simp [this]

theorem evalOpsD_ok {C : Ctx} (hC : EqOK C) (hΓ : GSound C) (ops : List Oper) (fr0 : List SV) (hp0 : LHeap) {k : KF} : ∀ (rest : List Oper) (ms : List Nat) (recs : List Rec), evalOpsD C ops rest ms (frT fr0 recs) (hpT hp0 recs) recs k →
    ∃ L : List Rec, L.length = rest.length ∧ k (frT fr0 (recs ++ L)) (hpT hp0 (recs ++ L)) ∧
      ∀ (i : Nat) (o : Oper) (r : Rec), rest[i]? = some o → L[i]? = some r → ∃ m, ms[i]? = some m ∧ StepOK C ops o m r (frT fr0 (recs ++ L.take i)) (hpT hp0 (recs ++ L.take i)) (recs ++ L.take i)
  | [], ms, recs, h => ⟨[], rfl, by simpa [evalOpsD] using h, fun i o r h => by simp at h⟩
  | o :: rest, [], recs, h => by simp [evalOpsD] at h
  | o :: rest, m :: ms, recs, h => by
    have done : ∀ r : Rec, StepOK C ops o m r (frT fr0 recs) (hpT hp0 recs) recs → evalOpsD C ops rest ms (putS (frT fr0 recs) r.dst r.v) (updL (hpT hp0 recs) r.wr r.news) (recs ++ [r]) k →
        ∃ L : List Rec, L.length = (o :: rest).length ∧ k (frT fr0 (recs ++ L)) (hpT hp0 (recs ++ L)) ∧
          ∀ (i : Nat) (o' : Oper) (r : Rec), (o :: rest)[i]? = some o' → L[i]? = some r → ∃ m', (m :: ms)[i]? = some m' ∧ StepOK C ops o' m' r (frT fr0 (recs ++ L.take i)) (hpT hp0 (recs ++ L.take i)) (recs ++ L.take i) := by
      intro r hs hk
      have e1 : frT fr0 (recs ++ [r]) = putS (frT fr0 recs) r.dst r.v := by simp [frT]
      have e2 : hpT hp0 (recs ++ [r]) = updL (hpT hp0 recs) r.wr r.news := by simp [hpT]
      obtain ⟨L, l1, l2, l3⟩ := evalOpsD_ok hC hΓ ops fr0 hp0 rest ms (recs ++ [r]) (by rw [e1, e2]; exact hk)
      refine ⟨r :: L, by simp [l1], by simpa using l2, fun i o' r' h1 h2 => ?_⟩
      cases i with
      | zero =>
        simp at h1 h2
        subst h1 h2
        exact ⟨m, rfl, by simpa using hs⟩
      | succ i =>
        obtain ⟨m', q1, q2⟩ := l3 i o' r' (by simpa using h1) (by simpa using h2)
        exact ⟨m', by simpa using q1, by simpa using q2⟩
    have exec : GuardIs ops o (frT fr0 recs) true → (aop C o (evalO (frT fr0 recs)) (hget (hpT hp0 recs)) (hpT hp0 recs).length fun v wr news tch =>
        bif wrIn (hpT hp0 recs).length wr && checkDyn m ⟨o.dst, v, (hpT hp0 recs).length, wr, news, tch⟩ 0 recs then evalOpsD C ops rest ms (putS (frT fr0 recs) o.dst v) (updL (hpT hp0 recs) wr news) (recs ++ [⟨o.dst, v, (hpT hp0 recs).length, wr, news, tch⟩]) k else False) →
        ∃ L : List Rec, L.length = (o :: rest).length ∧ k (frT fr0 (recs ++ L)) (hpT hp0 (recs ++ L)) ∧
          ∀ (i : Nat) (o' : Oper) (r : Rec), (o :: rest)[i]? = some o' → L[i]? = some r → ∃ m', (m :: ms)[i]? = some m' ∧ StepOK C ops o' m' r (frT fr0 (recs ++ L.take i)) (hpT hp0 (recs ++ L.take i)) (recs ++ L.take i) := by
      intro hg ha
      obtain ⟨v, wr, news, tch, h1, h2⟩ := aop_ok hC hΓ ha
      cases hc : wrIn (hpT hp0 recs).length wr && checkDyn m ⟨o.dst, v, (hpT hp0 recs).length, wr, news, tch⟩ 0 recs with
      | false => simp [hc] at h1
      | true =>
        simp only [hc, cond_true] at h1
        simp only [Bool.and_eq_true] at hc
        exact done ⟨o.dst, v, (hpT hp0 recs).length, wr, news, tch⟩ ⟨rfl, rfl, hc.1, hc.2, .inl ⟨hg, h2⟩⟩ h1
    have skip : GuardIs ops o (frT fr0 recs) false → evalOpsD C ops rest ms (putS (frT fr0 recs) o.dst notYet) (hpT hp0 recs) (recs ++ [⟨o.dst, notYet, (hpT hp0 recs).length, [], [], []⟩]) k →
        ∃ L : List Rec, L.length = (o :: rest).length ∧ k (frT fr0 (recs ++ L)) (hpT hp0 (recs ++ L)) ∧
          ∀ (i : Nat) (o' : Oper) (r : Rec), (o :: rest)[i]? = some o' → L[i]? = some r → ∃ m', (m :: ms)[i]? = some m' ∧ StepOK C ops o' m' r (frT fr0 (recs ++ L.take i)) (hpT hp0 (recs ++ L.take i)) (recs ++ L.take i) := by
      intro hg ha
      refine done ⟨o.dst, notYet, (hpT hp0 recs).length, [], [], []⟩ ⟨rfl, rfl, rfl, checkDyn_nil _ _ _ _ _, .inr ⟨hg, rfl, rfl, rfl, rfl⟩⟩ ?_
      simpa [updL, wrL, newsL] using ha
    simp only [evalOpsD, nextS_eq] at h
    split at h
    · rename_i hg
      exact exec (by simp [GuardIs, hg]) h
    · rename_i g want hg
      split at h
      · rename_i b hb
        have hset := setG_eq hb
        cases want <;> cases b <;> simp only [cond_true, cond_false] at h <;> rw [hset] at h
        · exact exec (by simp only [GuardIs, hg]; exact .inl ⟨_, hb, rfl⟩) h
        · exact skip (by simp only [GuardIs, hg]; exact .inl ⟨_, hb, rfl⟩) h
        · exact skip (by simp only [GuardIs, hg]; exact .inl ⟨_, hb, rfl⟩) h
        · exact exec (by simp only [GuardIs, hg]; exact .inl ⟨_, hb, rfl⟩) h
      · cases hu : guardU ops g (frT fr0 recs) with
        | false => simp [hu] at h
        | true =>
          simp only [hu, cond_true] at h
          exact skip (by simp only [GuardIs, hg]; exact .inr ⟨hu, trivial⟩) h


def frD (fr0 : List SV) (L : List Rec) (D : Nat → Bool) : Nat → List SV
  | 0 => fr0
  | m + 1 => if D m = true then putS (frD fr0 L D m) (L.getD m default).dst (L.getD m default).v else frD fr0 L D m
def hD (h0 : Heap) (L : List Rec) (D : Nat → Bool) : Nat → Heap
  | 0 => h0
  | m + 1 => if D m = true then updH (hD h0 L D m) (L.getD m default).base (L.getD m default).wr (L.getD m default).news else hD h0 L D m

theorem putS_length (fr : List SV) (dst : Option Tmp) (v : SV) : (putS fr dst v).length = fr.length := by cases dst <;> simp [putS]
theorem putS_get (fr : List SV) (r : Rec) {t : Nat} (ht : t < fr.length) : (putS fr r.dst r.v)[t]? = some ((uT r t).getD (fr.getD t .top)) := by
  unfold putS uT
  cases hd : r.dst with
  | none => simp [List.getD, List.getElem?_eq_getElem ht]
  | some d =>
    by_cases h : d = t
    · subst h; simp [ht]
    · have : ¬ (some d = some t) := by simpa using h
      rw [if_neg this]
      simp [h, List.getD, List.getElem?_eq_getElem ht]
theorem frD_length (fr0 : List SV) (L : List Rec) (D : Nat → Bool) : ∀ m, (frD fr0 L D m).length = fr0.length
  | 0 => rfl
  | m + 1 => by
    simp only [frD]; split
    · rw [putS_length, frD_length fr0 L D m]
    · exact frD_length fr0 L D m
theorem frD_get (fr0 : List SV) (L : List Rec) (D : Nat → Bool) {t : Nat} (ht : t < fr0.length) : ∀ m, (frD fr0 L D m)[t]? = some (val D (fun i => uT (L.getD i default) t) (fr0.getD t .top) m)
  | 0 => by simp [frD, val, List.getD, List.getElem?_eq_getElem ht]
  | m + 1 => by
    have ih := frD_get fr0 L D ht m
    simp only [frD, val]
    split
    · have e : (frD fr0 L D m).getD t .top = val D (fun i => uT (L.getD i default) t) (fr0.getD t .top) m := by rw [List.getD, ih]; rfl
      rw [putS_get _ _ (by rw [frD_length]; exact ht), e]
    · exact ih
theorem hD_get (h0 : Heap) (L : List Rec) (D : Nat → Bool) (id : Nat) : ∀ m, hD h0 L D m id = val D (fun i => uB (L.getD i default) id) (h0 id) m
  | 0 => rfl
  | m + 1 => by
    simp only [hD, val]
    split
    · rw [updH_uB, hD_get h0 L D id m]
    · exact hD_get h0 L D id m

theorem take_get (L : List Rec) {m : Nat} (h : m < L.length) : L.take (m + 1) = L.take m ++ [L.getD m default] := by
  rw [List.take_succ_eq_append_getElem h]; simp [List.getD, List.getElem?_eq_getElem h]
theorem frD_all (fr0 : List SV) (L : List Rec) : ∀ m, m ≤ L.length → frD fr0 L (fun _ => true) m = frT fr0 (L.take m)
  | 0, _ => rfl
  | m + 1, h => by
    rw [take_get L (by omega)]
    simp only [frD, if_true, frT, List.foldl_append, List.foldl_cons, List.foldl_nil]
    rw [frD_all fr0 L m (by omega)]
    rfl
theorem wrIn_lk : ∀ {wr : Wr} {n id : Nat}, wrIn n wr = true → n ≤ id → lk wr id = none
  | [], _, _, _, _ => rfl
  | (i, b) :: l, n, id, h, hid => by
    simp only [wrIn, Bool.and_eq_true] at h
    have : i < n := by simpa [Nat.blt_eq] using h.1
    simp only [lk]
    rw [if_neg (by omega)]
    exact wrIn_lk h.2 hid
theorem hget_updL' {hp : LHeap} {wr : Wr} {news : List Blk} (h : wrIn hp.length wr = true) : hget (updL hp wr news) = updH (hget hp) hp.length wr news := by
  funext id
  rw [hget_eq]
  unfold updL updH
  by_cases h1 : id < hp.length
  · rw [if_neg (by omega), List.getElem?_append_left (by rw [wrL_length]; exact h1), wrL_get hp id h1, hget_eq]
    cases hl : lk wr id <;> simp
  · rw [List.getElem?_append_right (by rw [wrL_length]; omega), wrL_length, newsL_eq]
    by_cases h2 : id < hp.length + news.length
    · rw [if_pos ⟨by omega, h2⟩]
      have h3 : id - hp.length < news.length := by omega
      rw [List.getElem?_map, List.getElem?_eq_getElem h3]
      rfl
    · rw [if_neg (by omega), List.getElem?_eq_none (by simp; omega), wrIn_lk h (by omega), Option.getD_none, hget_none (by omega)]
      rfl
theorem hD_all (hp0 : LHeap) (L : List Rec) : ∀ m, m ≤ L.length → (∀ i, i < m → (L.getD i default).base = (hpT hp0 (L.take i)).length ∧ wrIn (hpT hp0 (L.take i)).length (L.getD i default).wr = true) → hD (hget hp0) L (fun _ => true) m = hget (hpT hp0 (L.take m))
  | 0, _, _ => rfl
  | m + 1, h, k => by
    obtain ⟨k1, k2⟩ := k m (by omega)
    rw [take_get L (by omega)]
    simp only [hD, if_true, hpT, List.foldl_append, List.foldl_cons, List.foldl_nil]
    rw [hD_all hp0 L m (by omega) fun i hi => k i (by omega), k1]
    exact (hget_updL' k2).symm

/-! ### Ahead -/
def EdgesDone (D : Nat → Bool) (o : Oper) : Prop := ∀ e ∈ o.after.toList, Region.binds .any e = true → D e.on = true
def Closed (ops : List Oper) (D : Nat → Bool) : Prop := ∀ (j : Nat) (o : Oper), ops[j]? = some o → D j = true → EdgesDone D o
theorem edgeMask_bit {acc : List Nat} {i : Nat} : ∀ {es : List Edge}, Nat.testBit (edgeMask acc es) i = true → ∃ e ∈ es, Region.binds .any e = true ∧ (i = e.on ∨ Nat.testBit (acc.getD e.on 0) i = true)
  | [], h => by simp [edgeMask] at h
  | e :: l, h => by
    simp only [edgeMask] at h
    cases hb : Region.binds .any e with
    | false =>
      simp only [hb, cond_false] at h
      obtain ⟨e', q1, q2⟩ := edgeMask_bit h
      exact ⟨e', by simp [q1], q2⟩
    | true =>
      simp only [hb, cond_true, Nat.testBit_or, Bool.or_eq_true] at h
      rcases h with (h | h) | h
      · refine ⟨e, by simp, hb, .inl ?_⟩
        rw [Nat.testBit_two_pow] at h
        simpa [eq_comm] using h
      · exact ⟨e, by simp, hb, .inr h⟩
      · obtain ⟨e', q1, q2⟩ := edgeMask_bit h
        exact ⟨e', by simp [q1], q2⟩
theorem ancsGo_ok (ops : List Oper) : ∀ (rest : List Oper) (acc : List Nat), ops.drop acc.length = rest →
    (∀ (j m : Nat) (o : Oper), acc[j]? = some m → ops[j]? = some o → ∀ i, Nat.testBit m i = true → ∀ D, Closed ops D → EdgesDone D o → D i = true) →
    ∀ (j m : Nat) (o : Oper), (ancsGo rest acc)[j]? = some m → ops[j]? = some o → ∀ i, Nat.testBit m i = true → ∀ D, Closed ops D → EdgesDone D o → D i = true
  | [], acc, _, h => by simpa [ancsGo] using h
  | o :: rest, acc, hd, h => by
    have ho : ops[acc.length]? = some o := by
      have := congrArg (fun l => l[0]?) hd
      simpa using this
    refine ancsGo_ok ops rest (acc ++ [edgeMask acc o.after.toList]) (by rw [List.length_append, ← List.drop_drop, hd]; rfl) fun j m o' h1 h2 i hi D hc he => ?_
    by_cases hj : j < acc.length
    · rw [List.getElem?_append_left hj] at h1
      exact h j m o' h1 h2 i hi D hc he
    · rw [List.getElem?_append_right (by omega)] at h1
      have hj' : j = acc.length := by
        rcases Nat.eq_or_lt_of_le (Nat.le_of_not_lt hj) with h' | h'
        · exact h'.symm
        · rw [List.getElem?_eq_none (by simp; omega)] at h1; cases h1
      subst hj'
      simp at h1
      subst h1
      rw [ho] at h2
      cases h2
      obtain ⟨e, q1, q2, q3⟩ := edgeMask_bit hi
      have hde := he e q1 q2
      rcases q3 with rfl | q3
      · exact hde
      · cases hq : acc[e.on]? with
        | none => simp [List.getD, hq] at q3
        | some m' =>
          have hlt : e.on < acc.length := by
            rcases Nat.lt_or_ge e.on acc.length with h' | h'
            · exact h'
            · rw [List.getElem?_eq_none h'] at hq; cases hq
          have hlt2 : acc.length < ops.length := by
            rcases Nat.lt_or_ge acc.length ops.length with h' | h'
            · exact h'
            · rw [List.getElem?_eq_none h'] at ho; cases ho
          have hoo : ops[e.on]? = some (ops[e.on]'(by omega)) := List.getElem?_eq_getElem (by omega)
          exact h e.on m' _ hq hoo i (by simpa [List.getD, hq] using q3) D hc (hc e.on _ hoo hde)
theorem ancs_ok {ops : List Oper} {j m : Nat} {o : Oper} (h1 : (ancs ops)[j]? = some m) (h2 : ops[j]? = some o) {i : Nat} (hi : Nat.testBit m i = true) {D : Nat → Bool} (hc : Closed ops D) (he : EdgesDone D o) : D i = true :=
  ancsGo_ok ops ops [] rfl (fun j m o h => by simp at h) j m o h1 h2 i hi D hc he
theorem edgesIn_ok {j : Nat} : ∀ {es : List Edge}, edgesIn j es = true → ∀ e ∈ es, Region.binds .any e = true → e.on < j
  | [], _, e, h, _ => by simp at h
  | x :: l, h, e, he, hb => by
    simp only [edgesIn, Bool.and_eq_true, Bool.or_eq_true, Bool.not_eq_true'] at h
    rcases List.mem_cons.1 he with rfl | he
    · rcases h.1 with h' | h'
      · rw [hb] at h'; cases h'
      · simpa [Nat.blt_eq] using h'
    · exact edgesIn_ok h.2 e he hb
theorem edgesOk_ok : ∀ {ops : List Oper} {k : Nat}, edgesOk k ops = true → ∀ (j : Nat) (o : Oper), ops[j]? = some o → ∀ e ∈ o.after.toList, Region.binds .any e = true → e.on < k + j
  | [], _, _, j, o, h => by simp at h
  | x :: l, k, h, j, o, ho => by
    simp only [edgesOk, Bool.and_eq_true] at h
    cases j with
    | zero => simp at ho; subst ho; exact edgesIn_ok h.1
    | succ j =>
      intro e he hb
      have := edgesOk_ok h.2 j o (by simpa using ho) e he hb
      omega
theorem stRow_ok {ops : List Oper} {m : Nat} {y : Oper} : ∀ {l : List Oper} {k : Nat}, stRow ops m y k l = true → ∀ (i : Nat) (x : Oper), l[i]? = some x → Nat.testBit m (k + i) = true ∨ apartT ops x y = true
  | [], _, _, i, x, h => by simp at h
  | z :: l, k, h, i, x, hx => by
    simp only [stRow, Bool.and_eq_true, Bool.or_eq_true] at h
    cases i with
    | zero => simp at hx; subst hx; exact h.1
    | succ i =>
      have := stRow_ok h.2 i x (by simpa using hx)
      rwa [show k + 1 + i = k + (i + 1) by omega] at this
theorem stAll_ok {ops : List Oper} : ∀ {l pre : List Oper} {ms : List Nat}, stAll ops pre l ms = true → ∀ (j : Nat) (y : Oper), l[j]? = some y → ∃ m, ms[j]? = some m ∧ ∀ (i : Nat) (x : Oper), i < pre.length + j → (pre ++ l)[i]? = some x → Nat.testBit m i = true ∨ apartT ops x y = true
  | [], _, _, _, j, y, h => by simp at h
  | z :: l, pre, [], h, _, _, _ => by simp [stAll] at h
  | z :: l, pre, m :: ms, h, j, y, hy => by
    simp only [stAll, Bool.and_eq_true] at h
    cases j with
    | zero =>
      simp at hy
      subst hy
      refine ⟨m, rfl, fun i x hi hx => ?_⟩
      rw [List.getElem?_append_left (by omega)] at hx
      have := stRow_ok h.1 i x hx
      simpa using this
    | succ j =>
      obtain ⟨m', q1, q2⟩ := stAll_ok h.2 j y (by simpa using hy)
      refine ⟨m', by simpa using q1, fun i x hi hx => q2 i x (by simp; omega) (by simpa using hx)⟩
theorem checkDyn_ok {m : Nat} {r : Rec} : ∀ {l : List Rec} {k : Nat}, checkDyn m r k l = true → ∀ (i : Nat) (q : Rec), l[i]? = some q → Nat.testBit m (k + i) = true ∨ (disjN (wsOf q) (r.tch ++ wsOf r) = true ∧ disjN q.tch (wsOf r) = true)
  | [], _, _, i, x, h => by simp at h
  | z :: l, k, h, i, x, hx => by
    simp only [checkDyn, Bool.and_eq_true, Bool.or_eq_true] at h
    cases i with
    | zero => simp at hx; subst hx; exact h.1
    | succ i =>
      have := checkDyn_ok h.2 i x (by simpa using hx)
      rwa [show k + 1 + i = k + (i + 1) by omega] at this

theorem opTmps_mem {t : Nat} : ∀ {l : List Operand}, Operand.tmp t ∈ l → t ∈ opTmps l
  | [], h => by simp at h
  | x :: l, h => by
    rcases List.mem_cons.1 h with rfl | h
    · simp [opTmps]
    · have := opTmps_mem h
      cases x <;> simp [opTmps, this]


/-- What all records of a region say. -/
structure Recs (C : Ctx) (ops : List Oper) (fr0 : List SV) (hp0 : LHeap) (L : List Rec) : Prop where
  len : L.length = ops.length
  edges : edgesOk 0 ops = true
  st : stAll ops [] ops (ancs ops) = true
  step : ∀ (i : Nat) (o : Oper) (r : Rec), ops[i]? = some o → L[i]? = some r → ∃ m, (ancs ops)[i]? = some m ∧ StepOK C ops o m r (frT fr0 (L.take i)) (hpT hp0 (L.take i)) (L.take i)

section
variable {C : Ctx} {ops : List Oper} {fr0 : List SV} {hp0 : LHeap} {L : List Rec} (X : Recs C ops fr0 hp0 L)
include X

theorem Recs.at {i : Nat} (hi : i < ops.length) : ∃ o m, ops[i]? = some o ∧ (ancs ops)[i]? = some m ∧ StepOK C ops o m (L.getD i default) (frT fr0 (L.take i)) (hpT hp0 (L.take i)) (L.take i) := by
  have h1 : ops[i]? = some ops[i] := List.getElem?_eq_getElem hi
  have h2 : L[i]? = some (L[i]'(by rw [X.len]; exact hi)) := List.getElem?_eq_getElem _
  obtain ⟨m, q1, q2⟩ := X.step i _ _ h1 h2
  exact ⟨_, m, h1, q1, by simpa [List.getD, h2] using q2⟩

theorem Recs.base_le {i j : Nat} (hij : i < j) (hj : j < ops.length) : (L.getD i default).base + (L.getD i default).news.length ≤ (L.getD j default).base ∧ hp0.length ≤ (L.getD i default).base := by
  have grow : ∀ k, k ≤ L.length → hp0.length ≤ (hpT hp0 (L.take k)).length ∧ ∀ d, k + d ≤ L.length → (hpT hp0 (L.take k)).length ≤ (hpT hp0 (L.take (k + d))).length := by
    have step : ∀ k, k < L.length → (hpT hp0 (L.take (k + 1))).length = (hpT hp0 (L.take k)).length + (L.getD k default).news.length := by
      intro k hk
      rw [take_get L hk]
      simp only [hpT, List.foldl_append, List.foldl_cons, List.foldl_nil, updL_length]
    have mono : ∀ k d, k + d ≤ L.length → (hpT hp0 (L.take k)).length ≤ (hpT hp0 (L.take (k + d))).length := by
      intro k d
      induction d with
      | zero => intro _; exact Nat.le_refl _
      | succ d ih =>
        intro h
        have := ih (by omega)
        have h2 := step (k + d) (by omega)
        rw [show k + (d + 1) = k + d + 1 by omega]
        omega
    intro k hk
    refine ⟨?_, fun d hd => mono k d hd⟩
    have := mono 0 k (by omega)
    simpa [hpT] using this
  have hlen := X.len
  obtain ⟨oi, mi, _, _, si⟩ := X.at (show i < ops.length by omega)
  obtain ⟨oj, mj, _, _, sj⟩ := X.at hj
  have hstep : (hpT hp0 (L.take (i + 1))).length = (hpT hp0 (L.take i)).length + (L.getD i default).news.length := by
    rw [take_get L (by omega)]
    simp only [hpT, List.foldl_append, List.foldl_cons, List.foldl_nil, updL_length]
  have h1 := (grow (i + 1) (by omega)).2 (j - (i + 1)) (by omega)
  rw [show i + 1 + (j - (i + 1)) = j by omega] at h1
  rw [si.base, sj.base]
  exact ⟨by omega, (grow i (by omega)).1⟩

theorem Recs.base_ge {i : Nat} (hi : i < ops.length) : hp0.length ≤ (L.getD i default).base := by
  have hlen := X.len
  obtain ⟨oi, mi, _, _, si⟩ := X.at hi
  rw [si.base]
  have mono : ∀ k, k ≤ L.length → hp0.length ≤ (hpT hp0 (L.take k)).length := by
    intro k
    induction k with
    | zero => intro _; exact Nat.le_refl _
    | succ k ih =>
      intro h
      have := ih (by omega)
      rw [take_get L (by omega)]
      simp only [hpT, List.foldl_append, List.foldl_cons, List.foldl_nil, updL_length] at this ⊢
      omega
  exact mono i (by omega)

/-- The pairs: one is ahead of the other, or they have nothing to do with each other. -/
theorem Recs.pair {i j : Nat} (hij : i < j) (_ : j < ops.length) {oi oj : Oper} (h1 : ops[i]? = some oi) (h2 : ops[j]? = some oj) {D : Nat → Bool} (hc : Closed ops D) :
    (EdgesDone D oj → D i = true) ∨ (apartT ops oi oj = true) := by
  obtain ⟨m, q1, q2⟩ := stAll_ok X.st j oj h2
  rcases q2 i oi (by simpa using hij) (by simpa using h1) with h | h
  · exact .inl fun he => ancs_ok q1 h2 h hc he
  · exact .inr h
theorem Recs.pairB {i j : Nat} (hij : i < j) (hj : j < ops.length) {oj : Oper} (h2 : ops[j]? = some oj) {D : Nat → Bool} (hc : Closed ops D) :
    (EdgesDone D oj → D i = true) ∨ (disjN (wsOf (L.getD i default)) ((L.getD j default).tch ++ wsOf (L.getD j default)) = true ∧ disjN (L.getD i default).tch (wsOf (L.getD j default)) = true) := by
  obtain ⟨o, m, e1, q1, sj⟩ := X.at hj
  rw [h2] at e1
  cases e1
  have hlen := X.len
  have : (L.take j)[i]? = some (L.getD i default) := by
    rw [List.getElem?_take, if_pos hij]; simp [List.getD, List.getElem?_eq_getElem (show i < L.length by omega)]
  rcases checkDyn_ok sj.chk i _ this with h | h
  · exact .inl fun he => ancs_ok q1 h2 (by simpa using h) hc he
  · exact .inr h

variable {D : Nat → Bool} (hc : Closed ops D) {j : Nat} (hj : j < ops.length) {o : Oper} (ho : ops[j]? = some o) (he : EdgesDone D o) (hdj : D j = false)
include hc hj ho he hdj

theorem Recs.cmpT {t : Nat} (ht : t ∈ usesOf ops o ∨ o.dst = some t) : ∀ i, i < ops.length → i ≠ j → uT (L.getD i default) t ≠ none → D i = decide (i < j) := by
  intro i hi hne hu
  obtain ⟨oi, mi, hoi, _, si⟩ := X.at hi
  have hdi : oi.dst = some t := by
    unfold uT at hu
    rw [si.dst] at hu
    split at hu
    · assumption
    · exact absurd rfl hu
  rcases Nat.lt_or_gt_of_ne hne with h | h
  · rw [decide_eq_true h]
    rcases X.pair h hj hoi ho hc with h' | h'
    · exact h' he
    · simp only [apartT, Bool.and_eq_true] at h'
      have := disjN_ok h'.1 t (by simp [hdi, dstL])
      exfalso; apply this
      rcases ht with ht | ht
      · simp [ht]
      · simp [ht, dstL]
  · rw [decide_eq_false (by omega)]
    rcases X.pair h hi ho hoi hc with h' | h'
    · cases hdd : D i with
      | false => rfl
      | true => rw [h' (hc i oi hoi hdd)] at hdj; cases hdj
    · simp only [apartT, Bool.and_eq_true] at h'
      exfalso
      rcases ht with ht | ht
      · exact disjN_ok h'.2 t (by simp [hdi, dstL]) ht
      · exact disjN_ok h'.1 t (by simp [ht, dstL]) (by simp [hdi, dstL])
theorem Recs.cmpB {id : Nat} (ht : id ∈ (L.getD j default).tch ∨ id ∈ wsOf (L.getD j default)) : ∀ i, i < ops.length → i ≠ j → uB (L.getD i default) id ≠ none → D i = decide (i < j) := by
  intro i hi hne hu
  have hw := uB_mem hu
  obtain ⟨oi, mi, hoi, _, si⟩ := X.at hi
  rcases Nat.lt_or_gt_of_ne hne with h | h
  · rw [decide_eq_true h]
    rcases X.pairB h hj ho hc with h' | h'
    · exact h' he
    · exfalso
      exact disjN_ok h'.1 id hw (List.mem_append.2 ht)
  · rw [decide_eq_false (by omega)]
    rcases X.pairB h hi hoi hc with h' | h'
    · cases hdd : D i with
      | false => rfl
      | true => rw [h' (hc i oi hoi hdd)] at hdj; cases hdj
    · exfalso
      rcases ht with ht | ht
      · exact disjN_ok h'.2 id ht hw
      · exact disjN_ok h'.1 id ht (List.mem_append.2 (.inr hw))

theorem Recs.frBefore {t : Nat} (ht : t ∈ usesOf ops o) : (frD fr0 L D ops.length)[t]? = (frT fr0 (L.take j))[t]? := by
  have hlen := X.len
  by_cases h : t < fr0.length
  · rw [frD_get fr0 L D h, ← frD_all fr0 L j (by omega), frD_get fr0 L _ h]
    rw [val_before (Nat.le_of_lt hj) hdj (X.cmpT hc hj ho he hdj (.inl ht))]
  · rw [List.getElem?_eq_none (by rw [frD_length]; omega), ← frD_all fr0 L j (by omega), List.getElem?_eq_none (by rw [frD_length]; omega)]
omit hc ho he hdj in
theorem Recs.allB : hD (hget hp0) L (fun _ => true) j = hget (hpT hp0 (L.take j)) := by
  have hlen := X.len
  refine hD_all hp0 L j (by omega) fun i hi => ?_
  obtain ⟨_, _, _, _, si⟩ := X.at (show i < ops.length by omega)
  exact ⟨si.base, si.win⟩
theorem Recs.hBefore {id : Nat} (ht : id ∈ (L.getD j default).tch ∨ id ∈ wsOf (L.getD j default)) : hD (hget hp0) L D ops.length id = hget (hpT hp0 (L.take j)) id := by
  rw [← X.allB hj, hD_get, hD_get]
  exact val_before (Nat.le_of_lt hj) hdj (X.cmpB hc hj ho he hdj ht)
theorem Recs.frAfter : frD fr0 L (fun i => if i = j then true else D i) ops.length = putS (frD fr0 L D ops.length) (L.getD j default).dst (L.getD j default).v := by
  obtain ⟨o', m', e1, _, sj⟩ := X.at hj
  rw [ho] at e1
  cases e1
  apply List.ext_getElem?
  intro t
  by_cases h : t < fr0.length
  · rw [frD_get fr0 L _ h, putS_get _ _ (by rw [frD_length]; exact h)]
    have e : (frD fr0 L D ops.length).getD t .top = val D (fun i => uT (L.getD i default) t) (fr0.getD t .top) ops.length := by rw [List.getD, frD_get fr0 L D h]; rfl
    rw [e, val_step hj hdj fun hu => X.cmpT hc hj ho he hdj (.inr ?_)]
    unfold uT at hu
    rw [sj.dst] at hu
    split at hu
    · assumption
    · exact absurd rfl hu
  · rw [List.getElem?_eq_none (by rw [frD_length]; omega), List.getElem?_eq_none (by rw [putS_length, frD_length]; omega)]
theorem Recs.hAfter : hD (hget hp0) L (fun i => if i = j then true else D i) ops.length = updH (hD (hget hp0) L D ops.length) (L.getD j default).base (L.getD j default).wr (L.getD j default).news := by
  funext id
  rw [updH_uB, hD_get, hD_get]
  exact val_step hj hdj fun hu => X.cmpB hc hj ho he hdj (.inr (uB_mem hu))
theorem Recs.evalBefore {x : Operand} (hx : x ∈ o.op.operands.toList) : evalO (frD fr0 L D ops.length) x = evalO (frT fr0 (L.take j)) x := by
  cases x with
  | tmp t =>
    have := X.frBefore hc hj ho he hdj (t := t) (by simp [usesOf, opTmps_mem hx])
    simp only [evalO, List.getD, this]
  | _ => rfl
theorem Recs.guardBefore {t : Bool} (h : GuardIs ops o (frT fr0 (L.take j)) t) : GuardIs ops o (frD fr0 L D ops.length) t := by
  unfold GuardIs at h ⊢
  split at h
  · exact h
  · rename_i g want hg
    rcases h with ⟨b, h1, h2⟩ | ⟨h1, h2⟩
    · refine .inl ⟨b, ?_, h2⟩
      rw [← h1]
      unfold guardV
      split
      · rename_i q hq
        split
        · rename_i d hd
          have := X.frBefore hc hj ho he hdj (t := d) (by simp [usesOf, guardTmp, hg, hq, hd])
          rw [this]
        · rfl
      · rfl
    · refine .inr ⟨?_, h2⟩
      rw [← h1]
      unfold guardU
      split
      · rename_i q hq
        split
        · rename_i d hd
          have := X.frBefore hc hj ho he hdj (t := d) (by simp [usesOf, guardTmp, hg, hq, hd])
          rw [this]
        · rfl
      · rfl
end

/-- How many are not done. -/
def undone (n : Nat) (D : Nat → Bool) : Nat := ((List.range n).filter fun i => !D i).length
theorem undone_step {n : Nat} {D : Nat → Bool} {j : Nat} (hj : j < n) (hD : D j = false) : undone n (fun i => if i = j then true else D i) + 1 = undone n D := by
  unfold undone
  induction n with
  | zero => omega
  | succ n ih =>
    rw [List.range_succ, List.filter_append, List.filter_append, List.length_append, List.length_append]
    by_cases h : j = n
    · subst h
      have : (List.range j).filter (fun i => !(if i = j then true else D i)) = (List.range j).filter fun i => !D i := by
        apply List.filter_congr
        intro i hi
        have : i ≠ j := by have := List.mem_range.1 hi; omega
        simp [this]
      rw [this]
      simp [hD]
    · have := ih (by omega)
      have h2 : [n].filter (fun i => !(if i = j then true else D i)) = [n].filter fun i => !D i := by
        apply List.filter_congr
        intro i hi
        have : i ≠ j := by have := List.mem_singleton.1 hi; omega
        simp [this]
      rw [h2]
      omega

theorem wanted_ok {ops : Array Oper} {o : Oper} {fr : List SV} {t : Bool} (h : GuardIs ops.toList o fr t) {φ : Phi} {a : Act} (hr : RL φ fr a.tmps.toList) : Region.wanted o (yielded ops a.tmps) = t := by
  unfold GuardIs at h
  unfold Region.wanted
  split at h
  · rename_i hg; simp [hg, h]
  · rename_i g want hg
    rcases h with ⟨b, h1, h2⟩ | ⟨h1, h2⟩
    · have := guardV_ok h1 hr
      simp only [hg]
      rw [show ops = ops.toList.toArray by simp, this, ← h2]
      cases b <;> cases want <;> rfl
    · have := guardU_ok h1 hr
      simp only [hg]
      rw [show ops = ops.toList.toArray by simp, this, h2]
      cases want <;> rfl

section
variable {C : Ctx} {ops : Array Oper} {fr0 : List SV} {hp0 : LHeap} {L : List Rec} (X : Recs C ops.toList fr0 hp0 L) {g : Gh} {Q : Exit → Act → World → Prop}

/-- The state when those are done that D names. -/
def InvD (ops : Array Oper) (fr0 : List SV) (hp0 : LHeap) (L : List Rec) (g : Gh) (D : Nat → Bool) (a : Act) (w : World) : Prop :=
  ∃ φ, HRep g φ (hD (hget hp0) L D ops.size) w ∧ RL φ (frD fr0 L D ops.size) a.tmps.toList ∧ a.defers = [] ∧
    ∀ id, hp0.length ≤ id → (∀ i, i < ops.size → D i = true → ¬ ((L.getD i default).base ≤ id ∧ id < (L.getD i default).base + (L.getD i default).news.length)) → φ id = none

include X
theorem op_any (hm0 : g.m0 ≤ hp0.length) {D : Nat → Bool} (hc : Closed ops.toList D) {j : Nat} (hj : j < ops.size) {o : Oper} (ho : ops.toList[j]? = some o) (he : EdgesDone D o) (hdj : D j = false) {a : Act} {w : World} (hI : InvD ops fr0 hp0 L g D a w)
    {K : Act → World → Prop} (hK : ∀ a' w', InvD ops fr0 hp0 L g (fun i => if i = j then true else D i) a' w' → K a' w') : wpOp C.P ops Q j K a w := by
  obtain ⟨φ, i1, i2, i3, i4⟩ := hI
  have hsz : ops.toList.length = ops.size := by simp
  have hj' : j < ops.toList.length := by simpa using hj
  obtain ⟨o', m, e1, _, sj⟩ := X.at hj'
  rw [ho] at e1
  cases e1
  have hfr := X.frAfter hc hj' ho he hdj
  have hh := X.hAfter hc hj' ho he hdj
  rw [hsz] at hfr hh
  have hoo : ops[j]? = some o := by simpa using ho
  unfold wpOp
  rw [hoo]
  simp only []
  rcases sj.run with ⟨hg, hop⟩ | ⟨hg, s1, s2, s3, s4⟩
  · have hw := wanted_ok (X.guardBefore hc hj' ho he hdj hg) (by rw [hsz]; exact i2)
    rw [if_pos hw]
    left
    rw [← sj.base] at hop
    refine hop g φ (hD (hget hp0) L D ops.size) a w K Q i1 (fun x hx => ?_) (fun id hid => ?_) (fun i hi => ?_) (Nat.le_trans hm0 (X.base_ge hj')) fun φ' u w' q1 q2 q3 q4 => hK _ w' ⟨φ', by rw [hh]; exact q1, ?_, by rw [put_defers]; exact i3, fun id h1 h2 => ?_⟩
    · have := evalO_R i2 x
      rwa [← hsz, X.evalBefore hc hj' ho he hdj hx] at this
    · rw [← hsz, X.hBefore hc hj' ho he hdj (.inl hid)]
    · have hge := X.base_ge hj'
      have hin : (L.getD j default).base + i ∈ wsOf (L.getD j default) := by
        unfold wsOf
        exact List.mem_append.2 (.inr (mem_rangeL.2 ⟨by omega, by omega⟩))
      constructor
      · refine i4 _ (by omega) fun i' hi' hdi ⟨b1, b2⟩ => ?_
        have hne : i' ≠ j := by rintro rfl; rw [hdj] at hdi; cases hdi
        rcases Nat.lt_or_gt_of_ne hne with h | h
        · have := (X.base_le h hj').1; omega
        · have := (X.base_le h (by simpa using hi')).1; omega
      · rw [← hsz, X.hBefore hc hj' ho he hdj (.inr hin), hget_none]
        rw [← sj.base]; omega
    · rw [hfr, ← sj.dst]
      exact (i2.mono q2).put _ q4
    · rcases q3 id with h | h
      · rw [h]
        refine i4 id h1 fun i hi hdi => h2 i hi ?_
        dsimp only
        split
        · rfl
        · exact hdi
      · exact absurd h (h2 j hj (by simp))
  · have hw := wanted_ok (X.guardBefore hc hj' ho he hdj hg) (by rw [hsz]; exact i2)
    rw [if_neg (by rw [hw]; simp)]
    refine hK _ w ⟨φ, ?_, ?_, by rw [put_defers]; exact i3, fun id h1 h2 => i4 id h1 fun i hi hdi => h2 i hi ?_⟩
    · rw [hh, s2, s3, updH_nil]; exact i1
    · rw [hfr, s1, sj.dst]; exact i2.put _ (by simp [notYet, R])
    · dsimp only
      split
      · rfl
      · exact hdi

theorem any_ok (hm0 : g.m0 ≤ hp0.length) (hfin : ∀ a w, InvD ops fr0 hp0 L g (fun _ => true) a w → Q .normal a w) :
    ∀ (fuel : Nat) (listed : Array Bool) (a : Act) (w : World), listed.size = ops.size → undone ops.size (fun i => listed.getD i false) = fuel → Closed ops.toList (fun i => listed.getD i false) →
      InvD ops fr0 hp0 L g (fun i => listed.getD i false) a w → wpAny C.P .any ops Q fuel listed a w := by
  have hlast : ∀ (listed : Array Bool) (a : Act) (w : World), listed.size = ops.size → Closed ops.toList (fun i => listed.getD i false) → InvD ops fr0 hp0 L g (fun i => listed.getD i false) a w → Region.ready .any ops listed = [] → Q .normal a w := by
    intro listed a w hs hc hI hr
    have hall : ∀ n i, i < n → i < ops.size → listed.getD i false = true := by
      intro n
      induction n with
      | zero => intro i h; omega
      | succ n ih =>
        intro i hi hio
        by_cases hin : i < n
        · exact ih i hin hio
        · obtain rfl : i = n := by omega
          cases hl : listed.getD i false with
          | true => rfl
          | false =>
            exfalso
            have hmem : i ∈ Region.ready .any ops listed := by
              unfold Region.ready
              rw [List.mem_filter]
              refine ⟨List.mem_range.2 hio, ?_⟩
              have hoi : ops[i]? = some ops[i] := Array.getElem?_eq_getElem hio
              have hli : listed.getD i true = false := by
                have h' : i < listed.size := by omega
                simp [h'] at hl ⊢
                exact hl
              rw [hli, hoi]
              simp only [Bool.not_false, Option.map_some, Option.getD_some, Bool.true_and]
              rw [Array.all_eq_true']
              intro e he
              cases hb : Region.binds .any e with
              | false => simp
              | true =>
                have hlt := edgesOk_ok X.edges i ops[i] (by simp) e (by simpa using he) hb
                have := ih e.on (by omega) (by omega)
                simp only [Bool.not_true, Bool.false_or]
                exact this
            rw [hr] at hmem
            cases hmem
    refine hfin a w ?_
    obtain ⟨φ, i1, i2, i3, i4⟩ := hI
    have cD : ∀ m, m ≤ ops.size → hD (hget hp0) L (fun i => listed.getD i false) m = hD (hget hp0) L (fun _ => true) m ∧ frD fr0 L (fun i => listed.getD i false) m = frD fr0 L (fun _ => true) m := by
      intro m
      induction m with
      | zero => intro _; exact ⟨rfl, rfl⟩
      | succ m ih =>
        intro h
        obtain ⟨h1, h2⟩ := ih (by omega)
        have h3 := hall (m + 1) m (by omega) (by omega)
        simp only [hD, frD]
        rw [if_pos h3, if_pos h3, h1, h2]
        simp
    obtain ⟨c1, c2⟩ := cD ops.size (Nat.le_refl _)
    rw [c1] at i1
    rw [c2] at i2
    exact ⟨φ, i1, i2, i3, fun id h1 h2 => i4 id h1 fun i hi _ => h2 i hi rfl⟩
  intro fuel
  induction fuel with
  | zero =>
    intro listed a w hs hu hc hI
    have hr : Region.ready .any ops listed = [] := by
      unfold Region.ready
      rw [List.filter_eq_nil_iff]
      intro i hi
      have hio := List.mem_range.1 hi
      unfold undone at hu
      have := List.eq_nil_of_length_eq_zero hu
      rw [List.filter_eq_nil_iff] at this
      have h2 := this i hi
      have h' : i < listed.size := by omega
      simp [h'] at h2 ⊢
      simp [h2]
    exact ⟨hr, hlast listed a w hs hc hI hr⟩
  | succ fuel ih =>
    intro listed a w hs hu hc hI
    refine ⟨hlast listed a w hs hc hI, fun j hj => ?_⟩
    unfold Region.ready at hj
    rw [List.mem_filter] at hj
    obtain ⟨hj1, hj2⟩ := hj
    have hj1 := List.mem_range.1 hj1
    have hoj : ops[j]? = some ops[j] := Array.getElem?_eq_getElem hj1
    rw [hoj] at hj2
    simp only [Option.map_some, Option.getD_some, Bool.and_eq_true, Bool.not_eq_true', Array.all_eq_true'] at hj2
    obtain ⟨hj2, hj3⟩ := hj2
    have hlj : j < listed.size := by omega
    have hdn : listed.getD j false = false := by
      simp [hlj] at hj2 ⊢
      exact hj2
    have he : EdgesDone (fun i => listed.getD i false) ops[j] := by
      intro e he hb
      have := hj3 e (by simpa using he)
      rw [hb] at this
      simpa using this
    have hset : ∀ i, (listed.setIfInBounds j true).getD i false = if i = j then true else listed.getD i false := by
      intro i
      by_cases h : i = j
      · subst h; simp [hlj]
      · rw [if_neg h]
        simp [Array.getElem?_setIfInBounds_ne (Ne.symm h)]
    have hfun : (fun i => (listed.setIfInBounds j true).getD i false) = fun i => if i = j then true else listed.getD i false := funext hset
    refine op_any X hm0 hc hj1 (by simp) he hdn hI fun a' w' hI' => ih _ a' w' (by simpa using hs) ?_ ?_ ?_
    · rw [hfun]
      have := undone_step (n := ops.size) (D := fun i => listed.getD i false) hj1 hdn
      omega
    · rw [hfun]
      intro i o hio hdi e hee hb
      by_cases h : i = j
      · subst h
        have : o = ops[i] := by have h2 : ops.toList[i]? = some ops[i] := by simp
                                rw [h2] at hio; exact (by simpa using hio.symm)
        subst this
        have := he e hee hb
        simp only [] at this ⊢
        split
        · rfl
        · exact this
      · dsimp only at hdi
        rw [if_neg h] at hdi
        have := hc i o hio hdi e hee hb
        simp only [] at this ⊢
        split
        · rfl
        · exact this
    · rw [hfun]; exact hI'
end

theorem regionD_ok {C : Ctx} (hC : EqOK C) (hΓ : GSound C) {ops : Array Oper} {id : Nat} {fr : List SV} {hp : LHeap} {k : KF} (hm : C.P.follows .mixedOrders = true) (h : evalD C ops.toList fr hp k) {g : Gh} {φ : Phi} {a : Act} {w : World} (hr : LRep g φ fr hp a w) {Q : Exit → Act → World → Prop}
    (hk : ∀ φ fr hp a w, k fr hp → LRep g φ fr hp a w → Q .normal a w) : (Code.region id ops true).wp C.P Q a w := by
  unfold evalD at h
  cases hs : edgesOk 0 ops.toList && stAll ops.toList [] ops.toList (ancs ops.toList) with
  | false => simp [hs] at h
  | true =>
    simp only [hs, cond_true] at h
    simp only [Bool.and_eq_true] at hs
    obtain ⟨L, l1, l2, l3⟩ := evalOpsD_ok hC hΓ ops.toList fr hp ops.toList (ancs ops.toList) [] h
    simp only [List.nil_append] at l2 l3
    have X : Recs C ops.toList fr hp L := ⟨l1, hs.1, hs.2, fun i o r h1 h2 => l3 i o r h1 h2⟩
    have hsz : L.length = ops.size := by simpa using l1
    have hge0 : ∀ i : Nat, (Array.replicate ops.size false).getD i false = false := by
      intro i
      by_cases hi : i < ops.size <;> simp [hi]
    have hfun : (fun i => (Array.replicate ops.size false).getD i false) = fun _ => false := funext hge0
    have hz : ∀ m, hD (hget hp) L (fun _ => false) m = hget hp ∧ frD fr L (fun _ => false) m = fr := by
      intro m
      induction m with
      | zero => exact ⟨rfl, rfl⟩
      | succ m ih => simp only [hD, frD]; simpa using ih
    refine wp_region_any hm (any_ok X hr.m0 (fun a' w' hI => ?_) ops.size _ a _ (by simp) ?_ ?_ ?_)
    · obtain ⟨φ', i1, i2, i3, i4⟩ := hI
      have e1 : hD (hget hp) L (fun _ => true) ops.size = hget (hpT hp L) := by
        have := hD_all hp L ops.size (by omega) fun i hi => by
          obtain ⟨_, _, _, _, si⟩ := X.at (show i < ops.toList.length by simpa using hi)
          exact ⟨si.base, si.win⟩
        rwa [← hsz, List.take_length, hsz] at this
      have e2 : frD fr L (fun _ => true) ops.size = frT fr L := by
        have := frD_all fr L ops.size (by omega)
        rwa [← hsz, List.take_length, hsz] at this
      rw [e1] at i1
      rw [e2] at i2
      refine hk φ' _ _ a' w' l2 ⟨i1, i2, i3, fun id hid => ?_, ?_⟩
      · have grow : ∀ k, k ≤ L.length → hp.length ≤ (hpT hp (L.take k)).length ∧ ∀ i, i < k → (L.getD i default).base + (L.getD i default).news.length ≤ (hpT hp (L.take k)).length := by
          intro k
          induction k with
          | zero => intro _; exact ⟨Nat.le_refl _, fun i hi => by omega⟩
          | succ k ih =>
            intro hk
            obtain ⟨g1, g2⟩ := ih (by omega)
            have hst : (hpT hp (L.take (k + 1))).length = (hpT hp (L.take k)).length + (L.getD k default).news.length := by
              rw [take_get L (by omega)]
              simp only [hpT, List.foldl_append, List.foldl_cons, List.foldl_nil, updL_length]
            refine ⟨by omega, fun i hi => ?_⟩
            by_cases hik : i = k
            · subst hik
              obtain ⟨_, _, _, _, si⟩ := X.at (show i < ops.toList.length by rw [← l1]; omega)
              rw [si.base, hst]
              exact Nat.le_refl _
            · have := g2 i (by omega); omega
        obtain ⟨g1, g2⟩ := grow L.length (Nat.le_refl _)
        rw [List.take_length] at g1 g2
        refine i4 id (by omega) fun i hi _ => ?_
        have := g2 i (by omega)
        omega
      · have : ∀ L : List Rec, hp.length ≤ (hpT hp L).length := by
          intro L
          suffices h : ∀ (L : List Rec) (hp : LHeap), hp.length ≤ (hpT hp L).length from h L hp
          intro L
          induction L with
          | nil => intro hp; exact Nat.le_refl _
          | cons r L ih =>
            intro hp
            have := ih (updL hp r.wr r.news)
            rw [updL_length] at this
            simp only [hpT, List.foldl_cons] at this ⊢
            omega
        have := this L
        have := hr.m0
        omega
    · rw [hfun]
      unfold undone
      rw [List.filter_eq_self.2 (by simp)]
      simp
    · intro i o _ h
      simp only [hge0] at h
      cases h
    · rw [hfun]
      obtain ⟨z1, z2⟩ := hz ops.size
      refine ⟨φ, by rw [z1]; exact hr.hr.drew, by rw [z2]; exact hr.fr, hr.df, fun id h1 _ => hr.dom id h1⟩


/-! ### Other names -/
abbrev Ren := Nat → Option Nat
mutual
def ren (ρ : Ren) : SV → Option SV
  | .ptr id row sz fld => match ρ id with | some i => some (.ptr i row sz fld) | none => none
  | .slice id row sz len => match ρ id with | some i => some (.slice i row sz len) | none => none
  | .func fn a b => match renL ρ a, renL ρ b with | some x, some y => some (.func fn x y) | _, _ => none
  | .agg l => match renL ρ l with | some x => some (.agg x) | none => none
  | .tuple l => match renL ρ l with | some x => some (.tuple x) | none => none
  | .top => some .top
  | .bool b => some (.bool b)
  | .int k n => some (.int k n)
  | .nilPtr => some .nilPtr
  | .eslice => some .eslice
  | .nilSlice => some .nilSlice
  | .nilFunc => some .nilFunc
  | .raw v => some (.raw v)
def renL (ρ : Ren) : List SV → Option (List SV)
  | [] => some []
  | s :: l => match ren ρ s, renL ρ l with | some x, some y => some (x :: y) | _, _ => none
end
/-- Names by way of others. -/
def Phi.via (φ : Phi) (ρ : Ren) : Phi := fun id => match ρ id with | some i => φ i | none => none
mutual
theorem R.via {φ : Phi} {ρ : Ren} : ∀ {s t : SV} {v : Value}, ren ρ s = some t → R φ t v → R (φ.via ρ) s v
  | .top, _, _, _, _ => by simp [R]
  | .bool _, _, _, h, e => by simp only [ren, Option.some.injEq] at h; subst h; simpa [R] using e
  | .int _ _, _, _, h, e => by simp only [ren, Option.some.injEq] at h; subst h; simpa [R] using e
  | .nilPtr, _, _, h, e => by simp only [ren, Option.some.injEq] at h; subst h; simpa [R] using e
  | .eslice, _, _, h, e => by simp only [ren, Option.some.injEq] at h; subst h; simpa [R] using e
  | .nilSlice, _, _, h, e => by simp only [ren, Option.some.injEq] at h; subst h; simpa [R] using e
  | .nilFunc, _, _, h, e => by simp only [ren, Option.some.injEq] at h; subst h; simpa [R] using e
  | .raw _, _, _, h, e => by simp only [ren, Option.some.injEq] at h; subst h; simpa [R] using e
  | .ptr id row sz fld, _, _, h, e => by
    simp only [ren] at h
    split at h
    · rename_i i hi
      simp only [Option.some.injEq] at h
      subst h
      simp only [R] at e ⊢
      obtain ⟨l, h1, h2⟩ := e
      exact ⟨l, by simp [Phi.via, hi, h1], h2⟩
    · cases h
  | .slice id row sz len, _, _, h, e => by
    simp only [ren] at h
    split at h
    · rename_i i hi
      simp only [Option.some.injEq] at h
      subst h
      simp only [R] at e ⊢
      obtain ⟨l, h1, h2⟩ := e
      exact ⟨l, by simp [Phi.via, hi, h1], h2⟩
    · cases h
  | .func fn a b, _, _, h, e => by
    simp only [ren] at h
    split at h
    · rename_i x y hx hy
      simp only [Option.some.injEq] at h
      subst h
      simp only [R] at e ⊢
      obtain ⟨x', y', h1, h2, h3⟩ := e
      exact ⟨x', y', RL.via hx h1, RL.via hy h2, h3⟩
    · cases h
  | .agg l, _, _, h, e => by
    simp only [ren] at h
    split at h
    · rename_i x hx
      simp only [Option.some.injEq] at h
      subst h
      simp only [R] at e ⊢
      obtain ⟨x', h1, h3⟩ := e
      exact ⟨x', RL.via hx h1, h3⟩
    · cases h
  | .tuple l, _, _, h, e => by
    simp only [ren] at h
    split at h
    · rename_i x hx
      simp only [Option.some.injEq] at h
      subst h
      simp only [R] at e ⊢
      obtain ⟨x', h1, h3⟩ := e
      exact ⟨x', RL.via hx h1, h3⟩
    · cases h
theorem RL.via {φ : Phi} {ρ : Ren} : ∀ {l m : List SV} {vs : List Value}, renL ρ l = some m → RL φ m vs → RL (φ.via ρ) l vs
  | [], _, _, h, e => by simp only [renL, Option.some.injEq] at h; subst h; simpa [RL] using e
  | s :: l, _, _, h, e => by
    simp only [renL] at h
    split at h
    · rename_i x y hx hy
      simp only [Option.some.injEq] at h
      subst h
      simp only [RL] at e ⊢
      obtain ⟨v, r, h1, h2, h3⟩ := e
      exact ⟨v, r, h1, R.via hx h2, RL.via hy h3⟩
    · cases h
end
theorem renL_length {ρ : Ren} : ∀ {l m : List SV}, renL ρ l = some m → m.length = l.length
  | [], _, h => by simp only [renL, Option.some.injEq] at h; subst h; rfl
  | s :: l, _, h => by
    simp only [renL] at h
    split at h
    · rename_i x y hx hy
      simp only [Option.some.injEq] at h
      subst h
      simp [renL_length hy]
    · cases h

/-- The same values by other names, or nothing is said. -/
def WL (ρ : Ren) : List SV → List SV → Prop
  | [], [] => True
  | s :: l, t :: m => (s = .top ∨ ren ρ s = some t) ∧ WL ρ l m
  | _, _ => False
theorem WL.via {φ : Phi} {ρ : Ren} : ∀ {l m : List SV} {vs : List Value}, WL ρ l m → RL φ m vs → RL (φ.via ρ) l vs
  | [], [], _, _, e => by simpa [RL] using e
  | s :: l, t :: m, _, h, e => by
    simp only [WL] at h
    simp only [RL] at e ⊢
    obtain ⟨v, r, h1, h2, h3⟩ := e
    refine ⟨v, r, h1, ?_, WL.via h.2 h3⟩
    rcases h.1 with h' | h'
    · subst h'; simp [R]
    · exact R.via h' h2
  | [], _ :: _, _, h, _ => by simp [WL] at h
  | _ :: _, [], _, h, _ => by simp [WL] at h
theorem WL.length {ρ : Ren} : ∀ {l m : List SV}, WL ρ l m → m.length = l.length
  | [], [], _ => rfl
  | s :: l, t :: m, h => by simp only [WL] at h; simp [WL.length h.2]
  | [], _ :: _, h => by simp [WL] at h
  | _ :: _, [], h => by simp [WL] at h
/-- A block says no more than another one, by other names. -/
structure WB (ρ : Ren) (b1 b : Blk) : Prop where
  sz : b1.sz = b.sz
  n : b1.n ≤ b.n
  rw : b1.rw = true → b.rw = true
  ty : b1.rw = true → b1.ty = b.ty
  rd : ∀ r, r < b1.n → WL ρ (b1.rd r) (b.rd r)
theorem BAt.via {φ : Phi} {ρ : Ren} {b1 b : Blk} (h : WB ρ b1 b) {l : Loc} {w : World} (k : BAt φ l b w) : BAt (φ.via ρ) l b1 w := by
  obtain ⟨cells, ty, fz, h1, h2, h3⟩ := k
  refine ⟨cells, ty, fz, h1, fun hr => ?_, fun r hr => ?_⟩
  · obtain ⟨q1, q2, q3, q4, q5, q6⟩ := h2 (h.rw hr)
    exact ⟨by rw [q1, h.ty hr], q2, q3, by rw [h.sz]; exact q4, Nat.le_trans h.n q5, q6⟩
  · obtain ⟨q1, q2⟩ := h3 r (Nat.lt_of_lt_of_le hr h.n)
    have hw := h.rd r hr
    rw [h.sz]
    exact ⟨hw.via q1, by rw [← hw.length]; exact q2⟩

/-- A state says no more than another one: the first names are the same ones. -/
def Weak (m0 : Nat) (fr : List SV) (hp : LHeap) (fr1 : List SV) (hp1 : LHeap) : Prop :=
  ∃ ρ : List Nat, ρ.length = hp1.length ∧ m0 ≤ hp1.length ∧ (∀ i, i < m0 → ρ[i]? = some i) ∧ WL (fun i => ρ[i]?) fr1 fr ∧
    (∀ id b1, hget hp1 id = some b1 → ∃ i b, ρ[id]? = some i ∧ hget hp i = some b ∧ WB (fun i => ρ[i]?) b1 b) ∧
    (∀ i j x, i < hp1.length → j < hp1.length → ρ[i]? = some x → ρ[j]? = some x → i = j)
theorem LRep.weak {g : Gh} {φ : Phi} {fr fr1 : List SV} {hp hp1 : LHeap} {a : Act} {w : World} (k : LRep g φ fr hp a w) (h : Weak g.m0 fr hp fr1 hp1) : ∃ φ', LRep g φ' fr1 hp1 a w := by
  obtain ⟨ρ, h1, h2, h3, h4, h5, h6⟩ := h
  have hlt : ∀ id b, hget hp1 id = some b → id < hp1.length := fun id b e => by
    rcases Nat.lt_or_ge id hp1.length with h | h
    · exact h
    · rw [hget_none h] at e; cases e
  refine ⟨φ.via fun i => ρ[i]?, ⟨fun id b e => ?_, fun i j bi bj li lj hi hj hne hrw pi pj => ?_, fun id b l e hrw hp' => ?_, k.hr.os, k.hr.tape, k.hr.output, k.hr.size, k.hr.old, fun id hid => ?_⟩, h4.via k.fr, k.df, fun id hid => ?_, h2⟩
  · obtain ⟨i, b', q1, q2, q3⟩ := h5 id b e
    obtain ⟨l, p1, p2⟩ := k.hr.blk i b' q2
    exact ⟨l, by simp [Phi.via, q1, p1], p2.via q3⟩
  · obtain ⟨x, bx, q1, q2, q3⟩ := h5 i bi hi
    obtain ⟨y, by', p1, p2, p3⟩ := h5 j bj hj
    simp only [Phi.via, q1] at pi
    simp only [Phi.via, p1] at pj
    refine k.hr.sep x y bx by' li lj q2 p2 ?_ (q3.rw hrw) pi pj
    rintro rfl
    exact hne (h6 i j x (hlt i bi hi) (hlt j bj hj) q1 p1)
  · obtain ⟨i, b', q1, q2, q3⟩ := h5 id b e
    simp only [Phi.via, q1] at hp'
    exact k.hr.own i b' l q2 (q3.rw hrw) hp'
  · simp only [Phi.via, h3 id hid]
    exact k.hr.ids id hid
  · have : ρ[id]? = none := List.getElem?_eq_none (by omega)
    simp [Phi.via, this]

/-! ### Code -/
inductive Ex where
  | normal
  | exit (id : Nat)
  | ret
abbrev KC := Ex → List SV → LHeap → Prop
def iterE (F : List SV → LHeap → KC → Prop) (k : KC) : Nat → List SV → LHeap → Prop
  | 0, _, _ => False
  | n + 1, fr, hp => F fr hp fun x fr' hp' => match x with
    | .normal => iterE F k n fr' hp'
    | .exit i => k (.exit i) fr' hp'
    | .ret => k .ret fr' hp'
/-- A loop, in so many rounds; ahead of each one the state may be said anew. -/
def loopP (m0 : Nat) (F : List SV → LHeap → KC → Prop) (k : KC) : Nat → List SV → LHeap → Prop
  | 0, _, _ => False
  | n + 1, fr, hp => ∃ fr1 hp1, Weak m0 fr hp fr1 hp1 ∧ F fr1 hp1 fun x fr' hp' => match x with
    | .normal => loopP m0 F k n fr' hp'
    | .exit i => k (.exit i) fr' hp'
    | .ret => k .ret fr' hp'
/-- The value that was asked for is known then. -/
def setO (fr : List SV) (c : Operand) (b : Bool) : List SV :=
  match c with
  | .tmp t => fr.set t (.bool b)
  | _ => fr
theorem setO_eq {fr : List SV} {c : Operand} {b : Bool} (h : evalO fr c = .bool b) : setO fr c b = fr := by
  cases c with
  | tmp t =>
    simp only [evalO] at h
    simp only [setO]
    apply List.ext_getElem?
    intro i
    rw [List.getElem?_set]
    split
    · rename_i e; subst e
      split
      · rename_i hlt; rw [List.getElem?_eq_getElem hlt]; rw [List.getD, List.getElem?_eq_getElem hlt] at h; simpa using h.symm
      · rename_i hlt; rw [List.getElem?_eq_none (by omega)]
    · rfl
  | _ => rfl
def evalC (C : Ctx) (u m0 : Nat) : Code → List SV → LHeap → KC → Prop
  | .skip, fr, hp, k => k .normal fr hp
  | .region _ ops draw, fr, hp, k => match draw with
    | false => evalOps C ops.toList ops.toList fr hp fun fr hp => k .normal fr hp
    | true => evalD C ops.toList fr hp fun fr hp => k .normal fr hp
  | .seq a b, fr, hp, k => evalC C u m0 a fr hp fun x fr hp => match x with
    | .normal => evalC C u m0 b fr hp k
    | .exit i => k (.exit i) fr hp
    | .ret => k .ret fr hp
  | .cond c a b, fr, hp, k => match evalO fr c with
    | .bool t => bif t then evalC C u m0 a (setO fr c true) hp k else evalC C u m0 b (setO fr c false) hp k
    | _ => False
  | .block id c, fr, hp, k => evalC C u m0 c fr hp fun x fr hp => match x with
    | .normal => k .normal fr hp
    | .exit i => bif Nat.beq i id then k .normal fr hp else k (.exit i) fr hp
    | .ret => k .ret fr hp
  | .loop c, fr, hp, k => match u with
    | 0 => ∃ n, loopP m0 (fun fr hp k => evalC C u m0 c fr hp k) k n fr hp
    | n + 1 => iterE (fun fr hp k => evalC C u m0 c fr hp k) k (n + 1) fr hp
  | .exit id, fr, hp, k => k (.exit id) fr hp
  | .ret, fr, hp, k => k .ret fr hp
  | _, _, _, _ => False

/-- What a code's walk leaves. -/
def Post (g : Gh) (k : KC) : Exit → Act → World → Prop
  | .normal, a, w => ∃ φ fr hp, k .normal fr hp ∧ LRep g φ fr hp a w
  | .exit i, a, w => ∃ φ fr hp, k (.exit i) fr hp ∧ LRep g φ fr hp a w
  | .ret, a, w => ∃ φ fr hp, k .ret fr hp ∧ LRep g φ fr hp a w
  | _, _, _ => False

theorem iter_ok {C : Ctx} {g : Gh} {c : Code} {F : List SV → LHeap → KC → Prop} (hF : ∀ (fr : List SV) (hp : LHeap) (k : KC) (φ : Phi) (a : Act) (w : World), F fr hp k → LRep g φ fr hp a w → c.wp C.P (Post g k) a w) {k : KC} :
    ∀ (n : Nat) (fr : List SV) (hp : LHeap) (φ : Phi) (a : Act) (w : World), iterE F k n fr hp → LRep g φ fr hp a w → Code.rounds C.P c (Post g k) n a w
  | 0, _, _, _, _, _, h, _ => h
  | n + 1, fr, hp, φ, a, w, h, hr => by
    simp only [iterE] at h
    refine wp_mono (hF fr hp _ φ a w h hr) fun e a' w' he => ?_
    cases e <;> simp only [Post] at he
    · obtain ⟨φ', fr', hp', h1, h2⟩ := he
      exact iter_ok hF n fr' hp' φ' a' w' h1 h2
    · exact he
    · exact he
theorem loop_ok {C : Ctx} {g : Gh} {c : Code} {F : List SV → LHeap → KC → Prop} (hF : ∀ (fr : List SV) (hp : LHeap) (k : KC) (φ : Phi) (a : Act) (w : World), F fr hp k → LRep g φ fr hp a w → c.wp C.P (Post g k) a w) {k : KC} :
    ∀ (n : Nat) (fr : List SV) (hp : LHeap) (φ : Phi) (a : Act) (w : World), loopP g.m0 F k n fr hp → LRep g φ fr hp a w → Code.rounds C.P c (Post g k) n a w
  | 0, _, _, _, _, _, h, _ => h
  | n + 1, fr, hp, φ, a, w, h, hr => by
    simp only [loopP] at h
    obtain ⟨fr1, hp1, hw, h⟩ := h
    obtain ⟨φ1, hr1⟩ := hr.weak hw
    refine wp_mono (hF fr1 hp1 _ φ1 a w h hr1) fun e a' w' he => ?_
    cases e <;> simp only [Post] at he
    · obtain ⟨φ', fr', hp', h1, h2⟩ := he
      exact loop_ok hF n fr' hp' φ' a' w' h1 h2
    · exact he
    · exact he

theorem evalC_ok {C : Ctx} (hC : EqOK C) (hΓ : GSound C) (hm : C.P.follows .mixedOrders = true) (u : Nat) (g : Gh) : ∀ (c : Code) (fr : List SV) (hp : LHeap) (k : KC) (φ : Phi) (a : Act) (w : World), evalC C u g.m0 c fr hp k → LRep g φ fr hp a w → c.wp C.P (Post g k) a w
  | .skip, fr, hp, k, φ, a, w, h, hr => wp_skip ⟨φ, fr, hp, h, hr⟩
  | .region id ops draw, fr, hp, k, φ, a, w, h, hr => by
    cases draw with
    | false => exact region_ok hC hΓ h hr fun φ fr hp a w h1 h2 => ⟨φ, fr, hp, h1, h2⟩
    | true => exact regionD_ok hC hΓ hm h hr fun φ fr hp a w h1 h2 => ⟨φ, fr, hp, h1, h2⟩
  | .seq x y, fr, hp, k, φ, a, w, h, hr => by
    simp only [evalC] at h
    refine wp_seq (wp_mono (evalC_ok hC hΓ hm u g x fr hp _ φ a w h hr) fun e a' w' he => ?_)
    cases e <;> simp only [Post] at he <;> simp only [Exit.then]
    · obtain ⟨φ', fr', hp', h1, h2⟩ := he
      exact evalC_ok hC hΓ hm u g y fr' hp' k φ' a' w' h1 h2
    · exact he
    · exact he
  | .cond c x y, fr, hp, k, φ, a, w, h, hr => by
    simp only [evalC] at h
    split at h
    · rename_i t ht
      have hv := evalO_R hr.fr c
      rw [ht] at hv
      simp only [R] at hv
      have hset := setO_eq ht
      cases t <;> simp only [cond_true, cond_false] at h <;> rw [hset] at h
      · exact wp_cond_false hv (evalC_ok hC hΓ hm u g y fr hp k φ a w h hr)
      · exact wp_cond_true hv (evalC_ok hC hΓ hm u g x fr hp k φ a w h hr)
    · cases h
  | .block id c, fr, hp, k, φ, a, w, h, hr => by
    simp only [evalC] at h
    refine wp_block (wp_mono (evalC_ok hC hΓ hm u g c fr hp _ φ a w h hr) fun e a' w' he => ?_)
    cases e <;> simp only [Post] at he <;> simp only [Exit.inBlock]
    · exact he
    · rename_i i
      obtain ⟨φ', fr', hp', h1, h2⟩ := he
      cases hi : Nat.beq i id with
      | true =>
        simp only [hi, cond_true] at h1
        rw [if_pos (Nat.eq_of_beq_eq_true hi)]
        exact ⟨φ', fr', hp', h1, h2⟩
      | false =>
        simp only [hi, cond_false] at h1
        rw [if_neg (by rintro rfl; simp at hi)]
        exact ⟨φ', fr', hp', h1, h2⟩
    · exact he
  | .loop c, fr, hp, k, φ, a, w, h, hr => by
    simp only [evalC] at h
    split at h
    · obtain ⟨n, h⟩ := h
      exact wp_loop_rounds n (loop_ok (fun fr hp k φ a w h1 h2 => evalC_ok hC hΓ hm 0 g c fr hp k φ a w h1 h2) n fr hp φ a w h hr)
    · rename_i n
      exact wp_loop_rounds (n + 1) (iter_ok (fun fr hp k φ a w h1 h2 => evalC_ok hC hΓ hm (n + 1) g c fr hp k φ a w h1 h2) (n + 1) fr hp φ a w h hr)
  | .exit id, fr, hp, k, φ, a, w, h, hr => wp_exit ⟨φ, fr, hp, h, hr⟩
  | .ret, fr, hp, k, φ, a, w, h, hr => wp_ret ⟨φ, fr, hp, h, hr⟩
  | .rangeFunc .., _, _, _, _, _, _, h, _ => by simp [evalC] at h
  | .scope _, _, _, _, _, _, _, h, _ => by simp [evalC] at h
  | .label _, _, _, _, _, _, _, h, _ => by simp [evalC] at h
  | .goto _, _, _, _, _, _, _, h, _ => by simp [evalC] at h
  | .refuse _, _, _, _, _, _, _, h, _ => by simp [evalC] at h


def resS (P : Program) (fr : List SV) (h : Heap) : List ResultVar → Option (List SV)
  | [] => some []
  | .tmp t :: l => match resS P fr h l with | some r => some (fr.getD t .top :: r) | none => none
  | .cell a t :: l => match fr.getD a .top with
    | .ptr id row sz fld => match h id with
      | some b => bif decide (row < b.n) && Nat.beq sz b.sz then (match loadS P t b row fld, resS P fr h l with | some s, some r => some (s :: r) | _, _ => none) else none
      | none => none
    | _ => none
def packS : List SV → SV
  | [s] => s
  | l => .tuple l
def enterS (ntmps : Nat) (args : List SV) : List SV := args ++ List.replicate (ntmps - args.length) .top
abbrev KV := SV → LHeap → Prop
/-- A function's body, from its arguments on. -/
def evalB (C : Ctx) (u : Nat) (rs : List ResultVar) (ntmps : Nat) (c : Code) (args : List SV) (hp : LHeap) (k : KV) : Prop :=
  evalC C u hp.length c (enterS ntmps args) hp fun x fr hp' => match x with
    | .exit _ => False
    | .normal => match resS C.P fr (hget hp') rs with | some l => k (packS l) hp' | none => False
    | .ret => match resS C.P fr (hget hp') rs with | some l => k (packS l) hp' | none => False

/-- A contract: from just these blocks on. -/
def Canon (P : Program) (f : FuncId) (args : List SV) (hp : LHeap) (k : KV) : Prop :=
  ∀ (φ : Phi) (w : World) (vs : List Value), HRep (liftG φ (hget hp) w hp.length) φ (hget hp) w → RL φ args vs → (∀ id, hp.length ≤ id → φ id = none) →
    Calls P f vs.toArray w fun e w' => ∃ u φ' v hp', e = .returned u ∧ k v hp' ∧ R φ' v u ∧ HRep (liftG φ (hget hp) w hp.length) φ' (hget hp') w'
theorem Canon.mono {P : Program} {f : FuncId} {args : List SV} {hp : LHeap} {k k' : KV} (h : Canon P f args hp k) (hk : ∀ v hp, k v hp → k' v hp) : Canon P f args hp k' :=
  fun φ w vs h1 h2 h3 => (h φ w vs h1 h2 h3).mono fun _ _ ⟨u, φ', v, hp', q1, q2, q3, q4⟩ => ⟨u, φ', v, hp', q1, hk _ _ q2, q3, q4⟩

theorem resS_ok {P : Program} {g : Gh} {φ : Phi} {fr : List SV} {h : Heap} {a : Act} {w : World} (hr : HRep g φ h w) (hf : RL φ fr a.tmps.toList) : ∀ {rs : List ResultVar} {l : List SV}, resS P fr h rs = some l →
    ∃ us : List Value, ((rs.mapM fun | .tmp t => pure (a.tmps.getD t undef) | .cell b t => do loadVar t (← asAddr (a.tmps.getD b undef)) : Sem (List Value))).run P w = .ok us w ∧ RL φ l us
  | [], l, h1 => by simp only [resS, Option.some.injEq] at h1; subst h1; exact ⟨[], by simp, RL.nil⟩
  | .tmp t :: rs, l, h1 => by
    simp only [resS] at h1
    split at h1
    · rename_i r hrr
      simp only [Option.some.injEq] at h1
      subst h1
      obtain ⟨us, q1, q2⟩ := resS_ok hr hf hrr
      refine ⟨a.tmps.getD t undef :: us, ?_, RL.cons (evalO_R hf (.tmp t)) q2⟩
      simp only [List.mapM_cons, Sem.run_bind, Sem.run_pure, Result.andThen_ok, q1]
    · cases h1
  | .cell b t :: rs, l, h1 => by
    simp only [resS] at h1
    split at h1
    · rename_i id row sz fld hp
      split at h1
      · rename_i blk hb
        cases hc : decide (row < blk.n) && Nat.beq sz blk.sz with
        | false => simp [hc] at h1
        | true =>
          simp only [hc, cond_true] at h1
          simp only [Bool.and_eq_true, decide_eq_true_eq] at hc
          have c2 := Nat.eq_of_beq_eq_true hc.2
          subst c2
          split at h1
          · rename_i s r hs hrr
            simp only [Option.some.injEq] at h1
            subst h1
            obtain ⟨us, q1, q2⟩ := resS_ok hr hf hrr
            have hv := evalO_R hf (.tmp b)
            simp only [evalO, hp, R, Act.eval] at hv
            obtain ⟨lc, hl, hv⟩ := hv
            obtain ⟨lc', hl', hb'⟩ := hr.blk id blk hb
            obtain rfl : lc' = lc := by rw [hl] at hl'; simpa using hl'.symm
            obtain ⟨u, u1, u2⟩ := loadS_ok (P := P) hs hb' hc.1
            refine ⟨u :: us, ?_, RL.cons u2 q2⟩
            simp only [Instr.loadAt, Instr.sureAddr, Sem.run_bind, Sem.run_pure, Result.andThen_ok] at u1
            have has : (asAddr (a.tmps.getD b undef)).run P w = .ok ⟨lc'.blk, lc'.off + (row * blk.sz + fld), none⟩ w := by rw [hv]; rfl
            simp only [List.mapM_cons, Sem.run_bind, Sem.run_pure, Result.andThen_ok, q1, has, u1]
          · cases h1
      · cases h1
    · cases h1

theorem packS_ok {φ : Phi} {l : List SV} {us : List Value} (h : RL φ l us) : R φ (packS l) (if h : us.toArray.size = 1 then us.toArray[0] else .tuple us.toArray) := by
  have hl := h.length
  match l, us, h, hl with
  | [], [], _, _ => simp only [packS, R]; exact ⟨[], RL.nil, by simp⟩
  | [s], [u], h, _ =>
    simp only [RL] at h
    obtain ⟨v, r, e, h1, _⟩ := h
    simp only [List.cons.injEq] at e
    obtain ⟨rfl, _⟩ := e
    simpa [packS] using h1
  | s :: t :: l, u :: v :: us, h, _ =>
    simp only [packS, R]
    exact ⟨_, h, by simp⟩

theorem evalB_ok {C : Ctx} (hC : EqOK C) (hΓ : GSound C) (hm : C.P.follows .mixedOrders = true) {u : Nat} {f : FuncId} {fn : Func} {c : Code} (hf : C.P.funcs[f]? = some fn) (hb : fn.body = some c)
    {rs : List ResultVar} {nt : Nat} (hrs : fn.results = rs.toArray) (hnt : fn.ntmps = nt) {args : List SV} {hp : LHeap} {k : KV} (h : evalB C u rs nt c args hp k) : Canon C.P f args hp k := by
  intro φ w vs hr ha hd
  refine calls_of_wp hf hb (wp_mono (evalC_ok hC hΓ hm u (liftG φ (hget hp) w hp.length) c _ hp _ φ _ w h ⟨hr, ?_, rfl, hd, Nat.le_refl _⟩) ?_)
  · have hl := ha.length
    have e : (vs.toArray ++ Array.replicate (fn.ntmps - vs.toArray.size) undef).toList = vs ++ List.replicate (nt - args.length) undef := by
      simp [hnt, hl]
    dsimp only
    rw [e]
    exact ha.append (RL.replicate _ _)
  · have fin : ∀ (φ' : Phi) (fr : List SV) (hp' : LHeap) (a : Act) (w' : World), (match resS C.P fr (hget hp') rs with | some l => k (packS l) hp' | none => False) → LRep (liftG φ (hget hp) w hp.length) φ' fr hp' a w' →
        a.defers = [] ∧ ∃ v, (results fn a.tmps).run C.P w' = .ok v w' ∧ ∃ u φ' v' hp', Ending.returned v = .returned u ∧ k v' hp' ∧ R φ' v' u ∧ HRep (liftG φ (hget hp) w hp.length) φ' (hget hp') w' := by
      intro φ' fr hp' a w' hk hl
      split at hk
      · rename_i l hl'
        obtain ⟨us, q1, q2⟩ := resS_ok hl.hr hl.fr hl'
        refine ⟨hl.df, _, ?_, _, φ', packS l, hp', rfl, hk, packS_ok q2, hl.hr⟩
        unfold results
        rw [hrs, Array.mapM_eq_mapM_toList]
        simp only [Sem.run_bind, Sem.run_map]
        erw [q1]
        rfl
      · cases hk
    intro e a w' he
    cases e <;> simp only [Post] at he
    · obtain ⟨φ', fr, hp', h1, h2⟩ := he
      exact fin φ' fr hp' a w' h1 h2
    · obtain ⟨_, _, _, h1, _⟩ := he
      exact h1.elim
    · obtain ⟨φ', fr, hp', h1, h2⟩ := he
      exact fin φ' fr hp' a w' h1 h2

theorem callable {P : Program} {f : FuncId} {fn : Func} (hf : P.funcs[f]? = some fn) (hn : (fn.name == "runtime.NumGoroutine") = false) (hb : fn.body.isSome = true) (vs : Array Value) (w : World) : (callFunc f vs).run P w = .ok (.enter f vs) w := by
  simp only [callFunc, Sem.run_bind, run_program, Result.andThen_ok, hf, hn, Bool.false_eq_true, if_false]
  cases h : fn.body with
  | none => rw [h] at hb; cases hb
  | some c => simp

/-! ### From a contract to a call -/
/-- A call in a part of the heap is one in the whole. -/
theorem CSim.frame {P : Program} {f : FuncId} {args : List SV} {h hm : Heap} {base : Nat} {v : SV} {wr : Wr} {news : List Blk} (hs : CSim P f args hm base v wr news) (hsub : ∀ id b, hm id = some b → h id = some b)
    (hwr : wrOk hm wr = true) (hnw : news.all (·.rw) = true) : CSim P f args h base v wr news := by
  refine ⟨hs.1, fun g φ w vs hr ha hf hm0 => ?_⟩
  refine (hs.2 (liftG φ hm w base) φ w vs (hr.lift hsub base) ha hf (Nat.le_refl _)).mono ?_
  rintro e w' ⟨u, φ', rfl, q1, q2, q3, q4⟩
  exact ⟨u, φ', rfl, q1, q2, q3, hr.lower hsub q4 q1 q2 hwr hnw hm0⟩

/-- Nothing but numbers goes in and comes out. -/
theorem CSim.plain {P : Program} {f : FuncId} {args : List SV} {v : SV} (hcall : ∀ vs w, (callFunc f vs).run P w = .ok (.enter f vs) w) (hcan : Canon P f args [] fun v' _ => v' = v)
    (ha : renL (fun _ => none) args = some args) (hv : ren (fun _ => none) v = some v) (h : Heap) (base : Nat) : CSim P f args h base v [] [] := by
  refine CSim.frame (hm := fun _ => none) ⟨hcall, fun g φ w vs hr has hf hm0 => ?_⟩ (fun id b e => nomatch e) rfl rfl
  have e0 : (Phi.via φ fun _ => none) = fun _ => none := rfl
  have ha' := RL.via ha has
  rw [e0] at ha'
  refine (hcan (fun _ => none) w vs ⟨fun id b e => (nomatch e), fun i j bi bj li lj e => (nomatch e), fun id b l e => (nomatch e), rfl, rfl, rfl, Nat.le_refl _, fun _ _ _ => rfl, fun _ _ => rfl⟩ ha' (fun _ _ => rfl)).mono ?_
  rintro e w' ⟨u, φ', v', hp', rfl, rfl, q3, q4⟩
  have hv' := (R.via hv q3).mono (ψ := φ) (fun id l e => by simp [Phi.via] at e)
  refine ⟨u, φ, rfl, Phi.le_refl φ, fun _ => .inl rfl, hv', ?_⟩
  rw [updH_nil]
  refine ⟨fun id b e => (nomatch e), fun i j bi bj li lj e => (nomatch e), fun id b l e => (nomatch e), q4.os.trans hr.os, q4.tape.trans hr.tape, q4.output.trans hr.output, Nat.le_trans hr.size q4.size, fun i hi hS => ?_, hr.ids⟩
  exact (q4.old i (Nat.lt_of_lt_of_le hi hr.size) (by rintro ⟨_, _, _, e, _⟩; cases e)).trans (hr.old i hi hS)


/-- A function that writes nothing that was there, and hands back numbers: blocks by other names, to be read alone. -/
theorem CSim.reads {P : Program} {f : FuncId} {args : List SV} {h : Heap} {v : SV} (hcall : ∀ vs w, (callFunc f vs).run P w = .ok (.enter f vs) w) (args1 : List SV) (hp1 : LHeap) (ψ : List Nat) (hl : ψ.length = hp1.length)
    (hcan : Canon P f args1 hp1 fun v' _ => v' = v) (ha : renL (fun i => ψ[i]?) args1 = some args) (hb : ∀ i b1, hget hp1 i = some b1 → b1.rw = false ∧ ∃ x b, ψ[i]? = some x ∧ h x = some b ∧ WB (fun i => ψ[i]?) b1 b)
    (hv : ren (fun _ => none) v = some v) (base : Nat) : CSim P f args h base v [] [] := by
  refine ⟨hcall, fun g φ w vs hr has hf hm0 => ?_⟩
  have hro : ∀ id b, hget hp1 id = some b → b.rw = true → False := fun id b e hrw => by rw [(hb id b e).1] at hrw; cases hrw
  have hr1 : HRep (liftG (φ.via fun i => ψ[i]?) (hget hp1) w hp1.length) (φ.via fun i => ψ[i]?) (hget hp1) w := by
    refine ⟨fun id b e => ?_, fun i j bi bj li lj hi hj hne hrw => (hro i bi hi hrw).elim, fun id b l e hrw => (hro id b e hrw).elim, rfl, rfl, rfl, Nat.le_refl _, fun _ _ _ => rfl, fun _ _ => rfl⟩
    obtain ⟨_, x, b', q1, q2, q3⟩ := hb id b e
    obtain ⟨l, p1, p2⟩ := hr.blk x b' q2
    exact ⟨l, by simp [Phi.via, q1, p1], p2.via q3⟩
  refine (hcan (φ.via fun i => ψ[i]?) w vs hr1 (RL.via ha has) fun id hid => ?_).mono ?_
  · have : ψ[id]? = none := List.getElem?_eq_none (by omega)
    simp [Phi.via, this]
  · rintro e w' ⟨u, φ', v', hp', rfl, rfl, q3, q4⟩
    have hsame : ∀ k, k < w.heap.size → w'.heap[k]? = w.heap[k]? := fun k hk => q4.old k hk (by rintro ⟨id, b, l, e1, e2, _⟩; exact hro id b e1 e2)
    have hv' := (R.via hv q3).mono (ψ := φ) (fun id l e => by simp [Phi.via] at e)
    refine ⟨u, φ, rfl, Phi.le_refl φ, fun _ => .inl rfl, hv', ?_⟩
    rw [updH_nil]
    refine ⟨fun id b e => ?_, hr.sep, hr.own, q4.os.trans hr.os, q4.tape.trans hr.tape, q4.output.trans hr.output, Nat.le_trans hr.size q4.size, fun i hi hS => (hsame i (Nat.lt_of_lt_of_le hi hr.size)).trans (hr.old i hi hS), hr.ids⟩
    obtain ⟨l, p1, p2⟩ := hr.blk id b e
    exact ⟨l, p1, p2.same (hsame l.blk p2.lt)⟩

def sq1 : Code → Code | .seq a _ => a | c => c
def sq2 : Code → Code | .seq _ b => b | c => c
def blkC : Code → Code | .block _ c => c | c => c
def lpC : Code → Code | .loop c => c | c => c
def cdT : Code → Code | .cond _ a _ => a | c => c
def cdF : Code → Code | .cond _ _ b => b | c => c
def cdO : Code → Operand | .cond o _ _ => o | _ => .const (.bool false)
def bodF (f : Func) : Code := f.body.getD .skip
/-- A function of the program, from its arguments on. -/
def evalF (C : Ctx) (u : Nat) (fn : Func) (args : List SV) (hp : LHeap) (k : KV) : Prop := evalB C u fn.results.toList fn.ntmps (bodF fn) args hp k
theorem evalF_ok {C : Ctx} (hC : EqOK C) (hΓ : GSound C) (hm : C.P.follows .mixedOrders = true) {u : Nat} {f : FuncId} {fn : Func} (hf : C.P.funcs[f]? = some fn) (hb : fn.body.isSome = true) {args : List SV} {hp : LHeap} {k : KV} (h : evalF C u fn args hp k) : Canon C.P f args hp k := by
  cases hbb : fn.body with
  | none => rw [hbb] at hb; cases hb
  | some c =>
    have e : bodF fn = c := by unfold bodF; rw [hbb]; rfl
    unfold evalF at h
    rw [e] at h
    exact evalB_ok hC hΓ hm hf hbb (by simp) rfl h

abbrev Gam := FuncId → List SV → Heap → Nat → (SV → Wr → List Blk → Prop) → Prop
abbrev Spec := List SV → Heap → Nat → (SV → Wr → List Blk → Prop) → Prop
def noGam : Gam := fun _ _ _ _ _ => False
def addGam (Γ : Gam) (f : FuncId) (S : Spec) : Gam := fun g args h base k => bif Nat.beq g f then S args h base k else Γ g args h base k
/-- The contract is kept. -/
def SpecOK (P : Program) (f : FuncId) (S : Spec) : Prop := ∀ args h base k, S args h base k → ∃ v wr news, k v wr news ∧ CSim P f args h base v wr news
theorem GSound.none {P : Program} {eq : TypeId → Bool} : GSound ⟨P, noGam, eq⟩ := fun _ _ _ _ _ h => h.elim
theorem GSound.add {P : Program} {Γ : Gam} {eq : TypeId → Bool} (hΓ : GSound ⟨P, Γ, eq⟩) {f : FuncId} {S : Spec} (hS : SpecOK P f S) : GSound ⟨P, addGam Γ f S, eq⟩ := by
  intro g args h base k hk
  simp only [addGam] at hk
  cases hg : Nat.beq g f with
  | true =>
    simp only [hg, cond_true] at hk
    obtain rfl := Nat.eq_of_beq_eq_true hg
    exact hS args h base k hk
  | false =>
    simp only [hg, cond_false] at hk
    exact hΓ g args h base k hk

def namesOk (P : Program) (t : TypeId) : Bool := match P.underlying t with | some (.struct fs) => fs.toList.all fun f => f.name != "_" | _ => true
def eqTypesOk (P : Program) : List TypeId → Bool
  | [] => true
  | t :: l => (!P.stoodInHeld t && !P.eqGuardType P.depth t && namesOk P t) && eqTypesOk P l
theorem EqOK.of_list {P : Program} {Γ : Gam} : ∀ {l : List TypeId}, eqTypesOk P l = true → EqOK ⟨P, Γ, fun t => memN t l⟩
  | [], _ => fun t ht => by simp [memN] at ht
  | t :: l, h => fun s hs => by
    simp only [eqTypesOk, Bool.and_eq_true, Bool.not_eq_true'] at h
    simp only [memN, Bool.or_eq_true] at hs
    rcases hs with hs | hs
    · obtain rfl := Nat.eq_of_beq_eq_true hs
      refine ⟨h.1.1.1, h.1.1.2, fun fs hfs f hf => ?_⟩
      have := h.1.2
      unfold namesOk at this
      rw [show (⟨P, Γ, fun u => memN u (s :: l)⟩ : Ctx).P = P from rfl] at hfs
      rw [hfs] at this
      have := List.all_eq_true.1 this f hf
      simpa using this
    · exact EqOK.of_list (Γ := Γ) h.2 s hs

/-- A loop, by what holds ahead of each round, and a number that falls. -/
theorem loopP_rule {m0 : Nat} {F : List SV → LHeap → KC → Prop} {k : KC} (I : Nat → List SV → LHeap → Prop)
    (hround : ∀ (n : Nat) (fr : List SV) (hp : LHeap) (K : KC), I n fr hp → (∀ n' fr' hp' fr1 hp1, n' < n → Weak m0 fr' hp' fr1 hp1 → I n' fr1 hp1 → K .normal fr' hp') →
      (∀ i fr' hp', k (.exit i) fr' hp' → K (.exit i) fr' hp') → (∀ fr' hp', k .ret fr' hp' → K .ret fr' hp') → F fr hp K) :
    ∀ (N n : Nat) (fr : List SV) (hp : LHeap) (fr1 : List SV) (hp1 : LHeap), n < N → Weak m0 fr hp fr1 hp1 → I n fr1 hp1 → loopP m0 F k N fr hp := by
  intro N
  induction N with
  | zero => intro n fr hp fr1 hp1 h; omega
  | succ N ih =>
    intro n fr hp fr1 hp1 hn hw hI
    simp only [loopP]
    exact ⟨fr1, hp1, hw, hround n fr1 hp1 _ hI (fun n' fr' hp' fr1' hp1' hn' hw' hI' => ih n' fr' hp' fr1' hp1' (by omega) hw' hI') (fun i fr' hp' h => h) (fun fr' hp' h => h)⟩

mutual
theorem ren_id_of : ∀ {s : SV}, svIds s = [] → ∀ ρ, ren ρ s = some s
  | .top, _, _ => rfl
  | .bool _, _, _ => rfl
  | .int _ _, _, _ => rfl
  | .ptr .., h, _ => by simp [svIds] at h
  | .nilPtr, _, _ => rfl
  | .slice .., h, _ => by simp [svIds] at h
  | .eslice, _, _ => rfl
  | .nilSlice, _, _ => rfl
  | .func fn a b, h, ρ => by
    simp only [svIds, List.append_eq_nil_iff] at h
    simp only [ren, renL_id_of h.1 ρ, renL_id_of h.2 ρ]
  | .nilFunc, _, _ => rfl
  | .agg l, h, ρ => by simp only [svIds] at h; simp only [ren, renL_id_of h ρ]
  | .tuple l, h, ρ => by simp only [svIds] at h; simp only [ren, renL_id_of h ρ]
  | .raw _, _, _ => rfl
theorem renL_id_of : ∀ {l : List SV}, svIdsL l = [] → ∀ ρ, renL ρ l = some l
  | [], _, _ => rfl
  | s :: l, h, ρ => by
    simp only [svIdsL, List.append_eq_nil_iff] at h
    simp only [renL, ren_id_of h.1 ρ, renL_id_of h.2 ρ]
end
theorem WL_self : ∀ {l : List SV}, svIdsL l = [] → ∀ ρ, WL ρ l l
  | [], _, _ => trivial
  | s :: l, h, ρ => by
    simp [svIdsL] at h
    exact ⟨.inr (ren_id_of h.1 ρ), WL_self h.2 ρ⟩

/-- A law without slices: it hands back true, and nothing that was there has turned. -/
theorem lawOf {P : Program} {f : FuncId} {args : List SV} (h : Canon P f args [] fun v _ => v = .bool true) {vs : List Value} (ha : RL (fun _ => none) args vs) (w : World) :
    Calls P f vs.toArray w fun e w' => e = .returned (.bool true) ∧ Below w.heap.size w w' := by
  refine (h (fun _ => none) w vs ⟨fun id b e => (nomatch e), fun i j bi bj li lj e => (nomatch e), fun id b l e => (nomatch e), rfl, rfl, rfl, Nat.le_refl _, fun _ _ _ => rfl, fun _ _ => rfl⟩ ha (fun _ _ => rfl)).mono ?_
  rintro e w' ⟨u, φ', v, hp', rfl, rfl, q3, q4⟩
  simp only [R] at q3
  subst q3
  exact ⟨rfl, ⟨q4.os, q4.tape, q4.output, q4.size, fun k hk => q4.old k hk (by rintro ⟨_, _, _, e, _⟩; cases e)⟩⟩
/-- A law whose blocks are read alone. -/
theorem lawOfR {P : Program} {f : FuncId} {args : List SV} {hp : LHeap} (h : Canon P f args hp fun v _ => v = .bool true) (hro : ∀ id b, hget hp id = some b → b.rw = false) {φ : Phi} {w : World} (hd : ∀ id, hp.length ≤ id → φ id = none)
    (hb : ∀ id b, hget hp id = some b → ∃ l, φ id = some l ∧ BAt φ l b w) {vs : List Value} (ha : RL φ args vs) :
    Calls P f vs.toArray w fun e w' => e = .returned (.bool true) ∧ Below w.heap.size w w' := by
  have hno : ∀ id b, hget hp id = some b → b.rw = true → False := fun id b e h => by rw [hro id b e] at h; cases h
  refine (h φ w vs ⟨hb, fun i j bi bj li lj e _ _ hr => (hno i bi e hr).elim, fun id b l e hr => (hno id b e hr).elim, rfl, rfl, rfl, Nat.le_refl _, fun _ _ _ => rfl, fun _ _ => rfl⟩ ha hd).mono ?_
  rintro e w' ⟨u, φ', v, hp', rfl, rfl, q3, q4⟩
  simp only [R] at q3
  subst q3
  exact ⟨rfl, ⟨q4.os, q4.tape, q4.output, q4.size, fun k hk => q4.old k hk (by rintro ⟨id, b, _, e, e2, _⟩; exact hno id b e e2)⟩⟩

/-! ### Saying less -/
def ltAll (m : Nat) : List Nat → Bool
  | [] => true
  | x :: l => Nat.blt x m && ltAll m l
theorem ltAll_append {m : Nat} : ∀ {a b : List Nat}, ltAll m (a ++ b) = (ltAll m a && ltAll m b)
  | [], _ => by simp [ltAll]
  | x :: a, b => by simp [ltAll, ltAll_append (a := a), Bool.and_assoc]
def upTo (m : Nat) : Ren := fun i => (List.range m)[i]?
theorem upTo_lt {m i : Nat} (h : i < m) : upTo m i = some i := by simp [upTo, h]
mutual
theorem ren_upTo {m : Nat} : ∀ {s : SV}, ltAll m (svIds s) = true → ren (upTo m) s = some s
  | .top, _ => rfl
  | .bool _, _ => rfl
  | .int _ _, _ => rfl
  | .ptr id _ _ _, h => by
    simp only [svIds, ltAll, Bool.and_true] at h
    have : id < m := by simpa [Nat.blt_eq] using h
    simp only [ren, upTo_lt this]
  | .nilPtr, _ => rfl
  | .slice id _ _ _, h => by
    simp only [svIds, ltAll, Bool.and_true] at h
    have : id < m := by simpa [Nat.blt_eq] using h
    simp only [ren, upTo_lt this]
  | .eslice, _ => rfl
  | .nilSlice, _ => rfl
  | .func fn a b, h => by
    simp only [svIds, ltAll_append, Bool.and_eq_true] at h
    simp only [ren, renL_upTo h.1, renL_upTo h.2]
  | .nilFunc, _ => rfl
  | .agg l, h => by simp only [svIds] at h; simp only [ren, renL_upTo h]
  | .tuple l, h => by simp only [svIds] at h; simp only [ren, renL_upTo h]
  | .raw _, _ => rfl
theorem renL_upTo {m : Nat} : ∀ {l : List SV}, ltAll m (svIdsL l) = true → renL (upTo m) l = some l
  | [], _ => rfl
  | s :: l, h => by
    simp only [svIdsL, ltAll_append, Bool.and_eq_true] at h
    simp only [renL, ren_upTo h.1, renL_upTo h.2]
end
/-- The same, or nothing is said. -/
def TopW (m : Nat) : List SV → List SV → Prop
  | [], [] => True
  | s :: l, t :: r => (s = .top ∨ (ltAll m (svIds s) = true ∧ s = t)) ∧ TopW m l r
  | _, _ => False
theorem TopW.wl {m : Nat} : ∀ {l r : List SV}, TopW m l r → WL (upTo m) l r
  | [], [], _ => trivial
  | s :: l, t :: r, h => by
    simp only [TopW] at h
    refine ⟨?_, TopW.wl h.2⟩
    rcases h.1 with h' | ⟨h1, rfl⟩
    · exact .inl h'
    · exact .inr (ren_upTo h1)
  | [], _ :: _, h => by simp [TopW] at h
  | _ :: _, [], h => by simp [TopW] at h
theorem WL_upTo {m : Nat} : ∀ {l : List SV}, ltAll m (svIdsL l) = true → WL (upTo m) l l
  | [], _ => trivial
  | s :: l, h => by
    simp only [svIdsL, ltAll_append, Bool.and_eq_true] at h
    exact ⟨.inr (ren_upTo h.1), WL_upTo h.2⟩
theorem hget_take {hp : LHeap} {m id : Nat} {b : Blk} (h : hget (hp.take m) id = some b) : id < m ∧ hget hp id = some b := by
  rw [hget_eq, List.getElem?_take] at h
  split at h
  · rename_i hlt; exact ⟨hlt, by rw [hget_eq]; exact h⟩
  · cases h
/-- The first blocks are kept, and what is said of the frame. -/
theorem Weak.keep {m0 m : Nat} {fr fr1 : List SV} {hp hp1 : LHeap} (e : hp1 = hp.take m) (hm : m0 ≤ m) (hml : m ≤ hp.length) (hf : TopW m fr1 fr) (hb : ∀ id b, hget hp1 id = some b → ∀ r, r < b.n → ltAll m (svIdsL (b.rd r)) = true) : Weak m0 fr hp fr1 hp1 := by
  subst e
  have hl : (hp.take m).length = m := by simp; omega
  refine ⟨List.range m, by rw [hl]; simp, by rw [hl]; exact hm, fun i hi => by rw [List.getElem?_range (by omega)], hf.wl, fun id b1 hb1 => ?_, fun i j x hi hj h1 h2 => ?_⟩
  · obtain ⟨h1, h2⟩ := hget_take hb1
    exact ⟨id, b1, by rw [List.getElem?_range h1], h2, ⟨rfl, Nat.le_refl _, fun h => h, fun _ => rfl, fun r hr => WL_upTo (hb id b1 hb1 r hr)⟩⟩
  · rw [hl] at hi hj
    rw [List.getElem?_range hi] at h1
    rw [List.getElem?_range hj] at h2
    simp only [Option.some.injEq] at h1 h2
    omega


/-- What a part of the code does, from such a state on. -/
def CodeOK (P : Program) (m0 : Nat) (c : Code) (fr : List SV) (hp : LHeap) (K : KC) : Prop :=
  ∀ (g : Gh) (φ : Phi) (a : Act) (w : World), g.m0 = m0 → LRep g φ fr hp a w → c.wp P (Post g K) a w
theorem CodeOK.eval {C : Ctx} (hC : EqOK C) (hΓ : GSound C) (hm : C.P.follows .mixedOrders = true) (u : Nat) {m0 : Nat} {c : Code} {fr : List SV} {hp : LHeap} {K : KC} (h : evalC C u m0 c fr hp K) : CodeOK C.P m0 c fr hp K :=
  fun g φ a w hg hr => evalC_ok hC hΓ hm u g c fr hp K φ a w (by rw [hg]; exact h) hr
/-- The state may be said anew at the end. -/
def KW (m0 : Nat) (K : KC) : KC := fun x fr hp => ∃ fr1 hp1, Weak m0 fr hp fr1 hp1 ∧ K x fr1 hp1
theorem Post.weak {g : Gh} {K K' : KC} (hK : ∀ x fr hp, K x fr hp → KW g.m0 K' x fr hp) {e : Exit} {a : Act} {w : World} (h : Post g K e a w) : Post g K' e a w := by
  cases e <;> simp only [Post] at h ⊢ <;> first | exact h | (
    obtain ⟨φ, fr, hp, h1, h2⟩ := h
    obtain ⟨fr1, hp1, h3, h4⟩ := hK _ _ _ h1
    obtain ⟨φ', h5⟩ := h2.weak h3
    exact ⟨φ', fr1, hp1, h4, h5⟩)
theorem Post.mono {g : Gh} {K K' : KC} (hK : ∀ x fr hp, K x fr hp → K' x fr hp) {e : Exit} {a : Act} {w : World} (h : Post g K e a w) : Post g K' e a w := by
  cases e <;> simp only [Post] at h ⊢ <;> first | exact h | (
    obtain ⟨φ, fr, hp, h1, h2⟩ := h
    exact ⟨φ, fr, hp, hK _ _ _ h1, h2⟩)
theorem CodeOK.mono {P : Program} {m0 : Nat} {c : Code} {fr : List SV} {hp : LHeap} {K K' : KC} (h : CodeOK P m0 c fr hp K) (hK : ∀ x fr hp, K x fr hp → K' x fr hp) : CodeOK P m0 c fr hp K' :=
  fun g φ a w hg hr => wp_mono (h g φ a w hg hr) fun _ _ _ he => Post.mono hK he
theorem CodeOK.monoW {P : Program} {m0 : Nat} {c : Code} {fr : List SV} {hp : LHeap} {K K' : KC} (h : CodeOK P m0 c fr hp K) (hK : ∀ x fr hp, K x fr hp → KW m0 K' x fr hp) : CodeOK P m0 c fr hp K' :=
  fun g φ a w hg hr => wp_mono (h g φ a w hg hr) fun _ _ _ he => Post.weak (by rw [hg]; exact hK) he
theorem CodeOK.pre {P : Program} {m0 : Nat} {c : Code} {fr fr1 : List SV} {hp hp1 : LHeap} {K : KC} (hw : Weak m0 fr hp fr1 hp1) (h : CodeOK P m0 c fr1 hp1 K) : CodeOK P m0 c fr hp K := by
  intro g φ a w hg hr
  subst hg
  obtain ⟨φ', hr'⟩ := hr.weak hw
  exact h g φ' a w rfl hr'
/-- One part, then the next. -/
def thenK (K : KC) (N : List SV → LHeap → Prop) : KC
  | .normal, fr, hp => N fr hp
  | .exit i, fr, hp => K (.exit i) fr hp
  | .ret, fr, hp => K .ret fr hp
theorem CodeOK.seq {P : Program} {m0 : Nat} {x y : Code} {fr : List SV} {hp : LHeap} {K : KC} (h : CodeOK P m0 x fr hp (thenK K fun fr hp => CodeOK P m0 y fr hp K)) : CodeOK P m0 (.seq x y) fr hp K := by
  intro g φ a w hg hr
  refine wp_seq (wp_mono (h g φ a w hg hr) fun e a' w' he => ?_)
  cases e <;> simp only [Post, thenK] at he <;> simp only [Exit.then]
  · obtain ⟨φ', fr', hp', h1, h2⟩ := he
    exact h1 g φ' a' w' hg h2
  · exact he
  · exact he
def blockK (K : KC) (id : Nat) : KC
  | .exit i, fr, hp => bif Nat.beq i id then K .normal fr hp else K (.exit i) fr hp
  | x, fr, hp => K x fr hp
theorem CodeOK.block {P : Program} {m0 id : Nat} {c : Code} {fr : List SV} {hp : LHeap} {K : KC} (h : CodeOK P m0 c fr hp (blockK K id)) : CodeOK P m0 (.block id c) fr hp K := by
  intro g φ a w hg hr
  refine wp_block (wp_mono (h g φ a w hg hr) fun e a' w' he => ?_)
  cases e <;> simp only [Post, blockK] at he <;> simp only [Exit.inBlock]
  · exact he
  · rename_i i
    obtain ⟨φ', fr', hp', h1, h2⟩ := he
    cases hi : Nat.beq i id with
    | true =>
      simp only [hi, cond_true] at h1
      rw [if_pos (Nat.eq_of_beq_eq_true hi)]
      exact ⟨φ', fr', hp', h1, h2⟩
    | false =>
      simp only [hi, cond_false] at h1
      rw [if_neg (by rintro rfl; simp at hi)]
      exact ⟨φ', fr', hp', h1, h2⟩
  · exact he
theorem CodeOK.cond {P : Program} {m0 : Nat} {o : Operand} {x y : Code} {fr : List SV} {hp : LHeap} {K : KC} {t : Bool} (ho : evalO fr o = .bool t) (h : if t then CodeOK P m0 x fr hp K else CodeOK P m0 y fr hp K) : CodeOK P m0 (.cond o x y) fr hp K := by
  intro g φ a w hg hr
  have hv := evalO_R hr.fr o
  rw [ho] at hv
  simp only [R] at hv
  cases t
  · simp only [Bool.false_eq_true, if_false] at h
    exact wp_cond_false hv (h g φ a w hg hr)
  · simp only [if_true] at h
    exact wp_cond_true hv (h g φ a w hg hr)
/-- What a round leaves: the next one, or the end. -/
def roundK (m0 : Nat) (K : KC) (I : Nat → List SV → LHeap → Prop) (n : Nat) : KC := thenK K fun fr hp => ∃ n' fr1 hp1, n' < n ∧ Weak m0 fr hp fr1 hp1 ∧ I n' fr1 hp1
theorem CodeOK.loop {P : Program} {m0 : Nat} {c : Code} {K : KC} (I : Nat → List SV → LHeap → Prop) (hI : ∀ n fr hp, I n fr hp → CodeOK P m0 c fr hp (roundK m0 K I n)) {n : Nat} {fr : List SV} {hp : LHeap} (h : I n fr hp) : CodeOK P m0 (.loop c) fr hp K := by
  have main : ∀ (N n : Nat) (fr : List SV) (hp : LHeap), n < N → I n fr hp → ∀ (g : Gh) (φ : Phi) (a : Act) (w : World), g.m0 = m0 → LRep g φ fr hp a w → Code.rounds P c (Post g K) N a w := by
    intro N
    induction N with
    | zero => intro n fr hp h; omega
    | succ N ih =>
      intro n fr hp hn h g φ a w hg hr
      refine wp_mono (hI n fr hp h g φ a w hg hr) fun e a' w' he => ?_
      cases e <;> simp only [Post, roundK, thenK] at he
      · obtain ⟨φ', fr', hp', ⟨n', fr1, hp1, q1, q2, q3⟩, h2⟩ := he
        subst hg
        obtain ⟨φ1, hr1⟩ := h2.weak q2
        exact ih n' fr1 hp1 (by omega) q3 g φ1 a' w' rfl hr1
      · exact he
      · exact he
  intro g φ a w hg hr
  exact wp_loop_rounds (n + 1) (main (n + 1) n fr hp (by omega) h g φ a w hg hr)
/-- A function, from what its body does. -/
def endK (P : Program) (rs : List ResultVar) (k : KV) : KC := fun x fr hp => match x with
  | .exit _ => False
  | .normal => match resS P fr (hget hp) rs with | some l => k (packS l) hp | none => False
  | .ret => match resS P fr (hget hp) rs with | some l => k (packS l) hp | none => False
theorem CodeOK.body {P : Program} {f : FuncId} {fn : Func} (hf : P.funcs[f]? = some fn) (hb : fn.body.isSome = true) {args : List SV} {hp : LHeap} {k : KV}
    (h : CodeOK P hp.length (bodF fn) (enterS fn.ntmps args) hp (endK P fn.results.toList k)) : Canon P f args hp k := by
  cases hbb : fn.body with
  | none => rw [hbb] at hb; cases hb
  | some c =>
    have e : bodF fn = c := by unfold bodF; rw [hbb]; rfl
    rw [e] at h
    intro φ w vs hr ha hd
    refine calls_of_wp hf hbb (wp_mono (h (liftG φ (hget hp) w hp.length) φ _ w rfl ⟨hr, ?_, rfl, hd, Nat.le_refl _⟩) ?_)
    · have hl := ha.length
      have e : (vs.toArray ++ Array.replicate (fn.ntmps - vs.toArray.size) undef).toList = vs ++ List.replicate (fn.ntmps - args.length) undef := by
        simp [hl]
      dsimp only
      rw [e]
      exact ha.append (RL.replicate _ _)
    · have fin : ∀ (φ' : Phi) (fr : List SV) (hp' : LHeap) (a : Act) (w' : World), (match resS P fr (hget hp') fn.results.toList with | some l => k (packS l) hp' | none => False) → LRep (liftG φ (hget hp) w hp.length) φ' fr hp' a w' →
          a.defers = [] ∧ ∃ v, (results fn a.tmps).run P w' = .ok v w' ∧ ∃ u φ' v' hp', Ending.returned v = .returned u ∧ k v' hp' ∧ R φ' v' u ∧ HRep (liftG φ (hget hp) w hp.length) φ' (hget hp') w' := by
        intro φ' fr hp' a w' hk hl
        split at hk
        · rename_i l hl'
          obtain ⟨us, q1, q2⟩ := resS_ok hl.hr hl.fr hl'
          refine ⟨hl.df, _, ?_, _, φ', packS l, hp', rfl, hk, packS_ok q2, hl.hr⟩
          unfold results
          rw [Array.mapM_eq_mapM_toList]
          simp only [Sem.run_bind, Sem.run_map]
          erw [q1]
          rfl
        · cases hk
      intro e a w' he
      cases e <;> simp only [Post, endK] at he
      · obtain ⟨φ', fr, hp', h1, h2⟩ := he
        exact fin φ' fr hp' a w' h1 h2
      · obtain ⟨_, _, _, h1, _⟩ := he
        exact h1.elim
      · obtain ⟨φ', fr, hp', h1, h2⟩ := he
        exact fin φ' fr hp' a w' h1 h2


def findN (x : Nat) : List Nat → Option Nat
  | [] => none
  | y :: l => bif Nat.beq y x then some 0 else (findN x l).map (· + 1)
theorem findN_get {x : Nat} : ∀ {l : List Nat} {i : Nat}, findN x l = some i → l[i]? = some x
  | [], _, h => by simp [findN] at h
  | y :: l, i, h => by
    simp only [findN] at h
    cases hy : Nat.beq y x with
    | true =>
      simp only [hy, cond_true, Option.some.injEq] at h
      subst h
      simp [Nat.eq_of_beq_eq_true hy]
    | false =>
      simp only [hy, cond_false, Option.map_eq_some_iff] at h
      obtain ⟨j, h1, rfl⟩ := h
      simpa using findN_get h1
/-- From the caller's names to the function's: new ones, and those that were given. -/
def back (ψ τ : List Nat) (base : Nat) : Ren := fun id => bif Nat.ble base id && Nat.blt id (base + τ.length) then τ[id - base]? else findN id ψ
theorem back_cases {ψ τ : List Nat} {base id i : Nat} (h : back ψ τ base id = some i) : (base ≤ id ∧ id < base + τ.length ∧ τ[id - base]? = some i) ∨ (¬ (base ≤ id ∧ id < base + τ.length) ∧ ψ[i]? = some id) := by
  unfold back at h
  cases hc : Nat.ble base id && Nat.blt id (base + τ.length) with
  | true =>
    rw [hc, cond_true] at h
    simp only [Bool.and_eq_true, Nat.ble_eq, Nat.blt_eq] at hc
    exact .inl ⟨hc.1, hc.2, h⟩
  | false =>
    rw [hc, cond_false] at h
    refine .inr ⟨fun hh => ?_, findN_get h⟩
    have : (Nat.ble base id && Nat.blt id (base + τ.length)) = true := by simp [Nat.ble_eq, Nat.blt_eq, hh]
    rw [this] at hc
    cases hc
/-- What a function leaves, by the caller's names. -/
structure FinOK (ψ : List Nat) (hp1 : LHeap) (base : Nat) (v : SV) (wr : Wr) (news : List Blk) (v' : SV) (hp2 : LHeap) (τ : List Nat) : Prop where
  len : τ.length = news.length
  lo : ∀ t ∈ τ, hp1.length ≤ t
  inj : ∀ (i j x : Nat), τ[i]? = some x → τ[j]? = some x → i = j
  val : ren (back ψ τ base) v = some v'
  nw : ∀ (j : Nat) (b : Blk), news[j]? = some b → b.rw = true ∧ ∃ i b2, τ[j]? = some i ∧ hget hp2 i = some b2 ∧ WB (back ψ τ base) b b2
  wrs : ∀ (id : Nat) (ob : Option Blk), lk wr id = some ob → ∃ i b b2 b1, ψ[i]? = some id ∧ ob = some b ∧ b.rw = true ∧ hget hp1 i = some b1 ∧ b1.rw = true ∧ hget hp2 i = some b2 ∧ WB (back ψ τ base) b b2
  all : ∀ (i : Nat) (b1 : Blk), hget hp1 i = some b1 → b1.rw = true → ∃ x b b2, ψ[i]? = some x ∧ lk wr x = some (some b) ∧ hget hp2 i = some b2 ∧ b2.rw = true

theorem CSim.gen {P : Program} {f : FuncId} {args : List SV} {h : Heap} {v : SV} {wr : Wr} {news : List Blk} (hcall : ∀ vs w, (callFunc f vs).run P w = .ok (.enter f vs) w) (args1 : List SV) (hp1 : LHeap) (ψ : List Nat) (hl : ψ.length = hp1.length)
    {base : Nat} (hinj : ∀ (i j x : Nat), ψ[i]? = some x → ψ[j]? = some x → i = j) {K : KV}
    (hcan : Canon P f args1 hp1 K) (ha : renL (fun i => ψ[i]?) args1 = some args) (hb : ∀ (i : Nat) (b1 : Blk), hget hp1 i = some b1 → ∃ x b, ψ[i]? = some x ∧ h x = some b ∧ WB (fun i => ψ[i]?) b1 b)
    (hfin : ∀ v' hp2, K v' hp2 → ∃ τ, FinOK ψ hp1 base v wr news v' hp2 τ) : CSim P f args h base v wr news := by
  refine ⟨hcall, fun g φ w vs hr has hf hm0 => ?_⟩
  have hr1 : HRep (liftG (φ.via fun i => ψ[i]?) (hget hp1) w hp1.length) (φ.via fun i => ψ[i]?) (hget hp1) w := by
    refine ⟨fun id b e => ?_, fun i j bi bj li lj hi hj hne hrw pi pj => ?_, fun id b l e hrw hp => .inl ⟨id, b, l, e, hrw, hp, rfl⟩, rfl, rfl, rfl, Nat.le_refl _, fun _ _ _ => rfl, fun _ _ => rfl⟩
    · obtain ⟨x, b', q1, q2, q3⟩ := hb id b e
      obtain ⟨l, p1, p2⟩ := hr.blk x b' q2
      exact ⟨l, by simp [Phi.via, q1, p1], p2.via q3⟩
    · obtain ⟨x, bx, q1, q2, q3⟩ := hb i bi hi
      obtain ⟨y, by', p1, p2, p3⟩ := hb j bj hj
      simp only [Phi.via, q1] at pi
      simp only [Phi.via, p1] at pj
      refine hr.sep x y bx by' li lj q2 p2 ?_ (q3.rw hrw) pi pj
      rintro rfl
      exact hne (hinj i j x q1 p1)
  refine (hcan (φ.via fun i => ψ[i]?) w vs hr1 (RL.via ha has) fun id hid => ?_).mono ?_
  · have : ψ[id]? = none := List.getElem?_eq_none (by omega)
    simp [Phi.via, this]
  rintro e w' ⟨u, φ', v', hp2, rfl, hK, hv, q4⟩
  obtain ⟨τ, F⟩ := hfin v' hp2 hK
  -- the names behind the call
  let φ2 : Phi := fun id => if base ≤ id ∧ id < base + news.length then (τ[id - base]?).bind φ' else φ id
  have φ2old : ∀ id, ¬ (base ≤ id ∧ id < base + news.length) → φ2 id = φ id := fun id h => if_neg h
  have φ2new : ∀ id, base ≤ id → id < base + news.length → φ2 id = (τ[id - base]?).bind φ' := fun id h1 h2 => if_pos ⟨h1, h2⟩
  have hidx : ∀ i x, ψ[i]? = some x → i < hp1.length := fun i x e => by
    rw [← hl]; exact (List.getElem?_eq_some_iff.1 e).1
  have hφ' : ∀ i x, ψ[i]? = some x → φ' i = φ x := fun i x e => by
    have := q4.ids i (hidx i x e)
    rw [this]
    simp [liftG, Phi.via, e]
  have hle : φ.le φ2 := fun id l e => by
    by_cases hc : base ≤ id ∧ id < base + news.length
    · have := hf (id - base) (by omega)
      rw [show base + (id - base) = id by omega] at this
      rw [this] at e; cases e
    · rw [φ2old id hc]; exact e
  have hvia : (φ'.via (back ψ τ base)).le φ2 := fun id l e => by
    simp only [Phi.via] at e
    split at e
    · rename_i i hi
      rcases back_cases hi with ⟨h1, h2, h3⟩ | ⟨h1, h2⟩
      · rw [F.len] at h2
        rw [φ2new id h1 h2, h3]; exact e
      · rw [F.len] at h1
        rw [φ2old id h1, ← hφ' i id h2]; exact e
    · cases e
  have hold : ∀ k, k < w.heap.size → (∀ i b1 l x, hget hp1 i = some b1 → b1.rw = true → ψ[i]? = some x → φ x = some l → l.blk ≠ k) → w'.heap[k]? = w.heap[k]? := fun k hk hn => q4.old k hk (by
    rintro ⟨i, b1, l, e1, e2, e3, e4⟩
    obtain ⟨x, b, p1, _, _⟩ := hb i b1 e1
    simp only [Phi.via, p1] at e3
    exact hn i b1 l x e1 e2 p1 e3 e4)
  have hnewloc : ∀ t b2 l, hp1.length ≤ t → hget hp2 t = some b2 → b2.rw = true → φ' t = some l → w.heap.size ≤ l.blk := fun t b2 l ht e1 e2 e3 => by
    rcases q4.own t b2 l e1 e2 e3 with ⟨i, b1, l0, p1, p2, p3, p4⟩ | h1
    · exfalso
      obtain ⟨x, b, b2', r1, _, r2, r3⟩ := F.all i b1 p1 p2
      have hi := hidx i x r1
      have p3' : φ' i = some l0 := (q4.ids i hi).trans p3
      exact q4.sep i t b2' b2 l0 l r2 e1 (by omega) r3 p3' e3 p4
    · exact h1
  -- each block behind the call is the function's, or as it was
  have cls : ∀ id b, updH h base wr news id = some b →
      (b.rw = true ∧ ∃ c b2, hget hp2 c = some b2 ∧ b2.rw = true ∧ WB (back ψ τ base) b b2 ∧ φ2 id = φ' c ∧
        ((base ≤ id ∧ τ[id - base]? = some c ∧ hp1.length ≤ c) ∨ (ψ[c]? = some id ∧ c < hp1.length ∧ φ2 id = φ id ∧ ∃ d, h id = some d ∧ d.rw = true))) ∨
      (φ2 id = φ id ∧ h id = some b ∧ (∀ i b1, hget hp1 i = some b1 → b1.rw = true → ψ[i]? = some id → False)) := by
    intro id b e
    unfold updH at e
    by_cases hc : base ≤ id ∧ id < base + news.length
    · rw [if_pos hc] at e
      obtain ⟨h1, i, b2, h2, h3, h4⟩ := F.nw _ _ e
      refine .inl ⟨h1, i, b2, h3, h4.rw h1, h4, ?_, .inl ⟨hc.1, h2, F.lo i (List.mem_of_getElem? h2)⟩⟩
      rw [φ2new id hc.1 hc.2, h2]; rfl
    · rw [if_neg hc] at e
      cases hk : lk wr id with
      | some ob =>
        obtain ⟨i, b', b2, b1, h1, h2, h3, h4, h5, h6, h7⟩ := F.wrs id ob hk
        rw [hk, Option.getD_some, h2] at e
        cases e
        obtain ⟨x, d, p1, p2, p3⟩ := hb i b1 h4
        rw [h1] at p1; cases p1
        exact .inl ⟨h3, i, b2, h6, h7.rw h3, h7, (φ2old id hc).trans (hφ' i id h1).symm, .inr ⟨h1, hidx i id h1, φ2old id hc, d, p2, p3.rw h5⟩⟩
      | none =>
        rw [hk, Option.getD_none] at e
        refine .inr ⟨φ2old id hc, e, fun i b1 e1 e2 e3 => ?_⟩
        obtain ⟨x, b', b2, p1, p2, _⟩ := F.all i b1 e1 e2
        rw [e3] at p1; cases p1
        rw [hk] at p2; cases p2
  have sep1 : ∀ i j bi bj li lj, updH h base wr news i = some bi → updH h base wr news j = some bj → i ≠ j → (bi.rw = true ∨ bj.rw = true) → φ2 i = some li → φ2 j = some lj → li.blk ≠ lj.blk := by
    have mixed : ∀ i j bj li lj c b2, hget hp2 c = some b2 → b2.rw = true → φ2 i = φ' c → ((base ≤ i ∧ τ[i - base]? = some c ∧ hp1.length ≤ c) ∨ (ψ[c]? = some i ∧ c < hp1.length ∧ φ2 i = φ i ∧ ∃ d, h i = some d ∧ d.rw = true)) →
        h j = some bj → φ2 j = φ j → i ≠ j → φ2 i = some li → φ2 j = some lj → li.blk ≠ lj.blk := by
      intro i j bj li lj c b2 h1 h2 h3 h4 h5 h6 hne pi pj
      rw [h6] at pj
      rcases h4 with ⟨_, _, q3⟩ | ⟨_, _, q5, d, q6, q7⟩
      · rw [h3] at pi
        have := hnewloc c b2 li q3 h1 h2 pi
        obtain ⟨l, r1, r2⟩ := hr.blk j bj h5
        rw [pj] at r1; cases r1
        have := r2.lt
        omega
      · rw [q5] at pi
        exact hr.sep i j d bj li lj q6 h5 hne q7 pi pj
    intro i j bi bj li lj hi hj hne hrw pi pj
    rcases cls i bi hi with ⟨a1, c, b2, a2, a3, a4, a5, a6⟩ | ⟨a1, a2, a3⟩ <;> rcases cls j bj hj with ⟨d1, c', b2', d2, d3, d4, d5, d6⟩ | ⟨d1, d2, d3⟩
    · have hcc : c ≠ c' := by
        rintro rfl
        rcases a6 with ⟨a7, a8, a9⟩ | ⟨a8, a9, _⟩ <;> rcases d6 with ⟨d7, d8, d9⟩ | ⟨d8, d9, _⟩
        · have := F.inj _ _ _ a8 d8
          omega
        · omega
        · omega
        · rw [a8] at d8; cases d8; exact hne rfl
      rw [a5] at pi
      rw [d5] at pj
      exact q4.sep c c' b2 b2' li lj a2 d2 hcc a3 pi pj
    · exact mixed i j bj li lj c b2 a2 a3 a5 a6 d2 d1 hne pi pj
    · exact fun e => mixed j i bi lj li c' b2' d2 d3 d5 d6 a2 a1 (Ne.symm hne) pj pi e.symm
    · rw [a1] at pi
      rw [d1] at pj
      rcases hrw with hrw | hrw
      · exact hr.sep i j bi bj li lj a2 d2 hne hrw pi pj
      · exact fun e => hr.sep j i bj bi lj li d2 a2 (Ne.symm hne) hrw pj pi e.symm
  refine ⟨u, φ2, rfl, hle, fun id => ?_, (R.via F.val hv).mono hvia, fun id b e => ?_, fun i j bi bj li lj hi hj hne hrw pi pj => sep1 i j bi bj li lj hi hj hne (.inl hrw) pi pj, fun id b l e hrw hp => ?_, q4.os.trans hr.os, q4.tape.trans hr.tape, q4.output.trans hr.output, Nat.le_trans hr.size q4.size, fun k hk hS => ?_, fun id hid => ?_⟩
  · by_cases hc : base ≤ id ∧ id < base + news.length
    · exact .inr hc
    · exact .inl (φ2old id hc)
  · rcases cls id b e with ⟨a1, c, b2, a2, a3, a4, a5, a6⟩ | ⟨a1, a2, a3⟩
    · obtain ⟨l, p1, p2⟩ := q4.blk c b2 a2
      exact ⟨l, a5.trans p1, (p2.via a4).mono hvia⟩
    · obtain ⟨l, p1, p2⟩ := hr.blk id b a2
      refine ⟨l, a1.trans p1, (p2.mono hle).same (hold l.blk p2.lt fun i b1 l' x e1 e2 e3 e4 => ?_)⟩
      obtain ⟨x', d, r1, r2, r3⟩ := hb i b1 e1
      rw [e3] at r1; cases r1
      exact hr.sep x id d b l' l r2 a2 (by rintro rfl; exact a3 i b1 e1 e2 e3) (r3.rw e2) e4 p1
  · rcases cls id b e with ⟨a1, c, b2, a2, a3, a4, a5, a6⟩ | ⟨a1, a2, a3⟩
    · rcases a6 with ⟨_, _, q3⟩ | ⟨_, _, q5, d, q6, q7⟩
      · exact .inr (Nat.le_trans hr.size (hnewloc c b2 l q3 a2 a3 (a5.symm.trans hp)))
      · exact hr.own id d l q6 q7 (q5.symm.trans hp)
    · exact hr.own id b l a2 hrw (a1.symm.trans hp)
  · refine (hold k (Nat.lt_of_lt_of_le hk hr.size) fun i b1 l x e1 e2 e3 e4 => ?_).trans (hr.old k hk hS)
    rintro rfl
    obtain ⟨x', d, r1, r2, r3⟩ := hb i b1 e1
    rw [e3] at r1; cases r1
    rcases hr.own x d l r2 (r3.rw e2) e4 with h1 | h1
    · exact hS h1
    · omega
  · rw [φ2old id (by omega)]
    exact hr.ids id hid


/-- A block, as it is told: itself, or its rows. -/
inductive BO where
  | raw (b : Option Blk)
  | rows (sz n : Nat) (rw : Bool) (ty : Nat) (l : List (List SV))
def obsB : Bool → Option Blk → BO
  | true, some b => .rows b.sz b.n b.rw b.ty ((List.range b.n).map b.rd)
  | _, b => .raw b
def mkB : BO → Option Blk
  | .raw b => b
  | .rows sz n rw ty l => some ⟨sz, n, fun r => l.getD r [], rw, ty⟩
def obsHs : List Bool → LHeap → List BO
  | [], _ => []
  | _ :: M, [] => .raw none :: obsHs M []
  | m :: M, b :: hp => obsB m b :: obsHs M hp
def lkv (i : Nat) : List Nat → List SV → SV
  | a :: L, v :: vs => bif Nat.beq a i then v else lkv i L vs
  | _, _ => .top
def tplG (L : List Nat) (vals : List SV) : Nat → Nat → List SV
  | 0, _ => []
  | n + 1, i => lkv i L vals :: tplG L vals n (i + 1)
/-- A frame of which these slots are told. -/
def tplF (len : Nat) (L : List Nat) (vals : List SV) : List SV := tplG L vals len 0
theorem tplG_get {L : List Nat} {vals : List SV} : ∀ {n i j : Nat}, (tplG L vals n i)[j]? = if j < n then some (lkv (i + j) L vals) else none
  | 0, _, _ => by simp [tplG]
  | n + 1, i, 0 => by simp [tplG]
  | n + 1, i, j + 1 => by
    simp only [tplG, List.getElem?_cons_succ]
    rw [tplG_get, show i + 1 + j = i + (j + 1) by omega]
    simp
theorem tplF_get {len : Nat} {L : List Nat} {vals : List SV} {j : Nat} : (tplF len L vals)[j]? = if j < len then some (lkv j L vals) else none := by
  rw [tplF, tplG_get, Nat.zero_add]
theorem tplG_length {L : List Nat} {vals : List SV} : ∀ {n i : Nat}, (tplG L vals n i).length = n
  | 0, _ => rfl
  | n + 1, i => by simp [tplG, tplG_length]
theorem tplF_length {len : Nat} {L : List Nat} {vals : List SV} : (tplF len L vals).length = len := tplG_length
theorem TopW.of_get {m : Nat} : ∀ {l r : List SV}, l.length = r.length → (∀ (i : Nat) (s t : SV), l[i]? = some s → r[i]? = some t → s = .top ∨ (ltAll m (svIds s) = true ∧ s = t)) → TopW m l r
  | [], [], _, _ => trivial
  | [], _ :: _, h, _ => by simp at h
  | _ :: _, [], h, _ => by simp at h
  | a :: l, b :: r, h, k => ⟨k 0 a b rfl rfl, TopW.of_get (by simpa using h) fun i s t h1 h2 => k (i + 1) s t (by simpa using h1) (by simpa using h2)⟩
theorem ltAll_mem {m : Nat} : ∀ {vs : List SV} {s : SV}, ltAll m (svIdsL vs) = true → s ∈ vs → ltAll m (svIds s) = true
  | [], _, _, h => by simp at h
  | a :: vs, s, h, hm => by
    simp only [svIdsL, ltAll_append, Bool.and_eq_true] at h
    rcases List.mem_cons.1 hm with rfl | hm
    · exact h.1
    · exact ltAll_mem h.2 hm
theorem lkv_mem {i : Nat} : ∀ {L : List Nat} {vs : List SV}, lkv i L vs = .top ∨ lkv i L vs ∈ vs
  | [], _ => .inl (by simp [lkv])
  | _ :: _, [] => .inl (by simp [lkv])
  | a :: L, v :: vs => by
    simp only [lkv]
    cases Nat.beq a i with
    | true => exact .inr (by simp)
    | false => exact (lkv_mem (L := L) (vs := vs)).imp id fun h => by simpa using .inr h
theorem lkv_map {i : Nat} {f : Nat → SV} : ∀ {L : List Nat}, lkv i L (L.map f) = .top ∨ lkv i L (L.map f) = f i
  | [] => .inl rfl
  | a :: L => by
    simp only [List.map_cons, lkv]
    cases h : Nat.beq a i with
    | true => exact .inr (by rw [Nat.eq_of_beq_eq_true h]; rfl)
    | false => exact lkv_map
def idsOkB (m : Nat) : BO → Prop
  | .raw (some b) => ∀ r, r < b.n → ltAll m (svIdsL (b.rd r)) = true
  | .raw none => True
  | .rows _ _ _ _ l => (l.all fun cs => ltAll m (svIdsL cs)) = true
def allIds (m : Nat) : List BO → Prop
  | [] => True
  | b :: l => idsOkB m b ∧ allIds m l
theorem allIds_get {m : Nat} : ∀ {B : List BO} {i : Nat} {b : BO}, allIds m B → B[i]? = some b → idsOkB m b
  | [], _, _, _, h => by simp at h
  | c :: B, 0, b, h, e => by simp at e; subst e; exact h.1
  | c :: B, i + 1, b, h, e => allIds_get h.2 (by simpa using e)
theorem obsHs_get : ∀ {M : List Bool} {hp : LHeap} {i : Nat} {x : BO}, (obsHs M hp)[i]? = some x → ∃ t, x = obsB t (hget hp i) ∧ i < M.length
  | [], _, _, _, h => by simp [obsHs] at h
  | m :: M, [], 0, x, h => by simp [obsHs] at h; exact ⟨false, by rw [← h]; rfl, by simp⟩
  | m :: M, [], i + 1, x, h => by
    simp only [obsHs, List.getElem?_cons_succ] at h
    obtain ⟨t, h1, h2⟩ := obsHs_get h
    exact ⟨t, h1, by simpa using h2⟩
  | m :: M, b :: hp, 0, x, h => by simp [obsHs] at h; exact ⟨m, by rw [← h]; rfl, by simp⟩
  | m :: M, b :: hp, i + 1, x, h => by
    simp only [obsHs, List.getElem?_cons_succ] at h
    obtain ⟨t, h1, h2⟩ := obsHs_get h
    exact ⟨t, h1, by simpa using h2⟩
theorem obsHs_length : ∀ {M : List Bool} {hp : LHeap}, (obsHs M hp).length = M.length
  | [], _ => rfl
  | _ :: M, [] => by simp [obsHs, obsHs_length]
  | _ :: M, _ :: hp => by simp [obsHs, obsHs_length]
theorem mkB_wb {m : Nat} {t : Bool} {o : Option Blk} {b1 : Blk} (hid : idsOkB m (obsB t o)) (h : mkB (obsB t o) = some b1) : ∃ b, o = some b ∧ WB (upTo m) b1 b := by
  cases o with
  | none => cases t <;> simp [obsB, mkB] at h
  | some b =>
    refine ⟨b, rfl, ?_⟩
    cases t with
    | false =>
      simp only [obsB, mkB, Option.some.injEq] at h
      subst h
      exact ⟨rfl, Nat.le_refl _, fun h => h, fun _ => rfl, fun r hr => WL_upTo (hid r hr)⟩
    | true =>
      simp only [obsB, mkB, Option.some.injEq] at h
      subst h
      refine ⟨rfl, Nat.le_refl _, fun h => h, fun _ => rfl, fun r hr => ?_⟩
      have hr : r < b.n := hr
      have e : ((List.range b.n).map b.rd).getD r [] = b.rd r := by
        rw [List.getD_eq_getElem?_getD, List.getElem?_map, List.getElem?_range hr]; rfl
      show WL _ (((List.range b.n).map b.rd).getD r []) (b.rd r)
      rw [e]
      simp only [obsB, idsOkB, List.all_eq_true] at hid
      exact WL_upTo (hid (b.rd r) (List.mem_map.2 ⟨r, List.mem_range.2 hr, rfl⟩))
theorem obs_weak {m0 : Nat} {fr : List SV} {hp : LHeap} {len : Nat} {L : List Nat} {vals : List SV} {M : List Bool} {B : List BO} (h1 : fr.length = len) (h2 : (L.map fun i => fr.getD i .top) = vals) (h3 : obsHs M hp = B) (hm : m0 ≤ M.length)
    (hv : ltAll M.length (svIdsL vals) = true) (hb : allIds M.length B) : Weak m0 fr hp (tplF len L vals) (B.map mkB) := by
  subst h1 h2 h3
  have hl : ((obsHs M hp).map mkB).length = M.length := by simp [obsHs_length]
  have hf : TopW M.length (tplF fr.length L (L.map fun i => fr.getD i .top)) fr := by
    refine TopW.of_get tplF_length fun i s t e1 e2 => ?_
    rw [tplF_get] at e1
    split at e1
    · simp only [Option.some.injEq] at e1
      have e3 : fr.getD i .top = t := by rw [List.getD_eq_getElem?_getD, e2]; rfl
      rcases lkv_map (i := i) (f := fun i => fr.getD i .top) (L := L) with h | h
      · exact .inl (e1 ▸ h)
      · rcases lkv_mem (i := i) (L := L) (vs := L.map fun i => fr.getD i .top) with h' | h'
        · exact .inl (e1 ▸ h')
        · exact .inr ⟨ltAll_mem hv (e1 ▸ h'), by rw [← e1, h, e3]⟩
    · cases e1
  refine ⟨List.range M.length, by rw [hl]; simp, by rw [hl]; exact hm, fun i hi => by rw [List.getElem?_range (by omega)], hf.wl, fun id b1 hb1 => ?_, fun i j x hi hj p1 p2 => ?_⟩
  · rw [hget_eq, List.getElem?_map] at hb1
    cases hx : (obsHs M hp)[id]? with
    | none => rw [hx] at hb1; cases hb1
    | some x =>
      obtain ⟨t, rfl, hlt⟩ := obsHs_get hx
      have hb1 : mkB (obsB t (hget hp id)) = some b1 := by
        rw [hx] at hb1
        simpa using hb1
      obtain ⟨b, q1, q2⟩ := mkB_wb (allIds_get hb hx) hb1
      exact ⟨id, b, by rw [List.getElem?_range hlt], q1, q2⟩
  · rw [hl] at hi hj
    rw [List.getElem?_range hi] at p1
    rw [List.getElem?_range hj] at p2
    simp only [Option.some.injEq] at p1 p2
    omega
/-- What is seen of a state. -/
abbrev KT := Ex → Nat → List SV → List BO → Prop
def obs (L : List Nat) (M : List Bool) (Kt : KT) : KC := fun x fr hp => Kt x fr.length (L.map fun i => fr.getD i .top) (obsHs M hp)
/-- A state by its template. -/
def stK (len : Nat) (L : List Nat) (Q : Ex → List SV → List BO → Prop) : KC := fun x fr hp => ∃ vals B, fr = tplF len L vals ∧ hp = B.map mkB ∧ Q x vals B
/-- What must be seen, so that it can be said. -/
def seen (len m : Nat) (Q : Ex → List SV → List BO → Prop) : KT := fun x n vals B => n = len ∧ ltAll m (svIdsL vals) = true ∧ allIds m B ∧ Q x vals B
theorem obs_kw {m0 len : Nat} {L : List Nat} {M : List Bool} {Q : Ex → List SV → List BO → Prop} (hm : m0 ≤ M.length) : ∀ x fr hp, obs L M (seen len M.length Q) x fr hp → KW m0 (stK len L Q) x fr hp :=
  fun _ _ _ ⟨h1, h2, h3, h4⟩ => ⟨_, _, obs_weak h1 rfl rfl hm h2 h3, _, _, rfl, rfl, h4⟩
theorem CodeOK.look {C : Ctx} (hC : EqOK C) (hΓ : GSound C) (hm : C.P.follows .mixedOrders = true) {u m0 len : Nat} {c : Code} {fr : List SV} {hp : LHeap} {L : List Nat} {M : List Bool} (hm0 : m0 ≤ M.length) {Q : Ex → List SV → List BO → Prop}
    (h : evalC C u m0 c fr hp (obs L M (seen len M.length Q))) : CodeOK C.P m0 c fr hp (stK len L Q) :=
  (CodeOK.eval hC hΓ hm u h).monoW (obs_kw hm0)
/-- It must not return here. -/
def obsN (L : List Nat) (M : List Bool) (Kt : KT) : KC := fun x fr hp => match x with
  | .ret => False
  | .exit i => obs L M Kt (.exit i) fr hp
  | .normal => obs L M Kt .normal fr hp
theorem obsN_obs {L : List Nat} {M : List Bool} {Kt : KT} : ∀ x fr hp, obsN L M Kt x fr hp → obs L M Kt x fr hp
  | .ret, _, _, h => h.elim
  | .exit _, _, _, h => h
  | .normal, _, _, h => h
theorem CodeOK.lookN {C : Ctx} (hC : EqOK C) (hΓ : GSound C) (hm : C.P.follows .mixedOrders = true) {u m0 len : Nat} {c : Code} {fr : List SV} {hp : LHeap} {L : List Nat} {M : List Bool} (hm0 : m0 ≤ M.length) {Q : Ex → List SV → List BO → Prop}
    (h : evalC C u m0 c fr hp (obsN L M (seen len M.length Q))) : CodeOK C.P m0 c fr hp (stK len L Q) :=
  (CodeOK.eval hC hΓ hm u h).monoW fun x fr hp h => obs_kw hm0 x fr hp (obsN_obs x fr hp h)
def ValW : List SV → List SV → Prop
  | [], [] => True
  | s :: l, t :: r => (s = .top ∨ s = t) ∧ ValW l r
  | _, _ => False
theorem ValW.lkv {i : Nat} : ∀ {L : List Nat} {a b : List SV}, ValW a b → lkv i L a = .top ∨ lkv i L a = lkv i L b
  | [], _, _, _ => .inl (by simp [Go.Proofs.Ytcjfmkkfcbelpaa.lkv])
  | _ :: _, [], [], _ => .inl (by simp [Go.Proofs.Ytcjfmkkfcbelpaa.lkv])
  | _ :: _, [], _ :: _, h => h.elim
  | _ :: _, _ :: _, [], h => h.elim
  | x :: L, s :: a, t :: b, h => by
    simp only [Go.Proofs.Ytcjfmkkfcbelpaa.lkv]
    cases Nat.beq x i with
    | true => exact h.1
    | false => exact ValW.lkv h.2
theorem tpl_weak {m0 len : Nat} {L : List Nat} {vals vals' : List SV} {B R : List BO} (hv : ValW vals' vals) (hi : ltAll B.length (svIdsL vals') = true) (hb : allIds B.length B) (hm : m0 ≤ B.length) :
    Weak m0 (tplF len L vals) ((B ++ R).map mkB) (tplF len L vals') (B.map mkB) := by
  have hl : (B.map mkB).length = B.length := by simp
  have hf : TopW B.length (tplF len L vals') (tplF len L vals) := by
    refine TopW.of_get (by rw [tplF_length, tplF_length]) fun i s t e1 e2 => ?_
    rw [tplF_get] at e1 e2
    split at e1
    · rename_i hlt
      rw [if_pos hlt] at e2
      simp only [Option.some.injEq] at e1 e2
      rcases hv.lkv (i := i) (L := L) with h | h
      · exact .inl (e1 ▸ h)
      · rcases lkv_mem (i := i) (L := L) (vs := vals') with h' | h'
        · exact .inl (e1 ▸ h')
        · exact .inr ⟨ltAll_mem hi (e1 ▸ h'), by rw [← e1, h, e2]⟩
    · cases e1
  refine ⟨List.range B.length, by rw [hl]; simp, by rw [hl]; exact hm, fun i hi => by rw [List.getElem?_range (by omega)], hf.wl, fun id b1 hb1 => ?_, fun i j x hi hj p1 p2 => ?_⟩
  · rw [hget_eq, List.getElem?_map] at hb1
    cases hx : B[id]? with
    | none => rw [hx] at hb1; cases hb1
    | some x =>
      have hlt : id < B.length := (List.getElem?_eq_some_iff.1 hx).1
      have e : mkB x = some b1 := by rw [hx] at hb1; simpa using hb1
      refine ⟨id, b1, by rw [List.getElem?_range hlt], ?_, ?_⟩
      · rw [hget_eq, List.getElem?_map, List.getElem?_append_left hlt, hx]
        simpa using e
      · have hid := allIds_get hb hx
        refine ⟨rfl, Nat.le_refl _, fun h => h, fun _ => rfl, fun r hr => WL_upTo ?_⟩
        cases x with
        | raw o => cases o with
          | none => cases e
          | some b => simp only [mkB, Option.some.injEq] at e; subst e; exact hid r hr
        | rows sz n rw ty l =>
          simp only [mkB, Option.some.injEq] at e
          subst e
          show ltAll _ (svIdsL (l.getD r [])) = true
          simp only [idsOkB, List.all_eq_true] at hid
          rw [List.getD_eq_getElem?_getD]
          cases hr' : l[r]? with
          | none => rfl
          | some cs => exact hid cs (List.mem_of_getElem? hr')
  · rw [hl] at hi hj
    rw [List.getElem?_range hi] at p1
    rw [List.getElem?_range hj] at p2
    simp only [Option.some.injEq] at p1 p2
    omega
/-- The same frame; blocks are said by other words. -/
theorem heap_weak {m0 m : Nat} {fr : List SV} {hp hp1 : LHeap} (hl : hp1.length = m) (hm : m0 ≤ m) (hf : ltAll m (svIdsL fr) = true) (hb : ∀ id b1, hget hp1 id = some b1 → ∃ b, hget hp id = some b ∧ WB (upTo m) b1 b) : Weak m0 fr hp fr hp1 := by
  subst hl
  refine ⟨List.range hp1.length, by simp, hm, fun i hi => by rw [List.getElem?_range (by omega)], WL_upTo hf, fun id b1 hb1 => ?_, fun i j x hi hj p1 p2 => ?_⟩
  · have hlt : id < hp1.length := by
      rcases Nat.lt_or_ge id hp1.length with h | h
      · exact h
      · rw [hget_none h] at hb1; cases hb1
    obtain ⟨b, q1, q2⟩ := hb id b1 hb1
    exact ⟨id, b, by rw [List.getElem?_range hlt], q1, q2⟩
  · rw [List.getElem?_range hi] at p1
    rw [List.getElem?_range hj] at p2
    simp only [Option.some.injEq] at p1 p2
    omega
/-- Parts one behind the other are walked at once; then the rest. -/
theorem CodeOK.monoV {P : Program} {m0 : Nat} {c : Code} {fr : List SV} {hp : LHeap} {K K' : KC} (h : CodeOK P m0 c fr hp K) (hK : ∀ x fr hp, K x fr hp → K' x fr hp ∨ KW m0 K' x fr hp) : CodeOK P m0 c fr hp K' := by
  intro g φ a w hg hr
  subst hg
  refine wp_mono (h g φ a w rfl hr) fun e a' w' he => ?_
  cases e <;> simp only [Post] at he ⊢ <;> first | exact he | (
    obtain ⟨φ, fr, hp, h1, h2⟩ := he
    rcases hK _ _ _ h1 with h3 | ⟨fr1, hp1, h3, h4⟩
    · exact ⟨φ, fr, hp, h3, h2⟩
    · obtain ⟨φ', h5⟩ := h2.weak h3
      exact ⟨φ', fr1, hp1, h4, h5⟩)
theorem CodeOK.parts' {C : Ctx} (hC : EqOK C) (hΓ : GSound C) (hm : C.P.follows .mixedOrders = true) {u m0 : Nat} {X : Code} {K K0 : KC} (hK : ∀ x fr hp, K0 x fr hp → KW m0 (thenK K fun fr hp => CodeOK C.P m0 X fr hp K) x fr hp) :
    ∀ (l : List Code) {fr : List SV} {hp : LHeap}, evalC C u m0 (l.foldr .seq .skip) fr hp K0 → CodeOK C.P m0 (l.foldr .seq X) fr hp (fun x fr hp => K x fr hp ∨ KW m0 K x fr hp)
  | [], fr, hp, h => by
    simp only [List.foldr, evalC] at h ⊢
    obtain ⟨fr1, hp1, h1, h2⟩ := hK _ _ _ h
    exact (CodeOK.pre h1 h2).mono fun x fr hp h => .inl h
  | a :: l, fr, hp, h => by
    simp only [List.foldr, evalC] at h ⊢
    refine CodeOK.seq ((CodeOK.eval hC hΓ hm u h).mono fun x fr hp h => ?_)
    cases x with
    | exit i => exact .inr (hK _ _ _ h)
    | ret => exact .inr (hK _ _ _ h)
    | normal => exact CodeOK.parts' hC hΓ hm hK l h
theorem CodeOK.parts {C : Ctx} (hC : EqOK C) (hΓ : GSound C) (hm : C.P.follows .mixedOrders = true) {u m0 : Nat} {X : Code} {K K0 : KC} (l : List Code) {fr : List SV} {hp : LHeap} (h : evalC C u m0 (l.foldr .seq .skip) fr hp K0)
    (hK : ∀ x fr hp, K0 x fr hp → KW m0 (thenK K fun fr hp => CodeOK C.P m0 X fr hp K) x fr hp) : CodeOK C.P m0 (l.foldr .seq X) fr hp K :=
  (CodeOK.parts' hC hΓ hm hK l h).monoV fun _ _ _ h => h
/-- The same, by templates. -/
theorem CodeOK.front {C : Ctx} (hC : EqOK C) (hΓ : GSound C) (hm : C.P.follows .mixedOrders = true) {u m0 len : Nat} {X : Code} {K : KC} (l : List Code) {fr : List SV} {hp : LHeap} {L : List Nat} {M : List Bool} (hm0 : m0 ≤ M.length) {Q : Ex → List SV → List BO → Prop}
    (h : evalC C u m0 (l.foldr .seq .skip) fr hp (obs L M (seen len M.length Q))) (hK : ∀ x vals B, Q x vals B → thenK K (fun fr hp => CodeOK C.P m0 X fr hp K) x (tplF len L vals) (B.map mkB)) : CodeOK C.P m0 (l.foldr .seq X) fr hp K :=
  CodeOK.parts hC hΓ hm l h fun x fr hp hs => by
    obtain ⟨fr1, hp1, h1, vals, B, rfl, rfl, h2⟩ := obs_kw hm0 x fr hp hs
    exact ⟨_, _, h1, hK x vals B h2⟩
theorem CodeOK.frontN {C : Ctx} (hC : EqOK C) (hΓ : GSound C) (hm : C.P.follows .mixedOrders = true) {u m0 len : Nat} {X : Code} {K : KC} (l : List Code) {fr : List SV} {hp : LHeap} {L : List Nat} {M : List Bool} (hm0 : m0 ≤ M.length) {Q : Ex → List SV → List BO → Prop}
    (h : evalC C u m0 (l.foldr .seq .skip) fr hp (obsN L M (seen len M.length Q))) (hK : ∀ x vals B, Q x vals B → thenK K (fun fr hp => CodeOK C.P m0 X fr hp K) x (tplF len L vals) (B.map mkB)) : CodeOK C.P m0 (l.foldr .seq X) fr hp K :=
  CodeOK.parts hC hΓ hm l h fun x fr hp hs => by
    obtain ⟨fr1, hp1, h1, vals, B, rfl, rfl, h2⟩ := obs_kw hm0 x fr hp (obsN_obs x fr hp hs)
    exact ⟨_, _, h1, hK x vals B h2⟩
theorem CodeOK.st {P : Program} {m0 len : Nat} {c : Code} {fr : List SV} {hp : LHeap} {L : List Nat} {Q : Ex → List SV → List BO → Prop} {K : KC} (h : CodeOK P m0 c fr hp (stK len L Q)) (hK : ∀ x vals B, Q x vals B → K x (tplF len L vals) (B.map mkB)) : CodeOK P m0 c fr hp K :=
  h.mono fun x fr hp ⟨vals, B, h1, h2, h3⟩ => by subst h1 h2; exact hK x vals B h3
theorem resS_tmps {P : Program} {fr : List SV} {h : Heap} : ∀ (L : List Nat), resS P fr h (L.map .tmp) = some (L.map fun i => fr.getD i .top)
  | [] => rfl
  | i :: L => by simp [resS, resS_tmps L]
/-- The end of a function, seen. -/
theorem CodeOK.fin {C : Ctx} (hC : EqOK C) (hΓ : GSound C) (hm : C.P.follows .mixedOrders = true) {u m0 : Nat} {c : Code} {fr : List SV} {hp : LHeap} {L : List Nat} {M : List Bool} {k : SV → List BO → Prop} {k' : KV}
    (h : evalC C u m0 c fr hp (obs L M fun x _ l B => (x = .ret ∨ x = .normal) ∧ k (packS l) B)) (hk : ∀ v hp, k v (obsHs M hp) → k' v hp) : CodeOK C.P m0 c fr hp (endK C.P (L.map .tmp) k') :=
  (CodeOK.eval hC hΓ hm u h).mono fun x fr hp h => by
    obtain ⟨hx, h⟩ := h
    rcases hx with rfl | rfl <;> (simp only [endK, resS_tmps]; exact hk _ _ h)
end Go.Proofs.Ytcjfmkkfcbelpaa
