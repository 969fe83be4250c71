/-
  What the rows' proofs share: how an argument opens.
-/
import Derived.Test.YtcjfmkkfcbelpaaRows
import Derived.WalkKit
import Derived.ProofKit
import Derived.OpenShut
namespace Go.Proofs.Ytcjfmkkfcbelpaa
open Go.ChangeShapes Go.WideShapes Go.ChangeAt Go.RowKit
theorem own : ownKnob Try.prog.godebug = none := by kernel_rfl
theorem laidOut : laidOutB Try.prog = true := by kernel_rfl

theorem wf_i64 {n : Int} (h : (Lit.int .i64 n).wf = true) : -9223372036854775808 ≤ n ∧ n ≤ 9223372036854775807 := by
  simpa [Lit.wf, IntKind.min, IntKind.max, IntKind.signed, IntKind.bits] using h
theorem wf_hi {n : Int} (h : (Lit.int .i64 n).wf = true) : n ≤ 9223372036854775807 := (wf_i64 h).2
theorem wf_lo {n : Int} (h : (Lit.int .i64 n).wf = true) : -9223372036854775808 ≤ n := (wf_i64 h).1
/-- A slice of integers that came in: nil, or a row of cap cells. -/
def IsRow (k : IntKind) (w : World) (a : Option Addr) (len cap : Nat) (zs : List Int) : Prop :=
  (a = none ∧ len = 0 ∧ cap = 0 ∧ zs = []) ∨
  ∃ x, a = some x ∧ len ≤ cap ∧ cap ≤ maxLen ∧ zs.length = cap ∧ (∀ i, i < zs.length → w.cell? (x.add i) = some (.int k (zs.getD i 0))) ∧ ∀ n ∈ zs, (Lit.int k n).wf = true

theorem isRow_of {H : Type} {enc : TypeId × Value → H} {P : Program} {W : World} {b : Nat} {held : Bool} {t e : TypeId} {k : IntKind} {a : Option Addr} {len cap : Nat} {d : DataW H} {p : List MemPlace}
    (ht : P.underlying t = some (.slice e)) (he : P.underlying e = some (.int k)) (hc : P.cellsOf e = 1) (h : DataW.Trod enc P W b (fun _ => true) held t (.slice a len cap) d p) : ∃ zs, IsRow k W a len cap zs := by
  obtain ⟨fuel, hf⟩ := h
  rcases open_ints ht he hc hf with ⟨hcs, _⟩ | ⟨x, l, c, zs, hcs, _, hl, hm, hz, _, hcell, hwz⟩
  · simp [Value.cells] at hcs
    obtain ⟨rfl, rfl, rfl⟩ := hcs
    exact ⟨[], .inl ⟨rfl, rfl, rfl, rfl⟩⟩
  · simp [Value.cells] at hcs
    obtain ⟨rfl, rfl, rfl⟩ := hcs
    exact ⟨zs, .inr ⟨_, rfl, hl, hm, by simpa using hz, hcell, hwz⟩⟩

/-! ### Aggregates of one-cell leaves (numbers, truth values), however nested: each cell by its place -/
/-- The type of the leaf at a place of a type, as deep as k. -/
def leafAt (P : Program) : Nat → TypeId → Nat → Option TypeId
  | 0, _, _ => none
  | k + 1, t, off =>
    match P.underlying t with
    | some (.struct fs) => fs.toList.findSome? fun f => if f.offset ≤ off ∧ off < f.offset + P.cellsOf f.type then leafAt P k f.type (off - f.offset) else none
    | some (.array n e) => if 0 < P.cellsOf e ∧ off / P.cellsOf e < n then leafAt P k e (off % P.cellsOf e) else none
    | some _ => if off = 0 then some t else none
    | none => none

theorem cut_cut {l : List Value} {o c d : Nat} (h : d < c) : (((l.drop o).take c).drop d).take 1 = (l.drop (o + d)).take 1 := by
  rw [List.drop_take, List.drop_drop, List.take_take]
  congr 1
  omega

theorem trod_one {H : Type} {enc : TypeId × Value → H} {P : Program} {w : World} {base : Nat} {spare : Nat → Bool} {held : Bool} {t : TypeId} {T : TypeDesc} {fuel : Nat} {cs : List Value} {x : DataW H × List MemPlace}
    (ht : P.underlying t = some T) (h1 : ∀ fs, T ≠ .struct fs) (h2 : ∀ n e, T ≠ .array n e) (h : DataW.trod enc P w base spare held fuel t cs = some x) : cs.length = 1 := by
  cases fuel with
  | zero => simp [DataW.trod] at h
  | succ m =>
    unfold DataW.trod at h
    rw [ht] at h
    split at h <;> simp_all

theorem leaf_trod {H : Type} {enc : TypeId × Value → H} {P : Program} {w : World} {base : Nat} {spare : Nat → Bool} {held : Bool} :
    ∀ (k : Nat) (t : TypeId) (off : Nat) (u : TypeId) (fuel : Nat) (cs : List Value) (x : DataW H × List MemPlace), leafAt P k t off = some u → P.cellsOf u = 1 →
      DataW.trod enc P w base spare held fuel t cs = some x → ∃ (m : Nat) (y : DataW H × List MemPlace), DataW.trod enc P w base spare held m u ((cs.drop off).take 1) = some y := by
  intro k
  induction k with
  | zero => intro t off u fuel cs x h; simp [leafAt] at h
  | succ k ih =>
    intro t off u fuel cs x h hu hx
    unfold leafAt at h
    split at h
    · rename_i fs ht
      obtain ⟨xs, n, _, _, _, hl, hf⟩ := DataW.trod_struct ht hx
      obtain ⟨f, hfm, hfo⟩ := List.exists_of_findSome?_eq_some h
      split at hfo
      · rename_i hc
        obtain ⟨i, hi, hif⟩ := List.getElem_of_mem hfm
        have hfi : fs[i]? = some f := by
          rw [← hif]; simp at hi; simp [hi]
        have h1 := hf i f hfi
        have hxi : xs[i]? = some (xs[i]'(by rw [hl]; simpa using hi)) := List.getElem?_eq_getElem (by rw [hl]; simpa using hi)
        rw [hxi] at h1
        obtain ⟨m, y, hy⟩ := ih f.type (off - f.offset) u n _ _ hfo hu h1
        rw [cut_cut (by omega), show f.offset + (off - f.offset) = off from by omega] at hy
        exact ⟨m, y, hy⟩
      · cases hfo
    · rename_i n e ht
      split at h
      · rename_i hc
        obtain ⟨xs, m', _, _, _, hl, hf⟩ := DataW.trod_array ht hx
        have h1 := hf (off / P.cellsOf e) hc.2
        have hxi : xs[off / P.cellsOf e]? = some (xs[off / P.cellsOf e]'(by omega)) := List.getElem?_eq_getElem (by omega)
        rw [hxi] at h1
        obtain ⟨m, y, hy⟩ := ih e (off % P.cellsOf e) u m' _ _ h hu h1
        rw [cut_cut (Nat.mod_lt _ hc.1), Nat.mul_comm, Nat.div_add_mod] at hy
        exact ⟨m, y, hy⟩
      · cases h
    · rename_i T h1 h2 ht
      split at h
      · rename_i h0
        simp only [Option.some.injEq] at h
        subst h; subst h0
        refine ⟨fuel, x, ?_⟩
        rw [List.drop_zero]
        have hl := trod_one ht (fun fs e => h1 fs e) (fun n e' e => h2 n e' e) hx
        rw [List.take_of_length_le (by omega)]; exact hx
      · cases h
    · cases h

theorem leaf_int {H : Type} {enc : TypeId × Value → H} {P : Program} {w : World} {base : Nat} {spare : Nat → Bool} {held : Bool} {t : TypeId} {cs : Array Value} {d : DataW H} {p : List MemPlace}
    (h : DataW.Trod enc P w base spare held t (.agg cs) d p) (k off : Nat) (u : TypeId) (kd : IntKind) (hl : leafAt P k t off = some u) (hu : P.cellsOf u = 1) (hk : P.underlying u = some (.int kd)) :
    ∃ n, cs[off]? = some (.int kd n) ∧ (Lit.int kd n).wf = true := by
  obtain ⟨fuel, hf⟩ := h
  obtain ⟨m, y, hy⟩ := leaf_trod k t off u fuel _ _ hl hu hf
  obtain ⟨n, hn, _, hw⟩ := DataW.trod_int hk hy
  refine ⟨n, ?_, hw⟩
  have h1 := congrArg (fun l => l[0]?) hn
  simpa [Value.cells, List.getElem?_take, List.getElem?_drop] using h1
theorem leaf_bool {H : Type} {enc : TypeId × Value → H} {P : Program} {w : World} {base : Nat} {spare : Nat → Bool} {held : Bool} {t : TypeId} {cs : Array Value} {d : DataW H} {p : List MemPlace}
    (h : DataW.Trod enc P w base spare held t (.agg cs) d p) (k off : Nat) (u : TypeId) (hl : leafAt P k t off = some u) (hu : P.cellsOf u = 1) (hk : P.underlying u = some .bool) :
    ∃ b, cs[off]? = some (.bool b) := by
  obtain ⟨fuel, hf⟩ := h
  obtain ⟨m, y, hy⟩ := leaf_trod k t off u fuel _ _ hl hu hf
  obtain ⟨b, hn, _⟩ := DataW.trod_bool hk hy
  refine ⟨b, ?_⟩
  have h1 := congrArg (fun l => l[0]?) hn
  simpa [Value.cells, List.getElem?_take, List.getElem?_drop] using h1
theorem okWide_agg {P : Program} {w : World} {r : Reach} {b0 : Nat} {t : TypeId} {v : Value} (ht : (∃ fs, P.underlying t = some (.struct fs)) ∨ ∃ n e, P.underlying t = some (.array n e)) (h : Value.okWide P w r b0 t v) : ∃ cs, v = .agg cs ∧ cs.size = P.cellsOf t := by
  rcases ht with ⟨fs, ht⟩ | ⟨n, e, ht⟩
  all_goals
    simp only [Value.okWide, ht] at h
    obtain ⟨cs, h1, h2, _⟩ := h
    exact ⟨cs, h1, h2⟩
end Go.Proofs.Ytcjfmkkfcbelpaa
