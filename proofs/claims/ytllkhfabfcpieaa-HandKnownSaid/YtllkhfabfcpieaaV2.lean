/-
  Chapter 16 by the engine: are two lists the same?
-/
import Derived.Test.YtllkhfabfcpieaaX3
import Derived.Test.YtllkhfabfcpieaaT2
namespace Go.Proofs.Ytllkhfabfcpieaa
open Go.RowKit
/-- The numbers of a slice. -/
def IsL (h : Heap) (v : SV) (l : List Int) : Prop := (v = .nilSlice ∧ l = []) ∨ ∃ id b, v = .slice id 0 1 l.length ∧ l ≠ [] ∧ l.length ≤ 3 ∧ h id = some b ∧ b.sz = 1 ∧ b.n = l.length ∧ ∀ r, r < l.length → b.rd r = [.int .i64 (l.getD r 0)]
theorem int1_ok {l : List SV} {K : Int → Prop} (h : int1 l K) : ∃ x, l = [.int .i64 x] ∧ K x := by
  unfold int1 at h
  split at h
  · exact ⟨_, rfl, h⟩
  · cases h
theorem readI_ok {h : Heap} {v : SV} {K : List Int → Prop} (hk : readI h v K) : ∃ l, IsL h v l ∧ K l := by
  unfold readI at hk
  split at hk
  · exact ⟨[], .inl ⟨rfl, rfl⟩, hk⟩
  · rename_i id
    split at hk
    · rename_i b hb
      split at hk
      · rename_i h1 h2
        obtain ⟨x, e0, hk⟩ := int1_ok hk
        refine ⟨[x], .inr ⟨id, b, rfl, by simp, by simp, hb, h1, h2, fun r hr => ?_⟩, hk⟩
        match r, hr with
        | 0, _ => exact e0
      · cases hk
    · cases hk
  · rename_i id
    split at hk
    · rename_i b hb
      split at hk
      · rename_i h1 h2
        obtain ⟨x, e0, hk⟩ := int1_ok hk
        obtain ⟨y, e1, hk⟩ := int1_ok hk
        refine ⟨[x, y], .inr ⟨id, b, rfl, by simp, by simp, hb, h1, h2, fun r hr => ?_⟩, hk⟩
        match r, hr with
        | 0, _ => exact e0
        | 1, _ => exact e1
      · cases hk
    · cases hk
  · rename_i id
    split at hk
    · rename_i b hb
      split at hk
      · rename_i h1 h2
        obtain ⟨x, e0, hk⟩ := int1_ok hk
        obtain ⟨y, e1, hk⟩ := int1_ok hk
        obtain ⟨z, e2, hk⟩ := int1_ok hk
        refine ⟨[x, y, z], .inr ⟨id, b, rfl, by simp, by simp, hb, h1, h2, fun r hr => ?_⟩, hk⟩
        match r, hr with
        | 0, _ => exact e0
        | 1, _ => exact e1
        | 2, _ => exact e2
      · cases hk
    · cases hk
  · cases hk
def args2 : List Int → List Int → List SV
  | [], [] => [.nilSlice, .nilSlice]
  | [], _ :: l => [.nilSlice, .slice 0 0 1 (l.length + 1)]
  | _ :: l, [] => [.slice 0 0 1 (l.length + 1), .nilSlice]
  | _ :: l, _ :: m => [.slice 0 0 1 (l.length + 1), .slice 1 0 1 (m.length + 1)]
def hp2 : List Int → List Int → LHeap
  | [], [] => []
  | [], x :: l => [some (bI (x :: l))]
  | x :: l, [] => [some (bI (x :: l))]
  | x :: l, y :: m => [some (bI (x :: l)), some (bI (y :: m))]
section
attribute [local irreducible] evalC
set_option maxRecDepth 100000
theorem q20_00 : Canon Try.prog 20 (args2 [] []) (hp2 [] []) fun r _ => r = .bool (eqI [] []) := by
  refine CodeOK.body Try.func20 (by kernel_rfl) (CodeOK.eval (C := C0) ec g0 mixed 64 ?_)
  show evalC C0 64 0 (bodF Try.f20) (enterS 26 [.nilSlice, .nilSlice]) [] (endK Try.prog Try.f20.results.toList _)
  rw [t20_00  (fun r => r = .bool (eqI [] []))]
  rfl
theorem q20_01 (u : Int) : Canon Try.prog 20 (args2 [] [u]) (hp2 [] [u]) fun r _ => r = .bool (eqI [] [u]) := by
  refine CodeOK.body Try.func20 (by kernel_rfl) (CodeOK.eval (C := C0) ec g0 mixed 64 ?_)
  show evalC C0 64 1 (bodF Try.f20) (enterS 26 [.nilSlice, .slice 0 0 1 1]) [some (bI [u])] (endK Try.prog Try.f20.results.toList _)
  rw [t20_01 u (fun r => r = .bool (eqI [] [u]))]
  rfl
theorem q20_02 (u v : Int) : Canon Try.prog 20 (args2 [] [u, v]) (hp2 [] [u, v]) fun r _ => r = .bool (eqI [] [u, v]) := by
  refine CodeOK.body Try.func20 (by kernel_rfl) (CodeOK.eval (C := C0) ec g0 mixed 64 ?_)
  show evalC C0 64 1 (bodF Try.f20) (enterS 26 [.nilSlice, .slice 0 0 1 2]) [some (bI [u, v])] (endK Try.prog Try.f20.results.toList _)
  rw [t20_02 u v (fun r => r = .bool (eqI [] [u, v]))]
  rfl
theorem q20_03 (u v w : Int) : Canon Try.prog 20 (args2 [] [u, v, w]) (hp2 [] [u, v, w]) fun r _ => r = .bool (eqI [] [u, v, w]) := by
  refine CodeOK.body Try.func20 (by kernel_rfl) (CodeOK.eval (C := C0) ec g0 mixed 64 ?_)
  show evalC C0 64 1 (bodF Try.f20) (enterS 26 [.nilSlice, .slice 0 0 1 3]) [some (bI [u, v, w])] (endK Try.prog Try.f20.results.toList _)
  rw [t20_03 u v w (fun r => r = .bool (eqI [] [u, v, w]))]
  rfl
theorem q20_10 (x : Int) : Canon Try.prog 20 (args2 [x] []) (hp2 [x] []) fun r _ => r = .bool (eqI [x] []) := by
  refine CodeOK.body Try.func20 (by kernel_rfl) (CodeOK.eval (C := C0) ec g0 mixed 64 ?_)
  show evalC C0 64 1 (bodF Try.f20) (enterS 26 [.slice 0 0 1 1, .nilSlice]) [some (bI [x])] (endK Try.prog Try.f20.results.toList _)
  rw [t20_10 x (fun r => r = .bool (eqI [x] []))]
  rfl
theorem q20_11 (x u : Int) : Canon Try.prog 20 (args2 [x] [u]) (hp2 [x] [u]) fun r _ => r = .bool (eqI [x] [u]) := by
  refine CodeOK.body Try.func20 (by kernel_rfl) (CodeOK.eval (C := C0) ec g0 mixed 64 ?_)
  show evalC C0 64 2 (bodF Try.f20) (enterS 26 [.slice 0 0 1 1, .slice 1 0 1 1]) [some (bI [x]), some (bI [u])] (endK Try.prog Try.f20.results.toList _)
  rw [t20_11 x u (fun r => r = .bool (eqI [x] [u]))]
  repeat' (refine condSplit (fun q => ?_) fun q => ?_)
  all_goals simp_all [eqI]
theorem q20_12 (x u v : Int) : Canon Try.prog 20 (args2 [x] [u, v]) (hp2 [x] [u, v]) fun r _ => r = .bool (eqI [x] [u, v]) := by
  refine CodeOK.body Try.func20 (by kernel_rfl) (CodeOK.eval (C := C0) ec g0 mixed 64 ?_)
  show evalC C0 64 2 (bodF Try.f20) (enterS 26 [.slice 0 0 1 1, .slice 1 0 1 2]) [some (bI [x]), some (bI [u, v])] (endK Try.prog Try.f20.results.toList _)
  rw [t20_12 x u v (fun r => r = .bool (eqI [x] [u, v]))]
  simp [eqI]
theorem q20_13 (x u v w : Int) : Canon Try.prog 20 (args2 [x] [u, v, w]) (hp2 [x] [u, v, w]) fun r _ => r = .bool (eqI [x] [u, v, w]) := by
  refine CodeOK.body Try.func20 (by kernel_rfl) (CodeOK.eval (C := C0) ec g0 mixed 64 ?_)
  show evalC C0 64 2 (bodF Try.f20) (enterS 26 [.slice 0 0 1 1, .slice 1 0 1 3]) [some (bI [x]), some (bI [u, v, w])] (endK Try.prog Try.f20.results.toList _)
  rw [t20_13 x u v w (fun r => r = .bool (eqI [x] [u, v, w]))]
  simp [eqI]
theorem q20_20 (x y : Int) : Canon Try.prog 20 (args2 [x, y] []) (hp2 [x, y] []) fun r _ => r = .bool (eqI [x, y] []) := by
  refine CodeOK.body Try.func20 (by kernel_rfl) (CodeOK.eval (C := C0) ec g0 mixed 64 ?_)
  show evalC C0 64 1 (bodF Try.f20) (enterS 26 [.slice 0 0 1 2, .nilSlice]) [some (bI [x, y])] (endK Try.prog Try.f20.results.toList _)
  rw [t20_20 x y (fun r => r = .bool (eqI [x, y] []))]
  rfl
theorem q20_21 (x y u : Int) : Canon Try.prog 20 (args2 [x, y] [u]) (hp2 [x, y] [u]) fun r _ => r = .bool (eqI [x, y] [u]) := by
  refine CodeOK.body Try.func20 (by kernel_rfl) (CodeOK.eval (C := C0) ec g0 mixed 64 ?_)
  show evalC C0 64 2 (bodF Try.f20) (enterS 26 [.slice 0 0 1 2, .slice 1 0 1 1]) [some (bI [x, y]), some (bI [u])] (endK Try.prog Try.f20.results.toList _)
  rw [t20_21 x y u (fun r => r = .bool (eqI [x, y] [u]))]
  simp [eqI]
theorem q20_22 (x y u v : Int) : Canon Try.prog 20 (args2 [x, y] [u, v]) (hp2 [x, y] [u, v]) fun r _ => r = .bool (eqI [x, y] [u, v]) := by
  refine CodeOK.body Try.func20 (by kernel_rfl) (CodeOK.eval (C := C0) ec g0 mixed 64 ?_)
  show evalC C0 64 2 (bodF Try.f20) (enterS 26 [.slice 0 0 1 2, .slice 1 0 1 2]) [some (bI [x, y]), some (bI [u, v])] (endK Try.prog Try.f20.results.toList _)
  rw [t20_22 x y u v (fun r => r = .bool (eqI [x, y] [u, v]))]
  repeat' (refine condSplit (fun q => ?_) fun q => ?_)
  all_goals simp_all [eqI]
theorem q20_23 (x y u v w : Int) : Canon Try.prog 20 (args2 [x, y] [u, v, w]) (hp2 [x, y] [u, v, w]) fun r _ => r = .bool (eqI [x, y] [u, v, w]) := by
  refine CodeOK.body Try.func20 (by kernel_rfl) (CodeOK.eval (C := C0) ec g0 mixed 64 ?_)
  show evalC C0 64 2 (bodF Try.f20) (enterS 26 [.slice 0 0 1 2, .slice 1 0 1 3]) [some (bI [x, y]), some (bI [u, v, w])] (endK Try.prog Try.f20.results.toList _)
  rw [t20_23 x y u v w (fun r => r = .bool (eqI [x, y] [u, v, w]))]
  simp [eqI]
theorem q20_30 (x y z : Int) : Canon Try.prog 20 (args2 [x, y, z] []) (hp2 [x, y, z] []) fun r _ => r = .bool (eqI [x, y, z] []) := by
  refine CodeOK.body Try.func20 (by kernel_rfl) (CodeOK.eval (C := C0) ec g0 mixed 64 ?_)
  show evalC C0 64 1 (bodF Try.f20) (enterS 26 [.slice 0 0 1 3, .nilSlice]) [some (bI [x, y, z])] (endK Try.prog Try.f20.results.toList _)
  rw [t20_30 x y z (fun r => r = .bool (eqI [x, y, z] []))]
  rfl
theorem q20_31 (x y z u : Int) : Canon Try.prog 20 (args2 [x, y, z] [u]) (hp2 [x, y, z] [u]) fun r _ => r = .bool (eqI [x, y, z] [u]) := by
  refine CodeOK.body Try.func20 (by kernel_rfl) (CodeOK.eval (C := C0) ec g0 mixed 64 ?_)
  show evalC C0 64 2 (bodF Try.f20) (enterS 26 [.slice 0 0 1 3, .slice 1 0 1 1]) [some (bI [x, y, z]), some (bI [u])] (endK Try.prog Try.f20.results.toList _)
  rw [t20_31 x y z u (fun r => r = .bool (eqI [x, y, z] [u]))]
  simp [eqI]
theorem q20_32 (x y z u v : Int) : Canon Try.prog 20 (args2 [x, y, z] [u, v]) (hp2 [x, y, z] [u, v]) fun r _ => r = .bool (eqI [x, y, z] [u, v]) := by
  refine CodeOK.body Try.func20 (by kernel_rfl) (CodeOK.eval (C := C0) ec g0 mixed 64 ?_)
  show evalC C0 64 2 (bodF Try.f20) (enterS 26 [.slice 0 0 1 3, .slice 1 0 1 2]) [some (bI [x, y, z]), some (bI [u, v])] (endK Try.prog Try.f20.results.toList _)
  rw [t20_32 x y z u v (fun r => r = .bool (eqI [x, y, z] [u, v]))]
  simp [eqI]
theorem q20_33 (x y z u v w : Int) : Canon Try.prog 20 (args2 [x, y, z] [u, v, w]) (hp2 [x, y, z] [u, v, w]) fun r _ => r = .bool (eqI [x, y, z] [u, v, w]) := by
  refine CodeOK.body Try.func20 (by kernel_rfl) (CodeOK.eval (C := C0) ec g0 mixed 64 ?_)
  show evalC C0 64 2 (bodF Try.f20) (enterS 26 [.slice 0 0 1 3, .slice 1 0 1 3]) [some (bI [x, y, z]), some (bI [u, v, w])] (endK Try.prog Try.f20.results.toList _)
  rw [t20_33 x y z u v w (fun r => r = .bool (eqI [x, y, z] [u, v, w]))]
  repeat' (refine condSplit (fun q => ?_) fun q => ?_)
  all_goals simp_all [eqI]
end
theorem canon20 : ∀ (la lb : List Int), la.length ≤ 3 → lb.length ≤ 3 → Canon Try.prog 20 (args2 la lb) (hp2 la lb) fun r _ => r = .bool (eqI la lb)
  | [], [], _, _ => q20_00 
  | [], [u], _, _ => q20_01 u
  | [], [u, v], _, _ => q20_02 u v
  | [], [u, v, w], _, _ => q20_03 u v w
  | [x], [], _, _ => q20_10 x
  | [x], [u], _, _ => q20_11 x u
  | [x], [u, v], _, _ => q20_12 x u v
  | [x], [u, v, w], _, _ => q20_13 x u v w
  | [x, y], [], _, _ => q20_20 x y
  | [x, y], [u], _, _ => q20_21 x y u
  | [x, y], [u, v], _, _ => q20_22 x y u v
  | [x, y], [u, v, w], _, _ => q20_23 x y u v w
  | [x, y, z], [], _, _ => q20_30 x y z
  | [x, y, z], [u], _, _ => q20_31 x y z u
  | [x, y, z], [u, v], _, _ => q20_32 x y z u v
  | [x, y, z], [u, v, w], _, _ => q20_33 x y z u v w
  | _ :: _ :: _ :: _ :: _, _, h, _ => by simp at h
  | _, _ :: _ :: _ :: _ :: _, _, h => by simp at h
theorem bI_wb {l : List Int} {b : Blk} (h1 : b.sz = 1) (h2 : b.n = l.length) (h3 : ∀ r, r < l.length → b.rd r = [.int .i64 (l.getD r 0)]) (ρ : Ren) : WB ρ (bI l) b :=
  WB.of_rows h1.symm (by rw [h2]; exact Nat.le_refl _) (fun q => nomatch q) (fun q => nomatch q) fun r hr => ⟨(h3 r hr).symm, rfl⟩
theorem ok20 : SpecOK Try.prog 20 s20 := by
  intro args h base k hk
  unfold s20 at hk
  split at hk
  · rename_i a b
    obtain ⟨la, Ha, hk⟩ := readI_ok hk
    obtain ⟨lb, Hb, hk⟩ := readI_ok hk
    have hc := cal (f := 20) Try.func20 (by kernel_rfl) (by kernel_rfl)
    refine ⟨_, [], [], hk, ?_⟩
    rcases Ha with ⟨rfl, rfl⟩ | ⟨ia, ba, rfl, na, la3, ga, ea1, ea2, ea3⟩ <;> rcases Hb with ⟨rfl, rfl⟩ | ⟨ib, bb, rfl, nb, lb3, gb, eb1, eb2, eb3⟩
    · exact CSim.plain hc (canon20 [] [] (by simp) (by simp)) rfl rfl h base
    · match lb, nb with
      | y :: m, _ =>
        refine CSim.reads hc _ (hp2 [] (y :: m)) [ib] rfl (canon20 [] (y :: m) (by simp) lb3) rfl (fun i b1 e => ?_) rfl base
        match i, e with
        | 0, e =>
          obtain rfl := Option.some.inj (show some (bI (y :: m)) = some b1 from e)
          exact ⟨rfl, ib, bb, rfl, gb, bI_wb eb1 eb2 eb3 _⟩
        | i + 1, e => exact nomatch (show (none : Option Blk) = some b1 from e)
    · match la, na with
      | x :: l, _ =>
        refine CSim.reads hc _ (hp2 (x :: l) []) [ia] rfl (canon20 (x :: l) [] la3 (by simp)) rfl (fun i b1 e => ?_) rfl base
        match i, e with
        | 0, e =>
          obtain rfl := Option.some.inj (show some (bI (x :: l)) = some b1 from e)
          exact ⟨rfl, ia, ba, rfl, ga, bI_wb ea1 ea2 ea3 _⟩
        | i + 1, e => exact nomatch (show (none : Option Blk) = some b1 from e)
    · match la, na, lb, nb with
      | x :: l, _, y :: m, _ =>
        refine CSim.reads hc _ (hp2 (x :: l) (y :: m)) [ia, ib] rfl (canon20 (x :: l) (y :: m) la3 lb3) rfl (fun i b1 e => ?_) rfl base
        match i, e with
        | 0, e =>
          obtain rfl := Option.some.inj (show some (bI (x :: l)) = some b1 from e)
          exact ⟨rfl, ia, ba, rfl, ga, bI_wb ea1 ea2 ea3 _⟩
        | 1, e =>
          obtain rfl := Option.some.inj (show some (bI (y :: m)) = some b1 from e)
          exact ⟨rfl, ib, bb, rfl, gb, bI_wb eb1 eb2 eb3 _⟩
        | i + 2, e => exact nomatch (show (none : Option Blk) = some b1 from e)
  · cases hk
end Go.Proofs.Ytllkhfabfcpieaa
