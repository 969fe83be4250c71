/-
  Chapter 16 by the engine: one call of both handshakes.
-/
import Derived.Test.YtllkhfabfcpieaaT13
import Derived.Test.YtllkhfabfcpieaaP5
import Derived.Test.YtllkhfabfcpieaaX12
namespace Go.Proofs.Ytllkhfabfcpieaa
open Go.RowKit
theorem inj4s {a b c d : Nat} (h1 : a ≠ b) (h2 : a ≠ c) (h3 : a ≠ d) (h4 : b ≠ c) (h5 : b ≠ d) (h6 : c ≠ d) : ∀ (i j x : Nat), [a, b, c, d][i]? = some x → [a, b, c, d][j]? = some x → i = j := by
  intro i j x e1 e2
  match i, j with
  | 0, 0 => rfl
  | 0, 1 => simp at e1 e2; omega
  | 0, 2 => simp at e1 e2; omega
  | 0, 3 => simp at e1 e2; omega
  | 1, 0 => simp at e1 e2; omega
  | 1, 1 => rfl
  | 1, 2 => simp at e1 e2; omega
  | 1, 3 => simp at e1 e2; omega
  | 2, 0 => simp at e1 e2; omega
  | 2, 1 => simp at e1 e2; omega
  | 2, 2 => rfl
  | 2, 3 => simp at e1 e2; omega
  | 3, 0 => simp at e1 e2; omega
  | 3, 1 => simp at e1 e2; omega
  | 3, 2 => simp at e1 e2; omega
  | 3, 3 => rfl
  | i + 4, _ => simp at e1
  | 0, j + 4 => simp at e2
  | 1, j + 4 => simp at e2
  | 2, j + 4 => simp at e2
  | 3, j + 4 => simp at e2
theorem sz_ne' {h : Heap} {i j : Nat} {b c : Blk} {m n : Nat} (h1 : h i = some b) (h2 : h j = some c) (h3 : b.sz = m) (h4 : c.sz = n) (hne : m ≠ n) : i ≠ j := by
  rintro rfl
  rw [h1] at h2
  obtain rfl := Option.some.inj h2
  exact hne (h3.symm.trans h4)
theorem wb_hw {ρ : Ren} {hd : Hd} {b : Blk} (h1 : b.sz = 7) (h2 : b.n = 1) (hw : b.rw = true) (ht : b.ty = 54) (h3 : b.rd 0 = hC hd) : WB ρ (oneB (hC hd) true 54) b :=
  WB.of_rows h1.symm (by rw [h2]; exact Nat.le_refl _) (fun _ => hw) (fun _ => ht.symm) fun r hr => by
    obtain rfl : r = 0 := by have : r < 1 := hr; omega
    exact ⟨h3.symm, rfl⟩
/-- A call of both: the handshakes, and their lists. -/
theorem pz {h : Heap} {base hid id : Nat} {bh b : Blk} {hd h' : Hd} {sv va cf an va' cf' an' : Bool} {ks gs ks1 gs1 ksN gsN ks' gs' : SV} {x s E : Int} {tl τ : List Nat} {hpT : LHeap} {outsT : List (Option Blk)} {news : List Blk} {F : LHeap → Prop}
    (hh : h hid = some bh) (a1 : bh.sz = 7) (a2 : bh.n = 1) (a3 : bh.rw = true) (a4 : bh.ty = 54) (a5 : bh.rd 0 = hC hd)
    (hb : h id = some b) (b1 : b.sz = 6) (b2 : b.n = 1) (b3 : b.rw = true) (b4 : b.ty = 57) (b5 : b.rd 0 = mC sv ks gs va cf an)
    (hl : tl.length = hpT.length) (hinj : ∀ (i j x : Nat), (hid :: id :: tl)[i]? = some x → (hid :: id :: tl)[j]? = some x → i = j)
    (hks : ren (fun i => (hid :: id :: tl)[i]?) ks1 = some ks) (hgs : ren (fun i => (hid :: id :: tl)[i]?) gs1 = some gs)
    (hT : ∀ (i : Nat) (c : Blk), hget hpT i = some c → ∃ y d, tl[i]? = some y ∧ h y = some d ∧ WB (fun i => (hid :: id :: tl)[i]?) c d)
    (hlo : outsT.length = hpT.length) (hall : ∀ i, i < hpT.length → ∃ c, hget hpT i = some c ∧ c.rw = true)
    (hτ : τ.length = news.length) (hτ1 : ∀ t ∈ τ, hpT.length + 2 ≤ t) (hτ2 : ∀ (i j x : Nat), τ[i]? = some x → τ[j]? = some x → i = j)
    (hks' : ren (back (hid :: id :: tl) τ base) ksN = some ks') (hgs' : ren (back (hid :: id :: tl) τ base) gsN = some gs')
    (hcan : Canon Try.prog 28 [.ptr 0 0 7 0, .ptr 1 0 6 0, .agg [.int .i64 x, .int .i64 s]] (some (oneB (hC hd) true 54) :: some (mB sv ks1 gs1 va cf an) :: hpT) fun v hp => v = .tuple [.int .i64 E, .int .i64 E] ∧ obsB true (hget hp 0) = .rows 7 1 true 54 [hC h'] ∧ obsB true (hget hp 1) = .rows 6 1 true 57 [mC sv ks' gs' va' cf' an'] ∧ F hp)
    (hfin : ∀ hp, F hp → (∀ (j : Nat) (c : Blk), news[j]? = some c → c.rw = true ∧ ∃ i d, τ[j]? = some i ∧ hget hp i = some d ∧ WB (back (hid :: id :: tl) τ base) c d) ∧ ∀ (i : Nat) (c : Blk), outsT[i]? = some (some c) → c.rw = true ∧ ∃ d, hget hp (i + 2) = some d ∧ WB (back (hid :: id :: tl) τ base) c d) :
    CSim Try.prog 28 [.ptr hid 0 7 0, .ptr id 0 6 0, .agg [.int .i64 x, .int .i64 s]] h base (.tuple [.int .i64 E, .int .i64 E]) (zipW (hid :: id :: tl) (some (hB h') :: some (mB sv ksN gsN va' cf' an') :: outsT)) news := by
  refine CSim.zip (outs := some (hB h') :: some (mB sv ksN gsN va' cf' an') :: outsT) (cal (f := 28) Try.func28 (by kernel_rfl) (by kernel_rfl)) _ _ (hid :: id :: tl) (by simp [hl]) hinj hcan rfl (fun i c e => ?_) (fun i c e hrw => ?_) (fun i hi => ?_) fun v' hp2 hk => ?_
  · match i, e with
    | 0, e =>
      obtain rfl := Option.some.inj (show some (oneB (hC hd) true 54) = some c from e)
      exact ⟨hid, bh, rfl, hh, wb_hw a1 a2 a3 a4 a5⟩
    | 1, e =>
      obtain rfl := Option.some.inj (show some (mB sv ks1 gs1 va cf an) = some c from e)
      exact ⟨id, b, rfl, hb, wb_one (b1.symm ▸ rfl) b2 b3 b4 b5 ((cl_k sv va cf an).wl _ _ _ _ _ hks hgs)⟩
    | i + 2, e => exact hT i c e
  · match i, e with
    | 0, _ => exact ⟨hid, rfl, by simp⟩
    | 1, _ => exact ⟨id, rfl, by simp⟩
    | i + 2, e =>
      obtain ⟨y, d, q1, q2, q3⟩ := hT i c e
      have hlt : i < tl.length := (List.getElem?_eq_some_iff.1 q1).1
      exact ⟨y, q1, by simp only [List.length_cons, hlo, ← hl]; omega⟩
  · match i, hi with
    | 0, _ => exact ⟨_, rfl, rfl⟩
    | 1, _ => exact ⟨_, rfl, rfl⟩
    | i + 2, hi => exact hall i (by simp only [List.length_cons, hlo] at hi; omega)
  · obtain ⟨rfl, o1, o2, hf⟩ := hk
    obtain ⟨f1, f2⟩ := hfin hp2 hf
    obtain ⟨c1, e1, e2, e3, e4, e5, e6⟩ := obsB_rows o1
    obtain ⟨c2, d1, d2, d3, d4, d5, d6⟩ := obsB_rows o2
    refine ⟨τ, hτ, fun t ht => by have := hτ1 t ht; simpa using this, hτ2, ren_id_of rfl _, f1, fun i c q => ?_⟩
    match i, q with
    | 0, q =>
      obtain rfl := Option.some.inj (Option.some.inj (show some (some (hB h')) = some (some c) from q))
      exact ⟨rfl, c1, e1, wb_hw e2 e3 e4 e5 e6⟩
    | 1, q =>
      obtain rfl := Option.some.inj (Option.some.inj (show some (some (mB sv ksN gsN va' cf' an')) = some (some c) from q))
      exact ⟨rfl, c2, d1, wb_one (d2.symm ▸ rfl) d3 d4 d5 d6 ((cl_k sv va' cf' an').wl _ _ _ _ _ hks' hgs')⟩
    | i + 2, q => exact f2 i c q
theorem tupE {a b : Int} (h : a = b) : SV.tuple [.int .i64 a, .int .i64 b] = SV.tuple [.int .i64 a, .int .i64 a] := by rw [h]
theorem isA_b1 {A : Blk} {f : Nat → Int} {n : Nat} (h1 : A.sz = 1) (h2 : A.n = n) (h3 : A.rw = true) (h4 : A.ty = 3) (h5 : ∀ r, A.rd r = [.int .i64 (f r)]) : IsA A f n := ⟨h1, h2, h3, h4, fun r _ => h5 r⟩
section
attribute [local irreducible] evalC
set_option maxRecDepth 100000
set_option linter.unusedVariables false
theorem c28nA0o {hd : Hd} {sv va cf an : Bool} {kf : Nat → Int} {nk : Nat} {x s : Int} (R : Rel hd sv (nk + 1) kf (fun _ => 0) 0 va cf an) (qx : (x % 7 == 0) = true) (q : (!inS s) = true) : Canon Try.prog 28 [.ptr 0 0 7 0, .ptr 1 0 6 0, .agg [.int .i64 x, .int .i64 s]] [some (oneB (hC hd) true 54), some (mB sv (.slice 2 0 1 (nk + 1)) .nilSlice va cf an), some (bFw kf (nk + 1))] fun v hp => (fun v o0 o1 x2 x3 x4 => v = .tuple [.int .i64 (keysE hd s), .int .i64 (keysE hd s)] ∧ o0 = .rows 7 1 true 54 [hC (keysH hd s)] ∧ o1 = .rows 6 1 true 57 [mC sv (.slice 2 0 1 (nk + 1)) .nilSlice va cf an] ∧ (∃ A, x2 = some A ∧ IsA A kf (nk + 1))) v (obsB true (hget hp 0)) (obsB true (hget hp 1)) (hget hp 2) (hget hp 4) (hget hp 4) := by
  have hn := R.rnk
  have hn3 := cK_le hd
  have hg := R.rng
  have hg3 := cG_le hd
  refine CodeOK.body Try.func28 (by kernel_rfl) (CodeOK.eval (C := C11) ec gs11 mixed 64 ?_)
  show evalC C11 64 3 (bodF Try.f28) (enterS 52 _) _ (endK Try.prog Try.f28.results.toList fun v hp => (fun v o0 o1 x2 x3 x4 => v = .tuple [.int .i64 (keysE hd s), .int .i64 (keysE hd s)] ∧ o0 = .rows 7 1 true 54 [hC (keysH hd s)] ∧ o1 = .rows 6 1 true 57 [mC sv (.slice 2 0 1 (nk + 1)) .nilSlice va cf an] ∧ (∃ A, x2 = some A ∧ IsA A kf (nk + 1))) v (obsB true (hget hp 0)) (obsB true (hget hp 1)) (hget hp 2) (hget hp 4) (hget hp 4))
  rw [t28n hd sv va cf an kf nk x s (fun v o0 o1 x2 x3 x4 => v = .tuple [.int .i64 (keysE hd s), .int .i64 (keysE hd s)] ∧ o0 = .rows 7 1 true 54 [hC (keysH hd s)] ∧ o1 = .rows 6 1 true 57 [mC sv (.slice 2 0 1 (nk + 1)) .nilSlice va cf an] ∧ (∃ A, x2 = some A ∧ IsA A kf (nk + 1)))]
  refine condT' qx (fun h' e e1 e2 => ?_)
  subst e1 e2
  refine ⟨⟨rfl, rfl, rfl, isI_bFw kf (by omega)⟩, ⟨show 1 ≤ nk + 1 by omega, show nk + 1 ≤ 1000 by omega⟩, ?_⟩
  exact condT' q (condSplit (fun _ => ⟨tupE (keysE_out R.wf q), rfl, rfl, ⟨_, rfl, isA_b1 rfl rfl rfl rfl fun r => by cases r <;> rfl⟩⟩) fun _ => ⟨tupE (keysE_out R.wf q), rfl, rfl, ⟨_, rfl, isA_b1 rfl rfl rfl rfl fun r => rfl⟩⟩)
theorem c28nA0n {hd : Hd} {sv va cf an : Bool} {kf : Nat → Int} {nk : Nat} {x s : Int} (R : Rel hd sv (nk + 1) kf (fun _ => 0) 0 va cf an) (qx : (x % 7 == 0) = true) (q : (!inS s) = false) (q1 : inF (fun _ => 0) 0 s = false) (q2 : (!inF kf (nk + 1) s) = true) : Canon Try.prog 28 [.ptr 0 0 7 0, .ptr 1 0 6 0, .agg [.int .i64 x, .int .i64 s]] [some (oneB (hC hd) true 54), some (mB sv (.slice 2 0 1 (nk + 1)) .nilSlice va cf an), some (bFw kf (nk + 1))] fun v hp => (fun v o0 o1 x2 x3 x4 => v = .tuple [.int .i64 (keysE hd s), .int .i64 (keysE hd s)] ∧ o0 = .rows 7 1 true 54 [hC (keysH hd s)] ∧ o1 = .rows 6 1 true 57 [mC sv (.slice 4 0 1 (nk + 1 + 1)) .nilSlice va cf an] ∧ (∃ A, x4 = some A ∧ IsA A (appF kf (nk + 1) s) (nk + 1 + 1))) v (obsB true (hget hp 0)) (obsB true (hget hp 1)) (hget hp 2) (hget hp 4) (hget hp 4) := by
  have hn := R.rnk
  have hn3 := cK_le hd
  have hg := R.rng
  have hg3 := cG_le hd
  refine CodeOK.body Try.func28 (by kernel_rfl) (CodeOK.eval (C := C11) ec gs11 mixed 64 ?_)
  show evalC C11 64 3 (bodF Try.f28) (enterS 52 _) _ (endK Try.prog Try.f28.results.toList fun v hp => (fun v o0 o1 x2 x3 x4 => v = .tuple [.int .i64 (keysE hd s), .int .i64 (keysE hd s)] ∧ o0 = .rows 7 1 true 54 [hC (keysH hd s)] ∧ o1 = .rows 6 1 true 57 [mC sv (.slice 4 0 1 (nk + 1 + 1)) .nilSlice va cf an] ∧ (∃ A, x4 = some A ∧ IsA A (appF kf (nk + 1) s) (nk + 1 + 1))) v (obsB true (hget hp 0)) (obsB true (hget hp 1)) (hget hp 2) (hget hp 4) (hget hp 4))
  rw [t28n hd sv va cf an kf nk x s (fun v o0 o1 x2 x3 x4 => v = .tuple [.int .i64 (keysE hd s), .int .i64 (keysE hd s)] ∧ o0 = .rows 7 1 true 54 [hC (keysH hd s)] ∧ o1 = .rows 6 1 true 57 [mC sv (.slice 4 0 1 (nk + 1 + 1)) .nilSlice va cf an] ∧ (∃ A, x4 = some A ∧ IsA A (appF kf (nk + 1) s) (nk + 1 + 1)))]
  refine condT' qx (fun h' e e1 e2 => ?_)
  subst e1 e2
  refine ⟨⟨rfl, rfl, rfl, isI_bFw kf (by omega)⟩, ⟨show 1 ≤ nk + 1 by omega, show nk + 1 ≤ 1000 by omega⟩, ?_⟩
  exact condF' q (condT' q2 (⟨tupE (R.keysE_ok q q1), rfl, rfl, ⟨_, rfl, isA_b1 rfl rfl rfl rfl fun r => rfl⟩⟩))
theorem c28nA0h {hd : Hd} {sv va cf an : Bool} {kf : Nat → Int} {nk : Nat} {x s : Int} (R : Rel hd sv (nk + 1) kf (fun _ => 0) 0 va cf an) (qx : (x % 7 == 0) = true) (q : (!inS s) = false) (q1 : inF (fun _ => 0) 0 s = false) (q2 : (!inF kf (nk + 1) s) = false) : Canon Try.prog 28 [.ptr 0 0 7 0, .ptr 1 0 6 0, .agg [.int .i64 x, .int .i64 s]] [some (oneB (hC hd) true 54), some (mB sv (.slice 2 0 1 (nk + 1)) .nilSlice va cf an), some (bFw kf (nk + 1))] fun v hp => (fun v o0 o1 x2 x3 x4 => v = .tuple [.int .i64 (keysE hd s), .int .i64 (keysE hd s)] ∧ o0 = .rows 7 1 true 54 [hC (keysH hd s)] ∧ o1 = .rows 6 1 true 57 [mC sv (.slice 2 0 1 (nk + 1)) .nilSlice va cf an] ∧ (∃ A, x2 = some A ∧ IsA A kf (nk + 1))) v (obsB true (hget hp 0)) (obsB true (hget hp 1)) (hget hp 2) (hget hp 4) (hget hp 4) := by
  have hn := R.rnk
  have hn3 := cK_le hd
  have hg := R.rng
  have hg3 := cG_le hd
  refine CodeOK.body Try.func28 (by kernel_rfl) (CodeOK.eval (C := C11) ec gs11 mixed 64 ?_)
  show evalC C11 64 3 (bodF Try.f28) (enterS 52 _) _ (endK Try.prog Try.f28.results.toList fun v hp => (fun v o0 o1 x2 x3 x4 => v = .tuple [.int .i64 (keysE hd s), .int .i64 (keysE hd s)] ∧ o0 = .rows 7 1 true 54 [hC (keysH hd s)] ∧ o1 = .rows 6 1 true 57 [mC sv (.slice 2 0 1 (nk + 1)) .nilSlice va cf an] ∧ (∃ A, x2 = some A ∧ IsA A kf (nk + 1))) v (obsB true (hget hp 0)) (obsB true (hget hp 1)) (hget hp 2) (hget hp 4) (hget hp 4))
  rw [t28n hd sv va cf an kf nk x s (fun v o0 o1 x2 x3 x4 => v = .tuple [.int .i64 (keysE hd s), .int .i64 (keysE hd s)] ∧ o0 = .rows 7 1 true 54 [hC (keysH hd s)] ∧ o1 = .rows 6 1 true 57 [mC sv (.slice 2 0 1 (nk + 1)) .nilSlice va cf an] ∧ (∃ A, x2 = some A ∧ IsA A kf (nk + 1)))]
  refine condT' qx (fun h' e e1 e2 => ?_)
  subst e1 e2
  refine ⟨⟨rfl, rfl, rfl, isI_bFw kf (by omega)⟩, ⟨show 1 ≤ nk + 1 by omega, show nk + 1 ≤ 1000 by omega⟩, ?_⟩
  exact condF' q (condF' q2 (condSplit (fun _ => ⟨tupE (R.keysE_ok q q1), rfl, rfl, ⟨_, rfl, isA_b1 rfl rfl rfl rfl fun r => by cases r <;> rfl⟩⟩) fun _ => ⟨tupE (R.keysE_ok q q1), rfl, rfl, ⟨_, rfl, isA_b1 rfl rfl rfl rfl fun r => rfl⟩⟩))
theorem c28nA1o {hd : Hd} {sv va cf an : Bool} {kf : Nat → Int} {nk : Nat} {x s : Int} (R : Rel hd sv (nk + 1) kf (fun _ => 0) 0 va cf an) (q0 : (x % 7 == 0) = false) (qx : (x % 7 == 1) = true) (q : (!inS s) = true) : Canon Try.prog 28 [.ptr 0 0 7 0, .ptr 1 0 6 0, .agg [.int .i64 x, .int .i64 s]] [some (oneB (hC hd) true 54), some (mB sv (.slice 2 0 1 (nk + 1)) .nilSlice va cf an), some (bFw kf (nk + 1))] fun v hp => (fun v o0 o1 x2 x3 x4 => v = .tuple [.int .i64 (keysE hd s), .int .i64 (keysE hd s)] ∧ o0 = .rows 7 1 true 54 [hC (keysH hd s)] ∧ o1 = .rows 6 1 true 57 [mC sv (.slice 2 0 1 (nk + 1)) .nilSlice va cf an] ∧ (∃ A, x2 = some A ∧ IsA A kf (nk + 1))) v (obsB true (hget hp 0)) (obsB true (hget hp 1)) (hget hp 2) (hget hp 4) (hget hp 4) := by
  have hn := R.rnk
  have hn3 := cK_le hd
  have hg := R.rng
  have hg3 := cG_le hd
  refine CodeOK.body Try.func28 (by kernel_rfl) (CodeOK.eval (C := C11) ec gs11 mixed 64 ?_)
  show evalC C11 64 3 (bodF Try.f28) (enterS 52 _) _ (endK Try.prog Try.f28.results.toList fun v hp => (fun v o0 o1 x2 x3 x4 => v = .tuple [.int .i64 (keysE hd s), .int .i64 (keysE hd s)] ∧ o0 = .rows 7 1 true 54 [hC (keysH hd s)] ∧ o1 = .rows 6 1 true 57 [mC sv (.slice 2 0 1 (nk + 1)) .nilSlice va cf an] ∧ (∃ A, x2 = some A ∧ IsA A kf (nk + 1))) v (obsB true (hget hp 0)) (obsB true (hget hp 1)) (hget hp 2) (hget hp 4) (hget hp 4))
  rw [t28n hd sv va cf an kf nk x s (fun v o0 o1 x2 x3 x4 => v = .tuple [.int .i64 (keysE hd s), .int .i64 (keysE hd s)] ∧ o0 = .rows 7 1 true 54 [hC (keysH hd s)] ∧ o1 = .rows 6 1 true 57 [mC sv (.slice 2 0 1 (nk + 1)) .nilSlice va cf an] ∧ (∃ A, x2 = some A ∧ IsA A kf (nk + 1)))]
  refine condF' q0 (condT' qx (fun h' e e1 e2 => ?_))
  subst e1 e2
  refine ⟨⟨rfl, rfl, rfl, isI_bFw kf (by omega)⟩, ⟨show 1 ≤ nk + 1 by omega, show nk + 1 ≤ 1000 by omega⟩, ?_⟩
  exact condT' q (condSplit (fun _ => ⟨tupE (keysE_out R.wf q), rfl, rfl, ⟨_, rfl, isA_b1 rfl rfl rfl rfl fun r => by cases r <;> rfl⟩⟩) fun _ => ⟨tupE (keysE_out R.wf q), rfl, rfl, ⟨_, rfl, isA_b1 rfl rfl rfl rfl fun r => rfl⟩⟩)
theorem c28nA1n {hd : Hd} {sv va cf an : Bool} {kf : Nat → Int} {nk : Nat} {x s : Int} (R : Rel hd sv (nk + 1) kf (fun _ => 0) 0 va cf an) (q0 : (x % 7 == 0) = false) (qx : (x % 7 == 1) = true) (q : (!inS s) = false) (q1 : inF (fun _ => 0) 0 s = false) (q2 : (!inF kf (nk + 1) s) = true) : Canon Try.prog 28 [.ptr 0 0 7 0, .ptr 1 0 6 0, .agg [.int .i64 x, .int .i64 s]] [some (oneB (hC hd) true 54), some (mB sv (.slice 2 0 1 (nk + 1)) .nilSlice va cf an), some (bFw kf (nk + 1))] fun v hp => (fun v o0 o1 x2 x3 x4 => v = .tuple [.int .i64 (keysE hd s), .int .i64 (keysE hd s)] ∧ o0 = .rows 7 1 true 54 [hC (keysH hd s)] ∧ o1 = .rows 6 1 true 57 [mC sv (.slice 4 0 1 (nk + 1 + 1)) .nilSlice va cf an] ∧ (∃ A, x4 = some A ∧ IsA A (appF kf (nk + 1) s) (nk + 1 + 1))) v (obsB true (hget hp 0)) (obsB true (hget hp 1)) (hget hp 2) (hget hp 4) (hget hp 4) := by
  have hn := R.rnk
  have hn3 := cK_le hd
  have hg := R.rng
  have hg3 := cG_le hd
  refine CodeOK.body Try.func28 (by kernel_rfl) (CodeOK.eval (C := C11) ec gs11 mixed 64 ?_)
  show evalC C11 64 3 (bodF Try.f28) (enterS 52 _) _ (endK Try.prog Try.f28.results.toList fun v hp => (fun v o0 o1 x2 x3 x4 => v = .tuple [.int .i64 (keysE hd s), .int .i64 (keysE hd s)] ∧ o0 = .rows 7 1 true 54 [hC (keysH hd s)] ∧ o1 = .rows 6 1 true 57 [mC sv (.slice 4 0 1 (nk + 1 + 1)) .nilSlice va cf an] ∧ (∃ A, x4 = some A ∧ IsA A (appF kf (nk + 1) s) (nk + 1 + 1))) v (obsB true (hget hp 0)) (obsB true (hget hp 1)) (hget hp 2) (hget hp 4) (hget hp 4))
  rw [t28n hd sv va cf an kf nk x s (fun v o0 o1 x2 x3 x4 => v = .tuple [.int .i64 (keysE hd s), .int .i64 (keysE hd s)] ∧ o0 = .rows 7 1 true 54 [hC (keysH hd s)] ∧ o1 = .rows 6 1 true 57 [mC sv (.slice 4 0 1 (nk + 1 + 1)) .nilSlice va cf an] ∧ (∃ A, x4 = some A ∧ IsA A (appF kf (nk + 1) s) (nk + 1 + 1)))]
  refine condF' q0 (condT' qx (fun h' e e1 e2 => ?_))
  subst e1 e2
  refine ⟨⟨rfl, rfl, rfl, isI_bFw kf (by omega)⟩, ⟨show 1 ≤ nk + 1 by omega, show nk + 1 ≤ 1000 by omega⟩, ?_⟩
  exact condF' q (condT' q2 (⟨tupE (R.keysE_ok q q1), rfl, rfl, ⟨_, rfl, isA_b1 rfl rfl rfl rfl fun r => rfl⟩⟩))
theorem c28nA1h {hd : Hd} {sv va cf an : Bool} {kf : Nat → Int} {nk : Nat} {x s : Int} (R : Rel hd sv (nk + 1) kf (fun _ => 0) 0 va cf an) (q0 : (x % 7 == 0) = false) (qx : (x % 7 == 1) = true) (q : (!inS s) = false) (q1 : inF (fun _ => 0) 0 s = false) (q2 : (!inF kf (nk + 1) s) = false) : Canon Try.prog 28 [.ptr 0 0 7 0, .ptr 1 0 6 0, .agg [.int .i64 x, .int .i64 s]] [some (oneB (hC hd) true 54), some (mB sv (.slice 2 0 1 (nk + 1)) .nilSlice va cf an), some (bFw kf (nk + 1))] fun v hp => (fun v o0 o1 x2 x3 x4 => v = .tuple [.int .i64 (keysE hd s), .int .i64 (keysE hd s)] ∧ o0 = .rows 7 1 true 54 [hC (keysH hd s)] ∧ o1 = .rows 6 1 true 57 [mC sv (.slice 2 0 1 (nk + 1)) .nilSlice va cf an] ∧ (∃ A, x2 = some A ∧ IsA A kf (nk + 1))) v (obsB true (hget hp 0)) (obsB true (hget hp 1)) (hget hp 2) (hget hp 4) (hget hp 4) := by
  have hn := R.rnk
  have hn3 := cK_le hd
  have hg := R.rng
  have hg3 := cG_le hd
  refine CodeOK.body Try.func28 (by kernel_rfl) (CodeOK.eval (C := C11) ec gs11 mixed 64 ?_)
  show evalC C11 64 3 (bodF Try.f28) (enterS 52 _) _ (endK Try.prog Try.f28.results.toList fun v hp => (fun v o0 o1 x2 x3 x4 => v = .tuple [.int .i64 (keysE hd s), .int .i64 (keysE hd s)] ∧ o0 = .rows 7 1 true 54 [hC (keysH hd s)] ∧ o1 = .rows 6 1 true 57 [mC sv (.slice 2 0 1 (nk + 1)) .nilSlice va cf an] ∧ (∃ A, x2 = some A ∧ IsA A kf (nk + 1))) v (obsB true (hget hp 0)) (obsB true (hget hp 1)) (hget hp 2) (hget hp 4) (hget hp 4))
  rw [t28n hd sv va cf an kf nk x s (fun v o0 o1 x2 x3 x4 => v = .tuple [.int .i64 (keysE hd s), .int .i64 (keysE hd s)] ∧ o0 = .rows 7 1 true 54 [hC (keysH hd s)] ∧ o1 = .rows 6 1 true 57 [mC sv (.slice 2 0 1 (nk + 1)) .nilSlice va cf an] ∧ (∃ A, x2 = some A ∧ IsA A kf (nk + 1)))]
  refine condF' q0 (condT' qx (fun h' e e1 e2 => ?_))
  subst e1 e2
  refine ⟨⟨rfl, rfl, rfl, isI_bFw kf (by omega)⟩, ⟨show 1 ≤ nk + 1 by omega, show nk + 1 ≤ 1000 by omega⟩, ?_⟩
  exact condF' q (condF' q2 (condSplit (fun _ => ⟨tupE (R.keysE_ok q q1), rfl, rfl, ⟨_, rfl, isA_b1 rfl rfl rfl rfl fun r => by cases r <;> rfl⟩⟩) fun _ => ⟨tupE (R.keysE_ok q q1), rfl, rfl, ⟨_, rfl, isA_b1 rfl rfl rfl rfl fun r => rfl⟩⟩))
theorem c28nBo {hd : Hd} {sv va cf an : Bool} {kf : Nat → Int} {nk : Nat} {x s : Int} (R : Rel hd sv (nk + 1) kf (fun _ => 0) 0 va cf an) (q0 : (x % 7 == 0) = false) (q1 : (x % 7 == 1) = false) (qx : (x % 7 == 2) = true) (q : (!inS s) = true) : Canon Try.prog 28 [.ptr 0 0 7 0, .ptr 1 0 6 0, .agg [.int .i64 x, .int .i64 s]] [some (oneB (hC hd) true 54), some (mB sv (.slice 2 0 1 (nk + 1)) .nilSlice va cf an), some (bFw kf (nk + 1))] fun v hp => (fun v o0 o1 x2 x3 x4 => v = .tuple [.int .i64 (discE hd s), .int .i64 (discE hd s)] ∧ o0 = .rows 7 1 true 54 [hC (discH hd s)] ∧ o1 = .rows 6 1 true 57 [mC sv (.slice 2 0 1 (nk + 1)) .nilSlice va cf an] ∧ (∃ A, x2 = some A ∧ IsA A kf (nk + 1))) v (obsB true (hget hp 0)) (obsB true (hget hp 1)) (hget hp 2) (hget hp 4) (hget hp 4) := by
  have hn := R.rnk
  have hn3 := cK_le hd
  have hg := R.rng
  have hg3 := cG_le hd
  refine CodeOK.body Try.func28 (by kernel_rfl) (CodeOK.eval (C := C11) ec gs11 mixed 64 ?_)
  show evalC C11 64 3 (bodF Try.f28) (enterS 52 _) _ (endK Try.prog Try.f28.results.toList fun v hp => (fun v o0 o1 x2 x3 x4 => v = .tuple [.int .i64 (discE hd s), .int .i64 (discE hd s)] ∧ o0 = .rows 7 1 true 54 [hC (discH hd s)] ∧ o1 = .rows 6 1 true 57 [mC sv (.slice 2 0 1 (nk + 1)) .nilSlice va cf an] ∧ (∃ A, x2 = some A ∧ IsA A kf (nk + 1))) v (obsB true (hget hp 0)) (obsB true (hget hp 1)) (hget hp 2) (hget hp 4) (hget hp 4))
  rw [t28n hd sv va cf an kf nk x s (fun v o0 o1 x2 x3 x4 => v = .tuple [.int .i64 (discE hd s), .int .i64 (discE hd s)] ∧ o0 = .rows 7 1 true 54 [hC (discH hd s)] ∧ o1 = .rows 6 1 true 57 [mC sv (.slice 2 0 1 (nk + 1)) .nilSlice va cf an] ∧ (∃ A, x2 = some A ∧ IsA A kf (nk + 1)))]
  refine condF' q0 (condF' q1 (condT' qx (fun h' e e1 e2 => ?_)))
  subst e1 e2
  refine ⟨isI_bFw kf (by omega), ?_⟩
  exact condT' q (⟨tupE (discE_out R.wf q), rfl, rfl, ⟨_, rfl, isA_b1 rfl rfl rfl rfl fun r => rfl⟩⟩)
theorem c28nBt {hd : Hd} {sv va cf an : Bool} {kf : Nat → Int} {nk : Nat} {x s : Int} (R : Rel hd sv (nk + 1) kf (fun _ => 0) 0 va cf an) (q0 : (x % 7 == 0) = false) (q1 : (x % 7 == 1) = false) (qx : (x % 7 == 2) = true) (q : (!inS s) = false) (p : (s == 2) = true) : Canon Try.prog 28 [.ptr 0 0 7 0, .ptr 1 0 6 0, .agg [.int .i64 x, .int .i64 s]] [some (oneB (hC hd) true 54), some (mB sv (.slice 2 0 1 (nk + 1)) .nilSlice va cf an), some (bFw kf (nk + 1))] fun v hp => (fun v o0 o1 x2 x3 x4 => v = .tuple [.int .i64 (discE hd s), .int .i64 (discE hd s)] ∧ o0 = .rows 7 1 true 54 [hC (discH hd s)] ∧ o1 = .rows 6 1 true 57 [mC sv (.slice 2 0 1 (nk + 1)) .nilSlice va cf an] ∧ (∃ A, x2 = some A ∧ IsA A kf (nk + 1))) v (obsB true (hget hp 0)) (obsB true (hget hp 1)) (hget hp 2) (hget hp 4) (hget hp 4) := by
  have hn := R.rnk
  have hn3 := cK_le hd
  have hg := R.rng
  have hg3 := cG_le hd
  refine CodeOK.body Try.func28 (by kernel_rfl) (CodeOK.eval (C := C11) ec gs11 mixed 64 ?_)
  show evalC C11 64 3 (bodF Try.f28) (enterS 52 _) _ (endK Try.prog Try.f28.results.toList fun v hp => (fun v o0 o1 x2 x3 x4 => v = .tuple [.int .i64 (discE hd s), .int .i64 (discE hd s)] ∧ o0 = .rows 7 1 true 54 [hC (discH hd s)] ∧ o1 = .rows 6 1 true 57 [mC sv (.slice 2 0 1 (nk + 1)) .nilSlice va cf an] ∧ (∃ A, x2 = some A ∧ IsA A kf (nk + 1))) v (obsB true (hget hp 0)) (obsB true (hget hp 1)) (hget hp 2) (hget hp 4) (hget hp 4))
  rw [t28n hd sv va cf an kf nk x s (fun v o0 o1 x2 x3 x4 => v = .tuple [.int .i64 (discE hd s), .int .i64 (discE hd s)] ∧ o0 = .rows 7 1 true 54 [hC (discH hd s)] ∧ o1 = .rows 6 1 true 57 [mC sv (.slice 2 0 1 (nk + 1)) .nilSlice va cf an] ∧ (∃ A, x2 = some A ∧ IsA A kf (nk + 1)))]
  refine condF' q0 (condF' q1 (condT' qx (fun h' e e1 e2 => ?_)))
  subst e1 e2
  refine ⟨isI_bFw kf (by omega), ?_⟩
  exact condF' q (condT' p (⟨tupE (R.discE_two p), rfl, rfl, ⟨_, rfl, isA_b1 rfl rfl rfl rfl fun r => rfl⟩⟩))
theorem c28nBn {hd : Hd} {sv va cf an : Bool} {kf : Nat → Int} {nk : Nat} {x s : Int} (R : Rel hd sv (nk + 1) kf (fun _ => 0) 0 va cf an) (q0 : (x % 7 == 0) = false) (q1 : (x % 7 == 1) = false) (qx : (x % 7 == 2) = true) (q : (!inS s) = false) (p : (s == 2) = false) (q2 : (!livM kf (fun _ => 0) (nk + 1) 0 s) = true) : Canon Try.prog 28 [.ptr 0 0 7 0, .ptr 1 0 6 0, .agg [.int .i64 x, .int .i64 s]] [some (oneB (hC hd) true 54), some (mB sv (.slice 2 0 1 (nk + 1)) .nilSlice va cf an), some (bFw kf (nk + 1))] fun v hp => (fun v o0 o1 x2 x3 x4 => v = .tuple [.int .i64 (discE hd s), .int .i64 (discE hd s)] ∧ o0 = .rows 7 1 true 54 [hC (discH hd s)] ∧ o1 = .rows 6 1 true 57 [mC sv (.slice 2 0 1 (nk + 1)) .nilSlice va cf an] ∧ (∃ A, x2 = some A ∧ IsA A kf (nk + 1))) v (obsB true (hget hp 0)) (obsB true (hget hp 1)) (hget hp 2) (hget hp 4) (hget hp 4) := by
  have hn := R.rnk
  have hn3 := cK_le hd
  have hg := R.rng
  have hg3 := cG_le hd
  refine CodeOK.body Try.func28 (by kernel_rfl) (CodeOK.eval (C := C11) ec gs11 mixed 64 ?_)
  show evalC C11 64 3 (bodF Try.f28) (enterS 52 _) _ (endK Try.prog Try.f28.results.toList fun v hp => (fun v o0 o1 x2 x3 x4 => v = .tuple [.int .i64 (discE hd s), .int .i64 (discE hd s)] ∧ o0 = .rows 7 1 true 54 [hC (discH hd s)] ∧ o1 = .rows 6 1 true 57 [mC sv (.slice 2 0 1 (nk + 1)) .nilSlice va cf an] ∧ (∃ A, x2 = some A ∧ IsA A kf (nk + 1))) v (obsB true (hget hp 0)) (obsB true (hget hp 1)) (hget hp 2) (hget hp 4) (hget hp 4))
  rw [t28n hd sv va cf an kf nk x s (fun v o0 o1 x2 x3 x4 => v = .tuple [.int .i64 (discE hd s), .int .i64 (discE hd s)] ∧ o0 = .rows 7 1 true 54 [hC (discH hd s)] ∧ o1 = .rows 6 1 true 57 [mC sv (.slice 2 0 1 (nk + 1)) .nilSlice va cf an] ∧ (∃ A, x2 = some A ∧ IsA A kf (nk + 1)))]
  refine condF' q0 (condF' q1 (condT' qx (fun h' e e1 e2 => ?_)))
  subst e1 e2
  refine ⟨isI_bFw kf (by omega), ?_⟩
  exact condF' q (condF' p (condT' q2 (⟨tupE (R.discE_no q p q2), rfl, rfl, ⟨_, rfl, isA_b1 rfl rfl rfl rfl fun r => rfl⟩⟩)))
theorem c28nBy {hd : Hd} {sv va cf an : Bool} {kf : Nat → Int} {nk : Nat} {x s : Int} (R : Rel hd sv (nk + 1) kf (fun _ => 0) 0 va cf an) (q0 : (x % 7 == 0) = false) (q1 : (x % 7 == 1) = false) (qx : (x % 7 == 2) = true) (q : (!inS s) = false) (p : (s == 2) = false) (q2 : (!livM kf (fun _ => 0) (nk + 1) 0 s) = false) : Canon Try.prog 28 [.ptr 0 0 7 0, .ptr 1 0 6 0, .agg [.int .i64 x, .int .i64 s]] [some (oneB (hC hd) true 54), some (mB sv (.slice 2 0 1 (nk + 1)) .nilSlice va cf an), some (bFw kf (nk + 1))] fun v hp => (fun v o0 o1 x2 x3 x4 => v = .tuple [.int .i64 (discE hd s), .int .i64 (discE hd s)] ∧ o0 = .rows 7 1 true 54 [hC (discH hd s)] ∧ o1 = .rows 6 1 true 57 [mC sv (.slice 2 0 1 (nk + 1)) (.slice 4 0 1 (0 + 1)) va cf an] ∧ (∃ A, x2 = some A ∧ IsA A kf (nk + 1)) ∧ (∃ A, x4 = some A ∧ IsA A (appF (fun _ => 0) 0 s) (0 + 1))) v (obsB true (hget hp 0)) (obsB true (hget hp 1)) (hget hp 2) (hget hp 4) (hget hp 4) := by
  have hn := R.rnk
  have hn3 := cK_le hd
  have hg := R.rng
  have hg3 := cG_le hd
  refine CodeOK.body Try.func28 (by kernel_rfl) (CodeOK.eval (C := C11) ec gs11 mixed 64 ?_)
  show evalC C11 64 3 (bodF Try.f28) (enterS 52 _) _ (endK Try.prog Try.f28.results.toList fun v hp => (fun v o0 o1 x2 x3 x4 => v = .tuple [.int .i64 (discE hd s), .int .i64 (discE hd s)] ∧ o0 = .rows 7 1 true 54 [hC (discH hd s)] ∧ o1 = .rows 6 1 true 57 [mC sv (.slice 2 0 1 (nk + 1)) (.slice 4 0 1 (0 + 1)) va cf an] ∧ (∃ A, x2 = some A ∧ IsA A kf (nk + 1)) ∧ (∃ A, x4 = some A ∧ IsA A (appF (fun _ => 0) 0 s) (0 + 1))) v (obsB true (hget hp 0)) (obsB true (hget hp 1)) (hget hp 2) (hget hp 4) (hget hp 4))
  rw [t28n hd sv va cf an kf nk x s (fun v o0 o1 x2 x3 x4 => v = .tuple [.int .i64 (discE hd s), .int .i64 (discE hd s)] ∧ o0 = .rows 7 1 true 54 [hC (discH hd s)] ∧ o1 = .rows 6 1 true 57 [mC sv (.slice 2 0 1 (nk + 1)) (.slice 4 0 1 (0 + 1)) va cf an] ∧ (∃ A, x2 = some A ∧ IsA A kf (nk + 1)) ∧ (∃ A, x4 = some A ∧ IsA A (appF (fun _ => 0) 0 s) (0 + 1)))]
  refine condF' q0 (condF' q1 (condT' qx (fun h' e e1 e2 => ?_)))
  subst e1 e2
  refine ⟨isI_bFw kf (by omega), ?_⟩
  exact condF' q (condF' p (condF' q2 ⟨tupE (R.discE_yes q p q2), rfl, rfl, ⟨_, rfl, isA_b1 rfl rfl rfl rfl fun r => rfl⟩, ⟨_, rfl, isA_b1 rfl rfl rfl rfl fun r => by cases r <;> rfl⟩⟩))
theorem c28nC {hd : Hd} {sv va cf an : Bool} {kf : Nat → Int} {nk : Nat} {x s : Int} (R : Rel hd sv (nk + 1) kf (fun _ => 0) 0 va cf an) (q0 : (x % 7 == 0) = false) (q1 : (x % 7 == 1) = false) (q2 : (x % 7 == 2) = false) (qx : (x % 7 == 3) = true) : Canon Try.prog 28 [.ptr 0 0 7 0, .ptr 1 0 6 0, .agg [.int .i64 x, .int .i64 s]] [some (oneB (hC hd) true 54), some (mB sv (.slice 2 0 1 (nk + 1)) .nilSlice va cf an), some (bFw kf (nk + 1))] fun v hp => (fun v o0 o1 x2 x3 x4 => v = .tuple [.int .i64 (valE hd), .int .i64 (valE hd)] ∧ o0 = .rows 7 1 true 54 [hC (valH hd)] ∧ o1 = .rows 6 1 true 57 [mC sv (.slice 2 0 1 (nk + 1)) .nilSlice true cf an] ∧ (∃ A, x2 = some A ∧ IsA A kf (nk + 1))) v (obsB true (hget hp 0)) (obsB true (hget hp 1)) (hget hp 2) (hget hp 4) (hget hp 4) := by
  have hn := R.rnk
  have hn3 := cK_le hd
  have hg := R.rng
  have hg3 := cG_le hd
  refine CodeOK.body Try.func28 (by kernel_rfl) (CodeOK.eval (C := C11) ec gs11 mixed 64 ?_)
  show evalC C11 64 3 (bodF Try.f28) (enterS 52 _) _ (endK Try.prog Try.f28.results.toList fun v hp => (fun v o0 o1 x2 x3 x4 => v = .tuple [.int .i64 (valE hd), .int .i64 (valE hd)] ∧ o0 = .rows 7 1 true 54 [hC (valH hd)] ∧ o1 = .rows 6 1 true 57 [mC sv (.slice 2 0 1 (nk + 1)) .nilSlice true cf an] ∧ (∃ A, x2 = some A ∧ IsA A kf (nk + 1))) v (obsB true (hget hp 0)) (obsB true (hget hp 1)) (hget hp 2) (hget hp 4) (hget hp 4))
  rw [t28n hd sv va cf an kf nk x s (fun v o0 o1 x2 x3 x4 => v = .tuple [.int .i64 (valE hd), .int .i64 (valE hd)] ∧ o0 = .rows 7 1 true 54 [hC (valH hd)] ∧ o1 = .rows 6 1 true 57 [mC sv (.slice 2 0 1 (nk + 1)) .nilSlice true cf an] ∧ (∃ A, x2 = some A ∧ IsA A kf (nk + 1)))]
  refine condF' q0 (condF' q1 (condF' q2 (condT' qx (fun h' e e1 e2 => ?_))))
  subst e1 e2
  exact ⟨isI_bFw kf (by omega), tupE R.valE_ok, rfl, rfl, ⟨_, rfl, isA_b1 rfl rfl rfl rfl fun r => rfl⟩⟩
theorem c28nDy {hd : Hd} {sv va cf an : Bool} {kf : Nat → Int} {nk : Nat} {x s : Int} (R : Rel hd sv (nk + 1) kf (fun _ => 0) 0 va cf an) (q0 : (x % 7 == 0) = false) (q1 : (x % 7 == 1) = false) (q2 : (x % 7 == 2) = false) (q3 : (x % 7 == 3) = false) (qx : (x % 7 == 4) = true) (p : livM kf (fun _ => 0) (nk + 1) 0 2 = true) : Canon Try.prog 28 [.ptr 0 0 7 0, .ptr 1 0 6 0, .agg [.int .i64 x, .int .i64 s]] [some (oneB (hC hd) true 54), some (mB sv (.slice 2 0 1 (nk + 1)) .nilSlice va cf an), some (bFw kf (nk + 1))] fun v hp => (fun v o0 o1 x2 x3 x4 => v = .tuple [.int .i64 (needsV hd 2), .int .i64 (needsV hd 2)] ∧ o0 = .rows 7 1 true 54 [hC (confH hd)] ∧ o1 = .rows 6 1 true 57 [mC sv (.slice 2 0 1 (nk + 1)) .nilSlice true true an] ∧ (∃ A, x2 = some A ∧ IsA A kf (nk + 1))) v (obsB true (hget hp 0)) (obsB true (hget hp 1)) (hget hp 2) (hget hp 4) (hget hp 4) := by
  have hn := R.rnk
  have hn3 := cK_le hd
  have hg := R.rng
  have hg3 := cG_le hd
  refine CodeOK.body Try.func28 (by kernel_rfl) (CodeOK.eval (C := C11) ec gs11 mixed 64 ?_)
  show evalC C11 64 3 (bodF Try.f28) (enterS 52 _) _ (endK Try.prog Try.f28.results.toList fun v hp => (fun v o0 o1 x2 x3 x4 => v = .tuple [.int .i64 (needsV hd 2), .int .i64 (needsV hd 2)] ∧ o0 = .rows 7 1 true 54 [hC (confH hd)] ∧ o1 = .rows 6 1 true 57 [mC sv (.slice 2 0 1 (nk + 1)) .nilSlice true true an] ∧ (∃ A, x2 = some A ∧ IsA A kf (nk + 1))) v (obsB true (hget hp 0)) (obsB true (hget hp 1)) (hget hp 2) (hget hp 4) (hget hp 4))
  rw [t28n hd sv va cf an kf nk x s (fun v o0 o1 x2 x3 x4 => v = .tuple [.int .i64 (needsV hd 2), .int .i64 (needsV hd 2)] ∧ o0 = .rows 7 1 true 54 [hC (confH hd)] ∧ o1 = .rows 6 1 true 57 [mC sv (.slice 2 0 1 (nk + 1)) .nilSlice true true an] ∧ (∃ A, x2 = some A ∧ IsA A kf (nk + 1)))]
  refine condF' q0 (condF' q1 (condF' q2 (condF' q3 (condT' qx (fun h' e e1 e2 => ?_)))))
  subst e1 e2
  exact ⟨isI_bFw kf (by omega), condT' p ⟨tupE (R.confE_yes p), rfl, rfl, ⟨_, rfl, isA_b1 rfl rfl rfl rfl fun r => rfl⟩⟩⟩
theorem c28nDn {hd : Hd} {sv va cf an : Bool} {kf : Nat → Int} {nk : Nat} {x s : Int} (R : Rel hd sv (nk + 1) kf (fun _ => 0) 0 va cf an) (q0 : (x % 7 == 0) = false) (q1 : (x % 7 == 1) = false) (q2 : (x % 7 == 2) = false) (q3 : (x % 7 == 3) = false) (qx : (x % 7 == 4) = true) (p : livM kf (fun _ => 0) (nk + 1) 0 2 = false) : Canon Try.prog 28 [.ptr 0 0 7 0, .ptr 1 0 6 0, .agg [.int .i64 x, .int .i64 s]] [some (oneB (hC hd) true 54), some (mB sv (.slice 2 0 1 (nk + 1)) .nilSlice va cf an), some (bFw kf (nk + 1))] fun v hp => (fun v o0 o1 x2 x3 x4 => v = .tuple [.int .i64 (needsV hd 2), .int .i64 (needsV hd 2)] ∧ o0 = .rows 7 1 true 54 [hC (confH hd)] ∧ o1 = .rows 6 1 true 57 [mC sv (.slice 2 0 1 (nk + 1)) .nilSlice va cf an] ∧ (∃ A, x2 = some A ∧ IsA A kf (nk + 1))) v (obsB true (hget hp 0)) (obsB true (hget hp 1)) (hget hp 2) (hget hp 4) (hget hp 4) := by
  have hn := R.rnk
  have hn3 := cK_le hd
  have hg := R.rng
  have hg3 := cG_le hd
  refine CodeOK.body Try.func28 (by kernel_rfl) (CodeOK.eval (C := C11) ec gs11 mixed 64 ?_)
  show evalC C11 64 3 (bodF Try.f28) (enterS 52 _) _ (endK Try.prog Try.f28.results.toList fun v hp => (fun v o0 o1 x2 x3 x4 => v = .tuple [.int .i64 (needsV hd 2), .int .i64 (needsV hd 2)] ∧ o0 = .rows 7 1 true 54 [hC (confH hd)] ∧ o1 = .rows 6 1 true 57 [mC sv (.slice 2 0 1 (nk + 1)) .nilSlice va cf an] ∧ (∃ A, x2 = some A ∧ IsA A kf (nk + 1))) v (obsB true (hget hp 0)) (obsB true (hget hp 1)) (hget hp 2) (hget hp 4) (hget hp 4))
  rw [t28n hd sv va cf an kf nk x s (fun v o0 o1 x2 x3 x4 => v = .tuple [.int .i64 (needsV hd 2), .int .i64 (needsV hd 2)] ∧ o0 = .rows 7 1 true 54 [hC (confH hd)] ∧ o1 = .rows 6 1 true 57 [mC sv (.slice 2 0 1 (nk + 1)) .nilSlice va cf an] ∧ (∃ A, x2 = some A ∧ IsA A kf (nk + 1)))]
  refine condF' q0 (condF' q1 (condF' q2 (condF' q3 (condT' qx (fun h' e e1 e2 => ?_)))))
  subst e1 e2
  exact ⟨isI_bFw kf (by omega), condF' p ⟨tupE (R.confE_no p), rfl, rfl, ⟨_, rfl, isA_b1 rfl rfl rfl rfl fun r => rfl⟩⟩⟩
theorem c28nEo {hd : Hd} {sv va cf an : Bool} {kf : Nat → Int} {nk : Nat} {x s : Int} (R : Rel hd sv (nk + 1) kf (fun _ => 0) 0 va cf an) (q0 : (x % 7 == 0) = false) (q1 : (x % 7 == 1) = false) (q2 : (x % 7 == 2) = false) (q3 : (x % 7 == 3) = false) (q4 : (x % 7 == 4) = false) (q : (!inS s) = true) : Canon Try.prog 28 [.ptr 0 0 7 0, .ptr 1 0 6 0, .agg [.int .i64 x, .int .i64 s]] [some (oneB (hC hd) true 54), some (mB sv (.slice 2 0 1 (nk + 1)) .nilSlice va cf an), some (bFw kf (nk + 1))] fun v hp => (fun v o0 o1 x2 x3 x4 => v = .tuple [.int .i64 (needsV hd s), .int .i64 (needsV hd s)] ∧ o0 = .rows 7 1 true 54 [hC (ansH hd s)] ∧ o1 = .rows 6 1 true 57 [mC sv (.slice 2 0 1 (nk + 1)) .nilSlice va cf an] ∧ (∃ A, x2 = some A ∧ IsA A kf (nk + 1))) v (obsB true (hget hp 0)) (obsB true (hget hp 1)) (hget hp 2) (hget hp 4) (hget hp 4) := by
  have hn := R.rnk
  have hn3 := cK_le hd
  have hg := R.rng
  have hg3 := cG_le hd
  refine CodeOK.body Try.func28 (by kernel_rfl) (CodeOK.eval (C := C11) ec gs11 mixed 64 ?_)
  show evalC C11 64 3 (bodF Try.f28) (enterS 52 _) _ (endK Try.prog Try.f28.results.toList fun v hp => (fun v o0 o1 x2 x3 x4 => v = .tuple [.int .i64 (needsV hd s), .int .i64 (needsV hd s)] ∧ o0 = .rows 7 1 true 54 [hC (ansH hd s)] ∧ o1 = .rows 6 1 true 57 [mC sv (.slice 2 0 1 (nk + 1)) .nilSlice va cf an] ∧ (∃ A, x2 = some A ∧ IsA A kf (nk + 1))) v (obsB true (hget hp 0)) (obsB true (hget hp 1)) (hget hp 2) (hget hp 4) (hget hp 4))
  rw [t28n hd sv va cf an kf nk x s (fun v o0 o1 x2 x3 x4 => v = .tuple [.int .i64 (needsV hd s), .int .i64 (needsV hd s)] ∧ o0 = .rows 7 1 true 54 [hC (ansH hd s)] ∧ o1 = .rows 6 1 true 57 [mC sv (.slice 2 0 1 (nk + 1)) .nilSlice va cf an] ∧ (∃ A, x2 = some A ∧ IsA A kf (nk + 1)))]
  refine condF' q0 (condF' q1 (condF' q2 (condF' q3 (condF' q4 (fun h' e e1 e2 => ?_)))))
  subst e1 e2
  exact ⟨isI_bFw kf (by omega), condT' q ⟨tupE (needs_out R.wf q), rfl, rfl, ⟨_, rfl, isA_b1 rfl rfl rfl rfl fun r => rfl⟩⟩⟩
theorem c28nEy {hd : Hd} {sv va cf an : Bool} {kf : Nat → Int} {nk : Nat} {x s : Int} (R : Rel hd sv (nk + 1) kf (fun _ => 0) 0 va cf an) (q0 : (x % 7 == 0) = false) (q1 : (x % 7 == 1) = false) (q2 : (x % 7 == 2) = false) (q3 : (x % 7 == 3) = false) (q4 : (x % 7 == 4) = false) (q : (!inS s) = false) (p : livM kf (fun _ => 0) (nk + 1) 0 s = true) : Canon Try.prog 28 [.ptr 0 0 7 0, .ptr 1 0 6 0, .agg [.int .i64 x, .int .i64 s]] [some (oneB (hC hd) true 54), some (mB sv (.slice 2 0 1 (nk + 1)) .nilSlice va cf an), some (bFw kf (nk + 1))] fun v hp => (fun v o0 o1 x2 x3 x4 => v = .tuple [.int .i64 (needsV hd s), .int .i64 (needsV hd s)] ∧ o0 = .rows 7 1 true 54 [hC (ansH hd s)] ∧ o1 = .rows 6 1 true 57 [mC sv (.slice 2 0 1 (nk + 1)) .nilSlice va cf (an || s != 0)] ∧ (∃ A, x2 = some A ∧ IsA A kf (nk + 1))) v (obsB true (hget hp 0)) (obsB true (hget hp 1)) (hget hp 2) (hget hp 4) (hget hp 4) := by
  have hn := R.rnk
  have hn3 := cK_le hd
  have hg := R.rng
  have hg3 := cG_le hd
  refine CodeOK.body Try.func28 (by kernel_rfl) (CodeOK.eval (C := C11) ec gs11 mixed 64 ?_)
  show evalC C11 64 3 (bodF Try.f28) (enterS 52 _) _ (endK Try.prog Try.f28.results.toList fun v hp => (fun v o0 o1 x2 x3 x4 => v = .tuple [.int .i64 (needsV hd s), .int .i64 (needsV hd s)] ∧ o0 = .rows 7 1 true 54 [hC (ansH hd s)] ∧ o1 = .rows 6 1 true 57 [mC sv (.slice 2 0 1 (nk + 1)) .nilSlice va cf (an || s != 0)] ∧ (∃ A, x2 = some A ∧ IsA A kf (nk + 1))) v (obsB true (hget hp 0)) (obsB true (hget hp 1)) (hget hp 2) (hget hp 4) (hget hp 4))
  rw [t28n hd sv va cf an kf nk x s (fun v o0 o1 x2 x3 x4 => v = .tuple [.int .i64 (needsV hd s), .int .i64 (needsV hd s)] ∧ o0 = .rows 7 1 true 54 [hC (ansH hd s)] ∧ o1 = .rows 6 1 true 57 [mC sv (.slice 2 0 1 (nk + 1)) .nilSlice va cf (an || s != 0)] ∧ (∃ A, x2 = some A ∧ IsA A kf (nk + 1)))]
  refine condF' q0 (condF' q1 (condF' q2 (condF' q3 (condF' q4 (fun h' e e1 e2 => ?_)))))
  subst e1 e2
  exact ⟨isI_bFw kf (by omega), condF' q (condT' p ⟨tupE (R.ansE_yes q p), rfl, rfl, ⟨_, rfl, isA_b1 rfl rfl rfl rfl fun r => rfl⟩⟩)⟩
theorem c28nEn {hd : Hd} {sv va cf an : Bool} {kf : Nat → Int} {nk : Nat} {x s : Int} (R : Rel hd sv (nk + 1) kf (fun _ => 0) 0 va cf an) (q0 : (x % 7 == 0) = false) (q1 : (x % 7 == 1) = false) (q2 : (x % 7 == 2) = false) (q3 : (x % 7 == 3) = false) (q4 : (x % 7 == 4) = false) (q : (!inS s) = false) (p : livM kf (fun _ => 0) (nk + 1) 0 s = false) : Canon Try.prog 28 [.ptr 0 0 7 0, .ptr 1 0 6 0, .agg [.int .i64 x, .int .i64 s]] [some (oneB (hC hd) true 54), some (mB sv (.slice 2 0 1 (nk + 1)) .nilSlice va cf an), some (bFw kf (nk + 1))] fun v hp => (fun v o0 o1 x2 x3 x4 => v = .tuple [.int .i64 (needsV hd s), .int .i64 (needsV hd s)] ∧ o0 = .rows 7 1 true 54 [hC (ansH hd s)] ∧ o1 = .rows 6 1 true 57 [mC sv (.slice 2 0 1 (nk + 1)) .nilSlice va cf an] ∧ (∃ A, x2 = some A ∧ IsA A kf (nk + 1))) v (obsB true (hget hp 0)) (obsB true (hget hp 1)) (hget hp 2) (hget hp 4) (hget hp 4) := by
  have hn := R.rnk
  have hn3 := cK_le hd
  have hg := R.rng
  have hg3 := cG_le hd
  refine CodeOK.body Try.func28 (by kernel_rfl) (CodeOK.eval (C := C11) ec gs11 mixed 64 ?_)
  show evalC C11 64 3 (bodF Try.f28) (enterS 52 _) _ (endK Try.prog Try.f28.results.toList fun v hp => (fun v o0 o1 x2 x3 x4 => v = .tuple [.int .i64 (needsV hd s), .int .i64 (needsV hd s)] ∧ o0 = .rows 7 1 true 54 [hC (ansH hd s)] ∧ o1 = .rows 6 1 true 57 [mC sv (.slice 2 0 1 (nk + 1)) .nilSlice va cf an] ∧ (∃ A, x2 = some A ∧ IsA A kf (nk + 1))) v (obsB true (hget hp 0)) (obsB true (hget hp 1)) (hget hp 2) (hget hp 4) (hget hp 4))
  rw [t28n hd sv va cf an kf nk x s (fun v o0 o1 x2 x3 x4 => v = .tuple [.int .i64 (needsV hd s), .int .i64 (needsV hd s)] ∧ o0 = .rows 7 1 true 54 [hC (ansH hd s)] ∧ o1 = .rows 6 1 true 57 [mC sv (.slice 2 0 1 (nk + 1)) .nilSlice va cf an] ∧ (∃ A, x2 = some A ∧ IsA A kf (nk + 1)))]
  refine condF' q0 (condF' q1 (condF' q2 (condF' q3 (condF' q4 (fun h' e e1 e2 => ?_)))))
  subst e1 e2
  exact ⟨isI_bFw kf (by omega), condF' q (condF' p ⟨tupE (R.ansE_no q p), rfl, rfl, ⟨_, rfl, isA_b1 rfl rfl rfl rfl fun r => rfl⟩⟩)⟩
theorem c28sA0o {hd : Hd} {sv va cf an : Bool} {kf : Nat → Int} {nk : Nat} {gf : Nat → Int} {ng : Nat} {x s : Int} (R : Rel hd sv (nk + 1) kf gf (ng + 1) va cf an) (qx : (x % 7 == 0) = true) (q : (!inS s) = true) : Canon Try.prog 28 [.ptr 0 0 7 0, .ptr 1 0 6 0, .agg [.int .i64 x, .int .i64 s]] [some (oneB (hC hd) true 54), some (mB sv (.slice 2 0 1 (nk + 1)) (.slice 3 0 1 (ng + 1)) va cf an), some (bFw kf (nk + 1)), some (bFw gf (ng + 1))] fun v hp => (fun v o0 o1 x2 x3 x4 => v = .tuple [.int .i64 (keysE hd s), .int .i64 (keysE hd s)] ∧ o0 = .rows 7 1 true 54 [hC (keysH hd s)] ∧ o1 = .rows 6 1 true 57 [mC sv (.slice 2 0 1 (nk + 1)) (.slice 3 0 1 (ng + 1)) va cf an] ∧ (∃ A, x2 = some A ∧ IsA A kf (nk + 1)) ∧ (∃ A, x3 = some A ∧ IsA A gf (ng + 1))) v (obsB true (hget hp 0)) (obsB true (hget hp 1)) (hget hp 2) (hget hp 3) (hget hp 5) := by
  have hn := R.rnk
  have hn3 := cK_le hd
  have hg := R.rng
  have hg3 := cG_le hd
  refine CodeOK.body Try.func28 (by kernel_rfl) (CodeOK.eval (C := C11) ec gs11 mixed 64 ?_)
  show evalC C11 64 4 (bodF Try.f28) (enterS 52 _) _ (endK Try.prog Try.f28.results.toList fun v hp => (fun v o0 o1 x2 x3 x4 => v = .tuple [.int .i64 (keysE hd s), .int .i64 (keysE hd s)] ∧ o0 = .rows 7 1 true 54 [hC (keysH hd s)] ∧ o1 = .rows 6 1 true 57 [mC sv (.slice 2 0 1 (nk + 1)) (.slice 3 0 1 (ng + 1)) va cf an] ∧ (∃ A, x2 = some A ∧ IsA A kf (nk + 1)) ∧ (∃ A, x3 = some A ∧ IsA A gf (ng + 1))) v (obsB true (hget hp 0)) (obsB true (hget hp 1)) (hget hp 2) (hget hp 3) (hget hp 5))
  rw [t28s hd sv va cf an kf nk gf ng x s (fun v o0 o1 x2 x3 x4 => v = .tuple [.int .i64 (keysE hd s), .int .i64 (keysE hd s)] ∧ o0 = .rows 7 1 true 54 [hC (keysH hd s)] ∧ o1 = .rows 6 1 true 57 [mC sv (.slice 2 0 1 (nk + 1)) (.slice 3 0 1 (ng + 1)) va cf an] ∧ (∃ A, x2 = some A ∧ IsA A kf (nk + 1)) ∧ (∃ A, x3 = some A ∧ IsA A gf (ng + 1)))]
  refine condT' qx (fun h' e e1 e2 => ?_)
  subst e1 e2
  refine ⟨⟨rfl, rfl, rfl, isI_bFw kf (by omega)⟩, isI_bFw gf (by omega), ⟨show 1 ≤ nk + 1 by omega, show nk + 1 ≤ 1000 by omega⟩, ?_⟩
  exact condT' q (condSplit (fun _ => ⟨tupE (keysE_out R.wf q), rfl, rfl, ⟨_, rfl, isA_b1 rfl rfl rfl rfl fun r => by cases r <;> rfl⟩, ⟨_, rfl, isA_b1 rfl rfl rfl rfl fun r => rfl⟩⟩) fun _ => ⟨tupE (keysE_out R.wf q), rfl, rfl, ⟨_, rfl, isA_b1 rfl rfl rfl rfl fun r => rfl⟩, ⟨_, rfl, isA_b1 rfl rfl rfl rfl fun r => rfl⟩⟩)
theorem c28sA0g {hd : Hd} {sv va cf an : Bool} {kf : Nat → Int} {nk : Nat} {gf : Nat → Int} {ng : Nat} {x s : Int} (R : Rel hd sv (nk + 1) kf gf (ng + 1) va cf an) (qx : (x % 7 == 0) = true) (q : (!inS s) = false) (q1 : inF gf (ng + 1) s = true) : Canon Try.prog 28 [.ptr 0 0 7 0, .ptr 1 0 6 0, .agg [.int .i64 x, .int .i64 s]] [some (oneB (hC hd) true 54), some (mB sv (.slice 2 0 1 (nk + 1)) (.slice 3 0 1 (ng + 1)) va cf an), some (bFw kf (nk + 1)), some (bFw gf (ng + 1))] fun v hp => (fun v o0 o1 x2 x3 x4 => v = .tuple [.int .i64 (keysE hd s), .int .i64 (keysE hd s)] ∧ o0 = .rows 7 1 true 54 [hC (keysH hd s)] ∧ o1 = .rows 6 1 true 57 [mC sv (.slice 2 0 1 (nk + 1)) (.slice 3 0 1 (ng + 1)) va cf an] ∧ (∃ A, x2 = some A ∧ IsA A kf (nk + 1)) ∧ (∃ A, x3 = some A ∧ IsA A gf (ng + 1))) v (obsB true (hget hp 0)) (obsB true (hget hp 1)) (hget hp 2) (hget hp 3) (hget hp 5) := by
  have hn := R.rnk
  have hn3 := cK_le hd
  have hg := R.rng
  have hg3 := cG_le hd
  refine CodeOK.body Try.func28 (by kernel_rfl) (CodeOK.eval (C := C11) ec gs11 mixed 64 ?_)
  show evalC C11 64 4 (bodF Try.f28) (enterS 52 _) _ (endK Try.prog Try.f28.results.toList fun v hp => (fun v o0 o1 x2 x3 x4 => v = .tuple [.int .i64 (keysE hd s), .int .i64 (keysE hd s)] ∧ o0 = .rows 7 1 true 54 [hC (keysH hd s)] ∧ o1 = .rows 6 1 true 57 [mC sv (.slice 2 0 1 (nk + 1)) (.slice 3 0 1 (ng + 1)) va cf an] ∧ (∃ A, x2 = some A ∧ IsA A kf (nk + 1)) ∧ (∃ A, x3 = some A ∧ IsA A gf (ng + 1))) v (obsB true (hget hp 0)) (obsB true (hget hp 1)) (hget hp 2) (hget hp 3) (hget hp 5))
  rw [t28s hd sv va cf an kf nk gf ng x s (fun v o0 o1 x2 x3 x4 => v = .tuple [.int .i64 (keysE hd s), .int .i64 (keysE hd s)] ∧ o0 = .rows 7 1 true 54 [hC (keysH hd s)] ∧ o1 = .rows 6 1 true 57 [mC sv (.slice 2 0 1 (nk + 1)) (.slice 3 0 1 (ng + 1)) va cf an] ∧ (∃ A, x2 = some A ∧ IsA A kf (nk + 1)) ∧ (∃ A, x3 = some A ∧ IsA A gf (ng + 1)))]
  refine condT' qx (fun h' e e1 e2 => ?_)
  subst e1 e2
  refine ⟨⟨rfl, rfl, rfl, isI_bFw kf (by omega)⟩, isI_bFw gf (by omega), ⟨show 1 ≤ nk + 1 by omega, show nk + 1 ≤ 1000 by omega⟩, ?_⟩
  exact condF' q (condT' q1 (condSplit (fun _ => ⟨tupE (R.keysE_gone q q1), rfl, rfl, ⟨_, rfl, isA_b1 rfl rfl rfl rfl fun r => by cases r <;> rfl⟩, ⟨_, rfl, isA_b1 rfl rfl rfl rfl fun r => rfl⟩⟩) fun _ => ⟨tupE (R.keysE_gone q q1), rfl, rfl, ⟨_, rfl, isA_b1 rfl rfl rfl rfl fun r => rfl⟩, ⟨_, rfl, isA_b1 rfl rfl rfl rfl fun r => rfl⟩⟩))
theorem c28sA0n {hd : Hd} {sv va cf an : Bool} {kf : Nat → Int} {nk : Nat} {gf : Nat → Int} {ng : Nat} {x s : Int} (R : Rel hd sv (nk + 1) kf gf (ng + 1) va cf an) (qx : (x % 7 == 0) = true) (q : (!inS s) = false) (q1 : inF gf (ng + 1) s = false) (q2 : (!inF kf (nk + 1) s) = true) : Canon Try.prog 28 [.ptr 0 0 7 0, .ptr 1 0 6 0, .agg [.int .i64 x, .int .i64 s]] [some (oneB (hC hd) true 54), some (mB sv (.slice 2 0 1 (nk + 1)) (.slice 3 0 1 (ng + 1)) va cf an), some (bFw kf (nk + 1)), some (bFw gf (ng + 1))] fun v hp => (fun v o0 o1 x2 x3 x4 => v = .tuple [.int .i64 (keysE hd s), .int .i64 (keysE hd s)] ∧ o0 = .rows 7 1 true 54 [hC (keysH hd s)] ∧ o1 = .rows 6 1 true 57 [mC sv (.slice 5 0 1 (nk + 1 + 1)) (.slice 3 0 1 (ng + 1)) va cf an] ∧ (∃ A, x4 = some A ∧ IsA A (appF kf (nk + 1) s) (nk + 1 + 1)) ∧ (∃ A, x3 = some A ∧ IsA A gf (ng + 1))) v (obsB true (hget hp 0)) (obsB true (hget hp 1)) (hget hp 2) (hget hp 3) (hget hp 5) := by
  have hn := R.rnk
  have hn3 := cK_le hd
  have hg := R.rng
  have hg3 := cG_le hd
  refine CodeOK.body Try.func28 (by kernel_rfl) (CodeOK.eval (C := C11) ec gs11 mixed 64 ?_)
  show evalC C11 64 4 (bodF Try.f28) (enterS 52 _) _ (endK Try.prog Try.f28.results.toList fun v hp => (fun v o0 o1 x2 x3 x4 => v = .tuple [.int .i64 (keysE hd s), .int .i64 (keysE hd s)] ∧ o0 = .rows 7 1 true 54 [hC (keysH hd s)] ∧ o1 = .rows 6 1 true 57 [mC sv (.slice 5 0 1 (nk + 1 + 1)) (.slice 3 0 1 (ng + 1)) va cf an] ∧ (∃ A, x4 = some A ∧ IsA A (appF kf (nk + 1) s) (nk + 1 + 1)) ∧ (∃ A, x3 = some A ∧ IsA A gf (ng + 1))) v (obsB true (hget hp 0)) (obsB true (hget hp 1)) (hget hp 2) (hget hp 3) (hget hp 5))
  rw [t28s hd sv va cf an kf nk gf ng x s (fun v o0 o1 x2 x3 x4 => v = .tuple [.int .i64 (keysE hd s), .int .i64 (keysE hd s)] ∧ o0 = .rows 7 1 true 54 [hC (keysH hd s)] ∧ o1 = .rows 6 1 true 57 [mC sv (.slice 5 0 1 (nk + 1 + 1)) (.slice 3 0 1 (ng + 1)) va cf an] ∧ (∃ A, x4 = some A ∧ IsA A (appF kf (nk + 1) s) (nk + 1 + 1)) ∧ (∃ A, x3 = some A ∧ IsA A gf (ng + 1)))]
  refine condT' qx (fun h' e e1 e2 => ?_)
  subst e1 e2
  refine ⟨⟨rfl, rfl, rfl, isI_bFw kf (by omega)⟩, isI_bFw gf (by omega), ⟨show 1 ≤ nk + 1 by omega, show nk + 1 ≤ 1000 by omega⟩, ?_⟩
  exact condF' q (condF' q1 (condT' q2 (⟨tupE (R.keysE_ok q q1), rfl, rfl, ⟨_, rfl, isA_b1 rfl rfl rfl rfl fun r => rfl⟩, ⟨_, rfl, isA_b1 rfl rfl rfl rfl fun r => rfl⟩⟩)))
theorem c28sA0h {hd : Hd} {sv va cf an : Bool} {kf : Nat → Int} {nk : Nat} {gf : Nat → Int} {ng : Nat} {x s : Int} (R : Rel hd sv (nk + 1) kf gf (ng + 1) va cf an) (qx : (x % 7 == 0) = true) (q : (!inS s) = false) (q1 : inF gf (ng + 1) s = false) (q2 : (!inF kf (nk + 1) s) = false) : Canon Try.prog 28 [.ptr 0 0 7 0, .ptr 1 0 6 0, .agg [.int .i64 x, .int .i64 s]] [some (oneB (hC hd) true 54), some (mB sv (.slice 2 0 1 (nk + 1)) (.slice 3 0 1 (ng + 1)) va cf an), some (bFw kf (nk + 1)), some (bFw gf (ng + 1))] fun v hp => (fun v o0 o1 x2 x3 x4 => v = .tuple [.int .i64 (keysE hd s), .int .i64 (keysE hd s)] ∧ o0 = .rows 7 1 true 54 [hC (keysH hd s)] ∧ o1 = .rows 6 1 true 57 [mC sv (.slice 2 0 1 (nk + 1)) (.slice 3 0 1 (ng + 1)) va cf an] ∧ (∃ A, x2 = some A ∧ IsA A kf (nk + 1)) ∧ (∃ A, x3 = some A ∧ IsA A gf (ng + 1))) v (obsB true (hget hp 0)) (obsB true (hget hp 1)) (hget hp 2) (hget hp 3) (hget hp 5) := by
  have hn := R.rnk
  have hn3 := cK_le hd
  have hg := R.rng
  have hg3 := cG_le hd
  refine CodeOK.body Try.func28 (by kernel_rfl) (CodeOK.eval (C := C11) ec gs11 mixed 64 ?_)
  show evalC C11 64 4 (bodF Try.f28) (enterS 52 _) _ (endK Try.prog Try.f28.results.toList fun v hp => (fun v o0 o1 x2 x3 x4 => v = .tuple [.int .i64 (keysE hd s), .int .i64 (keysE hd s)] ∧ o0 = .rows 7 1 true 54 [hC (keysH hd s)] ∧ o1 = .rows 6 1 true 57 [mC sv (.slice 2 0 1 (nk + 1)) (.slice 3 0 1 (ng + 1)) va cf an] ∧ (∃ A, x2 = some A ∧ IsA A kf (nk + 1)) ∧ (∃ A, x3 = some A ∧ IsA A gf (ng + 1))) v (obsB true (hget hp 0)) (obsB true (hget hp 1)) (hget hp 2) (hget hp 3) (hget hp 5))
  rw [t28s hd sv va cf an kf nk gf ng x s (fun v o0 o1 x2 x3 x4 => v = .tuple [.int .i64 (keysE hd s), .int .i64 (keysE hd s)] ∧ o0 = .rows 7 1 true 54 [hC (keysH hd s)] ∧ o1 = .rows 6 1 true 57 [mC sv (.slice 2 0 1 (nk + 1)) (.slice 3 0 1 (ng + 1)) va cf an] ∧ (∃ A, x2 = some A ∧ IsA A kf (nk + 1)) ∧ (∃ A, x3 = some A ∧ IsA A gf (ng + 1)))]
  refine condT' qx (fun h' e e1 e2 => ?_)
  subst e1 e2
  refine ⟨⟨rfl, rfl, rfl, isI_bFw kf (by omega)⟩, isI_bFw gf (by omega), ⟨show 1 ≤ nk + 1 by omega, show nk + 1 ≤ 1000 by omega⟩, ?_⟩
  exact condF' q (condF' q1 (condF' q2 (condSplit (fun _ => ⟨tupE (R.keysE_ok q q1), rfl, rfl, ⟨_, rfl, isA_b1 rfl rfl rfl rfl fun r => by cases r <;> rfl⟩, ⟨_, rfl, isA_b1 rfl rfl rfl rfl fun r => rfl⟩⟩) fun _ => ⟨tupE (R.keysE_ok q q1), rfl, rfl, ⟨_, rfl, isA_b1 rfl rfl rfl rfl fun r => rfl⟩, ⟨_, rfl, isA_b1 rfl rfl rfl rfl fun r => rfl⟩⟩)))
theorem c28sA1o {hd : Hd} {sv va cf an : Bool} {kf : Nat → Int} {nk : Nat} {gf : Nat → Int} {ng : Nat} {x s : Int} (R : Rel hd sv (nk + 1) kf gf (ng + 1) va cf an) (q0 : (x % 7 == 0) = false) (qx : (x % 7 == 1) = true) (q : (!inS s) = true) : Canon Try.prog 28 [.ptr 0 0 7 0, .ptr 1 0 6 0, .agg [.int .i64 x, .int .i64 s]] [some (oneB (hC hd) true 54), some (mB sv (.slice 2 0 1 (nk + 1)) (.slice 3 0 1 (ng + 1)) va cf an), some (bFw kf (nk + 1)), some (bFw gf (ng + 1))] fun v hp => (fun v o0 o1 x2 x3 x4 => v = .tuple [.int .i64 (keysE hd s), .int .i64 (keysE hd s)] ∧ o0 = .rows 7 1 true 54 [hC (keysH hd s)] ∧ o1 = .rows 6 1 true 57 [mC sv (.slice 2 0 1 (nk + 1)) (.slice 3 0 1 (ng + 1)) va cf an] ∧ (∃ A, x2 = some A ∧ IsA A kf (nk + 1)) ∧ (∃ A, x3 = some A ∧ IsA A gf (ng + 1))) v (obsB true (hget hp 0)) (obsB true (hget hp 1)) (hget hp 2) (hget hp 3) (hget hp 5) := by
  have hn := R.rnk
  have hn3 := cK_le hd
  have hg := R.rng
  have hg3 := cG_le hd
  refine CodeOK.body Try.func28 (by kernel_rfl) (CodeOK.eval (C := C11) ec gs11 mixed 64 ?_)
  show evalC C11 64 4 (bodF Try.f28) (enterS 52 _) _ (endK Try.prog Try.f28.results.toList fun v hp => (fun v o0 o1 x2 x3 x4 => v = .tuple [.int .i64 (keysE hd s), .int .i64 (keysE hd s)] ∧ o0 = .rows 7 1 true 54 [hC (keysH hd s)] ∧ o1 = .rows 6 1 true 57 [mC sv (.slice 2 0 1 (nk + 1)) (.slice 3 0 1 (ng + 1)) va cf an] ∧ (∃ A, x2 = some A ∧ IsA A kf (nk + 1)) ∧ (∃ A, x3 = some A ∧ IsA A gf (ng + 1))) v (obsB true (hget hp 0)) (obsB true (hget hp 1)) (hget hp 2) (hget hp 3) (hget hp 5))
  rw [t28s hd sv va cf an kf nk gf ng x s (fun v o0 o1 x2 x3 x4 => v = .tuple [.int .i64 (keysE hd s), .int .i64 (keysE hd s)] ∧ o0 = .rows 7 1 true 54 [hC (keysH hd s)] ∧ o1 = .rows 6 1 true 57 [mC sv (.slice 2 0 1 (nk + 1)) (.slice 3 0 1 (ng + 1)) va cf an] ∧ (∃ A, x2 = some A ∧ IsA A kf (nk + 1)) ∧ (∃ A, x3 = some A ∧ IsA A gf (ng + 1)))]
  refine condF' q0 (condT' qx (fun h' e e1 e2 => ?_))
  subst e1 e2
  refine ⟨⟨rfl, rfl, rfl, isI_bFw kf (by omega)⟩, isI_bFw gf (by omega), ⟨show 1 ≤ nk + 1 by omega, show nk + 1 ≤ 1000 by omega⟩, ?_⟩
  exact condT' q (condSplit (fun _ => ⟨tupE (keysE_out R.wf q), rfl, rfl, ⟨_, rfl, isA_b1 rfl rfl rfl rfl fun r => by cases r <;> rfl⟩, ⟨_, rfl, isA_b1 rfl rfl rfl rfl fun r => rfl⟩⟩) fun _ => ⟨tupE (keysE_out R.wf q), rfl, rfl, ⟨_, rfl, isA_b1 rfl rfl rfl rfl fun r => rfl⟩, ⟨_, rfl, isA_b1 rfl rfl rfl rfl fun r => rfl⟩⟩)
theorem c28sA1g {hd : Hd} {sv va cf an : Bool} {kf : Nat → Int} {nk : Nat} {gf : Nat → Int} {ng : Nat} {x s : Int} (R : Rel hd sv (nk + 1) kf gf (ng + 1) va cf an) (q0 : (x % 7 == 0) = false) (qx : (x % 7 == 1) = true) (q : (!inS s) = false) (q1 : inF gf (ng + 1) s = true) : Canon Try.prog 28 [.ptr 0 0 7 0, .ptr 1 0 6 0, .agg [.int .i64 x, .int .i64 s]] [some (oneB (hC hd) true 54), some (mB sv (.slice 2 0 1 (nk + 1)) (.slice 3 0 1 (ng + 1)) va cf an), some (bFw kf (nk + 1)), some (bFw gf (ng + 1))] fun v hp => (fun v o0 o1 x2 x3 x4 => v = .tuple [.int .i64 (keysE hd s), .int .i64 (keysE hd s)] ∧ o0 = .rows 7 1 true 54 [hC (keysH hd s)] ∧ o1 = .rows 6 1 true 57 [mC sv (.slice 2 0 1 (nk + 1)) (.slice 3 0 1 (ng + 1)) va cf an] ∧ (∃ A, x2 = some A ∧ IsA A kf (nk + 1)) ∧ (∃ A, x3 = some A ∧ IsA A gf (ng + 1))) v (obsB true (hget hp 0)) (obsB true (hget hp 1)) (hget hp 2) (hget hp 3) (hget hp 5) := by
  have hn := R.rnk
  have hn3 := cK_le hd
  have hg := R.rng
  have hg3 := cG_le hd
  refine CodeOK.body Try.func28 (by kernel_rfl) (CodeOK.eval (C := C11) ec gs11 mixed 64 ?_)
  show evalC C11 64 4 (bodF Try.f28) (enterS 52 _) _ (endK Try.prog Try.f28.results.toList fun v hp => (fun v o0 o1 x2 x3 x4 => v = .tuple [.int .i64 (keysE hd s), .int .i64 (keysE hd s)] ∧ o0 = .rows 7 1 true 54 [hC (keysH hd s)] ∧ o1 = .rows 6 1 true 57 [mC sv (.slice 2 0 1 (nk + 1)) (.slice 3 0 1 (ng + 1)) va cf an] ∧ (∃ A, x2 = some A ∧ IsA A kf (nk + 1)) ∧ (∃ A, x3 = some A ∧ IsA A gf (ng + 1))) v (obsB true (hget hp 0)) (obsB true (hget hp 1)) (hget hp 2) (hget hp 3) (hget hp 5))
  rw [t28s hd sv va cf an kf nk gf ng x s (fun v o0 o1 x2 x3 x4 => v = .tuple [.int .i64 (keysE hd s), .int .i64 (keysE hd s)] ∧ o0 = .rows 7 1 true 54 [hC (keysH hd s)] ∧ o1 = .rows 6 1 true 57 [mC sv (.slice 2 0 1 (nk + 1)) (.slice 3 0 1 (ng + 1)) va cf an] ∧ (∃ A, x2 = some A ∧ IsA A kf (nk + 1)) ∧ (∃ A, x3 = some A ∧ IsA A gf (ng + 1)))]
  refine condF' q0 (condT' qx (fun h' e e1 e2 => ?_))
  subst e1 e2
  refine ⟨⟨rfl, rfl, rfl, isI_bFw kf (by omega)⟩, isI_bFw gf (by omega), ⟨show 1 ≤ nk + 1 by omega, show nk + 1 ≤ 1000 by omega⟩, ?_⟩
  exact condF' q (condT' q1 (condSplit (fun _ => ⟨tupE (R.keysE_gone q q1), rfl, rfl, ⟨_, rfl, isA_b1 rfl rfl rfl rfl fun r => by cases r <;> rfl⟩, ⟨_, rfl, isA_b1 rfl rfl rfl rfl fun r => rfl⟩⟩) fun _ => ⟨tupE (R.keysE_gone q q1), rfl, rfl, ⟨_, rfl, isA_b1 rfl rfl rfl rfl fun r => rfl⟩, ⟨_, rfl, isA_b1 rfl rfl rfl rfl fun r => rfl⟩⟩))
theorem c28sA1n {hd : Hd} {sv va cf an : Bool} {kf : Nat → Int} {nk : Nat} {gf : Nat → Int} {ng : Nat} {x s : Int} (R : Rel hd sv (nk + 1) kf gf (ng + 1) va cf an) (q0 : (x % 7 == 0) = false) (qx : (x % 7 == 1) = true) (q : (!inS s) = false) (q1 : inF gf (ng + 1) s = false) (q2 : (!inF kf (nk + 1) s) = true) : Canon Try.prog 28 [.ptr 0 0 7 0, .ptr 1 0 6 0, .agg [.int .i64 x, .int .i64 s]] [some (oneB (hC hd) true 54), some (mB sv (.slice 2 0 1 (nk + 1)) (.slice 3 0 1 (ng + 1)) va cf an), some (bFw kf (nk + 1)), some (bFw gf (ng + 1))] fun v hp => (fun v o0 o1 x2 x3 x4 => v = .tuple [.int .i64 (keysE hd s), .int .i64 (keysE hd s)] ∧ o0 = .rows 7 1 true 54 [hC (keysH hd s)] ∧ o1 = .rows 6 1 true 57 [mC sv (.slice 5 0 1 (nk + 1 + 1)) (.slice 3 0 1 (ng + 1)) va cf an] ∧ (∃ A, x4 = some A ∧ IsA A (appF kf (nk + 1) s) (nk + 1 + 1)) ∧ (∃ A, x3 = some A ∧ IsA A gf (ng + 1))) v (obsB true (hget hp 0)) (obsB true (hget hp 1)) (hget hp 2) (hget hp 3) (hget hp 5) := by
  have hn := R.rnk
  have hn3 := cK_le hd
  have hg := R.rng
  have hg3 := cG_le hd
  refine CodeOK.body Try.func28 (by kernel_rfl) (CodeOK.eval (C := C11) ec gs11 mixed 64 ?_)
  show evalC C11 64 4 (bodF Try.f28) (enterS 52 _) _ (endK Try.prog Try.f28.results.toList fun v hp => (fun v o0 o1 x2 x3 x4 => v = .tuple [.int .i64 (keysE hd s), .int .i64 (keysE hd s)] ∧ o0 = .rows 7 1 true 54 [hC (keysH hd s)] ∧ o1 = .rows 6 1 true 57 [mC sv (.slice 5 0 1 (nk + 1 + 1)) (.slice 3 0 1 (ng + 1)) va cf an] ∧ (∃ A, x4 = some A ∧ IsA A (appF kf (nk + 1) s) (nk + 1 + 1)) ∧ (∃ A, x3 = some A ∧ IsA A gf (ng + 1))) v (obsB true (hget hp 0)) (obsB true (hget hp 1)) (hget hp 2) (hget hp 3) (hget hp 5))
  rw [t28s hd sv va cf an kf nk gf ng x s (fun v o0 o1 x2 x3 x4 => v = .tuple [.int .i64 (keysE hd s), .int .i64 (keysE hd s)] ∧ o0 = .rows 7 1 true 54 [hC (keysH hd s)] ∧ o1 = .rows 6 1 true 57 [mC sv (.slice 5 0 1 (nk + 1 + 1)) (.slice 3 0 1 (ng + 1)) va cf an] ∧ (∃ A, x4 = some A ∧ IsA A (appF kf (nk + 1) s) (nk + 1 + 1)) ∧ (∃ A, x3 = some A ∧ IsA A gf (ng + 1)))]
  refine condF' q0 (condT' qx (fun h' e e1 e2 => ?_))
  subst e1 e2
  refine ⟨⟨rfl, rfl, rfl, isI_bFw kf (by omega)⟩, isI_bFw gf (by omega), ⟨show 1 ≤ nk + 1 by omega, show nk + 1 ≤ 1000 by omega⟩, ?_⟩
  exact condF' q (condF' q1 (condT' q2 (⟨tupE (R.keysE_ok q q1), rfl, rfl, ⟨_, rfl, isA_b1 rfl rfl rfl rfl fun r => rfl⟩, ⟨_, rfl, isA_b1 rfl rfl rfl rfl fun r => rfl⟩⟩)))
theorem c28sA1h {hd : Hd} {sv va cf an : Bool} {kf : Nat → Int} {nk : Nat} {gf : Nat → Int} {ng : Nat} {x s : Int} (R : Rel hd sv (nk + 1) kf gf (ng + 1) va cf an) (q0 : (x % 7 == 0) = false) (qx : (x % 7 == 1) = true) (q : (!inS s) = false) (q1 : inF gf (ng + 1) s = false) (q2 : (!inF kf (nk + 1) s) = false) : Canon Try.prog 28 [.ptr 0 0 7 0, .ptr 1 0 6 0, .agg [.int .i64 x, .int .i64 s]] [some (oneB (hC hd) true 54), some (mB sv (.slice 2 0 1 (nk + 1)) (.slice 3 0 1 (ng + 1)) va cf an), some (bFw kf (nk + 1)), some (bFw gf (ng + 1))] fun v hp => (fun v o0 o1 x2 x3 x4 => v = .tuple [.int .i64 (keysE hd s), .int .i64 (keysE hd s)] ∧ o0 = .rows 7 1 true 54 [hC (keysH hd s)] ∧ o1 = .rows 6 1 true 57 [mC sv (.slice 2 0 1 (nk + 1)) (.slice 3 0 1 (ng + 1)) va cf an] ∧ (∃ A, x2 = some A ∧ IsA A kf (nk + 1)) ∧ (∃ A, x3 = some A ∧ IsA A gf (ng + 1))) v (obsB true (hget hp 0)) (obsB true (hget hp 1)) (hget hp 2) (hget hp 3) (hget hp 5) := by
  have hn := R.rnk
  have hn3 := cK_le hd
  have hg := R.rng
  have hg3 := cG_le hd
  refine CodeOK.body Try.func28 (by kernel_rfl) (CodeOK.eval (C := C11) ec gs11 mixed 64 ?_)
  show evalC C11 64 4 (bodF Try.f28) (enterS 52 _) _ (endK Try.prog Try.f28.results.toList fun v hp => (fun v o0 o1 x2 x3 x4 => v = .tuple [.int .i64 (keysE hd s), .int .i64 (keysE hd s)] ∧ o0 = .rows 7 1 true 54 [hC (keysH hd s)] ∧ o1 = .rows 6 1 true 57 [mC sv (.slice 2 0 1 (nk + 1)) (.slice 3 0 1 (ng + 1)) va cf an] ∧ (∃ A, x2 = some A ∧ IsA A kf (nk + 1)) ∧ (∃ A, x3 = some A ∧ IsA A gf (ng + 1))) v (obsB true (hget hp 0)) (obsB true (hget hp 1)) (hget hp 2) (hget hp 3) (hget hp 5))
  rw [t28s hd sv va cf an kf nk gf ng x s (fun v o0 o1 x2 x3 x4 => v = .tuple [.int .i64 (keysE hd s), .int .i64 (keysE hd s)] ∧ o0 = .rows 7 1 true 54 [hC (keysH hd s)] ∧ o1 = .rows 6 1 true 57 [mC sv (.slice 2 0 1 (nk + 1)) (.slice 3 0 1 (ng + 1)) va cf an] ∧ (∃ A, x2 = some A ∧ IsA A kf (nk + 1)) ∧ (∃ A, x3 = some A ∧ IsA A gf (ng + 1)))]
  refine condF' q0 (condT' qx (fun h' e e1 e2 => ?_))
  subst e1 e2
  refine ⟨⟨rfl, rfl, rfl, isI_bFw kf (by omega)⟩, isI_bFw gf (by omega), ⟨show 1 ≤ nk + 1 by omega, show nk + 1 ≤ 1000 by omega⟩, ?_⟩
  exact condF' q (condF' q1 (condF' q2 (condSplit (fun _ => ⟨tupE (R.keysE_ok q q1), rfl, rfl, ⟨_, rfl, isA_b1 rfl rfl rfl rfl fun r => by cases r <;> rfl⟩, ⟨_, rfl, isA_b1 rfl rfl rfl rfl fun r => rfl⟩⟩) fun _ => ⟨tupE (R.keysE_ok q q1), rfl, rfl, ⟨_, rfl, isA_b1 rfl rfl rfl rfl fun r => rfl⟩, ⟨_, rfl, isA_b1 rfl rfl rfl rfl fun r => rfl⟩⟩)))
theorem c28sBo {hd : Hd} {sv va cf an : Bool} {kf : Nat → Int} {nk : Nat} {gf : Nat → Int} {ng : Nat} {x s : Int} (R : Rel hd sv (nk + 1) kf gf (ng + 1) va cf an) (q0 : (x % 7 == 0) = false) (q1 : (x % 7 == 1) = false) (qx : (x % 7 == 2) = true) (q : (!inS s) = true) : Canon Try.prog 28 [.ptr 0 0 7 0, .ptr 1 0 6 0, .agg [.int .i64 x, .int .i64 s]] [some (oneB (hC hd) true 54), some (mB sv (.slice 2 0 1 (nk + 1)) (.slice 3 0 1 (ng + 1)) va cf an), some (bFw kf (nk + 1)), some (bFw gf (ng + 1))] fun v hp => (fun v o0 o1 x2 x3 x4 => v = .tuple [.int .i64 (discE hd s), .int .i64 (discE hd s)] ∧ o0 = .rows 7 1 true 54 [hC (discH hd s)] ∧ o1 = .rows 6 1 true 57 [mC sv (.slice 2 0 1 (nk + 1)) (.slice 3 0 1 (ng + 1)) va cf an] ∧ (∃ A, x2 = some A ∧ IsA A kf (nk + 1)) ∧ (∃ A, x3 = some A ∧ IsA A gf (ng + 1))) v (obsB true (hget hp 0)) (obsB true (hget hp 1)) (hget hp 2) (hget hp 3) (hget hp 5) := by
  have hn := R.rnk
  have hn3 := cK_le hd
  have hg := R.rng
  have hg3 := cG_le hd
  refine CodeOK.body Try.func28 (by kernel_rfl) (CodeOK.eval (C := C11) ec gs11 mixed 64 ?_)
  show evalC C11 64 4 (bodF Try.f28) (enterS 52 _) _ (endK Try.prog Try.f28.results.toList fun v hp => (fun v o0 o1 x2 x3 x4 => v = .tuple [.int .i64 (discE hd s), .int .i64 (discE hd s)] ∧ o0 = .rows 7 1 true 54 [hC (discH hd s)] ∧ o1 = .rows 6 1 true 57 [mC sv (.slice 2 0 1 (nk + 1)) (.slice 3 0 1 (ng + 1)) va cf an] ∧ (∃ A, x2 = some A ∧ IsA A kf (nk + 1)) ∧ (∃ A, x3 = some A ∧ IsA A gf (ng + 1))) v (obsB true (hget hp 0)) (obsB true (hget hp 1)) (hget hp 2) (hget hp 3) (hget hp 5))
  rw [t28s hd sv va cf an kf nk gf ng x s (fun v o0 o1 x2 x3 x4 => v = .tuple [.int .i64 (discE hd s), .int .i64 (discE hd s)] ∧ o0 = .rows 7 1 true 54 [hC (discH hd s)] ∧ o1 = .rows 6 1 true 57 [mC sv (.slice 2 0 1 (nk + 1)) (.slice 3 0 1 (ng + 1)) va cf an] ∧ (∃ A, x2 = some A ∧ IsA A kf (nk + 1)) ∧ (∃ A, x3 = some A ∧ IsA A gf (ng + 1)))]
  refine condF' q0 (condF' q1 (condT' qx (fun h' e e1 e2 => ?_)))
  subst e1 e2
  refine ⟨isI_bFw kf (by omega), ⟨rfl, rfl, rfl, isI_bFw gf (by omega)⟩, ⟨show 1 ≤ ng + 1 by omega, show ng + 1 ≤ 1000 by omega⟩, ?_⟩
  exact condT' q (condSplit (fun _ => ⟨tupE (discE_out R.wf q), rfl, rfl, ⟨_, rfl, isA_b1 rfl rfl rfl rfl fun r => rfl⟩, ⟨_, rfl, isA_b1 rfl rfl rfl rfl fun r => by cases r <;> rfl⟩⟩) fun _ => ⟨tupE (discE_out R.wf q), rfl, rfl, ⟨_, rfl, isA_b1 rfl rfl rfl rfl fun r => rfl⟩, ⟨_, rfl, isA_b1 rfl rfl rfl rfl fun r => rfl⟩⟩)
theorem c28sBt {hd : Hd} {sv va cf an : Bool} {kf : Nat → Int} {nk : Nat} {gf : Nat → Int} {ng : Nat} {x s : Int} (R : Rel hd sv (nk + 1) kf gf (ng + 1) va cf an) (q0 : (x % 7 == 0) = false) (q1 : (x % 7 == 1) = false) (qx : (x % 7 == 2) = true) (q : (!inS s) = false) (p : (s == 2) = true) : Canon Try.prog 28 [.ptr 0 0 7 0, .ptr 1 0 6 0, .agg [.int .i64 x, .int .i64 s]] [some (oneB (hC hd) true 54), some (mB sv (.slice 2 0 1 (nk + 1)) (.slice 3 0 1 (ng + 1)) va cf an), some (bFw kf (nk + 1)), some (bFw gf (ng + 1))] fun v hp => (fun v o0 o1 x2 x3 x4 => v = .tuple [.int .i64 (discE hd s), .int .i64 (discE hd s)] ∧ o0 = .rows 7 1 true 54 [hC (discH hd s)] ∧ o1 = .rows 6 1 true 57 [mC sv (.slice 2 0 1 (nk + 1)) (.slice 3 0 1 (ng + 1)) va cf an] ∧ (∃ A, x2 = some A ∧ IsA A kf (nk + 1)) ∧ (∃ A, x3 = some A ∧ IsA A gf (ng + 1))) v (obsB true (hget hp 0)) (obsB true (hget hp 1)) (hget hp 2) (hget hp 3) (hget hp 5) := by
  have hn := R.rnk
  have hn3 := cK_le hd
  have hg := R.rng
  have hg3 := cG_le hd
  refine CodeOK.body Try.func28 (by kernel_rfl) (CodeOK.eval (C := C11) ec gs11 mixed 64 ?_)
  show evalC C11 64 4 (bodF Try.f28) (enterS 52 _) _ (endK Try.prog Try.f28.results.toList fun v hp => (fun v o0 o1 x2 x3 x4 => v = .tuple [.int .i64 (discE hd s), .int .i64 (discE hd s)] ∧ o0 = .rows 7 1 true 54 [hC (discH hd s)] ∧ o1 = .rows 6 1 true 57 [mC sv (.slice 2 0 1 (nk + 1)) (.slice 3 0 1 (ng + 1)) va cf an] ∧ (∃ A, x2 = some A ∧ IsA A kf (nk + 1)) ∧ (∃ A, x3 = some A ∧ IsA A gf (ng + 1))) v (obsB true (hget hp 0)) (obsB true (hget hp 1)) (hget hp 2) (hget hp 3) (hget hp 5))
  rw [t28s hd sv va cf an kf nk gf ng x s (fun v o0 o1 x2 x3 x4 => v = .tuple [.int .i64 (discE hd s), .int .i64 (discE hd s)] ∧ o0 = .rows 7 1 true 54 [hC (discH hd s)] ∧ o1 = .rows 6 1 true 57 [mC sv (.slice 2 0 1 (nk + 1)) (.slice 3 0 1 (ng + 1)) va cf an] ∧ (∃ A, x2 = some A ∧ IsA A kf (nk + 1)) ∧ (∃ A, x3 = some A ∧ IsA A gf (ng + 1)))]
  refine condF' q0 (condF' q1 (condT' qx (fun h' e e1 e2 => ?_)))
  subst e1 e2
  refine ⟨isI_bFw kf (by omega), ⟨rfl, rfl, rfl, isI_bFw gf (by omega)⟩, ⟨show 1 ≤ ng + 1 by omega, show ng + 1 ≤ 1000 by omega⟩, ?_⟩
  exact condF' q (condT' p (condSplit (fun _ => ⟨tupE (R.discE_two p), rfl, rfl, ⟨_, rfl, isA_b1 rfl rfl rfl rfl fun r => rfl⟩, ⟨_, rfl, isA_b1 rfl rfl rfl rfl fun r => by cases r <;> rfl⟩⟩) fun _ => ⟨tupE (R.discE_two p), rfl, rfl, ⟨_, rfl, isA_b1 rfl rfl rfl rfl fun r => rfl⟩, ⟨_, rfl, isA_b1 rfl rfl rfl rfl fun r => rfl⟩⟩))
theorem c28sBn {hd : Hd} {sv va cf an : Bool} {kf : Nat → Int} {nk : Nat} {gf : Nat → Int} {ng : Nat} {x s : Int} (R : Rel hd sv (nk + 1) kf gf (ng + 1) va cf an) (q0 : (x % 7 == 0) = false) (q1 : (x % 7 == 1) = false) (qx : (x % 7 == 2) = true) (q : (!inS s) = false) (p : (s == 2) = false) (q2 : (!livM kf gf (nk + 1) (ng + 1) s) = true) : Canon Try.prog 28 [.ptr 0 0 7 0, .ptr 1 0 6 0, .agg [.int .i64 x, .int .i64 s]] [some (oneB (hC hd) true 54), some (mB sv (.slice 2 0 1 (nk + 1)) (.slice 3 0 1 (ng + 1)) va cf an), some (bFw kf (nk + 1)), some (bFw gf (ng + 1))] fun v hp => (fun v o0 o1 x2 x3 x4 => v = .tuple [.int .i64 (discE hd s), .int .i64 (discE hd s)] ∧ o0 = .rows 7 1 true 54 [hC (discH hd s)] ∧ o1 = .rows 6 1 true 57 [mC sv (.slice 2 0 1 (nk + 1)) (.slice 3 0 1 (ng + 1)) va cf an] ∧ (∃ A, x2 = some A ∧ IsA A kf (nk + 1)) ∧ (∃ A, x3 = some A ∧ IsA A gf (ng + 1))) v (obsB true (hget hp 0)) (obsB true (hget hp 1)) (hget hp 2) (hget hp 3) (hget hp 5) := by
  have hn := R.rnk
  have hn3 := cK_le hd
  have hg := R.rng
  have hg3 := cG_le hd
  refine CodeOK.body Try.func28 (by kernel_rfl) (CodeOK.eval (C := C11) ec gs11 mixed 64 ?_)
  show evalC C11 64 4 (bodF Try.f28) (enterS 52 _) _ (endK Try.prog Try.f28.results.toList fun v hp => (fun v o0 o1 x2 x3 x4 => v = .tuple [.int .i64 (discE hd s), .int .i64 (discE hd s)] ∧ o0 = .rows 7 1 true 54 [hC (discH hd s)] ∧ o1 = .rows 6 1 true 57 [mC sv (.slice 2 0 1 (nk + 1)) (.slice 3 0 1 (ng + 1)) va cf an] ∧ (∃ A, x2 = some A ∧ IsA A kf (nk + 1)) ∧ (∃ A, x3 = some A ∧ IsA A gf (ng + 1))) v (obsB true (hget hp 0)) (obsB true (hget hp 1)) (hget hp 2) (hget hp 3) (hget hp 5))
  rw [t28s hd sv va cf an kf nk gf ng x s (fun v o0 o1 x2 x3 x4 => v = .tuple [.int .i64 (discE hd s), .int .i64 (discE hd s)] ∧ o0 = .rows 7 1 true 54 [hC (discH hd s)] ∧ o1 = .rows 6 1 true 57 [mC sv (.slice 2 0 1 (nk + 1)) (.slice 3 0 1 (ng + 1)) va cf an] ∧ (∃ A, x2 = some A ∧ IsA A kf (nk + 1)) ∧ (∃ A, x3 = some A ∧ IsA A gf (ng + 1)))]
  refine condF' q0 (condF' q1 (condT' qx (fun h' e e1 e2 => ?_)))
  subst e1 e2
  refine ⟨isI_bFw kf (by omega), ⟨rfl, rfl, rfl, isI_bFw gf (by omega)⟩, ⟨show 1 ≤ ng + 1 by omega, show ng + 1 ≤ 1000 by omega⟩, ?_⟩
  exact condF' q (condF' p (condT' q2 (condSplit (fun _ => ⟨tupE (R.discE_no q p q2), rfl, rfl, ⟨_, rfl, isA_b1 rfl rfl rfl rfl fun r => rfl⟩, ⟨_, rfl, isA_b1 rfl rfl rfl rfl fun r => by cases r <;> rfl⟩⟩) fun _ => ⟨tupE (R.discE_no q p q2), rfl, rfl, ⟨_, rfl, isA_b1 rfl rfl rfl rfl fun r => rfl⟩, ⟨_, rfl, isA_b1 rfl rfl rfl rfl fun r => rfl⟩⟩)))
theorem c28sBy {hd : Hd} {sv va cf an : Bool} {kf : Nat → Int} {nk : Nat} {gf : Nat → Int} {ng : Nat} {x s : Int} (R : Rel hd sv (nk + 1) kf gf (ng + 1) va cf an) (q0 : (x % 7 == 0) = false) (q1 : (x % 7 == 1) = false) (qx : (x % 7 == 2) = true) (q : (!inS s) = false) (p : (s == 2) = false) (q2 : (!livM kf gf (nk + 1) (ng + 1) s) = false) : Canon Try.prog 28 [.ptr 0 0 7 0, .ptr 1 0 6 0, .agg [.int .i64 x, .int .i64 s]] [some (oneB (hC hd) true 54), some (mB sv (.slice 2 0 1 (nk + 1)) (.slice 3 0 1 (ng + 1)) va cf an), some (bFw kf (nk + 1)), some (bFw gf (ng + 1))] fun v hp => (fun v o0 o1 x2 x3 x4 => v = .tuple [.int .i64 (discE hd s), .int .i64 (discE hd s)] ∧ o0 = .rows 7 1 true 54 [hC (discH hd s)] ∧ o1 = .rows 6 1 true 57 [mC sv (.slice 2 0 1 (nk + 1)) (.slice 5 0 1 ((ng + 1) + 1)) va cf an] ∧ (∃ A, x2 = some A ∧ IsA A kf (nk + 1)) ∧ (∃ A, x4 = some A ∧ IsA A (appF gf (ng + 1) s) ((ng + 1) + 1))) v (obsB true (hget hp 0)) (obsB true (hget hp 1)) (hget hp 2) (hget hp 3) (hget hp 5) := by
  have hn := R.rnk
  have hn3 := cK_le hd
  have hg := R.rng
  have hg3 := cG_le hd
  refine CodeOK.body Try.func28 (by kernel_rfl) (CodeOK.eval (C := C11) ec gs11 mixed 64 ?_)
  show evalC C11 64 4 (bodF Try.f28) (enterS 52 _) _ (endK Try.prog Try.f28.results.toList fun v hp => (fun v o0 o1 x2 x3 x4 => v = .tuple [.int .i64 (discE hd s), .int .i64 (discE hd s)] ∧ o0 = .rows 7 1 true 54 [hC (discH hd s)] ∧ o1 = .rows 6 1 true 57 [mC sv (.slice 2 0 1 (nk + 1)) (.slice 5 0 1 ((ng + 1) + 1)) va cf an] ∧ (∃ A, x2 = some A ∧ IsA A kf (nk + 1)) ∧ (∃ A, x4 = some A ∧ IsA A (appF gf (ng + 1) s) ((ng + 1) + 1))) v (obsB true (hget hp 0)) (obsB true (hget hp 1)) (hget hp 2) (hget hp 3) (hget hp 5))
  rw [t28s hd sv va cf an kf nk gf ng x s (fun v o0 o1 x2 x3 x4 => v = .tuple [.int .i64 (discE hd s), .int .i64 (discE hd s)] ∧ o0 = .rows 7 1 true 54 [hC (discH hd s)] ∧ o1 = .rows 6 1 true 57 [mC sv (.slice 2 0 1 (nk + 1)) (.slice 5 0 1 ((ng + 1) + 1)) va cf an] ∧ (∃ A, x2 = some A ∧ IsA A kf (nk + 1)) ∧ (∃ A, x4 = some A ∧ IsA A (appF gf (ng + 1) s) ((ng + 1) + 1)))]
  refine condF' q0 (condF' q1 (condT' qx (fun h' e e1 e2 => ?_)))
  subst e1 e2
  refine ⟨isI_bFw kf (by omega), ⟨rfl, rfl, rfl, isI_bFw gf (by omega)⟩, ⟨show 1 ≤ ng + 1 by omega, show ng + 1 ≤ 1000 by omega⟩, ?_⟩
  exact condF' q (condF' p (condF' q2 ⟨tupE (R.discE_yes q p q2), rfl, rfl, ⟨_, rfl, isA_b1 rfl rfl rfl rfl fun r => rfl⟩, ⟨_, rfl, isA_b1 rfl rfl rfl rfl fun r => rfl⟩⟩))
theorem c28sC {hd : Hd} {sv va cf an : Bool} {kf : Nat → Int} {nk : Nat} {gf : Nat → Int} {ng : Nat} {x s : Int} (R : Rel hd sv (nk + 1) kf gf (ng + 1) va cf an) (q0 : (x % 7 == 0) = false) (q1 : (x % 7 == 1) = false) (q2 : (x % 7 == 2) = false) (qx : (x % 7 == 3) = true) : Canon Try.prog 28 [.ptr 0 0 7 0, .ptr 1 0 6 0, .agg [.int .i64 x, .int .i64 s]] [some (oneB (hC hd) true 54), some (mB sv (.slice 2 0 1 (nk + 1)) (.slice 3 0 1 (ng + 1)) va cf an), some (bFw kf (nk + 1)), some (bFw gf (ng + 1))] fun v hp => (fun v o0 o1 x2 x3 x4 => v = .tuple [.int .i64 (valE hd), .int .i64 (valE hd)] ∧ o0 = .rows 7 1 true 54 [hC (valH hd)] ∧ o1 = .rows 6 1 true 57 [mC sv (.slice 2 0 1 (nk + 1)) (.slice 3 0 1 (ng + 1)) true cf an] ∧ (∃ A, x2 = some A ∧ IsA A kf (nk + 1)) ∧ (∃ A, x3 = some A ∧ IsA A gf (ng + 1))) v (obsB true (hget hp 0)) (obsB true (hget hp 1)) (hget hp 2) (hget hp 3) (hget hp 5) := by
  have hn := R.rnk
  have hn3 := cK_le hd
  have hg := R.rng
  have hg3 := cG_le hd
  refine CodeOK.body Try.func28 (by kernel_rfl) (CodeOK.eval (C := C11) ec gs11 mixed 64 ?_)
  show evalC C11 64 4 (bodF Try.f28) (enterS 52 _) _ (endK Try.prog Try.f28.results.toList fun v hp => (fun v o0 o1 x2 x3 x4 => v = .tuple [.int .i64 (valE hd), .int .i64 (valE hd)] ∧ o0 = .rows 7 1 true 54 [hC (valH hd)] ∧ o1 = .rows 6 1 true 57 [mC sv (.slice 2 0 1 (nk + 1)) (.slice 3 0 1 (ng + 1)) true cf an] ∧ (∃ A, x2 = some A ∧ IsA A kf (nk + 1)) ∧ (∃ A, x3 = some A ∧ IsA A gf (ng + 1))) v (obsB true (hget hp 0)) (obsB true (hget hp 1)) (hget hp 2) (hget hp 3) (hget hp 5))
  rw [t28s hd sv va cf an kf nk gf ng x s (fun v o0 o1 x2 x3 x4 => v = .tuple [.int .i64 (valE hd), .int .i64 (valE hd)] ∧ o0 = .rows 7 1 true 54 [hC (valH hd)] ∧ o1 = .rows 6 1 true 57 [mC sv (.slice 2 0 1 (nk + 1)) (.slice 3 0 1 (ng + 1)) true cf an] ∧ (∃ A, x2 = some A ∧ IsA A kf (nk + 1)) ∧ (∃ A, x3 = some A ∧ IsA A gf (ng + 1)))]
  refine condF' q0 (condF' q1 (condF' q2 (condT' qx (fun h' e e1 e2 => ?_))))
  subst e1 e2
  exact ⟨isI_bFw kf (by omega), isI_bFw gf (by omega), tupE R.valE_ok, rfl, rfl, ⟨_, rfl, isA_b1 rfl rfl rfl rfl fun r => rfl⟩, ⟨_, rfl, isA_b1 rfl rfl rfl rfl fun r => rfl⟩⟩
theorem c28sDy {hd : Hd} {sv va cf an : Bool} {kf : Nat → Int} {nk : Nat} {gf : Nat → Int} {ng : Nat} {x s : Int} (R : Rel hd sv (nk + 1) kf gf (ng + 1) va cf an) (q0 : (x % 7 == 0) = false) (q1 : (x % 7 == 1) = false) (q2 : (x % 7 == 2) = false) (q3 : (x % 7 == 3) = false) (qx : (x % 7 == 4) = true) (p : livM kf gf (nk + 1) (ng + 1) 2 = true) : Canon Try.prog 28 [.ptr 0 0 7 0, .ptr 1 0 6 0, .agg [.int .i64 x, .int .i64 s]] [some (oneB (hC hd) true 54), some (mB sv (.slice 2 0 1 (nk + 1)) (.slice 3 0 1 (ng + 1)) va cf an), some (bFw kf (nk + 1)), some (bFw gf (ng + 1))] fun v hp => (fun v o0 o1 x2 x3 x4 => v = .tuple [.int .i64 (needsV hd 2), .int .i64 (needsV hd 2)] ∧ o0 = .rows 7 1 true 54 [hC (confH hd)] ∧ o1 = .rows 6 1 true 57 [mC sv (.slice 2 0 1 (nk + 1)) (.slice 3 0 1 (ng + 1)) true true an] ∧ (∃ A, x2 = some A ∧ IsA A kf (nk + 1)) ∧ (∃ A, x3 = some A ∧ IsA A gf (ng + 1))) v (obsB true (hget hp 0)) (obsB true (hget hp 1)) (hget hp 2) (hget hp 3) (hget hp 5) := by
  have hn := R.rnk
  have hn3 := cK_le hd
  have hg := R.rng
  have hg3 := cG_le hd
  refine CodeOK.body Try.func28 (by kernel_rfl) (CodeOK.eval (C := C11) ec gs11 mixed 64 ?_)
  show evalC C11 64 4 (bodF Try.f28) (enterS 52 _) _ (endK Try.prog Try.f28.results.toList fun v hp => (fun v o0 o1 x2 x3 x4 => v = .tuple [.int .i64 (needsV hd 2), .int .i64 (needsV hd 2)] ∧ o0 = .rows 7 1 true 54 [hC (confH hd)] ∧ o1 = .rows 6 1 true 57 [mC sv (.slice 2 0 1 (nk + 1)) (.slice 3 0 1 (ng + 1)) true true an] ∧ (∃ A, x2 = some A ∧ IsA A kf (nk + 1)) ∧ (∃ A, x3 = some A ∧ IsA A gf (ng + 1))) v (obsB true (hget hp 0)) (obsB true (hget hp 1)) (hget hp 2) (hget hp 3) (hget hp 5))
  rw [t28s hd sv va cf an kf nk gf ng x s (fun v o0 o1 x2 x3 x4 => v = .tuple [.int .i64 (needsV hd 2), .int .i64 (needsV hd 2)] ∧ o0 = .rows 7 1 true 54 [hC (confH hd)] ∧ o1 = .rows 6 1 true 57 [mC sv (.slice 2 0 1 (nk + 1)) (.slice 3 0 1 (ng + 1)) true true an] ∧ (∃ A, x2 = some A ∧ IsA A kf (nk + 1)) ∧ (∃ A, x3 = some A ∧ IsA A gf (ng + 1)))]
  refine condF' q0 (condF' q1 (condF' q2 (condF' q3 (condT' qx (fun h' e e1 e2 => ?_)))))
  subst e1 e2
  exact ⟨isI_bFw kf (by omega), isI_bFw gf (by omega), condT' p ⟨tupE (R.confE_yes p), rfl, rfl, ⟨_, rfl, isA_b1 rfl rfl rfl rfl fun r => rfl⟩, ⟨_, rfl, isA_b1 rfl rfl rfl rfl fun r => rfl⟩⟩⟩
theorem c28sDn {hd : Hd} {sv va cf an : Bool} {kf : Nat → Int} {nk : Nat} {gf : Nat → Int} {ng : Nat} {x s : Int} (R : Rel hd sv (nk + 1) kf gf (ng + 1) va cf an) (q0 : (x % 7 == 0) = false) (q1 : (x % 7 == 1) = false) (q2 : (x % 7 == 2) = false) (q3 : (x % 7 == 3) = false) (qx : (x % 7 == 4) = true) (p : livM kf gf (nk + 1) (ng + 1) 2 = false) : Canon Try.prog 28 [.ptr 0 0 7 0, .ptr 1 0 6 0, .agg [.int .i64 x, .int .i64 s]] [some (oneB (hC hd) true 54), some (mB sv (.slice 2 0 1 (nk + 1)) (.slice 3 0 1 (ng + 1)) va cf an), some (bFw kf (nk + 1)), some (bFw gf (ng + 1))] fun v hp => (fun v o0 o1 x2 x3 x4 => v = .tuple [.int .i64 (needsV hd 2), .int .i64 (needsV hd 2)] ∧ o0 = .rows 7 1 true 54 [hC (confH hd)] ∧ o1 = .rows 6 1 true 57 [mC sv (.slice 2 0 1 (nk + 1)) (.slice 3 0 1 (ng + 1)) va cf an] ∧ (∃ A, x2 = some A ∧ IsA A kf (nk + 1)) ∧ (∃ A, x3 = some A ∧ IsA A gf (ng + 1))) v (obsB true (hget hp 0)) (obsB true (hget hp 1)) (hget hp 2) (hget hp 3) (hget hp 5) := by
  have hn := R.rnk
  have hn3 := cK_le hd
  have hg := R.rng
  have hg3 := cG_le hd
  refine CodeOK.body Try.func28 (by kernel_rfl) (CodeOK.eval (C := C11) ec gs11 mixed 64 ?_)
  show evalC C11 64 4 (bodF Try.f28) (enterS 52 _) _ (endK Try.prog Try.f28.results.toList fun v hp => (fun v o0 o1 x2 x3 x4 => v = .tuple [.int .i64 (needsV hd 2), .int .i64 (needsV hd 2)] ∧ o0 = .rows 7 1 true 54 [hC (confH hd)] ∧ o1 = .rows 6 1 true 57 [mC sv (.slice 2 0 1 (nk + 1)) (.slice 3 0 1 (ng + 1)) va cf an] ∧ (∃ A, x2 = some A ∧ IsA A kf (nk + 1)) ∧ (∃ A, x3 = some A ∧ IsA A gf (ng + 1))) v (obsB true (hget hp 0)) (obsB true (hget hp 1)) (hget hp 2) (hget hp 3) (hget hp 5))
  rw [t28s hd sv va cf an kf nk gf ng x s (fun v o0 o1 x2 x3 x4 => v = .tuple [.int .i64 (needsV hd 2), .int .i64 (needsV hd 2)] ∧ o0 = .rows 7 1 true 54 [hC (confH hd)] ∧ o1 = .rows 6 1 true 57 [mC sv (.slice 2 0 1 (nk + 1)) (.slice 3 0 1 (ng + 1)) va cf an] ∧ (∃ A, x2 = some A ∧ IsA A kf (nk + 1)) ∧ (∃ A, x3 = some A ∧ IsA A gf (ng + 1)))]
  refine condF' q0 (condF' q1 (condF' q2 (condF' q3 (condT' qx (fun h' e e1 e2 => ?_)))))
  subst e1 e2
  exact ⟨isI_bFw kf (by omega), isI_bFw gf (by omega), condF' p ⟨tupE (R.confE_no p), rfl, rfl, ⟨_, rfl, isA_b1 rfl rfl rfl rfl fun r => rfl⟩, ⟨_, rfl, isA_b1 rfl rfl rfl rfl fun r => rfl⟩⟩⟩
theorem c28sEo {hd : Hd} {sv va cf an : Bool} {kf : Nat → Int} {nk : Nat} {gf : Nat → Int} {ng : Nat} {x s : Int} (R : Rel hd sv (nk + 1) kf gf (ng + 1) va cf an) (q0 : (x % 7 == 0) = false) (q1 : (x % 7 == 1) = false) (q2 : (x % 7 == 2) = false) (q3 : (x % 7 == 3) = false) (q4 : (x % 7 == 4) = false) (q : (!inS s) = true) : Canon Try.prog 28 [.ptr 0 0 7 0, .ptr 1 0 6 0, .agg [.int .i64 x, .int .i64 s]] [some (oneB (hC hd) true 54), some (mB sv (.slice 2 0 1 (nk + 1)) (.slice 3 0 1 (ng + 1)) va cf an), some (bFw kf (nk + 1)), some (bFw gf (ng + 1))] fun v hp => (fun v o0 o1 x2 x3 x4 => v = .tuple [.int .i64 (needsV hd s), .int .i64 (needsV hd s)] ∧ o0 = .rows 7 1 true 54 [hC (ansH hd s)] ∧ o1 = .rows 6 1 true 57 [mC sv (.slice 2 0 1 (nk + 1)) (.slice 3 0 1 (ng + 1)) va cf an] ∧ (∃ A, x2 = some A ∧ IsA A kf (nk + 1)) ∧ (∃ A, x3 = some A ∧ IsA A gf (ng + 1))) v (obsB true (hget hp 0)) (obsB true (hget hp 1)) (hget hp 2) (hget hp 3) (hget hp 5) := by
  have hn := R.rnk
  have hn3 := cK_le hd
  have hg := R.rng
  have hg3 := cG_le hd
  refine CodeOK.body Try.func28 (by kernel_rfl) (CodeOK.eval (C := C11) ec gs11 mixed 64 ?_)
  show evalC C11 64 4 (bodF Try.f28) (enterS 52 _) _ (endK Try.prog Try.f28.results.toList fun v hp => (fun v o0 o1 x2 x3 x4 => v = .tuple [.int .i64 (needsV hd s), .int .i64 (needsV hd s)] ∧ o0 = .rows 7 1 true 54 [hC (ansH hd s)] ∧ o1 = .rows 6 1 true 57 [mC sv (.slice 2 0 1 (nk + 1)) (.slice 3 0 1 (ng + 1)) va cf an] ∧ (∃ A, x2 = some A ∧ IsA A kf (nk + 1)) ∧ (∃ A, x3 = some A ∧ IsA A gf (ng + 1))) v (obsB true (hget hp 0)) (obsB true (hget hp 1)) (hget hp 2) (hget hp 3) (hget hp 5))
  rw [t28s hd sv va cf an kf nk gf ng x s (fun v o0 o1 x2 x3 x4 => v = .tuple [.int .i64 (needsV hd s), .int .i64 (needsV hd s)] ∧ o0 = .rows 7 1 true 54 [hC (ansH hd s)] ∧ o1 = .rows 6 1 true 57 [mC sv (.slice 2 0 1 (nk + 1)) (.slice 3 0 1 (ng + 1)) va cf an] ∧ (∃ A, x2 = some A ∧ IsA A kf (nk + 1)) ∧ (∃ A, x3 = some A ∧ IsA A gf (ng + 1)))]
  refine condF' q0 (condF' q1 (condF' q2 (condF' q3 (condF' q4 (fun h' e e1 e2 => ?_)))))
  subst e1 e2
  exact ⟨isI_bFw kf (by omega), isI_bFw gf (by omega), condT' q ⟨tupE (needs_out R.wf q), rfl, rfl, ⟨_, rfl, isA_b1 rfl rfl rfl rfl fun r => rfl⟩, ⟨_, rfl, isA_b1 rfl rfl rfl rfl fun r => rfl⟩⟩⟩
theorem c28sEy {hd : Hd} {sv va cf an : Bool} {kf : Nat → Int} {nk : Nat} {gf : Nat → Int} {ng : Nat} {x s : Int} (R : Rel hd sv (nk + 1) kf gf (ng + 1) va cf an) (q0 : (x % 7 == 0) = false) (q1 : (x % 7 == 1) = false) (q2 : (x % 7 == 2) = false) (q3 : (x % 7 == 3) = false) (q4 : (x % 7 == 4) = false) (q : (!inS s) = false) (p : livM kf gf (nk + 1) (ng + 1) s = true) : Canon Try.prog 28 [.ptr 0 0 7 0, .ptr 1 0 6 0, .agg [.int .i64 x, .int .i64 s]] [some (oneB (hC hd) true 54), some (mB sv (.slice 2 0 1 (nk + 1)) (.slice 3 0 1 (ng + 1)) va cf an), some (bFw kf (nk + 1)), some (bFw gf (ng + 1))] fun v hp => (fun v o0 o1 x2 x3 x4 => v = .tuple [.int .i64 (needsV hd s), .int .i64 (needsV hd s)] ∧ o0 = .rows 7 1 true 54 [hC (ansH hd s)] ∧ o1 = .rows 6 1 true 57 [mC sv (.slice 2 0 1 (nk + 1)) (.slice 3 0 1 (ng + 1)) va cf (an || s != 0)] ∧ (∃ A, x2 = some A ∧ IsA A kf (nk + 1)) ∧ (∃ A, x3 = some A ∧ IsA A gf (ng + 1))) v (obsB true (hget hp 0)) (obsB true (hget hp 1)) (hget hp 2) (hget hp 3) (hget hp 5) := by
  have hn := R.rnk
  have hn3 := cK_le hd
  have hg := R.rng
  have hg3 := cG_le hd
  refine CodeOK.body Try.func28 (by kernel_rfl) (CodeOK.eval (C := C11) ec gs11 mixed 64 ?_)
  show evalC C11 64 4 (bodF Try.f28) (enterS 52 _) _ (endK Try.prog Try.f28.results.toList fun v hp => (fun v o0 o1 x2 x3 x4 => v = .tuple [.int .i64 (needsV hd s), .int .i64 (needsV hd s)] ∧ o0 = .rows 7 1 true 54 [hC (ansH hd s)] ∧ o1 = .rows 6 1 true 57 [mC sv (.slice 2 0 1 (nk + 1)) (.slice 3 0 1 (ng + 1)) va cf (an || s != 0)] ∧ (∃ A, x2 = some A ∧ IsA A kf (nk + 1)) ∧ (∃ A, x3 = some A ∧ IsA A gf (ng + 1))) v (obsB true (hget hp 0)) (obsB true (hget hp 1)) (hget hp 2) (hget hp 3) (hget hp 5))
  rw [t28s hd sv va cf an kf nk gf ng x s (fun v o0 o1 x2 x3 x4 => v = .tuple [.int .i64 (needsV hd s), .int .i64 (needsV hd s)] ∧ o0 = .rows 7 1 true 54 [hC (ansH hd s)] ∧ o1 = .rows 6 1 true 57 [mC sv (.slice 2 0 1 (nk + 1)) (.slice 3 0 1 (ng + 1)) va cf (an || s != 0)] ∧ (∃ A, x2 = some A ∧ IsA A kf (nk + 1)) ∧ (∃ A, x3 = some A ∧ IsA A gf (ng + 1)))]
  refine condF' q0 (condF' q1 (condF' q2 (condF' q3 (condF' q4 (fun h' e e1 e2 => ?_)))))
  subst e1 e2
  exact ⟨isI_bFw kf (by omega), isI_bFw gf (by omega), condF' q (condT' p ⟨tupE (R.ansE_yes q p), rfl, rfl, ⟨_, rfl, isA_b1 rfl rfl rfl rfl fun r => rfl⟩, ⟨_, rfl, isA_b1 rfl rfl rfl rfl fun r => rfl⟩⟩)⟩
theorem c28sEn {hd : Hd} {sv va cf an : Bool} {kf : Nat → Int} {nk : Nat} {gf : Nat → Int} {ng : Nat} {x s : Int} (R : Rel hd sv (nk + 1) kf gf (ng + 1) va cf an) (q0 : (x % 7 == 0) = false) (q1 : (x % 7 == 1) = false) (q2 : (x % 7 == 2) = false) (q3 : (x % 7 == 3) = false) (q4 : (x % 7 == 4) = false) (q : (!inS s) = false) (p : livM kf gf (nk + 1) (ng + 1) s = false) : Canon Try.prog 28 [.ptr 0 0 7 0, .ptr 1 0 6 0, .agg [.int .i64 x, .int .i64 s]] [some (oneB (hC hd) true 54), some (mB sv (.slice 2 0 1 (nk + 1)) (.slice 3 0 1 (ng + 1)) va cf an), some (bFw kf (nk + 1)), some (bFw gf (ng + 1))] fun v hp => (fun v o0 o1 x2 x3 x4 => v = .tuple [.int .i64 (needsV hd s), .int .i64 (needsV hd s)] ∧ o0 = .rows 7 1 true 54 [hC (ansH hd s)] ∧ o1 = .rows 6 1 true 57 [mC sv (.slice 2 0 1 (nk + 1)) (.slice 3 0 1 (ng + 1)) va cf an] ∧ (∃ A, x2 = some A ∧ IsA A kf (nk + 1)) ∧ (∃ A, x3 = some A ∧ IsA A gf (ng + 1))) v (obsB true (hget hp 0)) (obsB true (hget hp 1)) (hget hp 2) (hget hp 3) (hget hp 5) := by
  have hn := R.rnk
  have hn3 := cK_le hd
  have hg := R.rng
  have hg3 := cG_le hd
  refine CodeOK.body Try.func28 (by kernel_rfl) (CodeOK.eval (C := C11) ec gs11 mixed 64 ?_)
  show evalC C11 64 4 (bodF Try.f28) (enterS 52 _) _ (endK Try.prog Try.f28.results.toList fun v hp => (fun v o0 o1 x2 x3 x4 => v = .tuple [.int .i64 (needsV hd s), .int .i64 (needsV hd s)] ∧ o0 = .rows 7 1 true 54 [hC (ansH hd s)] ∧ o1 = .rows 6 1 true 57 [mC sv (.slice 2 0 1 (nk + 1)) (.slice 3 0 1 (ng + 1)) va cf an] ∧ (∃ A, x2 = some A ∧ IsA A kf (nk + 1)) ∧ (∃ A, x3 = some A ∧ IsA A gf (ng + 1))) v (obsB true (hget hp 0)) (obsB true (hget hp 1)) (hget hp 2) (hget hp 3) (hget hp 5))
  rw [t28s hd sv va cf an kf nk gf ng x s (fun v o0 o1 x2 x3 x4 => v = .tuple [.int .i64 (needsV hd s), .int .i64 (needsV hd s)] ∧ o0 = .rows 7 1 true 54 [hC (ansH hd s)] ∧ o1 = .rows 6 1 true 57 [mC sv (.slice 2 0 1 (nk + 1)) (.slice 3 0 1 (ng + 1)) va cf an] ∧ (∃ A, x2 = some A ∧ IsA A kf (nk + 1)) ∧ (∃ A, x3 = some A ∧ IsA A gf (ng + 1)))]
  refine condF' q0 (condF' q1 (condF' q2 (condF' q3 (condF' q4 (fun h' e e1 e2 => ?_)))))
  subst e1 e2
  exact ⟨isI_bFw kf (by omega), isI_bFw gf (by omega), condF' q (condF' p ⟨tupE (R.ansE_no q p), rfl, rfl, ⟨_, rfl, isA_b1 rfl rfl rfl rfl fun r => rfl⟩, ⟨_, rfl, isA_b1 rfl rfl rfl rfl fun r => rfl⟩⟩)⟩
end
end Go.Proofs.Ytllkhfabfcpieaa
