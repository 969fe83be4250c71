/-
  Chapter 9 by the engine: what is ruled: the contracts are kept.
-/
import Derived.Test.YtcjfmkkfcbelpaaT2
import Derived.Test.YtcjfmkkfcbelpaaEng2
namespace Go.Proofs.Ytcjfmkkfcbelpaa
open Go.RowKit
theorem cell1_ok {h : Heap} {id : Nat} {K : Int → Prop} (hk : cell1 h id K) : ∃ (b : Blk) (x : Int), h id = some b ∧ b.sz = 1 ∧ b.n = 1 ∧ b.rd 0 = [.int .i64 x] ∧ K x := by
  unfold cell1 at hk
  split at hk
  · rename_i b hb
    split at hk
    · rename_i x e1 e2 e3
      exact ⟨b, x, hb, e1, e2, e3, hk⟩
    · cases hk
  · cases hk
theorem due1_ok {h : Heap} {id : Nat} {K : Int → Prop} (hk : due1 h id K) : ∃ (b bw : Blk) (w : Nat) (x : Int), h id = some b ∧ b.sz = 1 ∧ b.n = 1 ∧ b.rd 0 = [.func (.func 37) [] [.ptr w 0 1 0]] ∧ h w = some bw ∧ bw.sz = 1 ∧ bw.n = 1 ∧ bw.rd 0 = [.int .i64 x] ∧ K x := by
  unfold due1 at hk
  split at hk
  · rename_i b hb
    split at hk
    · rename_i w e1 e2 e3
      obtain ⟨bw, x, q1, q2, q3, q4, hk⟩ := cell1_ok hk
      exact ⟨b, bw, w, x, hb, e1, e2, e3, q1, q2, q3, q4, hk⟩
    · cases hk
  · cases hk
theorem wbI {b : Blk} {x : Int} {ρ : Ren} (h1 : b.sz = 1) (h2 : b.n = 1) (h3 : b.rd 0 = [.int .i64 x]) : WB ρ (bI [x]) b := WB.of_rows h1.symm (by rw [h2]; exact Nat.le_refl _) (fun q => nomatch (show (false : Bool) = true from q)) (fun q => nomatch (show (false : Bool) = true from q)) fun r hr => by
  obtain rfl : r = 0 := by have : r < 1 := hr; omega
  exact ⟨h3.symm, rfl⟩
theorem wbDue {b : Blk} {i w : Nat} {ρ : Ren} (h1 : b.sz = 1) (h2 : b.n = 1) (h3 : b.rd 0 = [.func (.func 37) [] [.ptr w 0 1 0]]) (hρ : ρ i = some w) : WB ρ (dueB i) b := ⟨h1.symm, by rw [h2]; exact Nat.le_refl _, (fun q => nomatch (show (false : Bool) = true from q)), (fun q => nomatch (show (false : Bool) = true from q)), fun r hr => by
  obtain rfl : r = 0 := by have : r < 1 := hr; omega
  rw [h3]
  refine ⟨.inr ?_, trivial⟩
  show (match renL ρ [], renL ρ [.ptr i 0 1 0] with | some x, some y => some (SV.func (.func 37) x y) | _, _ => none) = _
  simp only [renL, ren, hρ]⟩
theorem wbC {b : Blk} {x : Int} {ρ : Ren} (h1 : b.sz = 1) (h2 : b.n = 1) (h3 : b.rw = true) (h4 : b.ty = 3) (h5 : b.rd 0 = [.int .i64 x]) : WB ρ (cB x) b := WB.of_rows h1.symm (by rw [h2]; exact Nat.le_refl _) (fun _ => h3) (fun _ => h4.symm) fun r hr => by
  obtain rfl : r = 0 := by have : r < 1 := hr; omega
  exact ⟨h5.symm, rfl⟩
theorem ok37 : SpecOK Try.prog 37 s37 := by
  intro args h base k hk
  unfold s37 at hk
  split at hk
  · rename_i n a z b c d id
    obtain ⟨bw, x, q1, q2, q3, q4, hk⟩ := cell1_ok hk
    refine ⟨_, [], [], hk, CSim.reads (cal Try.func37 (by kernel_rfl) (by kernel_rfl)) [pk n a z b c d, .ptr 0 0 1 0] [some (bI [x])] [id] rfl (evalF_ok (C := C0) ec g0 mixed (u := 64) Try.func37 (by kernel_rfl) ?_) rfl (fun i b1 e => ?_) rfl base⟩
    · rw [t37 n a z b c d x (fun v => v = _)]
      rfl
    · match i, e with
      | 0, e =>
        obtain rfl := Option.some.inj (show some (bI [x]) = some b1 from e)
        exact ⟨rfl, id, bw, rfl, q1, wbI q2 q3 q4⟩
      | i + 1, e => exact nomatch (show (none : Option Blk) = some b1 from e)
  · cases hk
theorem ok38 : SpecOK Try.prog 38 s38 := by
  intro args h base k hk
  unfold s38 at hk
  split at hk
  · rename_i n a z b c d id
    obtain ⟨bw, x, q1, q2, q3, q4, hk⟩ := cell1_ok hk
    refine ⟨_, [], [], hk, CSim.reads (cal Try.func38 (by kernel_rfl) (by kernel_rfl)) [pk n a z b c d, .ptr 0 0 1 0] [some (bI [x])] [id] rfl (evalF_ok (C := C0) ec g0 mixed (u := 64) Try.func38 (by kernel_rfl) ?_) rfl (fun i b1 e => ?_) rfl base⟩
    · rw [t38 n a z b c d x (fun v => v = _)]
      rfl
    · match i, e with
      | 0, e =>
        obtain rfl := Option.some.inj (show some (bI [x]) = some b1 from e)
        exact ⟨rfl, id, bw, rfl, q1, wbI q2 q3 q4⟩
      | i + 1, e => exact nomatch (show (none : Option Blk) = some b1 from e)
  · cases hk
section
attribute [local irreducible] evalC
set_option maxRecDepth 100000
theorem ok30 : SpecOK Try.prog 30 s30 := by
  intro args h base k hk
  unfold s30 at hk
  split at hk
  · rename_i n a z b c d id
    split at hk
    · rename_i bl hb
      split at hk
      · rename_i x e1 e2 e3 e4 e5
        refine ⟨_, _, [], hk, CSim.zip (outs := [some (cB n)]) (cal (f := 30) Try.func30 (by kernel_rfl) (by kernel_rfl)) [pk n a z b c d, .ptr 0 0 1 0] [some (cB x)] [id] rfl inj1 (K := fun v hp => (fun v o => v = .bool (badV x n a z) ∧ o = .rows 1 1 true 3 [[.int .i64 n]]) v (obsB true (hget hp 0))) ?_ rfl (fun i b1 e => ?_) (fun i b1 e _ => ?_) (fun i hi => ?_) fun v' hp2 hk => ?_⟩
        · refine CodeOK.body Try.func30 (by kernel_rfl) (CodeOK.eval (C := C4) ec gs4 mixed 64 ?_)
          show evalC C4 64 1 (bodF Try.f30) (enterS 33 _) _ (endK Try.prog Try.f30.results.toList fun v hp => (fun v o => v = .bool (badV x n a z) ∧ o = .rows 1 1 true 3 [[.int .i64 n]]) v (obsB true (hget hp 0)))
          rw [t30 n a z b c d x (fun v o => v = .bool (badV x n a z) ∧ o = .rows 1 1 true 3 [[.int .i64 n]])]
          unfold badV
          cases decide (n ≤ x)
          · cases decide (9007199254740991 < n)
            · cases isT a
              · exact ⟨rfl, rfl⟩
              · cases decide (z < 1)
                · exact ⟨rfl, rfl⟩
                · exact ⟨rfl, rfl⟩
            · exact ⟨rfl, rfl⟩
          · exact ⟨rfl, rfl⟩
        · match i, e with
          | 0, e =>
            obtain rfl := Option.some.inj (show some (cB x) = some b1 from e)
            exact ⟨id, bl, rfl, hb, wbC e1 e2 e3 e4 e5⟩
          | i + 1, e => exact nomatch (show (none : Option Blk) = some b1 from e)
        · match i, e with
          | 0, _ => exact ⟨id, rfl, by simp⟩
          | i + 1, e => exact nomatch (show (none : Option Blk) = some b1 from e)
        · match i, hi with
          | 0, _ => exact ⟨_, rfl, rfl⟩
        · obtain ⟨rfl, ho⟩ := hk
          obtain ⟨b2, q1, q2, q3, q4, q5, q6⟩ := obsB_rows ho
          refine ⟨[], rfl, by simp, fun i j x q => by simp at q, rfl, fun j b q => by simp at q, fun i b q => ?_⟩
          match i, q with
          | 0, q =>
            obtain rfl := Option.some.inj (Option.some.inj (show some (some (cB n)) = some (some b) from q))
            exact ⟨rfl, b2, q1, wbC q2 q3 q4 q5 q6⟩
          | i + 1, q => simp at q
      · cases hk
    · cases hk
  · cases hk
theorem gs5 : GSound C5 := ((gs4.add ok37).add ok38).add ok30
theorem ok40 : SpecOK Try.prog 40 s40 := by
  intro args h base k hk
  unfold s40 at hk
  split at hk
  · rename_i n a z b c d id
    obtain ⟨bd, bw, w, x, p1, p2, p3, p4, q1, q2, q3, q4, hk⟩ := due1_ok hk
    refine ⟨_, [], [], hk, CSim.reads (cal Try.func40 (by kernel_rfl) (by kernel_rfl)) [pk n a z b c d, .ptr 0 0 1 0] [some (dueB 1), some (bI [x])] [id, w] rfl (evalF_ok (C := C5) ec gs5 mixed (u := 64) Try.func40 (by kernel_rfl) ?_) rfl (fun i b1 e => ?_) rfl base⟩
    · rw [t40 n a z b c d x (fun v => v = _)]
      rfl
    · match i, e with
      | 0, e =>
        obtain rfl := Option.some.inj (show some (dueB 1) = some b1 from e)
        exact ⟨rfl, id, bd, rfl, p1, wbDue p2 p3 p4 rfl⟩
      | 1, e =>
        obtain rfl := Option.some.inj (show some (bI [x]) = some b1 from e)
        exact ⟨rfl, w, bw, rfl, q1, wbI q2 q3 q4⟩
      | i + 2, e => exact nomatch (show (none : Option Blk) = some b1 from e)
  · cases hk
theorem ok39 : SpecOK Try.prog 39 s39 := by
  intro args h base k hk
  unfold s39 at hk
  split at hk
  · rename_i n a z b c d ig id it
    obtain ⟨bg, g, g1, g2, g3, g4, hk⟩ := cell1_ok hk
    obtain ⟨bd, bw, w, x, p1, p2, p3, p4, q1, q2, q3, q4, hk⟩ := due1_ok hk
    obtain ⟨bt, t, r1, r2, r3, r4, hk⟩ := cell1_ok hk
    refine ⟨_, [], [], hk, CSim.reads (cal Try.func39 (by kernel_rfl) (by kernel_rfl)) [pk n a z b c d, .ptr 0 0 1 0, .ptr 1 0 1 0, .ptr 2 0 1 0] [some (bI [g]), some (dueB 3), some (bI [t]), some (bI [x])] [ig, id, it, w] rfl (evalF_ok (C := C5) ec gs5 mixed (u := 64) Try.func39 (by kernel_rfl) ?_) rfl (fun i b1 e => ?_) rfl base⟩
    · rw [t39 n a z b c d g t x (fun v => v = _)]
      unfold far
      refine condSplit (fun q => ?_) fun q => ?_
      · rw [show decide (3 ≤ IntKind.i64.wrap (g - n)) = true from q]; rfl
      · rw [show decide (3 ≤ IntKind.i64.wrap (g - n)) = false from q]; rfl
    · match i, e with
      | 0, e =>
        obtain rfl := Option.some.inj (show some (bI [g]) = some b1 from e)
        exact ⟨rfl, ig, bg, rfl, g1, wbI g2 g3 g4⟩
      | 1, e =>
        obtain rfl := Option.some.inj (show some (dueB 3) = some b1 from e)
        exact ⟨rfl, id, bd, rfl, p1, wbDue p2 p3 p4 rfl⟩
      | 2, e =>
        obtain rfl := Option.some.inj (show some (bI [t]) = some b1 from e)
        exact ⟨rfl, it, bt, rfl, r1, wbI r2 r3 r4⟩
      | 3, e =>
        obtain rfl := Option.some.inj (show some (bI [x]) = some b1 from e)
        exact ⟨rfl, w, bw, rfl, q1, wbI q2 q3 q4⟩
      | i + 4, e => exact nomatch (show (none : Option Blk) = some b1 from e)
  · cases hk
theorem obsB_one {ob : Option Blk} {sz ty : Nat} {cells : List SV} (h : obsB true ob = .rows sz 1 true ty [cells]) : ∃ b, ob = some b ∧ b.sz = sz ∧ b.n = 1 ∧ b.rw = true ∧ b.ty = ty ∧ b.rd 0 = cells := obsB_rows h
theorem ok27 : SpecOK Try.prog 27 s27 := by
  intro args h base k hk
  unfold s27 at hk
  split at hk
  · rename_i g n w
    refine ⟨_, [], _, hk, CSim.zip (outs := []) (cal (f := 27) Try.func27 (by kernel_rfl) (by kernel_rfl)) [.int .i64 g, .int .i64 n, .int .i64 w] [] [] rfl (fun i j x q => by simp at q) (K := fun v hp => (fun v o0 o1 o2 o4 => v = .agg [.func (.func 38) [] [.ptr 0 0 1 0], .func (.func 39) [] [.ptr 0 0 1 0, .ptr 4 0 1 0, .ptr 1 0 1 0], .func (.func 40) [] [.ptr 4 0 1 0]] ∧ o0 = .rows 1 1 true 3 [[.int .i64 g]] ∧ o1 = .rows 1 1 true 3 [[.int .i64 n]] ∧ o2 = .rows 1 1 true 3 [[.int .i64 w]] ∧ o4 = .rows 1 1 true 54 [[.func (.func 37) [] [.ptr 2 0 1 0]]]) v (obsB true (hget hp 0)) (obsB true (hget hp 1)) (obsB true (hget hp 2)) (obsB true (hget hp 4))) ?_ rfl (fun i b1 e => by rw [nob] at e; cases e) (fun i b1 e => by rw [nob] at e; cases e) (fun i hi => nomatch (show i < 0 from hi)) fun v' hp2 hk => ?_⟩
    · refine CodeOK.body Try.func27 (by kernel_rfl) (CodeOK.eval (C := C0) ec g0 mixed 64 ?_)
      show evalC C0 64 0 (bodF Try.f27) (enterS 13 _) _ (endK Try.prog Try.f27.results.toList fun v hp => (fun v o0 o1 o2 o4 => v = .agg [.func (.func 38) [] [.ptr 0 0 1 0], .func (.func 39) [] [.ptr 0 0 1 0, .ptr 4 0 1 0, .ptr 1 0 1 0], .func (.func 40) [] [.ptr 4 0 1 0]] ∧ o0 = .rows 1 1 true 3 [[.int .i64 g]] ∧ o1 = .rows 1 1 true 3 [[.int .i64 n]] ∧ o2 = .rows 1 1 true 3 [[.int .i64 w]] ∧ o4 = .rows 1 1 true 54 [[.func (.func 37) [] [.ptr 2 0 1 0]]]) v (obsB true (hget hp 0)) (obsB true (hget hp 1)) (obsB true (hget hp 2)) (obsB true (hget hp 4)))
      rw [t27 g n w (fun v o0 o1 o2 o4 => v = .agg [.func (.func 38) [] [.ptr 0 0 1 0], .func (.func 39) [] [.ptr 0 0 1 0, .ptr 4 0 1 0, .ptr 1 0 1 0], .func (.func 40) [] [.ptr 4 0 1 0]] ∧ o0 = .rows 1 1 true 3 [[.int .i64 g]] ∧ o1 = .rows 1 1 true 3 [[.int .i64 n]] ∧ o2 = .rows 1 1 true 3 [[.int .i64 w]] ∧ o4 = .rows 1 1 true 54 [[.func (.func 37) [] [.ptr 2 0 1 0]]])]
      exact ⟨rfl, rfl, rfl, rfl, rfl⟩
    · obtain ⟨rfl, o0, o1, o2, o4⟩ := hk
      obtain ⟨c0, a1, a2, a3, a4, a5, a6⟩ := obsB_one o0
      obtain ⟨c1, b1, b2, b3, b4, b5, b6⟩ := obsB_one o1
      obtain ⟨c2, d1, d2, d3, d4, d5, d6⟩ := obsB_one o2
      obtain ⟨c4, f1, f2, f3, f4, f5, f6⟩ := obsB_one o4
      have e0 : back [] [0, 1, 2, 4] base base = some 0 := back_at (ψ := []) (τ := [0, 1, 2, 4]) (base := base) (j := 0) (by simp)
      have e1 : back [] [0, 1, 2, 4] base (base + 1) = some 1 := back_at (ψ := []) (τ := [0, 1, 2, 4]) (base := base) (j := 1) (by simp)
      have e2 : back [] [0, 1, 2, 4] base (base + 2) = some 2 := back_at (ψ := []) (τ := [0, 1, 2, 4]) (base := base) (j := 2) (by simp)
      have e3 : back [] [0, 1, 2, 4] base (base + 3) = some 4 := back_at (ψ := []) (τ := [0, 1, 2, 4]) (base := base) (j := 3) (by simp)
      refine ⟨[0, 1, 2, 4], rfl, fun t _ => Nat.zero_le _, ?_, ?_, fun j c q => ?_, fun i b q => by simp at q⟩
      · intro i j x q1 q2
        match i, j with
        | 0, 0 => rfl
        | 1, 1 => rfl
        | 2, 2 => rfl
        | 3, 3 => rfl
        | 0, 1 => simp at q1 q2; omega
        | 0, 2 => simp at q1 q2; omega
        | 0, 3 => simp at q1 q2; omega
        | 1, 0 => simp at q1 q2; omega
        | 1, 2 => simp at q1 q2; omega
        | 1, 3 => simp at q1 q2; omega
        | 2, 0 => simp at q1 q2; omega
        | 2, 1 => simp at q1 q2; omega
        | 2, 3 => simp at q1 q2; omega
        | 3, 0 => simp at q1 q2; omega
        | 3, 1 => simp at q1 q2; omega
        | 3, 2 => simp at q1 q2; omega
        | i + 4, _ => simp at q1
        | 0, j + 4 => simp at q2
        | 1, j + 4 => simp at q2
        | 2, j + 4 => simp at q2
        | 3, j + 4 => simp at q2
      · simp only [ren, renL, e0, e1, e3]
      · match j, q with
        | 0, q =>
          obtain rfl := Option.some.inj (show some (cB g) = some c from q)
          exact ⟨rfl, 0, c0, rfl, a1, wbC a2 a3 a4 a5 a6⟩
        | 1, q =>
          obtain rfl := Option.some.inj (show some (cB n) = some c from q)
          exact ⟨rfl, 1, c1, rfl, b1, wbC b2 b3 b4 b5 b6⟩
        | 2, q =>
          obtain rfl := Option.some.inj (show some (cB w) = some c from q)
          exact ⟨rfl, 2, c2, rfl, d1, wbC d2 d3 d4 d5 d6⟩
        | 3, q =>
          obtain rfl := Option.some.inj (show some (dueW (base + 2)) = some c from q)
          refine ⟨rfl, 4, c4, rfl, f1, ⟨f2.symm, by rw [f3]; exact Nat.le_refl _, (fun _ => f4), (fun _ => f5.symm), fun r hr => ?_⟩⟩
          obtain rfl : r = 0 := by have : r < 1 := hr; omega
          rw [f6]
          refine ⟨.inr ?_, trivial⟩
          show ren (back [] [0, 1, 2, 4] base) (.func (.func 37) [] [.ptr (base + 2) 0 1 0]) = _
          simp only [ren, renL, e2]
        | j + 4, q => simp at q
  · cases hk
theorem gs6 : GSound C6 := ((gs5.add ok39).add ok40).add ok27
end
end Go.Proofs.Ytcjfmkkfcbelpaa
