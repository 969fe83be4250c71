/-
  Chapter 9 by the engine: checks of lists, sameness: the contracts are kept.
-/
import Derived.Test.YtcjfmkkfcbelpaaT3
namespace Go.Proofs.Ytcjfmkkfcbelpaa
open Go.RowKit
set_option linter.unusedVariables false
theorem i64n (i : Nat) (h : i < 100000000) : IntKind.i64.wrap ((i : Int) + 1) = ((i + 1 : Nat) : Int) := by rw [wrap_id (by omega) (by omega)]; rfl
theorem rowP_pkC (p : Pk) : rowP (pkC p) = p := rfl
theorem isP_bP (P : Nat → Pk) {n : Nat} (h : n ≤ 100000) : IsP (bP n P) n := ⟨rfl, Nat.le_refl _, h, fun r _ => ⟨P r, rfl⟩⟩
theorem IsP.wb {b : Blk} {n : Nat} (h : IsP b n) (ρ : Ren) : WB ρ (bP n (fun r => rowP (b.rd r))) b :=
  WB.of_rows h.sz.symm h.le (fun q => nomatch (show (false : Bool) = true from q)) (fun q => nomatch (show (false : Bool) = true from q)) fun r hr => by
    obtain ⟨p, e⟩ := h.rd r hr
    refine ⟨?_, rfl⟩
    show pkC (rowP (b.rd r)) = b.rd r
    rw [e, rowP_pkC]
/-- A list, as the heap has it. -/
def Lp (h : Heap) (v : SV) (P : Nat → Pk) (n : Nat) : Prop := ((v = .nilSlice ∨ v = .eslice) ∧ P = (fun _ => pk0) ∧ n = 0) ∨ ∃ id b, v = .slice id 0 6 n ∧ h id = some b ∧ IsP b n ∧ P = fun r => rowP (b.rd r)
theorem lp_ok {h : Heap} {v : SV} {K : (Nat → Pk) → Nat → Prop} (hk : lp h v K) : ∃ P n, Lp h v P n ∧ K P n := by
  unfold lp at hk
  split at hk
  · exact ⟨_, _, .inl ⟨.inl rfl, rfl, rfl⟩, hk⟩
  · exact ⟨_, _, .inl ⟨.inr rfl, rfl, rfl⟩, hk⟩
  · split at hk
    · rename_i id n x b hb
      exact ⟨_, _, .inr ⟨_, _, rfl, hb, hk.1, rfl⟩, hk.2⟩
    · cases hk
  · cases hk
theorem cellW_ok {h : Heap} {id : Nat} {K : Int → Prop} (hk : cellW h id K) : ∃ (b : Blk) (x : Int), h id = some b ∧ b.sz = 1 ∧ b.n = 1 ∧ b.rw = true ∧ b.ty = 3 ∧ b.rd 0 = [.int .i64 x] ∧ K x := by
  unfold cellW at hk
  split at hk
  · rename_i b hb
    split at hk
    · rename_i x e1 e2 e3 e4 e5
      exact ⟨b, x, hb, e1, e2, e3, e4, e5, hk⟩
    · cases hk
  · cases hk
theorem sz_ne {h : Heap} {i j : Nat} {b c : Blk} {m n : Nat} (h1 : h i = some b) (h2 : h j = some c) (h3 : b.sz = m) (h4 : c.sz = n) (hne : m ≠ n) : i ≠ j := by
  rintro rfl
  rw [h1] at h2
  obtain rfl := Option.some.inj h2
  exact hne (h3.symm.trans h4)
/-- A search that writes the number it looked at last: over none. -/
theorem zip1 {f : FuncId} {v1 : SV} {h : Heap} {base l : Nat} {b : Blk} {x y : Int} {V : SV} (hcall : ∀ vs w, (callFunc f vs).run Try.prog w = .ok (.enter f vs) w) (hb : h l = some b) (e1 : b.sz = 1) (e2 : b.n = 1) (e3 : b.rw = true) (e4 : b.ty = 3) (e5 : b.rd 0 = [.int .i64 x]) (hi : svIds v1 = []) (hV : svIds V = [])
    (hcan : Canon Try.prog f [v1, fn30] [some (cB x)] fun v hp => v = V ∧ obsB true (hget hp 0) = .rows 1 1 true 3 [[.int .i64 y]]) : CSim Try.prog f [v1, .func (.func 30) [] [.ptr l 0 1 0]] h base V [(l, some (cB y))] [] := by
  refine CSim.zip (outs := [some (cB y)]) hcall _ _ [l] rfl inj1 hcan ?_ (fun i b1 e => ?_) (fun i b1 e _ => ?_) (fun i hi => ?_) fun v' hp2 hk => ?_
  · simp only [renL, ren_id_of hi, fn30, ren]
    rfl
  · match i, e with
    | 0, e =>
      obtain rfl := Option.some.inj (show some (cB x) = some b1 from e)
      exact ⟨l, b, rfl, hb, wbC e1 e2 e3 e4 e5⟩
    | i + 1, e => exact nomatch (show (none : Option Blk) = some b1 from e)
  · match i, e with
    | 0, _ => exact ⟨l, rfl, by simp⟩
    | i + 1, e => exact nomatch (show (none : Option Blk) = some b1 from e)
  · match i, hi with
    | 0, _ => exact ⟨_, rfl, rfl⟩
  · obtain ⟨rfl, ho⟩ := hk
    obtain ⟨b2, q1, q2, q3, q4, q5, q6⟩ := obsB_rows ho
    refine ⟨[], rfl, by simp, fun i j x q => by simp at q, ren_id_of hV _, fun j b q => by simp at q, fun i b q => ?_⟩
    match i, q with
    | 0, q =>
      obtain rfl := Option.some.inj (Option.some.inj (show some (some (cB y)) = some (some b) from q))
      exact ⟨rfl, b2, q1, wbC q2 q3 q4 q5 q6⟩
    | i + 1, q => simp at q
/-- The same, over a list. -/
theorem zip2 {f : FuncId} {h : Heap} {base l id n : Nat} {b bl : Blk} {x y : Int} {V : SV} (hcall : ∀ vs w, (callFunc f vs).run Try.prog w = .ok (.enter f vs) w) (hb : h l = some b) (e1 : b.sz = 1) (e2 : b.n = 1) (e3 : b.rw = true) (e4 : b.ty = 3) (e5 : b.rd 0 = [.int .i64 x]) (hl : h id = some bl) (hp : IsP bl n) (hV : svIds V = [])
    (hcan : Canon Try.prog f [.slice 1 0 6 n, fn30] [some (cB x), some (bP n fun r => rowP (bl.rd r))] fun v hp => v = V ∧ obsB true (hget hp 0) = .rows 1 1 true 3 [[.int .i64 y]]) : CSim Try.prog f [.slice id 0 6 n, .func (.func 30) [] [.ptr l 0 1 0]] h base V [(l, some (cB y))] [] := by
  refine CSim.zip (outs := [some (cB y)]) hcall _ _ [l, id] rfl (inj2 (sz_ne hb hl e1 hp.sz (by decide))) hcan rfl (fun i b1 e => ?_) (fun i b1 e hrw => ?_) (fun i hi => ?_) fun v' hp2 hk => ?_
  · match i, e with
    | 0, e =>
      obtain rfl := Option.some.inj (show some (cB x) = some b1 from e)
      exact ⟨l, b, rfl, hb, wbC e1 e2 e3 e4 e5⟩
    | 1, e =>
      obtain rfl := Option.some.inj (show some (bP n fun r => rowP (bl.rd r)) = some b1 from e)
      exact ⟨id, bl, rfl, hl, hp.wb _⟩
    | i + 2, e => exact nomatch (show (none : Option Blk) = some b1 from e)
  · match i, e with
    | 0, _ => exact ⟨l, rfl, by simp⟩
    | 1, e =>
      obtain rfl := Option.some.inj (show some (bP n fun r => rowP (bl.rd r)) = some b1 from e)
      exact nomatch (show (false : Bool) = true from hrw)
    | i + 2, e => exact nomatch (show (none : Option Blk) = some b1 from e)
  · match i, hi with
    | 0, _ => exact ⟨_, rfl, rfl⟩
  · obtain ⟨rfl, ho⟩ := hk
    obtain ⟨b2, q1, q2, q3, q4, q5, q6⟩ := obsB_rows ho
    refine ⟨[], rfl, by simp, fun i j x q => by simp at q, ren_id_of hV _, fun j b q => by simp at q, fun i b q => ?_⟩
    match i, q with
    | 0, q =>
      obtain rfl := Option.some.inj (Option.some.inj (show some (some (cB y)) = some (some b) from q))
      exact ⟨rfl, b2, q1, wbC q2 q3 q4 q5 q6⟩
    | i + 1, q => simp at q
section
attribute [local irreducible] evalC
set_option maxRecDepth 100000
theorem canon42 (x : Int) (n : Nat) (P : Nat → Pk) (hn : n ≤ 100000) : Canon Try.prog 42 [.slice 1 0 6 n, fn30] [some (cB x), some (bP n P)] fun v hp => (fun v o => v = .int .i64 (idxV x P n) ∧ o = .rows 1 1 true 3 [[.int .i64 (lastV x P n)]]) v (obsB true (hget hp 0)) := by
  refine CodeOK.body Try.func42 (by kernel_rfl) ?_
  rw [code42]
  have ids : ∀ y : Int, allIds 2 (h42 y n P) := fun y => ⟨rfl, fun _ _ => rfl, trivial⟩
  have wk : ∀ {y : Int} {m i m' i' : SV}, ValW (v42 n m' i') (v42 n m i) → ltAll 2 (svIdsL (v42 n m' i')) = true → Weak 2 (tplF 19 L42 (v42 n m i)) ((h42 y n P).map mkB) (tplF 19 L42 (v42 n m' i')) ((h42 y n P).map mkB) := fun {y} _ _ _ _ hv hi => tpl_weak (B := h42 y n P) (R := []) hv hi (ids y) (show 2 ≤ 2 by decide)
  refine CodeOK.frontN (C := C6) ec gs6 mixed (u := 0) (len := 19) (L := L42) (M := [true, false]) [c42_0] (show 2 ≤ 2 by decide) (Q := atS .normal (v42 n .top .top) (h42 x n P)) ?_ ?_
  · show evalC C6 0 2 (.seq c42_0 .skip) (enterS 19 _) _ _
    rw [p42a]
    exact ⟨rfl, rfl, ids x, rfl, rfl, rfl⟩
  rintro vx vals B ⟨rfl, rfl, rfl⟩
  refine CodeOK.seq (CodeOK.seq (CodeOK.at (C := C6) ec gs6 mixed (u := 0) (len := 19) (L := L42) (M := [true, false]) (vals := v42 n (ni n) (ni 0)) (B := h42 x n P) (show 2 ≤ 2 by decide) .normal ?_ (CodeOK.block ?_)))
  · show evalC C6 0 2 c42_1 (tplF 19 L42 (v42 n .top .top)) ((h42 x n P).map mkB) _
    rw [p42b]
    exact ⟨rfl, rfl, ids x, rfl, rfl, rfl⟩
  refine CodeOK.loop (fun N fr hp => ∃ i : Nat, i + N = n ∧ anyBad x P i = false ∧ fr = tplF 19 L42 (v42 n (ni n) (ni i)) ∧ hp = (h42 (prv x P i) n P).map mkB) ?_ (n := n) ⟨0, by omega, rfl, rfl, rfl⟩
  rintro N fr hp ⟨i, hi, hf, rfl, rfl⟩
  refine CodeOK.lookX (C := C6) ec gs6 mixed (u := 0) (len := 19) (rs := Try.f42.results.toList) (L := L42) (M := [true, false]) (show 2 ≤ 2 by decide) (Q := fun x' vals B => (i < n ∧ badP (prv x P i) (P i) = false ∧ x' = .normal ∧ vals = v42 n (ni n) (ni (i + 1 : Nat)) ∧ B = h42 (P i).n n P) ∨ (i = n ∧ x' = .exit 0 ∧ vals = v42 n (ni n) (ni i) ∧ B = h42 (prv x P i) n P)) (kr := fun (v : SV) (hp : LHeap) => (fun (v : SV) (o : BO) => v = SV.int .i64 (idxV x P n) ∧ o = BO.rows 1 1 true 3 [[SV.int .i64 (lastV x P n)]]) v (obsB true (hget hp 0))) ?_ ?_ fun fr hp h => h
  · show evalC C6 0 2 c42_2 (tplF 19 L42 (v42 n (ni n) (ni i))) ((h42 (prv x P i) n P).map mkB) (obsX Try.prog Try.f42.results.toList L42 [true, false] _ _)
    rw [p42c (prv x P i) n P i _ (fun v o => v = .int .i64 (idxV x P n) ∧ o = .rows 1 1 true 3 [[.int .i64 (lastV x P n)]])]
    by_cases hin : i < n
    · refine condT' (cb (by omega)) (condT' (cb (by omega)) (condT' (by simp only [Bool.and_true, Nat.zero_add, Int.toNat_natCast]; exact cb hin) ?_))
      simp only [Nat.zero_add, Int.toNat_natCast]
      refine condSplit (fun q => ?_) fun q => ?_
      · have q : badP (prv x P i) (P i) = true := q
        have e1 := anyBad_of hin q
        have e2 := fb_at hf q hin
        unfold idxV lastV
        rw [e1, e2]
        exact ⟨rfl, rfl⟩
      · rw [i64n i (by omega)]
        exact ⟨rfl, rfl, ids _, .inl ⟨hin, q, rfl, rfl, rfl⟩⟩
    · refine condF' (cf (by omega)) ?_
      exact ⟨rfl, rfl, ids _, .inr ⟨by omega, rfl, rfl, rfl⟩⟩
  · rintro x' vals B (⟨hin, q, rfl, rfl, rfl⟩ | ⟨rfl, rfl, rfl, rfl⟩)
    · exact ⟨N - 1, _, _, by omega, wk (y := (P i).n) ⟨.inr rfl, .inr rfl, .inr rfl, .inr rfl, trivial⟩ rfl, i + 1, by omega, by simp only [anyBad, hf, q, Bool.or_self], rfl, rfl⟩
    · refine CodeOK.pre (wk (y := prv x P i) (m := ni i) (i := ni i) (m' := .top) (i' := .top) ⟨.inr rfl, .inr rfl, .inl rfl, .inl rfl, trivial⟩ rfl) ?_
      refine CodeOK.eval (C := C6) ec gs6 mixed 0 ?_
      show evalC C6 0 2 c42_3 (tplF 19 L42 (v42 i .top .top)) ((h42 (prv x P i) i P).map mkB) (endK Try.prog Try.f42.results.toList fun v hp => (fun v o => v = .int .i64 (idxV x P i) ∧ o = .rows 1 1 true 3 [[.int .i64 (lastV x P i)]]) v (obsB true (hget hp 0)))
      rw [p42d (prv x P i) i P (fun v o => v = .int .i64 (idxV x P i) ∧ o = .rows 1 1 true 3 [[.int .i64 (lastV x P i)]])]
      unfold idxV lastV
      rw [hf]
      exact ⟨rfl, rfl⟩
theorem ok42 : SpecOK Try.prog 42 s42 := by
  intro args h base k hk
  unfold s42 at hk
  split at hk
  · rename_i v l
    have hc := cal (f := 42) Try.func42 (by kernel_rfl) (by kernel_rfl)
    obtain ⟨P, n, lg, hk⟩ := lp_ok hk
    obtain ⟨b, x, hb, e1, e2, e3, e4, e5, hk⟩ := cellW_ok hk
    rcases lg with ⟨rfl | rfl, rfl, rfl⟩ | ⟨id, bl, rfl, g1, g2, rfl⟩
    · refine ⟨_, _, [], hk, zip1 (V := .int .i64 (-1)) (y := x) hc hb e1 e2 e3 e4 e5 rfl rfl ?_⟩
      refine CodeOK.body Try.func42 (by kernel_rfl) (CodeOK.eval (C := C6) ec gs6 mixed 64 ?_)
      show evalC C6 64 1 (bodF Try.f42) (enterS 19 _) _ (endK Try.prog Try.f42.results.toList fun v hp => (fun v o => v = .int .i64 (-1) ∧ o = .rows 1 1 true 3 [[.int .i64 x]]) v (obsB true (hget hp 0)))
      rw [t42n x (fun v o => v = .int .i64 (-1) ∧ o = .rows 1 1 true 3 [[.int .i64 x]])]
      exact ⟨rfl, rfl⟩
    · refine ⟨_, _, [], hk, zip1 (V := .int .i64 (-1)) (y := x) hc hb e1 e2 e3 e4 e5 rfl rfl ?_⟩
      refine CodeOK.body Try.func42 (by kernel_rfl) (CodeOK.eval (C := C6) ec gs6 mixed 64 ?_)
      show evalC C6 64 1 (bodF Try.f42) (enterS 19 _) _ (endK Try.prog Try.f42.results.toList fun v hp => (fun v o => v = .int .i64 (-1) ∧ o = .rows 1 1 true 3 [[.int .i64 x]]) v (obsB true (hget hp 0)))
      rw [t42e x (fun v o => v = .int .i64 (-1) ∧ o = .rows 1 1 true 3 [[.int .i64 x]])]
      exact ⟨rfl, rfl⟩
    · exact ⟨_, _, [], hk, zip2 hc hb e1 e2 e3 e4 e5 g1 g2 rfl (canon42 x n _ g2.sm)⟩
  · cases hk
theorem gs7 : GSound C7 := gs6.add ok42
theorem ok31 : SpecOK Try.prog 31 s31 := by
  intro args h base k hk
  unfold s31 at hk
  split at hk
  · rename_i v l
    have hc := cal (f := 31) Try.func31 (by kernel_rfl) (by kernel_rfl)
    obtain ⟨P, n, lg, hk⟩ := lp_ok hk
    obtain ⟨b, x, hb, e1, e2, e3, e4, e5, hk⟩ := cellW_ok hk
    rcases lg with ⟨rfl | rfl, rfl, rfl⟩ | ⟨id, bl, rfl, g1, g2, rfl⟩
    · refine ⟨_, _, [], hk, zip1 (V := .bool false) (y := x) hc hb e1 e2 e3 e4 e5 rfl rfl ?_⟩
      refine CodeOK.body Try.func31 (by kernel_rfl) (CodeOK.eval (C := C7) ec gs7 mixed 64 ?_)
      show evalC C7 64 1 (bodF Try.f31) (enterS 9 _) _ (endK Try.prog Try.f31.results.toList fun v hp => (fun v o => v = .bool false ∧ o = .rows 1 1 true 3 [[.int .i64 x]]) v (obsB true (hget hp 0)))
      rw [t31n x (fun v o => v = .bool false ∧ o = .rows 1 1 true 3 [[.int .i64 x]])]
      exact ⟨rfl, rfl⟩
    · refine ⟨_, _, [], hk, zip1 (V := .bool false) (y := x) hc hb e1 e2 e3 e4 e5 rfl rfl ?_⟩
      refine CodeOK.body Try.func31 (by kernel_rfl) (CodeOK.eval (C := C7) ec gs7 mixed 64 ?_)
      show evalC C7 64 1 (bodF Try.f31) (enterS 9 _) _ (endK Try.prog Try.f31.results.toList fun v hp => (fun v o => v = .bool false ∧ o = .rows 1 1 true 3 [[.int .i64 x]]) v (obsB true (hget hp 0)))
      rw [t31e x (fun v o => v = .bool false ∧ o = .rows 1 1 true 3 [[.int .i64 x]])]
      exact ⟨rfl, rfl⟩
    · refine ⟨_, _, [], hk, zip2 hc hb e1 e2 e3 e4 e5 g1 g2 rfl ?_⟩
      refine CodeOK.body Try.func31 (by kernel_rfl) (CodeOK.eval (C := C7) ec gs7 mixed 64 ?_)
      show evalC C7 64 2 (bodF Try.f31) (enterS 9 _) _ (endK Try.prog Try.f31.results.toList fun v hp => (fun v o => v = .bool (anyBad x (fun r => rowP (bl.rd r)) n) ∧ o = .rows 1 1 true 3 [[.int .i64 (lastV x (fun r => rowP (bl.rd r)) n)]]) v (obsB true (hget hp 0)))
      rw [t31s x n _ (fun v o => v = .bool (anyBad x (fun r => rowP (bl.rd r)) n) ∧ o = .rows 1 1 true 3 [[.int .i64 (lastV x (fun r => rowP (bl.rd r)) n)]])]
      exact ⟨isP_bP _ g2.sm, congrArg SV.bool (idxV_sign _ _ _), rfl⟩
  · cases hk
theorem gs8 : GSound C8 := gs7.add ok31
theorem rdP {f : FuncId} {fn : Func} {h : Heap} {base id n : Nat} {bl : Blk} {V : SV} (hcall : ∀ vs w, (callFunc f vs).run Try.prog w = .ok (.enter f vs) w) (hl : h id = some bl) (hp : IsP bl n) (hV : svIds V = []) (hcan : Canon Try.prog f [.slice 0 0 6 n] [some (bP n fun r => rowP (bl.rd r))] fun v _ => v = V) : CSim Try.prog f [.slice id 0 6 n] h base V [] [] := by
  refine CSim.reads hcall _ _ [id] rfl hcan rfl (fun i b1 e => ?_) (ren_id_of hV _) base
  match i, e with
  | 0, e =>
    obtain rfl := Option.some.inj (show some (bP n fun r => rowP (bl.rd r)) = some b1 from e)
    exact ⟨rfl, id, bl, rfl, hl, hp.wb _⟩
  | i + 1, e => exact nomatch (show (none : Option Blk) = some b1 from e)
theorem ok14 : SpecOK Try.prog 14 s14 := by
  intro args h base k hk
  unfold s14 at hk
  split at hk
  · rename_i v
    obtain ⟨P, n, lg, hk⟩ := lp_ok hk
    rcases lg with ⟨rfl | rfl, rfl, rfl⟩ | ⟨id, bl, rfl, g1, g2, rfl⟩
    · refine ⟨_, [], [], hk, plainOK gs8 Try.func14 (by kernel_rfl) (by kernel_rfl) ?_ rfl rfl h base⟩
      show evalF C8 64 Try.f14 _ [] _
      rw [t14n (fun v => v = _)]
      rfl
    · refine ⟨_, [], [], hk, plainOK gs8 Try.func14 (by kernel_rfl) (by kernel_rfl) ?_ rfl rfl h base⟩
      show evalF C8 64 Try.f14 _ [] _
      rw [t14e (fun v => v = _)]
      rfl
    · refine ⟨_, [], [], hk, rdP (fn := Try.f14) (cal Try.func14 (by kernel_rfl) (by kernel_rfl)) g1 g2 rfl (evalF_ok (C := C8) ec gs8 mixed (u := 64) Try.func14 (by kernel_rfl) ?_)⟩
      rw [t14s n _ (fun v => v = _)]
      unfold chkP
      refine condSplit (fun q => ?_) fun q => ?_
      · rw [show decide (256 < n) = true from cb (by have := of_decide_eq_true q; omega)]
        rfl
      · rw [show decide (256 < n) = false from cf (by have := of_decide_eq_false q; omega)]
        refine ⟨isP_bP _ g2.sm, condSplit (fun q1 => ?_) fun q1 => ?_⟩
        · rw [show anyBad (-1) (fun r => rowP (bl.rd r)) n = true from q1]; rfl
        · rw [show anyBad (-1) (fun r => rowP (bl.rd r)) n = false from q1]; rfl
  · cases hk
theorem canon15 (n : Nat) (P : Nat → Pk) (hn : n ≤ 100000) : Canon Try.prog 15 [.slice 0 0 6 n] [some (bP n P)] fun v _ => v = .int .i64 (chkP P n) := by
  refine CodeOK.body Try.func15 (by kernel_rfl) ?_
  rw [code15]
  have ids : allIds 1 (h15 n P) := ⟨fun _ _ => rfl, trivial⟩
  have wk : ∀ {i i' : SV}, ValW (v15 n i') (v15 n i) → ltAll 1 (svIdsL (v15 n i')) = true → Weak 1 (tplF 57 L15 (v15 n i)) ((h15 n P).map mkB) (tplF 57 L15 (v15 n i')) ((h15 n P).map mkB) := fun hv hi => tpl_weak (B := h15 n P) (R := []) hv hi ids (show 1 ≤ 1 by decide)
  refine CodeOK.frontE (C := C6) ec gs6 mixed (u := 0) (len := 57) (rs := Try.f15.results.toList) (L := L15) (M := [false]) [c15_0, c15_1] (show 1 ≤ 1 by decide) (Q := fun x vals B => x = .normal ∧ n ≤ 256 ∧ vals = v15 n .top ∧ B = h15 n P) (kr := fun v => v = SV.int .i64 (chkP P n)) ?_ ?_ fun fr hp h => h
  · show evalC C6 0 1 (.seq c15_0 (.seq c15_1 .skip)) (enterS 57 _) _ (obsE Try.prog Try.f15.results.toList L15 [false] _ _)
    rw [p15a]
    refine condSplit (fun q => ?_) fun q => ?_
    · show SV.int .i64 2 = .int .i64 (chkP P n)
      unfold chkP
      rw [show decide (256 < n) = true from cb (by have := of_decide_eq_true q; omega)]
      rfl
    · exact ⟨rfl, rfl, ids, rfl, by have := of_decide_eq_false q; omega, rfl, rfl⟩
  rintro x vals B ⟨rfl, h256, rfl, rfl⟩
  have two : ∀ {i : Nat}, i < n → badP (prv (-1) P i) (P i) = true → SV.int .i64 2 = .int .i64 (chkP P n) := fun {i} hi hb => by
    unfold chkP
    rw [show decide (256 < n) = false from cf (by omega), anyBad_of hi hb]
    rfl
  refine CodeOK.seq (CodeOK.seq (CodeOK.at (C := C6) ec gs6 mixed (u := 0) (len := 57) (L := L15) (M := [false]) (vals := v15 n (ni 0)) (B := h15 n P) (show 1 ≤ 1 by decide) .normal ?_ (CodeOK.block ?_)))
  · show evalC C6 0 1 c15_2 (tplF 57 L15 (v15 n .top)) ((h15 n P).map mkB) _
    rw [p15b]
    exact ⟨rfl, rfl, ids, rfl, rfl, rfl⟩
  refine CodeOK.loop (fun N fr hp => ∃ i : Nat, i + N = n ∧ anyBad (-1) P i = false ∧ fr = tplF 57 L15 (v15 n (ni i)) ∧ hp = (h15 n P).map mkB) ?_ (n := n) ⟨0, by omega, rfl, rfl, rfl⟩
  rintro N fr hp ⟨i, hi, hf, rfl, rfl⟩
  refine CodeOK.lookE (C := C6) ec gs6 mixed (u := 0) (len := 57) (rs := Try.f15.results.toList) (L := L15) (M := [false]) (show 1 ≤ 1 by decide) (Q := fun x vals B => (i < n ∧ badP (prv (-1) P i) (P i) = false ∧ x = .normal ∧ vals = v15 n (ni (i + 1 : Nat)) ∧ B = h15 n P) ∨ (i = n ∧ x = .exit 0 ∧ vals = v15 n (ni i) ∧ B = h15 n P)) (kr := fun v => v = SV.int .i64 (chkP P n)) ?_ ?_ fun fr hp h => h
  · show evalC C6 0 1 c15_3 (tplF 57 L15 (v15 n (ni i))) ((h15 n P).map mkB) (obsE Try.prog Try.f15.results.toList L15 [false] _ _)
    have hp := bad15 hf
    have hB : badP (prv (-1) P i) (P i) = (decide ((P i).n ≤ prv (-1) P i) || (decide (9007199254740991 < (P i).n) || (!isT (P i).a || (decide ((P i).z < 1) || decide (65535 < (P i).z))))) := rfl
    cases i with
    | zero =>
      rw [p15c0]
      by_cases hin : 0 < n
      · refine condT' (cb (by omega)) (condT' (cb (by omega)) (condT' (by simp only [Bool.and_true]; exact cb hin) ?_))
        refine condSplit (fun q => two hin (by rw [hB, show decide ((P 0).n ≤ prv (-1) P 0) = true from cb (by have h := of_decide_eq_true q; show (P 0).n ≤ -1; have h : (P 0).n < 0 := h; omega)]; rfl)) fun q1 => ?_
        refine condSplit (fun q => two hin (by rw [hB, show decide (9007199254740991 < (P 0).n) = true from q]; simp)) fun q2 => ?_
        refine condSplit (fun q => two hin (by rw [hB, show (!isT (P 0).a) = true from q]; simp)) fun q3 => ?_
        refine condSplit (fun q => two hin (by rw [hB, show decide ((P 0).z < 1) = true from q]; simp)) fun q4 => ?_
        refine condSplit (fun q => two hin (by rw [hB, show decide (65535 < (P 0).z) = true from q]; simp)) fun q5 => ?_
        refine ⟨rfl, rfl, ids, .inl ⟨hin, ?_, rfl, rfl, rfl⟩⟩
        rw [hB, show decide ((P 0).n ≤ prv (-1) P 0) = false from cf (by have h : ¬ (P 0).n < 0 := of_decide_eq_false q1; show ¬ (P 0).n ≤ -1; omega), show decide (9007199254740991 < (P 0).n) = false from q2, show (!isT (P 0).a) = false from q3, show decide ((P 0).z < 1) = false from q4, show decide (65535 < (P 0).z) = false from q5]
        rfl
      · refine condF' (cf (by omega)) ?_
        exact ⟨rfl, rfl, ids, .inr ⟨by omega, rfl, rfl, rfl⟩⟩
    | succ i =>
      rw [p15c]
      by_cases hin : i + 1 < n
      · have e1 : ((i + 1 : Nat) : Int).toNat = i + 1 := Int.toNat_natCast _
        have e2 : IntKind.i64.wrap (((i + 1 : Nat) : Int) - 1) = (i : Int) := by rw [wrap_id (by omega) (by omega)]; omega
        refine condT' (cb (by omega)) (condT' (cb (by omega)) (condT' (by simp only [Bool.and_true, Nat.zero_add, e1]; exact cb hin) ?_))
        simp only [Nat.zero_add, e1, e2, Int.toNat_natCast]
        refine condSplit (fun q => two hin (by rw [hB, show decide ((P (i + 1)).n ≤ prv (-1) P (i + 1)) = true from cb (by have h : (P (i + 1)).n < 0 := of_decide_eq_true q; omega)]; rfl)) fun q1 => ?_
        refine condSplit (fun q => two hin (by rw [hB, show decide (9007199254740991 < (P (i + 1)).n) = true from q]; simp)) fun q2 => ?_
        refine condT' (cb (by omega)) (condT' (by rw [cb (show (0 : Int) ≤ (i : Int) by omega), cb (show (i : Int) < (n : Int) by omega)]; rfl) (condT' (by simp only [Bool.and_true]; exact cb (by omega)) ?_))
        refine condSplit (fun q => two hin (by rw [hB, show decide ((P (i + 1)).n ≤ prv (-1) P (i + 1)) = true from q]; rfl)) fun q0 => ?_
        refine condSplit (fun q => two hin (by rw [hB, show (!isT (P (i + 1)).a) = true from q]; simp)) fun q3 => ?_
        refine condSplit (fun q => two hin (by rw [hB, show decide ((P (i + 1)).z < 1) = true from q]; simp)) fun q4 => ?_
        refine condSplit (fun q => two hin (by rw [hB, show decide (65535 < (P (i + 1)).z) = true from q]; simp)) fun q5 => ?_
        rw [i64n (i + 1) (by omega)]
        refine ⟨rfl, rfl, ids, .inl ⟨hin, ?_, rfl, rfl, rfl⟩⟩
        rw [hB, show decide ((P (i + 1)).n ≤ prv (-1) P (i + 1)) = false from q0, show decide (9007199254740991 < (P (i + 1)).n) = false from q2, show (!isT (P (i + 1)).a) = false from q3, show decide ((P (i + 1)).z < 1) = false from q4, show decide (65535 < (P (i + 1)).z) = false from q5]
        rfl
      · refine condF' (cf (by omega)) ?_
        exact ⟨rfl, rfl, ids, .inr ⟨by omega, rfl, rfl, rfl⟩⟩
  · rintro x vals B (⟨hin, q, rfl, rfl, rfl⟩ | ⟨rfl, rfl, rfl, rfl⟩)
    · exact ⟨N - 1, _, _, by omega, wk ⟨.inr rfl, .inr rfl, trivial⟩ rfl, i + 1, by omega, by simp only [anyBad, hf, q, Bool.or_self], rfl, rfl⟩
    · refine CodeOK.pre (wk (i := ni i) (i' := .top) ⟨.inr rfl, .inl rfl, trivial⟩ rfl) ?_
      refine CodeOK.eval (C := C6) ec gs6 mixed 0 ?_
      show evalC C6 0 1 c15_4 (tplF 57 L15 (v15 i .top)) ((h15 i P).map mkB) (endK Try.prog Try.f15.results.toList fun v _ => v = .int .i64 (chkP P i))
      rw [p15d i P (fun v => v = .int .i64 (chkP P i))]
      unfold chkP
      rw [show decide (256 < i) = false from cf (by omega), hf]
      rfl
theorem ok15 : SpecOK Try.prog 15 s14 := by
  intro args h base k hk
  unfold s14 at hk
  split at hk
  · rename_i v
    obtain ⟨P, n, lg, hk⟩ := lp_ok hk
    rcases lg with ⟨rfl | rfl, rfl, rfl⟩ | ⟨id, bl, rfl, g1, g2, rfl⟩
    · refine ⟨_, [], [], hk, plainOK gs6 Try.func15 (by kernel_rfl) (by kernel_rfl) ?_ rfl rfl h base⟩
      show evalF C6 64 Try.f15 _ [] _
      rw [t15n (fun v => v = _)]
      rfl
    · refine ⟨_, [], [], hk, plainOK gs6 Try.func15 (by kernel_rfl) (by kernel_rfl) ?_ rfl rfl h base⟩
      show evalF C6 64 Try.f15 _ [] _
      rw [t15e (fun v => v = _)]
      rfl
    · exact ⟨_, [], [], hk, rdP (fn := Try.f15) (cal Try.func15 (by kernel_rfl) (by kernel_rfl)) g1 g2 rfl (canon15 n _ g2.sm)⟩
  · cases hk
end
end Go.Proofs.Ytcjfmkkfcbelpaa
