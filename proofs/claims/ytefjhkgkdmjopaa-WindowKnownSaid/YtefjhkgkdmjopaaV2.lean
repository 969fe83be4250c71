/-
  Chapter 11 by the engine: the contracts of the changes, and of the document's answers.
-/
import Derived.Test.YtefjhkgkdmjopaaT2
import Derived.Test.YtefjhkgkdmjopaaE24
namespace Go.Proofs.Ytefjhkgkdmjopaa
open Go.RowKit
theorem cb {p : Prop} [Decidable p] (h : p) : decide p = true := decide_eq_true h
theorem cf {p : Prop} [Decidable p] (h : ¬ p) : decide p = false := decide_eq_false h
theorem eta (w : Wn) : Wn.mk w.d w.m w.c w.t w.s w.g = w := rfl
theorem may_d {w : Wn} (h : mayW w = true) : 1200 ≤ w.d ∧ w.d ≤ 65527 ∧ w.m ≤ 1099511627776 ∧ 2 * w.d ≤ w.c ∧ w.c ≤ w.m ∧ 0 ≤ w.g ∧ w.g < w.c ∧ (w.t = -1 ∨ w.d ≤ w.t ∧ w.t ≤ w.m) ∧ (w.s = -1 ∨ 0 ≤ w.s ∧ w.s ≤ 9007199254740991) := of_decide_eq_true h
theorem may_sm {w : Wn} (h : mayW w = true) : Sm w := by
  have := may_d h
  exact ⟨by omega, by omega, by omega, by omega⟩
theorem intR_ok {h : Heap} {id : Nat} {K : Int → Prop} (hk : intR h id K) : ∃ (b : Blk) (x : Int), h id = some b ∧ b.sz = 1 ∧ b.n = 1 ∧ b.rd 0 = [.int .i64 x] ∧ K x := by
  unfold intR at hk
  split at hk
  · rename_i b hb
    split at hk
    · rename_i x h1 h2 h3
      exact ⟨b, x, hb, h1, h2, h3, hk⟩
    · cases hk
  · cases hk
theorem boolR_ok {h : Heap} {id : Nat} {K : Bool → Prop} (hk : boolR h id K) : ∃ (b : Blk) (x : Bool), h id = some b ∧ b.sz = 1 ∧ b.n = 1 ∧ b.rd 0 = [.bool x] ∧ K x := by
  unfold boolR at hk
  split at hk
  · rename_i b hb
    split at hk
    · rename_i x h1 h2 h3
      exact ⟨b, x, hb, h1, h2, h3, hk⟩
    · cases hk
  · cases hk
theorem pktR_ok {h : Heap} {id : Nat} {K : Pk → Prop} (hk : pktR h id K) : ∃ (b : Blk) (p : Pk), h id = some b ∧ b.sz = 6 ∧ b.n = 1 ∧ b.rd 0 = pC p ∧ K p := by
  unfold pktR at hk
  split at hk
  · rename_i b hb
    split at hk
    · rename_i n t s x y z h1 h2 h3
      exact ⟨b, ⟨n, t, s, x, y, z⟩, hb, h1, h2, h3, hk⟩
    · cases hk
  · cases hk
theorem agW_ok {v : SV} {K : Wn → Prop} (hk : agW v K) : ∃ w : Wn, v = .agg (wC w) ∧ K w := by
  unfold agW at hk
  split at hk
  · rename_i d m c t s g
    exact ⟨⟨d, m, c, t, s, g⟩, rfl, hk⟩
  · cases hk
theorem agP_ok {v : SV} {K : Pk → Prop} (hk : agP v K) : ∃ p : Pk, v = .agg (pC p) ∧ K p := by
  unfold agP at hk
  split at hk
  · rename_i n t s x y z
    exact ⟨⟨n, t, s, x, y, z⟩, rfl, hk⟩
  · cases hk
theorem one_wb {ρ : Ren} {b : Blk} {cells : List SV} (h2 : b.sz = cells.length) (h3 : b.n = 1) (h4 : b.rd 0 = cells) (hc : svIdsL cells = []) : WB ρ (oneB cells false 0) b :=
  WB.of_rows h2.symm (by rw [h3]; exact Nat.le_refl _) (fun q => nomatch q) (fun q => nomatch q) fun r hr' => by
    obtain rfl : r = 0 := by have : r < 1 := hr'; omega
    exact ⟨h4.symm, hc⟩
/-- Two blocks that are read. -/
theorem two_wb {h : Heap} {x y : Nat} {b c : Blk} {l m : List SV} {ids : List Nat} {ρ : Ren} (e0 : ids = [x, y]) (hx : h x = some b) (b2 : b.sz = l.length) (b3 : b.n = 1) (b4 : b.rd 0 = l) (hl : svIdsL l = []) (hy : h y = some c) (c2 : c.sz = m.length) (c3 : c.n = 1) (c4 : c.rd 0 = m) (hm : svIdsL m = []) :
    ∀ (i : Nat) (b1 : Blk), hget [some (oneB l false 0), some (oneB m false 0)] i = some b1 → b1.rw = false ∧ ∃ x b, ids[i]? = some x ∧ h x = some b ∧ WB ρ b1 b := by
  subst e0
  intro i b1 e
  match i, e with
  | 0, e =>
    obtain rfl := Option.some.inj (show some (oneB l false 0) = some b1 from e)
    exact ⟨rfl, x, b, rfl, hx, one_wb b2 b3 b4 hl⟩
  | 1, e =>
    obtain rfl := Option.some.inj (show some (oneB m false 0) = some b1 from e)
    exact ⟨rfl, y, c, rfl, hy, one_wb c2 c3 c4 hm⟩
  | i + 2, e => exact nomatch (show (none : Option Blk) = some b1 from e)
theorem inj3 {a b c : Nat} (h1 : a ≠ b) (h2 : a ≠ c) (h3 : b ≠ c) : ∀ (i j x : Nat), [a, b, c][i]? = some x → [a, b, c][j]? = some x → i = j := by
  intro i j x e1 e2
  match i, j with
  | 0, 0 => rfl
  | 1, 1 => rfl
  | 2, 2 => rfl
  | 0, 1 => simp at e1 e2; omega
  | 0, 2 => simp at e1 e2; omega
  | 1, 0 => simp at e1 e2; omega
  | 1, 2 => simp at e1 e2; omega
  | 2, 0 => simp at e1 e2; omega
  | 2, 1 => simp at e1 e2; omega
  | i + 3, _ => simp at e1
  | 0, j + 3 => simp at e2
  | 1, j + 3 => simp at e2
  | 2, j + 3 => simp at e2
section
attribute [local irreducible] evalC
set_option maxRecDepth 100000
theorem ok40 : SpecOK Try.prog 40 s40 := by
  intro args h base k hk
  unfold s40 at hk
  split at hk
  · obtain ⟨b, w, h1, h2, h3, h4, h5, h6, hw, hk⟩ := winW_ok hk
    exact ⟨_, _, [], hk _ rfl, writeOK Try.func40 (by kernel_rfl) (by kernel_rfl) (r40 w hw) h1 h2 h3 h4 h5 h6 rfl rfl base⟩
  · cases hk
theorem gs2a : GSound C2a := (gs1.add ok41).add ok43
theorem r35 (w : Wn) (n : Int) (hw : Sm w ∧ 0 ≤ n ∧ n ≤ 65535) : RunW 35 [.int .i64 n] w (.tuple []) (growW w n) := by
  refine runW (C := C2a) rfl ec gs2a Try.func35 (by kernel_rfl) ?_
  show evalC C2a 64 1 (bodF Try.f35) (enterS 7 _) _ (endK Try.prog Try.f35.results.toList _)
  rw [t35 w n (fun v o => v = .tuple [] ∧ o = .rows 6 1 true 60 [wC (growW w n)])]
  refine ⟨hw, ?_⟩
  rintro w' rfl
  exact ⟨rfl, rfl⟩
theorem ok35 : SpecOK Try.prog 35 s43 := by
  intro args h base k hk
  unfold s43 at hk
  split at hk
  · obtain ⟨b, w, h1, h2, h3, h4, h5, h6, hw, hk⟩ := winW_ok hk
    exact ⟨_, _, [], hk _ rfl, writeOK Try.func35 (by kernel_rfl) (by kernel_rfl) (r35 w _ hw) h1 h2 h3 h4 h5 h6 rfl rfl base⟩
  · cases hk
/-! ### The loop of what is slow -/
def wgc (w : Wn) (r : Int × Int) : Wn := ⟨w.d, w.m, r.2, w.t, w.s, r.1⟩
abbrev f33 : List SV := tplF 46 L33 v33
abbrev m33 (w : Wn) : LHeap := (h33 w).map mkB
theorem ids33 (w : Wn) : allIds 1 (h33 w) := ⟨rfl, trivial⟩
def at33 (e : Ex) (w : Wn) : Ex → List SV → List BO → Prop := fun x vals B => x = e ∧ vals = v33 ∧ B = h33 w
theorem step33 {w : Wn} (e : Ex) {cd : Code} {fr : List SV} {hp : LHeap} (hh : evalC C2a 0 1 cd fr hp (obsN L33 M33 (seen 46 1 (at33 e w)))) {K : KC} (hK : K e f33 (m33 w)) : CodeOK Try.prog 1 cd fr hp K :=
  (CodeOK.lookN (C := C2a) ec gs2a mixed (u := 0) (M := M33) (by decide) hh).st fun x vals B hh => by
    obtain ⟨rfl, rfl, rfl⟩ := hh
    exact hK
theorem wk33 (w : Wn) : Weak 1 f33 (m33 w) f33 (m33 w) := tpl_weak (B := h33 w) (R := []) ⟨.inr rfl, trivial⟩ rfl (ids33 w) (Nat.le_refl _)
/-- What holds, round by round. -/
structure Slo (w : Wn) (r : Int × Int) (n : Nat) (x : Int × Int) : Prop where
  f : slowF w.d w.m n x.1 x.2 = r
  g : 0 ≤ x.1 ∧ x.1 ≤ n ∧ x.1 ≤ x.2 + 65535
  c : 2 * w.d ≤ x.2 ∧ x.2 ≤ w.m
theorem Slo.step {w : Wn} (hw : mayW w = true) {r : Int × Int} {n : Nat} {x : Int × Int} (h : Slo w r n x) (hx : x.2 ≤ x.1) : ∃ n', n = n' + 1 ∧ Slo w r n' (x.1 - x.2, minI (x.2 + w.d) w.m) := by
  obtain ⟨h1, h2, h3⟩ := h
  have hd := may_d hw
  cases n with
  | zero => omega
  | succ n =>
    refine ⟨n, rfl, ?_, ?_, ?_⟩
    · rw [slowF, if_pos hx] at h1; exact h1
    · unfold minI; dsimp only; split <;> omega
    · unfold minI; dsimp only; split <;> omega
theorem Slo.done {w : Wn} {r : Int × Int} {n : Nat} {x : Int × Int} (h : Slo w r n x) (hx : ¬ x.2 ≤ x.1) : x = r := by
  have := h.f
  cases n with
  | zero => exact this
  | succ n => rw [slowF, if_neg hx] at this; exact this
theorem loop33 (w : Wn) (hw : mayW w = true) (r : Int × Int) {n : Nat} {x : Int × Int} (h : Slo w r n x) {K : KC} (hK : K (.exit 0) f33 (m33 (wgc w r))) : CodeOK Try.prog 1 (.loop c33_1) f33 (m33 (wgc w x)) K := by
  refine CodeOK.loop (fun n fr hp => ∃ x, Slo w r n x ∧ fr = f33 ∧ hp = m33 (wgc w x)) ?_ (n := n) ⟨x, h, rfl, rfl⟩
  rintro n fr hp ⟨x, h, rfl, rfl⟩
  have hd := may_d hw
  by_cases hx : x.2 ≤ x.1
  · obtain ⟨n', rfl, h'⟩ := h.step hw hx
    refine step33 (w := wgc w (x.1 - x.2, minI (x.2 + w.d) w.m)) .normal ?_ ⟨n', _, _, by omega, wk33 _, _, h', rfl, rfl⟩
    rw [p33b]
    have h2 := h.g
    have h3 := h.c
    rw [cb (show (wgc w x).c ≤ (wgc w x).g from hx), cond_true, wrap_id (show -9223372036854775808 ≤ (wgc w x).g - (wgc w x).c from show -9223372036854775808 ≤ x.1 - x.2 by omega) (show (wgc w x).g - (wgc w x).c ≤ 9223372036854775807 from show x.1 - x.2 ≤ 9223372036854775807 by omega)]
    refine ⟨⟨⟨by show 0 ≤ w.d ∧ w.d ≤ 65527; omega, by show 0 ≤ w.m ∧ w.m ≤ 1099511627776; omega, by show 1 ≤ x.2 ∧ x.2 ≤ 1099511627776; omega, ?_⟩, ?_, ?_⟩, ?_⟩
    · show 0 ≤ x.1 - x.2 ∧ x.1 - x.2 ≤ 1099511627776; omega
    · show 0 ≤ w.d; omega
    · show w.d ≤ 65535; omega
    · rintro w' rfl
      exact ⟨rfl, rfl, ids33 _, rfl, rfl, rfl⟩
  · obtain rfl := h.done hx
    refine step33 (w := wgc w x) (.exit 0) ?_ hK
    rw [p33b, cf (show ¬ (wgc w x).c ≤ (wgc w x).g from hx), cond_false]
    exact ⟨rfl, rfl, ids33 _, rfl, rfl, rfl⟩
theorem slo_start (w : Wn) (hw : mayW w = true) {n : Int} (h : 0 ≤ n ∧ n ≤ 65535) : Slo w (slowF w.d w.m (w.g + n).toNat (w.g + n) w.c) (w.g + n).toNat (w.g + n, w.c) := by
  have hd := may_d hw
  exact ⟨rfl, by dsimp only; omega, by dsimp only; omega⟩
theorem r33 (w : Wn) (n : Int) (hw : mayW w = true) (h : 0 ≤ n ∧ n ≤ 65535) : RunW 33 [.int .i64 n] w (.tuple []) (slowW w n) := by
  have hd := may_d hw
  refine CodeOK.body Try.func33 (by kernel_rfl) ?_
  rw [code33]
  refine CodeOK.seq (step33 (w := wgc w (w.g + n, w.c)) .normal ?_ (CodeOK.block (loop33 w hw (slowF w.d w.m (w.g + n).toNat (w.g + n) w.c) (slo_start w hw h) ?_)))
  · show evalC C2a 0 1 c33_0 (enterS 46 _) _ _
    rw [p33a, wrap_id (by omega) (by omega)]
    exact ⟨rfl, rfl, ids33 _, rfl, rfl, rfl⟩
  · exact ⟨rfl, rfl⟩
theorem ok33 : SpecOK Try.prog 33 s33 := by
  intro args h base k hk
  unfold s33 at hk
  split at hk
  · obtain ⟨b, w, h1, h2, h3, h4, h5, h6, ⟨hw, hn⟩, hk⟩ := winW_ok hk
    exact ⟨_, _, [], hk _ rfl, writeOK Try.func33 (by kernel_rfl) (by kernel_rfl) (r33 w _ hw hn) h1 h2 h3 h4 h5 h6 rfl rfl base⟩
  · cases hk
theorem gs2 : GSound C2 := ((gs2a.add ok35).add ok33).add ok40
/-! ### Changes by closures -/
def RunW3 (f : FuncId) (args : List SV) (ro : LHeap) (w : Wn) (w' : Wn) : Prop := Canon Try.prog f (.ptr 0 0 6 0 :: args) (some (oneB (wC w) true 60) :: ro) fun v' hp => v' = .tuple [] ∧ obsB true (hget hp 0) = .rows 6 1 true 60 [wC w']
theorem r38 (w : Wn) (x y : Int) (hw : mayW w = true) : RunW3 38 [.ptr 1 0 1 0, .ptr 2 0 1 0] [some (oneB [.int .i64 x] false 0), some (oneB [.int .i64 y] false 0)] w (bad1 w x y) := by
  have hd := may_d hw
  refine CodeOK.body Try.func38 (by kernel_rfl) (CodeOK.eval (C := C2) ec gs2 mixed 64 ?_)
  show evalC C2 64 3 (bodF Try.f38) (enterS 39 _) _ (endK Try.prog Try.f38.results.toList _)
  rw [t38 w x y (fun v o => v = .tuple [] ∧ o = .rows 6 1 true 60 [wC (bad1 w x y)])]
  unfold bad1
  rw [eta]
  refine condSplit (fun q => ?_) fun q => ?_
  · rw [q]; exact ⟨rfl, rfl⟩
  · rw [q, cb (show 1200 ≤ w.d ∧ w.d ≤ 65527 by omega), cond_true, cond_false, Int.tdiv_eq_ediv_of_nonneg (by omega), wrap_id (by omega) (by omega)]
    exact ⟨rfl, rfl⟩
theorem ok38 : SpecOK Try.prog 38 s38 := by
  intro args h base k hk
  unfold s38 at hk
  split at hk
  · rename_i id x y
    cases hxy : Nat.beq x y with
    | true => rw [hxy] at hk; exact hk.elim
    | false =>
    rw [hxy, cond_false] at hk
    have hne : x ≠ y := by rintro rfl; simp at hxy
    obtain ⟨b, w, h1, h2, h3, h4, h5, h6, hk⟩ := winW_ok hk
    obtain ⟨bx, vx, x1, x2, x3, x4, hk⟩ := intR_ok hk
    obtain ⟨by', vy, y1, y2, y3, y4, hw, hk⟩ := intR_ok hk
    have n1 : id ≠ x := by rintro rfl; rw [h1] at x1; cases x1; omega
    have n2 : id ≠ y := by rintro rfl; rw [h1] at y1; cases y1; omega
    exact ⟨_, _, [], hk _ rfl, CSim.ptrWR (cells := wC w) (cells' := wC (bad1 w vx vy)) (ids := [x, y]) (cal Try.func38 (by kernel_rfl) (by kernel_rfl)) (r38 w vx vy hw) rfl (inj3 n1 n2 hne)
      (two_wb rfl x1 x2 x3 x4 rfl y1 y2 y3 y4 rfl) h1 h2 h3 h4 h5 h6 rfl rfl rfl rfl rfl base⟩
  · cases hk
theorem r31 (w : Wn) (x : Bool) (p : Pk) (hw : mayW w = true) (hs : 1 ≤ p.s ∧ p.s ≤ 65535) : RunW3 31 [.ptr 1 0 1 0, .ptr 2 0 6 0] [some (oneB [.bool x] false 0), some (oneB (pC p) false 0)] w (ack1 w p.t p.s x) := by
  refine CodeOK.body Try.func31 (by kernel_rfl) (CodeOK.eval (C := C2) ec gs2 mixed 64 ?_)
  show evalC C2 64 3 (bodF Try.f31) (enterS 24 _) _ (endK Try.prog Try.f31.results.toList _)
  rw [t31 w x p (fun v o => v = .tuple [] ∧ o = .rows 6 1 true 60 [wC (ack1 w p.t p.s x)])]
  unfold ack1
  rw [eta]
  refine condSplit (fun q => ?_) fun q => ?_
  · rw [q]; exact ⟨rfl, rfl⟩
  refine condSplit (fun q2 => ?_) fun q2 => ?_
  · rw [q, q2]; exact ⟨rfl, rfl⟩
  rw [q, q2]
  refine condSplit (fun q3 => ?_) fun q3 => ?_
  · rw [q3]
    refine ⟨⟨may_sm hw, show 0 ≤ p.s by omega, hs.2⟩, ?_⟩
    rintro w' rfl
    exact ⟨rfl, rfl⟩
  · rw [q3]
    refine ⟨⟨hw, show 0 ≤ p.s by omega, hs.2⟩, ?_⟩
    rintro w' rfl
    exact ⟨rfl, rfl⟩
theorem ok31 : SpecOK Try.prog 31 s31 := by
  intro args h base k hk
  unfold s31 at hk
  split at hk
  · rename_i id x y
    obtain ⟨b, w, h1, h2, h3, h4, h5, h6, hk⟩ := winW_ok hk
    obtain ⟨bx, vx, x1, x2, x3, x4, hk⟩ := boolR_ok hk
    obtain ⟨by', p, y1, y2, y3, y4, ⟨hw, hs⟩, hk⟩ := pktR_ok hk
    have n1 : id ≠ x := by rintro rfl; rw [h1] at x1; cases x1; omega
    have n2 : id ≠ y := by
      rintro rfl; rw [h1] at y1; cases y1
      rw [h6] at y4
      simp [wC, pC] at y4
    have n3 : x ≠ y := by rintro rfl; rw [x1] at y1; cases y1; omega
    exact ⟨_, _, [], hk _ rfl, CSim.ptrWR (cells := wC w) (cells' := wC (ack1 w p.t p.s vx)) (ids := [x, y]) (cal Try.func31 (by kernel_rfl) (by kernel_rfl)) (r31 w vx p hw hs) rfl (inj3 n1 n2 n3)
      (two_wb rfl x1 x2 x3 x4 rfl y1 y2 y3 y4 rfl) h1 h2 h3 h4 h5 h6 rfl rfl rfl rfl rfl base⟩
  · cases hk
theorem gs3 : GSound C3 := (gs2.add ok38).add ok31
end
end Go.Proofs.Ytefjhkgkdmjopaa
