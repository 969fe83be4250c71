/-
  Chapter 16 by the engine: HandCopies.
-/
import Derived.Test.YtllkhfabfcpieaaT8a
import Derived.Test.YtllkhfabfcpieaaT8b
import Derived.Test.YtllkhfabfcpieaaE24
namespace Go.Proofs.Ytllkhfabfcpieaa
open Go.RowKit
section
attribute [local irreducible] evalC
set_option maxRecDepth 100000
theorem condT {c : Bool} {p q : Prop} (h : c = true) (hp : p) : bif c then p else q := by rw [h]; exact hp
theorem condF {c : Bool} {p q : Prop} (h : c = false) (hq : q) : bif c then p else q := by rw [h]; exact hq
theorem mi (n : Nat) : (if (60 : Int) < (n : Int) then (60 : Int) else (n : Int)) = ((min n 60 : Nat) : Int) := by split <;> omega
def goN (h : Hd) (g : Nat → Nat → Int) : Nat → Hd
  | 0 => h
  | i + 1 => callH (goN h g i) (g i 0) (g i 1)
def catG (n : Nat) (g g2 : Nat → Nat → Int) : Nat → Nat → Int := fun r j => if r < n then g r j else g2 (r - n) j
theorem cat_pre (b : Bool) (n : Nat) (g g2 : Nat → Nat → Int) : ∀ i, i ≤ n → playN b (catG n g g2) i = playN b g i
  | 0, _ => rfl
  | i + 1, h => by
    show callH (playN b (catG n g g2) i) (catG n g g2 i 0) (catG n g g2 i 1) = callH (playN b g i) (g i 0) (g i 1)
    rw [cat_pre b n g g2 i (by omega)]
    simp only [catG, if_pos (show i < n by omega)]
theorem cat_play (b : Bool) (n : Nat) (g g2 : Nat → Nat → Int) : ∀ i, playN b (catG n g g2) (n + i) = goN (playN b g n) g2 i
  | 0 => cat_pre b n g g2 n (Nat.le_refl _)
  | i + 1 => by
    show callH (playN b (catG n g g2) (n + i)) (catG n g g2 (n + i) 0) (catG n g g2 (n + i) 1) = callH (goN (playN b g n) g2 i) (g2 i 0) (g2 i 1)
    rw [cat_play b n g g2 i]
    simp only [catG, if_neg (show ¬ n + i < n by omega), Nat.add_sub_cancel_left]
theorem go_new (b : Bool) (g : Nat → Nat → Int) : ∀ i, playN b g i = goN (newH b) g i
  | 0 => rfl
  | i + 1 => by
    show callH (playN b g i) (g i 0) (g i 1) = callH (goN (newH b) g i) (g i 0) (g i 1)
    rw [go_new b g i]
theorem min_cat (n m : Nat) : min (min n 60 + m) 60 = min n 60 + min m (60 - min n 60) := by omega
def NoIds (A : Blk) : Prop := ∀ r, r < A.n → svIdsL (A.rd r) = []
/-- Calls in a block. -/
structure Good (A : Blk) (q : Nat) (G : Nat → Nat → Int) : Prop where
  sz : A.sz = 2
  n : A.n = q
  rd : ∀ r, r < q → A.rd r = [.int .i64 (G r 0), .int .i64 (G r 1)]
theorem Good.no {A : Blk} {q : Nat} {G : Nat → Nat → Int} (h : Good A q G) : NoIds A := fun r hr => by rw [h.rd r (by rw [← h.n]; exact hr)]; rfl
theorem Good.isDo {A : Blk} {q : Nat} {G : Nat → Nat → Int} (h : Good A q G) : IsDo A q := ⟨h.sz, by rw [h.n]; exact Nat.le_refl _, fun r hr => ⟨_, _, h.rd r hr⟩⟩
theorem play_upto {b : Bool} {g g' : Nat → Nat → Int} : ∀ n, (∀ r, r < n → g r 0 = g' r 0 ∧ g r 1 = g' r 1) → playN b g n = playN b g' n
  | 0, _ => rfl
  | n + 1, h => by
    show callH (playN b g n) (g n 0) (g n 1) = callH (playN b g' n) (g' n 0) (g' n 1)
    rw [play_upto n fun r hr => h r (by omega), (h n (by omega)).1, (h n (by omega)).2]
theorem Good.play {A : Blk} {q : Nat} {G : Nat → Nat → Int} (h : Good A q G) {b : Bool} : playB b A q = playN b G (min q 60) :=
  play_upto _ fun r hr => by rw [h.rd r (by omega)]; exact ⟨rfl, rfl⟩
theorem allOne_bD (n m k : Nat) (g : Nat → Nat → Int) : allOne (fun i => (bD n g).rd (k + i)) m = true := by
  induction m with
  | zero => rfl
  | succ m ih => simp only [allOne, ih, Bool.and_true]; rfl
theorem wf_no {h : Hd} (w : WF h) : nothV h = false := by
  have := w.e0
  unfold nothV
  rcases this with e | e <;> rw [e] <;> rfl

abbrev f8s (b : Bool) (n m q : Nat) (i : SV) : List SV := tplF 130 L8 (v8s b n m q i)
abbrev m8s (n m : Nat) (g g2 : Nat → Nat → Int) (h c : Hd) (A : Blk) : LHeap := (h8s n m g g2 h c A).map mkB
theorem ids8s (n m : Nat) (g g2 : Nat → Nat → Int) (h c : Hd) {A : Blk} (hA : NoIds A) : allIds 8 (h8s n m g g2 h c A) := ⟨fun _ _ => rfl, fun _ _ => rfl, rfl, rfl, rfl, trivial, trivial, fun r hr => by rw [hA r hr]; rfl, trivial⟩
def at8s (b : Bool) (n m : Nat) (g g2 : Nat → Nat → Int) (q : Nat) (e : Ex) (i : SV) (h c : Hd) (A : Blk) : Ex → List SV → List BO → Prop := fun x vals B => x = e ∧ vals = v8s b n m q i ∧ B = h8s n m g g2 h c A
theorem step8s {b : Bool} {n m : Nat} {g g2 : Nat → Nat → Int} {q : Nat} {i : SV} {h c : Hd} {A : Blk} (e : Ex) {cd : Code} {fr : List SV} {hp : LHeap} (hh : evalC C7 0 2 cd fr hp (obsN L8 M8s (seen 130 8 (at8s b n m g g2 q e i h c A)))) {K : KC} (hK : K e (f8s b n m q i) (m8s n m g g2 h c A)) : CodeOK Try.prog 2 cd fr hp K :=
  (CodeOK.lookN (C := C7) ec gs7 mixed (u := 0) (M := M8s) (by decide) hh).st fun x vals B hh => by
    obtain ⟨rfl, rfl, rfl⟩ := hh
    exact hK
theorem wk8s (b : Bool) (n m : Nat) (g g2 : Nat → Nat → Int) (q : Nat) (h c : Hd) {A : Blk} (hA : NoIds A) {i i' : SV} (hv : ValW (v8s b n m q i') (v8s b n m q i)) (hi : ltAll 8 (svIdsL (v8s b n m q i')) = true) : Weak 2 (f8s b n m q i) (m8s n m g g2 h c A) (f8s b n m q i') (m8s n m g g2 h c A) :=
  tpl_weak (B := h8s n m g g2 h c A) (R := []) hv hi (ids8s n m g g2 h c hA) (show 2 ≤ 8 by decide)
theorem loop8s (b : Bool) (n m : Nat) (g g2 : Nat → Nat → Int) (q : Nat) (h : Hd) {A : Blk} (hA : NoIds A) {K : KC} (hK : K (.exit 0) (f8s b n m q .top) (m8s n m g g2 h (goN h g2 (min m (60 - min n 60))) A)) : CodeOK Try.prog 2 (.loop c8_6) (f8s b n m q (ni 0)) (m8s n m g g2 h h A) K := by
  refine CodeOK.count (n := (min m (60 - min n 60))) (F := fun i => f8s b n m q (ni i)) (H := fun i => m8s n m g g2 h (goN h g2 i) A) (fun i hi => ?_) ?_ hK
  · refine step8s (i := ni (i + 1 : Nat)) (h := h) (c := goN h g2 (i + 1)) (A := A) .normal ?_ ⟨rfl, wk8s b n m g g2 q h _ hA ⟨.inr rfl, .inr rfl, .inr rfl, .inr rfl, .inr rfl, .inr rfl, .inr rfl, .inr rfl, trivial⟩ rfl⟩
    rw [p8sc, eta]
    refine condT (cb (by omega)) ?_
    refine condT (by rw [mi, wrap_id (by omega) (by omega)]; exact cb (by omega)) ?_
    refine condT (cb (by omega)) ?_
    refine condT (by simp only [Bool.and_true, Nat.zero_add, Int.toNat_natCast]; exact cb (by omega)) ?_
    rintro h' e rfl -
    rw [i64n i (by omega)]
    simp only [Nat.zero_add, Int.toNat_natCast]
    exact ⟨rfl, rfl, ids8s n m g g2 h _ hA, rfl, rfl, rfl⟩
  · refine step8s (i := ni (min m (60 - min n 60))) (h := h) (c := goN h g2 (min m (60 - min n 60))) (A := A) (.exit 0) ?_ ⟨rfl, wk8s b n m g g2 q h _ hA ⟨.inr rfl, .inr rfl, .inr rfl, .inr rfl, .inr rfl, .inr rfl, .inr rfl, .inl rfl, trivial⟩ rfl⟩
    rw [p8sc]
    by_cases hl : m ≤ 60 - min n 60
    · refine condF (cf (by omega)) ?_
      exact ⟨rfl, rfl, ids8s n m g g2 h _ hA, rfl, rfl, rfl⟩
    · refine condT (cb (by omega)) (condF (by rw [mi, wrap_id (by omega) (by omega)]; exact cf (by omega)) ?_)
      exact ⟨rfl, rfl, ids8s n m g g2 h _ hA, rfl, rfl, rfl⟩
theorem canon8s (b : Bool) (n m : Nat) (g g2 : Nat → Nat → Int) (hn : 0 < n) (hm : 0 < m) (hmm : m ≤ 8796093022000) : Canon Try.prog 8 [.bool b, .slice 0 0 2 n, .slice 1 0 2 m] [some (bD n g), some (bD m g2)] fun v _ => v = .bool true := by
  refine CodeOK.body Try.func8 (by kernel_rfl) ?_
  rw [code8]
  have hwf : WF (playN b g (min n 60)) := wf_play b g _
  have hp0 : 0 < min n 60 := by omega
  refine CodeOK.frontE (C := C7) ec gs7 mixed (u := 0) (len := 130) (rs := Try.f8.results.toList) (L := L8) (M := M8s) [c8_0, c8_1, c8_2, c8_3, c8_4] (show 2 ≤ 8 by decide) (Q := fun x vals B => ∃ A, Good A (min n 60 + m) (catG (min n 60) g g2) ∧ at8s b n m g g2 (min n 60 + m) .normal .top (playN b g (min n 60)) (playN b g (min n 60)) A x vals B) (kr := fun _ => False) ?_ ?_ fun fr hp h => (endK_no h).elim
  · show evalC C7 0 2 (.seq c8_0 (.seq c8_1 (.seq c8_2 (.seq c8_3 (.seq c8_4 .skip))))) (enterS 130 _) _ (obsE Try.prog Try.f8.results.toList L8 M8s _ _)
    rw [p8sa]
    refine ⟨isDo_bD n g, fun hd hh => ⟨isDo_bD n g, fun hd1 hh1 => ?_⟩⟩
    rw [playB_bD] at hh hh1
    subst hh1
    subst hh
    rw [eta]
    refine condF (wf_no hwf) ?_
    refine condT (by rw [mi]; simp only [Bool.and_eq_true, decide_eq_true_eq]; omega) ?_
    refine condT (by rw [mi]; exact cb (by omega)) ?_
    refine condT (by rw [mi]; exact cb (by omega)) ?_
    refine condF (by rw [mi]; exact cf (by omega)) ?_
    refine condT (by rw [mi, allOne_bD]; simp only [Bool.and_true, Bool.true_and, Bool.and_eq_true, decide_eq_true_eq]; omega) ?_
    refine condT (cb (by omega)) ?_
    refine condF (cf (by omega)) ?_
    refine condT (by rw [mi, allOne_bD]; simp only [Bool.and_true, Bool.true_and, Bool.and_eq_true, decide_eq_true_eq, Int.toNat_natCast, Nat.sub_zero, Nat.zero_add, and_true]; have := Nat.min_le_right n 60; omega) ?_
    simp only [mi, Int.toNat_natCast, Nat.zero_add, Int.toNat_zero, Nat.sub_zero]
    have key : ∀ A : Blk, A.sz = 2 → A.n = min n 60 + m → (∀ r, A.rd r = bif decide (r < min n 60) then (bif decide (r < 0) then A.rd r else (bD n g).rd r) else (bD m g2).rd (r - min n 60)) → Good A (min n 60 + m) (catG (min n 60) g g2) := fun A h1 h2 h3 => ⟨h1, h2, fun r hr => by
      rw [h3 r]
      unfold catG
      by_cases h : r < min n 60
      · rw [cb h, cf (Nat.not_lt_zero r), if_pos h, if_pos h]; rfl
      · rw [cf h, if_neg h, if_neg h]; rfl⟩
    refine ⟨rfl, rfl, ids8s n m g g2 (playN b g (min n 60)) (playN b g (min n 60)) (Good.no (q := min n 60 + m) (G := catG (min n 60) g g2) ?hG), _, ?hG, rfl, rfl, rfl⟩
    refine key _ rfl rfl fun r => ?_
    dsimp only
    cases decide (r < min n 60) <;> cases decide (r < 0) <;> rfl
  rintro x vals B ⟨A, hG, rfl, rfl, rfl⟩
  have hA := hG.no
  refine CodeOK.seq (CodeOK.seq (step8s (i := ni 0) (h := (playN b g (min n 60))) (c := (playN b g (min n 60))) (A := A) .normal ?_ (CodeOK.block (loop8s b n m g g2 (min n 60 + m) _ hA ?_))))
  · show evalC C7 0 2 c8_5 (f8s b n m (min n 60 + m) .top) (m8s n m g g2 (playN b g (min n 60)) (playN b g (min n 60)) A) _
    rw [p8sb]
    exact ⟨rfl, rfl, ids8s n m g g2 _ _ hA, rfl, rfl, rfl⟩
  show CodeOK Try.prog 2 (.seq c8_7 (.seq (.seq c8_8 (.block 2 (.loop c8_9))) c8_10)) (f8s b n m (min n 60 + m) .top) (m8s n m g g2 (playN b g (min n 60)) (goN (playN b g (min n 60)) g2 (min m (60 - min n 60))) A) (endK Try.prog Try.f8.results.toList _)
  refine CodeOK.eval (C := C7) ec gs7 mixed 64 ?_
  show evalC C7 64 2 (.seq c8_7 (.seq (.seq c8_8 (.block 2 (.loop c8_9))) c8_10)) (f8s b n m (min n 60 + m) .top) (m8s n m g g2 (playN b g (min n 60)) (goN (playN b g (min n 60)) g2 (min m (60 - min n 60))) A) (endK Try.prog Try.f8.results.toList fun v _ => v = .bool true)
  rw [p8sd]
  refine ⟨hG.isDo, fun hd hh => ?_⟩
  rw [hG.play, min_cat, cat_play] at hh
  subst hh
  simp only [bne_self_eq_false, cond_false, beq_self_eq_true, cond_true]

abbrev f8e (b : Bool) (m q : Nat) (i : SV) : List SV := tplF 130 L8 (v8e b m q i)
abbrev m8e (m : Nat) (g2 : Nat → Nat → Int) (h c : Hd) (A : Blk) : LHeap := (h8e m g2 h c A).map mkB
theorem ids8e (m : Nat) (g2 : Nat → Nat → Int) (h c : Hd) {A : Blk} (hA : NoIds A) : allIds 6 (h8e m g2 h c A) := ⟨fun _ _ => rfl, rfl, rfl, rfl, trivial, fun r hr => by rw [hA r hr]; rfl, trivial⟩
def at8e (b : Bool) (m : Nat) (g2 : Nat → Nat → Int) (q : Nat) (e : Ex) (i : SV) (h c : Hd) (A : Blk) : Ex → List SV → List BO → Prop := fun x vals B => x = e ∧ vals = v8e b m q i ∧ B = h8e m g2 h c A
theorem step8e {b : Bool} {m : Nat} {g2 : Nat → Nat → Int} {q : Nat} {i : SV} {h c : Hd} {A : Blk} (e : Ex) {cd : Code} {fr : List SV} {hp : LHeap} (hh : evalC C7 0 1 cd fr hp (obsN L8 M8e (seen 130 6 (at8e b m g2 q e i h c A)))) {K : KC} (hK : K e (f8e b m q i) (m8e m g2 h c A)) : CodeOK Try.prog 1 cd fr hp K :=
  (CodeOK.lookN (C := C7) ec gs7 mixed (u := 0) (M := M8e) (by decide) hh).st fun x vals B hh => by
    obtain ⟨rfl, rfl, rfl⟩ := hh
    exact hK
theorem wk8e (b : Bool) (m : Nat) (g2 : Nat → Nat → Int) (q : Nat) (h c : Hd) {A : Blk} (hA : NoIds A) {i i' : SV} (hv : ValW (v8e b m q i') (v8e b m q i)) (hi : ltAll 6 (svIdsL (v8e b m q i')) = true) : Weak 1 (f8e b m q i) (m8e m g2 h c A) (f8e b m q i') (m8e m g2 h c A) :=
  tpl_weak (B := h8e m g2 h c A) (R := []) hv hi (ids8e m g2 h c hA) (show 1 ≤ 6 by decide)
theorem loop8e (b : Bool) (m : Nat) (g2 : Nat → Nat → Int) (q : Nat) (h : Hd) {A : Blk} (hA : NoIds A) {K : KC} (hK : K (.exit 0) (f8e b m q .top) (m8e m g2 h (goN h g2 (min m 60)) A)) : CodeOK Try.prog 1 (.loop c8_6) (f8e b m q (ni 0)) (m8e m g2 h h A) K := by
  refine CodeOK.count (n := (min m 60)) (F := fun i => f8e b m q (ni i)) (H := fun i => m8e m g2 h (goN h g2 i) A) (fun i hi => ?_) ?_ hK
  · refine step8e (i := ni (i + 1 : Nat)) (h := h) (c := goN h g2 (i + 1)) (A := A) .normal ?_ ⟨rfl, wk8e b m g2 q h _ hA ⟨.inr rfl, .inr rfl, .inr rfl, .inr rfl, .inr rfl, .inr rfl, .inr rfl, .inr rfl, trivial⟩ rfl⟩
    rw [p8ec, eta]
    refine condT (cb (by omega)) ?_
    refine condT (by exact cb (by omega)) ?_
    refine condT (cb (by omega)) ?_
    refine condT (by simp only [Bool.and_true, Nat.zero_add, Int.toNat_natCast]; exact cb (by omega)) ?_
    rintro h' e rfl -
    rw [i64n i (by omega)]
    simp only [Nat.zero_add, Int.toNat_natCast]
    exact ⟨rfl, rfl, ids8e m g2 h _ hA, rfl, rfl, rfl⟩
  · refine step8e (i := ni (min m 60)) (h := h) (c := goN h g2 (min m 60)) (A := A) (.exit 0) ?_ ⟨rfl, wk8e b m g2 q h _ hA ⟨.inr rfl, .inr rfl, .inr rfl, .inr rfl, .inr rfl, .inr rfl, .inr rfl, .inl rfl, trivial⟩ rfl⟩
    rw [p8ec]
    by_cases hl : m ≤ 60
    · refine condF (cf (by omega)) ?_
      exact ⟨rfl, rfl, ids8e m g2 h _ hA, rfl, rfl, rfl⟩
    · refine condT (cb (by omega)) (condF (by exact cf (by omega)) ?_)
      exact ⟨rfl, rfl, ids8e m g2 h _ hA, rfl, rfl, rfl⟩
theorem canon8e (b : Bool) (m : Nat) (g2 : Nat → Nat → Int) (hm : 0 < m) (hmm : m ≤ 8796093022000) : Canon Try.prog 8 [.bool b, .eslice, .slice 0 0 2 m] [some (bD m g2)] fun v _ => v = .bool true := by
  refine CodeOK.body Try.func8 (by kernel_rfl) ?_
  rw [code8]
  have hwf : WF (newH b) := wf_new b
  refine CodeOK.frontE (C := C7) ec gs7 mixed (u := 0) (len := 130) (rs := Try.f8.results.toList) (L := L8) (M := M8e) [c8_0, c8_1, c8_2, c8_3, c8_4] (show 1 ≤ 6 by decide) (Q := fun x vals B => ∃ A, Good A m g2 ∧ at8e b m g2 m .normal .top (newH b) (newH b) A x vals B) (kr := fun _ => False) ?_ ?_ fun fr hp h => (endK_no h).elim
  · show evalC C7 0 1 (.seq c8_0 (.seq c8_1 (.seq c8_2 (.seq c8_3 (.seq c8_4 .skip))))) (enterS 130 _) _ (obsE Try.prog Try.f8.results.toList L8 M8e _ _)
    rw [p8ea]
    refine condT (cb (by omega)) ?_
    refine condF (cf (by omega)) ?_
    refine condT (by rw [allOne_bD]; simp only [Bool.and_true, Bool.true_and, Bool.and_eq_true, decide_eq_true_eq]; omega) ?_
    simp only [Nat.zero_add, Nat.sub_zero]
    have hG := (⟨rfl, rfl, fun r _ => rfl⟩ : Good ⟨2, m, fun r => [SV.int IntKind.i64 (g2 r 0), SV.int IntKind.i64 (g2 r 1)], true, 27⟩ m g2)
    exact ⟨rfl, rfl, ids8e m g2 (newH b) (newH b) hG.no, _, hG, rfl, rfl, rfl⟩
  rintro x vals B ⟨A, hG, rfl, rfl, rfl⟩
  have hA := hG.no
  refine CodeOK.seq (CodeOK.seq (step8e (i := ni 0) (h := (newH b)) (c := (newH b)) (A := A) .normal ?_ (CodeOK.block (loop8e b m g2 m _ hA ?_))))
  · show evalC C7 0 1 c8_5 (f8e b m m .top) (m8e m g2 (newH b) (newH b) A) _
    rw [p8eb]
    exact ⟨rfl, rfl, ids8e m g2 _ _ hA, rfl, rfl, rfl⟩
  show CodeOK Try.prog 1 (.seq c8_7 (.seq (.seq c8_8 (.block 2 (.loop c8_9))) c8_10)) (f8e b m m .top) (m8e m g2 (newH b) (goN (newH b) g2 (min m 60)) A) (endK Try.prog Try.f8.results.toList _)
  refine CodeOK.eval (C := C7) ec gs7 mixed 64 ?_
  show evalC C7 64 1 (.seq c8_7 (.seq (.seq c8_8 (.block 2 (.loop c8_9))) c8_10)) (f8e b m m .top) (m8e m g2 (newH b) (goN (newH b) g2 (min m 60)) A) (endK Try.prog Try.f8.results.toList fun v _ => v = .bool true)
  rw [p8ed]
  refine ⟨hG.isDo, fun hd hh => ?_⟩
  rw [hG.play, go_new] at hh
  subst hh
  simp only [bne_self_eq_false, cond_false, beq_self_eq_true, cond_true]
theorem canon8se (b : Bool) (n : Nat) (g : Nat → Nat → Int) (hn : 0 < n) : Canon Try.prog 8 [.bool b, .slice 0 0 2 n, .eslice] [some (bD n g)] fun v _ => v = .bool true := by
  refine CodeOK.body Try.func8 (by kernel_rfl) (CodeOK.eval (C := C7) ec gs7 mixed 64 ?_)
  show evalC C7 64 1 (bodF Try.f8) (enterS 130 [.bool b, .slice 0 0 2 n, .eslice]) [some (bD n g)] (endK Try.prog Try.f8.results.toList fun v _ => v = .bool true)
  rw [t8se]
  have hwf := wf_play b g (min n 60)
  have hp0 : 0 < min n 60 := by omega
  refine ⟨isDo_bD n g, fun hd hh => ⟨isDo_bD n g, fun hd1 hh1 => ?_⟩⟩
  rw [playB_bD] at hh hh1
  subst hh1
  subst hh
  rw [eta]
  refine condF (wf_no hwf) ?_
  refine condT (by rw [mi]; simp only [Bool.and_eq_true, decide_eq_true_eq]; omega) ?_
  refine condT (by rw [mi]; exact cb (by omega)) ?_
  refine condT (by rw [mi]; exact cb (by omega)) ?_
  refine condF (by rw [mi]; exact cf (by omega)) ?_
  refine condT (by rw [mi, allOne_bD]; simp only [Bool.and_true, Bool.true_and, Bool.and_eq_true, decide_eq_true_eq]; omega) ?_
  simp only [mi, Int.toNat_natCast, Nat.zero_add, Int.toNat_zero, Nat.sub_zero]
  have e : ∀ A : Blk, (∀ r, A.rd r = bif decide (r < 0) then A.rd r else (bD n g).rd r) → playB b A (min n 60) = playN b g (min n 60) := fun A hA => by
    unfold playB
    rw [show min (min n 60) 60 = min n 60 by omega]
    refine play_upto _ fun r _ => ?_
    rw [hA r, cf (Nat.not_lt_zero r)]
    exact ⟨rfl, rfl⟩
  refine ⟨⟨rfl, Nat.le_refl _, fun r _ => ⟨_, _, rfl⟩⟩, fun hd2 hh2 => ?_⟩
  rw [e _ (fun r => by dsimp only; cases decide (r < 0) <;> rfl)] at hh2
  subst hh2
  simp only [eta, bne_self_eq_false, cond_false, beq_self_eq_true, cond_true]
theorem canon8ee (b : Bool) : Canon Try.prog 8 [.bool b, .eslice, .eslice] [] fun v _ => v = .bool true := by
  refine evalF_ok (C := C7) ec gs7 mixed (u := 64) Try.func8 (by kernel_rfl) ?_
  show evalF C7 64 Try.f8 [.bool b, .eslice, .eslice] [] _
  rw [t8ee]
  refine ⟨⟨rfl, Nat.le_refl _, fun r hr => absurd hr (Nat.not_lt_zero r)⟩, fun hd hh => ?_⟩
  have hh : hd = newH b := hh
  subst hh
  cases b <;> rfl
/-- A slice that came in: empty, or rows. -/
theorem IsPairs.cases {w : World} {a : Option Addr} {len cap : Nat} (h : IsPairs w a len cap) : len = 0 ∨ 0 < len ∧ ∃ (b off : Nat) (g : Nat → Nat → Int), a = some ⟨b, off, none⟩ ∧ len ≤ cap ∧ ∀ φ : Phi, BAt φ ⟨b, off, cap⟩ (bD len g) w := by
  rcases Nat.eq_zero_or_pos len with h0 | hp
  · exact .inl h0
  · exact .inr ⟨hp, h.at hp⟩
theorem copies_any (b : Bool) (s : Option Addr) (len cap : Nat) (s2 : Option Addr) (len2 cap2 : Nat) (w : World) (h : IsPairs w s len cap) (h2 : IsPairs w s2 len2 cap2) (hl : len2 ≤ 8796093022000) :
    Calls Try.prog 8 #[.bool b, .slice s len cap, .slice s2 len2 cap2] w fun e w' => e = .returned (.bool true) ∧ Below w.heap.size w w' := by
  rcases h.cases with rfl | ⟨hn, b1, off1, g, rfl, hc1, hB1⟩ <;> rcases h2.cases with rfl | ⟨hm, b2, off2, g2, rfl, hc2, hB2⟩
  · exact lawOf (canon8ee b) (RL.cons (by simp [R]) (RL.cons (by simp [R]) (RL.cons (by simp [R]) RL.nil))) w
  · refine lawOfR (canon8e b len2 g2 hm hl) (fun id b hb => ?_) (φ := fun id => if id = 0 then some ⟨b2, off2, cap2⟩ else none) (w := w) (fun id hid => ?_) (fun id b' hb' => ?_) ?_
    · cases id with
      | zero => simp [hget] at hb; subst hb; rfl
      | succ id => simp [hget] at hb
    · have : id ≠ 0 := by simp at hid; omega
      simp [this]
    · cases id with
      | succ id => simp [hget] at hb'
      | zero =>
        simp [hget] at hb'
        subst hb'
        exact ⟨_, rfl, hB2 _⟩
    · refine RL.cons (by simp [R]) (RL.cons (by simp [R]) (RL.cons ?_ RL.nil))
      simp [R]
      omega
  · refine lawOfR (canon8se b len g hn) (fun id b hb => ?_) (φ := fun id => if id = 0 then some ⟨b1, off1, cap⟩ else none) (w := w) (fun id hid => ?_) (fun id b' hb' => ?_) ?_
    · cases id with
      | zero => simp [hget] at hb; subst hb; rfl
      | succ id => simp [hget] at hb
    · have : id ≠ 0 := by simp at hid; omega
      simp [this]
    · cases id with
      | succ id => simp [hget] at hb'
      | zero =>
        simp [hget] at hb'
        subst hb'
        exact ⟨_, rfl, hB1 _⟩
    · refine RL.cons (by simp [R]) (RL.cons ?_ (RL.cons (by simp [R]) RL.nil))
      simp [R]
      omega
  · refine lawOfR (canon8s b len len2 g g2 hn hm hl) (fun id b hb => ?_) (φ := fun id => if id = 0 then some ⟨b1, off1, cap⟩ else if id = 1 then some ⟨b2, off2, cap2⟩ else none) (w := w) (fun id hid => ?_) (fun id b' hb' => ?_) ?_
    · match id, hb with
      | 0, hb => simp [hget] at hb; subst hb; rfl
      | 1, hb => simp [hget] at hb; subst hb; rfl
      | id + 2, hb => simp [hget] at hb
    · have h0 : id ≠ 0 := by simp at hid; omega
      have h1 : id ≠ 1 := by simp at hid; omega
      simp [h0, h1]
    · match id, hb' with
      | 0, hb' =>
        simp [hget] at hb'
        subst hb'
        exact ⟨_, rfl, hB1 _⟩
      | 1, hb' =>
        simp [hget] at hb'
        subst hb'
        exact ⟨_, rfl, hB2 _⟩
      | id + 2, hb' => simp [hget] at hb'
    · refine RL.cons (by simp [R]) (RL.cons ?_ (RL.cons ?_ RL.nil))
      · simp [R]; omega
      · simp [R]; omega
end
end Go.Proofs.Ytllkhfabfcpieaa
