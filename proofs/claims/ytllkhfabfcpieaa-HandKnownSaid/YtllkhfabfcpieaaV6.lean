/-
  Chapter 16 by the engine: HandStays, HandLives.
-/
import Derived.Test.YtllkhfabfcpieaaV5
namespace Go.Proofs.Ytllkhfabfcpieaa
open Go.RowKit
section
attribute [local irreducible] evalC
set_option maxRecDepth 100000
abbrev f7 (n : Nat) (i w s : SV) : List SV := tplF 115 L7 (v7 n i w s)
abbrev m7 (n : Nat) (g : Nat → Nat → Int) (h : Hd) : LHeap := (h7 n g h).map mkB
abbrev m7w (n : Nat) (g : Nat → Nat → Int) (h w : Hd) : LHeap := (h7w n g h w).map mkB
theorem ids7 (n : Nat) (g : Nat → Nat → Int) (h : Hd) : allIds 2 (h7 n g h) := ⟨fun _ _ => rfl, rfl, trivial⟩
theorem ids7w (n : Nat) (g : Nat → Nat → Int) (h w : Hd) : allIds 3 (h7w n g h w) := ⟨fun _ _ => rfl, rfl, rfl, trivial⟩
def at7 (e : Ex) (vs : List SV) (B0 : List BO) : Ex → List SV → List BO → Prop := fun x vals B => x = e ∧ vals = vs ∧ B = B0
theorem step7 {M : List Bool} (hM : 1 ≤ M.length) (e : Ex) (vs : List SV) (B0 : List BO) {c : Code} {fr : List SV} {hp : LHeap} (hh : evalC C7 0 1 c fr hp (obsN L7 M (seen 115 M.length (at7 e vs B0)))) {K : KC} (hK : K e (tplF 115 L7 vs) (B0.map mkB)) : CodeOK Try.prog 1 c fr hp K :=
  (CodeOK.lookN (C := C7) ec gs7 mixed (u := 0) hM hh).st fun x vals B hh => by
    obtain ⟨rfl, rfl, rfl⟩ := hh
    exact hK
theorem wk7 (n : Nat) (g : Nat → Nat → Int) (h : Hd) {i w s i' w' s' : SV} (hv : ValW (v7 n i' w' s') (v7 n i w s)) (hi : ltAll 2 (svIdsL (v7 n i' w' s')) = true) : Weak 1 (f7 n i w s) (m7 n g h) (f7 n i' w' s') (m7 n g h) :=
  tpl_weak (B := h7 n g h) (R := []) hv hi (ids7 n g h) (Nat.le_add_left 1 1)
theorem wk7w (n : Nat) (g : Nat → Nat → Int) (h m : Hd) {i w s i' w' s' : SV} (hv : ValW (v7 n i' w' s') (v7 n i w s)) (hi : ltAll 3 (svIdsL (v7 n i' w' s')) = true) : Weak 1 (f7 n i w s) (m7w n g h m) (f7 n i' w' s') (m7w n g h m) :=
  tpl_weak (B := h7w n g h m) (R := []) hv hi (ids7w n g h m) (Nat.le_add_left 1 2)
theorem wk72 (n : Nat) (g : Nat → Nat → Int) (h m : Hd) {i w s i' w' s' : SV} (hv : ValW (v7 n i' w' s') (v7 n i w s)) (hi : ltAll 2 (svIdsL (v7 n i' w' s')) = true) : Weak 1 (f7 n i w s) (m7w n g h m) (f7 n i' w' s') (m7 n g h) :=
  tpl_weak (B := h7 n g h) (R := [hbO m]) hv hi (ids7 n g h) (Nat.le_add_left 1 1)
theorem round9 (n : Nat) (g : Nat → Nat → Int) (h w : Hd) (i s : Nat) (hs : s < 3) (P : StayP w h) : evalC C7 0 1 c7_9 (f7 n (ni i) (.ptr 2 0 7 0) (ni s)) (m7w n g h w) (obsN L7 [false, true, true] (seen 115 3 (at7 .normal (v7 n (ni i) (.ptr 2 0 7 0) (ni (s + 1 : Nat))) (h7w n g h w)))) := by
  rw [p7_9]
  obtain ⟨q1, q2, q3⟩ := P.t s (by omega)
  rw [eta h, eta w]
  simp only [cb (show (s : Int) < 3 by omega), cond_true, i64n s (by omega)]
  repeat' (refine condSplit (fun q => ?_) fun q => ?_)
  all_goals first
    | exact ⟨rfl, rfl, ids7w n g h w, rfl, rfl, rfl⟩
    | (simp_all; done)
theorem round10 (n : Nat) (g : Nat → Nat → Int) (h w : Hd) (i : Nat) (P : StayP w h) : evalC C7 0 1 c7_10 (f7 n (ni i) (.ptr 2 0 7 0) .top) (m7w n g h w) (obsN L7 [false, true, true] (seen 115 3 (at7 .normal (v7 n (ni i) (.ptr 2 0 7 0) .top) (h7w n g h w)))) := by
  rw [p7_10]
  have q1 := P.va; have q2 := P.cf; have q3 := P.su; have q4 := P.all
  rw [eta h, eta w]
  repeat' (refine condSplit (fun q => ?_) fun q => ?_)
  all_goals first
    | exact ⟨rfl, rfl, ids7w n g h w, rfl, rfl, rfl⟩
    | (simp_all; done)
theorem sloop (n : Nat) (g : Nat → Nat → Int) (h w : Hd) (i : Nat) (P : StayP w h) {K : KC} (hK : K (.exit 2) (f7 n (ni i) (.ptr 2 0 7 0) .top) (m7w n g h w)) : CodeOK Try.prog 1 (.loop c7_9) (f7 n (ni i) (.ptr 2 0 7 0) (ni 0)) (m7w n g h w) K := by
  refine CodeOK.count (n := 3) (F := fun s => f7 n (ni i) (.ptr 2 0 7 0) (ni s)) (H := fun _ => m7w n g h w) (fun s hs => ?_) ?_ hK
  · exact step7 (M := [false, true, true]) (by decide) .normal _ _ (round9 n g h w i s hs P) ⟨rfl, wk7w n g h w ⟨.inr rfl, .inr rfl, .inr rfl, .inr rfl, .inr rfl, .inr rfl, trivial⟩ rfl⟩
  · refine step7 (M := [false, true, true]) (by decide) (.exit 2) (v7 n (ni i) (.ptr 2 0 7 0) (ni 3)) (h7w n g h w) ?_ ⟨rfl, wk7w n g h w ⟨.inr rfl, .inr rfl, .inr rfl, .inr rfl, .inr rfl, .inl rfl, trivial⟩ rfl⟩
    rw [p7_9]
    exact ⟨rfl, rfl, ids7w n g h w, rfl, rfl, rfl⟩
theorem loop7 (n : Nat) (g : Nat → Nat → Int) (b : Bool) {K : KC} (hK : K (.exit 0) (f7 n .top .top .top) (m7 n g (playN b g (min n 60)))) : CodeOK Try.prog 1 (.loop (.seq c7_4 (.seq (.block 1 (.seq c7_5 (.seq c7_6 (.seq c7_7 (.seq (.seq c7_8 (.block 2 (.loop c7_9))) c7_10))))) c7_11))) (f7 n (ni 0) .top .top) (m7 n g (newH b)) K := by
  refine CodeOK.count (n := min n 60) (F := fun i => f7 n (ni i) .top .top) (H := fun i => m7 n g (playN b g i)) (fun i hi => ?_) ?_ hK
  · refine CodeOK.seq (step7 (M := [false, true]) (by decide) .normal (v7 n (ni i) .top .top) (h7 n g (playN b g i)) ?_ ?_)
    · rw [p7_4, cb (show (i : Int) < n by omega), cb (show (i : Int) < 60 by omega)]
      exact ⟨rfl, rfl, ids7 n g (playN b g i), rfl, rfl, rfl⟩
    have P : StayP (playN b g i) (playN b g (i + 1)) := stay (wf_play b g i) _ _
    refine CodeOK.seq (CodeOK.block ?_)
    refine CodeOK.frontN (C := C7) ec gs7 mixed (u := 0) (len := 115) (L := L7) (M := [false, true, true]) [c7_5, c7_6, c7_7] (Nat.le_add_left 1 2) (Q := at7 .normal (v7 n (ni i) (.ptr 2 0 7 0) .top) (h7w n g (playN b g (i + 1)) (playN b g i))) ?_ ?_
    · show evalC C7 0 1 (.seq c7_5 (.seq c7_6 (.seq c7_7 .skip))) (f7 n (ni i) .top .top) (m7 n g (playN b g i)) _
      rw [p7_5, eta, P.no]
      simp only [Nat.zero_add, Int.toNat_natCast, cb (show (i : Int) < n by omega), cb (show i < n by omega), cond_true, cond_false, Bool.and_true]
      rintro h' e rfl -
      exact ⟨rfl, rfl, ids7w n g _ _, rfl, rfl, rfl⟩
    rintro x vals B ⟨rfl, rfl, rfl⟩
    refine CodeOK.seq (CodeOK.seq (step7 (M := [false, true, true]) (by decide) .normal (v7 n (ni i) (.ptr 2 0 7 0) (ni 0)) (h7w n g (playN b g (i + 1)) (playN b g i)) ?_ (CodeOK.block (sloop n g _ _ i P ?_))))
    · show evalC C7 0 1 c7_8 (f7 n (ni i) (.ptr 2 0 7 0) .top) (m7w n g (playN b g (i + 1)) (playN b g i)) _
      rw [p7_8]
      exact ⟨rfl, rfl, ids7w n g (playN b g (i + 1)) (playN b g i), rfl, rfl, rfl⟩
    refine step7 (M := [false, true, true]) (by decide) .normal _ _ (round10 n g (playN b g (i + 1)) (playN b g i) i P) ?_
    show CodeOK Try.prog 1 c7_11 (f7 n (ni i) (.ptr 2 0 7 0) .top) (m7w n g (playN b g (i + 1)) (playN b g i)) _
    refine CodeOK.pre (wk72 n g (playN b g (i + 1)) (playN b g i) (i' := ni i) (w' := .top) (s' := .top) ⟨.inr rfl, .inr rfl, .inr rfl, .inr rfl, .inl rfl, .inr rfl, trivial⟩ rfl) ?_
    refine step7 (M := [false, true]) (by decide) .normal (v7 n (ni (i + 1 : Nat)) .top .top) (h7 n g (playN b g (i + 1))) ?_ ⟨rfl, wk7 n g _ ⟨.inr rfl, .inr rfl, .inr rfl, .inr rfl, .inr rfl, .inr rfl, trivial⟩ rfl⟩
    rw [p7_11, i64n i (by omega)]
    exact ⟨rfl, rfl, ids7 n g (playN b g (i + 1)), rfl, rfl, rfl⟩
  · refine CodeOK.seq (step7 (M := [false, true]) (by decide) (.exit 0) (v7 n (ni (min n 60)) .top .top) (h7 n g (playN b g (min n 60))) ?_ ⟨rfl, wk7 n g _ ⟨.inr rfl, .inr rfl, .inr rfl, .inl rfl, .inr rfl, .inr rfl, trivial⟩ rfl⟩)
    rw [p7_4]
    by_cases h : n ≤ 60
    · rw [cf (show ¬ ((min n 60 : Nat) : Int) < n by omega)]
      exact ⟨rfl, rfl, ids7 n g (playN b g (min n 60)), rfl, rfl, rfl⟩
    · rw [cb (show ((min n 60 : Nat) : Int) < n by omega), cf (show ¬ ((min n 60 : Nat) : Int) < 60 by omega)]
      exact ⟨rfl, rfl, ids7 n g (playN b g (min n 60)), rfl, rfl, rfl⟩
theorem canon7 (b : Bool) (n : Nat) (g : Nat → Nat → Int) : Canon Try.prog 7 [.bool b, .slice 0 0 2 n] [some (bD n g)] fun v _ => v = .bool true := by
  refine CodeOK.body Try.func7 (by kernel_rfl) ?_
  rw [code7]
  refine CodeOK.frontN (C := C7) ec gs7 mixed (u := 0) (len := 115) (L := L7) (M := [false, true]) [c7_0, c7_1, c7_2] (Nat.le_add_left 1 1) (Q := at7 .normal (v7 n .top .top .top) (h7 n g (newH b))) ?_ ?_
  · show evalC C7 0 1 (.seq c7_0 (.seq c7_1 (.seq c7_2 .skip))) (enterS 115 _) _ _
    rw [p7a]
    exact ⟨rfl, rfl, ids7 n g (newH b), rfl, rfl, rfl⟩
  rintro x vals B ⟨rfl, rfl, rfl⟩
  refine CodeOK.seq (CodeOK.seq (step7 (M := [false, true]) (by decide) .normal (v7 n (ni 0) .top .top) (h7 n g (newH b)) ?_ (CodeOK.block (loop7 n g b ?_))))
  · show evalC C7 0 1 c7_3 (f7 n .top .top .top) (m7 n g (newH b)) _
    rw [p7_3]
    exact ⟨rfl, rfl, ids7 n g (newH b), rfl, rfl, rfl⟩
  show CodeOK Try.prog 1 c7_12 (f7 n .top .top .top) (m7 n g (playN b g (min n 60))) (endK Try.prog Try.f7.results.toList _)
  refine CodeOK.eval (C := C7) ec gs7 mixed 0 ?_
  show evalC C7 0 1 c7_12 (f7 n .top .top .top) (m7 n g (playN b g (min n 60))) (endK Try.prog Try.f7.results.toList fun v _ => v = .bool true)
  rw [p7_12 n g _ (fun v => v = .bool true)]
theorem stays_any (b : Bool) (s : Option Addr) (len cap : Nat) (w : World) (h : IsPairs w s len cap) : Calls Try.prog 7 #[.bool b, .slice s len cap] w fun e w' => e = .returned (.bool true) ∧ Below w.heap.size w w' := by
  refine lawP (pre := [.bool b]) (post := []) (vpre := [.bool b]) (vpost := []) (by simp [RL, R]) (by simp [RL]) (fun n g _ => canon7 b n g) (evalF_ok (C := C7) ec gs7 mixed (u := 64) Try.func7 (by kernel_rfl) ?_) h
  show evalF C7 64 Try.f7 [.bool b, .eslice] [] _
  rw [t7e b (fun v => v = .bool true)]
/-! ### HandLives -/
abbrev f5 (n : Nat) (i : SV) : List SV := tplF 106 L5 (v5 n i)
abbrev m5 (n : Nat) (g : Nat → Nat → Int) (h : Hd) (k0 k1 k2 g0 g1 g2 : Bool) : LHeap := (h5 n g h k0 k1 k2 g0 g1 g2).map mkB
abbrev h5p (n : Nat) (g : Nat → Nat → Int) (h m : Hd) : List BO := h5 n g h (hasV m 0) (hasV m 1) (hasV m 2) (goneV m 0) (goneV m 1) (goneV m 2)
abbrev m5p (n : Nat) (g : Nat → Nat → Int) (h m : Hd) : LHeap := (h5p n g h m).map mkB
theorem ids5 (n : Nat) (g : Nat → Nat → Int) (h : Hd) (k0 k1 k2 g0 g1 g2 : Bool) : allIds 4 (h5 n g h k0 k1 k2 g0 g1 g2) := ⟨fun _ _ => rfl, rfl, rfl, rfl, trivial⟩
def at5 (n : Nat) (e : Ex) (i : SV) (B0 : List BO) : Ex → List SV → List BO → Prop := fun x vals B => x = e ∧ vals = v5 n i ∧ B = B0
theorem step5 {C : Ctx} (hP : C.P = Try.prog) (hE : EqOK C) (gs : GSound C) {n : Nat} {i : SV} (e : Ex) (B0 : List BO) {c : Code} {fr : List SV} {hp : LHeap} (hh : evalC C 0 1 c fr hp (obsN L5 M5 (seen 106 4 (at5 n e i B0)))) {K : KC} (hK : K e (f5 n i) (B0.map mkB)) : CodeOK Try.prog 1 c fr hp K := by
  rw [← hP]
  refine (CodeOK.lookN (C := C) hE gs (by rw [hP]; exact mixed) (u := 0) (M := M5) (Nat.le_add_left 1 3) hh).st fun x vals B hh => ?_
  obtain ⟨rfl, rfl, rfl⟩ := hh
  exact hK
theorem wk5 (n : Nat) (g : Nat → Nat → Int) (h : Hd) (k0 k1 k2 g0 g1 g2 : Bool) {i i' : SV} (hv : ValW (v5 n i') (v5 n i)) (hi : ltAll 4 (svIdsL (v5 n i')) = true) : Weak 1 (f5 n i) (m5 n g h k0 k1 k2 g0 g1 g2) (f5 n i') (m5 n g h k0 k1 k2 g0 g1 g2) :=
  tpl_weak (B := h5 n g h k0 k1 k2 g0 g1 g2) (R := []) hv hi (ids5 n g h k0 k1 k2 g0 g1 g2) (Nat.le_add_left 1 3)
theorem round5 (n : Nat) (g : Nat → Nat → Int) (h m : Hd) (w : WF m) (i : Nat) (hi : i < n) (hi2 : i < 60) : evalC C8 0 1 c5_4 (f5 n (ni i)) (m5p n g h m) (obsN L5 M5 (seen 106 4 (at5 n .normal (ni (i + 1 : Nat)) (h5p n g h (callH m (g i 0) (g i 1)))))) := by
  rw [p5c]
  obtain ⟨a0, b0⟩ := live_step w (g i 0) (g i 1) (t := 0) (.inl rfl)
  obtain ⟨a1, b1⟩ := live_step w (g i 0) (g i 1) (t := 1) (.inr (.inl rfl))
  obtain ⟨a2, b2⟩ := live_step w (g i 0) (g i 1) (t := 2) (.inr (.inr rfl))
  simp only [Nat.zero_add, Int.toNat_natCast, cb (show (i : Int) < n by omega), cb (show (i : Int) < 60 by omega), cb hi, cond_true, Bool.and_true, i64n i (by omega)]
  refine ⟨fun s => ?_, fun s => ?_, fun s => ?_⟩ <;> (
    repeat' (refine condSplit (fun q => ?_) fun q => ?_)
    all_goals
      refine ⟨rfl, rfl, ids5 n g h _ _ _ _ _ _, rfl, rfl, ?_⟩
      simp_all [h5, bD, hbO, b3O, hC])
theorem loop5 (n : Nat) (g : Nat → Nat → Int) (h : Hd) (b : Bool) {K : KC} (hK : K (.exit 0) (f5 n .top) (m5p n g h (playN b g (min n 60)))) : CodeOK Try.prog 1 (.loop c5_4) (f5 n (ni 0)) (m5p n g h (newH b)) K := by
  refine CodeOK.count (n := min n 60) (F := fun i => f5 n (ni i)) (H := fun i => m5p n g h (playN b g i)) (fun i hi => ?_) ?_ hK
  · exact step5 (C := C8) rfl ec gs8 .normal _ (round5 n g h (playN b g i) (wf_play b g i) i (by omega) (by omega)) ⟨rfl, wk5 n g h _ _ _ _ _ _ ⟨.inr rfl, .inr rfl, .inr rfl, .inr rfl, .inr rfl, .inr rfl, trivial⟩ rfl⟩
  · refine step5 (C := C8) rfl ec gs8 (i := ni (min n 60)) (.exit 0) (h5p n g h (playN b g (min n 60))) ?_ ⟨rfl, wk5 n g h _ _ _ _ _ _ ⟨.inr rfl, .inr rfl, .inr rfl, .inr rfl, .inr rfl, .inl rfl, trivial⟩ rfl⟩
    rw [p5c]
    by_cases h : n ≤ 60
    · rw [cf (show ¬ ((min n 60 : Nat) : Int) < n by omega)]
      exact ⟨rfl, rfl, ids5 n g _ _ _ _ _ _ _, rfl, rfl, rfl⟩
    · rw [cb (show ((min n 60 : Nat) : Int) < n by omega), cf (show ¬ ((min n 60 : Nat) : Int) < 60 by omega)]
      exact ⟨rfl, rfl, ids5 n g _ _ _ _ _ _ _, rfl, rfl, rfl⟩
theorem end5 (n : Nat) (g : Nat → Nat → Int) (h : Hd) (w : WF h) : evalC C7 64 1 c5_5 (f5 n .top) (m5p n g h h) (endK Try.prog Try.f5.results.toList fun v _ => v = .bool true) := by
  obtain ⟨sv, e0, e1, e2, va, cf, an⟩ := h
  have w0 := w.e0; have w1 := w.e1; have w2 := w.e2
  dsimp only at w0 w1 w2
  rcases w0 with rfl | rfl <;> rcases w1 with rfl | rfl | rfl <;> rcases w2 with rfl | rfl
  · exact (p5d_100 n g sv va cf an (fun v => v = .bool true)).mpr rfl
  · exact (p5d_101 n g sv va cf an (fun v => v = .bool true)).mpr rfl
  · exact (p5d_110 n g sv va cf an (fun v => v = .bool true)).mpr rfl
  · exact (p5d_111 n g sv va cf an (fun v => v = .bool true)).mpr rfl
  · exact (p5d_120 n g sv va cf an (fun v => v = .bool true)).mpr rfl
  · exact (p5d_121 n g sv va cf an (fun v => v = .bool true)).mpr rfl
  · exact (p5d_200 n g sv va cf an (fun v => v = .bool true)).mpr rfl
  · exact (p5d_201 n g sv va cf an (fun v => v = .bool true)).mpr rfl
  · exact (p5d_210 n g sv va cf an (fun v => v = .bool true)).mpr rfl
  · exact (p5d_211 n g sv va cf an (fun v => v = .bool true)).mpr rfl
  · exact (p5d_220 n g sv va cf an (fun v => v = .bool true)).mpr rfl
  · exact (p5d_221 n g sv va cf an (fun v => v = .bool true)).mpr rfl
theorem canon5 (b : Bool) (n : Nat) (g : Nat → Nat → Int) : Canon Try.prog 5 [.bool b, .slice 0 0 2 n] [some (bD n g)] fun v _ => v = .bool true := by
  refine CodeOK.body Try.func5 (by kernel_rfl) ?_
  rw [code5]
  refine CodeOK.frontN (C := C7) ec gs7 mixed (u := 0) (len := 106) (L := L5) (M := M5) [c5_0, c5_1, c5_2] (Nat.le_add_left 1 3) (Q := at5 n .normal .top (h5p n g (playN b g (min n 60)) (newH b))) ?_ ?_
  · show evalC C7 0 1 (.seq c5_0 (.seq c5_1 (.seq c5_2 .skip))) (enterS 106 _) _ _
    rw [p5a]
    refine ⟨isDo_bD n g, fun hd hh => ?_⟩
    rw [playB_bD] at hh
    subst hh
    cases b <;> exact ⟨rfl, rfl, ids5 n g _ _ _ _ _ _ _, rfl, rfl, rfl⟩
  rintro x vals B ⟨rfl, rfl, rfl⟩
  refine CodeOK.seq (CodeOK.seq (step5 (C := C7) rfl ec gs7 (i := ni 0) .normal (h5p n g (playN b g (min n 60)) (newH b)) ?_ (CodeOK.block (loop5 n g _ b ?_))))
  · show evalC C7 0 1 c5_3 (f5 n .top) (m5p n g (playN b g (min n 60)) (newH b)) _
    rw [p5b]
    exact ⟨rfl, rfl, ids5 n g _ _ _ _ _ _ _, rfl, rfl, rfl⟩
  show CodeOK Try.prog 1 c5_5 (f5 n .top) (m5p n g (playN b g (min n 60)) (playN b g (min n 60))) (endK Try.prog Try.f5.results.toList _)
  exact CodeOK.eval (C := C7) ec gs7 mixed 64 (end5 n g _ (wf_play b g _))
theorem lives_any (b : Bool) (s : Option Addr) (len cap : Nat) (w : World) (h : IsPairs w s len cap) : Calls Try.prog 5 #[.bool b, .slice s len cap] w fun e w' => e = .returned (.bool true) ∧ Below w.heap.size w w' := by
  refine lawP (pre := [.bool b]) (post := []) (vpre := [.bool b]) (vpost := []) (by simp [RL, R]) (by simp [RL]) (fun n g _ => canon5 b n g) (evalF_ok (C := C7) ec gs7 mixed (u := 64) Try.func5 (by kernel_rfl) ?_) h
  show evalF C7 64 Try.f5 [.bool b, .eslice] [] _
  rw [t5e b (fun v => v = .bool true)]
end
end Go.Proofs.Ytllkhfabfcpieaa
