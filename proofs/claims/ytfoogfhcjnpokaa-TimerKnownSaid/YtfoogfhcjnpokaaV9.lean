/-
  Chapter 18 by the engine: the laws but for TimerArmed and TimerKnown.
-/
import Derived.Test.YtfoogfhcjnpokaaP3
import Derived.Test.YtfoogfhcjnpokaaT9
namespace Go.Proofs.Ytfoogfhcjnpokaa
open Go.RowKit
theorem weaken {f : FuncId} {s s' : Spec} (h : SpecOK Try.prog f s) (hw : ∀ args hp base k, s' args hp base k → s args hp base k) : SpecOK Try.prog f s' :=
  fun args hp base k hk => h args hp base k (hw args hp base k hk)
theorem l16_s16 : ∀ args hp base k, l16 args hp base k → s16 args hp base k := fun args hp base k hk => by
  unfold l16 at hk
  split at hk
  · exact hk _ rfl
  · cases hk
theorem gs9 : GSound C9 := (((((gs1.add ok15).add ok19).add (weaken ok16 l16_s16)).add (weaken ok17 l16_s16)).add ok9).add ok18
theorem ok10 : SpecOK Try.prog 10 l10 := by
  intro args h base k hk
  unfold l10 at hk
  split at hk
  · rename_i k0 a0 b0 n0 k1 a1 b1 n1 k2 a2 b2 n2 cf lm pr now
    refine ⟨_, [], [], hk _ rfl, plainOK gs9 Try.func10 (by kernel_rfl) (by kernel_rfl) ?_ rfl rfl h base⟩
    show evalF C9 64 Try.f10 [fc ⟨k0, a0, b0, n0, k1, a1, b1, n1, k2, a2, b2, n2, cf, lm, pr, now⟩] [] _
    rw [t10 _ (fun v => v = _)]
    rintro x rfl
    rfl
  · cases hk
theorem gs10 : GSound C10 := gs9.add ok10
theorem ok12 : SpecOK Try.prog 12 s12 := by
  intro args h base k hk
  unfold s12 at hk
  split at hk
  · refine ⟨_, [], [], hk, plainOK gs10 Try.func12 (by kernel_rfl) (by kernel_rfl) ?_ rfl rfl h base⟩
    show evalF C10 64 Try.f12 [] [] _
    rw [t12 (fun v => v = _)]
    intro x hx
    rw [show x = (2, 1, 6400005) by rw [hx]; decide +kernel]
    intro x hx
    rw [show x = (1, 2, 9) by rw [hx]; decide +kernel]
    intro x hx
    rw [show x = (0, 0, -1) by rw [hx]; decide +kernel]
    intro x hx
    rw [show x = (2, 2, 16400007) by rw [hx]; decide +kernel]
    intro x hx
    rw [show x = (2, 0, 6400100) by rw [hx]; decide +kernel]
    intro x hx
    rw [show x = (0, 0, -1) by rw [hx]; decide +kernel]
    rfl
  · cases hk
theorem gs11 : GSound C11 := gs10.add ok12
theorem okb11 : SpecOK Try.prog 11 b11 := weaken ok11 fun args hp base k hk => by
  unfold b11 at hk
  split at hk
  · rename_i i n
    unfold s11
    by_cases h3 : n = 3
    · subst h3
      simp only [beq_self_eq_true, cond_true] at hk
      obtain ⟨q0, q1, q2⟩ := hk
      show k (.int .i64 (i % 3)) [] []
      have : i % 3 = 0 ∨ i % 3 = 1 ∨ i % 3 = 2 := by omega
      rcases this with h | h | h
      · rw [h]; exact q0 h
      · rw [h]; exact q1 h
      · rw [h]; exact q2 h
    · rw [show (n == 3) = false by simp [h3], cond_false] at hk
      exact hk
  · cases hk
theorem gs12 : GSound C12 := gs11.add okb11
theorem first_any (b l a m w : Int) (W : World) : Calls Try.prog 3 #[.agg #[.int .i64 b, .int .i64 l, .int .i64 a, .int .i64 m], .int .i64 w] W fun e w' => e = .returned (.bool true) ∧ Below W.heap.size W w' := by
  refine lawOf (args := [.agg (rwL ⟨b, l, a, m⟩), .int .i64 w]) (evalF_ok (C := C11) ec gs11 mixed (u := 64) Try.func3 (by kernel_rfl) ?_) (vs := [.agg #[.int .i64 b, .int .i64 l, .int .i64 a, .int .i64 m], .int .i64 w]) ?_ W
  · rw [t3 ⟨b, l, a, m⟩ w (fun v => v = .bool true)]
    intro F hF x hx
    subst hF
    have hx : x = dueC (madeF ⟨b, l, a, m⟩ ⟨b, l, a, m⟩ ⟨b, l, a, m⟩ 1 w) := hx
    show bif bitI .and .i64 (b % 8) 6 == 0 then _ else _
    rw [and6 b]
    cases h2 : bt b 2 <;> cases h4 : bt b 4
    · rcases first_none (x := ⟨b, l, a, m⟩) (w := w) h2 h4 with h | h
      · rw [hx, h]; rfl
      · rw [hx]
        show bif _ then _ else bif (dueC _).2.1 == 1 then _ else _
        rw [h]
        cases (dueC (madeF ⟨b, l, a, m⟩ ⟨b, l, a, m⟩ ⟨b, l, a, m⟩ 1 w)).1 == 0 <;> rfl
    all_goals
      obtain ⟨g1, g2⟩ := first_some (x := ⟨b, l, a, m⟩) (w := w) (by first | exact .inl h2 | exact .inr h4)
      rw [hx]
      show bif decide (0 < (dueC _).1) then (bif (dueC _).2.1 == 0 then _ else _) else _
      rw [g2, decide_eq_true g1]
      rfl
  · simp [RL, R, rwL]
theorem tells_any (k0 : Bool) (a0 b0 n0 : Int) (k1 : Bool) (a1 b1 n1 : Int) (k2 : Bool) (a2 b2 n2 : Int) (cf lm pr : Bool) (now l m s v f d c mo : Int) (W : World) : Calls Try.prog 5 #[.agg #[.bool k0, .int .i64 a0, .int .i64 b0, .int .i64 n0, .bool k1, .int .i64 a1, .int .i64 b1, .int .i64 n1, .bool k2, .int .i64 a2, .int .i64 b2, .int .i64 n2, .bool cf, .bool lm, .bool pr, .int .i64 now], .agg #[.int .i64 l, .int .i64 m, .int .i64 s, .int .i64 v, .int .i64 f, .int .i64 d, .int .i64 c, .int .i64 mo]] W fun e w' => e = .returned (.bool true) ∧ Below W.heap.size W w' := by
  refine lawOf (args := [fc ⟨k0, a0, b0, n0, k1, a1, b1, n1, k2, a2, b2, n2, cf, lm, pr, now⟩, .agg [.int .i64 l, .int .i64 m, .int .i64 s, .int .i64 v, .int .i64 f, .int .i64 d, .int .i64 c, .int .i64 mo]]) (evalF_ok (C := C11) ec gs11 mixed (u := 64) Try.func5 (by kernel_rfl) ?_)
    (vs := [.agg #[.bool k0, .int .i64 a0, .int .i64 b0, .int .i64 n0, .bool k1, .int .i64 a1, .int .i64 b1, .int .i64 n1, .bool k2, .int .i64 a2, .int .i64 b2, .int .i64 n2, .bool cf, .bool lm, .bool pr, .int .i64 now], .agg #[.int .i64 l, .int .i64 m, .int .i64 s, .int .i64 v, .int .i64 f, .int .i64 d, .int .i64 c, .int .i64 mo]]) ?_ W
  · rw [t5 _ l m s v f d c mo (fun v => v = .bool true)]
    rintro x rfl y hy
    rw [← hy]
    simp
  · simp [RL, R, fc, fcL]
theorem wrapB {n m : Int} (h1 : -1 ≤ n) (h2 : n < 1125899906842624) : IntKind.i64.wrap (n + m % 1099511627776) = n + m % 1099511627776 := wrap_id (by omega) (by omega)
theorem late_any (p0 q0 r0 s0 p1 q1 r1 s1 p2 q2 r2 s2 b n0 n1 n2 n3 : Int) (W : World) : Calls Try.prog 7 #[.agg #[.int .i64 p0, .int .i64 q0, .int .i64 r0, .int .i64 s0, .int .i64 p1, .int .i64 q1, .int .i64 r1, .int .i64 s1, .int .i64 p2, .int .i64 q2, .int .i64 r2, .int .i64 s2], .int .i64 b, .agg #[.int .i64 n0, .int .i64 n1, .int .i64 n2, .int .i64 n3]] W fun e w' => e = .returned (.bool true) ∧ Below W.heap.size W w' := by
  refine lawOf (args := [.agg (rw3 ⟨p0, q0, r0, s0⟩ ⟨p1, q1, r1, s1⟩ ⟨p2, q2, r2, s2⟩), .int .i64 b, .agg [.int .i64 n0, .int .i64 n1, .int .i64 n2, .int .i64 n3]]) (evalF_ok (C := C11) ec gs11 mixed (u := 64) Try.func7 (by kernel_rfl) ?_)
    (vs := [.agg #[.int .i64 p0, .int .i64 q0, .int .i64 r0, .int .i64 s0, .int .i64 p1, .int .i64 q1, .int .i64 r1, .int .i64 s1, .int .i64 p2, .int .i64 q2, .int .i64 r2, .int .i64 s2], .int .i64 b, .agg #[.int .i64 n0, .int .i64 n1, .int .i64 n2, .int .i64 n3]]) ?_ W
  · rw [t7 _ _ _ b n0 n1 n2 n3 (fun v => v = .bool true)]
    intro F hF x hx y hy
    have M : Md F := hF ▸ made_ok _ _ _ _ _
    have hb0 : -1 ≤ F.b0 ∧ F.b0 < 1125899906842624 := by have := M.b0; omega
    have hb1 : -1 ≤ F.b1 ∧ F.b1 < 1125899906842624 := by have := M.b1; omega
    have hb2 : -1 ≤ F.b2 ∧ F.b2 < 1125899906842624 := by have := M.b2; omega
    have hw := M.w
    rw [wrapB hb0.1 hb0.2, wrapB hb1.1 hb1.2, wrapB hb2.1 hb2.2, wrapB (n := F.now) (by omega) hw.2]
    generalize hlo : (if n2 % (12 : Int) < n1 % (12 : Int) then n2 % (12 : Int) else n1 % (12 : Int)) = lo at hx ⊢
    generalize hhi : (if n2 % (12 : Int) > n1 % (12 : Int) then n2 % (12 : Int) else n1 % (12 : Int)) = hi at hy ⊢
    have r0 : 0 ≤ lo ∧ lo ≤ hi ∧ hi < 12 := by
      rw [← hlo, ← hhi]
      split <;> split <;> omega
    have ws := waits_grow' r0.1 r0.2.1 r0.2.2
    have e0 : Later F F := ⟨rfl, rfl, rfl, rfl, rfl, rfl, rfl, rfl, rfl, rfl, rfl, by omega, by omega, by omega, Int.le_refl _⟩
    have L1 : Lt x y := by
      rw [show x = _ from hx, show y = _ from hy, pickV_eq, pickV_eq]
      exact late e0 M.bd M.bd ws.1 ws.2.1 ws.2.2
    have main : ∀ G : Fc, Later F G → Bd G → ∀ z : D3, z = pickV G 100 100 2000000 300000 0 1000000 lo 8 → (bif z.1 == x.1 then (bif decide (x.2.2 ≤ z.2.2) then (SV.bool true = SV.bool true) else (SV.bool false = SV.bool true)) else (SV.bool false = SV.bool true)) := by
      intro G h1 h2 z hz
      have : Lt x z := by
        rw [show x = _ from hx, hz, pickV_eq, pickV_eq]
        exact late h1 M.bd h2 (Int.le_refl _) (Int.le_refl _) (Int.le_refl _)
      rcases this with rfl | ⟨g1, g2, g3⟩
      · simp
      · rw [g1, g2, decide_eq_true g3]
        rfl
    have b0 := M.b0; have b1 := M.b1; have b2 := M.b2
    have B := M.bd
    have x1 : (x.1 != y.1) = false := by
      rcases L1 with rfl | ⟨g1, g2, g3⟩
      · simp
      · rw [g1, g2]; rfl
    have x2 : decide (y.2.2 < x.2.2) = false := by
      rcases L1 with rfl | ⟨g1, g2, g3⟩
      · simp
      · simp; omega
    rw [x1, x2, cond_false]
    refine condSplit (fun x3 => ?_) fun x3 => ?_
    · have x4 : (!(x.1 == y.1 && (x.2.1 == y.2.1 && (x.2.2 == y.2.2 && true)))) = false := by
        rcases L1 with rfl | ⟨g1, g2, g3⟩
        · simp
        · rw [g1] at x3; exact absurd x3 (by decide)
      rw [x4, cond_false, cond_false]
      refine condSplit (fun e0 => ?_) fun e0 => ?_ <;> refine condSplit (fun e1 => ?_) fun e1 => ?_ <;> refine condSplit (fun e2 => ?_) fun e2 => ?_ <;>
        (simp at e0 e1 e2; exact main _ ⟨rfl, rfl, rfl, rfl, rfl, rfl, rfl, rfl, rfl, rfl, rfl, by dsimp only; omega, by dsimp only; omega, by dsimp only; omega, by dsimp only; omega⟩ ⟨B.a0, B.a1, B.a2, by dsimp only; omega, by dsimp only; omega, by dsimp only; omega, B.n0, B.n1, B.n2, by dsimp only; omega⟩)
    · rw [cond_false]
      refine condSplit (fun e0 => ?_) fun e0 => ?_ <;> refine condSplit (fun e1 => ?_) fun e1 => ?_ <;> refine condSplit (fun e2 => ?_) fun e2 => ?_ <;>
        (simp at e0 e1 e2; exact main _ ⟨rfl, rfl, rfl, rfl, rfl, rfl, rfl, rfl, rfl, rfl, rfl, by dsimp only; omega, by dsimp only; omega, by dsimp only; omega, by dsimp only; omega⟩ ⟨B.a0, B.a1, B.a2, by dsimp only; omega, by dsimp only; omega, by dsimp only; omega, B.n0, B.n1, B.n2, by dsimp only; omega⟩)
  · simp [RL, R, rw3]
theorem eqD {x y : D3} (h : x = y) : (x.1 == y.1 && (x.2.1 == y.2.1 && (x.2.2 == y.2.2 && true))) = true := by
  subst h; simp
theorem alone_any (sp b l a m bits : Int) (W : World) : Calls Try.prog 8 #[.int .i64 sp, .agg #[.int .i64 b, .int .i64 l, .int .i64 a, .int .i64 m], .int .i64 bits] W fun e w' => e = .returned (.bool true) ∧ Below W.heap.size W w' := by
  refine lawOf (args := [.int .i64 sp, .agg (rwL ⟨b, l, a, m⟩), .int .i64 bits]) (evalF_ok (C := C12) ec gs12 mixed (u := 64) Try.func8 (by kernel_rfl) ?_) (vs := [.int .i64 sp, .agg #[.int .i64 b, .int .i64 l, .int .i64 a, .int .i64 m], .int .i64 bits]) ?_ W
  · rw [t8 sp ⟨b, l, a, m⟩ bits (fun v => v = .bool true)]
    have h4 : ∀ (l a m : Int), 0 < manyR ⟨bitI .or .i64 b 4, l, a, m⟩ ∧ 0 ≤ lastR ⟨bitI .or .i64 b 4, l, a, m⟩ := fun l a m => by
      unfold manyR lastR
      simp only [bt_or, if_true]
      omega
    have z1 : lossR ⟨0, 0, 0, 0⟩ = -1 := by decide
    have z2 : manyR ⟨0, 0, 0, 0⟩ = 0 := by decide
    refine ⟨fun _ => ?_, fun _ => ?_, fun _ => ?_⟩ <;> intro F hF x hx y hy <;> have M : Md F := hF ▸ made_ok _ _ _ _ _ <;> have B := M.bd
    · have n0 : 0 < F.n0 := by rw [hF]; exact (h4 l a m).1
      have b0 : F.b0 ≠ -1 := by have : 0 ≤ F.b0 := by rw [hF]; exact (h4 l a m).2
                                omega
      have a1 : F.a1 = -1 := by rw [hF]; exact z1
      have a2 : F.a2 = -1 := by rw [hF]; exact z1
      have n1 : F.n1 = 0 := by rw [hF]; exact z2
      have n2 : F.n2 = 0 := by rw [hF]; exact z2
      have ex : x = aloneD 0 F.a0 F.b0 6400000 := hx.trans (alone0 ⟨B.a0, B.a1, B.a2, B.b0, B.b1, B.b2, B.n0, B.n1, B.n2, B.w⟩ rfl a1 a2 n0 b0 n1 n2)
      have ey : y = aloneD 0 F.a0 F.b0 6400000 := hy.trans (alone0 ⟨B.a0, B.a1, B.a2, B.b0, B.b1, B.b2, B.n0, B.n1, B.n2, B.w⟩ rfl a1 a2 n0 b0 n1 n2)
      rw [eqD (ex.trans ey.symm), ex]
      obtain ⟨g1, g2⟩ := aloneD_kind 0 F.a0 F.b0 6400000
      rw [g1, decide_eq_true g2]
      rfl
    · have n0 : 0 < F.n1 := by rw [hF]; exact (h4 l a m).1
      have b0 : F.b1 ≠ -1 := by have : 0 ≤ F.b1 := by rw [hF]; exact (h4 l a m).2
                                omega
      have a1 : F.a0 = -1 := by rw [hF]; exact z1
      have a2 : F.a2 = -1 := by rw [hF]; exact z1
      have n1 : F.n0 = 0 := by rw [hF]; exact z2
      have n2 : F.n2 = 0 := by rw [hF]; exact z2
      have ex : x = aloneD 1 F.a1 F.b1 6400000 := hx.trans (alone1 ⟨B.a0, B.a1, B.a2, B.b0, B.b1, B.b2, B.n0, B.n1, B.n2, B.w⟩ rfl a1 a2 n0 b0 n1 n2)
      have ey : y = aloneD 1 F.a1 F.b1 6400000 := hy.trans (alone1 ⟨B.a0, B.a1, B.a2, B.b0, B.b1, B.b2, B.n0, B.n1, B.n2, B.w⟩ rfl a1 a2 n0 b0 n1 n2)
      rw [eqD (ex.trans ey.symm), ex]
      obtain ⟨g1, g2⟩ := aloneD_kind 1 F.a1 F.b1 6400000
      rw [g1, decide_eq_true g2]
      rfl
    · have n0 : 0 < F.n2 := by rw [hF]; exact (h4 l a m).1
      have b0 : F.b2 ≠ -1 := by have : 0 ≤ F.b2 := by rw [hF]; exact (h4 l a m).2
                                omega
      have a1 : F.a0 = -1 := by rw [hF]; exact z1
      have a2 : F.a1 = -1 := by rw [hF]; exact z1
      have n1 : F.n0 = 0 := by rw [hF]; exact z2
      have n2 : F.n1 = 0 := by rw [hF]; exact z2
      have ex : x = aloneD 2 F.a2 F.b2 16400000 := hx.trans (alone2 ⟨B.a0, B.a1, B.a2, B.b0, B.b1, B.b2, B.n0, B.n1, B.n2, B.w⟩ rfl rfl a1 a2 n0 b0 n1 n2)
      have ey : y = aloneD 2 F.a2 F.b2 16400000 := hy.trans (alone2 ⟨B.a0, B.a1, B.a2, B.b0, B.b1, B.b2, B.n0, B.n1, B.n2, B.w⟩ rfl rfl a1 a2 n0 b0 n1 n2)
      rw [eqD (ex.trans ey.symm), ex]
      obtain ⟨g1, g2⟩ := aloneD_kind 2 F.a2 F.b2 16400000
      rw [g1, decide_eq_true g2]
      rfl
  · simp [RL, R, rwL]
end Go.Proofs.Ytfoogfhcjnpokaa
