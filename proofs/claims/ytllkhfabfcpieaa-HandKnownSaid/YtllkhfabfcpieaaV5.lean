/-
  Chapter 16 by the engine: HandRefuses, HandStays, HandLives.
-/
import Derived.Test.YtllkhfabfcpieaaV4
import Derived.Test.YtllkhfabfcpieaaT5
import Derived.Test.YtllkhfabfcpieaaT6
import Derived.Test.YtllkhfabfcpieaaP4
namespace Go.Proofs.Ytllkhfabfcpieaa
open Go.RowKit
section
attribute [local irreducible] evalC
set_option maxRecDepth 100000
theorem playB_bD (b : Bool) (n : Nat) (g : Nat → Nat → Int) : playB b (bD n g) n = playN b g (min n 60) := play_congr (g := fun r j => rowI ((bD n g).rd r) j) (g' := g) (fun _ => ⟨rfl, rfl⟩) (min n 60)
theorem isDo_bD (n : Nat) (g : Nat → Nat → Int) : IsDo (bD n g) n := ⟨rfl, Nat.le_refl _, fun _ _ => ⟨_, _, rfl⟩⟩
theorem ok18 : SpecOK Try.prog 18 s18 := by
  intro args h base k hk
  unfold s18 at hk
  have hc := cal (f := 18) Try.func18 (by kernel_rfl) (by kernel_rfl)
  split at hk
  · rename_i b
    refine ⟨_, [], _, hk, newOK (hd := newH b) hc [.bool b, .nilSlice] [] [] rfl (fun i j x e => by simp at e) rfl (fun i b1 e => by rw [nob] at e; cases e) (CodeOK.body Try.func18 (by kernel_rfl) (CodeOK.eval (C := C4) ec gs4 mixed 64 ?_))⟩
    show evalC C4 64 0 (bodF Try.f18) (enterS 26 _) _ (endK Try.prog Try.f18.results.toList fun v hp => NewP 0 (newH b) v (obsP v hp))
    rw [n18 b (NewP 0 (newH b))]
    exact ⟨_, Nat.zero_le _, rfl, rfl⟩
  · rename_i b
    refine ⟨_, [], _, hk, newOK (hd := newH b) hc [.bool b, .eslice] [] [] rfl (fun i j x e => by simp at e) rfl (fun i b1 e => by rw [nob] at e; cases e) (CodeOK.body Try.func18 (by kernel_rfl) (CodeOK.eval (C := C4) ec gs4 mixed 64 ?_))⟩
    show evalC C4 64 0 (bodF Try.f18) (enterS 26 _) _ (endK Try.prog Try.f18.results.toList fun v hp => NewP 0 (newH b) v (obsP v hp))
    rw [e18 b (NewP 0 (newH b))]
    exact ⟨_, Nat.zero_le _, rfl, rfl⟩
  · rename_i b id n
    split at hk
    · rename_i blk hb
      obtain ⟨hd, hk⟩ := hk
      refine ⟨_, [], _, hk _ rfl, newOK hc [.bool b, .slice 0 0 2 n] [some (bD n fun r j => rowI (blk.rd r) j)] [id] rfl inj1 rfl (fun i b1 e => ?_) (canon18 b n _)⟩
      match i, e with
      | 0, e =>
        obtain rfl := Option.some.inj (show some (bD n fun r j => rowI (blk.rd r) j) = some b1 from e)
        refine ⟨rfl, id, blk, rfl, hb, WB.of_rows hd.sz.symm hd.le (fun q => nomatch q) (fun q => nomatch q) fun r hr => ?_⟩
        obtain ⟨x, y, e⟩ := hd.rd r hr
        refine ⟨?_, rfl⟩
        show [SV.int .i64 (rowI (blk.rd r) 0), SV.int .i64 (rowI (blk.rd r) 1)] = blk.rd r
        rw [e]
        rfl
      | i + 1, e => exact nomatch (show (none : Option Blk) = some b1 from e)
    · cases hk
  · cases hk
theorem gs7 : GSound C7 := gs6.add ok18
theorem okb11 : SpecOK Try.prog 11 b11 := weaken ok11 fun args hp base k hk => by
  unfold b11 at hk
  split at hk
  · rename_i i n
    unfold s11
    by_cases h3 : n = 3
    · subst h3
      simp only [beq_self_eq_true, cond_true] at hk
      obtain ⟨q0, q1, q2⟩ := hk
      show k (.int .i64 (i % 3)) [] []
      have : i % 3 = 0 ∨ i % 3 = 1 ∨ i % 3 = 2 := by omega
      rcases this with h | h | h
      · rw [h]; exact q0 h
      · rw [h]; exact q1 h
      · rw [h]; exact q2 h
    · rw [show (n == 3) = false by simp [h3], cond_false] at hk
      exact hk
  · cases hk
theorem gs8 : GSound C8 := gs7.add okb11
theorem refuses_tree (b : Bool) (n : Nat) (g : Nat → Nat → Int) (x y : Int) : evalC C7 64 1 (bodF Try.f4) (enterS 89 [.bool b, .slice 0 0 2 n, .agg [.int .i64 x, .int .i64 y]]) [some (bD n g)] (endK Try.prog Try.f4.results.toList fun v _ => v = .bool true) := by
  rw [t4 b n g x y (fun v => v = .bool true)]
  refine ⟨isDo_bD n g, fun h hh => ⟨isDo_bD n g, fun m hm h' e hh' he => ?_⟩⟩
  obtain rfl : m = h := hm.trans hh.symm
  rw [playB_bD] at hh
  have w : WF m := hh ▸ wf_play b g _
  rw [eta] at hh' he
  subst hh' he
  refine condSplit (fun q => ?_) fun q => ?_
  · have P := ref_no w q
    simp only [eta, P.lives 0 (by simp), P.lives 1 (by simp), P.lives 2 (by simp), P.has 0 (by simp), P.has 1 (by simp), P.has 2 (by simp), P.va, P.cf, P.su, bne_self_eq_false, cond_false, beq_self_eq_true, cond_true]
    rintro h'' e rfl rfl
    rw [P.e]
    simp
  · have P := ref_yes w q
    rintro h'' e rfl rfl
    rw [eta, P]
    cases hq : x % 6 == 2 <;> rfl
theorem refuses_e (b : Bool) (x y : Int) : evalF C7 64 Try.f4 [.bool b, .eslice, .agg [.int .i64 x, .int .i64 y]] [] (fun v _ => v = .bool true) := by
  rw [t4e b x y (fun v => v = .bool true)]
  have w := wf_new b
  rintro h' e hh he
  rw [eta] at hh he
  subst hh he
  refine condSplit (fun q => ?_) fun q => ?_
  · have P := ref_no w q
    have l0 : livesV (newH b) 0 = true := by cases b <;> decide
    have l1 : livesV (newH b) 1 = false := by cases b <;> decide
    have l2 : livesV (newH b) 2 = false := by cases b <;> decide
    have a0 : hasV (newH b) 0 = true := by cases b <;> decide
    have a1 : hasV (newH b) 1 = false := by cases b <;> decide
    have a2 : hasV (newH b) 2 = false := by cases b <;> decide
    have c0 : confV (newH b) = false := by cases b <;> decide
    simp only [eta, P.lives 0 (by simp), P.lives 1 (by simp), P.lives 2 (by simp), P.has 0 (by simp), P.has 1 (by simp), P.has 2 (by simp), P.va, P.cf, P.su, l0, l1, l2, a0, a1, a2, c0, bne_self_eq_false, cond_false, beq_self_eq_true, cond_true]
    rintro h'' e rfl rfl
    rw [P.e]
    simp
  · have P := ref_yes w q
    rintro h'' e rfl rfl
    rw [eta, P]
    cases hq : x % 6 == 2 <;> rfl
theorem refuses_any (b : Bool) (s : Option Addr) (len cap : Nat) (x y : Int) (w : World) (h : IsPairs w s len cap) : Calls Try.prog 4 #[.bool b, .slice s len cap, .agg #[.int .i64 x, .int .i64 y]] w fun e w' => e = .returned (.bool true) ∧ Below w.heap.size w w' := by
  refine lawP (pre := [.bool b]) (post := [.agg [.int .i64 x, .int .i64 y]]) (vpre := [.bool b]) (vpost := [.agg #[.int .i64 x, .int .i64 y]]) (by simp [RL, R]) (by simp [RL, R])
    (fun n g _ => CodeOK.body Try.func4 (by kernel_rfl) (CodeOK.eval (C := C7) ec gs7 mixed 64 (refuses_tree b n g x y))) (evalF_ok (C := C7) ec gs7 mixed (u := 64) Try.func4 (by kernel_rfl) (refuses_e b x y)) h
end
end Go.Proofs.Ytllkhfabfcpieaa
