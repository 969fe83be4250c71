/-
  Chapter 19 by the engine: Bring by cases, a deed; ProbeTwice, ProbeFirst.
-/
import Derived.Test.YtfhkmagpgbcnjaaV6
import Derived.Test.YtfhkmagpgbcnjaaT8
namespace Go.Proofs.Ytfhkmagpgbcnjaa
open Go.RowKit

theorem b23_s23 : ∀ args hp base k, b23 args hp base k → s23 args hp base k := fun args hp base k hk => by
  unfold b23 at hk
  split at hk
  · rename_i i n
    by_cases h3 : n = 3
    · subst h3
      have hk : (i % 3 = 0 → k (.int .i64 0) [] []) ∧ (i % 3 = 1 → k (.int .i64 1) [] []) ∧ (i % 3 = 2 → k (.int .i64 2) [] []) := hk
      show k (.int .i64 (i % 3)) [] []
      rcases (by omega : i % 3 = 0 ∨ i % 3 = 1 ∨ i % 3 = 2) with h | h | h <;> rw [h]
      · exact hk.1 h
      · exact hk.2.1 h
      · exact hk.2.2 h
    by_cases h4 : n = 4
    · subst h4
      have hk : (i % 4 = 0 → k (.int .i64 0) [] []) ∧ (i % 4 = 1 → k (.int .i64 1) [] []) ∧ (i % 4 = 2 → k (.int .i64 2) [] []) ∧ (i % 4 = 3 → k (.int .i64 3) [] []) := hk
      show k (.int .i64 (i % 4)) [] []
      rcases (by omega : i % 4 = 0 ∨ i % 4 = 1 ∨ i % 4 = 2 ∨ i % 4 = 3) with h | h | h | h <;> rw [h]
      · exact hk.1 h
      · exact hk.2.1 h
      · exact hk.2.2.1 h
      · exact hk.2.2.2 h
    by_cases h27 : n = 27
    · subst h27
      have hk : ∀ r : Int, (0 ≤ r ∧ r < 27 ∧ r = i % 27) → k (.int .i64 r) [] [] := hk
      exact hk (i % 27) ⟨by omega, by omega, rfl⟩
    · rw [show (n == 3) = false by simpa using h3, show (n == 4) = false by simpa using h4, show (n == 27) = false by simpa using h27] at hk
      exact hk.elim
  · cases hk
theorem f23_s23 : ∀ args hp base k, f23 args hp base k → s23 args hp base k := fun args hp base k hk => by
  unfold f23 at hk
  split at hk
  · rename_i i n
    by_cases h27 : n = 27
    · subst h27
      show k (.int .i64 (i % 27)) [] []
      simp only [beq_self_eq_true, cond_true] at hk
      obtain ⟨h0, h1, h2, h3, h4, h5, h6, h7, h8, h9, h10, h11, h12, h13, h14, h15, h16, h17, h18, h19, h20, h21, h22, h23, h24, h25, h26⟩ := hk
      have hd : i % 27 = 0 ∨ i % 27 = 1 ∨ i % 27 = 2 ∨ i % 27 = 3 ∨ i % 27 = 4 ∨ i % 27 = 5 ∨ i % 27 = 6 ∨ i % 27 = 7 ∨ i % 27 = 8 ∨ i % 27 = 9 ∨ i % 27 = 10 ∨ i % 27 = 11 ∨ i % 27 = 12 ∨ i % 27 = 13 ∨ i % 27 = 14 ∨ i % 27 = 15 ∨ i % 27 = 16 ∨ i % 27 = 17 ∨ i % 27 = 18 ∨ i % 27 = 19 ∨ i % 27 = 20 ∨ i % 27 = 21 ∨ i % 27 = 22 ∨ i % 27 = 23 ∨ i % 27 = 24 ∨ i % 27 = 25 ∨ i % 27 = 26 := by omega
      rcases hd with hr | hr | hr | hr | hr | hr | hr | hr | hr | hr | hr | hr | hr | hr | hr | hr | hr | hr | hr | hr | hr | hr | hr | hr | hr | hr | hr
      · rw [hr]; exact h0 hr
      · rw [hr]; exact h1 hr
      · rw [hr]; exact h2 hr
      · rw [hr]; exact h3 hr
      · rw [hr]; exact h4 hr
      · rw [hr]; exact h5 hr
      · rw [hr]; exact h6 hr
      · rw [hr]; exact h7 hr
      · rw [hr]; exact h8 hr
      · rw [hr]; exact h9 hr
      · rw [hr]; exact h10 hr
      · rw [hr]; exact h11 hr
      · rw [hr]; exact h12 hr
      · rw [hr]; exact h13 hr
      · rw [hr]; exact h14 hr
      · rw [hr]; exact h15 hr
      · rw [hr]; exact h16 hr
      · rw [hr]; exact h17 hr
      · rw [hr]; exact h18 hr
      · rw [hr]; exact h19 hr
      · rw [hr]; exact h20 hr
      · rw [hr]; exact h21 hr
      · rw [hr]; exact h22 hr
      · rw [hr]; exact h23 hr
      · rw [hr]; exact h24 hr
      · rw [hr]; exact h25 hr
      · rw [hr]; exact h26 hr
    · rw [show (n == 27) = false by simpa using h27] at hk
      exact hk.elim
  · cases hk
theorem gs8 : GSound C8 := (((((((((((((((GSound.none.add ok16).add ok17).add ok18).add ok19).add ok20).add ok21).add (weaken ok9 l9_s9)).add (weaken ok10 l9_s9)).add (weaken ok12 l12_s12)).add (weaken ok13 l12_s12)).add (weaken ok14 l14_s14)).add (weaken ok15 l14_s14)).add ok11).add (weaken ok23 b23_s23)).add ok22)
theorem gs9 : GSound C9 := (GSound.add (gs5.add ok22) (weaken ok23 f23_s23))
theorem ok24 : SpecOK Try.prog 24 d24 := by
  intro args h base k hk
  unfold d24 at hk
  split at hk
  · rename_i a b c kd sp
    obtain ⟨h1, hk⟩ := hk
    refine ⟨_, [], [], hk _ _ _ _ ⟨rfl, rfl, rfl, rfl⟩, plainOK gs8 Try.func24 (by kernel_rfl) (by kernel_rfl) ?_ rfl rfl h base⟩
    show evalF C8 64 Try.f24 _ [] _
    rw [t24 a b c kd sp (fun v => v = _)]
    rcases (by omega : sp % 3 = 0 ∨ sp % 3 = 1 ∨ sp % 3 = 2) with hs | hs | hs <;> rcases (by omega : kd % 4 = 0 ∨ kd % 4 = 1 ∨ kd % 4 = 2 ∨ kd % 4 = 3) with hd | hd | hd | hd <;> simp [hs, hd] <;>
      (rintro x y z e ⟨rfl, rfl, rfl, rfl⟩; simp [gE, gV, dE, mayE, h1])
  · cases hk
theorem gs10 : GSound C10 := gs7.add ok24
theorem gs11 : GSound C11 := gs8.add ok24

theorem dem0 {a b c m x y z e : Int} (h1 : ok3 a b c = true) (hm : 1 ≤ m ∧ m ≤ 2) (h : AnsP (dE a b c 0 m) 0 (mx (at3 a b c 0) m) a b c x y z e) : x = mx a m ∧ y = b ∧ z = c ∧ e = 0 := by
  obtain ⟨rfl, rfl, rfl, rfl⟩ := h
  simp [dE, mayE, h1, hm, zi, put, at3]
theorem dem1 {a b c m x y z e : Int} (h1 : ok3 a b c = true) (hm : 1 ≤ m ∧ m ≤ 2) (h : AnsP (dE a b c 1 m) 1 (mx (at3 a b c 1) m) a b c x y z e) : x = a ∧ y = mx b m ∧ z = c ∧ e = 0 := by
  obtain ⟨rfl, rfl, rfl, rfl⟩ := h
  simp [dE, mayE, h1, hm, zi, put, at3]
theorem dem2 {a b c m x y z e : Int} (h1 : ok3 a b c = true) (hm : 1 ≤ m ∧ m ≤ 2) (h : AnsP (dE a b c 2 m) 2 (mx (at3 a b c 2) m) a b c x y z e) : x = a ∧ y = b ∧ z = mx c m ∧ e = 0 := by
  obtain ⟨rfl, rfl, rfl, rfl⟩ := h
  simp [dE, mayE, h1, hm, zi, put, at3]
theorem ok3_of {a b c : Int} (h1 : 0 ≤ a ∧ a ≤ 2) (h2 : 0 ≤ b ∧ b ≤ 2) (h3 : 0 ≤ c ∧ c ≤ 2) : ok3 a b c = true := by simp [ok3, is2, h1, h2, h3]
theorem mx_in {a m : Int} (h : 0 ≤ a ∧ a ≤ 2) (hm : 1 ≤ m ∧ m ≤ 2) : 0 ≤ mx a m ∧ mx a m ≤ 2 := by unfold mx; split <;> omega
/-- A number of 27 is three of three. -/
theorem three_of (r : Int) (h1 : 0 ≤ r) (h2 : r < 27) : (0 ≤ r.tmod 3 ∧ r.tmod 3 ≤ 2) ∧ (0 ≤ (IntKind.i64.wrap (r.tdiv 3)).tmod 3 ∧ (IntKind.i64.wrap (r.tdiv 3)).tmod 3 ≤ 2) ∧ (0 ≤ IntKind.i64.wrap (r.tdiv 9) ∧ IntKind.i64.wrap (r.tdiv 9) ≤ 2) := by
  have e1 : r.tdiv 3 = r / 3 := Int.tdiv_eq_ediv_of_nonneg h1
  have e2 : r.tdiv 9 = r / 9 := Int.tdiv_eq_ediv_of_nonneg h1
  have e3 : r.tmod 3 = r % 3 := Int.tmod_eq_emod_of_nonneg h1
  have e4 : (r / 3).tmod 3 = (r / 3) % 3 := Int.tmod_eq_emod_of_nonneg (by omega)
  rw [e1, e2, e3, wrap_id (n := r / 3) (by omega) (by omega), wrap_id (n := r / 9) (by omega) (by omega), e4]
  omega
theorem twice_any (n sp : Int) (w : World) : Calls Try.prog 6 #[.int .i64 n, .int .i64 sp] w fun e w' => e = .returned (.bool true) ∧ Below w.heap.size w w' := by
  refine lawOf (args := [.int .i64 n, .int .i64 sp]) (evalF_ok (C := C8) ec gs8 mixed (u := 64) Try.func6 (by kernel_rfl) ?_) (vs := [.int .i64 n, .int .i64 sp]) ?_ w
  · rw [t6 n sp (fun v => v = .bool true)]
    rintro r ⟨r1, r2, -⟩
    obtain ⟨ha, hb, hc⟩ := three_of r r1 r2
    generalize r.tmod 3 = a at *
    generalize (IntKind.i64.wrap (r.tdiv 3)).tmod 3 = b at *
    generalize IntKind.i64.wrap (r.tdiv 9) = c at *
    clear r1 r2
    have hok := ok3_of ha hb hc
    have m1 : (1 : Int) ≤ 1 ∧ (1 : Int) ≤ 2 := ⟨by omega, by omega⟩
    have m2 : (1 : Int) ≤ 2 ∧ (2 : Int) ≤ 2 := ⟨by omega, by omega⟩
    refine ⟨fun _ => ?_, fun _ => ?_, fun _ => ?_⟩
    · intro x y z e h1 x1 y1 z1 e1 h2
      obtain ⟨rfl, rfl, rfl, rfl⟩ := dem0 hok m1 h1
      obtain ⟨rfl, rfl, rfl, rfl⟩ := dem0 hok m2 h2
      intro x y z e h3 x1 y1 z1 e1 h4 x2 y2 z2 e2 h5
      obtain ⟨rfl, rfl, rfl, rfl⟩ := dem0 (ok3_of (mx_in ha m1) hb hc) m1 h3
      obtain ⟨rfl, rfl, rfl, rfl⟩ := dem0 (ok3_of (mx_in ha m1) hb hc) m2 h4
      obtain ⟨rfl, rfl, rfl, rfl⟩ := dem0 (ok3_of (mx_in ha m2) hb hc) m1 h5
      rcases (by omega : a = 0 ∨ a = 1 ∨ a = 2) with rfl | rfl | rfl <;> simp [mx]
    · intro x y z e h1 x1 y1 z1 e1 h2
      obtain ⟨rfl, rfl, rfl, rfl⟩ := dem1 hok m1 h1
      obtain ⟨rfl, rfl, rfl, rfl⟩ := dem1 hok m2 h2
      intro x y z e h3 x1 y1 z1 e1 h4 x2 y2 z2 e2 h5
      obtain ⟨rfl, rfl, rfl, rfl⟩ := dem1 (ok3_of ha (mx_in hb m1) hc) m1 h3
      obtain ⟨rfl, rfl, rfl, rfl⟩ := dem1 (ok3_of ha (mx_in hb m1) hc) m2 h4
      obtain ⟨rfl, rfl, rfl, rfl⟩ := dem1 (ok3_of ha (mx_in hb m2) hc) m1 h5
      rcases (by omega : b = 0 ∨ b = 1 ∨ b = 2) with rfl | rfl | rfl <;> simp [mx]
    · intro x y z e h1 x1 y1 z1 e1 h2
      obtain ⟨rfl, rfl, rfl, rfl⟩ := dem2 hok m1 h1
      obtain ⟨rfl, rfl, rfl, rfl⟩ := dem2 hok m2 h2
      intro x y z e h3 x1 y1 z1 e1 h4 x2 y2 z2 e2 h5
      obtain ⟨rfl, rfl, rfl, rfl⟩ := dem2 (ok3_of ha hb (mx_in hc m1)) m1 h3
      obtain ⟨rfl, rfl, rfl, rfl⟩ := dem2 (ok3_of ha hb (mx_in hc m1)) m2 h4
      obtain ⟨rfl, rfl, rfl, rfl⟩ := dem2 (ok3_of ha hb (mx_in hc m2)) m1 h5
      rcases (by omega : c = 0 ∨ c = 1 ∨ c = 2) with rfl | rfl | rfl <;> simp [mx]
  · simp [RL, R]
theorem first_any (n : Int) (w : World) : Calls Try.prog 7 #[.int .i64 n] w fun e w' => e = .returned (.bool true) ∧ Below w.heap.size w w' := by
  refine lawOf (args := [.int .i64 n]) (evalF_ok (C := C9) ec gs9 mixed (u := 64) Try.func7 (by kernel_rfl) ?_) (vs := [.int .i64 n]) ?_ w
  · rw [t7 n (fun v => v = .bool true)]
    simp
  · simp [RL, R]
end Go.Proofs.Ytfhkmagpgbcnjaa
