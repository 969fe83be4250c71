/-
  Chapter 11: what becomes of a window, in plain words.
-/
import Derived.Test.YtefjhkgkdmjopaaP
namespace Go.Proofs.Ytefjhkgkdmjopaa
/-- A first window, out of numbers. -/
def mD (x : Int) : Int := 1200 + x % 64328
def mM (x z : Int) : Int := 2 * mD x + z % (1099511627776 - 2 * mD x + 1)
def mC (x y z : Int) : Int := 2 * mD x + y % (mM x z - 2 * mD x + 1)
def madeW (x y z : Int) : Wn := newW (mD x) (mC x y z) (mM x z)
/-- A thing that happens. -/
structure Th where
  k : Int
  t : Int
  n : Int
  s : Int
  f : Bool
def stepW (w : Wn) (x : Th) : Wn :=
  bif x.k % 8 == 5 || x.k % 8 == 6 then bad1 w (x.t % 9007199254740992) (x.n % 9007199254740992)
  else bif x.k % 8 == 7 then col1 w
  else ack1 w (x.t % 9007199254740992) (1 + x.s % 65535) x.f
theorem mayd {w : Wn} (h : mayW w = true) : 1200 ≤ w.d ∧ w.d ≤ 65527 ∧ w.m ≤ 1099511627776 ∧ 2 * w.d ≤ w.c ∧ w.c ≤ w.m ∧ 0 ≤ w.g ∧ w.g < w.c ∧ (w.t = -1 ∨ w.d ≤ w.t ∧ w.t ≤ w.m) ∧ (w.s = -1 ∨ 0 ≤ w.s ∧ w.s ≤ 9007199254740991) := of_decide_eq_true h
theorem mayi {w : Wn} (h : 1200 ≤ w.d ∧ w.d ≤ 65527 ∧ w.m ≤ 1099511627776 ∧ 2 * w.d ≤ w.c ∧ w.c ≤ w.m ∧ 0 ≤ w.g ∧ w.g < w.c ∧ (w.t = -1 ∨ w.d ≤ w.t ∧ w.t ≤ w.m) ∧ (w.s = -1 ∨ 0 ≤ w.s ∧ w.s ≤ 9007199254740991)) : mayW w = true := decide_eq_true h
theorem mD_le (x : Int) : 1200 ≤ mD x ∧ mD x ≤ 65527 := by unfold mD; omega
theorem mM_le (x z : Int) : 2 * mD x ≤ mM x z ∧ mM x z ≤ 1099511627776 := by
  have := mD_le x
  unfold mM
  have h1 := Int.emod_nonneg z (show 1099511627776 - 2 * mD x + 1 ≠ 0 by omega)
  have h2 := Int.emod_lt_of_pos z (show 0 < 1099511627776 - 2 * mD x + 1 by omega)
  omega
theorem mC_le (x y z : Int) : 2 * mD x ≤ mC x y z ∧ mC x y z ≤ mM x z := by
  have := mD_le x
  have := mM_le x z
  unfold mC
  have h1 := Int.emod_nonneg y (show mM x z - 2 * mD x + 1 ≠ 0 by omega)
  have h2 := Int.emod_lt_of_pos y (show 0 < mM x z - 2 * mD x + 1 by omega)
  omega
theorem may_made (x y z : Int) : mayW (madeW x y z) = true := by
  have h1 := mD_le x
  have h2 := mM_le x z
  have h3 := mC_le x y z
  refine mayi ?_
  show 1200 ≤ mD x ∧ mD x ≤ 65527 ∧ mM x z ≤ 1099511627776 ∧ 2 * mD x ≤ mC x y z ∧ mC x y z ≤ mM x z ∧ 0 ≤ (0 : Int) ∧ 0 < mC x y z ∧ ((-1 : Int) = -1 ∨ _) ∧ ((-1 : Int) = -1 ∨ _)
  exact ⟨h1.1, h1.2, h2.2, h3.1, h3.2, by omega, by omega, .inl rfl, .inl rfl⟩
theorem slowF_ends {d m : Int} (hd : 1200 ≤ d) : ∀ (n : Nat) (g c : Int), 0 ≤ g → g ≤ n → 2 * d ≤ c → c ≤ m → 0 ≤ (slowF d m n g c).1 ∧ (slowF d m n g c).1 < (slowF d m n g c).2 ∧ 2 * d ≤ (slowF d m n g c).2 ∧ (slowF d m n g c).2 ≤ m ∧ c ≤ (slowF d m n g c).2
  | 0, g, c, h1, h2, h3, h4 => by
    simp only [slowF]
    omega
  | n + 1, g, c, h1, h2, h3, h4 => by
    by_cases h : c ≤ g
    · rw [slowF, if_pos h]
      have hm : 2 * d ≤ minI (c + d) m ∧ minI (c + d) m ≤ m ∧ c ≤ minI (c + d) m := by unfold minI; split <;> omega
      have := slowF_ends hd n (g - c) (minI (c + d) m) (by omega) (by omega) hm.1 hm.2.1
      omega
    · rw [slowF, if_neg h]
      dsimp only
      omega
theorem may_slow {w : Wn} (h : mayW w = true) {n : Int} (hn : 0 ≤ n) : mayW (slowW w n) = true ∧ w.c ≤ (slowW w n).c := by
  have hw := mayd h
  have := slowF_ends (d := w.d) (m := w.m) hw.1 (w.g + n).toNat (w.g + n) w.c (by omega) (by omega) hw.2.2.2.1 hw.2.2.2.2.1
  obtain ⟨h1, h2, h3, h4, h5⟩ := this
  exact ⟨mayi ⟨hw.1, hw.2.1, hw.2.2.1, h3, h4, h1, h2, hw.2.2.2.2.2.2.2⟩, h5⟩
theorem may_grow {w : Wn} (h : mayW w = true) {n : Int} (hn : 0 ≤ n) : mayW (growW w n) = true ∧ w.c ≤ (growW w n).c := by
  have hw := mayd h
  have hm : w.c ≤ minI (w.c + n) w.m ∧ minI (w.c + n) w.m ≤ w.m := by unfold minI; split <;> omega
  refine ⟨mayi ?_, hm.1⟩
  show 1200 ≤ w.d ∧ w.d ≤ 65527 ∧ w.m ≤ 1099511627776 ∧ 2 * w.d ≤ minI (w.c + n) w.m ∧ minI (w.c + n) w.m ≤ w.m ∧ 0 ≤ w.g ∧ w.g < minI (w.c + n) w.m ∧ _
  exact ⟨hw.1, hw.2.1, hw.2.2.1, by omega, hm.2, hw.2.2.2.2.2.1, by omega, hw.2.2.2.2.2.2.2⟩
theorem may_ack {w : Wn} (h : mayW w = true) (t : Int) {n : Int} (hn : 0 ≤ n) (f : Bool) : mayW (ack1 w t n f) = true ∧ w.c ≤ (ack1 w t n f).c := by
  unfold ack1
  cases !f || !behV w t with
  | true => exact ⟨h, Int.le_refl _⟩
  | false => cases slowV w with
    | true => exact may_grow h hn
    | false => exact may_slow h hn
theorem may_bad {w : Wn} (h : mayW w = true) (t : Int) {now : Int} (hn : 0 ≤ now ∧ now ≤ 9007199254740991) : mayW (bad1 w t now) = true := by
  unfold bad1
  cases !behV w t with
  | true => exact h
  | false =>
    have hw := mayd h
    have hm : w.c / 2 ≤ maxI (w.c / 2) (2 * w.d) ∧ 2 * w.d ≤ maxI (w.c / 2) (2 * w.d) ∧ maxI (w.c / 2) (2 * w.d) ≤ w.m := by unfold maxI; split <;> omega
    refine mayi ?_
    show 1200 ≤ w.d ∧ w.d ≤ 65527 ∧ w.m ≤ 1099511627776 ∧ 2 * w.d ≤ maxI (w.c / 2) (2 * w.d) ∧ maxI (w.c / 2) (2 * w.d) ≤ w.m ∧ 0 ≤ (0 : Int) ∧ 0 < maxI (w.c / 2) (2 * w.d) ∧ (w.c / 2 = -1 ∨ w.d ≤ w.c / 2 ∧ w.c / 2 ≤ w.m) ∧ (now = -1 ∨ 0 ≤ now ∧ now ≤ 9007199254740991)
    exact ⟨hw.1, hw.2.1, hw.2.2.1, hm.2.1, hm.2.2, by omega, by omega, .inr ⟨by omega, by omega⟩, .inr hn⟩
theorem may_col {w : Wn} (h : mayW w = true) : mayW (col1 w) = true := by
  have hw := mayd h
  refine mayi ?_
  show 1200 ≤ w.d ∧ w.d ≤ 65527 ∧ w.m ≤ 1099511627776 ∧ 2 * w.d ≤ 2 * w.d ∧ 2 * w.d ≤ w.m ∧ 0 ≤ (0 : Int) ∧ 0 < 2 * w.d ∧ _ ∧ ((-1 : Int) = -1 ∨ _)
  exact ⟨hw.1, hw.2.1, hw.2.2.1, by omega, by omega, by omega, by omega, hw.2.2.2.2.2.2.2.1, .inl rfl⟩
theorem may_step {w : Wn} (h : mayW w = true) (x : Th) : mayW (stepW w x) = true := by
  unfold stepW
  cases x.k % 8 == 5 || x.k % 8 == 6 with
  | true => exact may_bad h _ (by omega)
  | false => cases x.k % 8 == 7 with
    | true => exact may_col h
    | false => exact (may_ack h _ (by omega) _).1
theorem isT_mod (x : Int) : isT (x % 9007199254740992) = true := isT_iff.2 (by omega)
theorem step_d (w : Wn) (x : Th) : (stepW w x).d = w.d := by
  unfold stepW bad1 ack1
  cases x.k % 8 == 5 || x.k % 8 == 6 with
  | true => cases !behV w (x.t % 9007199254740992) <;> rfl
  | false => cases x.k % 8 == 7 with
    | true => rfl
    | false => cases !x.f || !behV w (x.t % 9007199254740992) with
      | true => rfl
      | false => cases slowV w <;> rfl
/-- A window behind things that happen. -/
def runW2 (w : Wn) (g : Nat → Th) : Nat → Wn
  | 0 => w
  | i + 1 => stepW (runW2 w g i) (g i)
theorem may_run {w : Wn} (h : mayW w = true) (g : Nat → Th) : ∀ n, mayW (runW2 w g n) = true
  | 0 => h
  | n + 1 => may_step (may_run h g n) _
theorem run_d (w : Wn) (g : Nat → Th) : ∀ n, (runW2 w g n).d = w.d
  | 0 => rfl
  | n + 1 => (step_d _ _).trans (run_d w g n)
end Go.Proofs.Ytefjhkgkdmjopaa
