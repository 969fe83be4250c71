/-
  Chapter 16: what is refused, what lives, what stays, in plain words.
-/
import Derived.Test.YtllkhfabfcpieaaP3
namespace Go.Proofs.Ytllkhfabfcpieaa
theorem play_congr {b : Bool} {g g' : Nat → Nat → Int} (h : ∀ r, g r 0 = g' r 0 ∧ g r 1 = g' r 1) : ∀ n, playN b g n = playN b g' n
  | 0 => rfl
  | n + 1 => by
    show callH (playN b g n) (g n 0) (g n 1) = callH (playN b g' n) (g' n 0) (g' n 1)
    rw [play_congr h n, (h n).1, (h n).2]
def three (P : Int → Bool) : Bool := P 0 && (P 1 && P 2)
theorem three_ok {P : Int → Bool} (h : three P = true) : P 0 = true ∧ P 1 = true ∧ P 2 = true := by simpa [three] using h
def refT (h : Hd) (k s : Int) : Bool :=
  bif callF h k s != 0 then
    three (fun t => livesV (callK h k s) t == livesV h t && hasV (callK h k s) t == hasV h t) && (validV (callK h k s) == validV h && (confV (callK h k s) == confV h && (sureV (callK h k s) == sureV h && callF (callK h k s) k s == callF h k s)))
  else bif k == 2 then callF (callK h k s) k s == 160 else callF (callK h k s) k s == 0
theorem ref_table : allHd (fun h => allKS (refT h)) = true := by decide +kernel
structure RefP (h : Hd) (a b : Int) : Prop where
  lives : ∀ t : Int, t = 0 ∨ t = 1 ∨ t = 2 → livesV (callH h a b) t = livesV h t
  has : ∀ t : Int, t = 0 ∨ t = 1 ∨ t = 2 → hasV (callH h a b) t = hasV h t
  va : validV (callH h a b) = validV h
  cf : confV (callH h a b) = confV h
  su : sureV (callH h a b) = sureV h
  e : callE (callH h a b) a b = callE h a b
theorem ref_no {h : Hd} (w : WF h) {a b : Int} (he : (callE h a b != 0) = true) : RefP h a b := by
  have := all_hks (P := refT) ref_table w a b
  unfold refT at this
  rw [← callE_eq, he, cond_true, ← callH_eq, ← callE_eq] at this
  simp only [Bool.and_eq_true, beq_iff_eq] at this
  obtain ⟨h1, h2, h3, h4, h5⟩ := this
  obtain ⟨q0, q1, q2⟩ := three_ok h1
  simp only [Bool.and_eq_true, beq_iff_eq] at q0 q1 q2
  refine ⟨?_, ?_, h2, h3, h4, h5⟩
  · rintro t (rfl | rfl | rfl)
    · exact q0.1
    · exact q1.1
    · exact q2.1
  · rintro t (rfl | rfl | rfl)
    · exact q0.2
    · exact q1.2
    · exact q2.2
theorem ref_yes {h : Hd} (w : WF h) {a b : Int} (he : (callE h a b != 0) = false) : callE (callH h a b) a b = (bif a % 6 == 2 then 160 else 0) := by
  have := all_hks (P := refT) ref_table w a b
  unfold refT at this
  rw [← callE_eq, he, cond_false, ← callH_eq, ← callE_eq] at this
  cases q : a % 6 == 2 <;> rw [q] at this <;> simpa using this
/-! ### What stays -/
def stayT (h : Hd) (k s : Int) : Bool :=
  !nothV h && (three (fun t => !(hasV h t && !hasV (callK h k s) t) && (!(hasV h t && (!livesV h t && livesV (callK h k s) t)) && !(livesV (callK h k s) t && !hasV (callK h k s) t))) &&
    (!(validV h && !validV (callK h k s)) && (!(confV h && !confV (callK h k s)) && (!(sureV h && !sureV (callK h k s)) && !(confV (callK h k s) && (!validV (callK h k s) || (!sureV (callK h k s) || !livesV (callK h k s) 2)))))))
theorem stay_table : allHd (fun h => allKS (stayT h)) = true := by decide +kernel
structure StayP (h h' : Hd) : Prop where
  no : nothV h = false
  t : ∀ t : Int, t = 0 ∨ t = 1 ∨ t = 2 → (hasV h t && !hasV h' t) = false ∧ (hasV h t && (!livesV h t && livesV h' t)) = false ∧ (livesV h' t && !hasV h' t) = false
  va : (validV h && !validV h') = false
  cf : (confV h && !confV h') = false
  su : (sureV h && !sureV h') = false
  all : (confV h' && (!validV h' || (!sureV h' || !livesV h' 2))) = false
theorem stay {h : Hd} (w : WF h) (a b : Int) : StayP h (callH h a b) := by
  have := all_hks (P := stayT) stay_table w a b
  unfold stayT at this
  rw [← callH_eq] at this
  simp only [Bool.and_eq_true, Bool.not_eq_true'] at this
  obtain ⟨h1, h2, h3, h4, h5, h6⟩ := this
  obtain ⟨q0, q1, q2⟩ := three_ok h2
  simp only [Bool.and_eq_true, Bool.not_eq_true'] at q0 q1 q2
  refine ⟨h1, ?_, h3, h4, h5, h6⟩
  rintro t (rfl | rfl | rfl)
  · exact q0
  · exact q1
  · exact q2
/-! ### What lives -/
def goneV (h : Hd) (t : Int) : Bool := hasV h t && !livesV h t
def liveT (h : Hd) (k s : Int) : Bool :=
  three fun t => hasV (callK h k s) t == (hasV h t || ((k == 0 || k == 1) && s == t)) && goneV (callK h k s) t == (goneV h t || (k == 2 && (s == t && (hasV h t && decide (t < 2)))))
theorem live_table : allHd (fun h => allKS (liveT h)) = true := by decide +kernel
theorem live_step {h : Hd} (w : WF h) (a b : Int) {t : Int} (ht : t = 0 ∨ t = 1 ∨ t = 2) : hasV (callH h a b) t = (hasV h t || ((a % 6 == 0 || a % 6 == 1) && b % 3 == t)) ∧
    goneV (callH h a b) t = (goneV h t || (a % 6 == 2 && (b % 3 == t && (hasV h t && decide (t < 2))))) := by
  have := all_hks (P := liveT) live_table w a b
  unfold liveT at this
  rw [← callH_eq] at this
  obtain ⟨q0, q1, q2⟩ := three_ok this
  simp only [Bool.and_eq_true, beq_iff_eq] at q0 q1 q2
  rcases ht with rfl | rfl | rfl
  · exact q0
  · exact q1
  · exact q2
end Go.Proofs.Ytllkhfabfcpieaa
