/-
  Plain functions of layer 7: a measure behind samples.
-/
import Derived.Test.YtepmbiahnicooaaP
namespace Go.Proofs.Ytepmbiahnicooaa
structure Rt where
  l : Int
  m : Int
  s : Int
  v : Int
  f : Int
def stepR (r : Rt) (x d n : Int) : Rt := ⟨x, smM r.m r.f x, smS r.m r.s r.f x d, smV r.m r.s r.v r.f x d, smF r.f n⟩
def runR (g : Nat → Nat → Int) : Nat → Rt
  | 0 => ⟨0, 0, 1000000, 500000, -1⟩
  | n + 1 => stepR (runR g n) (g n 0) (g n 1) (g n 2)
structure Tp (n : Int) : Prop where
  lo : 0 ≤ n
  hi : n ≤ 9007199254740991
theorem Tp.isT {n : Int} (h : Tp n) : isT n = true := isT_true h.lo h.hi
def okRt (r : Rt) : Bool := okR r.l r.m r.s r.v r.f
theorem okR_first : okR 0 0 1000000 500000 (-1) = true := by decide
theorem cnt_low {m x d : Int} (h : 0 ≤ d) : mnI m x ≤ cnt m x d ∧ cnt m x d ≤ x := by
  unfold cnt mnI; split <;> split <;> (try split) <;> omega
theorem okR_step {r : Rt} {x d n : Int} (h : okRt r = true) (hx : Tp x) (hd : Tp d) (hn : Tp n) : okRt (stepR r x d n) = true := by
  have ⟨x0, x1⟩ := hx
  have ⟨d0, d1⟩ := hd
  have ⟨n0, n1⟩ := hn
  have hr := okR_range h
  unfold okRt at h ⊢
  unfold stepR
  by_cases hf : r.f = -1
  · simp only [smM, smS, smV, smF, hf, if_true]
    rw [okR, if_neg (by omega), hx.isT, hn.isT, isT_true (n := x / 2) (by omega) (by omega)]
    simp
  · simp only [smM, smS, smV, smF, hf, if_false]
    rw [okR, if_neg hf] at h
    simp only [Bool.and_eq_true, isT_iff, decide_eq_true_eq] at h
    have c := cnt_low (m := r.m) (x := x) (d := d) d0
    have hm : 0 ≤ mnI r.m x ∧ mnI r.m x ≤ x ∧ mnI r.m x ≤ r.m := by unfold mnI; split <;> omega
    have a := absI_range (a := r.s - cnt r.m x d) (n := 9007199254740991) (by omega)
    rw [okR, if_neg hf, hx.isT, isT_true (n := r.f) (by omega) (by omega), isT_true (n := mnI r.m x) (by omega) (by omega), isT_true (n := (7 * r.s + cnt r.m x d) / 8) (by omega) (by omega), isT_true (n := (3 * r.v + absI (r.s - cnt r.m x d)) / 4) (by omega) (by omega)]
    simp only [Bool.and_self, Bool.true_and, decide_eq_true_eq]
    omega
theorem okR_run {g : Nat → Nat → Int} {n : Nat} (h : ∀ r, r < n → Tp (g r 0) ∧ Tp (g r 1) ∧ Tp (g r 2)) : okRt (runR g n) = true := by
  induction n with
  | zero => exact okR_first
  | succ n ih =>
    obtain ⟨h0, h1, h2⟩ := h n (by omega)
    exact okR_step (ih fun r hr => h r (by omega)) h0 h1 h2
theorem smE_ok {r : Rt} {x d n : Int} (h : okRt r = true) (hx : Tp x) (hd : Tp d) (hn : Tp n) : smE r.l r.m r.s r.v r.f x d n = 0 := by
  unfold okRt at h
  rw [smE, if_pos h, hx.isT, hd.isT, hn.isT]
  rfl
theorem run_f {g : Nat → Nat → Int} (h : ∀ r, 0 ≤ g r 2) : ∀ n, (runR g (n + 1)).f = g 0 2
  | 0 => by simp [runR, stepR, smF]
  | n + 1 => by
    show smF (runR g (n + 1)).f _ = _
    have := h 0
    rw [run_f h n, smF, if_neg (by omega)]
/-- The least and the greatest of the samples. -/
def loF (g : Nat → Nat → Int) : Nat → Int
  | 0 => g 0 0
  | n + 1 => mnI (loF g n) (g n 0)
def mxI (a b : Int) : Int := if b > a then b else a
def hiF (g : Nat → Nat → Int) : Nat → Int
  | 0 => g 0 0
  | n + 1 => mxI (hiF g n) (g n 0)
theorem run_bounds {g : Nat → Nat → Int} (h : ∀ r j, 0 ≤ g r j) (n : Nat) : (runR g (n + 1)).l = g n 0 ∧ (runR g (n + 1)).m = loF g (n + 1) ∧ loF g (n + 1) ≤ (runR g (n + 1)).s ∧ (runR g (n + 1)).s ≤ hiF g (n + 1) ∧ 0 ≤ (runR g (n + 1)).v ∧ (runR g (n + 1)).v ≤ hiF g (n + 1) ∧ 0 ≤ loF g (n + 1) := by
  induction n with
  | zero =>
    have := h 0 0
    simp [runR, stepR, smM, smS, smV, loF, hiF, mnI, mxI]
    omega
  | succ n ih =>
    obtain ⟨i1, i2, i3, i4, i5, i6, i7⟩ := ih
    have hf := run_f (fun r => h r 2) n
    have h2 := h 0 2
    have hne : ¬ (runR g (n + 1)).f = -1 := by omega
    have hx := h (n + 1) 0
    have hd := h (n + 1) 1
    have e : runR g (n + 1 + 1) = stepR (runR g (n + 1)) (g (n + 1) 0) (g (n + 1) 1) (g (n + 1) 2) := rfl
    rw [e]
    simp only [stepR, smM, smS, smV, hne, if_false]
    have el : loF g (n + 1 + 1) = mnI (loF g (n + 1)) (g (n + 1) 0) := rfl
    have eh : hiF g (n + 1 + 1) = mxI (hiF g (n + 1)) (g (n + 1) 0) := rfl
    rw [el, eh, i2]
    generalize runR g (n + 1) = r at *
    generalize loF g (n + 1) = lo at *
    generalize hiF g (n + 1) = hi at *
    generalize g (n + 1) 0 = x at *
    generalize g (n + 1) 1 = d at *
    have c := cnt_low (m := lo) (x := x) (d := d) hd
    have b1 : mnI lo x ≤ lo ∧ mnI lo x ≤ x ∧ 0 ≤ mnI lo x := by unfold mnI; split <;> omega
    have b2 : hi ≤ mxI hi x ∧ x ≤ mxI hi x := by unfold mxI; split <;> omega
    have a : 0 ≤ absI (r.s - cnt lo x d) ∧ absI (r.s - cnt lo x d) ≤ mxI hi x := by unfold absI; split <;> omega
    simp only [true_and]; refine ⟨?_, ?_, ?_, ?_, ?_⟩ <;> omega
end Go.Proofs.Ytepmbiahnicooaa
