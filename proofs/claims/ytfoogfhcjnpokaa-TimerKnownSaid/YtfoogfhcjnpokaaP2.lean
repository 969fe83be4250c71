/-
  Chapter 18: what is due, in plain words.
-/
import Derived.Test.YtfoogfhcjnpokaaX5
namespace Go.Proofs.Ytfoogfhcjnpokaa
def noneD : D3 := (0, 0, -1)
def stepD (d x : D3) : D3 := if d.2.2 == -1 || decide (x.2.2 < d.2.2) then x else d
/-- The first one of the least time. -/
def bestD (l : List D3) : D3 := l.foldl stepD noneD
def onL (c : Bool) (x : D3) : List D3 := if c then [x] else []
def lossL (F : Fc) : List D3 := onL (F.a0 != -1) (1, 0, F.a0) ++ (onL (F.a1 != -1) (1, 1, F.a1) ++ onL (F.a2 != -1) (1, 2, F.a2))
def probL (F : Fc) (W : Int → Int) : List D3 := onL (u0 F) (2, 0, dueV F.b0 (W 0)) ++ (onL (u1 F) (2, 1, dueV F.b1 (W 1)) ++ onL (u2 F) (2, 2, dueV F.b2 (W 2)))
def lastL (F : Fc) (W : Int → Int) : List D3 :=
  if 0 < F.n0 then [] else if 0 < F.n1 then [] else if 0 < F.n2 then [] else if F.pr then [] else if F.k1 then [(2, 1, dueV F.now (W 1))] else if F.k0 then [(2, 0, dueV F.now (W 0))] else []
def pickD (F : Fc) (ok : Bool) (W : Int → Int) : D3 :=
  if mayF F && ok then
    (if lossL F = [] then (if F.lm then noneD else if probL F W = [] then bestD (lastL F W) else bestD (probL F W)) else bestD (lossL F))
  else noneD
theorem lossK_eq (F : Fc) (K : List D3 → Prop) : lossK F K = K (lossL F) := by
  unfold lossK lossL onL
  cases F.a0 != -1 <;> cases F.a1 != -1 <;> cases F.a2 != -1 <;> rfl
theorem probK_eq (F : Fc) (W : Int → Int) (K : List D3 → Prop) : probK F W K = K (probL F W) := by
  unfold probK probL onL
  cases u0 F <;> cases u1 F <;> cases u2 F <;> rfl
theorem lastK_eq (F : Fc) (W : Int → Int) (K : List D3 → Prop) : lastK F W K = K (lastL F W) := by
  unfold lastK lastL
  by_cases h0 : 0 < F.n0 <;> by_cases h1 : 0 < F.n1 <;> by_cases h2 : 0 < F.n2 <;> cases F.pr <;> cases F.k1 <;> cases F.k0 <;> simp [h0, h1, h2]
def bestP (kk : SV → Prop) : D3 → List D3 → Prop
  | x, [] => kk (dueS x)
  | x, y :: l => bif decide (y.2.2 < x.2.2) then bestP kk y l else bestP kk x l
def best3 (kk : SV → Prop) (E : Prop) : List D3 → Prop
  | [] => E
  | x :: l => bestP kk x l
theorem bestP_eq (kk : SV → Prop) : ∀ (l : List D3) (x : D3), (∀ y ∈ x :: l, 0 ≤ y.2.2) → bestP kk x l = kk (dueS (l.foldl stepD x))
  | [], _, _ => rfl
  | y :: l, x, h => by
    have hx := h x (by simp)
    have e : stepD x y = if y.2.2 < x.2.2 then y else x := by
      unfold stepD
      rw [show (x.2.2 == -1) = false by simp; omega, Bool.false_or]
      simp
    simp only [bestP, List.foldl_cons, e]
    by_cases hc : y.2.2 < x.2.2
    · rw [if_pos hc, show decide (y.2.2 < x.2.2) = true by simp [hc], cond_true]
      exact bestP_eq kk l y fun z hz => h z (by simp at hz ⊢; rcases hz with rfl | hz <;> simp [*])
    · rw [if_neg hc, show decide (y.2.2 < x.2.2) = false by simp [hc], cond_false]
      exact bestP_eq kk l x fun z hz => h z (by simp at hz ⊢; rcases hz with rfl | hz <;> simp [*])
theorem best3_eq (kk : SV → Prop) (E : Prop) (l : List D3) (h : ∀ y ∈ l, 0 ≤ y.2.2) : best3 kk E l = if l = [] then E else kk (dueS (bestD l)) := by
  cases l with
  | nil => simp [best3]
  | cons x l =>
    simp only [best3, reduceCtorEq, if_false]
    rw [bestP_eq kk l x h, bestD, List.foldl_cons]
    rfl
theorem never_or {n : Int} (h : isOrNever n = true) : n = -1 ∨ isT n = true := by
  unfold isOrNever at h
  simpa using h
theorem dueV_low {a w : Int} (h : isT a = true) : 0 ≤ dueV a w := by
  rw [dueV, if_pos h]; exact (timeV_range _).1
theorem onL_mem {c : Bool} {x y : D3} (h : y ∈ onL c x) : c = true ∧ y = x := by
  unfold onL at h
  cases c <;> simp at h
  exact ⟨rfl, h⟩
theorem mayF_facts {F : Fc} (h : mayF F = true) : (F.a0 = -1 ∨ isT F.a0 = true) ∧ (F.a1 = -1 ∨ isT F.a1 = true) ∧ (F.a2 = -1 ∨ isT F.a2 = true) ∧ (F.b0 = -1 ∨ isT F.b0 = true) ∧ (F.b1 = -1 ∨ isT F.b1 = true) ∧ (F.b2 = -1 ∨ isT F.b2 = true) ∧ isT F.now = true ∧ (0 ≤ F.n0 ∧ F.n0 ≤ 256) ∧ (0 ≤ F.n1 ∧ F.n1 ≤ 256) ∧ (0 ≤ F.n2 ∧ F.n2 ≤ 256) := by
  simp only [mayF, okS, Bool.and_eq_true, decide_eq_true_eq] at h
  obtain ⟨⟨h1, h2, h3⟩, ⟨h4, h5, h6⟩, ⟨h7, h8, h9⟩, h10⟩ := h
  exact ⟨never_or h1, never_or h4, never_or h7, never_or h2, never_or h5, never_or h8, h10, h3, h6, h9⟩
theorem loss_low {F : Fc} (h : mayF F = true) : ∀ y ∈ lossL F, 0 ≤ y.2.2 := by
  obtain ⟨h0, h1, h2, -⟩ := mayF_facts h
  intro y hy
  simp only [lossL, List.mem_append] at hy
  rcases hy with hy | hy | hy <;> obtain ⟨hc, rfl⟩ := onL_mem hy <;> simp only [bne_iff_ne, ne_eq] at hc
  · exact (isT_iff.1 (h0.resolve_left hc)).1
  · exact (isT_iff.1 (h1.resolve_left hc)).1
  · exact (isT_iff.1 (h2.resolve_left hc)).1
theorem prob_low {F : Fc} {W : Int → Int} (h : mayF F = true) : ∀ y ∈ probL F W, 0 ≤ y.2.2 := by
  obtain ⟨-, -, -, h0, h1, h2, -⟩ := mayF_facts h
  intro y hy
  simp only [probL, List.mem_append] at hy
  rcases hy with hy | hy | hy <;> obtain ⟨hc, rfl⟩ := onL_mem hy <;> simp only [u0, u1, u2, Bool.and_eq_true, bne_iff_ne, ne_eq] at hc
  · exact dueV_low (h0.resolve_left hc.2)
  · exact dueV_low (h1.resolve_left hc.2)
  · exact dueV_low (h2.resolve_left hc.2.1)
theorem last_low {F : Fc} {W : Int → Int} (h : mayF F = true) : ∀ y ∈ lastL F W, 0 ≤ y.2.2 := by
  obtain ⟨-, -, -, -, -, -, h0, -⟩ := mayF_facts h
  intro y hy
  unfold lastL at hy
  split at hy
  · simp at hy
  split at hy
  · simp at hy
  split at hy
  · simp at hy
  split at hy
  · simp at hy
  split at hy
  · simp at hy; subst hy; exact dueV_low h0
  split at hy
  · simp at hy; subst hy; exact dueV_low h0
  · simp at hy
end Go.Proofs.Ytfoogfhcjnpokaa
