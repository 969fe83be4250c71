/-
  Chapter 18 by the engine: the contracts are kept (5): facts, what may be due, Pick.
-/
import Derived.Test.YtfoogfhcjnpokaaV3
import Derived.Test.YtfoogfhcjnpokaaT4
import Derived.Test.YtfoogfhcjnpokaaT5
import Derived.Test.YtfoogfhcjnpokaaP2
namespace Go.Proofs.Ytfoogfhcjnpokaa
open Go.RowKit

theorem gs4 : GSound C4 := ((gs3.add ok21).add ok25).add ok45
theorem may_tree (F : Fc) (K : Bool → Prop) (k : K (mayF F)) : (bif !isOrNever F.a0 then K false else bif !isOrNever F.b0 then K false else bif decide (F.n0 < (0 : Int)) then K false else bif decide ((256 : Int) < F.n0) then K false else
    bif !isOrNever F.a1 then K false else bif !isOrNever F.b1 then K false else bif decide (F.n1 < (0 : Int)) then K false else bif decide ((256 : Int) < F.n1) then K false else
    bif !isOrNever F.a2 then K false else bif !isOrNever F.b2 then K false else bif decide (F.n2 < (0 : Int)) then K false else bif decide ((256 : Int) < F.n2) then K false else K (isT F.now)) := by
  have e : ∀ n : Int, (decide (0 ≤ n)) = !decide (n < 0) := fun n => by rw [← decide_not, decide_eq_decide]; omega
  have e' : ∀ n : Int, (decide (n ≤ 256)) = !decide (256 < n) := fun n => by rw [← decide_not, decide_eq_decide]; omega
  simp only [mayF, okS, e, e'] at k
  cases h1 : isOrNever F.a0 <;> simp only [h1, Bool.not_false, Bool.not_true, cond_true, cond_false, Bool.false_and, Bool.true_and] at k ⊢ <;> try exact k
  cases h2 : isOrNever F.b0 <;> simp only [h2, Bool.not_false, Bool.not_true, cond_true, cond_false, Bool.false_and, Bool.true_and] at k ⊢ <;> try exact k
  cases h3 : decide (F.n0 < 0) <;> simp only [h3, Bool.not_false, Bool.not_true, cond_true, cond_false, Bool.false_and, Bool.true_and] at k ⊢ <;> try exact k
  cases h4 : decide (256 < F.n0) <;> simp only [h4, Bool.not_false, Bool.not_true, cond_true, cond_false, Bool.false_and, Bool.true_and] at k ⊢ <;> try exact k
  cases h5 : isOrNever F.a1 <;> simp only [h5, Bool.not_false, Bool.not_true, cond_true, cond_false, Bool.false_and, Bool.true_and] at k ⊢ <;> try exact k
  cases h6 : isOrNever F.b1 <;> simp only [h6, Bool.not_false, Bool.not_true, cond_true, cond_false, Bool.false_and, Bool.true_and] at k ⊢ <;> try exact k
  cases h7 : decide (F.n1 < 0) <;> simp only [h7, Bool.not_false, Bool.not_true, cond_true, cond_false, Bool.false_and, Bool.true_and] at k ⊢ <;> try exact k
  cases h8 : decide (256 < F.n1) <;> simp only [h8, Bool.not_false, Bool.not_true, cond_true, cond_false, Bool.false_and, Bool.true_and] at k ⊢ <;> try exact k
  cases h9 : isOrNever F.a2 <;> simp only [h9, Bool.not_false, Bool.not_true, cond_true, cond_false, Bool.false_and, Bool.true_and] at k ⊢ <;> try exact k
  cases h10 : isOrNever F.b2 <;> simp only [h10, Bool.not_false, Bool.not_true, cond_true, cond_false, Bool.false_and, Bool.true_and] at k ⊢ <;> try exact k
  cases h11 : decide (F.n2 < 0) <;> simp only [h11, Bool.not_false, Bool.not_true, cond_true, cond_false, Bool.false_and, Bool.true_and] at k ⊢ <;> try exact k
  cases h12 : decide (256 < F.n2) <;> simp only [h12, Bool.not_false, Bool.not_true, cond_true, cond_false, Bool.false_and, Bool.true_and] at k ⊢ <;> exact k
theorem ok15 : SpecOK Try.prog 15 sMay := by
  intro args h base k hk
  unfold sMay at hk
  split at hk
  · rename_i k0 a0 b0 n0 k1 a1 b1 n1 k2 a2 b2 n2 cf lm pr now
    refine ⟨_, [], [], hk, plainOK gs4 Try.func15 (by kernel_rfl) (by kernel_rfl) ?_ rfl rfl h base⟩
    show evalF C4 64 Try.f15 [fc ⟨k0, a0, b0, n0, k1, a1, b1, n1, k2, a2, b2, n2, cf, lm, pr, now⟩] [] _
    rw [t15 _ (fun v => v = _)]
    exact may_tree _ (fun b => SV.bool b = _) rfl
  · cases hk
theorem ok19 : SpecOK Try.prog 19 sMay := by
  intro args h base k hk
  unfold sMay at hk
  split at hk
  · rename_i k0 a0 b0 n0 k1 a1 b1 n1 k2 a2 b2 n2 cf lm pr now
    refine ⟨_, [], [], hk, plainOK gs4 Try.func19 (by kernel_rfl) (by kernel_rfl) ?_ rfl rfl h base⟩
    show evalF C4 64 Try.f19 [fc ⟨k0, a0, b0, n0, k1, a1, b1, n1, k2, a2, b2, n2, cf, lm, pr, now⟩] [] _
    rw [t19 _ (fun v => v = _)]
    exact may_tree _ (fun b => SV.bool b = _) rfl
  · cases hk
/-- Four blocks that are read. -/
structure Four (h : Heap) (i0 i1 i2 i3 : Nat) (l m s v f d c mo : Int) : Prop where
  h0 : ∃ b, h i0 = some b ∧ b.sz = 5 ∧ b.n = 1 ∧ b.rd 0 = [.int .i64 l, .int .i64 m, .int .i64 s, .int .i64 v, .int .i64 f]
  h1 : ∃ b, h i1 = some b ∧ b.sz = 1 ∧ b.n = 1 ∧ b.rd 0 = [.int .i64 d]
  h2 : ∃ b, h i2 = some b ∧ b.sz = 1 ∧ b.n = 1 ∧ b.rd 0 = [.int .i64 c]
  h3 : ∃ b, h i3 = some b ∧ b.sz = 1 ∧ b.n = 1 ∧ b.rd 0 = [.int .i64 mo]
theorem row5_ok {b : Blk} {K : Int → Int → Int → Int → Int → Prop} (h : row5 b K) : ∃ l m s v f, b.sz = 5 ∧ b.n = 1 ∧ b.rd 0 = [.int .i64 l, .int .i64 m, .int .i64 s, .int .i64 v, .int .i64 f] ∧ K l m s v f := by
  unfold row5 at h
  split at h
  · rename_i l m s v f e1 e2 e3
    exact ⟨_, _, _, _, _, e1, e2, e3, h⟩
  · cases h
theorem row1_ok {b : Blk} {K : Int → Prop} (h : row1 b K) : ∃ x, b.sz = 1 ∧ b.n = 1 ∧ b.rd 0 = [.int .i64 x] ∧ K x := by
  unfold row1 at h
  split at h
  · rename_i x e1 e2 e3
    exact ⟨_, e1, e2, e3, h⟩
  · cases h
theorem four_ok {h : Heap} {i0 i1 i2 i3 : Nat} {K : Int → Int → Int → Int → Int → Int → Int → Int → Prop} (hk : four h i0 i1 i2 i3 K) : ∃ l m s v f d c mo, Four h i0 i1 i2 i3 l m s v f d c mo ∧ K l m s v f d c mo := by
  unfold four at hk
  split at hk
  · rename_i x0 x1 x2 x3 e0 e1 e2 e3
    obtain ⟨l, m, s, v, f, a1, a2, a3, hk⟩ := row5_ok hk
    obtain ⟨d, b1, b2, b3, hk⟩ := row1_ok hk
    obtain ⟨c, c1, c2, c3, hk⟩ := row1_ok hk
    obtain ⟨mo, d1, d2, d3, hk⟩ := row1_ok hk
    exact ⟨l, m, s, v, f, d, c, mo, ⟨⟨x0, e0, a1, a2, a3⟩, ⟨x1, e1, b1, b2, b3⟩, ⟨x2, e2, c1, c2, c3⟩, ⟨x3, e3, d1, d2, d3⟩⟩, hk⟩
  · cases hk
theorem bC_wb {cs : List SV} {b : Blk} {n : Nat} (hn : cs.length = n) (h1 : b.sz = n) (h2 : b.n = 1) (h3 : b.rd 0 = cs) (hid : svIdsL cs = []) (ρ : Ren) : WB ρ (bC cs) b :=
  WB.of_rows (hn.trans h1.symm) (by rw [h2]; exact Nat.le_refl _) (fun h => (nomatch h)) (fun h => (nomatch h)) fun r hr => by
    have hr : r < 1 := hr
    obtain rfl : r = 0 := by omega
    exact ⟨h3.symm, hid⟩
theorem Four.wb {h : Heap} {i0 i1 i2 i3 : Nat} {l m s v f d c mo : Int} (H : Four h i0 i1 i2 i3 l m s v f d c mo) (ρ : Ren) : ∀ (i : Nat) (b1 : Blk), hget (hpC l m s v f d c mo) i = some b1 → b1.rw = false ∧ ∃ x b, [i0, i1, i2, i3][i]? = some x ∧ h x = some b ∧ WB ρ b1 b := by
  intro i b1 e
  match i, e with
  | 0, e =>
    obtain rfl := Option.some.inj (show some (bC _) = some b1 from e)
    obtain ⟨b, q1, q2, q3, q4⟩ := H.h0
    exact ⟨rfl, i0, b, rfl, q1, bC_wb rfl q2 q3 q4 rfl ρ⟩
  | 1, e =>
    obtain rfl := Option.some.inj (show some (bC _) = some b1 from e)
    obtain ⟨b, q1, q2, q3, q4⟩ := H.h1
    exact ⟨rfl, i1, b, rfl, q1, bC_wb rfl q2 q3 q4 rfl ρ⟩
  | 2, e =>
    obtain rfl := Option.some.inj (show some (bC _) = some b1 from e)
    obtain ⟨b, q1, q2, q3, q4⟩ := H.h2
    exact ⟨rfl, i2, b, rfl, q1, bC_wb rfl q2 q3 q4 rfl ρ⟩
  | 3, e =>
    obtain rfl := Option.some.inj (show some (bC _) = some b1 from e)
    obtain ⟨b, q1, q2, q3, q4⟩ := H.h3
    exact ⟨rfl, i3, b, rfl, q1, bC_wb rfl q2 q3 q4 rfl ρ⟩
  | i + 4, e => exact nomatch (show (none : Option Blk) = some b1 from e)
theorem ok24 : SpecOK Try.prog 24 s24 := by
  intro args h base k hk
  unfold s24 at hk
  split at hk
  · rename_i i i0 i1 i2 i3
    obtain ⟨l, m, s, v, f, d, c, mo, H, hk⟩ := four_ok hk
    refine ⟨_, [], [], hk, CSim.reads (cal Try.func24 (by kernel_rfl) (by kernel_rfl)) [.int .i64 i, .ptr 0 0 5 0, .ptr 1 0 1 0, .ptr 2 0 1 0, .ptr 3 0 1 0] (hpC l m s v f d c mo) [i0, i1, i2, i3] rfl
      (CodeOK.body Try.func24 (by kernel_rfl) (CodeOK.eval (C := C4) ec gs4 mixed 64 ?_)) rfl (H.wb _) rfl base⟩
    show evalC C4 64 4 (bodF Try.f24) (enterS 14 [.int .i64 i, .ptr 0 0 5 0, .ptr 1 0 1 0, .ptr 2 0 1 0, .ptr 3 0 1 0]) (hpC l m s v f d c mo) (endK Try.prog Try.f24.results.toList (fun v _ => v = _))
    rw [t24 i l m s v f d c mo (fun v => v = _)]
    rfl
  · cases hk
theorem gs5 : GSound C5 := ((gs4.add ok15).add ok19).add ok24
end Go.Proofs.Ytfoogfhcjnpokaa
