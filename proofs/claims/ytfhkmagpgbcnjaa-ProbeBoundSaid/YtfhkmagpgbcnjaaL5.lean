/-
  ProbeAlone: the walk, by the engine.
-/
import Derived.Test.YtfhkmagpgbcnjaaL6
import Derived.Test.YtfhkmagpgbcnjaaT5
namespace Go.Proofs.Ytfhkmagpgbcnjaa
open Go.RowKit

def gv (m u : Int) : Int := if u < 2 then mx m (1 + u) else if u = 2 then m - 1 else 0
theorem gv_in {m u : Int} (hm : 0 ≤ m ∧ m ≤ 2) (hu : 0 ≤ u ∧ u < 4) (h : ¬ (u = 2 ∧ m = 0)) : 0 ≤ gv m u ∧ gv m u ≤ 2 := by
  unfold gv mx
  split
  · split <;> omega
  · split <;> omega
theorem deed0 {a b c u x y z e : Int} (hok : ok3 a b c = true) (h : AnsP (gE a b c 0 u) 0 (gV a b c 0 u) a b c x y z e) :
    ((u = 2 ∧ a = 0) ∧ e = 5 ∧ x = 0 ∧ y = 0 ∧ z = 0) ∨ (¬ (u = 2 ∧ a = 0) ∧ e = 0 ∧ x = gv a u ∧ y = b ∧ z = c) := by
  obtain ⟨rfl, rfl, rfl, rfl⟩ := h
  by_cases hu : u = 2 ∧ a = 0
  · obtain ⟨rfl, rfl⟩ := hu
    refine .inl ⟨⟨rfl, rfl⟩, ?_⟩
    simp [gE, kE, mayE, hok, at3, zi]
  · refine .inr ⟨hu, ?_⟩
    by_cases h2 : u = 2
    · have h3 : ¬ a = 0 := fun h => hu ⟨h2, h⟩
      simp [gE, gV, gv, kE, mayE, hok, at3, zi, put, h2, h3]
    · simp [gE, gV, gv, at3, zi, put, h2]
theorem deed1 {a b c u x y z e : Int} (hok : ok3 a b c = true) (h : AnsP (gE a b c 1 u) 1 (gV a b c 1 u) a b c x y z e) :
    ((u = 2 ∧ b = 0) ∧ e = 5 ∧ x = 0 ∧ y = 0 ∧ z = 0) ∨ (¬ (u = 2 ∧ b = 0) ∧ e = 0 ∧ x = a ∧ y = gv b u ∧ z = c) := by
  obtain ⟨rfl, rfl, rfl, rfl⟩ := h
  by_cases hu : u = 2 ∧ b = 0
  · obtain ⟨rfl, rfl⟩ := hu
    refine .inl ⟨⟨rfl, rfl⟩, ?_⟩
    simp [gE, kE, mayE, hok, at3, zi]
  · refine .inr ⟨hu, ?_⟩
    by_cases h2 : u = 2
    · have h3 : ¬ b = 0 := fun h => hu ⟨h2, h⟩
      simp [gE, gV, gv, kE, mayE, hok, at3, zi, put, h2, h3]
    · simp [gE, gV, gv, at3, zi, put, h2]
theorem deed2 {a b c u x y z e : Int} (hok : ok3 a b c = true) (h : AnsP (gE a b c 2 u) 2 (gV a b c 2 u) a b c x y z e) :
    ((u = 2 ∧ c = 0) ∧ e = 5 ∧ x = 0 ∧ y = 0 ∧ z = 0) ∨ (¬ (u = 2 ∧ c = 0) ∧ e = 0 ∧ x = a ∧ y = b ∧ z = gv c u) := by
  obtain ⟨rfl, rfl, rfl, rfl⟩ := h
  by_cases hu : u = 2 ∧ c = 0
  · obtain ⟨rfl, rfl⟩ := hu
    refine .inl ⟨⟨rfl, rfl⟩, ?_⟩
    simp [gE, kE, mayE, hok, at3, zi]
  · refine .inr ⟨hu, ?_⟩
    by_cases h2 : u = 2
    · have h3 : ¬ c = 0 := fun h => hu ⟨h2, h⟩
      simp [gE, gV, gv, kE, mayE, hok, at3, zi, put, h2, h3]
    · simp [gE, gV, gv, at3, zi, put, h2]
theorem alone_any (n k1 s1 k2 s2 : Int) (w : World) : Calls Try.prog 5 #[.int .i64 n, .agg #[.int .i64 k1, .int .i64 s1], .agg #[.int .i64 k2, .int .i64 s2]] w fun e w' => e = .returned (.bool true) ∧ Below w.heap.size w w' := by
  refine lawOf (args := [.int .i64 n, .agg [.int .i64 k1, .int .i64 s1], .agg [.int .i64 k2, .int .i64 s2]]) (evalF_ok (C := C10) ec gs10 mixed (u := 64) Try.func5 (by kernel_rfl) ?_) (vs := [.int .i64 n, .agg #[.int .i64 k1, .int .i64 s1], .agg #[.int .i64 k2, .int .i64 s2]]) ?_ w
  · rw [t5 n k1 s1 k2 s2 (fun v => v = .bool true)]
    rintro r ⟨r1, r2, -⟩ _ ⟨p1, p2, rfl⟩ _ ⟨q1, q2, rfl⟩
    obtain ⟨ha, hb, hc⟩ := three_of r r1 r2
    generalize r.tmod 3 = a at *
    generalize (IntKind.i64.wrap (r.tdiv 3)).tmod 3 = b at *
    generalize IntKind.i64.wrap (r.tdiv 9) = c at *
    have hu : 0 ≤ k1 % 4 ∧ k1 % 4 < 4 := by omega
    have hv : 0 ≤ k2 % 4 ∧ k2 % 4 < 4 := by omega
    generalize k1 % 4 = u at *
    generalize k2 % 4 = v at *
    generalize s1 % 3 = p at *
    generalize s2 % 3 = q at *
    clear r1 r2 n k1 s1 k2 s2 r
    have hok := ok3_of ha hb hc
    refine ⟨hok, fun x y z e h1 => ⟨hok, fun x1 y1 z1 e1 h2 => ?_⟩⟩
    rcases (by omega : p = 0 ∨ p = 1 ∨ p = 2) with rfl | rfl | rfl
    · rcases deed0 hok h1 with ⟨-, rfl, rfl, rfl, rfl⟩ | ⟨nu, rfl, rfl, rfl, rfl⟩
      · simp
      rcases (by omega : q = 0 ∨ q = 1 ∨ q = 2) with rfl | rfl | rfl
      · simp
      · rcases deed1 hok h2 with ⟨-, rfl, rfl, rfl, rfl⟩ | ⟨nv, rfl, rfl, rfl, rfl⟩
        · simp
        simp only [beq_self_eq_true, bne_self_eq_false, cond_true, cond_false, Int.reduceBNe, Int.reduceBEq]
        refine ⟨(ok3_of (gv_in ha hu nu) hb hc), fun x y z e h3 => ⟨(ok3_of ha (gv_in hb hv nv) hc), fun x1 y1 z1 e1 h4 => ?_⟩⟩
        rcases deed1 (ok3_of (gv_in ha hu nu) hb hc) h3 with ⟨h5, -⟩ | ⟨-, rfl, rfl, rfl, rfl⟩
        · exact absurd h5 nv
        rcases deed0 (ok3_of ha (gv_in hb hv nv) hc) h4 with ⟨h5, -⟩ | ⟨-, rfl, rfl, rfl, rfl⟩
        · exact absurd h5 nu
        simp
      · rcases deed2 hok h2 with ⟨-, rfl, rfl, rfl, rfl⟩ | ⟨nv, rfl, rfl, rfl, rfl⟩
        · simp
        simp only [beq_self_eq_true, bne_self_eq_false, cond_true, cond_false, Int.reduceBNe, Int.reduceBEq]
        refine ⟨(ok3_of (gv_in ha hu nu) hb hc), fun x y z e h3 => ⟨(ok3_of ha hb (gv_in hc hv nv)), fun x1 y1 z1 e1 h4 => ?_⟩⟩
        rcases deed2 (ok3_of (gv_in ha hu nu) hb hc) h3 with ⟨h5, -⟩ | ⟨-, rfl, rfl, rfl, rfl⟩
        · exact absurd h5 nv
        rcases deed0 (ok3_of ha hb (gv_in hc hv nv)) h4 with ⟨h5, -⟩ | ⟨-, rfl, rfl, rfl, rfl⟩
        · exact absurd h5 nu
        simp
    · rcases deed1 hok h1 with ⟨-, rfl, rfl, rfl, rfl⟩ | ⟨nu, rfl, rfl, rfl, rfl⟩
      · simp
      rcases (by omega : q = 0 ∨ q = 1 ∨ q = 2) with rfl | rfl | rfl
      · rcases deed0 hok h2 with ⟨-, rfl, rfl, rfl, rfl⟩ | ⟨nv, rfl, rfl, rfl, rfl⟩
        · simp
        simp only [beq_self_eq_true, bne_self_eq_false, cond_true, cond_false, Int.reduceBNe, Int.reduceBEq]
        refine ⟨(ok3_of ha (gv_in hb hu nu) hc), fun x y z e h3 => ⟨(ok3_of (gv_in ha hv nv) hb hc), fun x1 y1 z1 e1 h4 => ?_⟩⟩
        rcases deed0 (ok3_of ha (gv_in hb hu nu) hc) h3 with ⟨h5, -⟩ | ⟨-, rfl, rfl, rfl, rfl⟩
        · exact absurd h5 nv
        rcases deed1 (ok3_of (gv_in ha hv nv) hb hc) h4 with ⟨h5, -⟩ | ⟨-, rfl, rfl, rfl, rfl⟩
        · exact absurd h5 nu
        simp
      · simp
      · rcases deed2 hok h2 with ⟨-, rfl, rfl, rfl, rfl⟩ | ⟨nv, rfl, rfl, rfl, rfl⟩
        · simp
        simp only [beq_self_eq_true, bne_self_eq_false, cond_true, cond_false, Int.reduceBNe, Int.reduceBEq]
        refine ⟨(ok3_of ha (gv_in hb hu nu) hc), fun x y z e h3 => ⟨(ok3_of ha hb (gv_in hc hv nv)), fun x1 y1 z1 e1 h4 => ?_⟩⟩
        rcases deed2 (ok3_of ha (gv_in hb hu nu) hc) h3 with ⟨h5, -⟩ | ⟨-, rfl, rfl, rfl, rfl⟩
        · exact absurd h5 nv
        rcases deed1 (ok3_of ha hb (gv_in hc hv nv)) h4 with ⟨h5, -⟩ | ⟨-, rfl, rfl, rfl, rfl⟩
        · exact absurd h5 nu
        simp
    · rcases deed2 hok h1 with ⟨-, rfl, rfl, rfl, rfl⟩ | ⟨nu, rfl, rfl, rfl, rfl⟩
      · simp
      rcases (by omega : q = 0 ∨ q = 1 ∨ q = 2) with rfl | rfl | rfl
      · rcases deed0 hok h2 with ⟨-, rfl, rfl, rfl, rfl⟩ | ⟨nv, rfl, rfl, rfl, rfl⟩
        · simp
        simp only [beq_self_eq_true, bne_self_eq_false, cond_true, cond_false, Int.reduceBNe, Int.reduceBEq]
        refine ⟨(ok3_of ha hb (gv_in hc hu nu)), fun x y z e h3 => ⟨(ok3_of (gv_in ha hv nv) hb hc), fun x1 y1 z1 e1 h4 => ?_⟩⟩
        rcases deed0 (ok3_of ha hb (gv_in hc hu nu)) h3 with ⟨h5, -⟩ | ⟨-, rfl, rfl, rfl, rfl⟩
        · exact absurd h5 nv
        rcases deed2 (ok3_of (gv_in ha hv nv) hb hc) h4 with ⟨h5, -⟩ | ⟨-, rfl, rfl, rfl, rfl⟩
        · exact absurd h5 nu
        simp
      · rcases deed1 hok h2 with ⟨-, rfl, rfl, rfl, rfl⟩ | ⟨nv, rfl, rfl, rfl, rfl⟩
        · simp
        simp only [beq_self_eq_true, bne_self_eq_false, cond_true, cond_false, Int.reduceBNe, Int.reduceBEq]
        refine ⟨(ok3_of ha hb (gv_in hc hu nu)), fun x y z e h3 => ⟨(ok3_of ha (gv_in hb hv nv) hc), fun x1 y1 z1 e1 h4 => ?_⟩⟩
        rcases deed1 (ok3_of ha hb (gv_in hc hu nu)) h3 with ⟨h5, -⟩ | ⟨-, rfl, rfl, rfl, rfl⟩
        · exact absurd h5 nv
        rcases deed2 (ok3_of ha (gv_in hb hv nv) hc) h4 with ⟨h5, -⟩ | ⟨-, rfl, rfl, rfl, rfl⟩
        · exact absurd h5 nu
        simp
      · simp
  · simp [RL, R]
end Go.Proofs.Ytfhkmagpgbcnjaa
