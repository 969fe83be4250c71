/-
  ProbeTells: the walk, by the engine.
-/
import Derived.Test.YtfhkmagpgbcnjaaV6
import Derived.Test.YtfhkmagpgbcnjaaT9
namespace Go.Proofs.Ytfhkmagpgbcnjaa
open Go.RowKit

theorem canon3 (a b c sp m : Int) : Canon Try.prog 3 [.agg [.int .i64 a, .int .i64 b, .int .i64 c], .int .i64 sp, .int .i64 m] [] fun v _ => v = .bool true := by
  refine CodeOK.body Try.func3 (by kernel_rfl) ?_
  rw [code3]
  refine CodeOK.frontN (C := C7) ec gs7 mixed (u := 0) (len := 124) (L := L3) (M := [true, true, true, true, true, true, true, true]) [c3_0, c3_1, c3_2, c3_3, c3_4, c3_5, c3_6, c3_7] (Nat.zero_le _)
    (Q := fun k vals B => ∃ x y z u v w p q r e f g, k = .normal ∧ vals = vb3 e f g ∧ B = hb3 a b c x y z u v w p q r) ?_ ?_
  · show evalC C7 0 0 _ (enterS 124 _) _ _
    simp only [List.foldr]
    rw [p3a]
    rintro _ _ _ _ ⟨rfl, rfl, rfl, rfl⟩ _ _ _ _ ⟨rfl, rfl, rfl, rfl⟩ _ _ _ _ ⟨rfl, rfl, rfl, rfl⟩ _ _ _ _ ⟨rfl, rfl, rfl, rfl⟩ _ _ _ _ ⟨rfl, rfl, rfl, rfl⟩ _ _ _ _ ⟨rfl, rfl, rfl, rfl⟩
    exact ⟨rfl, rfl, ⟨rfl, rfl, rfl, rfl, rfl, rfl, rfl, rfl, trivial⟩, _, _, _, _, _, _, _, _, _, _, _, _, rfl, rfl, rfl⟩
  · rintro k vals B ⟨x, y, z, u, v, w, p, q, r, e, f, g, rfl, rfl, rfl⟩
    show CodeOK Try.prog 0 (.seq c3_8 (.seq c3_9 c3_10)) _ _ _
    refine CodeOK.seq ((CodeOK.lookN (C := C7) ec gs7 mixed (u := 0) (len := 124) (L := [7]) (M := [true, true]) (Nat.zero_le _)
      (Q := fun k vals B => k = .normal ∧ vals = [.ptr 1 0 3 0] ∧ B = [o3 a b c 22, o3 a b c 23]) ?_).st ?_)
    · rw [p3b]
      simp only [beq_self_eq_true, bne_self_eq_false, cond_false, Bool.and_self, Bool.not_true]
      exact ⟨rfl, rfl, ⟨rfl, rfl, trivial⟩, rfl, rfl, rfl⟩
    · rintro k vals B ⟨rfl, rfl, rfl⟩
      show CodeOK Try.prog 0 (.seq c3_9 c3_10) _ _ (endK Try.prog ([6].map .tmp) _)
      refine CodeOK.fin (C := C7) ec gs7 mixed (u := 0) (M := []) (k := fun v _ => v = .bool true) ?_ fun v hp h => h
      rw [p3d]
      simp only [beq_self_eq_true, cond_true]
      exact ⟨.inl trivial, rfl⟩
theorem tells_any (a b c sp m : Int) (w : World) : Calls Try.prog 3 #[.agg #[.int .i64 a, .int .i64 b, .int .i64 c], .int .i64 sp, .int .i64 m] w fun e w' => e = .returned (.bool true) ∧ Below w.heap.size w w' :=
  lawOf (canon3 a b c sp m) (vs := [.agg #[.int .i64 a, .int .i64 b, .int .i64 c], .int .i64 sp, .int .i64 m]) (by simp [RL, R]) w
end Go.Proofs.Ytfhkmagpgbcnjaa
