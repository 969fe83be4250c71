/-
  PtoLeast: measure, the plain law, and the walk.
-/
import Derived.Test.YtegpfcigfejinaaW6
import Derived.StillTailTactics
namespace Go.Proofs.Ytegpfcigfejinaa
open Go.RowKit

theorem bring_s (i n : Int) (w : World) (hn : 0 < n) (hn2 : n ≤ 4611686018427387904) :
    Calls Try.prog 20 #[.int .i64 i, .int .i64 n] w fun e w' => e = .returned (.int .i64 (i % n)) ∧ w' = w :=
  (bring_any i n w hn hn2).mono fun _ _ ⟨he, hw⟩ => ⟨he, hw.symm⟩

/-- What measure leaves. -/
def Measured (w : World) (e : Ending) (w' : World) : Prop :=
  ∃ l m s v : Int, 0 ≤ m ∧ m ≤ l ∧ l ≤ 9007199254740991 ∧ m ≤ s ∧ s ≤ 9007199254740991 ∧ 0 ≤ v ∧ v ≤ 9007199254740991 ∧
    e = .returned (.agg #[.int .i64 l, .int .i64 m, .int .i64 s, .int .i64 v, .int .i64 0]) ∧ Below w.heap.size w w'

set_option maxHeartbeats 1000000 in
theorem measure_any (x0 x1 x2 x3 : Int) (w : World) :
    Calls Try.prog 19 #[.agg #[.int .i64 x0, .int .i64 x1, .int .i64 x2, .int .i64 x3]] w (Measured w) := by
  go_enter Try.func19, Try.ntmps19
  go_wp2_with fail
  refine (bring_in x0 9007199254740992 _ (by decide) (by decide)).mono ?_
  rintro e w' ⟨m, hm0, hm1, rfl, rfl⟩
  have k1 := IntWalk.i64_in (9007199254740992 - m) (by omega)
  go_wp2_with fail
  refine wp_region_still_tail 19 (by kernel_rfl) (by kernel_rfl) ?_
  change wpStill _ _ (World.drew ((w.alloc _).alloc _)) (fun a' => wpList _ _ _ _ a' (World.drew ((w.alloc _).alloc _))) _ _
  simp only [List.take_succ_cons, List.take_zero, List.drop_succ_cons, List.drop_zero]
  repeat still_step
  still_call (bring_s x1 _ _ (by omega) (by omega))
  have t1 := Int.emod_nonneg x1 (show 9007199254740992 - m ≠ 0 by omega)
  have t2 := Int.emod_lt_of_pos x1 (show 0 < 9007199254740992 - m by omega)
  have k2 := IntWalk.i64_in (m + x1 % (9007199254740992 - m)) (by omega)
  repeat still_step
  still_call (bring_s x2 _ _ (by omega) (by omega))
  have t3 := Int.emod_nonneg x2 (show 9007199254740992 - m ≠ 0 by omega)
  have t4 := Int.emod_lt_of_pos x2 (show 0 < 9007199254740992 - m by omega)
  have k3 := IntWalk.i64_in (m + x2 % (9007199254740992 - m)) (by omega)
  repeat still_step
  still_call (bring_s x3 _ _ (by omega) (by omega))
  have t5 := Int.emod_nonneg x3 (show (9007199254740992 : Int) ≠ 0 by omega)
  have t6 := Int.emod_lt_of_pos x3 (show (0 : Int) < 9007199254740992 by omega)
  repeat still_step
  refine wpStill_nil ?_
  go_wp2
  exact bodyPost_ret (v := .agg #[.int .i64 (m + x1 % (9007199254740992 - m)), .int .i64 m, .int .i64 (m + x2 % (9007199254740992 - m)), .int .i64 (x3 % 9007199254740992), .int .i64 0]) (by simp [results, Try.results19, go_sem]) rfl ⟨_, _, _, _, hm0, by omega, by omega, by omega, by omega, t5, by omega, rfl, (((Below.refl _ _).alloc (Nat.le_refl _) _).alloc (by simp) _).drew⟩
end Go.Proofs.Ytegpfcigfejinaa
