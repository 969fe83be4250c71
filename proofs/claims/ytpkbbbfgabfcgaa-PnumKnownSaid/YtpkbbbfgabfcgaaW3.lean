/-
  The reference of Whole, for each number of bytes.
-/
import Derived.Test.YtpkbbbfgabfcgaaW1
namespace Go.Proofs.Ytpkbbbfgabfcgaa
open Go.RowKit

set_option maxHeartbeats 2000000 in
theorem rwhole1_never (x0 : Int) (b off c : Nat) (w : World) (l0 : 0 ≤ x0) (u0 : x0 ≤ 255) (c0 : w.cell? ⟨b, off, none⟩ = some (.int .u8 x0)) :
    Calls Try.prog 16 #[.int .i64 (-1), .slice (some ⟨b, off, none⟩) 1 c] w fun e w' => e = .returned (.tuple #[.int .i64 (nearV 0 256 (x0)), .int .i64 0]) ∧ Below w.heap.size w w' := by
  go_enter Try.func16, Try.ntmps16
  go_wp2_with (go_at_call 20; refine (ris_any _ _).mono ?_; rintro e w' ⟨rfl, rfl⟩)
  refine wp_loop_rounds 3 ?_
  rw [rounds_succ]; go_wp2
  rw [rounds_succ]; go_wp2
  refine wp_loop_rounds 4 ?_
  rw [rounds_succ]
  go_wp2
  all_goals (rw [rounds_succ]; go_wp2)
  all_goals (rw [rounds_succ]; go_wp2)
  all_goals (rw [rounds_succ]; go_wp2)
  all_goals go_ret2
  all_goals exact ⟨ret2_int (by simp only [nearV]; (repeat' split) <;> omega) rfl, Below.refl _ _⟩

set_option maxHeartbeats 2000000 in
theorem rwhole1 (g x0 : Int) (b off c : Nat) (w : World) (h0 : 0 ≤ g) (h1 : g ≤ 9007199254740991) (l0 : 0 ≤ x0) (u0 : x0 ≤ 255) (c0 : w.cell? ⟨b, off, none⟩ = some (.int .u8 x0)) :
    Calls Try.prog 16 #[.int .i64 g, .slice (some ⟨b, off, none⟩) 1 c] w fun e w' => e = .returned (.tuple #[.int .i64 (nearV (g + 1) 256 (x0)), .int .i64 0]) ∧ Below w.heap.size w w' := by
  have hg := isN_true h0 h1
  have hne : (g != -1) = true := by rw [bne_iff_ne]; omega
  go_enter Try.func16, Try.ntmps16
  go_wp2_with (go_at_call 20; refine (ris_any _ _).mono ?_; rintro e w' ⟨rfl, rfl⟩)
  refine wp_loop_rounds 3 ?_
  rw [rounds_succ]; go_wp2
  rw [rounds_succ]; go_wp2
  refine wp_loop_rounds 4 ?_
  rw [rounds_succ]
  go_wp2
  all_goals (rw [rounds_succ]; go_wp2)
  all_goals (rw [rounds_succ]; go_wp2)
  all_goals (rw [rounds_succ]; go_wp2)
  all_goals go_ret2
  all_goals exact ⟨ret2_int (by simp only [nearV]; (repeat' split) <;> omega) rfl, Below.refl _ _⟩

set_option maxHeartbeats 2000000 in
theorem rwhole2_never (x0 x1 : Int) (b off c : Nat) (w : World) (l0 : 0 ≤ x0) (u0 : x0 ≤ 255) (l1 : 0 ≤ x1) (u1 : x1 ≤ 255) (c0 : w.cell? ⟨b, off, none⟩ = some (.int .u8 x0)) (c1 : w.cell? ⟨b, off + 1, none⟩ = some (.int .u8 x1)) :
    Calls Try.prog 16 #[.int .i64 (-1), .slice (some ⟨b, off, none⟩) 2 c] w fun e w' => e = .returned (.tuple #[.int .i64 (nearV 0 65536 (x0 * 256 + x1)), .int .i64 0]) ∧ Below w.heap.size w w' := by
  go_enter Try.func16, Try.ntmps16
  go_wp2_with (go_at_call 20; refine (ris_any _ _).mono ?_; rintro e w' ⟨rfl, rfl⟩)
  refine wp_loop_rounds 4 ?_
  rw [rounds_succ]; go_wp2
  rw [rounds_succ]; go_wp2
  rw [rounds_succ]; go_wp2
  refine wp_loop_rounds 4 ?_
  rw [rounds_succ]
  go_wp2
  all_goals (rw [rounds_succ]; go_wp2)
  all_goals (rw [rounds_succ]; go_wp2)
  all_goals (rw [rounds_succ]; go_wp2)
  all_goals go_ret2
  all_goals exact ⟨ret2_int (by simp only [nearV]; (repeat' split) <;> omega) rfl, Below.refl _ _⟩

set_option maxHeartbeats 2000000 in
theorem rwhole2 (g x0 x1 : Int) (b off c : Nat) (w : World) (h0 : 0 ≤ g) (h1 : g ≤ 9007199254740991) (l0 : 0 ≤ x0) (u0 : x0 ≤ 255) (l1 : 0 ≤ x1) (u1 : x1 ≤ 255) (c0 : w.cell? ⟨b, off, none⟩ = some (.int .u8 x0)) (c1 : w.cell? ⟨b, off + 1, none⟩ = some (.int .u8 x1)) :
    Calls Try.prog 16 #[.int .i64 g, .slice (some ⟨b, off, none⟩) 2 c] w fun e w' => e = .returned (.tuple #[.int .i64 (nearV (g + 1) 65536 (x0 * 256 + x1)), .int .i64 0]) ∧ Below w.heap.size w w' := by
  have hg := isN_true h0 h1
  have hne : (g != -1) = true := by rw [bne_iff_ne]; omega
  go_enter Try.func16, Try.ntmps16
  go_wp2_with (go_at_call 20; refine (ris_any _ _).mono ?_; rintro e w' ⟨rfl, rfl⟩)
  refine wp_loop_rounds 4 ?_
  rw [rounds_succ]; go_wp2
  rw [rounds_succ]; go_wp2
  rw [rounds_succ]; go_wp2
  refine wp_loop_rounds 4 ?_
  rw [rounds_succ]
  go_wp2
  all_goals (rw [rounds_succ]; go_wp2)
  all_goals (rw [rounds_succ]; go_wp2)
  all_goals (rw [rounds_succ]; go_wp2)
  all_goals go_ret2
  all_goals exact ⟨ret2_int (by simp only [nearV]; (repeat' split) <;> omega) rfl, Below.refl _ _⟩

end Go.Proofs.Ytpkbbbfgabfcgaa
