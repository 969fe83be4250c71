/-
  The reference of Whole, for each number of bytes.
-/
import Derived.Test.YtpkbbbfgabfcgaaW1
namespace Go.Proofs.Ytpkbbbfgabfcgaa
open Go.RowKit

set_option maxHeartbeats 2000000 in
theorem rwhole3_never (x0 x1 x2 : Int) (b off c : Nat) (w : World) (l0 : 0 ≤ x0) (u0 : x0 ≤ 255) (l1 : 0 ≤ x1) (u1 : x1 ≤ 255) (l2 : 0 ≤ x2) (u2 : x2 ≤ 255) (c0 : w.cell? ⟨b, off, none⟩ = some (.int .u8 x0)) (c1 : w.cell? ⟨b, off + 1, none⟩ = some (.int .u8 x1)) (c2 : w.cell? ⟨b, off + 2, none⟩ = some (.int .u8 x2)) :
    Calls Try.prog 16 #[.int .i64 (-1), .slice (some ⟨b, off, none⟩) 3 c] w fun e w' => e = .returned (.tuple #[.int .i64 (nearV 0 16777216 ((x0 * 256 + x1) * 256 + x2)), .int .i64 0]) ∧ Below w.heap.size w w' := by
  go_enter Try.func16, Try.ntmps16
  go_wp2_with (go_at_call 20; refine (ris_any _ _).mono ?_; rintro e w' ⟨rfl, rfl⟩)
  refine wp_loop_rounds 5 ?_
  rw [rounds_succ]; go_wp2
  rw [rounds_succ]; go_wp2
  rw [rounds_succ]; go_wp2
  rw [rounds_succ]; go_wp2
  refine wp_loop_rounds 4 ?_
  rw [rounds_succ]
  go_wp2
  all_goals (rw [rounds_succ]; go_wp2)
  all_goals (rw [rounds_succ]; go_wp2)
  all_goals (rw [rounds_succ]; go_wp2)
  all_goals go_ret2
  all_goals exact ⟨ret2_int (by simp only [nearV]; (repeat' split) <;> omega) rfl, Below.refl _ _⟩

set_option maxHeartbeats 2000000 in
theorem rwhole3 (g x0 x1 x2 : Int) (b off c : Nat) (w : World) (h0 : 0 ≤ g) (h1 : g ≤ 9007199254740991) (l0 : 0 ≤ x0) (u0 : x0 ≤ 255) (l1 : 0 ≤ x1) (u1 : x1 ≤ 255) (l2 : 0 ≤ x2) (u2 : x2 ≤ 255) (c0 : w.cell? ⟨b, off, none⟩ = some (.int .u8 x0)) (c1 : w.cell? ⟨b, off + 1, none⟩ = some (.int .u8 x1)) (c2 : w.cell? ⟨b, off + 2, none⟩ = some (.int .u8 x2)) :
    Calls Try.prog 16 #[.int .i64 g, .slice (some ⟨b, off, none⟩) 3 c] w fun e w' => e = .returned (.tuple #[.int .i64 (nearV (g + 1) 16777216 ((x0 * 256 + x1) * 256 + x2)), .int .i64 0]) ∧ Below w.heap.size w w' := by
  have hg := isN_true h0 h1
  have hne : (g != -1) = true := by rw [bne_iff_ne]; omega
  go_enter Try.func16, Try.ntmps16
  go_wp2_with (go_at_call 20; refine (ris_any _ _).mono ?_; rintro e w' ⟨rfl, rfl⟩)
  refine wp_loop_rounds 5 ?_
  rw [rounds_succ]; go_wp2
  rw [rounds_succ]; go_wp2
  rw [rounds_succ]; go_wp2
  rw [rounds_succ]; go_wp2
  refine wp_loop_rounds 4 ?_
  rw [rounds_succ]
  go_wp2
  all_goals (rw [rounds_succ]; go_wp2)
  all_goals (rw [rounds_succ]; go_wp2)
  all_goals (rw [rounds_succ]; go_wp2)
  all_goals go_ret2
  all_goals exact ⟨ret2_int (by simp only [nearV]; (repeat' split) <;> omega) rfl, Below.refl _ _⟩

set_option maxHeartbeats 2000000 in
theorem rwhole4_never (x0 x1 x2 x3 : Int) (b off c : Nat) (w : World) (l0 : 0 ≤ x0) (u0 : x0 ≤ 255) (l1 : 0 ≤ x1) (u1 : x1 ≤ 255) (l2 : 0 ≤ x2) (u2 : x2 ≤ 255) (l3 : 0 ≤ x3) (u3 : x3 ≤ 255) (c0 : w.cell? ⟨b, off, none⟩ = some (.int .u8 x0)) (c1 : w.cell? ⟨b, off + 1, none⟩ = some (.int .u8 x1)) (c2 : w.cell? ⟨b, off + 2, none⟩ = some (.int .u8 x2)) (c3 : w.cell? ⟨b, off + 3, none⟩ = some (.int .u8 x3)) :
    Calls Try.prog 16 #[.int .i64 (-1), .slice (some ⟨b, off, none⟩) 4 c] w fun e w' => e = .returned (.tuple #[.int .i64 (nearV 0 4294967296 (((x0 * 256 + x1) * 256 + x2) * 256 + x3)), .int .i64 0]) ∧ Below w.heap.size w w' := by
  go_enter Try.func16, Try.ntmps16
  go_wp2_with (go_at_call 20; refine (ris_any _ _).mono ?_; rintro e w' ⟨rfl, rfl⟩)
  refine wp_loop_rounds 6 ?_
  rw [rounds_succ]; go_wp2
  rw [rounds_succ]; go_wp2
  rw [rounds_succ]; go_wp2
  rw [rounds_succ]; go_wp2
  rw [rounds_succ]; go_wp2
  refine wp_loop_rounds 4 ?_
  rw [rounds_succ]
  go_wp2
  all_goals (rw [rounds_succ]; go_wp2)
  all_goals (rw [rounds_succ]; go_wp2)
  all_goals (rw [rounds_succ]; go_wp2)
  all_goals go_ret2
  all_goals exact ⟨ret2_int (by simp only [nearV]; (repeat' split) <;> omega) rfl, Below.refl _ _⟩

set_option maxHeartbeats 2000000 in
theorem rwhole4 (g x0 x1 x2 x3 : Int) (b off c : Nat) (w : World) (h0 : 0 ≤ g) (h1 : g ≤ 9007199254740991) (l0 : 0 ≤ x0) (u0 : x0 ≤ 255) (l1 : 0 ≤ x1) (u1 : x1 ≤ 255) (l2 : 0 ≤ x2) (u2 : x2 ≤ 255) (l3 : 0 ≤ x3) (u3 : x3 ≤ 255) (c0 : w.cell? ⟨b, off, none⟩ = some (.int .u8 x0)) (c1 : w.cell? ⟨b, off + 1, none⟩ = some (.int .u8 x1)) (c2 : w.cell? ⟨b, off + 2, none⟩ = some (.int .u8 x2)) (c3 : w.cell? ⟨b, off + 3, none⟩ = some (.int .u8 x3)) :
    Calls Try.prog 16 #[.int .i64 g, .slice (some ⟨b, off, none⟩) 4 c] w fun e w' => e = .returned (.tuple #[.int .i64 (nearV (g + 1) 4294967296 (((x0 * 256 + x1) * 256 + x2) * 256 + x3)), .int .i64 0]) ∧ Below w.heap.size w w' := by
  have hg := isN_true h0 h1
  have hne : (g != -1) = true := by rw [bne_iff_ne]; omega
  go_enter Try.func16, Try.ntmps16
  go_wp2_with (go_at_call 20; refine (ris_any _ _).mono ?_; rintro e w' ⟨rfl, rfl⟩)
  refine wp_loop_rounds 6 ?_
  rw [rounds_succ]; go_wp2
  rw [rounds_succ]; go_wp2
  rw [rounds_succ]; go_wp2
  rw [rounds_succ]; go_wp2
  rw [rounds_succ]; go_wp2
  refine wp_loop_rounds 4 ?_
  rw [rounds_succ]
  go_wp2
  all_goals (rw [rounds_succ]; go_wp2)
  all_goals (rw [rounds_succ]; go_wp2)
  all_goals (rw [rounds_succ]; go_wp2)
  all_goals go_ret2
  all_goals exact ⟨ret2_int (by simp only [nearV]; (repeat' split) <;> omega) rfl, Below.refl _ _⟩

end Go.Proofs.Ytpkbbbfgabfcgaa
