/-
  Contracts of the functions of layer 3, part 1.
-/
import Derived.Test.YtpkbbbfgabfcgaaRows
import Derived.Test.YtpkbbbfgabfcgaaP
import Derived.WalkKit
import Derived.WalkSpells
import Derived.WalkLawsBesides
import Derived.LoopN
import Derived.Test.YtpkbbbfgabfcgaaU
import Derived.Outline
import Derived.Lib.Hide
namespace Go.Proofs.Ytpkbbbfgabfcgaa
open Go.RowKit

theorem is_any (n : Int) (w : World) :
    Calls Try.prog 19 #[.int .i64 n] w fun e w' => e = .returned (.bool (isN n)) ∧ w = w' := by
  go_enter Try.func19, Try.ntmps19
  go_wp2
  all_goals go_ret
  all_goals exact ⟨by simp [isN]; omega, rfl⟩

theorem ris_any (n : Int) (w : World) :
    Calls Try.prog 20 #[.int .i64 n] w fun e w' => e = .returned (.bool (isN n)) ∧ w = w' := by
  go_enter Try.func20, Try.ntmps20
  go_wp2
  all_goals go_ret
  all_goals exact ⟨by simp [isN]; omega, rfl⟩

theorem ret2_int {k k' : IntKind} {a b c d : Int} (h : a = c) (h' : b = d) : Ending.returned (.tuple #[.int k a, .int k' b]) = .returned (.tuple #[.int k c, .int k' d]) := by rw [h, h']

set_option maxHeartbeats 400000 in
theorem len_any (full acked : Int) (w : World) :
    Calls Try.prog 9 #[.int .i64 full, .int .i64 acked] w fun e w' => e = .returned (.tuple #[.int .i64 (lenN full acked), .int .i64 (lenE full acked)]) ∧ w = w' := by
  by_cases h0 : 0 ≤ full ∧ full ≤ 9007199254740991
  · obtain ⟨hb1, hb2⟩ := h0
    have h0 : isN full = true := isN_true hb1 hb2
    go_enter Try.func9, Try.ntmps9
    go_wp2_with (go_at_call 19; refine (is_any _ _).mono ?_; rintro e w' ⟨rfl, rfl⟩)
    all_goals first
      | go_ret2
      | (refine wp_loop_rounds 5 ?_
         rw [rounds_succ]; go_wp2
         all_goals first | go_ret2 | (rw [rounds_succ]; go_wp2)
         all_goals first | go_ret2 | (rw [rounds_succ]; go_wp2) | skip
         all_goals first | go_ret2 | (rw [rounds_succ]; go_wp2) | skip
         all_goals first | go_ret2 | (rw [rounds_succ]; go_wp2) | skip
         all_goals first | go_ret2 | skip)
    all_goals exact ⟨ret2_int (by simp only [lenN]; (repeat' split) <;> omega) (by simp only [lenE]; (repeat' split) <;> omega), rfl⟩
  · have h1 : isN full = false := isN_false (by omega)
    go_enter Try.func9, Try.ntmps9
    go_wp2_with (go_at_call 19; refine (is_any _ _).mono ?_; rintro e w' ⟨rfl, rfl⟩)
    go_ret2
    exact ⟨ret2_int (by simp only [lenN]; (repeat' split) <;> omega) (by simp only [lenE]; (repeat' split) <;> omega), rfl⟩

set_option maxHeartbeats 400000 in
theorem rlen_any (full acked : Int) (w : World) :
    Calls Try.prog 10 #[.int .i64 full, .int .i64 acked] w fun e w' => e = .returned (.tuple #[.int .i64 (lenN full acked), .int .i64 (lenE full acked)]) ∧ w = w' := by
  by_cases h0 : 0 ≤ full ∧ full ≤ 9007199254740991
  · obtain ⟨hb1, hb2⟩ := h0
    have h0 : isN full = true := isN_true hb1 hb2
    go_enter Try.func10, Try.ntmps10
    go_wp2_with (go_at_call 20; refine (ris_any _ _).mono ?_; rintro e w' ⟨rfl, rfl⟩)
    all_goals first
      | go_ret2
      | (refine wp_loop_rounds 5 ?_
         rw [rounds_succ]; go_wp2
         all_goals first | go_ret2 | (rw [rounds_succ]; go_wp2)
         all_goals first | go_ret2 | (rw [rounds_succ]; go_wp2) | skip
         all_goals first | go_ret2 | (rw [rounds_succ]; go_wp2) | skip
         all_goals first | go_ret2 | (rw [rounds_succ]; go_wp2) | skip
         all_goals first | go_ret2 | skip)
    all_goals exact ⟨ret2_int (by simp only [lenN]; (repeat' split) <;> omega) (by simp only [lenE]; (repeat' split) <;> omega), rfl⟩
  · have h1 : isN full = false := isN_false (by omega)
    go_enter Try.func10, Try.ntmps10
    go_wp2_with (go_at_call 20; refine (ris_any _ _).mono ?_; rintro e w' ⟨rfl, rfl⟩)
    go_ret2
    exact ⟨ret2_int (by simp only [lenN]; (repeat' split) <;> omega) (by simp only [lenE]; (repeat' split) <;> omega), rfl⟩

/-! ### Cut -/
theorem cut_no (full n : Int) (w : World) (h : isN full = false) :
    Calls Try.prog 11 #[.int .i64 full, .int .i64 n] w fun e w' => e = .returned (.tuple #[.slice none 0 0, .int .i64 9]) ∧ w = w' := by
  go_enter Try.func11, Try.ntmps11
  go_wp2_with (go_at_call 19; refine (is_any _ _).mono ?_; rintro e w' ⟨rfl, rfl⟩)
  go_ret2
  exact ⟨rfl, rfl⟩
theorem cut_arg (full n : Int) (w : World) (h : isN full = true) (hn : n < 1 ∨ 4 < n) :
    Calls Try.prog 11 #[.int .i64 full, .int .i64 n] w fun e w' => e = .returned (.tuple #[.slice none 0 0, .int .i64 2]) ∧ w = w' := by
  rcases hn with hn | hn
  all_goals
    go_enter Try.func11, Try.ntmps11
    go_wp2_with (go_at_call 19; refine (is_any _ _).mono ?_; rintro e w' ⟨rfl, rfl⟩)
    go_ret2
    exact ⟨rfl, rfl⟩
theorem rcut_no (full n : Int) (w : World) (h : isN full = false) :
    Calls Try.prog 12 #[.int .i64 full, .int .i64 n] w fun e w' => e = .returned (.tuple #[.slice none 0 0, .int .i64 9]) ∧ w = w' := by
  go_enter Try.func12, Try.ntmps12
  go_wp2_with (go_at_call 20; refine (ris_any _ _).mono ?_; rintro e w' ⟨rfl, rfl⟩)
  go_ret2
  exact ⟨rfl, rfl⟩
theorem rcut_arg (full n : Int) (w : World) (h : isN full = true) (hn : n < 1 ∨ 4 < n) :
    Calls Try.prog 12 #[.int .i64 full, .int .i64 n] w fun e w' => e = .returned (.tuple #[.slice none 0 0, .int .i64 2]) ∧ w = w' := by
  rcases hn with hn | hn
  all_goals
    go_enter Try.func12, Try.ntmps12
    go_wp2_with (go_at_call 20; refine (ris_any _ _).mono ?_; rintro e w' ⟨rfl, rfl⟩)
    go_ret2
    exact ⟨rfl, rfl⟩

theorem cut_yes (full n : Int) (w : World) (h0 : 0 ≤ full) (h1 : full ≤ 9007199254740991) (hn1 : 1 ≤ n) (hn2 : n ≤ 4) :
    Calls Try.prog 11 #[.int .i64 full, .int .i64 n] w fun e w' => ∃ A c, e = .returned (.tuple #[.slice A n.toNat c, .int .i64 0]) ∧ BS w' A (cutL full n) ∧ Below w.heap.size w w' := by
  have h : isN full = true := isN_true h0 h1
  have hn : n = 1 ∨ n = 2 ∨ n = 3 ∨ n = 4 := by omega
  rcases hn with rfl | rfl | rfl | rfl
  all_goals
    go_enter Try.func11, Try.ntmps11
    go_wp2_with (go_at_call 19; refine (is_any _ _).mono ?_; rintro e w' ⟨rfl, rfl⟩)
    go_ret2
    exact ⟨_, _, rfl, BS.new rfl (cutL_byte _ _), (Below.refl _ _).alloc (Nat.le_refl _) _⟩

theorem rcut_yes (full n : Int) (w : World) (h0 : 0 ≤ full) (h1 : full ≤ 9007199254740991) (hn1 : 1 ≤ n) (hn2 : n ≤ 4) :
    Calls Try.prog 12 #[.int .i64 full, .int .i64 n] w fun e w' => ∃ A c, e = .returned (.tuple #[.slice A n.toNat c, .int .i64 0]) ∧ BS w' A (cutL full n) ∧ Below w.heap.size w w' := by
  have h : isN full = true := isN_true h0 h1
  have hn : n = 1 ∨ n = 2 ∨ n = 3 ∨ n = 4 := by omega
  have m1 : ∀ w, (Instr.makeSlice 22 (.int .i64 1) (.int .i64 1)).run Try.prog w = .ok (.slice (some ⟨w.heap.size, 0, none⟩) 1 1) (w.alloc (.cells #[.int .u8 0] 5)) := fun _ => by kernel_rfl
  have m2 : ∀ w, (Instr.makeSlice 22 (.int .i64 2) (.int .i64 2)).run Try.prog w = .ok (.slice (some ⟨w.heap.size, 0, none⟩) 2 2) (w.alloc (.cells #[.int .u8 0, .int .u8 0] 5)) := fun _ => by kernel_rfl
  have m3 : ∀ w, (Instr.makeSlice 22 (.int .i64 3) (.int .i64 3)).run Try.prog w = .ok (.slice (some ⟨w.heap.size, 0, none⟩) 3 3) (w.alloc (.cells #[.int .u8 0, .int .u8 0, .int .u8 0] 5)) := fun _ => by kernel_rfl
  have m4 : ∀ w, (Instr.makeSlice 22 (.int .i64 4) (.int .i64 4)).run Try.prog w = .ok (.slice (some ⟨w.heap.size, 0, none⟩) 4 4) (w.alloc (.cells #[.int .u8 0, .int .u8 0, .int .u8 0, .int .u8 0] 5)) := fun _ => by kernel_rfl
  rcases hn with rfl | rfl | rfl | rfl
  all_goals
    go_enter Try.func12, Try.ntmps12
    go_wp2_with (go_at_call 20; refine (ris_any _ _).mono ?_; rintro e w' ⟨rfl, rfl⟩)
    refine wp_loop_rounds 5 ?_
    rw [rounds_succ]; go_wp2
    rw [rounds_succ]; go_wp2
    try (rw [rounds_succ]; go_wp2)
    try (rw [rounds_succ]; go_wp2)
    try (rw [rounds_succ]; go_wp2)
    go_ret2
    refine ⟨_, _, rfl, BS.new ?_ (cutL_byte _ _), (Below.refl _ _).alloc (Nat.le_refl _) _⟩
    simp [cutL]
    try omega

theorem eqb_any (A B : Option Addr) (n m c d : Nat) (xs ys : List Int) (w : World) (hn : xs.length = n) (hm : ys.length = m) (hA : BS w A xs) (hB : BS w B ys) :
    Calls Try.prog 13 #[.slice A n c, .slice B m d] w fun e w' => e = .returned (.bool (decide (xs = ys))) ∧ w = w' := by
  have k1 := hA.conv (P := Try.prog) 22 5 9 Try.underlying22 Try.underlying5 Try.underlying9 n c hn
  have k2 := hB.conv (P := Try.prog) 22 5 9 Try.underlying22 Try.underlying5 Try.underlying9 m d hm
  have k3 := Lib.hid (str_eq hA.2 hB.2)
  clear hn hm hA hB
  go_enter Try.func13, Try.ntmps13
  go_wp2
  go_ret
  exact ⟨congrArg (fun b => Ending.returned (.bool b)) k3.out, rfl⟩

end Go.Proofs.Ytpkbbbfgabfcgaa
