/-
  PnumLeast: plain laws and the walk.
-/
import Derived.Test.YtpkbbbfgabfcgaaW9
namespace Go.Proofs.Ytpkbbbfgabfcgaa
open Go.RowKit

theorem least1 (f a : Int) (h0 : 0 ≤ f) (h1 : f ≤ 9007199254740991) (hd : 128 < f - a) : nearV (a + 1) 256 (f % 256) < f ∨ f - a - 1 = 128 ∨ f < 256 := by
  unfold nearV; (repeat' split) <;> omega

theorem least2 (f a : Int) (h0 : 0 ≤ f) (h1 : f ≤ 9007199254740991) (hd : 32768 < f - a) : nearV (a + 1) 65536 (f % 65536) < f ∨ f - a - 1 = 32768 ∨ f < 65536 := by
  unfold nearV; (repeat' split) <;> omega

theorem least3 (f a : Int) (h0 : 0 ≤ f) (h1 : f ≤ 9007199254740991) (hd : 8388608 < f - a) : nearV (a + 1) 16777216 (f % 16777216) < f ∨ f - a - 1 = 8388608 ∨ f < 16777216 := by
  unfold nearV; (repeat' split) <;> omega

set_option maxHeartbeats 4000000 in
theorem least_any (full acked : Int) (w : World) :
    Calls Try.prog 5 #[.int .i64 full, .int .i64 acked] w fun e w' => e = .returned (.bool true) ∧ Below w.heap.size w w' := by
  go_enter Try.func5, Try.ntmps5
  go_wp2_with fail
  refine (bring_in full 9007199254740992 _ (by decide) (by decide)).mono ?_
  rintro e w' ⟨f, hf0, hf1, rfl, rfl⟩
  go_wp2_with fail
  refine (bring_in acked 2147483648 _ (by decide) (by decide)).mono ?_
  rintro e w' ⟨d, hd0, hd1, rfl, rfl⟩
  go_wp2_with fail
  · have hc := len_cases f (f - 1 - d) hf0 (by omega) (by omega) (by omega) (by omega)
    obtain ⟨hE0, hc⟩ := hc
    refine (len_any _ _ _).mono ?_
    rintro e w' ⟨rfl, rfl⟩
    rcases hc with ⟨hN0, hd⟩ | ⟨hN0, hd, hd'⟩ | ⟨hN0, hd, hd'⟩ | ⟨hN0, hd⟩
    · go_wp2_with fail
      refine (works_any _).mono ?_
      rintro e w2 ⟨rfl, hb2⟩
      go_wp2_with fail
      go_ret
      exact ⟨rfl, hb2⟩
    · have hE := (wholeN_cut f (f - 1 - d) 1 (by decide) (by decide) (by omega) (by omega)).1
      have hL := least1 f (f - 1 - d) (by omega) (by omega) (by omega)
      have hW : wholeN (f - 1 - d) (cutL f 1) = nearV ((f - 1 - d) + 1) 256 (f % 256) := (wholeN_cut f (f - 1 - d) 1 (by decide) (by decide) (by omega) (by omega)).2
      rw [← hW] at hL
      clear hW
      go_wp2_with fail
      refine (cut_yes f 1 _ (by omega) (by omega) (by decide) (by decide)).mono ?_
      rintro e w2 ⟨A, c, rfl, hA, hb2⟩
      go_wp2_with fail
      refine (whole_any _ A 1 c (cutL f 1) _ rfl hA).mono ?_
      rintro e w3 ⟨rfl, hb3⟩
      generalize wholeN (f - 1 - d) (cutL f 1) = v at hL ⊢
      by_cases c1 : v < f
      · clear hL
        go_wp2_with fail
        refine (works_any _).mono ?_
        rintro e w4 ⟨rfl, hb4⟩
        go_wp2_with fail
        go_ret
        exact ⟨rfl, (hb2.trans (hb3.mono hb2.size)).trans (hb4.mono (Nat.le_trans hb2.size hb3.size))⟩
      by_cases c2 : f - (f - 1 - d) - 1 = 128
      · have c2' : (f - (f - 1 - d) - 1 == 128) = true := by rw [beq_iff_eq]; omega
        have c1' : decide (v < f) = false := by simpa using c1
        clear c1 hL c2
        go_wp2_with fail
        refine (works_any _).mono ?_
        rintro e w4 ⟨rfl, hb4⟩
        go_wp2_with fail
        go_ret
        exact ⟨rfl, (hb2.trans (hb3.mono hb2.size)).trans (hb4.mono (Nat.le_trans hb2.size hb3.size))⟩
      · have c3 : f < 256 := by omega
        have c2' : (f - (f - 1 - d) - 1 == 128) = false := by rw [beq_eq_false_iff_ne]; omega
        have c1' : decide (v < f) = false := by simpa using c1
        clear c1 hL c2
        go_wp2_with fail
        refine (works_any _).mono ?_
        rintro e w4 ⟨rfl, hb4⟩
        go_wp2_with fail
        go_ret
        exact ⟨rfl, (hb2.trans (hb3.mono hb2.size)).trans (hb4.mono (Nat.le_trans hb2.size hb3.size))⟩
    · have hE := (wholeN_cut f (f - 1 - d) 2 (by decide) (by decide) (by omega) (by omega)).1
      have hL := least2 f (f - 1 - d) (by omega) (by omega) (by omega)
      have hW : wholeN (f - 1 - d) (cutL f 2) = nearV ((f - 1 - d) + 1) 65536 (f % 65536) := (wholeN_cut f (f - 1 - d) 2 (by decide) (by decide) (by omega) (by omega)).2
      rw [← hW] at hL
      clear hW
      go_wp2_with fail
      refine (cut_yes f 2 _ (by omega) (by omega) (by decide) (by decide)).mono ?_
      rintro e w2 ⟨A, c, rfl, hA, hb2⟩
      go_wp2_with fail
      refine (whole_any _ A 2 c (cutL f 2) _ rfl hA).mono ?_
      rintro e w3 ⟨rfl, hb3⟩
      generalize wholeN (f - 1 - d) (cutL f 2) = v at hL ⊢
      by_cases c1 : v < f
      · clear hL
        go_wp2_with fail
        refine (works_any _).mono ?_
        rintro e w4 ⟨rfl, hb4⟩
        go_wp2_with fail
        go_ret
        exact ⟨rfl, (hb2.trans (hb3.mono hb2.size)).trans (hb4.mono (Nat.le_trans hb2.size hb3.size))⟩
      by_cases c2 : f - (f - 1 - d) - 1 = 32768
      · have c2' : (f - (f - 1 - d) - 1 == 32768) = true := by rw [beq_iff_eq]; omega
        have c1' : decide (v < f) = false := by simpa using c1
        clear c1 hL c2
        go_wp2_with fail
        refine (works_any _).mono ?_
        rintro e w4 ⟨rfl, hb4⟩
        go_wp2_with fail
        go_ret
        exact ⟨rfl, (hb2.trans (hb3.mono hb2.size)).trans (hb4.mono (Nat.le_trans hb2.size hb3.size))⟩
      · have c3 : f < 65536 := by omega
        have c2' : (f - (f - 1 - d) - 1 == 32768) = false := by rw [beq_eq_false_iff_ne]; omega
        have c1' : decide (v < f) = false := by simpa using c1
        clear c1 hL c2
        go_wp2_with fail
        refine (works_any _).mono ?_
        rintro e w4 ⟨rfl, hb4⟩
        go_wp2_with fail
        go_ret
        exact ⟨rfl, (hb2.trans (hb3.mono hb2.size)).trans (hb4.mono (Nat.le_trans hb2.size hb3.size))⟩
    · have hE := (wholeN_cut f (f - 1 - d) 3 (by decide) (by decide) (by omega) (by omega)).1
      have hL := least3 f (f - 1 - d) (by omega) (by omega) (by omega)
      have hW : wholeN (f - 1 - d) (cutL f 3) = nearV ((f - 1 - d) + 1) 16777216 (f % 16777216) := (wholeN_cut f (f - 1 - d) 3 (by decide) (by decide) (by omega) (by omega)).2
      rw [← hW] at hL
      clear hW
      go_wp2_with fail
      refine (cut_yes f 3 _ (by omega) (by omega) (by decide) (by decide)).mono ?_
      rintro e w2 ⟨A, c, rfl, hA, hb2⟩
      go_wp2_with fail
      refine (whole_any _ A 3 c (cutL f 3) _ rfl hA).mono ?_
      rintro e w3 ⟨rfl, hb3⟩
      generalize wholeN (f - 1 - d) (cutL f 3) = v at hL ⊢
      by_cases c1 : v < f
      · clear hL
        go_wp2_with fail
        refine (works_any _).mono ?_
        rintro e w4 ⟨rfl, hb4⟩
        go_wp2_with fail
        go_ret
        exact ⟨rfl, (hb2.trans (hb3.mono hb2.size)).trans (hb4.mono (Nat.le_trans hb2.size hb3.size))⟩
      by_cases c2 : f - (f - 1 - d) - 1 = 8388608
      · have c2' : (f - (f - 1 - d) - 1 == 8388608) = true := by rw [beq_iff_eq]; omega
        have c1' : decide (v < f) = false := by simpa using c1
        clear c1 hL c2
        go_wp2_with fail
        refine (works_any _).mono ?_
        rintro e w4 ⟨rfl, hb4⟩
        go_wp2_with fail
        go_ret
        exact ⟨rfl, (hb2.trans (hb3.mono hb2.size)).trans (hb4.mono (Nat.le_trans hb2.size hb3.size))⟩
      · have c3 : f < 16777216 := by omega
        have c2' : (f - (f - 1 - d) - 1 == 8388608) = false := by rw [beq_eq_false_iff_ne]; omega
        have c1' : decide (v < f) = false := by simpa using c1
        clear c1 hL c2
        go_wp2_with fail
        refine (works_any _).mono ?_
        rintro e w4 ⟨rfl, hb4⟩
        go_wp2_with fail
        go_ret
        exact ⟨rfl, (hb2.trans (hb3.mono hb2.size)).trans (hb4.mono (Nat.le_trans hb2.size hb3.size))⟩
  · have hc := len_cases f (-1) hf0 (by omega) (by omega) (by omega) (by omega)
    obtain ⟨hE0, hc⟩ := hc
    refine (len_any _ _ _).mono ?_
    rintro e w' ⟨rfl, rfl⟩
    rcases hc with ⟨hN0, hd⟩ | ⟨hN0, hd, hd'⟩ | ⟨hN0, hd, hd'⟩ | ⟨hN0, hd⟩
    · go_wp2_with fail
      refine (works_any _).mono ?_
      rintro e w2 ⟨rfl, hb2⟩
      go_wp2_with fail
      go_ret
      exact ⟨rfl, hb2⟩
    · have hE := (wholeN_cut f (-1) 1 (by decide) (by decide) (by omega) (by omega)).1
      have hL := least1 f (-1) (by omega) (by omega) (by omega)
      have hW : wholeN (-1) (cutL f 1) = nearV ((-1) + 1) 256 (f % 256) := (wholeN_cut f (-1) 1 (by decide) (by decide) (by omega) (by omega)).2
      rw [← hW] at hL
      clear hW
      go_wp2_with fail
      refine (cut_yes f 1 _ (by omega) (by omega) (by decide) (by decide)).mono ?_
      rintro e w2 ⟨A, c, rfl, hA, hb2⟩
      go_wp2_with fail
      refine (whole_any _ A 1 c (cutL f 1) _ rfl hA).mono ?_
      rintro e w3 ⟨rfl, hb3⟩
      generalize wholeN (-1) (cutL f 1) = v at hL ⊢
      by_cases c1 : v < f
      · clear hL
        go_wp2_with fail
        refine (works_any _).mono ?_
        rintro e w4 ⟨rfl, hb4⟩
        go_wp2_with fail
        go_ret
        exact ⟨rfl, (hb2.trans (hb3.mono hb2.size)).trans (hb4.mono (Nat.le_trans hb2.size hb3.size))⟩
      by_cases c2 : f - (-1) - 1 = 128
      · have c2' : (f == 128) = true := by rw [beq_iff_eq]; omega
        have c1' : decide (v < f) = false := by simpa using c1
        clear c1 hL c2
        go_wp2_with fail
        refine (works_any _).mono ?_
        rintro e w4 ⟨rfl, hb4⟩
        go_wp2_with fail
        go_ret
        exact ⟨rfl, (hb2.trans (hb3.mono hb2.size)).trans (hb4.mono (Nat.le_trans hb2.size hb3.size))⟩
      · have c3 : f < 256 := by omega
        have c2' : (f == 128) = false := by rw [beq_eq_false_iff_ne]; omega
        have c1' : decide (v < f) = false := by simpa using c1
        clear c1 hL c2
        go_wp2_with fail
        refine (works_any _).mono ?_
        rintro e w4 ⟨rfl, hb4⟩
        go_wp2_with fail
        go_ret
        exact ⟨rfl, (hb2.trans (hb3.mono hb2.size)).trans (hb4.mono (Nat.le_trans hb2.size hb3.size))⟩
    · have hE := (wholeN_cut f (-1) 2 (by decide) (by decide) (by omega) (by omega)).1
      have hL := least2 f (-1) (by omega) (by omega) (by omega)
      have hW : wholeN (-1) (cutL f 2) = nearV ((-1) + 1) 65536 (f % 65536) := (wholeN_cut f (-1) 2 (by decide) (by decide) (by omega) (by omega)).2
      rw [← hW] at hL
      clear hW
      go_wp2_with fail
      refine (cut_yes f 2 _ (by omega) (by omega) (by decide) (by decide)).mono ?_
      rintro e w2 ⟨A, c, rfl, hA, hb2⟩
      go_wp2_with fail
      refine (whole_any _ A 2 c (cutL f 2) _ rfl hA).mono ?_
      rintro e w3 ⟨rfl, hb3⟩
      generalize wholeN (-1) (cutL f 2) = v at hL ⊢
      by_cases c1 : v < f
      · clear hL
        go_wp2_with fail
        refine (works_any _).mono ?_
        rintro e w4 ⟨rfl, hb4⟩
        go_wp2_with fail
        go_ret
        exact ⟨rfl, (hb2.trans (hb3.mono hb2.size)).trans (hb4.mono (Nat.le_trans hb2.size hb3.size))⟩
      by_cases c2 : f - (-1) - 1 = 32768
      · have c2' : (f == 32768) = true := by rw [beq_iff_eq]; omega
        have c1' : decide (v < f) = false := by simpa using c1
        clear c1 hL c2
        go_wp2_with fail
        refine (works_any _).mono ?_
        rintro e w4 ⟨rfl, hb4⟩
        go_wp2_with fail
        go_ret
        exact ⟨rfl, (hb2.trans (hb3.mono hb2.size)).trans (hb4.mono (Nat.le_trans hb2.size hb3.size))⟩
      · have c3 : f < 65536 := by omega
        have c2' : (f == 32768) = false := by rw [beq_eq_false_iff_ne]; omega
        have c1' : decide (v < f) = false := by simpa using c1
        clear c1 hL c2
        go_wp2_with fail
        refine (works_any _).mono ?_
        rintro e w4 ⟨rfl, hb4⟩
        go_wp2_with fail
        go_ret
        exact ⟨rfl, (hb2.trans (hb3.mono hb2.size)).trans (hb4.mono (Nat.le_trans hb2.size hb3.size))⟩
    · have hE := (wholeN_cut f (-1) 3 (by decide) (by decide) (by omega) (by omega)).1
      have hL := least3 f (-1) (by omega) (by omega) (by omega)
      have hW : wholeN (-1) (cutL f 3) = nearV ((-1) + 1) 16777216 (f % 16777216) := (wholeN_cut f (-1) 3 (by decide) (by decide) (by omega) (by omega)).2
      rw [← hW] at hL
      clear hW
      go_wp2_with fail
      refine (cut_yes f 3 _ (by omega) (by omega) (by decide) (by decide)).mono ?_
      rintro e w2 ⟨A, c, rfl, hA, hb2⟩
      go_wp2_with fail
      refine (whole_any _ A 3 c (cutL f 3) _ rfl hA).mono ?_
      rintro e w3 ⟨rfl, hb3⟩
      generalize wholeN (-1) (cutL f 3) = v at hL ⊢
      by_cases c1 : v < f
      · clear hL
        go_wp2_with fail
        refine (works_any _).mono ?_
        rintro e w4 ⟨rfl, hb4⟩
        go_wp2_with fail
        go_ret
        exact ⟨rfl, (hb2.trans (hb3.mono hb2.size)).trans (hb4.mono (Nat.le_trans hb2.size hb3.size))⟩
      by_cases c2 : f - (-1) - 1 = 8388608
      · have c2' : (f == 8388608) = true := by rw [beq_iff_eq]; omega
        have c1' : decide (v < f) = false := by simpa using c1
        clear c1 hL c2
        go_wp2_with fail
        refine (works_any _).mono ?_
        rintro e w4 ⟨rfl, hb4⟩
        go_wp2_with fail
        go_ret
        exact ⟨rfl, (hb2.trans (hb3.mono hb2.size)).trans (hb4.mono (Nat.le_trans hb2.size hb3.size))⟩
      · have c3 : f < 16777216 := by omega
        have c2' : (f == 8388608) = false := by rw [beq_eq_false_iff_ne]; omega
        have c1' : decide (v < f) = false := by simpa using c1
        clear c1 hL c2
        go_wp2_with fail
        refine (works_any _).mono ?_
        rintro e w4 ⟨rfl, hb4⟩
        go_wp2_with fail
        go_ret
        exact ⟨rfl, (hb2.trans (hb3.mono hb2.size)).trans (hb4.mono (Nat.le_trans hb2.size hb3.size))⟩

end Go.Proofs.Ytpkbbbfgabfcgaa
