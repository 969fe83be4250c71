/-
  PnumBack, PnumLeast: plain laws and walks.
-/
import Derived.Test.YtpkbbbfgabfcgaaW8
namespace Go.Proofs.Ytpkbbbfgabfcgaa
open Go.RowKit

theorem tmod_bring (i n : Int) (hn : 0 < n) : (if i.tmod n < 0 then i.tmod n + n else i.tmod n) = i % n := by
  have h2 : i.tmod n = i % n - _ := Int.tmod_eq_emod
  have h3 := Int.emod_nonneg i (show n ≠ 0 by omega)
  have h4 := Int.emod_lt_of_pos i hn
  have hk : ((n.natAbs : Nat) : Int) = n := by omega
  by_cases hc : 0 ≤ i ∨ n ∣ i
  · rw [if_pos hc] at h2
    rw [if_neg (by omega)]
    omega
  · rw [if_neg hc] at h2
    rw [if_pos (by omega)]
    omega

theorem ret_int {k : IntKind} {a b : Int} (h : a = b) : Ending.returned (.int k a) = .returned (.int k b) := by rw [h]

theorem bring_any (i n : Int) (w : World) (hn : 0 < n) (hn2 : n ≤ 4611686018427387904) :
    Calls Try.prog 18 #[.int .i64 i, .int .i64 n] w fun e w' => e = .returned (.int .i64 (i % n)) ∧ w = w' := by
  have hb := tmod_bring i n hn
  have t1 := Int.tmod_lt_of_pos i hn
  have t2 := Int.lt_tmod_of_pos i hn
  have HB := Lib.hid hb
  clear hb
  go_enter Try.func18, Try.ntmps18
  go_wp2
  all_goals go_ret
  · exact ⟨ret_int (by have := HB.out; rwa [if_pos (by assumption)] at this), rfl⟩
  · exact ⟨ret_int (by have := HB.out; rwa [if_neg (by omega)] at this), rfl⟩
/-- Bring, as a number within its bounds. -/
theorem bring_in (i n : Int) (w : World) (hn : 0 < n) (hn2 : n ≤ 4611686018427387904) :
    Calls Try.prog 18 #[.int .i64 i, .int .i64 n] w fun e w' => ∃ r, 0 ≤ r ∧ r < n ∧ e = .returned (.int .i64 r) ∧ w = w' :=
  (bring_any i n w hn hn2).mono fun _ _ ⟨he, hw⟩ => ⟨_, Int.emod_nonneg _ (by omega), Int.emod_lt_of_pos _ hn, he, hw⟩

/-! ### Plain laws -/
theorem cutV_cutL1 (f : Int) : cutV (cutL f 1) = f % 256 := by simp [cutL, cutV]
theorem cutV_cutL2 (f : Int) : cutV (cutL f 2) = f % 65536 := by simp [cutL, cutV]; omega
theorem cutV_cutL3 (f : Int) : cutV (cutL f 3) = f % 16777216 := by simp [cutL, cutV]; omega
theorem cutV_cutL4 (f : Int) : cutV (cutL f 4) = f % 4294967296 := by simp [cutL, cutV]; omega

theorem near_back1 (f want : Int) (h0 : 0 ≤ f) (h1 : f ≤ 9007199254740991) (hw0 : 0 ≤ want) (hw1 : want ≤ 9007199254740992) (ha : f - want ≤ 127) (hb : want - f ≤ 127) : nearV want 256 (f % 256) = f := by
  unfold nearV; (repeat' split) <;> omega
theorem near_back2 (f want : Int) (h0 : 0 ≤ f) (h1 : f ≤ 9007199254740991) (hw0 : 0 ≤ want) (hw1 : want ≤ 9007199254740992) (ha : f - want ≤ 32767) (hb : want - f ≤ 32767) : nearV want 65536 (f % 65536) = f := by
  unfold nearV; (repeat' split) <;> omega
theorem near_back3 (f want : Int) (h0 : 0 ≤ f) (h1 : f ≤ 9007199254740991) (hw0 : 0 ≤ want) (hw1 : want ≤ 9007199254740992) (ha : f - want ≤ 8388607) (hb : want - f ≤ 8388607) : nearV want 16777216 (f % 16777216) = f := by
  unfold nearV; (repeat' split) <;> omega
theorem near_back4 (f want : Int) (h0 : 0 ≤ f) (h1 : f ≤ 9007199254740991) (hw0 : 0 ≤ want) (hw1 : want ≤ 9007199254740992) (ha : f - want ≤ 2147483647) (hb : want - f ≤ 2147483647) : nearV want 4294967296 (f % 4294967296) = f := by
  unfold nearV; (repeat' split) <;> omega

theorem wholeN_cut (f g n : Int) (hn0 : 1 ≤ n) (hn4 : n ≤ 4) (hg0 : -1 ≤ g) (hg1 : g ≤ 9007199254740991) :
    wholeE g (cutL f n) = 0 ∧ wholeN g (cutL f n) = nearV (g + 1) (if n = 1 then 256 else if n = 2 then 65536 else if n = 3 then 16777216 else 4294967296) (f % (if n = 1 then 256 else if n = 2 then 65536 else if n = 3 then 16777216 else 4294967296)) := by
  have hn : n = 1 ∨ n = 2 ∨ n = 3 ∨ n = 4 := by omega
  rcases hn with rfl | rfl | rfl | rfl
  · exact ⟨wholeE_ok hg0 hg1 (by simp [cutL]) (by simp [cutL]), by rw [wholeN_ok hg0 hg1 (by simp [cutL]) (by simp [cutL]), cutV_cutL1]; rfl⟩
  · exact ⟨wholeE_ok hg0 hg1 (by simp [cutL]) (by simp [cutL]), by rw [wholeN_ok hg0 hg1 (by simp [cutL]) (by simp [cutL]), cutV_cutL2]; rfl⟩
  · exact ⟨wholeE_ok hg0 hg1 (by simp [cutL]) (by simp [cutL]), by rw [wholeN_ok hg0 hg1 (by simp [cutL]) (by simp [cutL]), cutV_cutL3]; rfl⟩
  · exact ⟨wholeE_ok hg0 hg1 (by simp [cutL]) (by simp [cutL]), by rw [wholeN_ok hg0 hg1 (by simp [cutL]) (by simp [cutL]), cutV_cutL4]; rfl⟩

theorem len_cases (f a : Int) (h0 : 0 ≤ f) (h1 : f ≤ 9007199254740991) (ha : -1 ≤ a) (haf : a < f) (hd : f - a ≤ 2147483648) :
    lenE f a = 0 ∧ ((lenN f a = 1 ∧ f - a ≤ 128) ∨ (lenN f a = 2 ∧ 128 < f - a ∧ f - a ≤ 32768) ∨ (lenN f a = 3 ∧ 32768 < f - a ∧ f - a ≤ 8388608) ∨ (lenN f a = 4 ∧ 8388608 < f - a)) := by
  refine ⟨by unfold lenE; (repeat' split) <;> omega, ?_⟩
  unfold lenN
  (repeat' split) <;> omega
theorem cutY_in {f n : Int} (h0 : 0 ≤ f) (h1 : f ≤ 9007199254740991) : cutY f n = cutL f n := by rw [cutY, if_pos (isN_true h0 h1)]
theorem cutE_in {f n : Int} (h0 : 0 ≤ f) (h1 : f ≤ 9007199254740991) (hn : 1 ≤ n) (hn4 : n ≤ 4) : cutE f n = 0 := by rw [cutE, if_pos (isN_true h0 h1), if_pos ⟨hn, hn4⟩]

set_option maxHeartbeats 4000000 in
theorem back_any (full acked more : Int) (w : World) :
    Calls Try.prog 4 #[.int .i64 full, .int .i64 acked, .int .i64 more] w fun e w' => e = .returned (.bool true) ∧ Below w.heap.size w w' := by
  go_enter Try.func4, Try.ntmps4
  go_wp2_with fail
  refine (works_any _).mono ?_
  rintro e w1 ⟨rfl, hb1⟩
  go_wp2_with fail
  refine (bring_in full 9007199254740992 _ (by decide) (by decide)).mono ?_
  rintro e w' ⟨f, hf0, hf1, rfl, rfl⟩
  go_wp2_with fail
  refine (bring_in acked 2147483648 _ (by decide) (by decide)).mono ?_
  rintro e w' ⟨d, hd0, hd1, rfl, rfl⟩
  go_wp2_with fail
  · have hc := len_cases f (f - 1 - d) hf0 (by omega) (by omega) (by omega) (by omega)
    obtain ⟨hE0, hc⟩ := hc
    refine (len_any _ _ _).mono ?_
    rintro e w' ⟨rfl, rfl⟩
    rcases hc with ⟨hN0, hd⟩ | ⟨hN0, hd, hd'⟩ | ⟨hN0, hd, hd'⟩ | ⟨hN0, hd⟩
    · have hE := (wholeN_cut f (f - 1 - d) 1 (by decide) (by decide) (by omega) (by omega)).1
      have hW := (show wholeN (f - 1 - d) (cutL f 1) = f from by rw [(wholeN_cut f (f - 1 - d) 1 (by decide) (by decide) (by omega) (by omega)).2]; exact near_back1 f _ (by omega) (by omega) (by omega) (by omega) (by omega) (by omega))
      go_wp2_with fail
      refine (cut_yes f 1 _ (by omega) (by omega) (by decide) (by decide)).mono ?_
      rintro e w2 ⟨A, c, rfl, hA, hb2⟩
      go_wp2_with fail
      all_goals
        refine (bring_in more _ _ (by omega) (by omega)).mono ?_
        rintro e w' ⟨r, hr0, hr1, rfl, rfl⟩
        go_wp2_with fail
        refine (whole_any _ A 1 c (cutL f 1) _ rfl hA).mono ?_
        rintro e w3 ⟨rfl, hb3⟩
        have hE2 := (wholeN_cut f ((f - 1 - d) + r) 1 (by decide) (by decide) (by omega) (by omega)).1
        have hW2 := (show wholeN ((f - 1 - d) + r) (cutL f 1) = f from by rw [(wholeN_cut f ((f - 1 - d) + r) 1 (by decide) (by decide) (by omega) (by omega)).2]; exact near_back1 f _ (by omega) (by omega) (by omega) (by omega) (by omega) (by omega))
        go_wp2_with fail
        refine (whole_any _ A 1 c (cutL f 1) _ rfl (hA.below hb3)).mono ?_
        rintro e w4 ⟨rfl, hb4⟩
        go_wp2_with fail
        go_ret
        exact ⟨rfl, hb1.trans (((hb2.trans (hb3.mono hb2.size)).trans (hb4.mono (Nat.le_trans hb2.size hb3.size))).mono hb1.size)⟩
    · have hE := (wholeN_cut f (f - 1 - d) 2 (by decide) (by decide) (by omega) (by omega)).1
      have hW := (show wholeN (f - 1 - d) (cutL f 2) = f from by rw [(wholeN_cut f (f - 1 - d) 2 (by decide) (by decide) (by omega) (by omega)).2]; exact near_back2 f _ (by omega) (by omega) (by omega) (by omega) (by omega) (by omega))
      go_wp2_with fail
      refine (cut_yes f 2 _ (by omega) (by omega) (by decide) (by decide)).mono ?_
      rintro e w2 ⟨A, c, rfl, hA, hb2⟩
      go_wp2_with fail
      all_goals
        refine (bring_in more _ _ (by omega) (by omega)).mono ?_
        rintro e w' ⟨r, hr0, hr1, rfl, rfl⟩
        go_wp2_with fail
        refine (whole_any _ A 2 c (cutL f 2) _ rfl hA).mono ?_
        rintro e w3 ⟨rfl, hb3⟩
        have hE2 := (wholeN_cut f ((f - 1 - d) + r) 2 (by decide) (by decide) (by omega) (by omega)).1
        have hW2 := (show wholeN ((f - 1 - d) + r) (cutL f 2) = f from by rw [(wholeN_cut f ((f - 1 - d) + r) 2 (by decide) (by decide) (by omega) (by omega)).2]; exact near_back2 f _ (by omega) (by omega) (by omega) (by omega) (by omega) (by omega))
        go_wp2_with fail
        refine (whole_any _ A 2 c (cutL f 2) _ rfl (hA.below hb3)).mono ?_
        rintro e w4 ⟨rfl, hb4⟩
        go_wp2_with fail
        go_ret
        exact ⟨rfl, hb1.trans (((hb2.trans (hb3.mono hb2.size)).trans (hb4.mono (Nat.le_trans hb2.size hb3.size))).mono hb1.size)⟩
    · have hE := (wholeN_cut f (f - 1 - d) 3 (by decide) (by decide) (by omega) (by omega)).1
      have hW := (show wholeN (f - 1 - d) (cutL f 3) = f from by rw [(wholeN_cut f (f - 1 - d) 3 (by decide) (by decide) (by omega) (by omega)).2]; exact near_back3 f _ (by omega) (by omega) (by omega) (by omega) (by omega) (by omega))
      go_wp2_with fail
      refine (cut_yes f 3 _ (by omega) (by omega) (by decide) (by decide)).mono ?_
      rintro e w2 ⟨A, c, rfl, hA, hb2⟩
      go_wp2_with fail
      all_goals
        refine (bring_in more _ _ (by omega) (by omega)).mono ?_
        rintro e w' ⟨r, hr0, hr1, rfl, rfl⟩
        go_wp2_with fail
        refine (whole_any _ A 3 c (cutL f 3) _ rfl hA).mono ?_
        rintro e w3 ⟨rfl, hb3⟩
        have hE2 := (wholeN_cut f ((f - 1 - d) + r) 3 (by decide) (by decide) (by omega) (by omega)).1
        have hW2 := (show wholeN ((f - 1 - d) + r) (cutL f 3) = f from by rw [(wholeN_cut f ((f - 1 - d) + r) 3 (by decide) (by decide) (by omega) (by omega)).2]; exact near_back3 f _ (by omega) (by omega) (by omega) (by omega) (by omega) (by omega))
        go_wp2_with fail
        refine (whole_any _ A 3 c (cutL f 3) _ rfl (hA.below hb3)).mono ?_
        rintro e w4 ⟨rfl, hb4⟩
        go_wp2_with fail
        go_ret
        exact ⟨rfl, hb1.trans (((hb2.trans (hb3.mono hb2.size)).trans (hb4.mono (Nat.le_trans hb2.size hb3.size))).mono hb1.size)⟩
    · have hE := (wholeN_cut f (f - 1 - d) 4 (by decide) (by decide) (by omega) (by omega)).1
      have hW := (show wholeN (f - 1 - d) (cutL f 4) = f from by rw [(wholeN_cut f (f - 1 - d) 4 (by decide) (by decide) (by omega) (by omega)).2]; exact near_back4 f _ (by omega) (by omega) (by omega) (by omega) (by omega) (by omega))
      go_wp2_with fail
      refine (cut_yes f 4 _ (by omega) (by omega) (by decide) (by decide)).mono ?_
      rintro e w2 ⟨A, c, rfl, hA, hb2⟩
      go_wp2_with fail
      all_goals
        refine (bring_in more _ _ (by omega) (by omega)).mono ?_
        rintro e w' ⟨r, hr0, hr1, rfl, rfl⟩
        go_wp2_with fail
        refine (whole_any _ A 4 c (cutL f 4) _ rfl hA).mono ?_
        rintro e w3 ⟨rfl, hb3⟩
        have hE2 := (wholeN_cut f ((f - 1 - d) + r) 4 (by decide) (by decide) (by omega) (by omega)).1
        have hW2 := (show wholeN ((f - 1 - d) + r) (cutL f 4) = f from by rw [(wholeN_cut f ((f - 1 - d) + r) 4 (by decide) (by decide) (by omega) (by omega)).2]; exact near_back4 f _ (by omega) (by omega) (by omega) (by omega) (by omega) (by omega))
        go_wp2_with fail
        refine (whole_any _ A 4 c (cutL f 4) _ rfl (hA.below hb3)).mono ?_
        rintro e w4 ⟨rfl, hb4⟩
        go_wp2_with fail
        go_ret
        exact ⟨rfl, hb1.trans (((hb2.trans (hb3.mono hb2.size)).trans (hb4.mono (Nat.le_trans hb2.size hb3.size))).mono hb1.size)⟩
  · have hc := len_cases f (-1) hf0 (by omega) (by omega) (by omega) (by omega)
    obtain ⟨hE0, hc⟩ := hc
    refine (len_any _ _ _).mono ?_
    rintro e w' ⟨rfl, rfl⟩
    rcases hc with ⟨hN0, hd⟩ | ⟨hN0, hd, hd'⟩ | ⟨hN0, hd, hd'⟩ | ⟨hN0, hd⟩
    · have hE := (wholeN_cut f (-1) 1 (by decide) (by decide) (by omega) (by omega)).1
      have hW := (show wholeN (-1) (cutL f 1) = f from by rw [(wholeN_cut f (-1) 1 (by decide) (by decide) (by omega) (by omega)).2]; exact near_back1 f _ (by omega) (by omega) (by omega) (by omega) (by omega) (by omega))
      go_wp2_with fail
      refine (cut_yes f 1 _ (by omega) (by omega) (by decide) (by decide)).mono ?_
      rintro e w2 ⟨A, c, rfl, hA, hb2⟩
      go_wp2_with fail
      all_goals
        refine (bring_in more _ _ (by omega) (by omega)).mono ?_
        rintro e w' ⟨r, hr0, hr1, rfl, rfl⟩
        go_wp2_with fail
        refine (whole_any _ A 1 c (cutL f 1) _ rfl hA).mono ?_
        rintro e w3 ⟨rfl, hb3⟩
        have hE2 := (wholeN_cut f ((-1) + r) 1 (by decide) (by decide) (by omega) (by omega)).1
        have hW2 := (show wholeN ((-1) + r) (cutL f 1) = f from by rw [(wholeN_cut f ((-1) + r) 1 (by decide) (by decide) (by omega) (by omega)).2]; exact near_back1 f _ (by omega) (by omega) (by omega) (by omega) (by omega) (by omega))
        go_wp2_with fail
        refine (whole_any _ A 1 c (cutL f 1) _ rfl (hA.below hb3)).mono ?_
        rintro e w4 ⟨rfl, hb4⟩
        go_wp2_with fail
        go_ret
        exact ⟨rfl, hb1.trans (((hb2.trans (hb3.mono hb2.size)).trans (hb4.mono (Nat.le_trans hb2.size hb3.size))).mono hb1.size)⟩
    · have hE := (wholeN_cut f (-1) 2 (by decide) (by decide) (by omega) (by omega)).1
      have hW := (show wholeN (-1) (cutL f 2) = f from by rw [(wholeN_cut f (-1) 2 (by decide) (by decide) (by omega) (by omega)).2]; exact near_back2 f _ (by omega) (by omega) (by omega) (by omega) (by omega) (by omega))
      go_wp2_with fail
      refine (cut_yes f 2 _ (by omega) (by omega) (by decide) (by decide)).mono ?_
      rintro e w2 ⟨A, c, rfl, hA, hb2⟩
      go_wp2_with fail
      all_goals
        refine (bring_in more _ _ (by omega) (by omega)).mono ?_
        rintro e w' ⟨r, hr0, hr1, rfl, rfl⟩
        go_wp2_with fail
        refine (whole_any _ A 2 c (cutL f 2) _ rfl hA).mono ?_
        rintro e w3 ⟨rfl, hb3⟩
        have hE2 := (wholeN_cut f ((-1) + r) 2 (by decide) (by decide) (by omega) (by omega)).1
        have hW2 := (show wholeN ((-1) + r) (cutL f 2) = f from by rw [(wholeN_cut f ((-1) + r) 2 (by decide) (by decide) (by omega) (by omega)).2]; exact near_back2 f _ (by omega) (by omega) (by omega) (by omega) (by omega) (by omega))
        go_wp2_with fail
        refine (whole_any _ A 2 c (cutL f 2) _ rfl (hA.below hb3)).mono ?_
        rintro e w4 ⟨rfl, hb4⟩
        go_wp2_with fail
        go_ret
        exact ⟨rfl, hb1.trans (((hb2.trans (hb3.mono hb2.size)).trans (hb4.mono (Nat.le_trans hb2.size hb3.size))).mono hb1.size)⟩
    · have hE := (wholeN_cut f (-1) 3 (by decide) (by decide) (by omega) (by omega)).1
      have hW := (show wholeN (-1) (cutL f 3) = f from by rw [(wholeN_cut f (-1) 3 (by decide) (by decide) (by omega) (by omega)).2]; exact near_back3 f _ (by omega) (by omega) (by omega) (by omega) (by omega) (by omega))
      go_wp2_with fail
      refine (cut_yes f 3 _ (by omega) (by omega) (by decide) (by decide)).mono ?_
      rintro e w2 ⟨A, c, rfl, hA, hb2⟩
      go_wp2_with fail
      all_goals
        refine (bring_in more _ _ (by omega) (by omega)).mono ?_
        rintro e w' ⟨r, hr0, hr1, rfl, rfl⟩
        go_wp2_with fail
        refine (whole_any _ A 3 c (cutL f 3) _ rfl hA).mono ?_
        rintro e w3 ⟨rfl, hb3⟩
        have hE2 := (wholeN_cut f ((-1) + r) 3 (by decide) (by decide) (by omega) (by omega)).1
        have hW2 := (show wholeN ((-1) + r) (cutL f 3) = f from by rw [(wholeN_cut f ((-1) + r) 3 (by decide) (by decide) (by omega) (by omega)).2]; exact near_back3 f _ (by omega) (by omega) (by omega) (by omega) (by omega) (by omega))
        go_wp2_with fail
        refine (whole_any _ A 3 c (cutL f 3) _ rfl (hA.below hb3)).mono ?_
        rintro e w4 ⟨rfl, hb4⟩
        go_wp2_with fail
        go_ret
        exact ⟨rfl, hb1.trans (((hb2.trans (hb3.mono hb2.size)).trans (hb4.mono (Nat.le_trans hb2.size hb3.size))).mono hb1.size)⟩
    · have hE := (wholeN_cut f (-1) 4 (by decide) (by decide) (by omega) (by omega)).1
      have hW := (show wholeN (-1) (cutL f 4) = f from by rw [(wholeN_cut f (-1) 4 (by decide) (by decide) (by omega) (by omega)).2]; exact near_back4 f _ (by omega) (by omega) (by omega) (by omega) (by omega) (by omega))
      go_wp2_with fail
      refine (cut_yes f 4 _ (by omega) (by omega) (by decide) (by decide)).mono ?_
      rintro e w2 ⟨A, c, rfl, hA, hb2⟩
      go_wp2_with fail
      all_goals
        refine (bring_in more _ _ (by omega) (by omega)).mono ?_
        rintro e w' ⟨r, hr0, hr1, rfl, rfl⟩
        go_wp2_with fail
        refine (whole_any _ A 4 c (cutL f 4) _ rfl hA).mono ?_
        rintro e w3 ⟨rfl, hb3⟩
        have hE2 := (wholeN_cut f ((-1) + r) 4 (by decide) (by decide) (by omega) (by omega)).1
        have hW2 := (show wholeN ((-1) + r) (cutL f 4) = f from by rw [(wholeN_cut f ((-1) + r) 4 (by decide) (by decide) (by omega) (by omega)).2]; exact near_back4 f _ (by omega) (by omega) (by omega) (by omega) (by omega) (by omega))
        go_wp2_with fail
        refine (whole_any _ A 4 c (cutL f 4) _ rfl (hA.below hb3)).mono ?_
        rintro e w4 ⟨rfl, hb4⟩
        go_wp2_with fail
        go_ret
        exact ⟨rfl, hb1.trans (((hb2.trans (hb3.mono hb2.size)).trans (hb4.mono (Nat.le_trans hb2.size hb3.size))).mono hb1.size)⟩

end Go.Proofs.Ytpkbbbfgabfcgaa
