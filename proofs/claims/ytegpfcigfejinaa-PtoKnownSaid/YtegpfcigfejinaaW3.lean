/-
  Contracts of the functions of layer 8, part 3: Backed and the reference's.
-/
import Derived.Test.YtegpfcigfejinaaW2
import Derived.WalkMore
namespace Go.Proofs.Ytegpfcigfejinaa
open Go.RowKit

theorem dblN_stay0 {k n : Nat} {b : Int} (hk : k ≤ n) (h : dblN k b = 0) : dblN n b = 0 := by
  obtain ⟨j, rfl⟩ : ∃ j, n = k + j := ⟨n - k, by omega⟩
  rw [dblN_add, h, dblN_zero]
theorem dblN_stay1 {k n : Nat} {b : Int} (hk : k < n) (h : 4503599627370495 < dblN k b) (h2 : dblN k b ≤ 9007199254740991) : dblN n b = 9007199254740991 := by
  obtain ⟨j, rfl⟩ : ∃ j, n = (k + 1) + j := ⟨n - (k + 1), by omega⟩
  have e : dblN (k + 1) b = 9007199254740991 := by
    rw [dblN]; unfold timeV; (repeat' split) <;> omega
  rw [dblN_add, e, dblN_top]
theorem dblN_step {k : Nat} {b : Int} (h : dblN k b ≤ 4503599627370495) (h0 : 0 ≤ dblN k b) : dblN (k + 1) b = 2 * dblN k b := by
  rw [dblN, timeV_in (by omega) (by omega)]

set_option maxHeartbeats 4000000 in
theorem backed_any (base count most : Int) (w : World) (hc1 : count ≤ 9223372036854775807) (hm1 : most ≤ 9223372036854775807) :
    Calls Try.prog 15 #[.int .i64 base, .int .i64 count, .int .i64 most] w fun e w' => e = .returned (.int .i64 (backV base count most)) ∧ w = w' := by
  have hb := timeV_range base
  obtain ⟨hb0, hb1⟩ := hb
  go_enter Try.func15, Try.ntmps15
  go_wp2_with fail
  go_step3
  go_wp2_with (go_at_call 22; refine (time_any _ _).mono ?_; rintro e w' ⟨rfl, rfl⟩)
  go_step3
  go_wp2_with fail
  · obtain ⟨n, hN⟩ : ∃ n : Nat, most = n := ⟨(most).toNat, by omega⟩
    subst hN
    have HB := Lib.hid (show backV base count ↑n = dblN n (timeV base) from by unfold backV rndN; congr 1; omega)
    go_loop [0, 13] (fun b i => ∃ k : Nat, k ≤ n ∧ i = .int .i64 k ∧ b = .int .i64 (dblN k (timeV base))) (fun _ i => n - (intOf i).toNat)
    case atStart => exact ⟨0, Nat.zero_le _, rfl, rfl⟩
    case round =>
      obtain ⟨k, hk, rfl, rfl⟩ := hrel
      have hd := dblN_range k (timeV base) ⟨hb0, hb1⟩
      obtain ⟨hd0, hd1⟩ := hd
      by_cases hlt : k < n
      · obtain ⟨d, hd⟩ : ∃ d, dblN k (timeV base) = d := ⟨_, rfl⟩
        rw [hd] at hd0 hd1 ⊢
        have HD := Lib.hid hd
        clear hd
        by_cases h0 : d = 0
        · have HS := Lib.hid (dblN_stay0 (by omega) (HD.out.trans h0) : dblN n (timeV base) = 0)
          subst h0
          go_wp2
          try rw [Exit.noGoto_ret]
          go_ret
          exact ⟨ret_int (by rw [HB.out, HS.out]), rfl⟩
        · have h0' : (d == 0) = false := by rw [beq_eq_false_iff_ne]; exact h0
          clear h0
          by_cases h1 : 4503599627370495 < d
          · have HS := Lib.hid (dblN_stay1 hlt (by rw [HD.out]; exact h1) (by rw [HD.out]; exact hd1) : dblN n (timeV base) = 9007199254740991)
            go_wp2
            try rw [Exit.noGoto_ret]
            go_ret
            exact ⟨ret_int (by rw [HB.out, HS.out]), rfl⟩
          · have HS := Lib.hid (dblN_step (k := k) (b := timeV base) (by rw [HD.out]; omega) (by rw [HD.out]; exact hd0))
            go_wp2
            go_round
            case rel => exact ⟨k + 1, by omega, by go_num, by rw [HS.out, HD.out, Int.mul_comm]⟩
            case measure => simp [intOf]; omega
      · obtain rfl : k = n := by omega
        obtain ⟨d, hd⟩ : ∃ d, dblN k (timeV base) = d := ⟨_, rfl⟩
        rw [hd]
        have HD := Lib.hid hd
        clear hd
        go_wp2
        try rw [Exit.noGoto_ret]
        go_ret
        exact ⟨ret_int (by rw [HB.out, HD.out]), rfl⟩
  · have HB := Lib.hid (show backV base count most = timeV base from by unfold backV rndN; rw [show (min count most).toNat = 0 from by omega]; rfl)
    refine wp_loop_rounds 1 ?_
    rw [rounds_succ]
    go_wp2
    try rw [Exit.noGoto_ret]
    go_ret
    exact ⟨ret_int HB.out.symm, rfl⟩
  · obtain ⟨n, hN⟩ : ∃ n : Nat, count = n := ⟨(count).toNat, by omega⟩
    subst hN
    have HB := Lib.hid (show backV base ↑n most = dblN n (timeV base) from by unfold backV rndN; congr 1; omega)
    go_loop [0, 13] (fun b i => ∃ k : Nat, k ≤ n ∧ i = .int .i64 k ∧ b = .int .i64 (dblN k (timeV base))) (fun _ i => n - (intOf i).toNat)
    case atStart => exact ⟨0, Nat.zero_le _, rfl, rfl⟩
    case round =>
      obtain ⟨k, hk, rfl, rfl⟩ := hrel
      have hd := dblN_range k (timeV base) ⟨hb0, hb1⟩
      obtain ⟨hd0, hd1⟩ := hd
      by_cases hlt : k < n
      · obtain ⟨d, hd⟩ : ∃ d, dblN k (timeV base) = d := ⟨_, rfl⟩
        rw [hd] at hd0 hd1 ⊢
        have HD := Lib.hid hd
        clear hd
        by_cases h0 : d = 0
        · have HS := Lib.hid (dblN_stay0 (by omega) (HD.out.trans h0) : dblN n (timeV base) = 0)
          subst h0
          go_wp2
          try rw [Exit.noGoto_ret]
          go_ret
          exact ⟨ret_int (by rw [HB.out, HS.out]), rfl⟩
        · have h0' : (d == 0) = false := by rw [beq_eq_false_iff_ne]; exact h0
          clear h0
          by_cases h1 : 4503599627370495 < d
          · have HS := Lib.hid (dblN_stay1 hlt (by rw [HD.out]; exact h1) (by rw [HD.out]; exact hd1) : dblN n (timeV base) = 9007199254740991)
            go_wp2
            try rw [Exit.noGoto_ret]
            go_ret
            exact ⟨ret_int (by rw [HB.out, HS.out]), rfl⟩
          · have HS := Lib.hid (dblN_step (k := k) (b := timeV base) (by rw [HD.out]; omega) (by rw [HD.out]; exact hd0))
            go_wp2
            go_round
            case rel => exact ⟨k + 1, by omega, by go_num, by rw [HS.out, HD.out, Int.mul_comm]⟩
            case measure => simp [intOf]; omega
      · obtain rfl : k = n := by omega
        obtain ⟨d, hd⟩ : ∃ d, dblN k (timeV base) = d := ⟨_, rfl⟩
        rw [hd]
        have HD := Lib.hid hd
        clear hd
        go_wp2
        try rw [Exit.noGoto_ret]
        go_ret
        exact ⟨ret_int (by rw [HB.out, HD.out]), rfl⟩
  · have HB := Lib.hid (show backV base count most = timeV base from by unfold backV rndN; rw [show (min count most).toNat = 0 from by omega]; rfl)
    refine wp_loop_rounds 1 ?_
    rw [rounds_succ]
    go_wp2
    try rw [Exit.noGoto_ret]
    go_ret
    exact ⟨ret_int HB.out.symm, rfl⟩

set_option maxHeartbeats 4000000 in
theorem rbacked_any (base count most : Int) (w : World) (hc1 : count ≤ 9223372036854775807) (hm1 : most ≤ 9223372036854775807) :
    Calls Try.prog 16 #[.int .i64 base, .int .i64 count, .int .i64 most] w fun e w' => e = .returned (.int .i64 (backV base count most)) ∧ w = w' := by
  have hb := timeV_range base
  obtain ⟨hb0, hb1⟩ := hb
  have HB := Lib.hid (show backV base count most = dblN (min (rndN count most) 60) (timeV base) from by unfold backV; exact dblN_min _ hb0 hb1 _)
  go_enter Try.func16, Try.ntmps16
  go_wp2_with (go_at_call 24; refine (rtime_any _ _).mono ?_; rintro e w' ⟨rfl, rfl⟩)
  go_loop [0, 7] (fun b i => ∃ k : Nat, k ≤ 60 ∧ (k = 0 ∨ k ≤ count ∧ k ≤ most) ∧ i = .int .i64 k ∧ b = .int .i64 (dblN k (timeV base))) (fun _ i => 60 - (intOf i).toNat)
  case atStart => exact ⟨0, by decide, .inl rfl, rfl, rfl⟩
  case round =>
    obtain ⟨k, hk, hk2, rfl, rfl⟩ := hrel
    have hd := dblN_range k (timeV base) ⟨hb0, hb1⟩
    obtain ⟨hd0, hd1⟩ := hd
    by_cases hlt : k < count ∧ k < most ∧ k < 60
    · obtain ⟨l1, l2, l3⟩ := hlt
      have HS := Lib.hid (show timeV (2 * dblN k (timeV base)) = dblN (k + 1) (timeV base) from rfl)
      go_wp2_with (go_at_call 24; refine (rtime_any _ _).mono ?_; rintro e w' ⟨rfl, rfl⟩)
      go_round
      case rel => exact ⟨k + 1, by omega, by omega, by go_num, by rw [HS.out]⟩
      case measure => simp [intOf]; omega
    · have HE := Lib.hid (show dblN k (timeV base) = dblN (min (rndN count most) 60) (timeV base) from by congr 1; unfold rndN; omega)
      by_cases l1 : k < count
      · by_cases l2 : k < most
        · have l3 : ¬ k < 60 := by omega
          clear hlt
          go_wp2
          go_ret
          exact ⟨ret_int (by rw [HB.out, HE.out]), rfl⟩
        · clear hlt
          go_wp2
          go_ret
          exact ⟨ret_int (by rw [HB.out, HE.out]), rfl⟩
      · clear hlt
        go_wp2
        go_ret
        exact ⟨ret_int (by rw [HB.out, HE.out]), rfl⟩

end Go.Proofs.Ytegpfcigfejinaa
