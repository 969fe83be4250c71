/-
  PtoNew: the walk.
-/
import Derived.Test.YtegpfcigfejinaaW5
import Derived.IntWalk
namespace Go.Proofs.Ytegpfcigfejinaa
open Go.RowKit

theorem tmod_bring (i n : Int) (hn : 0 < n) : (if i.tmod n < 0 then i.tmod n + n else i.tmod n) = i % n := by
  have h2 : i.tmod n = i % n - _ := Int.tmod_eq_emod
  have h3 := Int.emod_nonneg i (show n ≠ 0 by omega)
  have h4 := Int.emod_lt_of_pos i hn
  have hk : ((n.natAbs : Nat) : Int) = n := by omega
  by_cases hc : 0 ≤ i ∨ n ∣ i
  · rw [if_pos hc] at h2
    rw [if_neg (by omega)]
    omega
  · rw [if_neg hc] at h2
    rw [if_pos (by omega)]
    omega

theorem bring_any (i n : Int) (w : World) (hn : 0 < n) (hn2 : n ≤ 4611686018427387904) :
    Calls Try.prog 20 #[.int .i64 i, .int .i64 n] w fun e w' => e = .returned (.int .i64 (i % n)) ∧ w = w' := by
  have hb := tmod_bring i n hn
  have t1 := Int.tmod_lt_of_pos i hn
  have t2 := Int.lt_tmod_of_pos i hn
  have HB := Lib.hid hb
  clear hb
  go_enter Try.func20, Try.ntmps20
  go_wp2
  all_goals go_ret
  · exact ⟨ret_int (by have := HB.out; rwa [if_pos (by assumption)] at this), rfl⟩
  · exact ⟨ret_int (by have := HB.out; rwa [if_neg (by omega)] at this), rfl⟩
/-- Bring, as a number within its bounds. -/
theorem bring_in (i n : Int) (w : World) (hn : 0 < n) (hn2 : n ≤ 4611686018427387904) :
    Calls Try.prog 20 #[.int .i64 i, .int .i64 n] w fun e w' => ∃ r, 0 ≤ r ∧ r < n ∧ e = .returned (.int .i64 r) ∧ w = w' :=
  (bring_any i n w hn hn2).mono fun _ _ ⟨he, hw⟩ => ⟨_, Int.emod_nonneg _ (by omega), Int.emod_lt_of_pos _ hn, he, hw⟩

theorem new_ok {n : Int} (h0 : 1000000 ≤ n) (h1 : n ≤ 60000000000) : okR 0 0 n (n / 2) (-1) = true := by
  simp [okR, h0, h1]
theorem new_base {n : Int} (h0 : 1000000 ≤ n) (h1 : n ≤ 60000000000) (k d : Int) (hk0 : 0 ≤ k) (hk1 : k < 2) : baseV 0 0 n (n / 2) (-1) k d = n + 4 * (n / 2) := by
  rw [baseV_low (new_ok h0 h1) hk0 hk1, varV, if_neg (by omega), timeV_in (by omega) (by omega)]
theorem new_base2 {n : Int} (h0 : 1000000 ≤ n) (h1 : n ≤ 60000000000) : baseV 0 0 n (n / 2) (-1) 2 9 = n + 4 * (n / 2) + 9 := by
  rw [baseV_two (new_ok h0 h1), varV, if_neg (by omega), show timeV 9 = 9 from by decide, timeV_in (by omega) (by omega)]

set_option maxHeartbeats 2000000 in
theorem pnew_any (first : Int) (w : World) :
    Calls Try.prog 6 #[.int .i64 first] w fun e w' => e = .returned (.bool true) ∧ Below w.heap.size w w' := by
  go_enter Try.func6, Try.ntmps6
  go_wp2_with fail
  refine (bring_in first 59999000001 _ (by decide) (by decide)).mono ?_
  rintro e w' ⟨r, hr0, hr1, rfl, rfl⟩
  obtain ⟨n, hn⟩ : ∃ n, n = 1000000 + r := ⟨_, rfl⟩
  have h0 : 1000000 ≤ n := by omega
  have h1 : n ≤ 60000000000 := by omega
  have e0 := new_base h0 h1 0 9 (by decide) (by decide)
  have e1 := new_base h0 h1 1 9 (by decide) (by decide)
  have e2 := new_base h0 h1 0 0 (by decide) (by decide)
  have e3 := new_base2 h0 h1
  go_wp2_with fail
  rw [← hn]
  clear hn hr0 hr1
  have k1 : n.tdiv 2 = n / 2 := Int.tdiv_eq_ediv_of_nonneg (by omega)
  have k2 := IntWalk.i64_in (n / 2) (by omega)
  have k3 := IntWalk.i64_in (4 * (n / 2)) (by omega)
  have k4 := IntWalk.i64_in (n + 4 * (n / 2)) (by omega)
  have k5 := IntWalk.i64_in (n + 4 * (n / 2) + 9) (by omega)
  go_region_held3 (fun w' => w'.cell? ⟨w.heap.size, 0, none⟩ = some (.int .i64 0) ∧ w'.cell? ⟨w.heap.size, 1, none⟩ = some (.int .i64 0) ∧ w'.cell? ⟨w.heap.size, 2, none⟩ = some (.int .i64 n) ∧
      w'.cell? ⟨w.heap.size, 3, none⟩ = some (.int .i64 (n / 2)) ∧ w'.cell? ⟨w.heap.size, 4, none⟩ = some (.int .i64 (-1)) ∧ Below w.heap.size w w' ∧ w.heap.size < w'.heap.size)
    (first | exact rs_next (rs_made w 0 0 n (n / 2) (-1)) ((Below.refl _ _).drew) | exact rs_next (by assumption) hb)
    (first
      | (go_at_call 10; refine (base_any _ _ _ _ _ _ _ _).mono ?_; rintro e w' ⟨rfl, hb⟩)
      | (go_at_call 14; refine (works_any _).mono ?_; rintro e w' ⟨rfl, hb⟩))
  go_split_ands
  go_wp2
  go_ret
  exact ⟨rfl, by assumption⟩
end Go.Proofs.Ytegpfcigfejinaa
