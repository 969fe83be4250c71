/-
  PtoOrder: plain laws and the walk.
-/
import Derived.Test.YtegpfcigfejinaaW7
import Derived.Deep.QuietTactic
import Derived.BigQuiet
namespace Go.Proofs.Ytegpfcigfejinaa
open Go.RowKit

theorem timeV_mono {a b : Int} (h : a ≤ b) : timeV a ≤ timeV b := by
  unfold timeV; (repeat' split) <;> omega
theorem dblN_mono {a b : Int} (h : a ≤ b) (k : Nat) : dblN k a ≤ dblN k b := by
  induction k with
  | zero => exact h
  | succ k ih => rw [dblN, dblN]; exact timeV_mono (by omega)
theorem dblN_up (b : Int) (h0 : 0 ≤ b) (h1 : b ≤ 9007199254740991) (i j : Nat) : dblN i b ≤ dblN (i + j) b := by
  induction j with
  | zero => exact Int.le_refl _
  | succ j ih =>
    have h := dblN_range (i + j) b ⟨h0, h1⟩
    have : dblN (i + j) b ≤ dblN (i + j + 1) b := by
      rw [dblN]; unfold timeV; (repeat' split) <;> omega
    exact Int.le_trans ih this
theorem dblN_le (b : Int) (h0 : 0 ≤ b) (h1 : b ≤ 9007199254740991) {i j : Nat} (h : i ≤ j) : dblN i b ≤ dblN j b := by
  obtain ⟨k, rfl⟩ : ∃ k, j = i + k := ⟨j - i, by omega⟩
  exact dblN_up b h0 h1 i k
theorem back_low (b c m : Int) (h0 : 0 ≤ b) (h1 : b ≤ 9007199254740991) : b ≤ backV b c m := by
  unfold backV
  rw [timeV_in h0 h1]
  exact dblN_le b h0 h1 (Nat.zero_le _)
theorem back_base (b r c m : Int) (hr : 0 ≤ r) : backV b c m ≤ backV (b + r) c m := dblN_mono (timeV_mono (by omega)) _
theorem back_count (b c r m : Int) (hr : 0 ≤ r) : backV b c m ≤ backV b (c + r) m := by
  have h := timeV_range b
  exact dblN_le _ h.1 h.2 (by unfold rndN; omega)
theorem back_most (b c m r : Int) (hr : 0 ≤ r) : backV b c m ≤ backV b c (m + r) := by
  have h := timeV_range b
  exact dblN_le _ h.1 h.2 (by unfold rndN; omega)
theorem back_behind (b m r : Int) (hr : 0 ≤ r) : backV b m m = backV b (m + r) m := by
  unfold backV rndN
  congr 1
  omega

set_option maxHeartbeats 4000000 in
theorem order_any (x0 x1 x2 y0 y1 y2 : Int) (w : World) :
    Calls Try.prog 7 #[.agg #[.int .i64 x0, .int .i64 x1, .int .i64 x2], .agg #[.int .i64 y0, .int .i64 y1, .int .i64 y2]] w fun e w' => e = .returned (.bool true) ∧ Below w.heap.size w w' := by
  go_enter Try.func7, Try.ntmps7
  go_wp2_with fail
  go_quiet ((go_at_call 20; exact Calls.quiet_of_same (bring_s _ _ _ (by decide) (by decide))))
  have b0 := Int.emod_nonneg x0 (show (9007199254740992 : Int) ≠ 0 by decide)
  have b1 := Int.emod_lt_of_pos x0 (show (0 : Int) < 9007199254740992 by decide)
  have c0 := Int.emod_nonneg x1 (show (64 : Int) ≠ 0 by decide)
  have c1 := Int.emod_lt_of_pos x1 (show (0 : Int) < 64 by decide)
  have m0 := Int.emod_nonneg x2 (show (64 : Int) ≠ 0 by decide)
  have m1 := Int.emod_lt_of_pos x2 (show (0 : Int) < 64 by decide)
  generalize x0 % 9007199254740992 = b at *
  generalize x1 % 64 = c at *
  generalize x2 % 64 = m at *
  go_wp2_with fail
  refine (backed_any b c m _ (by omega) (by omega)).mono ?_
  rintro e w' ⟨rfl, rfl⟩
  have p1 := back_low b c m b0 (by omega)
  have p2 := (backV_range b c m).2
  go_wp2_with fail
  refine (bring_in y0 _ _ (by omega) (by omega)).mono ?_
  rintro e w' ⟨r, hr0, hr1, rfl, rfl⟩
  have p3 := back_base b r c m hr0
  go_wp2_with fail
  refine (backed_any _ c m _ (by omega) (by omega)).mono ?_
  rintro e w' ⟨rfl, rfl⟩
  go_wp2_with fail
  refine (bring_in y1 64 _ (by omega) (by omega)).mono ?_
  rintro e w' ⟨q, hq0, hq1, rfl, rfl⟩
  have p4 := back_count b c q m hq0
  go_wp2_with fail
  refine (backed_any _ _ m _ (by omega) (by omega)).mono ?_
  rintro e w' ⟨rfl, rfl⟩
  go_wp2_with fail
  refine (bring_in y2 64 _ (by omega) (by omega)).mono ?_
  rintro e w' ⟨u, hu0, hu1, rfl, rfl⟩
  have p5 := back_most b c m u hu0
  go_wp2_with fail
  refine (backed_any _ _ _ _ (by omega) (by omega)).mono ?_
  rintro e w' ⟨rfl, rfl⟩
  go_wp2_with fail
  clear p1 p2 p3 p4 p5 hr0 hr1 hq0 hq1 hu0 hu1
  have v0 := Int.emod_nonneg y1 (show (1099511627776 : Int) ≠ 0 by decide)
  have v1 := Int.emod_lt_of_pos y1 (show (0 : Int) < 1099511627776 by decide)
  have e1 := (back_behind b m (y1 % 1099511627776) v0).symm
  have k1 := IntWalk.i64_in (m + y1 % 1099511627776) (by omega)
  have hS : ((w.alloc (.cells #[.int .i64 x0, .int .i64 x1, .int .i64 x2] 35)).alloc (.cells #[.int .i64 y0, .int .i64 y1, .int .i64 y2] 35)).cell? ⟨w.heap.size + 1, 1, none⟩ = some (.int .i64 y1) := by
    have e : w.heap.size + 1 = (w.alloc (.cells #[.int .i64 x0, .int .i64 x1, .int .i64 x2] 35)).heap.size := by simp
    rw [e, World.cell?_alloc_new]; rfl
  have hB : Below w.heap.size w ((w.alloc (.cells #[.int .i64 x0, .int .i64 x1, .int .i64 x2] 35)).alloc (.cells #[.int .i64 y0, .int .i64 y1, .int .i64 y2] 35)) := ((Below.refl _ _).alloc (Nat.le_refl _) _).alloc (by simp) _
  have hl : w.heap.size + 1 < ((w.alloc (.cells #[.int .i64 x0, .int .i64 x1, .int .i64 x2] 35)).alloc (.cells #[.int .i64 y0, .int .i64 y1, .int .i64 y2] 35)).heap.size := by simp
  generalize ((w.alloc (.cells #[.int .i64 x0, .int .i64 x1, .int .i64 x2] 35)).alloc (.cells #[.int .i64 y0, .int .i64 y1, .int .i64 y2] 35)) = W at hS hB hl ⊢
  go_region_held3 (fun w' => w'.cell? ⟨w.heap.size + 1, 1, none⟩ = some (.int .i64 y1) ∧ Below w.heap.size w w' ∧ w.heap.size + 1 < w'.heap.size)
    (first | exact ⟨hS, (below_drewN hB _).drew, hl⟩ | assumption | (go_split_ands; exact ⟨(hb.cell (p := ⟨w.heap.size + 1, 1, none⟩) (by assumption)).trans (by assumption), Below.trans (by assumption) (hb.mono (Nat.le_of_lt (Nat.lt_of_succ_lt (by assumption)))), Nat.lt_of_lt_of_le (by assumption) hb.size⟩))
    (first
      | (go_at_call 15; refine (backed_any _ _ _ _ (by omega) (by omega)).mono ?_; rintro e w' ⟨rfl, rfl⟩)
      | (go_at_call 20; refine (bring_s _ _ _ (by decide) (by decide)).mono ?_; rintro e w' ⟨rfl, rfl⟩)
      | (go_at_call 14; refine (works_any _).mono ?_; rintro e w' ⟨rfl, hb⟩))
  all_goals
    go_split_ands
    go_wp2
    go_ret
    exact ⟨rfl, by assumption⟩
end Go.Proofs.Ytegpfcigfejinaa
