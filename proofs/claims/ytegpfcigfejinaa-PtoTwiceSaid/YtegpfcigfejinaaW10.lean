/-
  PtoTwice: plain laws and the walk.
-/
import Derived.Test.YtegpfcigfejinaaW6
namespace Go.Proofs.Ytegpfcigfejinaa
open Go.RowKit

theorem back_is (b c m : Int) (h0 : 0 ≤ b) (h1 : b ≤ 9007199254740991) (hc : c ≤ m) : backV b c m = dblN c.toNat b := by
  unfold backV rndN
  rw [timeV_in h0 h1, show min c m = c from by omega]
theorem back_twice (b p q : Int) (h0 : 0 ≤ b) (h1 : b ≤ 9007199254740991) (hp : 0 ≤ p) (hq : 0 ≤ q) : backV (backV b p (p + q)) q (p + q) = backV b (p + q) (p + q) := by
  have h2 := dblN_range p.toNat b ⟨h0, h1⟩
  rw [back_is b p (p + q) h0 h1 (by omega), back_is _ q (p + q) h2.1 h2.2 (by omega), back_is b (p + q) (p + q) h0 h1 (by omega), ← dblN_add]
  congr 1
  omega

set_option maxHeartbeats 2000000 in
theorem twice_any (x y z : Int) (w : World) :
    Calls Try.prog 8 #[.int .i64 x, .int .i64 y, .int .i64 z] w fun e w' => e = .returned (.bool true) ∧ Below w.heap.size w w' := by
  go_enter Try.func8, Try.ntmps8
  go_wp2_with fail
  refine (bring_in x 9007199254740992 _ (by decide) (by decide)).mono ?_
  rintro e w' ⟨b, b0, b1, rfl, rfl⟩
  go_wp2_with fail
  refine (bring_in y 40 _ (by decide) (by decide)).mono ?_
  rintro e w' ⟨p, p0, p1, rfl, rfl⟩
  go_wp2_with fail
  refine (bring_in z 40 _ (by decide) (by decide)).mono ?_
  rintro e w' ⟨q, q0, q1, rfl, rfl⟩
  have H1 := Lib.hid (back_twice b p q b0 (by omega) p0 q0)
  have H2 := Lib.hid (back_is b (p + q) (p + q) b0 (by omega) (by omega))
  go_wp2_with fail
  go_loop [8, 9] (fun v i => ∃ k : Nat, k ≤ p + q ∧ i = .int .i64 k ∧ v = .int .i64 (dblN k b)) (fun _ i => (p + q - intOf i).toNat)
  case atStart => exact ⟨0, by omega, rfl, rfl⟩
  case round =>
    obtain ⟨k, hk, rfl, rfl⟩ := hrel
    have hd := dblN_range k b ⟨b0, by omega⟩
    obtain ⟨d0, d1⟩ := hd
    have HS := Lib.hid (show dblN (k + 1) b = timeV (2 * dblN k b) from rfl)
    by_cases hlt : k < p + q
    · generalize dblN k b = d at d0 d1 HS ⊢
      go_wp2
      all_goals
        go_round
        case rel => exact ⟨k + 1, by omega, by go_num, congrArg (Value.int .i64) (by rw [HS.out]; simp only [timeV]; (repeat' split) <;> omega)⟩
        case measure => simp [intOf]; omega
    · have HK := Lib.hid (show k = (p + q).toNat from by omega)
      go_wp2_with fail
      refine (backed_any b p (p + q) _ (by omega) (by omega)).mono ?_
      rintro e w' ⟨rfl, rfl⟩
      go_wp2_with fail
      refine (backed_any _ q (p + q) _ (by omega) (by omega)).mono ?_
      rintro e w' ⟨rfl, rfl⟩
      rw [H1.out]
      go_wp2_with fail
      refine (backed_any b _ (p + q) _ (by omega) (by omega)).mono ?_
      rintro e w' ⟨rfl, rfl⟩
      go_wp2_with fail
      refine (backed_any b _ (p + q) _ (by omega) (by omega)).mono ?_
      rintro e w' ⟨rfl, rfl⟩
      rw [H2.out, HK.out]
      go_wp2_with fail
      refine (works_any _).mono ?_
      rintro e w2 ⟨rfl, hb⟩
      go_wp2_with fail
      go_ret
      exact ⟨rfl, hb⟩
end Go.Proofs.Ytegpfcigfejinaa
