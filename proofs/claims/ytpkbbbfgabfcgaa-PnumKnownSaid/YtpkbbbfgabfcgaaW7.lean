/-
  PnumTells: the walk.
-/
import Derived.Test.YtpkbbbfgabfcgaaW6
namespace Go.Proofs.Ytpkbbbfgabfcgaa
open Go.RowKit

def cutY (full n : Int) : List Int := if isN full then cutL full n else []
def cutE (full n : Int) : Int := if isN full then (if 1 ≤ n ∧ n ≤ 4 then 0 else 2) else 9
theorem BS_nil (w : World) (A : Option Addr) : BS w A [] := ⟨.inl rfl, by simp⟩
theorem BS.take {w : World} {A : Option Addr} {xs : List Int} (h : BS w A xs) (m : Nat) : BS w A (xs.take m) := by
  refine ⟨?_, fun x hx => h.2 x (List.mem_of_mem_take hx)⟩
  rcases h.1 with h | ⟨b, off, rfl, hlt, hc⟩
  · exact .inl (by simp [h])
  · refine .inr ⟨b, off, rfl, hlt, fun i hi => ?_⟩
    rw [List.length_take] at hi
    rw [hc i (by omega)]
    simp [List.getD, show i < m by omega]

/-- What a cut leaves. -/
def Cutted (w : World) (full n : Int) (e : Ending) (w' : World) : Prop :=
  ∃ A m c, e = .returned (.tuple #[.slice A m c, .int .i64 (cutE full n)]) ∧ (cutY full n).length = m ∧ BS w' A (cutY full n) ∧ Below w.heap.size w w'
theorem isN_iff {n : Int} : isN n = true ↔ 0 ≤ n ∧ n ≤ 9007199254740991 := by simp [isN]
theorem cutL_out (full n : Int) (h : n < 1 ∨ 4 < n) : cutL full n = [] := by
  unfold cutL
  rw [if_neg (by omega), if_neg (by omega), if_neg (by omega), if_neg (by omega)]

theorem cut_any (full n : Int) (w : World) : Calls Try.prog 11 #[.int .i64 full, .int .i64 n] w (Cutted w full n) := by
  unfold Cutted
  by_cases h : isN full = true
  · by_cases hn : n < 1 ∨ 4 < n
    · exact (cut_arg full n w h hn).mono fun e w' ⟨he, hw⟩ => by
        subst hw
        exact ⟨_, _, _, by rw [he, cutE, if_pos h, if_neg (by omega)], by rw [cutY, if_pos h, cutL_out _ _ hn]; rfl, by rw [cutY, if_pos h, cutL_out _ _ hn]; exact BS_nil _ _, Below.refl _ _⟩
    · have hb := isN_iff.1 h
      exact (cut_yes full n w hb.1 hb.2 (by omega) (by omega)).mono fun e w' ⟨A, c, he, hA, hw⟩ =>
        ⟨A, n.toNat, c, by rw [he, cutE, if_pos h, if_pos (by omega)], by rw [cutY, if_pos h]; have := cutL_length (full := full) (n := n) (by omega) (by omega); omega, by rw [cutY, if_pos h]; exact hA, hw⟩
  · have h' : isN full = false := by simpa using h
    exact (cut_no full n w h').mono fun e w' ⟨he, hw⟩ => by
      subst hw
      exact ⟨_, _, _, by rw [he, cutE, if_neg h], by rw [cutY, if_neg h]; rfl, by rw [cutY, if_neg h]; exact BS_nil _ _, Below.refl _ _⟩
theorem rcut_any (full n : Int) (w : World) : Calls Try.prog 12 #[.int .i64 full, .int .i64 n] w (Cutted w full n) := by
  unfold Cutted
  by_cases h : isN full = true
  · by_cases hn : n < 1 ∨ 4 < n
    · exact (rcut_arg full n w h hn).mono fun e w' ⟨he, hw⟩ => by
        subst hw
        exact ⟨_, _, _, by rw [he, cutE, if_pos h, if_neg (by omega)], by rw [cutY, if_pos h, cutL_out _ _ hn]; rfl, by rw [cutY, if_pos h, cutL_out _ _ hn]; exact BS_nil _ _, Below.refl _ _⟩
    · have hb := isN_iff.1 h
      exact (rcut_yes full n w hb.1 hb.2 (by omega) (by omega)).mono fun e w' ⟨A, c, he, hA, hw⟩ =>
        ⟨A, n.toNat, c, by rw [he, cutE, if_pos h, if_pos (by omega)], by rw [cutY, if_pos h]; have := cutL_length (full := full) (n := n) (by omega) (by omega); omega, by rw [cutY, if_pos h]; exact hA, hw⟩
  · have h' : isN full = false := by simpa using h
    exact (rcut_no full n w h').mono fun e w' ⟨he, hw⟩ => by
      subst hw
      exact ⟨_, _, _, by rw [he, cutE, if_neg h], by rw [cutY, if_neg h]; rfl, by rw [cutY, if_neg h]; exact BS_nil _ _, Below.refl _ _⟩

set_option maxHeartbeats 1000000 in
theorem tells_some (full other : Int) (ad : Addr) (n c m : Nat) (xs : List Int) (w : World) (hc : n ≤ c) (hc2 : c ≤ 9223372036854775807) (hm : m = min n 6) (hn : xs.length = n) (h : BS w (some ad) xs) :
    Calls Try.prog 3 #[.int .i64 full, .int .i64 other, .slice (some ad) n c] w fun e w' => e = .returned (.bool true) ∧ Below w.heap.size w w' := by
  have ht : (xs.take m).length = m := by rw [List.length_take]; omega
  have HT := Lib.hid ht
  clear ht hn
  have hp := h.take m
  have hm2 : m ≤ n := by omega
  have hm3 : m ≤ 6 := by omega
  have hm4 : ¬ n ≤ 6 → m = 6 := by omega
  have hm5 : n ≤ 6 → m = n := by omega
  clear hm h
  by_cases h6 : n ≤ 6
  · obtain rfl := hm5 h6
    clear hm4 hm5
    go_enter Try.func3, Try.ntmps3
    go_wp2_with (first
      | (go_at_call 9; refine (len_any _ _ _).mono ?_; rintro e w' ⟨rfl, rfl⟩)
      | (go_at_call 10; refine (rlen_any _ _ _).mono ?_; rintro e w' ⟨rfl, rfl⟩))
    refine (cut_any _ _ _).mono ?_
    rintro e w1 ⟨A1, m1, c1, rfl, hl1, hA1, hb1⟩
    have HL1 := Lib.hid hl1; clear hl1
    go_wp2_with fail
    refine (rcut_any _ _ _).mono ?_
    rintro e w2 ⟨A2, m2, c2, rfl, hl2, hA2, hb2⟩
    have HL2 := Lib.hid hl2; clear hl2
    go_wp2_with fail
    refine (eqb_any A1 A2 m1 m2 c1 c2 _ _ w2 HL1.out HL2.out (hA1.below hb2) hA2).mono ?_
    rintro e w' ⟨rfl, rfl⟩
    have hb02 : Below w.heap.size w w2 := hb1.trans (hb2.mono hb1.size)
    have hp2 := hp.below hb02
    go_wp2_with fail
    refine (copy_any (some ad) m c _ w2 HT.out hp2 (by simp) (by omega)).mono ?_
    rintro e w3 ⟨A3, c3, rfl, hA3, hA3n, hb3⟩
    have HN3 := Lib.hid hA3n; clear hA3n
    go_wp2_with fail
    refine (whole_any other A3 m c3 _ w3 HT.out hA3).mono ?_
    rintro e w4 ⟨rfl, hb4⟩
    go_wp2_with fail
    refine (copy_any A3 m c3 _ w4 HT.out (hA3.below hb4) HN3.out (by omega)).mono ?_
    rintro e w5 ⟨A5, c5, rfl, hA5, hA5n, hb5⟩
    have HN5 := Lib.hid hA5n; clear hA5n
    go_wp2_with fail
    refine (rwhole_any other A5 m c5 _ w5 HT.out hA5).mono ?_
    rintro e w6 ⟨rfl, hb6⟩
    have hb26 : Below w2.heap.size w2 w6 := ((hb3.trans (hb4.mono hb3.size)).trans (hb5.mono (Nat.le_trans hb3.size hb4.size))).trans (hb6.mono (Nat.le_trans (Nat.le_trans hb3.size hb4.size) hb5.size))
    have hb06 : Below w.heap.size w w6 := hb02.trans (hb26.mono hb02.size)
    go_wp2_with fail
    refine (eqb_any A3 (some ad) m m c3 c _ _ w6 HT.out HT.out (hA3.below ((hb4.trans (hb5.mono hb4.size)).trans (hb6.mono (Nat.le_trans hb4.size hb5.size)))) (hp.below hb06)).mono ?_
    rintro e w' ⟨rfl, rfl⟩
    go_wp2_with fail
    refine (works_any w6).mono ?_
    rintro e w7 ⟨rfl, hb7⟩
    go_wp2_with fail
    go_ret
    exact ⟨rfl, hb06.trans (hb7.mono hb06.size)⟩
  · obtain rfl := hm4 h6
    clear hm4 hm5
    go_enter Try.func3, Try.ntmps3
    go_wp2_with (first
      | (go_at_call 9; refine (len_any _ _ _).mono ?_; rintro e w' ⟨rfl, rfl⟩)
      | (go_at_call 10; refine (rlen_any _ _ _).mono ?_; rintro e w' ⟨rfl, rfl⟩))
    refine (cut_any _ _ _).mono ?_
    rintro e w1 ⟨A1, m1, c1, rfl, hl1, hA1, hb1⟩
    have HL1 := Lib.hid hl1; clear hl1
    go_wp2_with fail
    refine (rcut_any _ _ _).mono ?_
    rintro e w2 ⟨A2, m2, c2, rfl, hl2, hA2, hb2⟩
    have HL2 := Lib.hid hl2; clear hl2
    go_wp2_with fail
    refine (eqb_any A1 A2 m1 m2 c1 c2 _ _ w2 HL1.out HL2.out (hA1.below hb2) hA2).mono ?_
    rintro e w' ⟨rfl, rfl⟩
    have hb02 : Below w.heap.size w w2 := hb1.trans (hb2.mono hb1.size)
    have hp2 := hp.below hb02
    go_wp2_with fail
    refine (copy_any (some ad) 6 c _ w2 HT.out hp2 (by simp) (by omega)).mono ?_
    rintro e w3 ⟨A3, c3, rfl, hA3, hA3n, hb3⟩
    have HN3 := Lib.hid hA3n; clear hA3n
    go_wp2_with fail
    refine (whole_any other A3 6 c3 _ w3 HT.out hA3).mono ?_
    rintro e w4 ⟨rfl, hb4⟩
    go_wp2_with fail
    refine (copy_any A3 6 c3 _ w4 HT.out (hA3.below hb4) HN3.out (by omega)).mono ?_
    rintro e w5 ⟨A5, c5, rfl, hA5, hA5n, hb5⟩
    have HN5 := Lib.hid hA5n; clear hA5n
    go_wp2_with fail
    refine (rwhole_any other A5 6 c5 _ w5 HT.out hA5).mono ?_
    rintro e w6 ⟨rfl, hb6⟩
    have hb26 : Below w2.heap.size w2 w6 := ((hb3.trans (hb4.mono hb3.size)).trans (hb5.mono (Nat.le_trans hb3.size hb4.size))).trans (hb6.mono (Nat.le_trans (Nat.le_trans hb3.size hb4.size) hb5.size))
    have hb06 : Below w.heap.size w w6 := hb02.trans (hb26.mono hb02.size)
    go_wp2_with fail
    refine (eqb_any A3 (some ad) 6 6 c3 c _ _ w6 HT.out HT.out (hA3.below ((hb4.trans (hb5.mono hb4.size)).trans (hb6.mono (Nat.le_trans hb4.size hb5.size)))) (hp.below hb06)).mono ?_
    rintro e w' ⟨rfl, rfl⟩
    go_wp2_with fail
    refine (works_any w6).mono ?_
    rintro e w7 ⟨rfl, hb7⟩
    go_wp2_with fail
    go_ret
    exact ⟨rfl, hb06.trans (hb7.mono hb06.size)⟩

set_option maxHeartbeats 1000000 in
theorem tells_nil (full other : Int) (w : World) :
    Calls Try.prog 3 #[.int .i64 full, .int .i64 other, .slice none 0 0] w fun e w' => e = .returned (.bool true) ∧ Below w.heap.size w w' := by
  have hp : BS w none [] := BS_nil _ _
  have HT : Hid (([] : List Int).length = 0) := Lib.hid rfl
  go_enter Try.func3, Try.ntmps3
  go_wp2_with (first
    | (go_at_call 9; refine (len_any _ _ _).mono ?_; rintro e w' ⟨rfl, rfl⟩)
    | (go_at_call 10; refine (rlen_any _ _ _).mono ?_; rintro e w' ⟨rfl, rfl⟩))
  refine (cut_any _ _ _).mono ?_
  rintro e w1 ⟨A1, m1, c1, rfl, hl1, hA1, hb1⟩
  have HL1 := Lib.hid hl1; clear hl1
  go_wp2_with fail
  refine (rcut_any _ _ _).mono ?_
  rintro e w2 ⟨A2, m2, c2, rfl, hl2, hA2, hb2⟩
  have HL2 := Lib.hid hl2; clear hl2
  go_wp2_with fail
  refine (eqb_any A1 A2 m1 m2 c1 c2 _ _ w2 HL1.out HL2.out (hA1.below hb2) hA2).mono ?_
  rintro e w' ⟨rfl, rfl⟩
  have hb02 : Below w.heap.size w w2 := hb1.trans (hb2.mono hb1.size)
  have hp2 := hp.below hb02
  go_wp2_with fail
  refine (copy_any (none) 0 0 _ w2 HT.out hp2 (fun _ => ⟨rfl, rfl⟩) (by omega)).mono ?_
  rintro e w3 ⟨A3, c3, rfl, hA3, hA3n, hb3⟩
  have HN3 := Lib.hid hA3n; clear hA3n
  go_wp2_with fail
  refine (whole_any other A3 0 c3 _ w3 HT.out hA3).mono ?_
  rintro e w4 ⟨rfl, hb4⟩
  go_wp2_with fail
  refine (copy_any A3 0 c3 _ w4 HT.out (hA3.below hb4) (fun h => ⟨rfl, (HN3.out h).2⟩) (by omega)).mono ?_
  rintro e w5 ⟨A5, c5, rfl, hA5, hA5n, hb5⟩
  have HN5 := Lib.hid hA5n; clear hA5n
  go_wp2_with fail
  refine (rwhole_any other A5 0 c5 _ w5 HT.out hA5).mono ?_
  rintro e w6 ⟨rfl, hb6⟩
  have hb26 : Below w2.heap.size w2 w6 := ((hb3.trans (hb4.mono hb3.size)).trans (hb5.mono (Nat.le_trans hb3.size hb4.size))).trans (hb6.mono (Nat.le_trans (Nat.le_trans hb3.size hb4.size) hb5.size))
  have hb06 : Below w.heap.size w w6 := hb02.trans (hb26.mono hb02.size)
  go_wp2_with fail
  refine (eqb_any A3 (none) 0 0 c3 0 _ _ w6 HT.out HT.out (hA3.below ((hb4.trans (hb5.mono hb4.size)).trans (hb6.mono (Nat.le_trans hb4.size hb5.size)))) (hp.below hb06)).mono ?_
  rintro e w' ⟨rfl, rfl⟩
  go_wp2_with fail
  refine (works_any w6).mono ?_
  rintro e w7 ⟨rfl, hb7⟩
  go_wp2_with fail
  go_ret
  exact ⟨rfl, hb06.trans (hb7.mono hb06.size)⟩

end Go.Proofs.Ytpkbbbfgabfcgaa
