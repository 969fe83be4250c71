/-
  Contracts of the functions of layer 3, part 2.
-/
import Derived.Test.YtpkbbbfgabfcgaaW1
import Derived.Laws.AppendOwnNone
import Derived.Test.YtpkbbbfgabfcgaaB
import Derived.Deep.QuietTactic
import Derived.BigQuiet
namespace Go.Proofs.Ytpkbbbfgabfcgaa
open Go.RowKit

theorem Try.info5 : (Try.prog.info? 5).map (fun i => (i.zero, i.size, i.bytes)) = some (some (.int .u8 0), 1, 1) := by kernel_rfl

/-- What a copy of bytes leaves. -/
def Copied (w : World) (n : Nat) (xs : List Int) (e : Ending) (w' : World) : Prop :=
  ∃ A' c', e = .returned (.slice A' n c') ∧ BS w' A' xs ∧ (A' = none → n = 0 ∧ c' = 0) ∧ Below w.heap.size w w'

theorem copy_any (A : Option Addr) (n c : Nat) (xs : List Int) (w : World) (hn : xs.length = n) (h : BS w A xs) (hA : A = none → n = 0 ∧ c = 0) (hb : n ≤ 1099511627776) :
    Calls Try.prog 14 #[.slice A n c] w (Copied w n xs) := by
  obtain ⟨i0, hi, hz0, hz1, hz2⟩ := info_parts Try.info5
  rcases A with _ | ad
  · obtain ⟨h1, h2⟩ := hA rfl
    subst h1; subst h2
    go_enter Try.func14, Try.ntmps14
    go_wp2_with (at_builtin; refine wpList_append_own_none rfl _ _ 22 rfl w.heap.size 5 i0 1 Try.underlying22 hi (.slice none 0 0) 0 [] rfl (World.ownsRow_nil _ _ _ _) rfl ?_)
    go_ret
    exact ⟨_, _, rfl, h, fun _ => ⟨rfl, rfl⟩, Below.refl _ _⟩
  · have hc : ∀ j u, (xs.map (Value.int .u8))[j]? = some u → w.cell? (ad.add j) = some u := by
      intro j u hj
      rcases h.1 with h0 | ⟨b, off, hA, _, hc⟩
      · subst h0; simp at hj
      · injection hA with hA; subst hA
        have hjl : j < xs.length := by
          rcases Nat.lt_or_ge j xs.length with h | h
          · exact h
          · simp [List.getElem?_eq_none h] at hj
        have hplain : (⟨b, off, none⟩ : Addr).add j = ⟨b, off + j, none⟩ := by unfold Addr.add; split <;> simp_all
        rw [hplain, hc j hjl]
        simp [List.getElem?_eq_getElem hjl] at hj
        subst hj
        simp [List.getD, List.getElem?_eq_getElem hjl]
    have HC := Lib.hid hc
    have HX := Lib.hid hn
    clear hc hn hA
    go_enter Try.func14, Try.ntmps14
    go_wp2_with (at_builtin; refine wpList_append_own _ rfl _ _ 22 rfl w.heap.size 5 i0 (.int .u8 0) 1 1 Try.underlying22 hi hz0 hz1 hz2 rfl (by decide) (.slice none 0 0) 0 [] rfl (World.ownsRow_nil _ _ _ _) ad n c (xs.map (Value.int .u8)) rfl ?c1 HC.out ?c2 ?c3 ?c4 (Nat.le_refl _) ?_)
    case c1 => simp [HX.out]
    case c2 => intro u hu; simp at hu; obtain ⟨a, _, rfl⟩ := hu; rfl
    case c3 => unfold maxLen; omega
    case c4 => omega
    intro v' w1 hown hg hnil
    go_wp2
    go_ret
    rcases hown.2 with ⟨rfl, h0⟩ | ⟨g, cap, cur, rfl, hg1, hh, hl, hm, hs, ht⟩
    · subst h0
      refine ⟨_, _, rfl, ⟨.inl ?_, h.2⟩, fun _ => ⟨rfl, rfl⟩, (Below.refl _ _).grown hg (Nat.le_refl _) (by simp [Value.ownBlock])⟩
      exact List.eq_nil_of_length_eq_zero HX.out
    · refine ⟨_, _, rfl, ⟨.inr ⟨g, 0, rfl, ?_, fun i hi => ?_⟩, h.2⟩, fun h => by simp at h, (Below.refl _ _).grown hg (Nat.le_refl _) (by simp [Value.ownBlock])⟩
      · exact (hown.lt g rfl).2
      · have := hown.cellAt i (by have := HX.out; omega)
        rw [Nat.zero_add, this]
        simp [List.getD, List.getElem?_eq_getElem hi]


set_option maxHeartbeats 1000000 in
theorem whole1_never (x0 : Int) (b off c : Nat) (w : World) (l0 : 0 ≤ x0) (u0 : x0 ≤ 255) (c0 : w.cell? ⟨b, off, none⟩ = some (.int .u8 x0)) :
    Calls Try.prog 15 #[.int .i64 (-1), .slice (some ⟨b, off, none⟩) 1 c] w fun e w' => e = .returned (.tuple #[.int .i64 (nearV 0 256 (x0)), .int .i64 0]) ∧ Below w.heap.size w w' := by
  have e0 := or_byte0 x0 l0 u0
  have hm : bits .andNot .i64 0 255 = 0 := by simpa using andNot_mask 8 (by decide) 0 255 (by decide) (by omega) (by omega)
  have ho : bits .or .i64 0 (x0) = x0 := by simpa using or_low 8 (by decide) 0 (x0) 256 (by decide) (by omega) (by omega) (by omega) (by omega)
  go_enter Try.func15, Try.ntmps15
  go_wp2_with (go_at_call 19; refine (is_any _ _).mono ?_; rintro e w' ⟨rfl, rfl⟩)
  refine wp_loop_rounds 3 ?_
  rw [rounds_succ]; go_wp2
  rw [rounds_succ]; go_wp2
  go_quiet (fail)
  go_wp2
  all_goals go_ret2
  all_goals exact ⟨ret2_int (by simp only [nearV]; (repeat' split) <;> omega) rfl, below_drewN (Below.refl _ _) _⟩

set_option maxHeartbeats 1000000 in
theorem whole1 (g x0 : Int) (b off c : Nat) (w : World) (h0 : 0 ≤ g) (h1 : g ≤ 9007199254740991) (l0 : 0 ≤ x0) (u0 : x0 ≤ 255) (c0 : w.cell? ⟨b, off, none⟩ = some (.int .u8 x0)) :
    Calls Try.prog 15 #[.int .i64 g, .slice (some ⟨b, off, none⟩) 1 c] w fun e w' => e = .returned (.tuple #[.int .i64 (nearV (g + 1) 256 (x0)), .int .i64 0]) ∧ Below w.heap.size w w' := by
  have e0 := or_byte0 x0 l0 u0
  have hm := andNot_mask 8 (by decide) (g + 1) 255 (by decide) (by omega) (by omega)
  simp only [Int.reduceAdd] at hm
  have ho := or_low 8 (by decide) (g + 1) (x0) 256 (by decide) (by omega) (by omega) (by omega) (by omega)
  have hg := isN_true h0 h1
  go_enter Try.func15, Try.ntmps15
  go_wp2_with (go_at_call 19; refine (is_any _ _).mono ?_; rintro e w' ⟨rfl, rfl⟩)
  refine wp_loop_rounds 3 ?_
  rw [rounds_succ]; go_wp2
  rw [rounds_succ]; go_wp2
  go_quiet (fail)
  go_wp2
  all_goals go_ret2
  all_goals exact ⟨ret2_int (by simp only [nearV]; (repeat' split) <;> omega) rfl, below_drewN (Below.refl _ _) _⟩

set_option maxHeartbeats 1000000 in
theorem whole2_never (x0 x1 : Int) (b off c : Nat) (w : World) (l0 : 0 ≤ x0) (u0 : x0 ≤ 255) (l1 : 0 ≤ x1) (u1 : x1 ≤ 255) (c0 : w.cell? ⟨b, off, none⟩ = some (.int .u8 x0)) (c1 : w.cell? ⟨b, off + 1, none⟩ = some (.int .u8 x1)) :
    Calls Try.prog 15 #[.int .i64 (-1), .slice (some ⟨b, off, none⟩) 2 c] w fun e w' => e = .returned (.tuple #[.int .i64 (nearV 0 65536 (x0 * 256 + x1)), .int .i64 0]) ∧ Below w.heap.size w w' := by
  have e0 := or_byte0 x0 l0 u0
  have e1 := or_byte (x0) x1 (by omega) (by omega) l1 u1
  have hm : bits .andNot .i64 0 65535 = 0 := by simpa using andNot_mask 16 (by decide) 0 65535 (by decide) (by omega) (by omega)
  have ho : bits .or .i64 0 (x0 * 256 + x1) = x0 * 256 + x1 := by simpa using or_low 16 (by decide) 0 (x0 * 256 + x1) 65536 (by decide) (by omega) (by omega) (by omega) (by omega)
  go_enter Try.func15, Try.ntmps15
  go_wp2_with (go_at_call 19; refine (is_any _ _).mono ?_; rintro e w' ⟨rfl, rfl⟩)
  refine wp_loop_rounds 4 ?_
  rw [rounds_succ]; go_wp2
  rw [rounds_succ]; go_wp2
  rw [rounds_succ]; go_wp2
  go_quiet (fail)
  go_wp2
  all_goals go_ret2
  all_goals exact ⟨ret2_int (by simp only [nearV]; (repeat' split) <;> omega) rfl, below_drewN (Below.refl _ _) _⟩

set_option maxHeartbeats 1000000 in
theorem whole2 (g x0 x1 : Int) (b off c : Nat) (w : World) (h0 : 0 ≤ g) (h1 : g ≤ 9007199254740991) (l0 : 0 ≤ x0) (u0 : x0 ≤ 255) (l1 : 0 ≤ x1) (u1 : x1 ≤ 255) (c0 : w.cell? ⟨b, off, none⟩ = some (.int .u8 x0)) (c1 : w.cell? ⟨b, off + 1, none⟩ = some (.int .u8 x1)) :
    Calls Try.prog 15 #[.int .i64 g, .slice (some ⟨b, off, none⟩) 2 c] w fun e w' => e = .returned (.tuple #[.int .i64 (nearV (g + 1) 65536 (x0 * 256 + x1)), .int .i64 0]) ∧ Below w.heap.size w w' := by
  have e0 := or_byte0 x0 l0 u0
  have e1 := or_byte (x0) x1 (by omega) (by omega) l1 u1
  have hm := andNot_mask 16 (by decide) (g + 1) 65535 (by decide) (by omega) (by omega)
  simp only [Int.reduceAdd] at hm
  have ho := or_low 16 (by decide) (g + 1) (x0 * 256 + x1) 65536 (by decide) (by omega) (by omega) (by omega) (by omega)
  have hg := isN_true h0 h1
  go_enter Try.func15, Try.ntmps15
  go_wp2_with (go_at_call 19; refine (is_any _ _).mono ?_; rintro e w' ⟨rfl, rfl⟩)
  refine wp_loop_rounds 4 ?_
  rw [rounds_succ]; go_wp2
  rw [rounds_succ]; go_wp2
  rw [rounds_succ]; go_wp2
  go_quiet (fail)
  go_wp2
  all_goals go_ret2
  all_goals exact ⟨ret2_int (by simp only [nearV]; (repeat' split) <;> omega) rfl, below_drewN (Below.refl _ _) _⟩

set_option maxHeartbeats 1000000 in
theorem whole3_never (x0 x1 x2 : Int) (b off c : Nat) (w : World) (l0 : 0 ≤ x0) (u0 : x0 ≤ 255) (l1 : 0 ≤ x1) (u1 : x1 ≤ 255) (l2 : 0 ≤ x2) (u2 : x2 ≤ 255) (c0 : w.cell? ⟨b, off, none⟩ = some (.int .u8 x0)) (c1 : w.cell? ⟨b, off + 1, none⟩ = some (.int .u8 x1)) (c2 : w.cell? ⟨b, off + 2, none⟩ = some (.int .u8 x2)) :
    Calls Try.prog 15 #[.int .i64 (-1), .slice (some ⟨b, off, none⟩) 3 c] w fun e w' => e = .returned (.tuple #[.int .i64 (nearV 0 16777216 ((x0 * 256 + x1) * 256 + x2)), .int .i64 0]) ∧ Below w.heap.size w w' := by
  have e0 := or_byte0 x0 l0 u0
  have e1 := or_byte (x0) x1 (by omega) (by omega) l1 u1
  have e2 := or_byte (x0 * 256 + x1) x2 (by omega) (by omega) l2 u2
  have hm : bits .andNot .i64 0 16777215 = 0 := by simpa using andNot_mask 24 (by decide) 0 16777215 (by decide) (by omega) (by omega)
  have ho : bits .or .i64 0 ((x0 * 256 + x1) * 256 + x2) = (x0 * 256 + x1) * 256 + x2 := by simpa using or_low 24 (by decide) 0 ((x0 * 256 + x1) * 256 + x2) 16777216 (by decide) (by omega) (by omega) (by omega) (by omega)
  go_enter Try.func15, Try.ntmps15
  go_wp2_with (go_at_call 19; refine (is_any _ _).mono ?_; rintro e w' ⟨rfl, rfl⟩)
  refine wp_loop_rounds 5 ?_
  rw [rounds_succ]; go_wp2
  rw [rounds_succ]; go_wp2
  rw [rounds_succ]; go_wp2
  rw [rounds_succ]; go_wp2
  go_quiet (fail)
  go_wp2
  all_goals go_ret2
  all_goals exact ⟨ret2_int (by simp only [nearV]; (repeat' split) <;> omega) rfl, below_drewN (Below.refl _ _) _⟩

set_option maxHeartbeats 1000000 in
theorem whole3 (g x0 x1 x2 : Int) (b off c : Nat) (w : World) (h0 : 0 ≤ g) (h1 : g ≤ 9007199254740991) (l0 : 0 ≤ x0) (u0 : x0 ≤ 255) (l1 : 0 ≤ x1) (u1 : x1 ≤ 255) (l2 : 0 ≤ x2) (u2 : x2 ≤ 255) (c0 : w.cell? ⟨b, off, none⟩ = some (.int .u8 x0)) (c1 : w.cell? ⟨b, off + 1, none⟩ = some (.int .u8 x1)) (c2 : w.cell? ⟨b, off + 2, none⟩ = some (.int .u8 x2)) :
    Calls Try.prog 15 #[.int .i64 g, .slice (some ⟨b, off, none⟩) 3 c] w fun e w' => e = .returned (.tuple #[.int .i64 (nearV (g + 1) 16777216 ((x0 * 256 + x1) * 256 + x2)), .int .i64 0]) ∧ Below w.heap.size w w' := by
  have e0 := or_byte0 x0 l0 u0
  have e1 := or_byte (x0) x1 (by omega) (by omega) l1 u1
  have e2 := or_byte (x0 * 256 + x1) x2 (by omega) (by omega) l2 u2
  have hm := andNot_mask 24 (by decide) (g + 1) 16777215 (by decide) (by omega) (by omega)
  simp only [Int.reduceAdd] at hm
  have ho := or_low 24 (by decide) (g + 1) ((x0 * 256 + x1) * 256 + x2) 16777216 (by decide) (by omega) (by omega) (by omega) (by omega)
  have hg := isN_true h0 h1
  go_enter Try.func15, Try.ntmps15
  go_wp2_with (go_at_call 19; refine (is_any _ _).mono ?_; rintro e w' ⟨rfl, rfl⟩)
  refine wp_loop_rounds 5 ?_
  rw [rounds_succ]; go_wp2
  rw [rounds_succ]; go_wp2
  rw [rounds_succ]; go_wp2
  rw [rounds_succ]; go_wp2
  go_quiet (fail)
  go_wp2
  all_goals go_ret2
  all_goals exact ⟨ret2_int (by simp only [nearV]; (repeat' split) <;> omega) rfl, below_drewN (Below.refl _ _) _⟩

set_option maxHeartbeats 1000000 in
theorem whole4_never (x0 x1 x2 x3 : Int) (b off c : Nat) (w : World) (l0 : 0 ≤ x0) (u0 : x0 ≤ 255) (l1 : 0 ≤ x1) (u1 : x1 ≤ 255) (l2 : 0 ≤ x2) (u2 : x2 ≤ 255) (l3 : 0 ≤ x3) (u3 : x3 ≤ 255) (c0 : w.cell? ⟨b, off, none⟩ = some (.int .u8 x0)) (c1 : w.cell? ⟨b, off + 1, none⟩ = some (.int .u8 x1)) (c2 : w.cell? ⟨b, off + 2, none⟩ = some (.int .u8 x2)) (c3 : w.cell? ⟨b, off + 3, none⟩ = some (.int .u8 x3)) :
    Calls Try.prog 15 #[.int .i64 (-1), .slice (some ⟨b, off, none⟩) 4 c] w fun e w' => e = .returned (.tuple #[.int .i64 (nearV 0 4294967296 (((x0 * 256 + x1) * 256 + x2) * 256 + x3)), .int .i64 0]) ∧ Below w.heap.size w w' := by
  have e0 := or_byte0 x0 l0 u0
  have e1 := or_byte (x0) x1 (by omega) (by omega) l1 u1
  have e2 := or_byte (x0 * 256 + x1) x2 (by omega) (by omega) l2 u2
  have e3 := or_byte ((x0 * 256 + x1) * 256 + x2) x3 (by omega) (by omega) l3 u3
  have hm : bits .andNot .i64 0 4294967295 = 0 := by simpa using andNot_mask 32 (by decide) 0 4294967295 (by decide) (by omega) (by omega)
  have ho : bits .or .i64 0 (((x0 * 256 + x1) * 256 + x2) * 256 + x3) = ((x0 * 256 + x1) * 256 + x2) * 256 + x3 := by simpa using or_low 32 (by decide) 0 (((x0 * 256 + x1) * 256 + x2) * 256 + x3) 4294967296 (by decide) (by omega) (by omega) (by omega) (by omega)
  go_enter Try.func15, Try.ntmps15
  go_wp2_with (go_at_call 19; refine (is_any _ _).mono ?_; rintro e w' ⟨rfl, rfl⟩)
  refine wp_loop_rounds 6 ?_
  rw [rounds_succ]; go_wp2
  rw [rounds_succ]; go_wp2
  rw [rounds_succ]; go_wp2
  rw [rounds_succ]; go_wp2
  rw [rounds_succ]; go_wp2
  go_quiet (fail)
  go_wp2
  all_goals go_ret2
  all_goals exact ⟨ret2_int (by simp only [nearV]; (repeat' split) <;> omega) rfl, below_drewN (Below.refl _ _) _⟩

set_option maxHeartbeats 1000000 in
theorem whole4 (g x0 x1 x2 x3 : Int) (b off c : Nat) (w : World) (h0 : 0 ≤ g) (h1 : g ≤ 9007199254740991) (l0 : 0 ≤ x0) (u0 : x0 ≤ 255) (l1 : 0 ≤ x1) (u1 : x1 ≤ 255) (l2 : 0 ≤ x2) (u2 : x2 ≤ 255) (l3 : 0 ≤ x3) (u3 : x3 ≤ 255) (c0 : w.cell? ⟨b, off, none⟩ = some (.int .u8 x0)) (c1 : w.cell? ⟨b, off + 1, none⟩ = some (.int .u8 x1)) (c2 : w.cell? ⟨b, off + 2, none⟩ = some (.int .u8 x2)) (c3 : w.cell? ⟨b, off + 3, none⟩ = some (.int .u8 x3)) :
    Calls Try.prog 15 #[.int .i64 g, .slice (some ⟨b, off, none⟩) 4 c] w fun e w' => e = .returned (.tuple #[.int .i64 (nearV (g + 1) 4294967296 (((x0 * 256 + x1) * 256 + x2) * 256 + x3)), .int .i64 0]) ∧ Below w.heap.size w w' := by
  have e0 := or_byte0 x0 l0 u0
  have e1 := or_byte (x0) x1 (by omega) (by omega) l1 u1
  have e2 := or_byte (x0 * 256 + x1) x2 (by omega) (by omega) l2 u2
  have e3 := or_byte ((x0 * 256 + x1) * 256 + x2) x3 (by omega) (by omega) l3 u3
  have hm := andNot_mask 32 (by decide) (g + 1) 4294967295 (by decide) (by omega) (by omega)
  simp only [Int.reduceAdd] at hm
  have ho := or_low 32 (by decide) (g + 1) (((x0 * 256 + x1) * 256 + x2) * 256 + x3) 4294967296 (by decide) (by omega) (by omega) (by omega) (by omega)
  have hg := isN_true h0 h1
  go_enter Try.func15, Try.ntmps15
  go_wp2_with (go_at_call 19; refine (is_any _ _).mono ?_; rintro e w' ⟨rfl, rfl⟩)
  refine wp_loop_rounds 6 ?_
  rw [rounds_succ]; go_wp2
  rw [rounds_succ]; go_wp2
  rw [rounds_succ]; go_wp2
  rw [rounds_succ]; go_wp2
  rw [rounds_succ]; go_wp2
  go_quiet (fail)
  go_wp2
  all_goals go_ret2
  all_goals exact ⟨ret2_int (by simp only [nearV]; (repeat' split) <;> omega) rfl, below_drewN (Below.refl _ _) _⟩

end Go.Proofs.Ytpkbbbfgabfcgaa
