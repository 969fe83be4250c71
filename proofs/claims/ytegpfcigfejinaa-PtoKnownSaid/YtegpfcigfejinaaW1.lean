/-
  Contracts of the functions of layer 8, part 1: times and measures.
-/
import Derived.Test.YtegpfcigfejinaaRows
import Derived.Test.YtegpfcigfejinaaP
import Derived.Test.YtegpfcigfejinaaU
import Derived.WalkKit
import Derived.WalkSpells
import Derived.WalkLawsBesides
import Derived.LoopN
import Derived.Outline
import Derived.Lib.Hide
namespace Go.Proofs.Ytegpfcigfejinaa
open Go.RowKit

theorem ret_int {k : IntKind} {a b : Int} (h : a = b) : Ending.returned (.int k a) = .returned (.int k b) := by rw [h]

theorem time_any (n : Int) (w : World) : Calls Try.prog 22 #[.int .i64 n] w fun e w' => e = .returned (.int .i64 (timeV n)) ∧ w = w' := by
  go_enter Try.func22, Try.ntmps22
  go_wp2
  all_goals go_ret
  all_goals exact ⟨ret_int (by simp only [timeV]; (repeat' split) <;> omega), rfl⟩
theorem rtime_any (n : Int) (w : World) : Calls Try.prog 24 #[.int .i64 n] w fun e w' => e = .returned (.int .i64 (timeV n)) ∧ w = w' := by
  go_enter Try.func24, Try.ntmps24
  go_wp2
  all_goals go_ret
  all_goals exact ⟨ret_int (by simp only [timeV]; (repeat' split) <;> omega), rfl⟩
theorem rist_any (n : Int) (w : World) : Calls Try.prog 27 #[.int .i64 n] w fun e w' => e = .returned (.bool (isT n)) ∧ w = w' := by
  go_enter Try.func27, Try.ntmps27
  go_wp2
  all_goals go_ret
  all_goals exact ⟨by simp [isT]; omega, rfl⟩

theorem new_any (n : Int) (w : World) :
    Calls Try.prog 25 #[.int .i64 n] w fun e w' => e = .returned (.tuple #[.agg #[.int .i64 0, .int .i64 0, .int .i64 (newS n), .int .i64 (newV n), .int .i64 (newF n)], .int .i64 (newE n)]) ∧ Below w.heap.size w w' := by
  by_cases h : newOk n = true
  · have h' : 1000000 ≤ n ∧ n ≤ 60000000000 := by simpa [newOk] using h
    obtain ⟨h1, h2⟩ := h'
    rw [newS, newV, newF, newE, if_pos h, if_pos h, if_pos h, if_pos h]
    go_enter Try.func25, Try.ntmps25
    go_wp2
    exact bodyPost_ret (v := .tuple #[.agg #[.int .i64 0, .int .i64 0, .int .i64 n, .int .i64 (n / 2), .int .i64 (-1)], .int .i64 0]) (by simp [results, Try.results25, go_sem]) rfl ⟨rfl, (Below.refl _ _).alloc (Nat.le_refl _) _⟩
  · have h' : n < 1000000 ∨ 60000000000 < n := by simp [newOk] at h; omega
    rw [newS, newV, newF, newE, if_neg h, if_neg h, if_neg h, if_neg h]
    clear h
    rcases h' with h' | h'
    all_goals
      go_enter Try.func25, Try.ntmps25
      go_wp2
      exact bodyPost_ret (v := .tuple #[.agg #[.int .i64 0, .int .i64 0, .int .i64 0, .int .i64 0, .int .i64 0], .int .i64 9]) (by simp [results, Try.results25, go_sem]) rfl ⟨rfl, (Below.refl _ _).alloc (Nat.le_refl _) _⟩

theorem all_snoc (xs : List Int) (k : Nat) (hk : k < xs.length) : (xs.take (k + 1)).all isT = ((xs.take k).all isT && isT (xs.getD k 0)) := by
  rw [List.take_succ_eq_append_getElem hk, List.all_append]; simp [List.getD, List.getElem?_eq_getElem hk]
theorem all_false (xs : List Int) (k : Nat) (hk : k < xs.length) (h : isT (xs.getD k 0) = false) : xs.all isT = false := by
  rw [List.all_eq_false]
  refine ⟨xs[k], List.getElem_mem hk, ?_⟩
  rw [List.getD, List.getElem?_eq_getElem hk] at h
  simpa using h

set_option maxHeartbeats 400000 in
theorem istime_any (b c : Nat) (xs : List Int) (n : Nat) (w : World) (hn : xs.length = n) (hn2 : n ≤ 1000000) (hc : ∀ i, i < n → w.cell? ⟨b, 0 + i, none⟩ = some (.int .i64 (xs.getD i 0))) :
    Calls Try.prog 26 #[.slice (some ⟨b, 0, none⟩) n c] w fun e w' => e = .returned (.bool (xs.all isT)) ∧ w = w' := by
  have HN := Lib.hid hn
  have HC := Lib.hid hc
  clear hn hc
  go_enter Try.func26, Try.ntmps26
  go_wp2
  go_loop [7] (fun i => ∃ k : Nat, k ≤ n ∧ i = .int .i64 k ∧ (xs.take k).all isT = true) (fun i => n - (intOf i).toNat)
  case atStart => exact ⟨0, Nat.zero_le _, rfl, rfl⟩
  case round =>
    obtain ⟨k, hk, rfl, ha⟩ := hrel
    have HA := Lib.hid ha
    clear ha
    by_cases hlt : k < n
    · have hcell := HC.out k hlt
      rw [Nat.zero_add] at hcell
      have hs := Lib.hid (all_snoc xs k (by rw [HN.out]; exact hlt))
      have hf := Lib.hid (all_false xs k (by rw [HN.out]; exact hlt))
      generalize xs.getD k 0 = x at hcell hs hf
      by_cases h0 : x < 0
      · have hx := isT_false (Or.inl h0)
        go_wp2
        go_ret
        exact ⟨by rw [hf.out hx]; rfl, rfl⟩
      by_cases h1 : 9007199254740991 < x
      · have hx := isT_false (Or.inr h1)
        go_wp2
        go_ret
        exact ⟨by rw [hf.out hx]; rfl, rfl⟩
      · have h0' : 0 ≤ x := by omega
        have h1' : x ≤ 9007199254740991 := by omega
        have HX := Lib.hid (isT_true h0' h1')
        clear h0 h1
        go_wp2
        go_round
        case rel => exact ⟨k + 1, by omega, by go_num, by rw [hs.out, HA.out, HX.out]; rfl⟩
        case measure => simp [intOf]; omega
    · have hkn : k = n := by omega
      go_wp2
      go_ret
      have e : xs.all isT = true := by have := HA.out; rwa [hkn, ← HN.out, List.take_length] at this
      exact ⟨by rw [e]; rfl, rfl⟩

set_option maxHeartbeats 1000000 in
theorem check_never (l m s v : Int) (w : World) :
    Calls Try.prog 21 #[.agg #[.int .i64 l, .int .i64 m, .int .i64 s, .int .i64 v, .int .i64 (-1)]] w fun e w' => e = .returned (.int .i64 (chkE l m s v (-1))) ∧ Below w.heap.size w w' := by
  by_cases h : newOk s = true
  · have h' : 1000000 ≤ s ∧ s ≤ 60000000000 := by simpa [newOk] using h
    have e1 : newS s = s := by rw [newS, if_pos h]
    have e2 : newV s = s / 2 := by rw [newV, if_pos h]
    have e3 : newF s = -1 := by rw [newF, if_pos h]
    have e4 : newE s = 0 := by rw [newE, if_pos h]
    clear h
    obtain ⟨h1, h2⟩ := h'
    go_enter Try.func21, Try.ntmps21
    go_wp2_with (go_at_call 25; refine (new_any _ _).mono ?_; rintro e w' ⟨rfl, hb⟩; obtain ⟨hc, _, hz⟩ := keep_new hb; have c0 := hc 0; have c1 := hc 1; have c2 := hc 2; have c3 := hc 3; have c4 := hc 4; simp at c0 c1 c2 c3 c4; clear hc)
    all_goals go_ret
    all_goals exact ⟨ret_int (by simp only [chkE, okR, isT]; (repeat' split) <;> simp_all <;> omega), (((Below.refl _ _).alloc (Nat.le_refl _) _).trans (hb.mono (by simp))).alloc (by omega) _⟩
  · have h' : s < 1000000 ∨ 60000000000 < s := by simp [newOk] at h; omega
    have e4 : newE s = 9 := by rw [newE, if_neg h]
    clear h
    go_enter Try.func21, Try.ntmps21
    go_wp2_with (go_at_call 25; refine (new_any _ _).mono ?_; rintro e w' ⟨rfl, hb⟩; obtain ⟨hc, _, hz⟩ := keep_new hb; have c0 := hc 0; have c1 := hc 1; have c2 := hc 2; have c3 := hc 3; have c4 := hc 4; simp at c0 c1 c2 c3 c4; clear hc)
    all_goals go_ret
    all_goals exact ⟨ret_int (by simp only [chkE, okR, isT]; (repeat' split) <;> simp_all <;> omega), (((Below.refl _ _).alloc (Nat.le_refl _) _).trans (hb.mono (by simp))).alloc (by omega) _⟩

theorem all5 (a b c d e : Int) : [a, b, c, d, e].all isT = (isT a && isT b && isT c && isT d && isT e) := by simp [List.all_cons, Bool.and_assoc]
theorem cells5 {w : World} {g : Nat} (hg : g = w.heap.size) {a b c d e : Int} {T : TypeId} : ∀ i, i < 5 → (w.alloc (.cells #[.int .i64 a, .int .i64 b, .int .i64 c, .int .i64 d, .int .i64 e] T)).cell? ⟨g, 0 + i, none⟩ = some (.int .i64 ([a, b, c, d, e].getD i 0)) := by
  intro i hi
  rw [hg, World.cell?_alloc_new]
  match i, hi with
  | 0, _ => rfl
  | 1, _ => rfl
  | 2, _ => rfl
  | 3, _ => rfl
  | 4, _ => rfl

set_option maxHeartbeats 1000000 in
theorem check_since (l m s v f : Int) (w : World) (hf : f ≠ -1) :
    Calls Try.prog 21 #[.agg #[.int .i64 l, .int .i64 m, .int .i64 s, .int .i64 v, .int .i64 f]] w fun e w' => e = .returned (.int .i64 (chkE l m s v f)) ∧ Below w.heap.size w w' := by
  have hf' : (f == -1) = false := by rw [beq_eq_false_iff_ne]; exact hf
  by_cases h : [f, l, m, s, v].all isT = true
  · have hh := h
    rw [all5] at hh
    simp only [Bool.and_eq_true, isT_iff] at hh
    obtain ⟨⟨⟨⟨_, _⟩, _⟩, _⟩, _⟩ := hh
    by_cases h1 : m ≤ l ∧ m ≤ s
    · have hv : Hid (chkE l m s v f = 0) := Lib.hid (chkE_ok (by rw [okR, if_neg hf, isT_true (by omega) (by omega), isT_true (by omega) (by omega), isT_true (by omega) (by omega), isT_true (by omega) (by omega), isT_true (by omega) (by omega)]; simpa using h1))
      obtain ⟨h1, h2⟩ := h1
      clear hf
      go_enter Try.func21, Try.ntmps21
      go_wp2_with (go_at_call 26; refine (istime_any _ _ [f, l, m, s, v] 5 _ rfl (by decide) (cells5 (by simp))).mono ?_; rintro e w' ⟨rfl, rfl⟩)
      all_goals go_ret
      all_goals exact ⟨ret_int hv.out.symm, ((Below.refl _ _).alloc (Nat.le_refl _) _).alloc (by simp) _⟩
    · have hv : Hid (chkE l m s v f = 2) := Lib.hid (chkE_bad (by rw [okR, if_neg hf, isT_true (by omega) (by omega), isT_true (by omega) (by omega), isT_true (by omega) (by omega), isT_true (by omega) (by omega), isT_true (by omega) (by omega)]; simpa using h1))
      clear hf
      by_cases h2 : s < l
      · have h3 : s < m := by omega
        clear h1
        go_enter Try.func21, Try.ntmps21
        go_wp2_with (go_at_call 26; refine (istime_any _ _ [f, l, m, s, v] 5 _ rfl (by decide) (cells5 (by simp))).mono ?_; rintro e w' ⟨rfl, rfl⟩)
        all_goals go_ret
        all_goals exact ⟨ret_int hv.out.symm, ((Below.refl _ _).alloc (Nat.le_refl _) _).alloc (by simp) _⟩
      · have h3 : l < m := by omega
        clear h1
        go_enter Try.func21, Try.ntmps21
        go_wp2_with (go_at_call 26; refine (istime_any _ _ [f, l, m, s, v] 5 _ rfl (by decide) (cells5 (by simp))).mono ?_; rintro e w' ⟨rfl, rfl⟩)
        all_goals go_ret
        all_goals exact ⟨ret_int hv.out.symm, ((Below.refl _ _).alloc (Nat.le_refl _) _).alloc (by simp) _⟩
  · have h' : [f, l, m, s, v].all isT = false := by simpa using h
    have hv : Hid (chkE l m s v f = 2) := Lib.hid (chkE_bad (by
      rw [all5] at h'
      rw [okR, if_neg hf, h']
      rfl))
    clear hf h
    go_enter Try.func21, Try.ntmps21
    go_wp2_with (go_at_call 26; refine (istime_any _ _ [f, l, m, s, v] 5 _ rfl (by decide) (cells5 (by simp))).mono ?_; rintro e w' ⟨rfl, rfl⟩)
    all_goals go_ret
    all_goals exact ⟨ret_int hv.out.symm, ((Below.refl _ _).alloc (Nat.le_refl _) _).alloc (by simp) _⟩

theorem check_any (l m s v f : Int) (w : World) :
    Calls Try.prog 21 #[.agg #[.int .i64 l, .int .i64 m, .int .i64 s, .int .i64 v, .int .i64 f]] w fun e w' => e = .returned (.int .i64 (chkE l m s v f)) ∧ Below w.heap.size w w' := by
  by_cases hf : f = -1
  · subst hf; exact check_never l m s v w
  · exact check_since l m s v f w hf

set_option maxHeartbeats 2000000 in
theorem rcheck_never (l m s v : Int) (w : World) :
    Calls Try.prog 23 #[.agg #[.int .i64 l, .int .i64 m, .int .i64 s, .int .i64 v, .int .i64 (-1)]] w fun e w' => e = .returned (.int .i64 (chkE l m s v (-1))) ∧ Below w.heap.size w w' := by
  go_enter Try.func23, Try.ntmps23
  go_wp2
  all_goals go_ret
  all_goals exact ⟨ret_int (by simp only [chkE, okR, isT]; (repeat' split) <;> simp_all <;> omega), (Below.refl _ _).alloc (Nat.le_refl _) _⟩

set_option maxHeartbeats 2000000 in
theorem rcheck_since (l m s v f : Int) (w : World) (hf : f ≠ -1) :
    Calls Try.prog 23 #[.agg #[.int .i64 l, .int .i64 m, .int .i64 s, .int .i64 v, .int .i64 f]] w fun e w' => e = .returned (.int .i64 (chkE l m s v f)) ∧ Below w.heap.size w w' := by
  have hf' : (f == -1) = false := by rw [beq_eq_false_iff_ne]; exact hf
  clear hf
  go_enter Try.func23, Try.ntmps23
  go_wp2
  all_goals go_ret
  all_goals exact ⟨ret_int (by simp only [chkE, okR, isT]; (repeat' split) <;> simp_all <;> omega), (Below.refl _ _).alloc (Nat.le_refl _) _⟩

theorem rcheck_any (l m s v f : Int) (w : World) :
    Calls Try.prog 23 #[.agg #[.int .i64 l, .int .i64 m, .int .i64 s, .int .i64 v, .int .i64 f]] w fun e w' => e = .returned (.int .i64 (chkE l m s v f)) ∧ Below w.heap.size w w' := by
  by_cases hf : f = -1
  · subst hf; exact rcheck_never l m s v w
  · exact rcheck_since l m s v f w hf
end Go.Proofs.Ytegpfcigfejinaa
