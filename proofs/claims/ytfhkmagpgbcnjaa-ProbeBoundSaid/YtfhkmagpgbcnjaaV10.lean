/-
  ProbeBound: its loop, by rules.
-/
import Derived.Test.YtfhkmagpgbcnjaaL5
import Derived.Test.YtfhkmagpgbcnjaaT4b
namespace Go.Proofs.Ytfhkmagpgbcnjaa
open Go.RowKit

theorem sum_w {x y z : Int} (h : ok3 x y z = true) : (sum3 x y z != IntKind.i64.wrap (IntKind.i64.wrap (x + y) + z)) = false := by
  obtain ⟨h1, h2, h3⟩ := ok3_range h
  rw [wrap_id (n := x + y) (by omega) (by omega), wrap_id (n := x + y + z) (by omega) (by omega)]
  simp [sum3, h]
theorem chk_w {x y z : Int} (h : ok3 x y z = true) : (chk x y z != 0) = false := by simp [chk, h]
theorem lt_w {x : Int} (h : 0 ≤ x ∧ x ≤ 2) : decide ((2 : Int) < x) = false := by simp; omega
theorem mx1 (a : Int) : (if (1 : Int) > a then (1 : Int) else a) = gv a 0 := by simp [gv, mx]
theorem mx2 (a : Int) : (if (2 : Int) > a then (2 : Int) else a) = gv a 1 := by simp [gv, mx]
theorem gv3 (a : Int) : gv a 3 = 0 := by simp [gv]
theorem gv2 {a : Int} (h : 0 ≤ a ∧ a ≤ 2) : IntKind.i64.wrap (a - 1) = gv a 2 := by rw [wrap_id (by omega) (by omega)]; simp [gv]
theorem ids4 (n : Nat) (g : Nat → Nat → Int) (a b c : Int) : allIds 3 (hb4 n g a b c) := ⟨fun _ _ => rfl, rfl, rfl, trivial⟩
abbrev f4 (n i : Nat) : List SV := tplF 117 L4 (v4 n i)
abbrev h4 (n : Nat) (g : Nat → Nat → Int) (a b c : Int) : LHeap := (hb4 n g a b c).map mkB
def Q4 (n : Nat) (g : Nat → Nat → Int) (i : Nat) (x0 : Ex) : Ex → List SV → List BO → Prop := fun x vals B => x = x0 ∧ ∃ a b c : Int, ok3 a b c = true ∧ vals = v4 n i ∧ B = hb4 n g a b c
set_option maxRecDepth 100000 in
theorem body4 (n : Nat) (g : Nat → Nat → Int) (i : Nat) (hi : i < n) (a b c : Int) (hok : ok3 a b c = true) : evalC C11 0 1 (sq1 (sq2 c4_5)) (f4 n i) (h4 n g a b c) (obsN L4 [false, true, true] (seen 117 3 (Q4 n g i .normal))) := by
  obtain ⟨ha, hb, hc⟩ := ok3_range hok
  rw [p4b]
  have q1 : (decide ((0 : Int) ≤ (↑i : Int)) && decide ((↑i : Int) < (↑n : Int))) = true := by simp; omega
  have q2 : (decide ((0 : Nat) + (↑i : Int).toNat < n) && true) = true := by simp; omega
  simp only [q1, q2, cond_true]
  have u0 : (0 : Int) ≤ 0 ∧ (0 : Int) < 4 := by omega
  have u1 : (0 : Int) ≤ 1 ∧ (1 : Int) < 4 := by omega
  have u2 : (0 : Int) ≤ 2 ∧ (2 : Int) < 4 := by omega
  have u3 : (0 : Int) ≤ 3 ∧ (3 : Int) < 4 := by omega
  refine ⟨fun hs => ⟨fun hd => ?_, fun hd => ?_, fun hd => ?_, fun hd => ?_⟩, fun hs => ⟨fun hd => ?_, fun hd => ?_, fun hd => ?_, fun hd => ?_⟩, fun hs => ⟨fun hd => ?_, fun hd => ?_, fun hd => ?_, fun hd => ?_⟩⟩
  · refine ⟨hok, fun x y z e h => ?_⟩
    rw [hs, hd] at h
    rcases deed0 hok h with ⟨⟨h0, -⟩, -⟩ | ⟨h0, rfl, rfl, rfl, rfl⟩
    · exact absurd h0 (by omega)
    have hr := gv_in ha u0 h0
    have hk := ok3_of hr hb hc
    rw [mx1]
    simp only [bne_self_eq_false, cond_false, beq_self_eq_true, Bool.and_self, Bool.not_true, lt_w hr, sum_w hk, chk_w hk]
    exact ⟨rfl, rfl, ids4 n g _ _ _, rfl, _, _, _, hk, rfl, rfl⟩
  · refine ⟨hok, fun x y z e h => ?_⟩
    rw [hs, hd] at h
    rcases deed0 hok h with ⟨⟨h0, -⟩, -⟩ | ⟨h0, rfl, rfl, rfl, rfl⟩
    · exact absurd h0 (by omega)
    have hr := gv_in ha u1 h0
    have hk := ok3_of hr hb hc
    rw [mx2]
    simp only [bne_self_eq_false, cond_false, beq_self_eq_true, Bool.and_self, Bool.not_true, lt_w hr, sum_w hk, chk_w hk]
    exact ⟨rfl, rfl, ids4 n g _ _ _, rfl, _, _, _, hk, rfl, rfl⟩
  · refine ⟨hok, fun x y z e h => ?_⟩
    rw [hs, hd] at h
    rcases deed0 hok h with ⟨⟨-, h0⟩, rfl, rfl, rfl, rfl⟩ | ⟨h0, rfl, rfl, rfl, rfl⟩
    · rw [show (a == 0) = true by simp [h0], cond_true]
      simp only [bne_self_eq_false, cond_false, beq_self_eq_true, Bool.and_self, Bool.not_true]
      exact ⟨rfl, rfl, ids4 n g a b c, rfl, _, _, _, hok, rfl, rfl⟩
    have hr := gv_in ha u2 h0
    have hk := ok3_of hr hb hc
    rw [show (a == 0) = false by simp; exact fun h => h0 ⟨rfl, h⟩, cond_false, gv2 ha]
    simp only [bne_self_eq_false, cond_false, beq_self_eq_true, Bool.and_self, Bool.not_true, lt_w hr, sum_w hk, chk_w hk]
    exact ⟨rfl, rfl, ids4 n g _ _ _, rfl, _, _, _, hk, rfl, rfl⟩
  · refine ⟨hok, fun x y z e h => ?_⟩
    rw [hs, hd] at h
    rcases deed0 hok h with ⟨⟨h0, -⟩, -⟩ | ⟨h0, rfl, rfl, rfl, rfl⟩
    · exact absurd h0 (by omega)
    have hr := gv_in ha u3 h0
    have hk := ok3_of hr hb hc
    rw [gv3] at hk ⊢
    simp only [bne_self_eq_false, cond_false, beq_self_eq_true, Bool.and_self, Bool.not_true, sum_w hk, chk_w hk]
    exact ⟨rfl, rfl, ids4 n g _ _ _, rfl, _, _, _, hk, rfl, rfl⟩
  · refine ⟨hok, fun x y z e h => ?_⟩
    rw [hs, hd] at h
    rcases deed1 hok h with ⟨⟨h0, -⟩, -⟩ | ⟨h0, rfl, rfl, rfl, rfl⟩
    · exact absurd h0 (by omega)
    have hr := gv_in hb u0 h0
    have hk := ok3_of ha hr hc
    rw [mx1]
    simp only [bne_self_eq_false, cond_false, beq_self_eq_true, Bool.and_self, Bool.not_true, lt_w hr, sum_w hk, chk_w hk]
    exact ⟨rfl, rfl, ids4 n g _ _ _, rfl, _, _, _, hk, rfl, rfl⟩
  · refine ⟨hok, fun x y z e h => ?_⟩
    rw [hs, hd] at h
    rcases deed1 hok h with ⟨⟨h0, -⟩, -⟩ | ⟨h0, rfl, rfl, rfl, rfl⟩
    · exact absurd h0 (by omega)
    have hr := gv_in hb u1 h0
    have hk := ok3_of ha hr hc
    rw [mx2]
    simp only [bne_self_eq_false, cond_false, beq_self_eq_true, Bool.and_self, Bool.not_true, lt_w hr, sum_w hk, chk_w hk]
    exact ⟨rfl, rfl, ids4 n g _ _ _, rfl, _, _, _, hk, rfl, rfl⟩
  · refine ⟨hok, fun x y z e h => ?_⟩
    rw [hs, hd] at h
    rcases deed1 hok h with ⟨⟨-, h0⟩, rfl, rfl, rfl, rfl⟩ | ⟨h0, rfl, rfl, rfl, rfl⟩
    · rw [show (b == 0) = true by simp [h0], cond_true]
      simp only [bne_self_eq_false, cond_false, beq_self_eq_true, Bool.and_self, Bool.not_true]
      exact ⟨rfl, rfl, ids4 n g a b c, rfl, _, _, _, hok, rfl, rfl⟩
    have hr := gv_in hb u2 h0
    have hk := ok3_of ha hr hc
    rw [show (b == 0) = false by simp; exact fun h => h0 ⟨rfl, h⟩, cond_false, gv2 hb]
    simp only [bne_self_eq_false, cond_false, beq_self_eq_true, Bool.and_self, Bool.not_true, lt_w hr, sum_w hk, chk_w hk]
    exact ⟨rfl, rfl, ids4 n g _ _ _, rfl, _, _, _, hk, rfl, rfl⟩
  · refine ⟨hok, fun x y z e h => ?_⟩
    rw [hs, hd] at h
    rcases deed1 hok h with ⟨⟨h0, -⟩, -⟩ | ⟨h0, rfl, rfl, rfl, rfl⟩
    · exact absurd h0 (by omega)
    have hr := gv_in hb u3 h0
    have hk := ok3_of ha hr hc
    rw [gv3] at hk ⊢
    simp only [bne_self_eq_false, cond_false, beq_self_eq_true, Bool.and_self, Bool.not_true, sum_w hk, chk_w hk]
    exact ⟨rfl, rfl, ids4 n g _ _ _, rfl, _, _, _, hk, rfl, rfl⟩
  · refine ⟨hok, fun x y z e h => ?_⟩
    rw [hs, hd] at h
    rcases deed2 hok h with ⟨⟨h0, -⟩, -⟩ | ⟨h0, rfl, rfl, rfl, rfl⟩
    · exact absurd h0 (by omega)
    have hr := gv_in hc u0 h0
    have hk := ok3_of ha hb hr
    rw [mx1]
    simp only [bne_self_eq_false, cond_false, beq_self_eq_true, Bool.and_self, Bool.not_true, lt_w hr, sum_w hk, chk_w hk]
    exact ⟨rfl, rfl, ids4 n g _ _ _, rfl, _, _, _, hk, rfl, rfl⟩
  · refine ⟨hok, fun x y z e h => ?_⟩
    rw [hs, hd] at h
    rcases deed2 hok h with ⟨⟨h0, -⟩, -⟩ | ⟨h0, rfl, rfl, rfl, rfl⟩
    · exact absurd h0 (by omega)
    have hr := gv_in hc u1 h0
    have hk := ok3_of ha hb hr
    rw [mx2]
    simp only [bne_self_eq_false, cond_false, beq_self_eq_true, Bool.and_self, Bool.not_true, lt_w hr, sum_w hk, chk_w hk]
    exact ⟨rfl, rfl, ids4 n g _ _ _, rfl, _, _, _, hk, rfl, rfl⟩
  · refine ⟨hok, fun x y z e h => ?_⟩
    rw [hs, hd] at h
    rcases deed2 hok h with ⟨⟨-, h0⟩, rfl, rfl, rfl, rfl⟩ | ⟨h0, rfl, rfl, rfl, rfl⟩
    · rw [show (c == 0) = true by simp [h0], cond_true]
      simp only [bne_self_eq_false, cond_false, beq_self_eq_true, Bool.and_self, Bool.not_true]
      exact ⟨rfl, rfl, ids4 n g a b c, rfl, _, _, _, hok, rfl, rfl⟩
    have hr := gv_in hc u2 h0
    have hk := ok3_of ha hb hr
    rw [show (c == 0) = false by simp; exact fun h => h0 ⟨rfl, h⟩, cond_false, gv2 hc]
    simp only [bne_self_eq_false, cond_false, beq_self_eq_true, Bool.and_self, Bool.not_true, lt_w hr, sum_w hk, chk_w hk]
    exact ⟨rfl, rfl, ids4 n g _ _ _, rfl, _, _, _, hk, rfl, rfl⟩
  · refine ⟨hok, fun x y z e h => ?_⟩
    rw [hs, hd] at h
    rcases deed2 hok h with ⟨⟨h0, -⟩, -⟩ | ⟨h0, rfl, rfl, rfl, rfl⟩
    · exact absurd h0 (by omega)
    have hr := gv_in hc u3 h0
    have hk := ok3_of ha hb hr
    rw [gv3] at hk ⊢
    simp only [bne_self_eq_false, cond_false, beq_self_eq_true, Bool.and_self, Bool.not_true, sum_w hk, chk_w hk]
    exact ⟨rfl, rfl, ids4 n g _ _ _, rfl, _, _, _, hk, rfl, rfl⟩
theorem code4b : c4_5 = .seq (sq1 c4_5) (.seq (sq1 (sq2 c4_5)) (sq2 (sq2 c4_5))) := by kernel_rfl
theorem step4 {n : Nat} {g : Nat → Nat → Int} {i : Nat} (x0 : Ex) {c : Code} {fr : List SV} {hp : LHeap} (h : evalC C11 0 1 c fr hp (obsN L4 [false, true, true] (seen 117 3 (Q4 n g i x0)))) {K : KC} (hK : ∀ a b c, ok3 a b c = true → K x0 (f4 n i) (h4 n g a b c)) : CodeOK Try.prog 1 c fr hp K :=
  (CodeOK.lookN (C := C11) ec gs11 mixed (u := 0) (Nat.le_add_left 1 2) h).st fun x vals B h => by
    obtain ⟨rfl, a, b, c, h1, rfl, rfl⟩ := h
    exact hK a b c h1
theorem i64n (i : Nat) (h : i < 1000) : IntKind.i64.wrap ((i : Int) + 1) = ((i + 1 : Nat) : Int) := by rw [wrap_id (by omega) (by omega)]; rfl
set_option maxRecDepth 100000 in
theorem loop4 (n : Nat) (g : Nat → Nat → Int) : CodeOK Try.prog 1 (.loop c4_5) (f4 n 0) (h4 n g 0 0 0) (fun x fr hp => x = .exit 0 ∧ ∃ i a b c, fr = f4 n i ∧ hp = h4 n g a b c) := by
  refine CodeOK.loop (fun m fr hp => ∃ (i : Nat) (a b c : Int), i + m = 80 ∧ ok3 a b c = true ∧ fr = f4 n i ∧ hp = h4 n g a b c) ?_ (n := 80) ⟨0, 0, 0, 0, rfl, rfl, rfl, rfl⟩
  rintro m fr hp ⟨i, a, b, c, him, hok, rfl, rfl⟩
  rw [code4b]
  by_cases h1 : i < n ∧ i < 80
  · refine CodeOK.seq (step4 (n := n) (g := g) (i := i) .normal ?_ fun a b c hok => ?_)
    · rw [p4h, show decide ((i : Int) < n) = true by simp; omega, show decide ((i : Int) < 80) = true by simp; omega]
      exact ⟨rfl, rfl, ids4 n g a b c, rfl, a, b, c, hok, rfl, rfl⟩
    refine CodeOK.seq (step4 (n := n) (g := g) (i := i) .normal (body4 n g i h1.1 a b c hok) fun a b c hok => ?_)
    refine step4 (n := n) (g := g) (i := i + 1) .normal ?_ fun a b c hok => ?_
    · rw [p4n, i64n i (by omega)]
      exact ⟨rfl, rfl, ids4 n g a b c, rfl, a, b, c, hok, rfl, rfl⟩
    · exact ⟨m - 1, f4 n (i + 1), h4 n g a b c, by omega, tpl_weak (B := hb4 n g a b c) (R := []) ⟨.inr rfl, .inr rfl, .inr rfl, .inr rfl, .inr rfl, trivial⟩ rfl (ids4 n g a b c) (Nat.le_add_left 1 2), i + 1, a, b, c, by omega, hok, rfl, rfl⟩
  · refine CodeOK.seq (step4 (n := n) (g := g) (i := i) (.exit 0) ?_ fun a b c hok => ⟨rfl, i, a, b, c, rfl, rfl⟩)
    rw [p4h]
    by_cases h2 : i < n
    · rw [show decide ((i : Int) < n) = true by simp; omega, show decide ((i : Int) < 80) = false by simp; omega]
      exact ⟨rfl, rfl, ids4 n g a b c, rfl, a, b, c, hok, rfl, rfl⟩
    · rw [show decide ((i : Int) < n) = false by simp; omega]
      exact ⟨rfl, rfl, ids4 n g a b c, rfl, a, b, c, hok, rfl, rfl⟩
set_option maxRecDepth 100000 in
theorem canon4 (n : Nat) (g : Nat → Nat → Int) : Canon Try.prog 4 [.slice 0 0 2 n] [some (bR4 n g)] fun v _ => v = .bool true := by
  refine CodeOK.body Try.func4 (by kernel_rfl) ?_
  rw [code4]
  refine CodeOK.frontN (C := C11) ec gs11 mixed (u := 0) (len := 117) (L := L4) (M := [false, true, true]) [c4_0, c4_1, c4_2, c4_3] (Nat.le_add_left 1 2)
    (Q := fun x vals B => x = .normal ∧ vals = [.slice 0 0 2 n, .bool false, .ptr 1 0 3 0, .ptr 2 0 3 0, .top] ∧ B = hb4 n g 0 0 0) ?_ ?_
  · show evalC C11 0 1 _ (enterS 117 _) _ _
    simp only [List.foldr]
    rw [p4a]
    exact ⟨rfl, rfl, ids4 n g 0 0 0, rfl, rfl, rfl⟩
  · rintro x vals B ⟨rfl, rfl, rfl⟩
    refine CodeOK.seq (CodeOK.seq ((CodeOK.lookN (C := C11) ec gs11 mixed (u := 0) (len := 117) (L := L4) (M := [false, true, true]) (Nat.le_add_left 1 2) (Q := fun x vals B => x = .normal ∧ vals = v4 n 0 ∧ B = hb4 n g 0 0 0) ?_).st ?_))
    · rw [p4s]
      exact ⟨rfl, rfl, ids4 n g 0 0 0, rfl, rfl, rfl⟩
    · rintro x vals B ⟨rfl, rfl, rfl⟩
      refine CodeOK.block ((loop4 n g).mono ?_)
      rintro x fr hp ⟨rfl, i, a, b, c, rfl, rfl⟩
      show CodeOK Try.prog 1 c4_6 (f4 n i) (h4 n g a b c) (endK Try.prog ([2].map .tmp) _)
      refine CodeOK.fin (C := C11) ec gs11 mixed (u := 0) (M := []) (k := fun v _ => v = .bool true) ?_ fun v hp h => h
      rw [p4e]
      exact ⟨.inl rfl, rfl⟩
end Go.Proofs.Ytfhkmagpgbcnjaa
