/-
  Chapter 9 by the engine: sameness of lists.
-/
import Derived.Test.YtcjfmkkfcbelpaaV3
namespace Go.Proofs.Ytcjfmkkfcbelpaa
open Go.RowKit
set_option linter.unusedVariables false
theorem neB {n m : Nat} (h : ¬ n = m) : Nat.beq n m = false := by
  cases hb : Nat.beq n m with
  | false => rfl
  | true => exact absurd (Nat.eq_of_beq_eq_true hb) h
section
attribute [local irreducible] evalC
set_option maxRecDepth 100000
theorem canon13 (n m : Nat) (P Q : Nat → Pk) (hn : n ≤ 100000) : Canon Try.prog 13 [.slice 0 0 6 n, .slice 1 0 6 m] [some (bP n P), some (bP m Q)] fun v _ => v = .bool (Nat.beq n m && eqPs P Q n) := by
  refine CodeOK.body Try.func13 (by kernel_rfl) ?_
  rw [code13]
  have ids : allIds 2 (h13 n m P Q) := ⟨fun _ _ => rfl, fun _ _ => rfl, trivial⟩
  have wk : ∀ {i i' : SV}, ValW (v13 n m i') (v13 n m i) → ltAll 2 (svIdsL (v13 n m i')) = true → Weak 2 (tplF 26 L13 (v13 n m i)) ((h13 n m P Q).map mkB) (tplF 26 L13 (v13 n m i')) ((h13 n m P Q).map mkB) := fun hv hi => tpl_weak (B := h13 n m P Q) (R := []) hv hi ids (show 2 ≤ 2 by decide)
  refine CodeOK.frontE (C := C6) ec gs6 mixed (u := 0) (len := 26) (rs := Try.f13.results.toList) (L := L13) (M := [false, false]) [c13_0, c13_1] (show 2 ≤ 2 by decide) (Q := fun x vals B => x = .normal ∧ n = m ∧ vals = v13 n m .top ∧ B = h13 n m P Q) (kr := fun v => v = SV.bool (Nat.beq n m && eqPs P Q n)) ?_ ?_ fun fr hp h => h
  · show evalC C6 0 2 (.seq c13_0 (.seq c13_1 .skip)) (enterS 26 _) _ (obsE Try.prog Try.f13.results.toList L13 [false, false] _ _)
    rw [p13a]
    refine condSplit (fun q => ?_) fun q => ?_
    · show SV.bool false = .bool (Nat.beq n m && eqPs P Q n)
      have : ¬ n = m := fun e => by subst e; simp at q
      rw [show Nat.beq n m = false from neB this]
      rfl
    · exact ⟨rfl, rfl, ids, rfl, by simp at q; omega, rfl, rfl⟩
  rintro x vals B ⟨rfl, rfl, rfl, rfl⟩
  have hnn : Nat.beq n n = true := Nat.beq_refl n
  refine CodeOK.seq (CodeOK.seq (CodeOK.at (C := C6) ec gs6 mixed (u := 0) (len := 26) (L := L13) (M := [false, false]) (vals := v13 n n (ni 0)) (B := h13 n n P Q) (show 2 ≤ 2 by decide) .normal ?_ (CodeOK.block ?_)))
  · show evalC C6 0 2 c13_2 (tplF 26 L13 (v13 n n .top)) ((h13 n n P Q).map mkB) _
    rw [p13b]
    exact ⟨rfl, rfl, ids, rfl, rfl, rfl⟩
  refine CodeOK.loop (fun N fr hp => ∃ i : Nat, i + N = n ∧ eqPs P Q i = true ∧ fr = tplF 26 L13 (v13 n n (ni i)) ∧ hp = (h13 n n P Q).map mkB) ?_ (n := n) ⟨0, by omega, rfl, rfl, rfl⟩
  rintro N fr hp ⟨i, hi, hf, rfl, rfl⟩
  refine CodeOK.lookE (C := C6) ec gs6 mixed (u := 0) (len := 26) (rs := Try.f13.results.toList) (L := L13) (M := [false, false]) (show 2 ≤ 2 by decide) (Q := fun x vals B => (i < n ∧ eqP (P i) (Q i) = true ∧ x = .normal ∧ vals = v13 n n (ni (i + 1 : Nat)) ∧ B = h13 n n P Q) ∨ (i = n ∧ x = .exit 0 ∧ vals = v13 n n (ni i) ∧ B = h13 n n P Q)) (kr := fun v => v = SV.bool (Nat.beq n n && eqPs P Q n)) ?_ ?_ fun fr hp h => h
  · show evalC C6 0 2 c13_3 (tplF 26 L13 (v13 n n (ni i))) ((h13 n n P Q).map mkB) (obsE Try.prog Try.f13.results.toList L13 [false, false] _ _)
    rw [p13c]
    by_cases hin : i < n
    · have c3 : (decide (0 + (i : Int).toNat < n) && true) = true := by simp only [Bool.and_true, Nat.zero_add, Int.toNat_natCast]; exact cb hin
      refine condT' (cb (by omega)) (condT' (cb (by omega)) (condT' c3 (condT' (cb (by omega)) (condT' c3 ?_))))
      simp only [Nat.zero_add, Int.toNat_natCast]
      refine condSplit (fun q => ?_) fun q => ?_
      · have q : eqP (P i) (Q i) = false := bnF q
        show SV.bool false = .bool (Nat.beq n n && eqPs P Q n)
        rw [eqPs_no hin q, Bool.and_false]
      · rw [i64n i (by omega)]
        exact ⟨rfl, rfl, ids, .inl ⟨hin, bnT q, rfl, rfl, rfl⟩⟩
    · refine condF' (cf (by omega)) ?_
      exact ⟨rfl, rfl, ids, .inr ⟨by omega, rfl, rfl, rfl⟩⟩
  · rintro x vals B (⟨hin, q, rfl, rfl, rfl⟩ | ⟨rfl, rfl, rfl, rfl⟩)
    · exact ⟨N - 1, _, _, by omega, wk ⟨.inr rfl, .inr rfl, .inr rfl, trivial⟩ rfl, i + 1, by omega, by simp only [eqPs, hf, q, Bool.and_self], rfl, rfl⟩
    · refine CodeOK.pre (wk (i := ni i) (i' := .top) ⟨.inr rfl, .inr rfl, .inl rfl, trivial⟩ rfl) ?_
      refine CodeOK.eval (C := C6) ec gs6 mixed 0 ?_
      show evalC C6 0 2 c13_4 (tplF 26 L13 (v13 i i .top)) ((h13 i i P Q).map mkB) (endK Try.prog Try.f13.results.toList fun v _ => v = .bool (Nat.beq i i && eqPs P Q i))
      rw [p13d i i P Q (fun v => v = .bool (Nat.beq i i && eqPs P Q i)), hf, hnn]
      rfl
theorem one1 {h : Heap} {id n : Nat} {bl : Blk} (g1 : h id = some bl) (g2 : IsP bl n) : ∀ (i : Nat) (b1 : Blk), hget [some (bP n fun r => rowP (bl.rd r))] i = some b1 → b1.rw = false ∧ ∃ x b, [id][i]? = some x ∧ h x = some b ∧ WB (fun i => [id][i]?) b1 b := fun i b1 e => by
  match i, e with
  | 0, e =>
    obtain rfl := Option.some.inj (show some (bP n fun r => rowP (bl.rd r)) = some b1 from e)
    exact ⟨rfl, id, bl, rfl, g1, g2.wb _⟩
  | i + 1, e => exact nomatch (show (none : Option Blk) = some b1 from e)
theorem beq0 {n : Nat} {P Q : Nat → Pk} : (Nat.beq 0 n && eqPs P Q 0) = Nat.beq 0 n := by simp [eqPs]
theorem same_o (n : Nat) {P Q : Nat → Pk} : bif (0 : Int) != (n : Int) then SV.bool false = .bool (Nat.beq 0 n && eqPs P Q 0) else SV.bool true = .bool (Nat.beq 0 n && eqPs P Q 0) := by
  rw [beq0]
  refine condSplit (fun q => ?_) fun q => ?_
  · cases n with
    | zero => simp at q
    | succ n => rfl
  · cases n with
    | zero => rfl
    | succ n => simp at q; omega
theorem same_s (n : Nat) {P Q : Nat → Pk} : bif (n : Int) != (0 : Int) then SV.bool false = .bool (Nat.beq n 0 && eqPs P Q n) else bif decide ((0 : Int) < (n : Int)) then bif decide ((0 : Int) < (n : Int)) then bif decide (0 < n) && true then False else False else False else SV.bool true = .bool (Nat.beq n 0 && eqPs P Q n) := by
  refine condSplit (fun q => ?_) fun q => ?_
  · cases n with
    | zero => simp at q
    | succ n => rfl
  · cases n with
    | zero => exact condF' (cf (by omega)) rfl
    | succ n => simp at q; omega
theorem ok13 : SpecOK Try.prog 13 s13 := by
  intro args h base k hk
  unfold s13 at hk
  split at hk
  · rename_i v w
    obtain ⟨P, n, lg, hk⟩ := lp_ok hk
    obtain ⟨Q, m, lm, hk⟩ := lp_ok hk
    rcases lg with ⟨rfl | rfl, rfl, rfl⟩ | ⟨id, bl, rfl, g1, g2, rfl⟩
    · rcases lm with ⟨rfl | rfl, rfl, rfl⟩ | ⟨id', bl', rfl, g1', g2', rfl⟩
      · refine ⟨_, [], [], hk, plainOK gs6 Try.func13 (by kernel_rfl) (by kernel_rfl) ?_ rfl rfl h base⟩
        show evalF C6 64 Try.f13 _ [] _
        rw [t13nn (fun v => v = _)]
        rfl
      · refine ⟨_, [], [], hk, plainOK gs6 Try.func13 (by kernel_rfl) (by kernel_rfl) ?_ rfl rfl h base⟩
        show evalF C6 64 Try.f13 _ [] _
        rw [t13ne (fun v => v = _)]
        rfl
      · refine ⟨_, [], [], hk, CSim.reads (cal Try.func13 (by kernel_rfl) (by kernel_rfl)) [.nilSlice, .slice 0 0 6 m] [some (bP m fun r => rowP (bl'.rd r))] [id'] rfl (evalF_ok (C := C6) ec gs6 mixed (u := 64) Try.func13 (by kernel_rfl) ?_) rfl (one1 g1' g2') rfl base⟩
        rw [t13ns m _ (fun v => v = _)]
        exact same_o m
    · rcases lm with ⟨rfl | rfl, rfl, rfl⟩ | ⟨id', bl', rfl, g1', g2', rfl⟩
      · refine ⟨_, [], [], hk, plainOK gs6 Try.func13 (by kernel_rfl) (by kernel_rfl) ?_ rfl rfl h base⟩
        show evalF C6 64 Try.f13 _ [] _
        rw [t13en (fun v => v = _)]
        rfl
      · refine ⟨_, [], [], hk, plainOK gs6 Try.func13 (by kernel_rfl) (by kernel_rfl) ?_ rfl rfl h base⟩
        show evalF C6 64 Try.f13 _ [] _
        rw [t13ee (fun v => v = _)]
        rfl
      · refine ⟨_, [], [], hk, CSim.reads (cal Try.func13 (by kernel_rfl) (by kernel_rfl)) [.eslice, .slice 0 0 6 m] [some (bP m fun r => rowP (bl'.rd r))] [id'] rfl (evalF_ok (C := C6) ec gs6 mixed (u := 64) Try.func13 (by kernel_rfl) ?_) rfl (one1 g1' g2') rfl base⟩
        rw [t13es m _ (fun v => v = _)]
        exact same_o m
    · rcases lm with ⟨rfl | rfl, rfl, rfl⟩ | ⟨id', bl', rfl, g1', g2', rfl⟩
      · refine ⟨_, [], [], hk, CSim.reads (cal Try.func13 (by kernel_rfl) (by kernel_rfl)) [.slice 0 0 6 n, .nilSlice] [some (bP n fun r => rowP (bl.rd r))] [id] rfl (evalF_ok (C := C6) ec gs6 mixed (u := 64) Try.func13 (by kernel_rfl) ?_) rfl (one1 g1 g2) rfl base⟩
        rw [t13sn n _ (fun v => v = _)]
        exact same_s n
      · refine ⟨_, [], [], hk, CSim.reads (cal Try.func13 (by kernel_rfl) (by kernel_rfl)) [.slice 0 0 6 n, .eslice] [some (bP n fun r => rowP (bl.rd r))] [id] rfl (evalF_ok (C := C6) ec gs6 mixed (u := 64) Try.func13 (by kernel_rfl) ?_) rfl (one1 g1 g2) rfl base⟩
        rw [t13se n _ (fun v => v = _)]
        exact same_s n
      · refine ⟨_, [], [], hk, CSim.reads (cal Try.func13 (by kernel_rfl) (by kernel_rfl)) [.slice 0 0 6 n, .slice 1 0 6 m] [some (bP n fun r => rowP (bl.rd r)), some (bP m fun r => rowP (bl'.rd r))] [id, id'] rfl (canon13 n m _ _ g2.sm) rfl (fun i b1 e => ?_) rfl base⟩
        match i, e with
        | 0, e =>
          obtain rfl := Option.some.inj (show some (bP n fun r => rowP (bl.rd r)) = some b1 from e)
          exact ⟨rfl, id, bl, rfl, g1, g2.wb _⟩
        | 1, e =>
          obtain rfl := Option.some.inj (show some (bP m fun r => rowP (bl'.rd r)) = some b1 from e)
          exact ⟨rfl, id', bl', rfl, g1', g2'.wb _⟩
        | i + 2, e => exact nomatch (show (none : Option Blk) = some b1 from e)
  · cases hk
theorem canon22 (n m : Nat) (P Q : Nat → Pk) (hn : n ≤ 100000) : Canon Try.prog 22 [.slice 0 0 6 n, .slice 1 0 6 m] [some (bP n P), some (bP m Q)] fun v _ => v = .bool (Nat.beq n m && eqPs P Q n) := by
  refine CodeOK.body Try.func22 (by kernel_rfl) ?_
  rw [code22]
  have ids : allIds 2 (h13 n m P Q) := ⟨fun _ _ => rfl, fun _ _ => rfl, trivial⟩
  have wk : ∀ {i i' : SV}, ValW (v13 n m i') (v13 n m i) → ltAll 2 (svIdsL (v13 n m i')) = true → Weak 2 (tplF 26 L13 (v13 n m i)) ((h13 n m P Q).map mkB) (tplF 26 L13 (v13 n m i')) ((h13 n m P Q).map mkB) := fun hv hi => tpl_weak (B := h13 n m P Q) (R := []) hv hi ids (show 2 ≤ 2 by decide)
  refine CodeOK.frontE (C := C6) ec gs6 mixed (u := 0) (len := 26) (rs := Try.f22.results.toList) (L := L13) (M := [false, false]) [c22_0, c22_1] (show 2 ≤ 2 by decide) (Q := fun x vals B => x = .normal ∧ n = m ∧ vals = v13 n m .top ∧ B = h13 n m P Q) (kr := fun v => v = SV.bool (Nat.beq n m && eqPs P Q n)) ?_ ?_ fun fr hp h => h
  · show evalC C6 0 2 (.seq c22_0 (.seq c22_1 .skip)) (enterS 26 _) _ (obsE Try.prog Try.f22.results.toList L13 [false, false] _ _)
    rw [p22a]
    refine condSplit (fun q => ?_) fun q => ?_
    · show SV.bool false = .bool (Nat.beq n m && eqPs P Q n)
      have : ¬ n = m := fun e => by subst e; simp at q
      rw [show Nat.beq n m = false from neB this]
      rfl
    · exact ⟨rfl, rfl, ids, rfl, by simp at q; omega, rfl, rfl⟩
  rintro x vals B ⟨rfl, rfl, rfl, rfl⟩
  have hnn : Nat.beq n n = true := Nat.beq_refl n
  refine CodeOK.seq (CodeOK.seq (CodeOK.at (C := C6) ec gs6 mixed (u := 0) (len := 26) (L := L13) (M := [false, false]) (vals := v13 n n (ni 0)) (B := h13 n n P Q) (show 2 ≤ 2 by decide) .normal ?_ (CodeOK.block ?_)))
  · show evalC C6 0 2 c22_2 (tplF 26 L13 (v13 n n .top)) ((h13 n n P Q).map mkB) _
    rw [p22b]
    exact ⟨rfl, rfl, ids, rfl, rfl, rfl⟩
  refine CodeOK.loop (fun N fr hp => ∃ i : Nat, i + N = n ∧ eqPs P Q i = true ∧ fr = tplF 26 L13 (v13 n n (ni i)) ∧ hp = (h13 n n P Q).map mkB) ?_ (n := n) ⟨0, by omega, rfl, rfl, rfl⟩
  rintro N fr hp ⟨i, hi, hf, rfl, rfl⟩
  refine CodeOK.lookE (C := C6) ec gs6 mixed (u := 0) (len := 26) (rs := Try.f22.results.toList) (L := L13) (M := [false, false]) (show 2 ≤ 2 by decide) (Q := fun x vals B => (i < n ∧ eqP (P i) (Q i) = true ∧ x = .normal ∧ vals = v13 n n (ni (i + 1 : Nat)) ∧ B = h13 n n P Q) ∨ (i = n ∧ x = .exit 0 ∧ vals = v13 n n (ni i) ∧ B = h13 n n P Q)) (kr := fun v => v = SV.bool (Nat.beq n n && eqPs P Q n)) ?_ ?_ fun fr hp h => h
  · show evalC C6 0 2 c22_3 (tplF 26 L13 (v13 n n (ni i))) ((h13 n n P Q).map mkB) (obsE Try.prog Try.f22.results.toList L13 [false, false] _ _)
    rw [p22c]
    by_cases hin : i < n
    · have c3 : (decide (0 + (i : Int).toNat < n) && true) = true := by simp only [Bool.and_true, Nat.zero_add, Int.toNat_natCast]; exact cb hin
      refine condT' (cb (by omega)) (condT' (cb (by omega)) (condT' c3 (condT' (cb (by omega)) (condT' c3 ?_))))
      simp only [Nat.zero_add, Int.toNat_natCast]
      refine condSplit (fun q => ?_) fun q => ?_
      · have q : eqP (P i) (Q i) = false := bnF q
        show SV.bool false = .bool (Nat.beq n n && eqPs P Q n)
        rw [eqPs_no hin q, Bool.and_false]
      · rw [i64n i (by omega)]
        exact ⟨rfl, rfl, ids, .inl ⟨hin, bnT q, rfl, rfl, rfl⟩⟩
    · refine condF' (cf (by omega)) ?_
      exact ⟨rfl, rfl, ids, .inr ⟨by omega, rfl, rfl, rfl⟩⟩
  · rintro x vals B (⟨hin, q, rfl, rfl, rfl⟩ | ⟨rfl, rfl, rfl, rfl⟩)
    · exact ⟨N - 1, _, _, by omega, wk ⟨.inr rfl, .inr rfl, .inr rfl, trivial⟩ rfl, i + 1, by omega, by simp only [eqPs, hf, q, Bool.and_self], rfl, rfl⟩
    · refine CodeOK.pre (wk (i := ni i) (i' := .top) ⟨.inr rfl, .inr rfl, .inl rfl, trivial⟩ rfl) ?_
      refine CodeOK.eval (C := C6) ec gs6 mixed 0 ?_
      show evalC C6 0 2 c22_4 (tplF 26 L13 (v13 i i .top)) ((h13 i i P Q).map mkB) (endK Try.prog Try.f22.results.toList fun v _ => v = .bool (Nat.beq i i && eqPs P Q i))
      rw [p22d i i P Q (fun v => v = .bool (Nat.beq i i && eqPs P Q i)), hf, hnn]
      rfl
theorem ok22 : SpecOK Try.prog 22 s13 := by
  intro args h base k hk
  unfold s13 at hk
  split at hk
  · rename_i v w
    obtain ⟨P, n, lg, hk⟩ := lp_ok hk
    obtain ⟨Q, m, lm, hk⟩ := lp_ok hk
    rcases lg with ⟨rfl | rfl, rfl, rfl⟩ | ⟨id, bl, rfl, g1, g2, rfl⟩
    · rcases lm with ⟨rfl | rfl, rfl, rfl⟩ | ⟨id', bl', rfl, g1', g2', rfl⟩
      · refine ⟨_, [], [], hk, plainOK gs6 Try.func22 (by kernel_rfl) (by kernel_rfl) ?_ rfl rfl h base⟩
        show evalF C6 64 Try.f22 _ [] _
        rw [t22nn (fun v => v = _)]
        rfl
      · refine ⟨_, [], [], hk, plainOK gs6 Try.func22 (by kernel_rfl) (by kernel_rfl) ?_ rfl rfl h base⟩
        show evalF C6 64 Try.f22 _ [] _
        rw [t22ne (fun v => v = _)]
        rfl
      · refine ⟨_, [], [], hk, CSim.reads (cal Try.func22 (by kernel_rfl) (by kernel_rfl)) [.nilSlice, .slice 0 0 6 m] [some (bP m fun r => rowP (bl'.rd r))] [id'] rfl (evalF_ok (C := C6) ec gs6 mixed (u := 64) Try.func22 (by kernel_rfl) ?_) rfl (one1 g1' g2') rfl base⟩
        rw [t22ns m _ (fun v => v = _)]
        exact same_o m
    · rcases lm with ⟨rfl | rfl, rfl, rfl⟩ | ⟨id', bl', rfl, g1', g2', rfl⟩
      · refine ⟨_, [], [], hk, plainOK gs6 Try.func22 (by kernel_rfl) (by kernel_rfl) ?_ rfl rfl h base⟩
        show evalF C6 64 Try.f22 _ [] _
        rw [t22en (fun v => v = _)]
        rfl
      · refine ⟨_, [], [], hk, plainOK gs6 Try.func22 (by kernel_rfl) (by kernel_rfl) ?_ rfl rfl h base⟩
        show evalF C6 64 Try.f22 _ [] _
        rw [t22ee (fun v => v = _)]
        rfl
      · refine ⟨_, [], [], hk, CSim.reads (cal Try.func22 (by kernel_rfl) (by kernel_rfl)) [.eslice, .slice 0 0 6 m] [some (bP m fun r => rowP (bl'.rd r))] [id'] rfl (evalF_ok (C := C6) ec gs6 mixed (u := 64) Try.func22 (by kernel_rfl) ?_) rfl (one1 g1' g2') rfl base⟩
        rw [t22es m _ (fun v => v = _)]
        exact same_o m
    · rcases lm with ⟨rfl | rfl, rfl, rfl⟩ | ⟨id', bl', rfl, g1', g2', rfl⟩
      · refine ⟨_, [], [], hk, CSim.reads (cal Try.func22 (by kernel_rfl) (by kernel_rfl)) [.slice 0 0 6 n, .nilSlice] [some (bP n fun r => rowP (bl.rd r))] [id] rfl (evalF_ok (C := C6) ec gs6 mixed (u := 64) Try.func22 (by kernel_rfl) ?_) rfl (one1 g1 g2) rfl base⟩
        rw [t22sn n _ (fun v => v = _)]
        exact same_s n
      · refine ⟨_, [], [], hk, CSim.reads (cal Try.func22 (by kernel_rfl) (by kernel_rfl)) [.slice 0 0 6 n, .eslice] [some (bP n fun r => rowP (bl.rd r))] [id] rfl (evalF_ok (C := C6) ec gs6 mixed (u := 64) Try.func22 (by kernel_rfl) ?_) rfl (one1 g1 g2) rfl base⟩
        rw [t22se n _ (fun v => v = _)]
        exact same_s n
      · refine ⟨_, [], [], hk, CSim.reads (cal Try.func22 (by kernel_rfl) (by kernel_rfl)) [.slice 0 0 6 n, .slice 1 0 6 m] [some (bP n fun r => rowP (bl.rd r)), some (bP m fun r => rowP (bl'.rd r))] [id, id'] rfl (canon22 n m _ _ g2.sm) rfl (fun i b1 e => ?_) rfl base⟩
        match i, e with
        | 0, e =>
          obtain rfl := Option.some.inj (show some (bP n fun r => rowP (bl.rd r)) = some b1 from e)
          exact ⟨rfl, id, bl, rfl, g1, g2.wb _⟩
        | 1, e =>
          obtain rfl := Option.some.inj (show some (bP m fun r => rowP (bl'.rd r)) = some b1 from e)
          exact ⟨rfl, id', bl', rfl, g1', g2'.wb _⟩
        | i + 2, e => exact nomatch (show (none : Option Blk) = some b1 from e)
  · cases hk
end
end Go.Proofs.Ytcjfmkkfcbelpaa
