/-
  RttBounds: its loop, by rules.
-/
import Derived.Test.YtepmbiahnicooaaV6
namespace Go.Proofs.Ytepmbiahnicooaa
open Go.RowKit

theorem ids9 (n : Nat) (g : Nat → Nat → Int) (N : Nat) (q : Nat → Nat → Int) : allIds 2 (h9 n g N q) := ⟨fun _ _ => rfl, fun _ _ => rfl, trivial⟩
abbrev f9 (N : Nat) (lo hi i : SV) : List SV := tplF 116 L9 (v9 N lo hi i)
abbrev m9 (n : Nat) (g : Nat → Nat → Int) (N : Nat) (q : Nat → Nat → Int) : LHeap := (h9 n g N q).map mkB
def Q9 (n : Nat) (g : Nat → Nat → Int) (N : Nat) (q : Nat → Nat → Int) (lo hi i : SV) (x0 : Ex) : Ex → List SV → List BO → Prop := fun x vals B => x = x0 ∧ vals = v9 N lo hi i ∧ B = h9 n g N q
theorem step9 {n : Nat} {g : Nat → Nat → Int} {N : Nat} {q : Nat → Nat → Int} (lo hi i : SV) (x0 : Ex) {c : Code} {fr : List SV} {hp : LHeap} (h : evalC C6 0 1 c fr hp (obsN L9 [false, false] (seen 116 2 (Q9 n g N q lo hi i x0)))) {K : KC} (hK : K x0 (f9 N lo hi i) (m9 n g N q)) : CodeOK Try.prog 1 c fr hp K :=
  (CodeOK.lookN (C := C6) ec gs6 mixed (u := 0) (Nat.le_add_left 1 1) h).st fun x vals B h => by
    obtain ⟨rfl, rfl, rfl⟩ := h
    exact hK
theorem frc_row {F : Nat → List SV} : (fun r => bif Nat.beq r 0 then F 0 else F r) = F := by
  funext r
  cases h : Nat.beq r 0 with
  | true => rw [Nat.eq_of_beq_eq_true h]; rfl
  | false => rfl
set_option maxRecDepth 100000 in
theorem loop9 (n : Nat) (g : Nat → Nat → Int) (N : Nat) (q : Nat → Nat → Int) (hN : BrgP true N q) : CodeOK Try.prog 1 (.loop c9_5) (f9 N (.int .i64 (loF q 0)) (.int .i64 (hiF q 0)) (.int .i64 (0 : Nat))) (m9 n g N q) (fun x fr hp => x = .exit 0 ∧ ∃ (i : Nat) (lo hi : Int), fr = f9 N (.int .i64 lo) (.int .i64 hi) (.int .i64 i) ∧ hp = m9 n g N q) := by
  have h60 := hN.hi
  refine CodeOK.loop (fun k fr hp => ∃ i : Nat, i + k = N ∧ fr = f9 N (.int .i64 (loF q i)) (.int .i64 (hiF q i)) (.int .i64 i) ∧ hp = m9 n g N q) ?_ (n := N) ⟨0, by omega, rfl, rfl⟩
  rintro k fr hp ⟨i, hik, rfl, rfl⟩
  by_cases h1 : i < N
  · refine step9 (n := n) (g := g) (N := N) (q := q) (.int .i64 (loF q (i + 1))) (.int .i64 (hiF q (i + 1))) (.int .i64 ((i + 1 : Nat) : Int)) .normal ?_ ⟨k - 1, f9 N (.int .i64 (loF q (i + 1))) (.int .i64 (hiF q (i + 1))) (.int .i64 ((i + 1 : Nat) : Int)), m9 n g N q, by omega, tpl_weak (B := h9 n g N q) (R := []) ⟨.inr rfl, .inr rfl, .inr rfl, .inr rfl, .inr rfl, trivial⟩ rfl (ids9 n g N q) (Nat.le_add_left 1 1), i + 1, by omega, rfl, rfl⟩
    rw [p9r, i64n i (by omega), cb (show (i : Int) < N by omega)]
    simp only [cond_true, Nat.zero_add, Int.toNat_natCast, cb h1, Nat.sub_zero, cb (show (0 : Int) ≤ ((i + 1 : Nat) : Int) by omega), cb (show ((i + 1 : Nat) : Int) ≤ N by omega), cb (show (0 : Int) < ((i + 1 : Nat) : Int) by omega), Bool.and_self,
      cb (show (0 : Int) < (N : Int) by omega), cb (show 0 < N by omega)]
    refine ⟨q, by show i + 1 ≤ 1000; omega, ⟨by show i + 1 ≤ N; omega, fun r _ => rfl, fun r _ => ⟨hN.ok r 0, hN.ok r 1, hN.ok r 2⟩⟩, ?_⟩
    rintro l m s v f ⟨h⟩
    have b := run_bounds (g := q) (fun r j => (hN.ok r j).lo) i
    have bf := run_f (g := q) (fun r => (hN.ok r 2).lo) i
    have bo := okR_run (g := q) (n := i + 1) fun r _ => ⟨hN.ok r 0, hN.ok r 1, hN.ok r 2⟩
    rw [h] at b bf bo
    obtain ⟨b1, b2, b3, b4, b5, b6, b7⟩ := b
    simp only at b1 b2 b3 b4 b5 b6 bf
    have bo : okR l m s v f = true := bo
    have el : (if q i 0 < loF q i then q i 0 else loF q i) = loF q (i + 1) := rfl
    have eh : (if q i 0 > hiF q i then q i 0 else hiF q i) = hiF q (i + 1) := rfl
    have hg : (greatV l m s v f != if q i 0 > s then q i 0 else s) = false := by
      rw [greatV, if_pos bo, b1]; simp
    rw [el, eh, hg, show chkE l m s v f = 0 by rw [chkE, if_pos bo], cf (show ¬ s < loF q (i + 1) by omega), cf (show ¬ hiF q (i + 1) < s by omega), cf (show ¬ v < 0 by omega), cf (show ¬ hiF q (i + 1) < v by omega), b1, b2, bf]
    simp only [bne_self_eq_false, cond_false]
    exact ⟨rfl, rfl, ids9 n g N q, rfl, rfl, rfl⟩
  · refine step9 (n := n) (g := g) (N := N) (q := q) (.int .i64 (loF q i)) (.int .i64 (hiF q i)) (.int .i64 i) (.exit 0) ?_ ⟨rfl, i, _, _, rfl, rfl⟩
    rw [p9r, cf (show ¬ (i : Int) < N by omega)]
    exact ⟨rfl, rfl, ids9 n g N q, rfl, rfl, rfl⟩
set_option maxRecDepth 100000 in
theorem canon9 (n : Nat) (g : Nat → Nat → Int) (hn : 0 < n) : Canon Try.prog 9 [.slice 0 0 3 n] [some (bT n g)] fun v _ => v = .bool true := by
  refine CodeOK.body Try.func9 (by kernel_rfl) ?_
  rw [code9]
  refine CodeOK.frontN (C := C6) ec gs6 mixed (u := 0) (len := 116) (L := L9) (M := [false, false]) [c9_0, c9_1, c9_2, c9_3] (Nat.le_add_left 1 1) (Q := fun x vals B => ∃ N q, BrgP true N q ∧ Q9 n g N q (.int .i64 (loF q 0)) (.int .i64 (hiF q 0)) .top .normal x vals B) ?_ ?_
  · show evalC C6 0 1 _ (enterS 116 _) _ _
    simp only [List.foldr]
    rw [p9a]
    refine ⟨⟨hn, Nat.le_refl _, fun r _ => ⟨_, _, _, rfl⟩⟩, fun N q hq => ?_⟩
    have h0 := hq.lo
    simp only [cond_true, cb (show (0 : Int) < (N : Int) by omega), cb (show 0 < N by omega), Bool.and_true]
    cases Nat.beq N 1 with
    | false => exact ⟨rfl, rfl, ⟨fun _ _ => rfl, fun _ _ => rfl, trivial⟩, N, q, hq, rfl, rfl, rfl⟩
    | true =>
      have e := frc_row (F := fun r => [SV.int .i64 (q r 0), .int .i64 (q r 1), .int .i64 (q r 2)])
      refine ⟨rfl, rfl, ⟨fun _ _ => rfl, fun r _ => ?_, trivial⟩, N, q, hq, rfl, rfl, congrArg (fun F => [BO.raw (some (bT n g)), .raw (some ⟨3, N, F, true, 32⟩)]) e⟩
      show ltAll 2 (svIdsL ((fun r => bif Nat.beq r 0 then [SV.int .i64 (q 0 0), .int .i64 (q 0 1), .int .i64 (q 0 2)] else [SV.int .i64 (q r 0), .int .i64 (q r 1), .int .i64 (q r 2)]) r)) = true
      rw [e]
      rfl
  · rintro x vals B ⟨N, q, hq, rfl, rfl, rfl⟩
    refine CodeOK.seq (CodeOK.seq (step9 (n := n) (g := g) (N := N) (q := q) (.int .i64 (loF q 0)) (.int .i64 (hiF q 0)) (.int .i64 (0 : Nat)) .normal ?_ ?_))
    · rw [p9s]
      exact ⟨rfl, rfl, ids9 n g N q, rfl, rfl, rfl⟩
    refine CodeOK.block ((loop9 n g N q hq).mono ?_)
    rintro x fr hp ⟨rfl, i, lo, hi, rfl, rfl⟩
    show CodeOK Try.prog 1 c9_6 (f9 N (.int .i64 lo) (.int .i64 hi) (.int .i64 i)) (m9 n g N q) (endK Try.prog ([2].map .tmp) _)
    refine CodeOK.fin (C := C6) ec gs6 mixed (u := 0) (M := []) (k := fun v _ => v = .bool true) ?_ fun v hp h => h
    rw [p9e]
    exact ⟨.inl rfl, rfl⟩
end Go.Proofs.Ytepmbiahnicooaa
