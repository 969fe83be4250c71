/-
  Chapter 18 by the engine: Backed, of both.
-/
import Derived.Test.YtfoogfhcjnpokaaV1
import Derived.Test.YtfoogfhcjnpokaaT3
namespace Go.Proofs.Ytfoogfhcjnpokaa
open Go.RowKit

theorem dblN_stay0 {k n : Nat} {b : Int} (hk : k ≤ n) (h : dblN k b = 0) : dblN n b = 0 := by
  obtain ⟨j, rfl⟩ : ∃ j, n = k + j := ⟨n - k, by omega⟩
  rw [dblN_add, h, dblN_zero]
theorem dblN_stay1 {k n : Nat} {b : Int} (hk : k < n) (h : 4503599627370495 < dblN k b) (h2 : dblN k b ≤ 9007199254740991) : dblN n b = 9007199254740991 := by
  obtain ⟨j, rfl⟩ : ∃ j, n = (k + 1) + j := ⟨n - (k + 1), by omega⟩
  have e : dblN (k + 1) b = 9007199254740991 := by
    rw [dblN]; unfold timeV; (repeat' split) <;> omega
  rw [dblN_add, e, dblN_top]
theorem dblN_step {k : Nat} {b : Int} (h : dblN k b ≤ 4503599627370495) (h0 : 0 ≤ dblN k b) : dblN (k + 1) b = 2 * dblN k b := by
  rw [dblN, timeV_in (by omega) (by omega)]
theorem dblN_low {k : Nat} {b : Int} (h0 : 1 ≤ b) (h1 : b ≤ 9007199254740991) (hk : k ≤ 60) (h : dblN k b ≤ 4503599627370495) : k < 60 := by
  rcases Nat.lt_or_ge k 60 with h2 | h2
  · exact h2
  · exfalso
    obtain rfl : k = 60 := by omega
    have := dblN_grow 60 b h0 h1
    have h4 : (2 : Int) ^ 60 = 1152921504606846976 := by decide
    omega
theorem rnd_eq (c m : Int) : (if (if m < c then m else c) > (0 : Int) then (if m < c then m else c) else (0 : Int)) = (rndN c m : Nat) := by
  unfold rndN
  rw [Int.min_def]
  split <;> split <;> split <;> omega
abbrev f25 (b c m n i : SV) : List SV := tplF 25 L25 [b, c, m, n, i]
def ii (n : Int) : SV := .int .i64 n
def at_ (x0 : Ex) (vs : List SV) : Ex → List SV → List BO → Prop := fun x vals B => x = x0 ∧ vals = vs ∧ B = []
theorem step25 {len : Nat} {L : List Nat} (x0 : Ex) (vs : List SV) {c : Code} {fr : List SV} {hp : LHeap} (h : evalC C1 0 0 c fr hp (obsN L [] (seen len 0 (at_ x0 vs)))) {K : KC} (hK : K x0 (tplF len L vs) []) : CodeOK Try.prog 0 c fr hp K :=
  (CodeOK.lookN (C := C1) ec gs1 mixed (u := 0) (M := []) (Nat.le_refl _) h).st fun x vals B h => by
    obtain ⟨rfl, rfl, rfl⟩ := h
    exact hK
theorem loop25 (b c m : Int) {K : KC} (hK : K (.exit 0) (f25 (ii (backV b c m)) (ii c) (ii m) .top .top) []) : CodeOK Try.prog 0 (.loop c25_3) (f25 (ii (timeV b)) (ii c) (ii m) (ii (rndN c m : Nat)) (ii 0)) [] K := by
  have hb := timeV_range b
  refine CodeOK.monoW (K := fun x fr hp => x = .exit 0 ∧ ∃ n i, fr = f25 (ii (backV b c m)) (ii c) (ii m) n i ∧ hp = []) ?_ ?_
  · refine CodeOK.loop (fun k fr hp => ∃ i : Nat, i + k = 60 ∧ i ≤ rndN c m ∧ fr = f25 (ii (dblN i (timeV b))) (ii c) (ii m) (ii (rndN c m : Nat)) (ii i) ∧ hp = []) ?_ (n := 60) ⟨0, rfl, by omega, rfl, rfl⟩
    rintro k fr hp ⟨i, hik, hir, rfl, rfl⟩
    have hr := dblN_range i _ hb
    by_cases h1 : i < rndN c m
    · by_cases h2 : dblN i (timeV b) = 0
      · refine step25 (len := 25) (L := L25) (.exit 0) [ii (dblN i (timeV b)), ii c, ii m, ii (rndN c m : Nat), ii i] ?_ ⟨rfl, ii (rndN c m : Nat), ii i, ?_, rfl⟩
        · show evalC C1 0 0 c25_3 (tplF 25 L25 [.int .i64 _, .int .i64 c, .int .i64 m, .int .i64 (rndN c m : Nat), .int .i64 i]) [] _
          rw [p25_3, cb (show (i : Int) < (rndN c m : Nat) by omega), show (dblN i (timeV b) == 0) = true by simp [h2]]
          exact ⟨rfl, rfl, trivial, rfl, rfl, rfl⟩
        · rw [h2, backV, dblN_stay0 hir h2]
      · by_cases h3 : 4503599627370495 < dblN i (timeV b)
        · refine step25 (len := 25) (L := L25) (.exit 0) [ii 9007199254740991, ii c, ii m, ii (rndN c m : Nat), ii i] ?_ ⟨rfl, ii (rndN c m : Nat), ii i, ?_, rfl⟩
          · show evalC C1 0 0 c25_3 (tplF 25 L25 [.int .i64 _, .int .i64 c, .int .i64 m, .int .i64 (rndN c m : Nat), .int .i64 i]) [] _
            rw [p25_3, cb (show (i : Int) < (rndN c m : Nat) by omega), show (dblN i (timeV b) == 0) = false by simpa using h2, cb h3]
            exact ⟨rfl, rfl, trivial, rfl, rfl, rfl⟩
          · rw [backV, dblN_stay1 h1 h3 hr.2]
        · have hb1 : 1 ≤ timeV b := by
            rcases Int.lt_or_le 0 (timeV b) with h | h
            · exact h
            · have : timeV b = 0 := by omega
              rw [this, dblN_zero] at h2
              exact absurd rfl h2
          have h4 := dblN_low hb1 hb.2 (by omega : i ≤ 60) (by omega)
          refine step25 (len := 25) (L := L25) .normal [ii (dblN (i + 1) (timeV b)), ii c, ii m, ii (rndN c m : Nat), ii ((i + 1 : Nat) : Int)] ?_ ⟨k - 1, _, [], by omega, tpl_weak (B := []) (R := []) (vals' := [ii (dblN (i + 1) (timeV b)), ii c, ii m, ii (rndN c m : Nat), ii ((i + 1 : Nat) : Int)]) ⟨.inr rfl, .inr rfl, .inr rfl, .inr rfl, .inr rfl, trivial⟩ rfl trivial (Nat.le_refl _), i + 1, by omega, by omega, rfl, rfl⟩
          show evalC C1 0 0 c25_3 (tplF 25 L25 [.int .i64 _, .int .i64 c, .int .i64 m, .int .i64 (rndN c m : Nat), .int .i64 i]) [] _
          rw [p25_3, cb (show (i : Int) < (rndN c m : Nat) by omega), show (dblN i (timeV b) == 0) = false by simpa using h2, cf h3, wrap_id (n := (i : Int) + 1) (by omega) (by omega), wrap_id (n := dblN i (timeV b) * 2) (by omega) (by omega), Int.mul_comm, ← dblN_step (by omega) hr.1]
          exact ⟨rfl, rfl, trivial, rfl, rfl, rfl⟩
    · obtain rfl : i = rndN c m := by omega
      refine step25 (len := 25) (L := L25) (.exit 0) [ii (dblN (rndN c m) (timeV b)), ii c, ii m, ii (rndN c m : Nat), ii (rndN c m : Nat)] ?_ ⟨rfl, ii (rndN c m : Nat), ii (rndN c m : Nat), rfl, rfl⟩
      show evalC C1 0 0 c25_3 (tplF 25 L25 [.int .i64 _, .int .i64 c, .int .i64 m, .int .i64 (rndN c m : Nat), .int .i64 (rndN c m : Nat)]) [] _
      rw [p25_3, cf (show ¬ ((rndN c m : Nat) : Int) < (rndN c m : Nat) by omega)]
      exact ⟨rfl, rfl, trivial, rfl, rfl, rfl⟩
  · rintro x fr hp ⟨rfl, n, i, rfl, rfl⟩
    exact ⟨_, [], tpl_weak (B := []) (R := []) (vals' := [ii (backV b c m), ii c, ii m, .top, .top]) ⟨.inr rfl, .inr rfl, .inr rfl, .inl rfl, .inl rfl, trivial⟩ rfl trivial (Nat.le_refl _), hK⟩
theorem canon25 (b c m : Int) : Canon Try.prog 25 [.int .i64 b, .int .i64 c, .int .i64 m] [] fun v _ => v = .int .i64 (backV b c m) := by
  refine CodeOK.body Try.func25 (by kernel_rfl) ?_
  rw [code25]
  refine CodeOK.seq (step25 (len := 25) (L := L25) .normal [ii b, ii c, ii m, .top, .top] ?_ (CodeOK.scope ?_))
  · show evalC C1 0 0 c25_0 (enterS 25 _) _ _
    rw [p25_0]
    exact ⟨rfl, rfl, trivial, rfl, rfl, rfl⟩
  refine CodeOK.seq (step25 (len := 25) (L := L25) .normal [ii (timeV b), ii c, ii m, .top, .top] ?_ (CodeOK.seq (CodeOK.label ?_)))
  · show evalC C1 0 0 c25_1 (tplF 25 L25 [.int .i64 b, .int .i64 c, .int .i64 m, .top, .top]) [] _
    rw [p25_1]
    exact ⟨rfl, rfl, trivial, rfl, rfl, rfl⟩
  refine CodeOK.seq (CodeOK.seq (step25 (len := 25) (L := L25) .normal [ii (timeV b), ii c, ii m, ii (rndN c m : Nat), ii 0] ?_ (CodeOK.block (loop25 b c m ?_))))
  · show evalC C1 0 0 c25_2 (tplF 25 L25 [.int .i64 (timeV b), .int .i64 c, .int .i64 m, .top, .top]) [] _
    rw [p25_2, rnd_eq]
    exact ⟨rfl, rfl, trivial, rfl, rfl, rfl⟩
  show CodeOK Try.prog 0 c25_4 (f25 (ii (backV b c m)) (ii c) (ii m) .top .top) [] (endK Try.prog ([6].map .tmp) _)
  refine CodeOK.fin (C := C1) ec gs1 mixed (u := 0) (M := []) (k := fun v _ => v = .int .i64 (backV b c m)) ?_ fun v hp h => h
  show evalC C1 0 0 c25_4 (tplF 25 L25 [.int .i64 (backV b c m), .int .i64 c, .int .i64 m, .top, .top]) [] _
  rw [p25_4]
  exact ⟨.inl rfl, rfl⟩
theorem min_sixty (b c m : Int) (i : Nat) (hi : i ≤ rndN c m) (h60 : i ≤ 60) (h : ¬ ((i : Int) < c ∧ (i : Int) < m ∧ (i : Int) < 60)) : dblN i (timeV b) = backV b c m := by
  have hb := timeV_range b
  rw [backV, dblN_min _ hb.1 hb.2 (rndN c m)]
  have e : i = min (rndN c m) 60 := by
    unfold rndN at *
    rw [Int.min_def] at *
    split at hi <;> omega
  rw [e]
theorem loop45 (b c m : Int) {K : KC} (hK : K (.exit 0) (tplF 28 L45 [ii (backV b c m), ii c, ii m, .top]) []) : CodeOK Try.prog 0 (.loop c45_3) (tplF 28 L45 [ii (timeV b), ii c, ii m, ii 0]) [] K := by
  have hb := timeV_range b
  refine CodeOK.monoW (K := fun x fr hp => x = .exit 0 ∧ ∃ i, fr = tplF 28 L45 [ii (backV b c m), ii c, ii m, i] ∧ hp = []) ?_ ?_
  · refine CodeOK.loop (fun k fr hp => ∃ i : Nat, i + k = 60 ∧ i ≤ rndN c m ∧ fr = tplF 28 L45 [ii (dblN i (timeV b)), ii c, ii m, ii i] ∧ hp = []) ?_ (n := 60) ⟨0, rfl, by omega, rfl, rfl⟩
    rintro k fr hp ⟨i, hik, hir, rfl, rfl⟩
    have hr := dblN_range i _ hb
    by_cases h : (i : Int) < c ∧ (i : Int) < m ∧ (i : Int) < 60
    · obtain ⟨h1, h2, h3⟩ := h
      have hi : i + 1 ≤ rndN c m := by
        unfold rndN at *
        rw [Int.min_def] at *
        split at hir <;> omega
      refine step25 (len := 28) (L := L45) .normal [ii (dblN (i + 1) (timeV b)), ii c, ii m, ii ((i + 1 : Nat) : Int)] ?_ ⟨k - 1, _, [], by omega, tpl_weak (B := []) (R := []) (vals' := [ii (dblN (i + 1) (timeV b)), ii c, ii m, ii ((i + 1 : Nat) : Int)]) ⟨.inr rfl, .inr rfl, .inr rfl, .inr rfl, trivial⟩ rfl trivial (Nat.le_refl _), i + 1, by omega, hi, rfl, rfl⟩
      show evalC C1 0 0 c45_3 (tplF 28 L45 [.int .i64 _, .int .i64 c, .int .i64 m, .int .i64 i]) [] _
      rw [p45_3, cb h1, cb h2, cb h3, wrap_id (n := (i : Int) + 1) (by omega) (by omega), wrap_id (n := 2 * dblN i (timeV b)) (by omega) (by omega)]
      exact ⟨rfl, rfl, trivial, rfl, rfl, rfl⟩
    · have e := min_sixty b c m i hir (by omega) h
      refine step25 (len := 28) (L := L45) (.exit 0) [ii (dblN i (timeV b)), ii c, ii m, ii i] ?_ ⟨rfl, ii i, by rw [e], rfl⟩
      show evalC C1 0 0 c45_3 (tplF 28 L45 [.int .i64 _, .int .i64 c, .int .i64 m, .int .i64 i]) [] _
      rw [p45_3]
      by_cases h1 : (i : Int) < c
      · by_cases h2 : (i : Int) < m
        · rw [cb h1, cb h2, cf (show ¬ (i : Int) < 60 from fun h3 => h ⟨h1, h2, h3⟩)]
          exact ⟨rfl, rfl, trivial, rfl, rfl, rfl⟩
        · rw [cb h1, cf h2]
          exact ⟨rfl, rfl, trivial, rfl, rfl, rfl⟩
      · rw [cf h1]
        exact ⟨rfl, rfl, trivial, rfl, rfl, rfl⟩
  · rintro x fr hp ⟨rfl, i, rfl, rfl⟩
    exact ⟨_, [], tpl_weak (B := []) (R := []) (vals' := [ii (backV b c m), ii c, ii m, .top]) ⟨.inr rfl, .inr rfl, .inr rfl, .inl rfl, trivial⟩ rfl trivial (Nat.le_refl _), hK⟩
theorem canon45 (b c m : Int) : Canon Try.prog 45 [.int .i64 b, .int .i64 c, .int .i64 m] [] fun v _ => v = .int .i64 (backV b c m) := by
  refine CodeOK.body Try.func45 (by kernel_rfl) ?_
  rw [code45]
  refine CodeOK.frontN (C := C1) ec gs1 mixed (u := 0) (len := 28) (L := L45) (M := []) [c45_0, c45_1] (Nat.le_refl _) (Q := at_ .normal [ii (timeV b), ii c, ii m, .top]) ?_ ?_
  · show evalC C1 0 0 _ (enterS 28 _) _ _
    simp only [List.foldr]
    rw [p45_0]
    exact ⟨rfl, rfl, trivial, rfl, rfl, rfl⟩
  rintro x vals B ⟨rfl, rfl, rfl⟩
  refine CodeOK.seq (CodeOK.seq (step25 (len := 28) (L := L45) .normal [ii (timeV b), ii c, ii m, ii 0] ?_ (CodeOK.block (loop45 b c m ?_))))
  · show evalC C1 0 0 c45_2 (tplF 28 L45 [.int .i64 (timeV b), .int .i64 c, .int .i64 m, .top]) [] _
    rw [p45_2]
    exact ⟨rfl, rfl, trivial, rfl, rfl, rfl⟩
  show CodeOK Try.prog 0 c45_4 (tplF 28 L45 [ii (backV b c m), ii c, ii m, .top]) [] (endK Try.prog ([6].map .tmp) _)
  refine CodeOK.fin (C := C1) ec gs1 mixed (u := 0) (M := []) (k := fun v _ => v = .int .i64 (backV b c m)) ?_ fun v hp h => h
  show evalC C1 0 0 c45_4 (tplF 28 L45 [.int .i64 (backV b c m), .int .i64 c, .int .i64 m, .top]) [] _
  rw [p45_4]
  exact ⟨.inl rfl, rfl⟩
theorem ok25 : SpecOK Try.prog 25 sBack := by
  intro args h base k hk
  unfold sBack at hk
  split at hk
  · rename_i b c m
    exact ⟨_, [], [], hk, CSim.plain (cal Try.func25 (by kernel_rfl) (by kernel_rfl)) (canon25 b c m) (renL_id_of rfl _) (ren_id_of rfl _) h base⟩
  · cases hk
theorem ok45 : SpecOK Try.prog 45 sBack := by
  intro args h base k hk
  unfold sBack at hk
  split at hk
  · rename_i b c m
    exact ⟨_, [], [], hk, CSim.plain (cal Try.func45 (by kernel_rfl) (by kernel_rfl)) (canon45 b c m) (renL_id_of rfl _) (ren_id_of rfl _) h base⟩
  · cases hk
end Go.Proofs.Ytfoogfhcjnpokaa
