/-
  ProbeKnown: its three loops, by rules.
-/
import Derived.Test.YtfhkmagpgbcnjaaL3
import Derived.Test.YtfhkmagpgbcnjaaT8b
namespace Go.Proofs.Ytfhkmagpgbcnjaa
open Go.RowKit

theorem ok3s : SpecOK Try.prog 3 s3 := by
  intro args h base k hk
  unfold s3 at hk
  split at hk
  · rename_i a b c sp m
    exact ⟨_, [], [], hk, CSim.plain (cal Try.func3 (by kernel_rfl) (by kernel_rfl)) (canon3 a b c sp m) (renL_id_of rfl _) (ren_id_of rfl _) h base⟩
  · cases hk
theorem gs12 : GSound C12 := (gs5.add ok22).add ok3s
theorem i64_nat (i : Nat) (h : i < 1000) : IntKind.i64.wrap ((i : Int) + 1) = ((i + 1 : Nat) : Int) := by rw [wrap_id (by omega) (by omega)]; rfl
/-- A state of the loops. -/
def st8 (e : Nat → Int) (x0 : Ex) (vs : List SV) : Ex → List SV → List BO → Prop := fun x vals B => x = x0 ∧ vals = vs ∧ B = [.raw (some (b8 e))]
def f8 (i k j : SV) : List SV := tplF 75 L8 (v8 i k j)
abbrev h8 (e : Nat → Int) : LHeap := [some (b8 e)]
theorem ids8 (e : Nat → Int) : allIds 1 [.raw (some (b8 e))] := ⟨fun _ _ => rfl, trivial⟩
theorem wk8 (e : Nat → Int) {i k j i' k' j' : SV} (h : ValW (v8 i' k' j') (v8 i k j)) (hi : ltAll 1 (svIdsL (v8 i' k' j')) = true) : Weak 0 (f8 i k j) (h8 e) (f8 i' k' j') (h8 e) :=
  tpl_weak (B := [.raw (some (b8 e))]) (R := []) h hi (ids8 e) (Nat.zero_le _)
theorem step8 (e : Nat → Int) {c : Code} {fr : List SV} {hp : LHeap} (x0 : Ex) (vs : List SV) (h : evalC C12 0 0 c fr hp (obsN L8 [false] (seen 75 1 (st8 e x0 vs)))) {K : KC} (hK : K x0 (tplF 75 L8 vs) (h8 e)) : CodeOK Try.prog 0 c fr hp K :=
  (CodeOK.lookN (C := C12) ec gs12 mixed (u := 0) (Nat.zero_le _) h).st fun x vals B h => by
    obtain ⟨rfl, rfl, rfl⟩ := h
    exact hK
theorem jloop (e : Nat → Int) (i k : Nat) (hi : i < 7) (hk : k < 7) : CodeOK Try.prog 0 (.loop c8_7) (f8 (.int .i64 i) (.int .i64 k) (.int .i64 (0 : Nat))) (h8 e) (fun x fr hp => x = .exit 4 ∧ fr = f8 (.int .i64 i) (.int .i64 k) .top ∧ hp = h8 e) := by
  refine CodeOK.monoW (K := fun x fr hp => x = .exit 4 ∧ ∃ j : Nat, fr = f8 (.int .i64 i) (.int .i64 k) (.int .i64 j) ∧ hp = h8 e) ?_ ?_
  · refine CodeOK.loop (fun m fr hp => ∃ j : Nat, j + m = 7 ∧ fr = f8 (.int .i64 i) (.int .i64 k) (.int .i64 j) ∧ hp = h8 e) ?_ (n := 7) ⟨0, rfl, rfl, rfl⟩
    rintro m fr hp ⟨j, hj, rfl, rfl⟩
    by_cases hlt : j < 7
    · refine step8 e .normal (v8 (.int .i64 i) (.int .i64 k) (.int .i64 ((j + 1 : Nat) : Int))) ?_ ⟨m - 1, f8 (.int .i64 i) (.int .i64 k) (.int .i64 ((j + 1 : Nat) : Int)), h8 e, by omega, wk8 e ⟨.inr rfl, .inr rfl, .inr rfl, .inr rfl, .inr rfl, trivial⟩ rfl, j + 1, by omega, rfl, rfl⟩
      have e1 : IntKind.i64.wrap ((i : Int) + k) = ((i + k : Nat) : Int) := by rw [wrap_id (by omega) (by omega)]; rfl
      have e2 : IntKind.i64.wrap ((k : Int) + j) = ((k + j : Nat) : Int) := by rw [wrap_id (by omega) (by omega)]; rfl
      have b1 : ((i + k : Nat) : Int).tmod 7 = ((i + k) % 7 : Nat) := by rw [Int.tmod_eq_emod_of_nonneg (by omega)]; rfl
      have b2 : ((k + j : Nat) : Int).tmod 7 = ((k + j) % 7 : Nat) := by rw [Int.tmod_eq_emod_of_nonneg (by omega)]; rfl
      rw [f8, p8_7, e1, e2, b1, b2, i64_nat j (by omega)]
      have q : ∀ a : Nat, a < 7 → (decide ((0 : Int) ≤ (a : Int)) && decide ((a : Int) < (7 : Int))) = true := fun a h => by simp; omega
      have q' : ∀ a : Nat, a < 7 → (decide ((0 : Nat) + (a : Int).toNat < (7 : Nat)) && true) = true := fun a h => by simp; omega
      rw [q i hi, q' i hi, q k hk, q' k hk, q j hlt, q' j hlt, q _ (Nat.mod_lt _ (by omega)), q' _ (Nat.mod_lt _ (by omega)), q _ (Nat.mod_lt _ (by omega)), q' _ (Nat.mod_lt _ (by omega)), show decide ((j : Int) < 7) = true by simp; omega]
      exact ⟨rfl, rfl, ids8 e, rfl, rfl, rfl⟩
    · refine step8 e (.exit 4) (v8 (.int .i64 i) (.int .i64 k) (.int .i64 j)) ?_ ⟨rfl, j, rfl, rfl⟩
      rw [f8, p8_7, show decide ((j : Int) < 7) = false by simp; omega]
      exact ⟨rfl, rfl, ids8 e, rfl, rfl, rfl⟩
  · rintro x fr hp ⟨rfl, j, rfl, rfl⟩
    exact ⟨f8 (.int .i64 i) (.int .i64 k) .top, h8 e, wk8 e ⟨.inr rfl, .inr rfl, .inr rfl, .inr rfl, .inl rfl, trivial⟩ rfl, rfl, rfl, rfl⟩
theorem kloop (e : Nat → Int) (i : Nat) (hi : i < 7) : CodeOK Try.prog 0 (.loop (.seq c8_5 (.seq (.block 3 (.seq c8_6 (.block 4 (.loop c8_7)))) c8_8))) (f8 (.int .i64 i) (.int .i64 (0 : Nat)) .top) (h8 e) (fun x fr hp => x = .exit 2 ∧ fr = f8 (.int .i64 i) .top .top ∧ hp = h8 e) := by
  refine CodeOK.monoW (K := fun x fr hp => x = .exit 2 ∧ ∃ k : Nat, fr = f8 (.int .i64 i) (.int .i64 k) .top ∧ hp = h8 e) ?_ ?_
  · refine CodeOK.loop (fun m fr hp => ∃ k : Nat, k + m = 7 ∧ fr = f8 (.int .i64 i) (.int .i64 k) .top ∧ hp = h8 e) ?_ (n := 7) ⟨0, rfl, rfl, rfl⟩
    rintro m fr hp ⟨k, hk, rfl, rfl⟩
    by_cases hlt : k < 7
    · refine CodeOK.seq (step8 e .normal (v8 (.int .i64 i) (.int .i64 k) .top) ?_ ?_)
      · rw [f8, p8_5, show decide ((k : Int) < 7) = true by simp; omega]
        exact ⟨rfl, rfl, ids8 e, rfl, rfl, rfl⟩
      refine CodeOK.seq (CodeOK.block (CodeOK.seq (step8 e .normal (v8 (.int .i64 i) (.int .i64 k) (.int .i64 (0 : Nat))) ?_ ?_)))
      · rw [p8_6]
        exact ⟨rfl, rfl, ids8 e, rfl, rfl, rfl⟩
      refine CodeOK.block ((jloop e i k hi hlt).mono ?_)
      rintro x fr hp ⟨rfl, rfl, rfl⟩
      show CodeOK Try.prog 0 c8_8 (f8 (.int .i64 i) (.int .i64 k) .top) (h8 e) _
      refine step8 e .normal (v8 (.int .i64 i) (.int .i64 ((k + 1 : Nat) : Int)) .top) ?_ ⟨m - 1, f8 (.int .i64 i) (.int .i64 ((k + 1 : Nat) : Int)) .top, h8 e, by omega, wk8 e ⟨.inr rfl, .inr rfl, .inr rfl, .inr rfl, .inr rfl, trivial⟩ rfl, k + 1, by omega, rfl, rfl⟩
      rw [f8, p8_8, i64_nat k (by omega)]
      exact ⟨rfl, rfl, ids8 e, rfl, rfl, rfl⟩
    · refine CodeOK.seq (step8 e (.exit 2) (v8 (.int .i64 i) (.int .i64 k) .top) ?_ ⟨rfl, k, rfl, rfl⟩)
      rw [f8, p8_5, show decide ((k : Int) < 7) = false by simp; omega]
      exact ⟨rfl, rfl, ids8 e, rfl, rfl, rfl⟩
  · rintro x fr hp ⟨rfl, k, rfl, rfl⟩
    exact ⟨f8 (.int .i64 i) .top .top, h8 e, wk8 e ⟨.inr rfl, .inr rfl, .inr rfl, .inl rfl, .inr rfl, trivial⟩ rfl, rfl, rfl, rfl⟩
theorem iloop (e : Nat → Int) : CodeOK Try.prog 0 (.loop (.seq c8_3 (.seq (.block 1 (.seq c8_4 (.block 2 (.loop (.seq c8_5 (.seq (.block 3 (.seq c8_6 (.block 4 (.loop c8_7)))) c8_8)))))) c8_9))) (f8 (.int .i64 (0 : Nat)) .top .top) (h8 e) (fun x fr hp => x = .exit 0 ∧ fr = f8 .top .top .top ∧ hp = h8 e) := by
  refine CodeOK.monoW (K := fun x fr hp => x = .exit 0 ∧ ∃ i : Nat, fr = f8 (.int .i64 i) .top .top ∧ hp = h8 e) ?_ ?_
  · refine CodeOK.loop (fun m fr hp => ∃ i : Nat, i + m = 7 ∧ fr = f8 (.int .i64 i) .top .top ∧ hp = h8 e) ?_ (n := 7) ⟨0, rfl, rfl, rfl⟩
    rintro m fr hp ⟨i, hi, rfl, rfl⟩
    by_cases hlt : i < 7
    · refine CodeOK.seq (step8 e .normal (v8 (.int .i64 i) .top .top) ?_ ?_)
      · rw [f8, p8_3, show decide ((i : Int) < 7) = true by simp; omega]
        exact ⟨rfl, rfl, ids8 e, rfl, rfl, rfl⟩
      refine CodeOK.seq (CodeOK.block (CodeOK.seq (step8 e .normal (v8 (.int .i64 i) (.int .i64 (0 : Nat)) .top) ?_ ?_)))
      · rw [p8_4]
        exact ⟨rfl, rfl, ids8 e, rfl, rfl, rfl⟩
      refine CodeOK.block ((kloop e i hlt).mono ?_)
      rintro x fr hp ⟨rfl, rfl, rfl⟩
      show CodeOK Try.prog 0 c8_9 (f8 (.int .i64 i) .top .top) (h8 e) _
      refine step8 e .normal (v8 (.int .i64 ((i + 1 : Nat) : Int)) .top .top) ?_ ⟨m - 1, f8 (.int .i64 ((i + 1 : Nat) : Int)) .top .top, h8 e, by omega, wk8 e ⟨.inr rfl, .inr rfl, .inr rfl, .inr rfl, .inr rfl, trivial⟩ rfl, i + 1, by omega, rfl, rfl⟩
      rw [f8, p8_9, i64_nat i (by omega)]
      exact ⟨rfl, rfl, ids8 e, rfl, rfl, rfl⟩
    · refine CodeOK.seq (step8 e (.exit 0) (v8 (.int .i64 i) .top .top) ?_ ⟨rfl, i, rfl, rfl⟩)
      rw [f8, p8_3, show decide ((i : Int) < 7) = false by simp; omega]
      exact ⟨rfl, rfl, ids8 e, rfl, rfl, rfl⟩
  · rintro x fr hp ⟨rfl, i, rfl, rfl⟩
    exact ⟨f8 .top .top .top, h8 e, wk8 e ⟨.inr rfl, .inr rfl, .inl rfl, .inr rfl, .inr rfl, trivial⟩ rfl, rfl, rfl, rfl⟩
def ends8 : Nat → Int
  | 0 => -9223372036854775808
  | 1 => -1
  | 2 => 0
  | 3 => 1
  | 4 => 2
  | 5 => 3
  | _ => 9223372036854775807
def rows8 : BO := .rows 1 7 true 3 [[.int .i64 (-9223372036854775808)], [.int .i64 (-1)], [.int .i64 0], [.int .i64 1], [.int .i64 2], [.int .i64 3], [.int .i64 9223372036854775807]]
theorem start8 : Weak 0 (f8 .top .top .top) [mkB rows8] (f8 .top .top .top) (h8 ends8) := by
  refine heap_weak (m := 1) rfl (Nat.zero_le _) rfl fun id b1 hb => ?_
  match id, hb with
  | 0, hb =>
    obtain rfl : b8 ends8 = b1 := by simpa [hget] using hb
    refine ⟨_, rfl, rfl, Nat.le_refl _, fun h => h, fun _ => rfl, fun r hr => ?_⟩
    have hr : r < 7 := hr
    match r, hr with
    | 0, _ => exact ⟨.inr rfl, trivial⟩
    | 1, _ => exact ⟨.inr rfl, trivial⟩
    | 2, _ => exact ⟨.inr rfl, trivial⟩
    | 3, _ => exact ⟨.inr rfl, trivial⟩
    | 4, _ => exact ⟨.inr rfl, trivial⟩
    | 5, _ => exact ⟨.inr rfl, trivial⟩
    | 6, _ => exact ⟨.inr rfl, trivial⟩
  | id + 1, hb => simp [hget] at hb
theorem canon8 : Canon Try.prog 8 [] [] fun v _ => v = .bool true := by
  refine CodeOK.body Try.func8 (by kernel_rfl) ?_
  rw [code8]
  refine CodeOK.frontN (C := C12) ec gs12 mixed (u := 0) (len := 75) (L := L8) (M := [true]) [c8_0, c8_1] (Nat.zero_le _) (Q := fun x vals B => x = .normal ∧ vals = v8 .top .top .top ∧ B = [rows8]) ?_ ?_
  · show evalC C12 0 0 _ (enterS 75 []) _ _
    simp only [List.foldr]
    rw [p8a]
    exact ⟨rfl, rfl, ⟨rfl, trivial⟩, rfl, rfl, rfl⟩
  · rintro x vals B ⟨rfl, rfl, rfl⟩
    refine CodeOK.pre start8 (CodeOK.seq (CodeOK.seq (step8 ends8 .normal (v8 (.int .i64 (0 : Nat)) .top .top) ?_ ?_)))
    · rw [f8, p8_2]
      exact ⟨rfl, rfl, ids8 _, rfl, rfl, rfl⟩
    refine CodeOK.block ((iloop ends8).mono ?_)
    rintro x fr hp ⟨rfl, rfl, rfl⟩
    show CodeOK Try.prog 0 c8_10 (f8 .top .top .top) (h8 ends8) (endK Try.prog ([0].map .tmp) _)
    refine CodeOK.fin (C := C12) ec gs12 mixed (u := 0) (M := []) (k := fun v _ => v = .bool true) ?_ fun v hp h => h
    rw [f8, p8_10]
    exact ⟨.inl rfl, rfl⟩
theorem known_any (w : World) : Calls Try.prog 8 #[] w fun e w' => e = .returned (.bool true) ∧ Below w.heap.size w w' :=
  lawOf canon8 (vs := []) RL.nil w
end Go.Proofs.Ytfhkmagpgbcnjaa
