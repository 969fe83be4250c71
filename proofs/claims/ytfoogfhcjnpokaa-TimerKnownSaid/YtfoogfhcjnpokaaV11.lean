/-
  TimerKnown: its loops, by rules.
-/
import Derived.Test.YtfoogfhcjnpokaaV9
import Derived.Test.YtfoogfhcjnpokaaT10
namespace Go.Proofs.Ytfoogfhcjnpokaa
open Go.RowKit
theorem ok5 : SpecOK Try.prog 5 s5 := by
  intro args h base k hk
  unfold s5 at hk
  split at hk
  · rename_i k0 a0 b0 n0 k1 a1 b1 n1 k2 a2 b2 n2 cf lm pr now l m s v f d c mo
    refine ⟨_, [], [], hk, plainOK gs11 Try.func5 (by kernel_rfl) (by kernel_rfl) ?_ rfl rfl h base⟩
    show evalF C11 64 Try.f5 [fc ⟨k0, a0, b0, n0, k1, a1, b1, n1, k2, a2, b2, n2, cf, lm, pr, now⟩, .agg [.int .i64 l, .int .i64 m, .int .i64 s, .int .i64 v, .int .i64 f, .int .i64 d, .int .i64 c, .int .i64 mo]] [] _
    rw [t5 _ l m s v f d c mo (fun v => v = .bool true)]
    rintro x rfl y hy
    rw [← hy]
    simp
  · cases hk
theorem gs13 : GSound C13 := gs11.add ok5
theorem i64n (i : Nat) (h : i < 1000000) : IntKind.i64.wrap ((i : Int) + 1) = ((i + 1 : Nat) : Int) := by rw [wrap_id (by omega) (by omega)]; rfl
section
attribute [local irreducible] evalC
def at4 (x0 : Ex) (vs : List SV) (B0 : List BO) : Ex → List SV → List BO → Prop := fun x vals B => x = x0 ∧ vals = vs ∧ B = B0
theorem step4 {M : List Bool} (x0 : Ex) (vs : List SV) (B0 : List BO) {u : Nat} {c : Code} {fr : List SV} {hp : LHeap} (h : evalC C13 u 0 c fr hp (obsN L4 M (seen 117 M.length (at4 x0 vs B0)))) {K : KC} (hK : K x0 (tplF 117 L4 vs) (B0.map mkB)) : CodeOK Try.prog 0 c fr hp K :=
  (CodeOK.lookN (C := C13) ec gs13 mixed (u := u) (Nat.zero_le _) h).st fun x vals B h => by
    obtain ⟨rfl, rfl, rfl⟩ := h
    exact hK
theorem ids4 (e : Nat → Int) : allIds 1 (h4 e) := ⟨fun _ _ => rfl, trivial⟩
abbrev ni (n : Nat) : SV := .int .i64 n
abbrev F4 (i k : SV) : List SV := tplF 117 L4 (v4 i k)
abbrev M4 (e : Nat → Int) : LHeap := (h4 e).map mkB
theorem wk4 (e : Nat → Int) {i k i' k' : SV} (h : ValW (v4 i' k') (v4 i k)) (hi : ltAll 1 (svIdsL (v4 i' k')) = true) : Weak 0 (F4 i k) (M4 e) (F4 i' k') (M4 e) :=
  tpl_weak (B := h4 e) (R := []) h hi (ids4 e) (Nat.zero_le _)
theorem kloop (e : Nat → Int) (i : Nat) (hi : i < 10) {K : KC} (hK : K (.exit 2) (F4 (ni i) .top) (M4 e)) : CodeOK Try.prog 0 (.loop (.seq c4_5 (.seq (.block 3 (.seq c4_6 (.block 4 (.loop c4_7)))) c4_8))) (F4 (ni i) (ni 0)) (M4 e) K := by
  refine CodeOK.count (n := 10) (F := fun k => F4 (ni i) (ni k)) (H := fun _ => M4 e) (fun k hk => ?_) ?_ hK
  · refine CodeOK.seq (step4 (M := [false]) (u := 0) .normal (v4 (ni i) (ni k)) (h4 e) ?_ ?_)
    · rw [p4_5, cb (show (k : Int) < 10 by omega)]
      exact ⟨rfl, rfl, ids4 e, rfl, rfl, rfl⟩
    refine CodeOK.seq (CodeOK.block (step4 (M := [false]) (u := 64) .normal (v4 (ni i) (ni k)) (h4 e) ?_ ?_))
    · rw [p4_6]
      simp only [cond_true, Nat.zero_add, Int.toNat_natCast, cb (show (i : Int) < 10 by omega), cb hi, cb (show (k : Int) < 10 by omega), cb hk, Bool.and_true]
      exact ⟨rfl, rfl, ids4 e, rfl, rfl, rfl⟩
    show CodeOK Try.prog 0 c4_8 (F4 (ni i) (ni k)) (M4 e) _
    refine step4 (M := [false]) (u := 0) .normal (v4 (ni i) (ni (k + 1 : Nat))) (h4 e) ?_ ⟨rfl, wk4 e ⟨.inr rfl, .inr rfl, .inr rfl, .inr rfl, trivial⟩ rfl⟩
    rw [p4_8, i64n k (by omega)]
    exact ⟨rfl, rfl, ids4 e, rfl, rfl, rfl⟩
  · refine CodeOK.seq (step4 (M := [false]) (u := 0) (.exit 2) (v4 (ni i) (ni 10)) (h4 e) ?_ ⟨rfl, wk4 e ⟨.inr rfl, .inr rfl, .inr rfl, .inl rfl, trivial⟩ rfl⟩)
    rw [p4_5]
    exact ⟨rfl, rfl, ids4 e, rfl, rfl, rfl⟩
theorem iloop (e : Nat → Int) {K : KC} (hK : K (.exit 0) (F4 .top .top) (M4 e)) : CodeOK Try.prog 0 (.loop (.seq c4_3 (.seq (.block 1 (.seq c4_4 (.block 2 (.loop (.seq c4_5 (.seq (.block 3 (.seq c4_6 (.block 4 (.loop c4_7)))) c4_8)))))) c4_9))) (F4 (ni 0) .top) (M4 e) K := by
  refine CodeOK.count (n := 10) (F := fun i => F4 (ni i) .top) (H := fun _ => M4 e) (fun i hi => ?_) ?_ hK
  · refine CodeOK.seq (step4 (M := [false]) (u := 0) .normal (v4 (ni i) .top) (h4 e) ?_ ?_)
    · rw [p4_3, cb (show (i : Int) < 10 by omega)]
      exact ⟨rfl, rfl, ids4 e, rfl, rfl, rfl⟩
    refine CodeOK.seq (CodeOK.block (CodeOK.seq (step4 (M := [false]) (u := 0) .normal (v4 (ni i) (ni 0)) (h4 e) ?_ ?_)))
    · rw [p4_4]
      exact ⟨rfl, rfl, ids4 e, rfl, rfl, rfl⟩
    refine CodeOK.block (kloop e i hi ?_)
    show CodeOK Try.prog 0 c4_9 (F4 (ni i) .top) (M4 e) _
    refine step4 (M := [false]) (u := 0) .normal (v4 (ni (i + 1 : Nat)) .top) (h4 e) ?_ ⟨rfl, wk4 e ⟨.inr rfl, .inr rfl, .inr rfl, .inr rfl, trivial⟩ rfl⟩
    rw [p4_9, i64n i (by omega)]
    exact ⟨rfl, rfl, ids4 e, rfl, rfl, rfl⟩
  · refine CodeOK.seq (step4 (M := [false]) (u := 0) (.exit 0) (v4 (ni 10) .top) (h4 e) ?_ ⟨rfl, wk4 e ⟨.inr rfl, .inr rfl, .inl rfl, .inr rfl, trivial⟩ rfl⟩)
    rw [p4_3]
    exact ⟨rfl, rfl, ids4 e, rfl, rfl, rfl⟩
def ends4 : List Int := [-9223372036854775808, -2, -1, 0, 1, 256, 257, 9007199254740991, 9007199254740992, 9223372036854775807]
set_option maxRecDepth 100000 in
theorem start4 : Weak 0 (F4 .top .top) ([BO.rows 1 10 true 3 (ends4.map fun n => [.int .i64 n])].map mkB) (F4 .top .top) (M4 fun r => ends4.getD r 0) := by
  refine heap_weak (m := 1) rfl (Nat.zero_le _) rfl fun id b1 hb => ?_
  match id, hb with
  | 0, hb =>
    have hb : some (bE fun r => ends4.getD r 0) = some b1 := hb
    obtain rfl := Option.some.inj hb
    refine ⟨_, rfl, WB.of_rows rfl (Nat.le_refl _) (fun h => h) (fun _ => rfl) fun r hr => ?_⟩
    have hr : r < 10 := hr
    match r, hr with
    | 0, _ => exact ⟨rfl, rfl⟩
    | 1, _ => exact ⟨rfl, rfl⟩
    | 2, _ => exact ⟨rfl, rfl⟩
    | 3, _ => exact ⟨rfl, rfl⟩
    | 4, _ => exact ⟨rfl, rfl⟩
    | 5, _ => exact ⟨rfl, rfl⟩
    | 6, _ => exact ⟨rfl, rfl⟩
    | 7, _ => exact ⟨rfl, rfl⟩
    | 8, _ => exact ⟨rfl, rfl⟩
    | 9, _ => exact ⟨rfl, rfl⟩
  | id + 1, hb => exact nomatch (show (none : Option Blk) = some b1 from hb)
set_option maxRecDepth 100000 in
theorem canon4 : Canon Try.prog 4 [] [] fun v _ => v = .bool true := by
  refine CodeOK.body Try.func4 (by kernel_rfl) ?_
  rw [code4]
  refine CodeOK.frontN (C := C13) ec gs13 mixed (u := 0) (len := 117) (L := L4) (M := [true]) [c4_0, c4_1] (Nat.zero_le _) (Q := at4 .normal (v4 .top .top) [.rows 1 10 true 3 (ends4.map fun n => [.int .i64 n])]) ?_ ?_
  · show evalC C13 0 0 (.seq c4_0 (.seq c4_1 .skip)) (enterS 117 []) _ _
    rw [p4a]
    exact ⟨rfl, rfl, ⟨rfl, trivial⟩, rfl, rfl, rfl⟩
  · rintro x vals B ⟨rfl, rfl, rfl⟩
    refine CodeOK.pre start4 (CodeOK.seq (CodeOK.seq (step4 (M := [false]) (u := 0) .normal (v4 (ni 0) .top) (h4 fun r => ends4.getD r 0) ?_ ?_)))
    · rw [p4_2]
      exact ⟨rfl, rfl, ids4 _, rfl, rfl, rfl⟩
    refine CodeOK.block (iloop _ ?_)
    show CodeOK Try.prog 0 c4_10 (F4 .top .top) (M4 _) (endK Try.prog ([0].map .tmp) _)
    refine CodeOK.fin (C := C13) ec gs13 mixed (u := 0) (M := []) (k := fun v _ => v = .bool true) ?_ fun v hp h => h
    rw [p4_10]
    exact ⟨.inl rfl, rfl⟩
end
theorem known_any (w : World) : Calls Try.prog 4 #[] w fun e w' => e = .returned (.bool true) ∧ Below w.heap.size w w' :=
  lawOf canon4 (vs := []) RL.nil w
end Go.Proofs.Ytfoogfhcjnpokaa
