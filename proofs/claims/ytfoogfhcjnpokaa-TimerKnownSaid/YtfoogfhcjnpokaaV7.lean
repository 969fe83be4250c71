/-
  Chapter 18 by the engine: the document's Pick.
-/
import Derived.Test.YtfoogfhcjnpokaaV6
import Derived.Test.YtfoogfhcjnpokaaT7
namespace Go.Proofs.Ytfoogfhcjnpokaa
open Go.RowKit

theorem ok35 : SpecOK Try.prog 35 s35 := by
  intro args h base k hk
  unfold s35 at hk
  split at hk
  · rename_i l m s v f i d c mo
    refine ⟨_, [], [], hk, plainOK gs4 Try.func35 (by kernel_rfl) (by kernel_rfl) ?_ rfl rfl h base⟩
    show evalF C4 64 Try.f35 [rtt l m s v f, .int .i64 i, .agg [.int .i64 d, .int .i64 c, .int .i64 mo]] [] _
    rw [t35 l m s v f i d c mo (fun v => v = _)]
    rfl
  · cases hk
theorem gs7 : GSound C7 := gs5.add ok35
theorem condSplit {c : Bool} {p q : Prop} (h1 : c = true → p) (h2 : c = false → q) : bif c then p else q := by
  cases c
  · exact h2 rfl
  · exact h1 rfl
def onD (c : Bool) (d x : D3) : D3 := if c then stepD d x else d
theorem best_on (c0 c1 c2 : Bool) (x0 x1 x2 : D3) : bestD (onL c0 x0 ++ (onL c1 x1 ++ onL c2 x2)) = onD c2 (onD c1 (onD c0 noneD x0) x1) x2 := by
  cases c0 <;> cases c1 <;> cases c2 <;> rfl
section
attribute [local irreducible] evalC
variable (F : Fc) (l m s v f d c mo : Int)
abbrev f17 (i n j : SV) : List SV := tplF 146 L17 (v17 i n j)
abbrev m17 (x : D3) : LHeap := (h17 F l m s v f d c mo x).map mkB
theorem ids17 (x : D3) : allIds 5 (h17 F l m s v f d c mo x) := ⟨rfl, rfl, rfl, rfl, rfl, trivial⟩
def at17 (x0 : Ex) (i n j : SV) (x : D3) : Ex → List SV → List BO → Prop := fun k vals B => k = x0 ∧ vals = v17 i n j ∧ B = h17 F l m s v f d c mo x
theorem step17 {i n j : SV} {x : D3} (x0 : Ex) {co : Code} {fr : List SV} {hp : LHeap} (h : evalC C7 0 0 co fr hp (obsN L17 M17 (seen 146 5 (at17 F l m s v f d c mo x0 i n j x)))) {K : KC} (hK : K x0 (f17 i n j) (m17 F l m s v f d c mo x)) : CodeOK Try.prog 0 co fr hp K :=
  (CodeOK.lookN (C := C7) ec gs7 mixed (u := 0) (Nat.zero_le _) h).st fun x vals B h => by
    obtain ⟨rfl, rfl, rfl⟩ := h
    exact hK
theorem wk17 (x : D3) {i n j i' n' j' : SV} (h : ValW (v17 i' n' j') (v17 i n j)) (hi : ltAll 5 (svIdsL (v17 i' n' j')) = true) : Weak 0 (f17 i n j) (m17 F l m s v f d c mo x) (f17 i' n' j') (m17 F l m s v f d c mo x) :=
  tpl_weak (B := h17 F l m s v f d c mo x) (R := []) h hi (ids17 F l m s v f d c mo x) (Nat.zero_le _)
set_option maxRecDepth 100000 in
theorem loss0 (x : D3) : evalC C7 0 0 c17_4b (f17 (.int .i64 0) .top .top) (m17 F l m s v f d c mo x) (obsN L17 M17 (seen 146 5 (at17 F l m s v f d c mo .normal (.int .i64 1) .top .top (onD (F.a0 != -1) x (1, 0, F.a0))))) := by
  obtain ⟨x, y, z⟩ := x
  rw [p17b0]
  cases h1 : (F.a0 != -1) with
  | false => exact ⟨rfl, rfl, ids17 F l m s v f d c mo (x, y, z), rfl, rfl, rfl⟩
  | true =>
    rw [cond_true]
    cases h2 : (z == -1) with
    | true =>
      have e : onD true (x, y, z) (1, 0, F.a0) = (1, 0, F.a0) := by simp [onD, stepD, h2]
      rw [e]
      exact ⟨rfl, rfl, ids17 F l m s v f d c mo (1, 0, F.a0), rfl, rfl, rfl⟩
    | false =>
      by_cases h3 : F.a0 < z
      · have e : onD true (x, y, z) (1, 0, F.a0) = (1, 0, F.a0) := by simp [onD, stepD, h3]
        rw [e, cb h3]
        exact ⟨rfl, rfl, ids17 F l m s v f d c mo (1, 0, F.a0), rfl, rfl, rfl⟩
      · have e : onD true (x, y, z) (1, 0, F.a0) = (x, y, z) := by simp [onD, stepD, h2, h3]
        rw [e, cf h3]
        exact ⟨rfl, rfl, ids17 F l m s v f d c mo (x, y, z), rfl, rfl, rfl⟩
set_option maxRecDepth 100000 in
theorem loss1 (x : D3) : evalC C7 0 0 c17_4b (f17 (.int .i64 1) .top .top) (m17 F l m s v f d c mo x) (obsN L17 M17 (seen 146 5 (at17 F l m s v f d c mo .normal (.int .i64 2) .top .top (onD (F.a1 != -1) x (1, 1, F.a1))))) := by
  obtain ⟨x, y, z⟩ := x
  rw [p17b1]
  cases h1 : (F.a1 != -1) with
  | false => exact ⟨rfl, rfl, ids17 F l m s v f d c mo (x, y, z), rfl, rfl, rfl⟩
  | true =>
    rw [cond_true]
    cases h2 : (z == -1) with
    | true =>
      have e : onD true (x, y, z) (1, 1, F.a1) = (1, 1, F.a1) := by simp [onD, stepD, h2]
      rw [e]
      exact ⟨rfl, rfl, ids17 F l m s v f d c mo (1, 1, F.a1), rfl, rfl, rfl⟩
    | false =>
      by_cases h3 : F.a1 < z
      · have e : onD true (x, y, z) (1, 1, F.a1) = (1, 1, F.a1) := by simp [onD, stepD, h3]
        rw [e, cb h3]
        exact ⟨rfl, rfl, ids17 F l m s v f d c mo (1, 1, F.a1), rfl, rfl, rfl⟩
      · have e : onD true (x, y, z) (1, 1, F.a1) = (x, y, z) := by simp [onD, stepD, h2, h3]
        rw [e, cf h3]
        exact ⟨rfl, rfl, ids17 F l m s v f d c mo (x, y, z), rfl, rfl, rfl⟩
set_option maxRecDepth 100000 in
theorem loss2 (x : D3) : evalC C7 0 0 c17_4b (f17 (.int .i64 2) .top .top) (m17 F l m s v f d c mo x) (obsN L17 M17 (seen 146 5 (at17 F l m s v f d c mo .normal (.int .i64 3) .top .top (onD (F.a2 != -1) x (1, 2, F.a2))))) := by
  obtain ⟨x, y, z⟩ := x
  rw [p17b2]
  cases h1 : (F.a2 != -1) with
  | false => exact ⟨rfl, rfl, ids17 F l m s v f d c mo (x, y, z), rfl, rfl, rfl⟩
  | true =>
    rw [cond_true]
    cases h2 : (z == -1) with
    | true =>
      have e : onD true (x, y, z) (1, 2, F.a2) = (1, 2, F.a2) := by simp [onD, stepD, h2]
      rw [e]
      exact ⟨rfl, rfl, ids17 F l m s v f d c mo (1, 2, F.a2), rfl, rfl, rfl⟩
    | false =>
      by_cases h3 : F.a2 < z
      · have e : onD true (x, y, z) (1, 2, F.a2) = (1, 2, F.a2) := by simp [onD, stepD, h3]
        rw [e, cb h3]
        exact ⟨rfl, rfl, ids17 F l m s v f d c mo (1, 2, F.a2), rfl, rfl, rfl⟩
      · have e : onD true (x, y, z) (1, 2, F.a2) = (x, y, z) := by simp [onD, stepD, h2, h3]
        rw [e, cf h3]
        exact ⟨rfl, rfl, ids17 F l m s v f d c mo (x, y, z), rfl, rfl, rfl⟩
set_option maxRecDepth 100000 in
theorem probb0 (x y z : Int) (n : Int) (hn : 0 ≤ n ∧ n ≤ 1000) (hm : 0 ≤ F.n0 ∧ F.n0 ≤ 256) : evalC C7 0 0 c17_7b (f17 .top (.int .i64 n) (.int .i64 0)) (m17 F l m s v f d c mo (x, y, z)) (obsN L17 M17 (seen 146 5 (at17 F l m s v f d c mo .normal .top (.int .i64 (n + F.n0)) (.int .i64 1) (onD (u0 F) (x, y, z) (2, 0, dueV F.b0 (waitV l m s v f d c mo 0)))))) := by
  rw [p17d0, wrap_id (n := n + F.n0) (by omega) (by omega)]
  by_cases h1 : F.n0 = 0
  · rw [show (F.n0 == 0) = true by simp [h1], cond_true, show u0 F = false by simp [u0, h1]]
    exact ⟨rfl, rfl, ids17 F l m s v f d c mo (x, y, z), rfl, rfl, rfl⟩
  rw [show (F.n0 == 0) = false by simp [h1], cond_false]
  by_cases h2 : F.b0 = -1
  · rw [show (F.b0 == -1) = true by simp [h2], cond_true, show u0 F = false by simp [u0, h2]]
    exact ⟨rfl, rfl, ids17 F l m s v f d c mo (x, y, z), rfl, rfl, rfl⟩
  rw [show (F.b0 == -1) = false by simp [h2], cond_false]
  rw [show u0 F = true by simp [u0, h2]; omega]
  cases h3 : (z == -1) with
  | true =>
    have e : onD true (x, y, z) (2, 0, dueV F.b0 (waitV l m s v f d c mo 0)) = (2, 0, dueV F.b0 (waitV l m s v f d c mo 0)) := by simp [onD, stepD, h3]
    rw [e]
    exact ⟨rfl, rfl, ids17 F l m s v f d c mo (2, 0, dueV F.b0 (waitV l m s v f d c mo 0)), rfl, rfl, rfl⟩
  | false =>
    by_cases h4 : dueV F.b0 (waitV l m s v f d c mo 0) < z
    · have e : onD true (x, y, z) (2, 0, dueV F.b0 (waitV l m s v f d c mo 0)) = (2, 0, dueV F.b0 (waitV l m s v f d c mo 0)) := by simp [onD, stepD, h4]
      rw [e, cb h4]
      exact ⟨rfl, rfl, ids17 F l m s v f d c mo (2, 0, dueV F.b0 (waitV l m s v f d c mo 0)), rfl, rfl, rfl⟩
    · have e : onD true (x, y, z) (2, 0, dueV F.b0 (waitV l m s v f d c mo 0)) = (x, y, z) := by simp [onD, stepD, h3, h4]
      rw [e, cf h4]
      exact ⟨rfl, rfl, ids17 F l m s v f d c mo (x, y, z), rfl, rfl, rfl⟩
set_option maxRecDepth 100000 in
theorem probb1 (x y z : Int) (n : Int) (hn : 0 ≤ n ∧ n ≤ 1000) (hm : 0 ≤ F.n1 ∧ F.n1 ≤ 256) : evalC C7 0 0 c17_7b (f17 .top (.int .i64 n) (.int .i64 1)) (m17 F l m s v f d c mo (x, y, z)) (obsN L17 M17 (seen 146 5 (at17 F l m s v f d c mo .normal .top (.int .i64 (n + F.n1)) (.int .i64 2) (onD (u1 F) (x, y, z) (2, 1, dueV F.b1 (waitV l m s v f d c mo 1)))))) := by
  rw [p17d1, wrap_id (n := n + F.n1) (by omega) (by omega)]
  by_cases h1 : F.n1 = 0
  · rw [show (F.n1 == 0) = true by simp [h1], cond_true, show u1 F = false by simp [u1, h1]]
    exact ⟨rfl, rfl, ids17 F l m s v f d c mo (x, y, z), rfl, rfl, rfl⟩
  rw [show (F.n1 == 0) = false by simp [h1], cond_false]
  by_cases h2 : F.b1 = -1
  · rw [show (F.b1 == -1) = true by simp [h2], cond_true, show u1 F = false by simp [u1, h2]]
    exact ⟨rfl, rfl, ids17 F l m s v f d c mo (x, y, z), rfl, rfl, rfl⟩
  rw [show (F.b1 == -1) = false by simp [h2], cond_false]
  rw [show u1 F = true by simp [u1, h2]; omega]
  cases h3 : (z == -1) with
  | true =>
    have e : onD true (x, y, z) (2, 1, dueV F.b1 (waitV l m s v f d c mo 1)) = (2, 1, dueV F.b1 (waitV l m s v f d c mo 1)) := by simp [onD, stepD, h3]
    rw [e]
    exact ⟨rfl, rfl, ids17 F l m s v f d c mo (2, 1, dueV F.b1 (waitV l m s v f d c mo 1)), rfl, rfl, rfl⟩
  | false =>
    by_cases h4 : dueV F.b1 (waitV l m s v f d c mo 1) < z
    · have e : onD true (x, y, z) (2, 1, dueV F.b1 (waitV l m s v f d c mo 1)) = (2, 1, dueV F.b1 (waitV l m s v f d c mo 1)) := by simp [onD, stepD, h4]
      rw [e, cb h4]
      exact ⟨rfl, rfl, ids17 F l m s v f d c mo (2, 1, dueV F.b1 (waitV l m s v f d c mo 1)), rfl, rfl, rfl⟩
    · have e : onD true (x, y, z) (2, 1, dueV F.b1 (waitV l m s v f d c mo 1)) = (x, y, z) := by simp [onD, stepD, h3, h4]
      rw [e, cf h4]
      exact ⟨rfl, rfl, ids17 F l m s v f d c mo (x, y, z), rfl, rfl, rfl⟩
set_option maxRecDepth 100000 in
theorem probb2 (x y z : Int) (n : Int) (hn : 0 ≤ n ∧ n ≤ 1000) (hm : 0 ≤ F.n2 ∧ F.n2 ≤ 256) : evalC C7 0 0 c17_7b (f17 .top (.int .i64 n) (.int .i64 2)) (m17 F l m s v f d c mo (x, y, z)) (obsN L17 M17 (seen 146 5 (at17 F l m s v f d c mo .normal .top (.int .i64 (n + F.n2)) (.int .i64 3) (onD (u2 F) (x, y, z) (2, 2, dueV F.b2 (waitV l m s v f d c mo 2)))))) := by
  rw [p17d2, wrap_id (n := n + F.n2) (by omega) (by omega)]
  by_cases h1 : F.n2 = 0
  · rw [show (F.n2 == 0) = true by simp [h1], cond_true, show u2 F = false by simp [u2, h1]]
    exact ⟨rfl, rfl, ids17 F l m s v f d c mo (x, y, z), rfl, rfl, rfl⟩
  rw [show (F.n2 == 0) = false by simp [h1], cond_false]
  by_cases h2 : F.b2 = -1
  · rw [show (F.b2 == -1) = true by simp [h2], cond_true, show u2 F = false by simp [u2, h2]]
    exact ⟨rfl, rfl, ids17 F l m s v f d c mo (x, y, z), rfl, rfl, rfl⟩
  rw [show (F.b2 == -1) = false by simp [h2], cond_false]
  show bif !F.cf then _ else _
  refine condSplit (fun h0 => ?_) fun h0 => ?_
  · rw [show u2 F = false by simp at h0; simp [u2, h0]]
    exact ⟨rfl, rfl, ids17 F l m s v f d c mo (x, y, z), rfl, rfl, rfl⟩
  · rw [show u2 F = true by simp at h0; simp [u2, h0, h2]; omega]
    cases h3 : (z == -1) with
    | true =>
      have e : onD true (x, y, z) (2, 2, dueV F.b2 (waitV l m s v f d c mo 2)) = (2, 2, dueV F.b2 (waitV l m s v f d c mo 2)) := by simp [onD, stepD, h3]
      rw [e]
      exact ⟨rfl, rfl, ids17 F l m s v f d c mo (2, 2, dueV F.b2 (waitV l m s v f d c mo 2)), rfl, rfl, rfl⟩
    | false =>
      by_cases h4 : dueV F.b2 (waitV l m s v f d c mo 2) < z
      · have e : onD true (x, y, z) (2, 2, dueV F.b2 (waitV l m s v f d c mo 2)) = (2, 2, dueV F.b2 (waitV l m s v f d c mo 2)) := by simp [onD, stepD, h4]
        rw [e, cb h4]
        exact ⟨rfl, rfl, ids17 F l m s v f d c mo (2, 2, dueV F.b2 (waitV l m s v f d c mo 2)), rfl, rfl, rfl⟩
      · have e : onD true (x, y, z) (2, 2, dueV F.b2 (waitV l m s v f d c mo 2)) = (x, y, z) := by simp [onD, stepD, h3, h4]
        rw [e, cf h4]
        exact ⟨rfl, rfl, ids17 F l m s v f d c mo (x, y, z), rfl, rfl, rfl⟩
set_option maxRecDepth 100000 in
theorem prob0 (x : D3) (n : Int) (hn : 0 ≤ n ∧ n ≤ 1000) (hm : 0 ≤ F.n0 ∧ F.n0 ≤ 256) : evalC C7 0 0 c17_7b (f17 .top (.int .i64 n) (.int .i64 0)) (m17 F l m s v f d c mo x) (obsN L17 M17 (seen 146 5 (at17 F l m s v f d c mo .normal .top (.int .i64 (n + F.n0)) (.int .i64 1) (onD (u0 F) x (2, 0, dueV F.b0 (waitV l m s v f d c mo 0)))))) :=
  probb0 F l m s v f d c mo x.1 x.2.1 x.2.2 n hn hm
set_option maxRecDepth 100000 in
theorem prob1 (x : D3) (n : Int) (hn : 0 ≤ n ∧ n ≤ 1000) (hm : 0 ≤ F.n1 ∧ F.n1 ≤ 256) : evalC C7 0 0 c17_7b (f17 .top (.int .i64 n) (.int .i64 1)) (m17 F l m s v f d c mo x) (obsN L17 M17 (seen 146 5 (at17 F l m s v f d c mo .normal .top (.int .i64 (n + F.n1)) (.int .i64 2) (onD (u1 F) x (2, 1, dueV F.b1 (waitV l m s v f d c mo 1)))))) :=
  probb1 F l m s v f d c mo x.1 x.2.1 x.2.2 n hn hm
set_option maxRecDepth 100000 in
theorem prob2 (x : D3) (n : Int) (hn : 0 ≤ n ∧ n ≤ 1000) (hm : 0 ≤ F.n2 ∧ F.n2 ≤ 256) : evalC C7 0 0 c17_7b (f17 .top (.int .i64 n) (.int .i64 2)) (m17 F l m s v f d c mo x) (obsN L17 M17 (seen 146 5 (at17 F l m s v f d c mo .normal .top (.int .i64 (n + F.n2)) (.int .i64 3) (onD (u2 F) x (2, 2, dueV F.b2 (waitV l m s v f d c mo 2)))))) :=
  probb2 F l m s v f d c mo x.1 x.2.1 x.2.2 n hn hm
set_option maxRecDepth 100000 in
theorem lossLoop  {K : KC} (hK : K (.exit 0) (f17 .top .top .top) (m17 F l m s v f d c mo (onD (F.a2 != -1) (onD (F.a1 != -1) (onD (F.a0 != -1) noneD (1, 0, F.a0)) (1, 1, F.a1)) (1, 2, F.a2)))) : CodeOK Try.prog 0 (.loop c17_4b) (f17 (.int .i64 0) .top .top) (m17 F l m s v f d c mo noneD) K := by
  refine CodeOK.monoW (K := fun x fr hp => x = .exit 0 ∧ fr = (f17 (.int .i64 3) .top .top) ∧ hp = m17 F l m s v f d c mo (onD (F.a2 != -1) (onD (F.a1 != -1) (onD (F.a0 != -1) noneD (1, 0, F.a0)) (1, 1, F.a1)) (1, 2, F.a2))) ?_ ?_
  · refine CodeOK.loop (fun k fr hp => (k = 3 ∧ fr = (f17 (.int .i64 0) .top .top) ∧ hp = m17 F l m s v f d c mo noneD) ∨ (k = 2 ∧ fr = (f17 (.int .i64 1) .top .top) ∧ hp = m17 F l m s v f d c mo (onD (F.a0 != -1) noneD (1, 0, F.a0))) ∨ (k = 1 ∧ fr = (f17 (.int .i64 2) .top .top) ∧ hp = m17 F l m s v f d c mo (onD (F.a1 != -1) (onD (F.a0 != -1) noneD (1, 0, F.a0)) (1, 1, F.a1))) ∨ (k = 0 ∧ fr = (f17 (.int .i64 3) .top .top) ∧ hp = m17 F l m s v f d c mo (onD (F.a2 != -1) (onD (F.a1 != -1) (onD (F.a0 != -1) noneD (1, 0, F.a0)) (1, 1, F.a1)) (1, 2, F.a2)))) ?_ (n := 3) (.inl ⟨rfl, rfl, rfl⟩)
    rintro k fr hp (⟨rfl, rfl, rfl⟩ | ⟨rfl, rfl, rfl⟩ | ⟨rfl, rfl, rfl⟩ | ⟨rfl, rfl, rfl⟩)
    · exact step17 F l m s v f d c mo .normal (loss0 F l m s v f d c mo _) ⟨2, _, _, by omega, wk17 F l m s v f d c mo _ ⟨.inr rfl, .inr rfl, .inr rfl, .inr rfl, .inr rfl, .inr rfl, .inr rfl, .inr rfl, trivial⟩ rfl, .inr (.inl ⟨rfl, rfl, rfl⟩)⟩
    · exact step17 F l m s v f d c mo .normal (loss1 F l m s v f d c mo _) ⟨1, _, _, by omega, wk17 F l m s v f d c mo _ ⟨.inr rfl, .inr rfl, .inr rfl, .inr rfl, .inr rfl, .inr rfl, .inr rfl, .inr rfl, trivial⟩ rfl, .inr (.inr (.inl ⟨rfl, rfl, rfl⟩))⟩
    · exact step17 F l m s v f d c mo .normal (loss2 F l m s v f d c mo _) ⟨0, _, _, by omega, wk17 F l m s v f d c mo _ ⟨.inr rfl, .inr rfl, .inr rfl, .inr rfl, .inr rfl, .inr rfl, .inr rfl, .inr rfl, trivial⟩ rfl, .inr (.inr (.inr (⟨rfl, rfl, rfl⟩)))⟩
    · refine step17 F l m s v f d c mo (.exit 0) ?_ ⟨rfl, rfl, rfl⟩
      rw [p17b3]
      exact ⟨rfl, rfl, ids17 F l m s v f d c mo _, rfl, rfl, rfl⟩
  · rintro x fr hp ⟨rfl, rfl, rfl⟩
    exact ⟨_, _, wk17 F l m s v f d c mo _ (i' := .top) (n' := .top) (j' := .top) ⟨.inr rfl, .inr rfl, .inr rfl, .inr rfl, .inr rfl, .inl rfl, .inr rfl, .inr rfl, trivial⟩ rfl, hK⟩
set_option maxRecDepth 100000 in
theorem probLoop (h0 : 0 ≤ F.n0 ∧ F.n0 ≤ 256) (h1 : 0 ≤ F.n1 ∧ F.n1 ≤ 256) (h2 : 0 ≤ F.n2 ∧ F.n2 ≤ 256) {K : KC} (hK : K (.exit 2) (f17 .top (.int .i64 (0 + F.n0 + F.n1 + F.n2)) .top) (m17 F l m s v f d c mo (onD (u2 F) (onD (u1 F) (onD (u0 F) noneD (2, 0, dueV F.b0 (waitV l m s v f d c mo 0))) (2, 1, dueV F.b1 (waitV l m s v f d c mo 1))) (2, 2, dueV F.b2 (waitV l m s v f d c mo 2))))) : CodeOK Try.prog 0 (.loop c17_7b) (f17 .top (.int .i64 (0)) (.int .i64 0)) (m17 F l m s v f d c mo noneD) K := by
  refine CodeOK.monoW (K := fun x fr hp => x = .exit 2 ∧ fr = (f17 .top (.int .i64 (0 + F.n0 + F.n1 + F.n2)) (.int .i64 3)) ∧ hp = m17 F l m s v f d c mo (onD (u2 F) (onD (u1 F) (onD (u0 F) noneD (2, 0, dueV F.b0 (waitV l m s v f d c mo 0))) (2, 1, dueV F.b1 (waitV l m s v f d c mo 1))) (2, 2, dueV F.b2 (waitV l m s v f d c mo 2)))) ?_ ?_
  · refine CodeOK.loop (fun k fr hp => (k = 3 ∧ fr = (f17 .top (.int .i64 (0)) (.int .i64 0)) ∧ hp = m17 F l m s v f d c mo noneD) ∨ (k = 2 ∧ fr = (f17 .top (.int .i64 (0 + F.n0)) (.int .i64 1)) ∧ hp = m17 F l m s v f d c mo (onD (u0 F) noneD (2, 0, dueV F.b0 (waitV l m s v f d c mo 0)))) ∨ (k = 1 ∧ fr = (f17 .top (.int .i64 (0 + F.n0 + F.n1)) (.int .i64 2)) ∧ hp = m17 F l m s v f d c mo (onD (u1 F) (onD (u0 F) noneD (2, 0, dueV F.b0 (waitV l m s v f d c mo 0))) (2, 1, dueV F.b1 (waitV l m s v f d c mo 1)))) ∨ (k = 0 ∧ fr = (f17 .top (.int .i64 (0 + F.n0 + F.n1 + F.n2)) (.int .i64 3)) ∧ hp = m17 F l m s v f d c mo (onD (u2 F) (onD (u1 F) (onD (u0 F) noneD (2, 0, dueV F.b0 (waitV l m s v f d c mo 0))) (2, 1, dueV F.b1 (waitV l m s v f d c mo 1))) (2, 2, dueV F.b2 (waitV l m s v f d c mo 2))))) ?_ (n := 3) (.inl ⟨rfl, rfl, rfl⟩)
    rintro k fr hp (⟨rfl, rfl, rfl⟩ | ⟨rfl, rfl, rfl⟩ | ⟨rfl, rfl, rfl⟩ | ⟨rfl, rfl, rfl⟩)
    · exact step17 F l m s v f d c mo .normal (prob0 F l m s v f d c mo _ _ (by omega) h0) ⟨2, _, _, by omega, wk17 F l m s v f d c mo _ ⟨.inr rfl, .inr rfl, .inr rfl, .inr rfl, .inr rfl, .inr rfl, .inr rfl, .inr rfl, trivial⟩ rfl, .inr (.inl ⟨rfl, rfl, rfl⟩)⟩
    · exact step17 F l m s v f d c mo .normal (prob1 F l m s v f d c mo _ _ (by omega) h1) ⟨1, _, _, by omega, wk17 F l m s v f d c mo _ ⟨.inr rfl, .inr rfl, .inr rfl, .inr rfl, .inr rfl, .inr rfl, .inr rfl, .inr rfl, trivial⟩ rfl, .inr (.inr (.inl ⟨rfl, rfl, rfl⟩))⟩
    · exact step17 F l m s v f d c mo .normal (prob2 F l m s v f d c mo _ _ (by omega) h2) ⟨0, _, _, by omega, wk17 F l m s v f d c mo _ ⟨.inr rfl, .inr rfl, .inr rfl, .inr rfl, .inr rfl, .inr rfl, .inr rfl, .inr rfl, trivial⟩ rfl, .inr (.inr (.inr (⟨rfl, rfl, rfl⟩)))⟩
    · refine step17 F l m s v f d c mo (.exit 2) ?_ ⟨rfl, rfl, rfl⟩
      rw [p17d3]
      exact ⟨rfl, rfl, ids17 F l m s v f d c mo _, rfl, rfl, rfl⟩
  · rintro x fr hp ⟨rfl, rfl, rfl⟩
    exact ⟨_, _, wk17 F l m s v f d c mo _ (i' := .top) (n' := .int .i64 (0 + F.n0 + F.n1 + F.n2)) (j' := .top) ⟨.inr rfl, .inr rfl, .inr rfl, .inr rfl, .inr rfl, .inr rfl, .inr rfl, .inl rfl, trivial⟩ rfl, hK⟩
theorem never_best {L : List D3} (h : ∀ y ∈ L, 0 ≤ y.2.2) : ((bestD L).2.2 != -1) = !decide (L = []) := by
  cases L with
  | nil => rfl
  | cons x L =>
    have hx := h x (by simp)
    have main : ∀ (L : List D3) (x : D3), (∀ y ∈ x :: L, 0 ≤ y.2.2) → 0 ≤ (L.foldl stepD x).2.2 := by
      intro L
      induction L with
      | nil => intro x h; exact h x (by simp)
      | cons y L ih =>
        intro x h
        rw [List.foldl_cons]
        refine ih _ fun z hz => ?_
        rcases List.mem_cons.1 hz with rfl | hz
        · unfold stepD; split
          · exact h y (by simp)
          · exact h x (by simp)
        · exact h z (by simp [hz])
    have := main L x h
    have e : bestD (x :: L) = L.foldl stepD x := by rw [bestD, List.foldl_cons]; rfl
    rw [e]
    simp
    omega
set_option maxRecDepth 100000 in
theorem canon17 : Canon Try.prog 17 [fc F, rtt l m s v f, .int .i64 d, .int .i64 c, .int .i64 mo] [] fun w _ => w = dueS (pickV F l m s v f d c mo) := by
  refine CodeOK.body Try.func17 (by kernel_rfl) ?_
  rw [code17]
  refine CodeOK.seq ((CodeOK.lookN (C := C7) ec gs7 mixed (u := 0) (len := 146) (L := 2 :: 3 :: 4 :: L17) (M := [true, true, true]) (Nat.zero_le _) (Q := fun x vals B => x = .normal ∧ vals = .int .i64 d :: .int .i64 c :: .int .i64 mo :: v17a ∧ B = h17a F l m s v f) ?_).st ?_)
  · show evalC C7 0 0 c17_0 (enterS 146 _) _ _
    rw [p17a0]
    exact ⟨rfl, rfl, ⟨rfl, rfl, rfl, trivial⟩, rfl, rfl, rfl⟩
  rintro x vals B ⟨rfl, rfl, rfl⟩
  refine CodeOK.seq (CodeOK.lookE (C := C7) ec gs7 mixed (u := 0) (len := 146) (rs := Try.f17.results.toList) (L := 2 :: 3 :: 4 :: L17) (M := [true, true, true]) (Nat.zero_le _) (Q := fun x vals B => x = .normal ∧ mayF F = true ∧ okR l m s v f = true ∧ vals = .int .i64 d :: .int .i64 c :: .int .i64 mo :: v17a ∧ B = h17a F l m s v f) (kr := fun w => w = dueS (pickV F l m s v f d c mo)) ?_ ?_ fun fr hp h => h)
  · show evalC C7 0 0 c17_1 _ _ (obsE Try.prog Try.f17.results.toList _ _ _ _)
    rw [p17a1]
    show bif !mayF F then _ else _
    cases hm : mayF F with
    | false => simp [pickV, pickD, hm, dueS, noneD]
    | true =>
      cases ho : okR l m s v f with
      | false => simp [pickV, pickD, hm, okM, ho, chkE, dueS, noneD]
      | true =>
        rw [chkE_ok ho]
        exact ⟨rfl, rfl, ⟨rfl, rfl, rfl, trivial⟩, rfl, rfl, rfl, rfl, rfl⟩
  rintro x vals B ⟨rfl, hm, ho, rfl, rfl⟩
  have hF := mayF_facts hm
  refine CodeOK.frontN (C := C7) ec gs7 mixed (u := 0) (len := 146) (L := L17) (M := M17) [c17_2, c17_3] (Nat.zero_le _) (Q := at17 F l m s v f d c mo .normal .top .top .top noneD) ?_ ?_
  · show evalC C7 0 0 (.seq c17_2 (.seq c17_3 .skip)) _ _ _
    rw [p17a2]
    exact ⟨rfl, rfl, ids17 F l m s v f d c mo noneD, rfl, rfl, rfl⟩
  rintro x vals B ⟨rfl, rfl, rfl⟩
  rw [code17_4]
  refine CodeOK.seq (CodeOK.seq (step17 F l m s v f d c mo (i := .int .i64 0) (n := .top) (j := .top) (x := noneD) .normal ?_ (CodeOK.block (lossLoop F l m s v f d c mo ?_))))
  · show evalC C7 0 0 c17_4a (f17 .top .top .top) (m17 F l m s v f d c mo (0, 0, -1)) _
    rw [p17b F l m s v f d c mo 0 0 (-1)]
    exact ⟨rfl, rfl, ids17 F l m s v f d c mo noneD, rfl, rfl, rfl⟩
  have eL := best_on (F.a0 != -1) (F.a1 != -1) (F.a2 != -1) (1, 0, F.a0) (1, 1, F.a1) (1, 2, F.a2)
  have nL := never_best (loss_low hm)
  have eP := best_on (u0 F) (u1 F) (u2 F) (2, 0, dueV F.b0 (waitV l m s v f d c mo 0)) (2, 1, dueV F.b1 (waitV l m s v f d c mo 1)) (2, 2, dueV F.b2 (waitV l m s v f d c mo 2))
  have nP := never_best (prob_low (W := waitV l m s v f d c mo) hm)
  show CodeOK Try.prog 0 (.seq c17_5 (.seq c17_6 (.seq c17_7 (.seq c17_8 (.seq c17_9 c17_10))))) (f17 .top .top .top) (m17 F l m s v f d c mo _) _
  rw [← eL]
  refine CodeOK.seq (CodeOK.lookE (C := C7) ec gs7 mixed (u := 0) (len := 146) (rs := Try.f17.results.toList) (L := L17) (M := M17) (Nat.zero_le _) (Q := fun x vals B => lossL F = [] ∧ F.lm = false ∧ at17 F l m s v f d c mo .normal .top .top .top noneD x vals B) (kr := fun w => w = dueS (pickV F l m s v f d c mo)) ?_ ?_ fun fr hp h => h)
  · show evalC C7 0 0 c17_5 (f17 .top .top .top) (m17 F l m s v f d c mo (bestD (lossL F))) (obsE Try.prog Try.f17.results.toList _ _ _ _)
    rw [p17c F l m s v f d c mo (bestD (lossL F)).1 (bestD (lossL F)).2.1 (bestD (lossL F)).2.2, nL]
    by_cases h : lossL F = []
    · rw [h]
      show bif F.lm then _ else _
      refine condSplit (fun hl => ?_) fun hl => ⟨rfl, rfl, ids17 F l m s v f d c mo noneD, rfl, hl, rfl, rfl, rfl⟩
      show _ = dueS (pickV F l m s v f d c mo)
      simp [pickV, pickD, hm, okM, ho, h, hl, dueS, noneD, bestD]
    · rw [show decide (lossL F = []) = false by simp [h]]
      show _ = dueS (pickV F l m s v f d c mo)
      simp [pickV, pickD, hm, okM, ho, h, dueS]
  rintro x vals B ⟨h1, hl, rfl, rfl, rfl⟩
  refine CodeOK.seq (step17 F l m s v f d c mo (i := .top) (n := .int .i64 0) (j := .top) (x := noneD) .normal ?_ ?_)
  · show evalC C7 0 0 c17_6 (f17 .top .top .top) (m17 F l m s v f d c mo (0, 0, -1)) _
    rw [p17d F l m s v f d c mo 0 0 (-1)]
    exact ⟨rfl, rfl, ids17 F l m s v f d c mo noneD, rfl, rfl, rfl⟩
  rw [code17_7]
  refine CodeOK.seq (CodeOK.seq (step17 F l m s v f d c mo (i := .top) (n := .int .i64 0) (j := .int .i64 0) (x := noneD) .normal ?_ (CodeOK.block (probLoop F l m s v f d c mo (by omega) (by omega) (by omega) ?_))))
  · show evalC C7 0 0 c17_7a (f17 .top (.int .i64 0) .top) (m17 F l m s v f d c mo (0, 0, -1)) _
    rw [p17da F l m s v f d c mo 0 0 (-1) 0]
    exact ⟨rfl, rfl, ids17 F l m s v f d c mo noneD, rfl, rfl, rfl⟩
  show CodeOK Try.prog 0 (.seq c17_8 (.seq c17_9 c17_10)) (f17 .top (.int .i64 (0 + F.n0 + F.n1 + F.n2)) .top) (m17 F l m s v f d c mo _) _
  rw [← eP]
  refine CodeOK.seq (CodeOK.lookE (C := C7) ec gs7 mixed (u := 0) (len := 146) (rs := Try.f17.results.toList) (L := L17) (M := M17) (Nat.zero_le _) (Q := fun x vals B => probL F (waitV l m s v f d c mo) = [] ∧ (0 + F.n0 + F.n1 + F.n2) ≤ 0 ∧ F.pr = false ∧ at17 F l m s v f d c mo .normal .top (.int .i64 (0 + F.n0 + F.n1 + F.n2)) .top noneD x vals B) (kr := fun w => w = dueS (pickV F l m s v f d c mo)) ?_ ?_ fun fr hp h => h)
  · show evalC C7 0 0 c17_8 (f17 .top (.int .i64 (0 + F.n0 + F.n1 + F.n2)) .top) (m17 F l m s v f d c mo (bestD (probL F (waitV l m s v f d c mo)))) (obsE Try.prog Try.f17.results.toList _ _ _ _)
    rw [p17e F l m s v f d c mo (bestD (probL F (waitV l m s v f d c mo))).1 (bestD (probL F (waitV l m s v f d c mo))).2.1 (bestD (probL F (waitV l m s v f d c mo))).2.2, nP]
    by_cases h : probL F (waitV l m s v f d c mo) = []
    · rw [h]
      by_cases h2 : 0 < (0 + F.n0 + F.n1 + F.n2)
      · rw [cb h2]
        have h3 : lastL F (waitV l m s v f d c mo) = [] := by
          unfold lastL
          by_cases g0 : 0 < F.n0
          · rw [if_pos g0]
          by_cases g1 : 0 < F.n1
          · rw [if_neg g0, if_pos g1]
          rw [if_neg g0, if_neg g1, if_pos (by omega)]
        show _ = dueS (pickV F l m s v f d c mo)
        simp [pickV, pickD, hm, okM, ho, h1, hl, h, h3, dueS]
      · rw [cf h2]
        show bif F.pr then _ else _
        refine condSplit (fun hp => ?_) fun hp => ⟨rfl, rfl, ids17 F l m s v f d c mo noneD, rfl, by omega, hp, rfl, rfl, rfl⟩
        have h3 : lastL F (waitV l m s v f d c mo) = [] := by
          unfold lastL
          rw [hp]
          simp
        show _ = dueS (pickV F l m s v f d c mo)
        simp [pickV, pickD, hm, okM, ho, h1, hl, h, h3, dueS]
    · rw [show decide (probL F (waitV l m s v f d c mo) = []) = false by simp [h]]
      show _ = dueS (pickV F l m s v f d c mo)
      simp [pickV, pickD, hm, okM, ho, h1, hl, h, dueS]
  rintro x vals B ⟨h2, hn, hp, rfl, rfl, rfl⟩
  refine CodeOK.pre (wk17 F l m s v f d c mo noneD (i' := .top) (n' := .top) (j' := .top) ⟨.inr rfl, .inr rfl, .inr rfl, .inr rfl, .inr rfl, .inr rfl, .inl rfl, .inr rfl, trivial⟩ rfl) ?_
  refine CodeOK.lookE (C := C7) ec gs7 mixed (u := 64) (len := 146) (rs := Try.f17.results.toList) (L := L17) (M := M17) (Nat.zero_le _) (Q := fun _ _ _ => False) (kr := fun w => w = dueS (pickV F l m s v f d c mo)) ?_ (fun x vals B h => h.elim) fun fr hp h => h
  show evalC C7 64 0 (.seq c17_9 c17_10) (f17 .top .top .top) (m17 F l m s v f d c mo noneD) (obsE Try.prog Try.f17.results.toList _ _ _ _)
  refine (show evalC C7 64 0 (.seq c17_9 c17_10) (f17 .top .top .top) (m17 F l m s v f d c mo (0, 0, -1)) (obsE Try.prog Try.f17.results.toList L17 M17 _ _) from ?_)
  rw [p17f]
  have e : pickV F l m s v f d c mo = bestD (lastL F (waitV l m s v f d c mo)) := by simp [pickV, pickD, hm, okM, ho, h1, hl, h2]
  rw [e, lastL, if_neg (by omega), if_neg (by omega), if_neg (by omega), hp]
  cases F.k1 <;> cases F.k0 <;> rfl
end
section
attribute [local irreducible] evalC
theorem ok16 : SpecOK Try.prog 16 s16 := by
  intro args h base k hk
  unfold s16 at hk
  split at hk
  · rename_i k0 a0 b0 n0 k1 a1 b1 n1 k2 a2 b2 n2 cf lm pr now l m s v f d c mo
    refine ⟨_, [], [], hk, plainOK gs6 Try.func16 (by kernel_rfl) (by kernel_rfl) ?_ rfl rfl h base⟩
    exact pick_tree ⟨k0, a0, b0, n0, k1, a1, b1, n1, k2, a2, b2, n2, cf, lm, pr, now⟩ l m s v f d c mo (fun v => v = _) rfl
  · cases hk
end
theorem ok17 : SpecOK Try.prog 17 s16 := by
  intro args h base k hk
  unfold s16 at hk
  split at hk
  · rename_i k0 a0 b0 n0 k1 a1 b1 n1 k2 a2 b2 n2 cf lm pr now l m s v f d c mo
    exact ⟨_, [], [], hk, CSim.plain (cal Try.func17 (by kernel_rfl) (by kernel_rfl)) (canon17 ⟨k0, a0, b0, n0, k1, a1, b1, n1, k2, a2, b2, n2, cf, lm, pr, now⟩ l m s v f d c mo) (renL_id_of rfl _) (ren_id_of rfl _) h base⟩
  · cases hk
end Go.Proofs.Ytfoogfhcjnpokaa
