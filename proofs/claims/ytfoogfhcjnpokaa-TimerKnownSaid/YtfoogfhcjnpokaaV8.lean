/-
  Chapter 18 by the engine: facts of rows.
-/
import Derived.Test.YtfoogfhcjnpokaaT8
namespace Go.Proofs.Ytfoogfhcjnpokaa
open Go.RowKit
theorem ok18 : SpecOK Try.prog 18 s18 := by
  intro args h base k hk
  unfold s18 at hk
  split at hk
  · rename_i k0 a0 b0 n0 k1 a1 b1 n1 k2 a2 b2 n2 cf lm pr now
    refine ⟨_, [], [], hk, plainOK g0 Try.func18 (by kernel_rfl) (by kernel_rfl) ?_ rfl rfl h base⟩
    show evalF C0 64 Try.f18 [fc ⟨k0, a0, b0, n0, k1, a1, b1, n1, k2, a2, b2, n2, cf, lm, pr, now⟩] [] _
    rw [t18 _ (fun v => v = _)]
  · cases hk
section
attribute [local irreducible] evalC
variable (x0 x1 x2 : Rw)
abbrev f9 (i : SV) : List SV := tplF 70 L9 (v9 i)
abbrev m9 (F : Fc) : LHeap := (h9 x0 x1 x2 F).map mkB
theorem ids9 (F : Fc) : allIds 3 (h9 x0 x1 x2 F) := ⟨rfl, rfl, rfl, trivial⟩
def at9 (e : Ex) (i : SV) (F : Fc) : Ex → List SV → List BO → Prop := fun k vals B => k = e ∧ vals = v9 i ∧ B = h9 x0 x1 x2 F
theorem gs8 : GSound C8 := gs1
theorem step9 {i : SV} {F : Fc} (e : Ex) {co : Code} {fr : List SV} {hp : LHeap} (h : evalC C8 0 0 co fr hp (obsN L9 M9 (seen 70 3 (at9 x0 x1 x2 e i F)))) {K : KC} (hK : K e (f9 i) (m9 x0 x1 x2 F)) : CodeOK Try.prog 0 co fr hp K :=
  (CodeOK.lookN (C := C8) ec gs8 mixed (u := 0) (Nat.zero_le _) h).st fun x vals B h => by
    obtain ⟨rfl, rfl, rfl⟩ := h
    exact hK
theorem wk9 (F : Fc) {i i' : SV} (h : ValW (v9 i') (v9 i)) (hi : ltAll 3 (svIdsL (v9 i')) = true) : Weak 0 (f9 i) (m9 x0 x1 x2 F) (f9 i') (m9 x0 x1 x2 F) :=
  tpl_weak (B := h9 x0 x1 x2 F) (R := []) h hi (ids9 x0 x1 x2 F) (Nat.zero_le _)
set_option maxRecDepth 100000 in
theorem row9_0 (F : Fc) : evalC C8 0 0 c9_3 (f9 (.int .i64 0)) (m9 x0 x1 x2 F) (obsN L9 M9 (seen 70 3 (at9 x0 x1 x2 .normal (.int .i64 1) (with0 x0 F)))) := by
  rw [p9b0]
  have wr : ∀ m : Int, IntKind.i64.wrap (1 + m % 256) = 1 + m % 256 := fun m => wrap_id (by omega) (by omega)
  rw [wr]
  show bif bt x0.b 2 then (bif bt x0.b 4 then _ else _) else (bif bt x0.b 4 then _ else _)
  have e : ∀ l a m : Int, lossR x0 = l → lastR x0 = a → manyR x0 = m → with0 x0 F = { F with k0 := bt x0.b 1, a0 := l, b0 := a, n0 := m } := by
    rintro _ _ _ rfl rfl rfl
    rfl
  refine condSplit (fun h2 => ?_) fun h2 => ?_
  · refine condSplit (fun h4 => ?_) fun h4 => ?_
    · rw [e _ _ _ (by rw [lossR, if_pos h2]) (by rw [lastR, if_pos h4]) (by rw [manyR, if_pos h4])]
      exact ⟨rfl, rfl, ⟨rfl, rfl, rfl, trivial⟩, rfl, rfl, rfl⟩
    · rw [e _ _ _ (by rw [lossR, if_pos h2]) (by rw [lastR, h4]) (by rw [manyR, h4])]
      exact ⟨rfl, rfl, ⟨rfl, rfl, rfl, trivial⟩, rfl, rfl, rfl⟩
  · refine condSplit (fun h4 => ?_) fun h4 => ?_
    · rw [e _ _ _ (by rw [lossR, h2]) (by rw [lastR, if_pos h4]) (by rw [manyR, if_pos h4])]
      exact ⟨rfl, rfl, ⟨rfl, rfl, rfl, trivial⟩, rfl, rfl, rfl⟩
    · rw [e _ _ _ (by rw [lossR, h2]) (by rw [lastR, h4]) (by rw [manyR, h4])]
      exact ⟨rfl, rfl, ⟨rfl, rfl, rfl, trivial⟩, rfl, rfl, rfl⟩
set_option maxRecDepth 100000 in
theorem row9_1 (F : Fc) : evalC C8 0 0 c9_3 (f9 (.int .i64 1)) (m9 x0 x1 x2 F) (obsN L9 M9 (seen 70 3 (at9 x0 x1 x2 .normal (.int .i64 2) (with1 x1 F)))) := by
  rw [p9b1]
  have wr : ∀ m : Int, IntKind.i64.wrap (1 + m % 256) = 1 + m % 256 := fun m => wrap_id (by omega) (by omega)
  rw [wr]
  show bif bt x1.b 2 then (bif bt x1.b 4 then _ else _) else (bif bt x1.b 4 then _ else _)
  have e : ∀ l a m : Int, lossR x1 = l → lastR x1 = a → manyR x1 = m → with1 x1 F = { F with k1 := bt x1.b 1, a1 := l, b1 := a, n1 := m } := by
    rintro _ _ _ rfl rfl rfl
    rfl
  refine condSplit (fun h2 => ?_) fun h2 => ?_
  · refine condSplit (fun h4 => ?_) fun h4 => ?_
    · rw [e _ _ _ (by rw [lossR, if_pos h2]) (by rw [lastR, if_pos h4]) (by rw [manyR, if_pos h4])]
      exact ⟨rfl, rfl, ⟨rfl, rfl, rfl, trivial⟩, rfl, rfl, rfl⟩
    · rw [e _ _ _ (by rw [lossR, if_pos h2]) (by rw [lastR, h4]) (by rw [manyR, h4])]
      exact ⟨rfl, rfl, ⟨rfl, rfl, rfl, trivial⟩, rfl, rfl, rfl⟩
  · refine condSplit (fun h4 => ?_) fun h4 => ?_
    · rw [e _ _ _ (by rw [lossR, h2]) (by rw [lastR, if_pos h4]) (by rw [manyR, if_pos h4])]
      exact ⟨rfl, rfl, ⟨rfl, rfl, rfl, trivial⟩, rfl, rfl, rfl⟩
    · rw [e _ _ _ (by rw [lossR, h2]) (by rw [lastR, h4]) (by rw [manyR, h4])]
      exact ⟨rfl, rfl, ⟨rfl, rfl, rfl, trivial⟩, rfl, rfl, rfl⟩
set_option maxRecDepth 100000 in
theorem row9_2 (F : Fc) : evalC C8 0 0 c9_3 (f9 (.int .i64 2)) (m9 x0 x1 x2 F) (obsN L9 M9 (seen 70 3 (at9 x0 x1 x2 .normal (.int .i64 3) (with2 x2 F)))) := by
  rw [p9b2]
  have wr : ∀ m : Int, IntKind.i64.wrap (1 + m % 256) = 1 + m % 256 := fun m => wrap_id (by omega) (by omega)
  rw [wr]
  show bif bt x2.b 2 then (bif bt x2.b 4 then _ else _) else (bif bt x2.b 4 then _ else _)
  have e : ∀ l a m : Int, lossR x2 = l → lastR x2 = a → manyR x2 = m → with2 x2 F = { F with k2 := bt x2.b 1, a2 := l, b2 := a, n2 := m } := by
    rintro _ _ _ rfl rfl rfl
    rfl
  refine condSplit (fun h2 => ?_) fun h2 => ?_
  · refine condSplit (fun h4 => ?_) fun h4 => ?_
    · rw [e _ _ _ (by rw [lossR, if_pos h2]) (by rw [lastR, if_pos h4]) (by rw [manyR, if_pos h4])]
      exact ⟨rfl, rfl, ⟨rfl, rfl, rfl, trivial⟩, rfl, rfl, rfl⟩
    · rw [e _ _ _ (by rw [lossR, if_pos h2]) (by rw [lastR, h4]) (by rw [manyR, h4])]
      exact ⟨rfl, rfl, ⟨rfl, rfl, rfl, trivial⟩, rfl, rfl, rfl⟩
  · refine condSplit (fun h4 => ?_) fun h4 => ?_
    · rw [e _ _ _ (by rw [lossR, h2]) (by rw [lastR, if_pos h4]) (by rw [manyR, if_pos h4])]
      exact ⟨rfl, rfl, ⟨rfl, rfl, rfl, trivial⟩, rfl, rfl, rfl⟩
    · rw [e _ _ _ (by rw [lossR, h2]) (by rw [lastR, h4]) (by rw [manyR, h4])]
      exact ⟨rfl, rfl, ⟨rfl, rfl, rfl, trivial⟩, rfl, rfl, rfl⟩
set_option maxRecDepth 100000 in
theorem loop9 (b w : Int) {K : KC} (hK : K (.exit 0) (f9 .top) (m9 x0 x1 x2 (madeF x0 x1 x2 b w))) : CodeOK Try.prog 0 (.loop c9_3) (f9 (.int .i64 0)) (m9 x0 x1 x2 (zN b w)) K := by
  refine CodeOK.monoW (K := fun x fr hp => x = .exit 0 ∧ fr = f9 (.int .i64 3) ∧ hp = m9 x0 x1 x2 (madeF x0 x1 x2 b w)) ?_ ?_
  · refine CodeOK.loop (fun k fr hp => (k = 3 ∧ fr = f9 (.int .i64 0) ∧ hp = m9 x0 x1 x2 (zN b w)) ∨ (k = 2 ∧ fr = f9 (.int .i64 1) ∧ hp = m9 x0 x1 x2 (with0 x0 (zN b w))) ∨ (k = 1 ∧ fr = f9 (.int .i64 2) ∧ hp = m9 x0 x1 x2 (with1 x1 (with0 x0 (zN b w)))) ∨ (k = 0 ∧ fr = f9 (.int .i64 3) ∧ hp = m9 x0 x1 x2 (madeF x0 x1 x2 b w))) ?_ (n := 3) (.inl ⟨rfl, rfl, rfl⟩)
    rintro k fr hp (⟨rfl, rfl, rfl⟩ | ⟨rfl, rfl, rfl⟩ | ⟨rfl, rfl, rfl⟩ | ⟨rfl, rfl, rfl⟩)
    · exact step9 x0 x1 x2 .normal (row9_0 x0 x1 x2 _) ⟨2, _, _, by omega, wk9 x0 x1 x2 _ ⟨.inr rfl, .inr rfl, .inr rfl, .inr rfl, trivial⟩ rfl, .inr (.inl ⟨rfl, rfl, rfl⟩)⟩
    · exact step9 x0 x1 x2 .normal (row9_1 x0 x1 x2 _) ⟨1, _, _, by omega, wk9 x0 x1 x2 _ ⟨.inr rfl, .inr rfl, .inr rfl, .inr rfl, trivial⟩ rfl, .inr (.inr (.inl ⟨rfl, rfl, rfl⟩))⟩
    · exact step9 x0 x1 x2 .normal (row9_2 x0 x1 x2 _) ⟨0, _, _, by omega, wk9 x0 x1 x2 _ ⟨.inr rfl, .inr rfl, .inr rfl, .inr rfl, trivial⟩ rfl, .inr (.inr (.inr (⟨rfl, rfl, rfl⟩)))⟩
    · refine step9 x0 x1 x2 (.exit 0) ?_ ⟨rfl, rfl, rfl⟩
      rw [p9b3]
      exact ⟨rfl, rfl, ⟨rfl, rfl, rfl, trivial⟩, rfl, rfl, rfl⟩
  · rintro x fr hp ⟨rfl, rfl, rfl⟩
    exact ⟨_, _, wk9 x0 x1 x2 _ (i' := .top) ⟨.inr rfl, .inr rfl, .inr rfl, .inl rfl, trivial⟩ rfl, hK⟩
set_option maxRecDepth 100000 in
theorem canon9 (b w : Int) : Canon Try.prog 9 [.agg (rw3 x0 x1 x2), .int .i64 b, .int .i64 w] [] fun v _ => v = fc (madeF x0 x1 x2 b w) := by
  refine CodeOK.body Try.func9 (by kernel_rfl) ?_
  rw [code9]
  refine CodeOK.frontN (C := C8) ec gs8 mixed (u := 0) (len := 70) (L := L9) (M := M9) [c9_0, c9_1] (Nat.zero_le _) (Q := at9 x0 x1 x2 .normal .top (zN b w)) ?_ ?_
  · show evalC C8 0 0 (.seq c9_0 (.seq c9_1 .skip)) (enterS 70 _) _ _
    rw [p9a]
    exact ⟨rfl, rfl, ⟨rfl, rfl, rfl, trivial⟩, rfl, rfl, rfl⟩
  rintro x vals B ⟨rfl, rfl, rfl⟩
  refine CodeOK.seq (CodeOK.seq (step9 x0 x1 x2 (i := .int .i64 0) (F := zN b w) .normal ?_ (CodeOK.block (loop9 x0 x1 x2 b w ?_))))
  · show evalC C8 0 0 c9_2 (f9 .top) (m9 x0 x1 x2 _) _
    rw [p9i]
    exact ⟨rfl, rfl, ⟨rfl, rfl, rfl, trivial⟩, rfl, rfl, rfl⟩
  show CodeOK Try.prog 0 c9_4 (f9 .top) (m9 x0 x1 x2 _) _
  refine CodeOK.lookE (C := C8) ec gs8 mixed (u := 64) (len := 70) (rs := Try.f9.results.toList) (L := L9) (M := M9) (Nat.zero_le _) (Q := fun _ _ _ => False) (kr := fun v => v = fc (madeF x0 x1 x2 b w)) ?_ (fun x vals B h => h.elim) fun fr hp h => h
  show evalC C8 64 0 c9_4 (f9 .top) (m9 x0 x1 x2 _) (obsE Try.prog Try.f9.results.toList _ _ _ _)
  rw [p9c]
  rfl
end
theorem ok9 : SpecOK Try.prog 9 l9 := by
  intro args h base k hk
  unfold l9 at hk
  split at hk
  · rename_i p0 q0 r0 s0 p1 q1 r1 s1 p2 q2 r2 s2 b w
    exact ⟨_, [], [], hk _ rfl, CSim.plain (cal Try.func9 (by kernel_rfl) (by kernel_rfl)) (canon9 ⟨p0, q0, r0, s0⟩ ⟨p1, q1, r1, s1⟩ ⟨p2, q2, r2, s2⟩ b w) (renL_id_of rfl _) (ren_id_of rfl _) h base⟩
  · cases hk
end Go.Proofs.Ytfoogfhcjnpokaa
