/-
  EcnStays: its two loops, by rules.
-/
import Derived.Test.YthiencdknndagaaT5
import Derived.Test.YthiencdknndagaaV7
import Derived.Test.YthiencdknndagaaL6
namespace Go.Proofs.Ythiencdknndagaa
open Go.RowKit

theorem CodeOK.monoV {P : Program} {m0 : Nat} {c : Code} {fr : List SV} {hp : LHeap} {K K' : KC} (h : CodeOK P m0 c fr hp K) (hK : ∀ x fr hp, K x fr hp → K' x fr hp ∨ KW m0 K' x fr hp) : CodeOK P m0 c fr hp K' := by
  intro g φ a w hg hr
  subst hg
  refine wp_mono (h g φ a w rfl hr) fun e a' w' he => ?_
  cases e <;> simp only [Post] at he ⊢ <;> first | exact he | (
    obtain ⟨φ, fr, hp, h1, h2⟩ := he
    rcases hK _ _ _ h1 with h3 | ⟨fr1, hp1, h3, h4⟩
    · exact ⟨φ, fr, hp, h3, h2⟩
    · obtain ⟨φ', h5⟩ := h2.weak h3
      exact ⟨φ', fr1, hp1, h4, h5⟩)
theorem CodeOK.re4 {C : Ctx} (hC : EqOK C) (hΓ : GSound C) (hm : C.P.follows .mixedOrders = true) {u m0 : Nat} {a b c d X : Code} {fr : List SV} {hp : LHeap} {K K0 : KC} (h : evalC C u m0 (.seq a (.seq b (.seq c d))) fr hp K0)
    (hK : ∀ x fr hp, K0 x fr hp → KW m0 (thenK K fun fr hp => CodeOK C.P m0 X fr hp K) x fr hp) : CodeOK C.P m0 (.seq a (.seq b (.seq c (.seq d X)))) fr hp K := by
  have hE : ∀ i fr hp, K0 (.exit i) fr hp → K (.exit i) fr hp ∨ KW m0 K (.exit i) fr hp := fun i fr hp h => .inr (hK _ _ _ h)
  have hR : ∀ fr hp, K0 .ret fr hp → K .ret fr hp ∨ KW m0 K .ret fr hp := fun fr hp h => .inr (hK _ _ _ h)
  refine CodeOK.monoV (K := fun x fr hp => K x fr hp ∨ KW m0 K x fr hp) ?_ fun x fr hp h => h
  simp only [evalC] at h
  refine CodeOK.seq ((CodeOK.eval hC hΓ hm u h).mono fun x fr hp h => ?_)
  cases x with
  | exit i => exact hE i fr hp h
  | ret => exact hR fr hp h
  | normal =>
    refine CodeOK.seq ((CodeOK.eval hC hΓ hm u h).mono fun x fr hp h => ?_)
    cases x with
    | exit i => exact hE i fr hp h
    | ret => exact hR fr hp h
    | normal =>
      refine CodeOK.seq ((CodeOK.eval hC hΓ hm u h).mono fun x fr hp h => ?_)
      cases x with
      | exit i => exact hE i fr hp h
      | ret => exact hR fr hp h
      | normal =>
        refine CodeOK.seq ((CodeOK.eval hC hΓ hm u h).mono fun x fr hp h => ?_)
        cases x with
        | exit i => exact hE i fr hp h
        | ret => exact hR fr hp h
        | normal =>
          obtain ⟨fr1, hp1, h1, h2⟩ := hK _ _ _ h
          exact (CodeOK.pre h1 h2).mono fun x fr hp h => .inl h
theorem CodeOK.re2 {C : Ctx} (hC : EqOK C) (hΓ : GSound C) (hm : C.P.follows .mixedOrders = true) {u m0 : Nat} {a b X : Code} {fr : List SV} {hp : LHeap} {K K0 : KC} (h : evalC C u m0 (.seq a b) fr hp K0)
    (hK : ∀ x fr hp, K0 x fr hp → KW m0 (thenK K fun fr hp => CodeOK C.P m0 X fr hp K) x fr hp) : CodeOK C.P m0 (.seq a (.seq b X)) fr hp K := by
  have hE : ∀ i fr hp, K0 (.exit i) fr hp → K (.exit i) fr hp ∨ KW m0 K (.exit i) fr hp := fun i fr hp h => .inr (hK _ _ _ h)
  have hR : ∀ fr hp, K0 .ret fr hp → K .ret fr hp ∨ KW m0 K .ret fr hp := fun fr hp h => .inr (hK _ _ _ h)
  refine CodeOK.monoV (K := fun x fr hp => K x fr hp ∨ KW m0 K x fr hp) ?_ fun x fr hp h => h
  simp only [evalC] at h
  refine CodeOK.seq ((CodeOK.eval hC hΓ hm u h).mono fun x fr hp h => ?_)
  cases x with
  | exit i => exact hE i fr hp h
  | ret => exact hR fr hp h
  | normal =>
    refine CodeOK.seq ((CodeOK.eval hC hΓ hm u h).mono fun x fr hp h => ?_)
    cases x with
    | exit i => exact hE i fr hp h
    | ret => exact hR fr hp h
    | normal =>
      obtain ⟨fr1, hp1, h1, h2⟩ := hK _ _ _ h
      exact (CodeOK.pre h1 h2).mono fun x fr hp h => .inl h

theorem front12 {fr : List SV} {k : Nat} (h : fr.length = k + 12) : ∃ a0 a1 a2 a3 a4 a5 a6 a7 a8 a9 a10 a11 r, fr = a0 :: a1 :: a2 :: a3 :: a4 :: a5 :: a6 :: a7 :: a8 :: a9 :: a10 :: a11 :: r ∧ r.length = k := by
  rcases fr with _ | ⟨a0, _ | ⟨a1, _ | ⟨a2, _ | ⟨a3, _ | ⟨a4, _ | ⟨a5, _ | ⟨a6, _ | ⟨a7, _ | ⟨a8, _ | ⟨a9, _ | ⟨a10, _ | ⟨a11, r⟩⟩⟩⟩⟩⟩⟩⟩⟩⟩⟩⟩ <;> simp at h
  all_goals first | omega | exact ⟨a0, a1, a2, a3, a4, a5, a6, a7, a8, a9, a10, a11, r, rfl, h⟩
theorem fr5_eq (n : Nat) (many : Int) (w6 w11 : SV) : fr5 n many [w6, .top, .top, .top, .top, w11] = .slice 0 0 3 n :: .int .i64 many :: .top :: .top :: .bool false :: .ptr 1 0 5 0 :: w6 :: .top :: .top :: .top :: .top :: w11 :: List.replicate 90 .top := rfl
theorem weak5 {fr : List SV} {hp : LHeap} {n : Nat} {g : Nat → Nat → Int} {many s : Int} {w6 w11 v6 v11 : SV} (h1 : fr.length = 102) (h2 : [0, 1, 4, 5, 6, 11].map (fun i => fr.getD i .top) = [.slice 0 0 3 n, .int .i64 many, .bool false, .ptr 1 0 5 0, v6, v11])
    (k6 : w6 = .top ∨ (svIds w6 = [] ∧ w6 = v6)) (k11 : w11 = .top ∨ (svIds w11 = [] ∧ w11 = v11)) (h3 : hp.take 1 = [some (blk5 n g)]) (h4 : ((hp.drop 1).take 1).map rowsB = [(5, 1, true, 24, [[.int .i64 s, .int .i64 2, .int .i64 0, .int .i64 1, .bool true]])]) :
    Weak 1 fr hp (fr5 n many [w6, .top, .top, .top, .top, w11]) (hpB n g s) := by
  obtain ⟨a0, a1, a2, a3, a4, a5, a6, a7, a8, a9, a10, a11, r, rfl, hr⟩ := front12 (k := 90) h1
  simp at h2
  obtain ⟨rfl, rfl, rfl, rfl, rfl, rfl⟩ := h2
  match hp, h3, h4 with
  | [], h3, _ => simp at h3
  | [_], _, h4 => simp at h4
  | b0 :: none :: _, _, h4 => simp [rowsB] at h4
  | b0 :: some b :: rest, h3, h4 =>
    simp only [List.take_succ_cons, List.take_zero, List.cons.injEq, and_true] at h3
    subst h3
    simp only [List.drop_succ_cons, List.drop_zero, List.take_succ_cons, List.take_zero, List.map_cons, List.map_nil, rowsB, List.cons.injEq, Prod.mk.injEq, and_true] at h4
    obtain ⟨b1, b2, b3, b4, b5⟩ := h4
    have hf : TopW 2 (fr5 n many [w6, .top, .top, .top, .top, w11]) (.slice 0 0 3 n :: .int .i64 many :: a2 :: a3 :: .bool false :: .ptr 1 0 5 0 :: a6 :: a7 :: a8 :: a9 :: a10 :: a11 :: r) := by
      rw [fr5_eq, ← hr]
      have hrep := topW_append (m := 2) (l := []) (r := r) rfl
      have e6 : w6 = .top ∨ (ltAll 2 (svIds w6) = true ∧ w6 = a6) := k6.imp id fun h => ⟨by rw [h.1]; rfl, h.2⟩
      have e11 : w11 = .top ∨ (ltAll 2 (svIds w11) = true ∧ w11 = a11) := k11.imp id fun h => ⟨by rw [h.1]; rfl, h.2⟩
      exact ⟨.inr ⟨rfl, rfl⟩, .inr ⟨rfl, rfl⟩, .inl rfl, .inl rfl, .inr ⟨rfl, rfl⟩, .inr ⟨rfl, rfl⟩, e6, .inl rfl, .inl rfl, .inl rfl, .inl rfl, e11, hrep⟩
    refine ⟨List.range 2, rfl, by simp [hpB], fun i hi => by
      have h0 : i = 0 := Nat.lt_one_iff.1 hi
      subst h0
      rfl, hf.wl, fun id b0 hb => ?_, fun i j x hi hj p1 p2 => ?_⟩
    · match id, hb with
      | 0, hb =>
        simp [hpB, hget] at hb
        subst hb
        exact ⟨0, _, rfl, rfl, ⟨rfl, Nat.le_refl _, fun h => (nomatch h), fun h => (nomatch h), fun r _ => WL_self rfl _⟩⟩
      | 1, hb =>
        simp [hpB, hget] at hb
        subst hb
        refine ⟨1, b, rfl, rfl, ⟨b1.symm, by rw [b2]; exact Nat.le_refl _, fun _ => b3, fun _ => b4.symm, fun r hr => ?_⟩⟩
        obtain rfl : r = 0 := by have hr : r < 1 := hr; omega
        rw [b2] at b5
        have b5 : [b.rd 0] = [[.int .i64 s, .int .i64 2, .int .i64 0, .int .i64 1, .bool true]] := b5
        simp only [List.cons.injEq, and_true] at b5
        rw [b5]
        exact WL_self rfl _
      | id + 2, hb => simp [hpB, hget] at hb
    · have hi : i < 2 := hi
      have hj : j < 2 := hj
      rw [List.getElem?_range hi] at p1
      rw [List.getElem?_range hj] at p2
      simp only [Option.some.injEq] at p1 p2
      omega

/-- What is seen of a state. -/
def Q5 (n : Nat) (g : Nat → Nat → Int) (many : Int) (Q : Ex → SV → SV → Int → Prop) : KT5 := fun x len sl b0 b1 => ∃ v6 v11 s, len = 102 ∧ sl = [.slice 0 0 3 n, .int .i64 many, .bool false, .ptr 1 0 5 0, v6, v11] ∧ b0 = [some (blk5 n g)] ∧
  b1 = [(5, 1, true, 24, [[.int .i64 s, .int .i64 2, .int .i64 0, .int .i64 1, .bool true]])] ∧ Q x v6 v11 s
def A5 (n : Nat) (g : Nat → Nat → Int) (many : Int) (Q : Ex → SV → SV → Int → Prop) : KC := fun x fr hp => ∃ v6 v11 s, fr = fr5 n many [v6, .top, .top, .top, .top, v11] ∧ hp = hpB n g s ∧ Q x v6 v11 s
abbrev L5 : List Nat := [0, 1, 4, 5, 6, 11]
theorem see5 {n : Nat} {g : Nat → Nat → Int} {many : Int} {Q : Ex → SV → SV → Int → Prop} (hQ : ∀ x v6 v11 s, Q x v6 v11 s → svIds v6 = [] ∧ svIds v11 = []) : ∀ x fr hp, keep5 (Q5 n g many Q) L5 x fr hp → KW 1 (A5 n g many Q) x fr hp := by
  rintro x fr hp ⟨v6, v11, s, h1, h2, h3, h4, h5⟩
  exact ⟨_, _, weak5 h1 h2 (.inr ⟨(hQ _ _ _ _ h5).1, rfl⟩) (.inr ⟨(hQ _ _ _ _ h5).2, rfl⟩) h3 h4, v6, v11, s, rfl, rfl, h5⟩
theorem step5 {n : Nat} {g : Nat → Nat → Int} {many : Int} {Q : Ex → SV → SV → Int → Prop} (hQ : ∀ x v6 v11 s, Q x v6 v11 s → svIds v6 = [] ∧ svIds v11 = []) {c : Code} {fr : List SV} {hp : LHeap} (h : evalC C6 0 1 c fr hp (keep5 (Q5 n g many Q) L5)) :
    CodeOK Try.prog 1 c fr hp (A5 n g many Q) := (CodeOK.eval (C := C6) ec gs6 mixed 0 h).monoW (see5 hQ)
def F5 (n : Nat) (many : Int) (w6 w11 : SV) : List SV := fr5 n many [w6, .top, .top, .top, .top, w11]
theorem fO_eq (n : Nat) (many : Int) (i : Nat) : fO n many i = F5 n many (.int .i64 i) .top := rfl
theorem fN_eq (n : Nat) (many : Int) (i : Nat) (k : Int) : fN n many i k = F5 n many (.int .i64 i) (.int .i64 k) := rfl
theorem fS_eq (n : Nat) (many : Int) : fr5 n many [] = F5 n many .top .top := rfl
theorem hpB_ids {n : Nat} {g : Nat → Nat → Int} {s : Int} : ∀ id b, hget (hpB n g s) id = some b → ∀ r, r < b.n → ltAll 2 (svIdsL (b.rd r)) = true := by
  intro id b hb r _
  match id, hb with
  | 0, hb => simp [hpB, hget] at hb; subst hb; rfl
  | 1, hb => simp [hpB, hget] at hb; subst hb; rfl
  | id + 2, hb => simp [hpB, hget] at hb
theorem weakF {n : Nat} {g : Nat → Nat → Int} {many s : Int} {w6 w11 v6 v11 : SV} (k6 : w6 = .top ∨ (svIds w6 = [] ∧ w6 = v6)) (k11 : w11 = .top ∨ (svIds w11 = [] ∧ w11 = v11)) : Weak 1 (F5 n many v6 v11) (hpB n g s) (F5 n many w6 w11) (hpB n g s) :=
  weak5 (by simp [F5, fr5]) (by simp [F5, fr5_eq]) k6 k11 rfl rfl

theorem inner5 (n : Nat) (g : Nat → Nat → Int) (many : Int) (i : Nat) (hi : i < 30) (k s : Int) (hk : 0 ≤ k ∧ k ≤ 3) (hs : 5 ≤ s ∧ s + k ≤ 8 + 3 * i) :
    CodeOK Try.prog 1 (.loop c5_8) (fN n many i k) (hpB n g s) (fun x fr hp => x = .exit 2 ∧ ∃ s' : Int, 5 ≤ s' ∧ s' ≤ 8 + 3 * i ∧ fr = fN n many i 0 ∧ hp = hpB n g s') := by
  refine CodeOK.loop (fun m fr hp => ∃ k s : Int, k = m ∧ 0 ≤ k ∧ k ≤ 3 ∧ 5 ≤ s ∧ s + k ≤ 8 + 3 * i ∧ fr = fN n many i k ∧ hp = hpB n g s) ?_ (n := k.toNat) ⟨k, s, by omega, hk.1, hk.2, hs.1, hs.2, rfl, rfl⟩
  rintro m fr hp ⟨k, s, hkm, k1, k2, s1, s2, rfl, rfl⟩
  refine (step5 (n := n) (g := g) (many := many) (Q := fun x v6 v11 s' => v6 = .int .i64 i ∧ ((x = .exit 2 ∧ k = 0 ∧ s' = s ∧ v11 = .int .i64 0) ∨ (x = .normal ∧ 0 < k ∧ s' = s + 1 ∧ v11 = .int .i64 (k - 1)))) ?_ ?_).mono ?_
  · rintro x v6 v11 s' ⟨rfl, ⟨_, _, _, rfl⟩ | ⟨_, _, _, rfl⟩⟩ <;> exact ⟨rfl, rfl⟩
  · rw [p5_8]
    by_cases hp : 0 < k
    · rw [show decide (0 < k) = true by simpa using hp, cond_true]
      rintro s' a' b' c' f' e ⟨r1, r2, r3, r4, r5, r6⟩
      have hm : mE s 2 0 1 = 0 := by
        rw [mE, okC_of (by omega) (by omega) (by omega) (by omega), if_pos rfl, if_neg (by omega)]
      rw [hm] at r1 r2 r3 r4 r5 r6
      simp only [zi0, zb0] at r1 r2 r3 r4 r5
      subst r1 r2 r3 r4 r5 r6
      rw [wr (n := s + 1) (by omega), wr (n := k - 1) (by omega)]
      simp only [bne_self_eq_false, cond_false, beq_self_eq_true, Bool.and_self, Bool.not_true]
      exact ⟨_, _, s + 1, rfl, rfl, rfl, rfl, rfl, .inr ⟨rfl, hp, rfl, rfl⟩⟩
    · rw [show decide (0 < k) = false by simpa using hp, cond_false]
      obtain rfl : k = 0 := by omega
      exact ⟨_, _, s, rfl, rfl, rfl, rfl, rfl, .inl ⟨rfl, rfl, rfl, rfl⟩⟩
  · rintro x fr hp ⟨v6, v11, s', rfl, rfl, rfl, ⟨rfl, rfl, rfl, rfl⟩ | ⟨rfl, h1, rfl, rfl⟩⟩
    · exact ⟨rfl, s', s1, by omega, rfl, rfl⟩
    · exact ⟨m - 1, fN n many i (k - 1), hpB n g (s + 1), by omega, weakF (.inr ⟨rfl, rfl⟩) (.inr ⟨rfl, rfl⟩), k - 1, s + 1, by omega, by omega, by omega, by omega, by omega, rfl, rfl⟩
def Q54 (i : Nat) (s : Int) : Ex → SV → SV → Int → Prop := fun x v6 v11 s' => x = Ex.normal ∧ v6 = SV.int .i64 i ∧ s' = s ∧ ∃ r : Int, v11 = .int .i64 r ∧ 0 ≤ r ∧ r ≤ 3
theorem round5 (n : Nat) (g : Nat → Nat → Int) (many : Int) (i : Nat) (hi : i < 30) (hin : i < n) (s : Int) (hs : 5 ≤ s ∧ s ≤ 5 + 3 * i) : ∀ (K : KC), (∀ s' : Int, 5 ≤ s' → s' ≤ 8 + 3 * i → K .normal (fO n many i) (hpB n g s')) →
    CodeOK Try.prog 1 (.seq c5_4 (.seq c5_5 (.seq c5_6 (.seq c5_7 (.block 2 (.loop c5_8)))))) (fO n many i) (hpB n g s) K := by
  intro K hK
  have e1 : (decide ((0 : Int) ≤ (↑i : Int)) && decide ((↑i : Int) < (↑n : Int))) = true := by simp; omega
  have e2 : (decide ((0 : Nat) + (↑i : Int).toNat < n) && true) = true := by simp; omega
  have hQ : ∀ x v6 v11 s', Q54 i s x v6 v11 s' → svIds v6 = [] ∧ svIds v11 = [] := by
    rintro x v6 v11 s' ⟨rfl, rfl, rfl, r, rfl, _⟩
    exact ⟨rfl, rfl⟩
  refine CodeOK.re4 (C := C6) ec gs6 mixed (u := 0) (K0 := keep5 (Q5 n g many (Q54 i s)) L5) ?_ fun x fr hp h => ?_
  · rw [p5_4, e1, e2]
    simp only [cond_true]
    intro r h0 r1 h1 r2 h2
    have b0 := h0.lo; have b0' := h0.hi; have b1 := h1.lo; have b1' := h1.hi; have b2 := h2.lo; have b2' := h2.hi
    intro s' a' b' c' f' bo e hA
    obtain ⟨rfl, rfl, rfl, rfl, hf, rfl, rfl⟩ := ack_keep (okC_of (by omega) (by omega) (by omega) (by omega)) (okC_of (by omega) (by omega) (by omega) (by omega)) (by simp [aSee, aFail]) hA
    have hf : f' = true := by rw [hf]; simp [aFail]
    subst hf
    simp only [bne_self_eq_false, cond_false, beq_self_eq_true, Bool.and_self, Bool.not_true]
    intro r h
    have c1 := h.lo; have c2 := h.hi
    exact ⟨_, _, _, rfl, rfl, rfl, rfl, rfl, rfl, rfl, r, rfl, c1, by omega⟩
  · obtain ⟨fr1, hp1, hw, v6, v11, s', rfl, rfl, rfl, rfl, rfl, r, rfl, c1, c2⟩ := see5 hQ x fr hp h
    refine ⟨_, _, hw, ?_⟩
    refine CodeOK.block ((inner5 n g many i hi r s' ⟨c1, c2⟩ ⟨by omega, by omega⟩).monoW ?_)
    rintro x fr hp ⟨rfl, s2, q1, q2, rfl, rfl⟩
    exact ⟨fO n many i, hpB n g s2, weakF (.inr ⟨rfl, rfl⟩) (.inl rfl), hK s2 q1 q2⟩
theorem outer5 (n : Nat) (g : Nat → Nat → Int) (many : Int) : CodeOK Try.prog 1 (.loop (.seq c5_3 (.seq (.block 1 (.seq c5_4 (.seq c5_5 (.seq c5_6 (.seq c5_7 (.block 2 (.loop c5_8))))))) c5_9))) (fO n many 0) (hpB n g 5)
    (fun x fr hp => x = .exit 0 ∧ ∃ s, fr = fr5 n many [] ∧ hp = hpB n g s) := by
  refine CodeOK.loop (fun m fr hp => ∃ (i : Nat) (s : Int), i + m = 30 ∧ 5 ≤ s ∧ s ≤ 5 + 3 * i ∧ fr = fO n many i ∧ hp = hpB n g s) ?_ (n := 30) ⟨0, 5, rfl, by omega, by omega, rfl, rfl⟩
  rintro m fr hp ⟨i, s, him, s1, s2, rfl, rfl⟩
  refine CodeOK.seq ?_
  refine (step5 (n := n) (g := g) (many := many) (Q := fun x v6 v11 s' => v6 = .int .i64 i ∧ v11 = .top ∧ s' = s ∧ ((x = .normal ∧ i < n ∧ i < 30) ∨ x = .exit 0)) ?_ ?_).monoV ?_
  · rintro x v6 v11 s' ⟨rfl, rfl, _⟩
    exact ⟨rfl, rfl⟩
  · rw [p5_3]
    by_cases h1 : i < n
    · rw [show decide ((i : Int) < (n : Int)) = true by simpa using h1, cond_true]
      by_cases h2 : i < 30
      · rw [show decide ((i : Int) < 30) = true by simp; omega, cond_true]
        exact ⟨_, _, s, rfl, rfl, rfl, rfl, rfl, rfl, rfl, .inl ⟨rfl, h1, h2⟩⟩
      · rw [show decide ((i : Int) < 30) = false by simp; omega, cond_false]
        exact ⟨_, _, s, rfl, rfl, rfl, rfl, rfl, rfl, rfl, .inr rfl⟩
    · rw [show decide ((i : Int) < (n : Int)) = false by simpa using h1, cond_false]
      exact ⟨_, _, s, rfl, rfl, rfl, rfl, rfl, rfl, rfl, .inr rfl⟩
  · rintro x fr hp ⟨v6, v11, s', rfl, rfl, rfl, rfl, rfl, ⟨rfl, h1, h2⟩ | rfl⟩
    · refine .inl (CodeOK.seq (CodeOK.block (round5 n g many i h2 h1 s' ⟨s1, s2⟩ _ fun s2 q1 q2 => ?_)))
      show CodeOK Try.prog 1 c5_9 (fO n many i) (hpB n g s2) _
      refine (step5 (n := n) (g := g) (many := many) (Q := fun x v6 v11 s' => x = .normal ∧ v6 = .int .i64 ((i + 1 : Nat) : Int) ∧ v11 = .top ∧ s' = s2) ?_ ?_).mono ?_
      · rintro x v6 v11 s' ⟨_, rfl, rfl, _⟩
        exact ⟨rfl, rfl⟩
      · rw [p5_9, i64_nat i (by omega)]
        exact ⟨_, _, s2, rfl, rfl, rfl, rfl, rfl, rfl, rfl, rfl⟩
      · rintro x fr hp ⟨v6, v11, s', rfl, rfl, rfl, rfl, rfl, rfl⟩
        exact ⟨m - 1, fO n many (i + 1), hpB n g s', by omega, weakF (.inr ⟨rfl, rfl⟩) (.inl rfl), i + 1, s', by omega, by omega, by omega, rfl, rfl⟩
    · exact .inr ⟨fr5 n many [], hpB n g s', weakF (.inl rfl) (.inl rfl), rfl, s', rfl, rfl⟩
theorem end5 {c : Code} {fr : List SV} {hp : LHeap} (h : evalC C6 0 1 c fr hp (keep5 (fun x _ l _ _ => x = .ret ∧ l = [.bool true]) [4])) : CodeOK Try.prog 1 c fr hp (endK Try.prog [.tmp 4] fun v _ => v = .bool true) :=
  (CodeOK.eval (C := C6) ec gs6 mixed 0 h).mono fun x fr hp h => by
    obtain ⟨rfl, h⟩ := h
    have h : [fr.getD 4 .top] = [.bool true] := h
    simp only [List.cons.injEq, and_true] at h
    show packS [fr.getD 4 .top] = _
    rw [h]
    rfl
theorem canon5 (n : Nat) (g : Nat → Nat → Int) (many : Int) : Canon Try.prog 5 [.slice 0 0 3 n, .int .i64 many] (hpA n g) fun v _ => v = .bool true := by
  refine CodeOK.body Try.func5 (by kernel_rfl) ?_
  rw [code5]
  refine CodeOK.re2 (C := C6) ec gs6 mixed (u := 0) (K0 := keep5 (Q5 n g many fun x v6 v11 s => x = .normal ∧ v6 = .top ∧ v11 = .top ∧ s = 5) L5) ?_ fun x fr hp h => ?_
  · show evalC C6 0 1 _ (enterS 102 _) _ _
    rw [p5_0]
    exact ⟨_, _, 5, rfl, rfl, rfl, rfl, rfl, rfl, rfl, rfl⟩
  · obtain ⟨fr1, hp1, hw, v6, v11, s', rfl, rfl, rfl, rfl, rfl, rfl⟩ := see5 (by rintro x v6 v11 s ⟨_, rfl, rfl, _⟩; exact ⟨rfl, rfl⟩) x fr hp h
    refine ⟨_, _, hw, ?_⟩
    show CodeOK Try.prog 1 _ (fr5 n many []) (hpB n g 5) _
    refine CodeOK.seq (CodeOK.seq ?_)
    refine (step5 (n := n) (g := g) (many := many) (Q := fun x v6 v11 s' => x = .normal ∧ v6 = .int .i64 0 ∧ v11 = .top ∧ s' = 5) ?_ ?_).mono ?_
    · rintro x v6 v11 s' ⟨_, rfl, rfl, _⟩
      exact ⟨rfl, rfl⟩
    · rw [p5_2]
      exact ⟨_, _, 5, rfl, rfl, rfl, rfl, rfl, rfl, rfl, rfl⟩
    · rintro x fr hp ⟨v6, v11, s', rfl, rfl, rfl, rfl, rfl, rfl⟩
      refine CodeOK.block ((outer5 n g many).mono ?_)
      rintro x fr hp ⟨rfl, s, rfl, rfl⟩
      show CodeOK Try.prog 1 c5_10 (fr5 n many []) (hpB n g s) _
      exact end5 (by
        rw [p5_10]
        exact ⟨rfl, rfl⟩)
end Go.Proofs.Ythiencdknndagaa
