/-
  Chapter 11 by the engine: WindowGrows, WindowSlowly.
-/
import Derived.Test.YtefjhkgkdmjopaaT8
import Derived.Test.YtefjhkgkdmjopaaV5
namespace Go.Proofs.Ytefjhkgkdmjopaa
open Go.RowKit
/-- What is acknowledged at once, of a rest. -/
def mr (rest : Int) : Int := if 65535 < rest then 65535 else rest
theorem mr_le {rest : Int} (h : 0 < rest) : 1 ≤ mr rest ∧ mr rest ≤ rest ∧ mr rest ≤ 65535 := by unfold mr; split <;> omega
theorem part_le {rest : Int} (h : 0 < rest) (a : Int) : 1 ≤ 1 + a % mr rest ∧ 1 + a % mr rest ≤ rest ∧ 1 + a % mr rest ≤ 65535 := by
  have := mr_le h
  have h1 := Int.emod_nonneg a (show mr rest ≠ 0 by omega)
  have h2 := Int.emod_lt_of_pos a (show 0 < mr rest by omega)
  omega
/-! ### A window that nothing bad happened to -/
def growAt (d m c T r : Int) : Wn := ⟨d, m, minI (c + (T - r)) m, -1, -1, 0⟩
theorem grow_at {d m c T r n : Int} (hm : ∀ r, 0 ≤ r → r ≤ T → mayW (growAt d m c T r) = true) (h0 : 0 ≤ r) (h1 : r ≤ T) {i : Int} (hi : 0 ≤ i ∧ i ≤ 4000000) (hn : 1 ≤ n ∧ n ≤ r ∧ n ≤ 65535) :
    chW (growAt d m c T r) (ackOk i n) (ack1 (growAt d m c T r) i n true) = growAt d m c T (r - n) := by
  have t : ackOk i n = true := by
    unfold ackOk
    rw [isT_iff.2 (by omega), cb (show 1 ≤ n by omega), cb hn.2.2]; rfl
  rw [(ch_yes (hm r h0 h1) t).1]
  show growW (growAt d m c T r) n = _
  unfold growW growAt minI
  congr 1
  dsimp only
  split <;> split <;> split <;> omega
/-! ### A window that is not slow -/
def slowAt (d m c t r : Int) : Wn := if r = 0 then ⟨d, m, minI (c + d) m, t, 0, 0⟩ else ⟨d, m, c, t, 0, c - r⟩
theorem slowAt_pos {d m c t r : Int} (h : 0 < r) : slowAt d m c t r = ⟨d, m, c, t, 0, c - r⟩ := if_neg (by omega)
theorem slow_at {d m c t r n : Int} (hd : 1200 ≤ d ∧ d ≤ 65527) (hc : 2 * d ≤ c ∧ c ≤ m) (hM : m ≤ 1099511627776) (ht : d ≤ t ∧ t ≤ c) (h0 : 0 < r) (h1 : r ≤ c) {i : Int} (hi : 1 ≤ i ∧ i ≤ 4000001) (hn : 1 ≤ n ∧ n ≤ r ∧ n ≤ 65535) :
    chW (slowAt d m c t r) (ackOk i n) (ack1 (slowAt d m c t r) i n true) = slowAt d m c t (r - n) := by
  have tk : ackOk i n = true := by
    unfold ackOk
    rw [isT_iff.2 (by omega), cb (show 1 ≤ n by omega), cb hn.2.2]; rfl
  rw [slowAt_pos h0]
  have hmay : mayW ⟨d, m, c, t, 0, c - r⟩ = true := mayi ⟨hd.1, hd.2, hM, hc.1, hc.2, by dsimp only; omega, by dsimp only; omega, .inr ⟨ht.1, by dsimp only; omega⟩, .inr (by dsimp only; omega)⟩
  rw [(ch_yes hmay tk).1]
  have e1 : behV ⟨d, m, c, t, 0, c - r⟩ i = true := by unfold behV; rw [cb (show (0 : Int) < i by omega)]; rfl
  have e2 : slowV ⟨d, m, c, t, 0, c - r⟩ = false := by unfold slowV; rw [cf (show ¬ c < t by omega), beq_eq_false_iff_ne.2 (show t ≠ -1 by omega)]; rfl
  unfold ack1
  rw [e1, e2]
  show slowW ⟨d, m, c, t, 0, c - r⟩ n = _
  unfold slowW
  dsimp only
  obtain ⟨k, hk⟩ : ∃ k, (c - r + n).toNat = k + 1 := ⟨(c - r + n).toNat - 1, by omega⟩
  rw [hk]
  by_cases hrn : n = r
  · subst hrn
    have hmm : 0 < minI (c + d) m := by unfold minI; split <;> omega
    rw [slowF, if_pos (by omega)]
    have e3 : slowF d m k (c - n + n - c) (minI (c + d) m) = (0, minI (c + d) m) := by
      rw [show c - n + n - c = 0 by omega]
      cases k with
      | zero => rfl
      | succ k => rw [slowF, if_neg (by omega)]
    rw [e3, show n - n = 0 by omega]
    rfl
  · rw [slowF, if_neg (by omega), slowAt_pos (by omega)]
    dsimp only
    congr 1
    omega
section
attribute [local irreducible] evalC
set_option maxRecDepth 100000
abbrev f7s (n : Nat) (rest want : Int) (i : SV) : List SV := tplF 62 L7 (v7s n rest want i)
abbrev m7s (n : Nat) (p : Nat → Int) (x y z : Int) (w : Wn) : LHeap := (h7s n p x y z w).map mkB
theorem ids7s (n : Nat) (p : Nat → Int) (x y z : Int) (w : Wn) : allIds 3 (h7s n p x y z w) := ⟨fun _ _ => rfl, rfl, rfl, trivial⟩
theorem wk7s (n : Nat) (p : Nat → Int) (x y z : Int) (w : Wn) (rest want : Int) {i i' : SV} (hv : ValW (v7s n rest want i') (v7s n rest want i)) (hi : ltAll 3 (svIdsL (v7s n rest want i')) = true) : Weak 1 (f7s n rest want i) (m7s n p x y z w) (f7s n rest want i') (m7s n p x y z w) :=
  tpl_weak (B := h7s n p x y z w) (R := []) hv hi (ids7s n p x y z w) (show 1 ≤ 3 by decide)
theorem loop7s (n : Nat) (p : Nat → Int) (x y z : Int) (d m c T want : Int) (hm : ∀ r, 0 ≤ r → r ≤ T → mayW (growAt d m c T r) = true) (hT : T ≤ 4000000) {K : KC} (hK : ∀ i : Nat, K (.exit 0) (f7s n 0 want (ni i)) (m7s n p x y z (growAt d m c T 0))) (rest : Int) (i : Nat) (q1 : 0 ≤ rest) (q2 : rest ≤ T) (q3 : (i : Int) ≤ T - rest) :
    CodeOK Try.prog 1 (.loop c7_5) (f7s n rest want (ni i)) (m7s n p x y z (growAt d m c T rest)) K := by
  refine CodeOK.loop (fun N fr hp => ∃ (rest : Int) (i : Nat), N = rest.toNat ∧ 0 ≤ rest ∧ rest ≤ T ∧ (i : Int) ≤ T - rest ∧ fr = f7s n rest want (ni i) ∧ hp = m7s n p x y z (growAt d m c T rest)) ?_ (n := rest.toNat) ⟨rest, i, rfl, q1, q2, q3, rfl, rfl⟩
  rintro N fr hp ⟨rest, i, rfl, h1, h2, h3, rfl, rfl⟩
  by_cases h0 : 0 < rest
  · refine (CodeOK.lookN (C := C8) ec gs8 mixed (u := 0) (len := 62) (L := L7) (M := M7s) (show 1 ≤ 3 by decide) (Q := fun e vals B => ∃ n' : Int, (1 ≤ n' ∧ n' ≤ rest ∧ n' ≤ 65535) ∧ e = .normal ∧ vals = v7s n (rest - n') want (ni (i + 1 : Nat)) ∧ B = h7s n p x y z (growAt d m c T (rest - n'))) ?_).st ?_
    · show evalC C8 0 1 c7_5 (f7s n rest want (ni i)) (m7s n p x y z (growAt d m c T rest)) _
      rw [p7sc, eta]
      refine condT' (cb h0) ?_
      by_cases hin : i < n
      · refine condT' (cb (by omega)) ?_
        by_cases hi5 : i < 50
        · refine condT' (cb (by omega)) (condT' (cb (by omega)) (condT' (by simp only [Bool.and_true, Nat.zero_add, Int.toNat_natCast]; exact cb hin) ?_))
          have hq := mr_le h0
          simp only [Nat.zero_add, Int.toNat_natCast]
          refine condT' (by rw [show (if (65535 : Int) < rest then (65535 : Int) else rest) = mr rest from rfl, cb (show 0 < mr rest by omega), cb (show mr rest ≤ 9223372036854775807 by omega)]; rfl) ?_
          have hp := part_le h0 (p i)
          rw [show (if (65535 : Int) < rest then (65535 : Int) else rest) = mr rest from rfl, wrap_id (show -9223372036854775808 ≤ 1 + p i % mr rest by omega) (show 1 + p i % mr rest ≤ 9223372036854775807 by omega)]
          rintro r' hr
          have hn := hp
          rw [grow_at hm h1 h2 ⟨by omega, by omega⟩ hn] at hr
          subst hr
          rw [wrap_id (show -9223372036854775808 ≤ rest - (1 + p i % mr rest) by omega) (show rest - (1 + p i % mr rest) ≤ 9223372036854775807 by omega), i64n i (by omega)]
          exact ⟨rfl, rfl, ids7s n p x y z (growAt d m c T (rest - (1 + p i % mr rest))), (1 + p i % mr rest), hn, rfl, rfl, rfl⟩
        · refine condF' (cf (by omega)) ?_
          rw [show (if (65535 : Int) < rest then (65535 : Int) else rest) = mr rest from rfl]
          have hp := mr_le h0
          rintro r' hr
          have hn := hp
          rw [grow_at hm h1 h2 ⟨by omega, by omega⟩ hn] at hr
          subst hr
          rw [wrap_id (show -9223372036854775808 ≤ rest - mr rest by omega) (show rest - mr rest ≤ 9223372036854775807 by omega), i64n i (by omega)]
          exact ⟨rfl, rfl, ids7s n p x y z (growAt d m c T (rest - mr rest)), mr rest, hn, rfl, rfl, rfl⟩
      · refine condF' (cf (by omega)) ?_
        rw [show (if (65535 : Int) < rest then (65535 : Int) else rest) = mr rest from rfl]
        have hp := mr_le h0
        rintro r' hr
        have hn := hp
        rw [grow_at hm h1 h2 ⟨by omega, by omega⟩ hn] at hr
        subst hr
        rw [wrap_id (show -9223372036854775808 ≤ rest - mr rest by omega) (show rest - mr rest ≤ 9223372036854775807 by omega), i64n i (by omega)]
        exact ⟨rfl, rfl, ids7s n p x y z (growAt d m c T (rest - mr rest)), mr rest, hn, rfl, rfl, rfl⟩

    rintro e vals B ⟨n', hn, rfl, rfl, rfl⟩
    exact ⟨(rest - n').toNat, _, _, by omega, wk7s n p x y z _ _ _ ⟨.inr rfl, .inr rfl, .inr rfl, .inr rfl, .inr rfl, trivial⟩ rfl, rest - n', i + 1, rfl, by omega, by omega, by omega, rfl, rfl⟩
  · obtain rfl : rest = 0 := by omega
    refine st8 (len := 62) (L := L7) (M := M7s) (vals := v7s n 0 want (ni i)) (B := h7s n p x y z (growAt d m c T 0)) (show 1 ≤ 3 by decide) (.exit 0) ?_ (hK i)
    rw [p7sc]
    exact ⟨rfl, rfl, ids7s n p x y z (growAt d m c T 0), rfl, rfl, rfl⟩
abbrev f7e (rest want : Int) (i : SV) : List SV := tplF 62 L7 (v7e rest want i)
abbrev m7e (x y z : Int) (w : Wn) : LHeap := (h7e x y z w).map mkB
theorem ids7e (x y z : Int) (w : Wn) : allIds 2 (h7e x y z w) := ⟨rfl, rfl, trivial⟩
theorem wk7e (x y z : Int) (w : Wn) (rest want : Int) {i i' : SV} (hv : ValW (v7e rest want i') (v7e rest want i)) (hi : ltAll 2 (svIdsL (v7e rest want i')) = true) : Weak 0 (f7e rest want i) (m7e x y z w) (f7e rest want i') (m7e x y z w) :=
  tpl_weak (B := h7e x y z w) (R := []) hv hi (ids7e x y z w) (show 0 ≤ 2 by decide)
theorem loop7e (x y z : Int) (d m c T want : Int) (hm : ∀ r, 0 ≤ r → r ≤ T → mayW (growAt d m c T r) = true) (hT : T ≤ 4000000) {K : KC} (hK : ∀ i : Nat, K (.exit 0) (f7e 0 want (ni i)) (m7e x y z (growAt d m c T 0))) (rest : Int) (i : Nat) (q1 : 0 ≤ rest) (q2 : rest ≤ T) (q3 : (i : Int) ≤ T - rest) :
    CodeOK Try.prog 0 (.loop c7_5) (f7e rest want (ni i)) (m7e x y z (growAt d m c T rest)) K := by
  refine CodeOK.loop (fun N fr hp => ∃ (rest : Int) (i : Nat), N = rest.toNat ∧ 0 ≤ rest ∧ rest ≤ T ∧ (i : Int) ≤ T - rest ∧ fr = f7e rest want (ni i) ∧ hp = m7e x y z (growAt d m c T rest)) ?_ (n := rest.toNat) ⟨rest, i, rfl, q1, q2, q3, rfl, rfl⟩
  rintro N fr hp ⟨rest, i, rfl, h1, h2, h3, rfl, rfl⟩
  by_cases h0 : 0 < rest
  · refine (CodeOK.lookN (C := C8) ec gs8 mixed (u := 0) (len := 62) (L := L7) (M := M7e) (show 0 ≤ 2 by decide) (Q := fun e vals B => ∃ n' : Int, (1 ≤ n' ∧ n' ≤ rest ∧ n' ≤ 65535) ∧ e = .normal ∧ vals = v7e (rest - n') want (ni (i + 1 : Nat)) ∧ B = h7e x y z (growAt d m c T (rest - n'))) ?_).st ?_
    · show evalC C8 0 0 c7_5 (f7e rest want (ni i)) (m7e x y z (growAt d m c T rest)) _
      rw [p7ec, eta]
      refine condT' (cb h0) ?_
      rw [show (if (65535 : Int) < rest then (65535 : Int) else rest) = mr rest from rfl]
      have hp := mr_le h0
      rintro r' hr
      have hn := hp
      rw [grow_at hm h1 h2 ⟨by omega, by omega⟩ hn] at hr
      subst hr
      rw [wrap_id (show -9223372036854775808 ≤ rest - mr rest by omega) (show rest - mr rest ≤ 9223372036854775807 by omega), i64n i (by omega)]
      exact ⟨rfl, rfl, ids7e x y z (growAt d m c T (rest - mr rest)), mr rest, hn, rfl, rfl, rfl⟩

    rintro e vals B ⟨n', hn, rfl, rfl, rfl⟩
    exact ⟨(rest - n').toNat, _, _, by omega, wk7e x y z _ _ _ ⟨.inr rfl, .inr rfl, .inr rfl, .inr rfl, .inr rfl, trivial⟩ rfl, rest - n', i + 1, rfl, by omega, by omega, by omega, rfl, rfl⟩
  · obtain rfl : rest = 0 := by omega
    refine st8 (len := 62) (L := L7) (M := M7e) (vals := v7e 0 want (ni i)) (B := h7e x y z (growAt d m c T 0)) (show 0 ≤ 2 by decide) (.exit 0) ?_ (hK i)
    rw [p7ec]
    exact ⟨rfl, rfl, ids7e x y z (growAt d m c T 0), rfl, rfl, rfl⟩
abbrev f8s (n : Nat) (rest : Int) (i : SV) : List SV := tplF 99 L8 (v8s n rest i)
abbrev m8s (n : Nat) (p : Nat → Int) (x y z : Int) (w u : Wn) : LHeap := (h8s n p x y z w u).map mkB
theorem ids8s (n : Nat) (p : Nat → Int) (x y z : Int) (w u : Wn) : allIds 4 (h8s n p x y z w u) := ⟨fun _ _ => rfl, rfl, rfl, rfl, trivial⟩
theorem wk8s (n : Nat) (p : Nat → Int) (x y z : Int) (w u : Wn) (rest : Int) {i i' : SV} (hv : ValW (v8s n rest i') (v8s n rest i)) (hi : ltAll 4 (svIdsL (v8s n rest i')) = true) : Weak 1 (f8s n rest i) (m8s n p x y z w u) (f8s n rest i') (m8s n p x y z w u) :=
  tpl_weak (B := h8s n p x y z w u) (R := []) hv hi (ids8s n p x y z w u) (show 1 ≤ 4 by decide)
theorem loop8s (n : Nat) (p : Nat → Int) (x y z : Int) (d m c t : Int) (hd : 1200 ≤ d ∧ d ≤ 65527) (hc : 2 * d ≤ c ∧ c ≤ m) (hM : m ≤ 1099511627776) (ht : d ≤ t ∧ t ≤ c) (hT : c ≤ 4000000) {K : KC} (hK : ∀ i : Nat, K (.exit 0) (f8s n 0 (ni i)) (m8s n p x y z (slowAt d m c t 0) ⟨d, m, c, t, 0, 0⟩)) (rest : Int) (i : Nat) (q1 : 0 ≤ rest) (q2 : rest ≤ c) (q3 : (i : Int) ≤ c - rest) :
    CodeOK Try.prog 1 (.loop c8_7) (f8s n rest (ni i)) (m8s n p x y z (slowAt d m c t rest) ⟨d, m, c, t, 0, 0⟩) K := by
  refine CodeOK.loop (fun N fr hp => ∃ (rest : Int) (i : Nat), N = rest.toNat ∧ 0 ≤ rest ∧ rest ≤ c ∧ (i : Int) ≤ c - rest ∧ fr = f8s n rest (ni i) ∧ hp = m8s n p x y z (slowAt d m c t rest) ⟨d, m, c, t, 0, 0⟩) ?_ (n := rest.toNat) ⟨rest, i, rfl, q1, q2, q3, rfl, rfl⟩
  rintro N fr hp ⟨rest, i, rfl, h1, h2, h3, rfl, rfl⟩
  by_cases h0 : 0 < rest
  · refine CodeOK.lookE (C := C8) ec gs8 mixed (u := 0) (len := 99) (rs := Try.f8.results.toList) (L := L8) (M := M8s) (show 1 ≤ 4 by decide) (Q := fun e vals B => ∃ n' : Int, (1 ≤ n' ∧ n' ≤ rest ∧ n' ≤ 65535) ∧ e = .normal ∧ vals = v8s n (rest - n') (ni (i + 1 : Nat)) ∧ B = h8s n p x y z (slowAt d m c t (rest - n')) ⟨d, m, c, t, 0, 0⟩) (kr := fun _ => False) ?_ ?_ fun fr hp h => (endK_no' h).elim
    · show evalC C8 0 1 c8_7 (f8s n rest (ni i)) (m8s n p x y z (slowAt d m c t rest) ⟨d, m, c, t, 0, 0⟩) (obsE Try.prog Try.f8.results.toList L8 M8s _ _)
      rw [p8sc, eta]
      refine condT' (cb h0) ?_
      by_cases hin : i < n
      · refine condT' (cb (by omega)) ?_
        by_cases hi5 : i < 50
        · refine condT' (cb (by omega)) (condT' (cb (by omega)) (condT' (by simp only [Bool.and_true, Nat.zero_add, Int.toNat_natCast]; exact cb hin) ?_))
          have hq := mr_le h0
          simp only [Nat.zero_add, Int.toNat_natCast]
          refine condT' (by rw [show (if (65535 : Int) < rest then (65535 : Int) else rest) = mr rest from rfl, cb (show 0 < mr rest by omega), cb (show mr rest ≤ 9223372036854775807 by omega)]; rfl) ?_
          refine (condF' (by rw [slowAt_pos h0]; exact bne_self_eq_false _) (condF' (by rw [slowAt_pos h0, wrap_id (show -9223372036854775808 ≤ c - rest by omega) (show c - rest ≤ 9223372036854775807 by omega)]; exact bne_self_eq_false _) ?_))
          have hp := part_le h0 (p i)
          rw [show (if (65535 : Int) < rest then (65535 : Int) else rest) = mr rest from rfl, wrap_id (show -9223372036854775808 ≤ 1 + p i % mr rest by omega) (show 1 + p i % mr rest ≤ 9223372036854775807 by omega)]
          rintro r' hr
          have hn := hp
          rw [wrap_id (show -9223372036854775808 ≤ 1 + (i : Int) by omega) (show 1 + (i : Int) ≤ 9223372036854775807 by omega)] at hr
          rw [slow_at hd hc hM ht h0 h2 ⟨by omega, by omega⟩ hn] at hr
          subst hr
          rw [wrap_id (show -9223372036854775808 ≤ rest - (1 + p i % mr rest) by omega) (show rest - (1 + p i % mr rest) ≤ 9223372036854775807 by omega), i64n i (by omega)]
          exact ⟨rfl, rfl, ids8s n p x y z (slowAt d m c t (rest - (1 + p i % mr rest))) (Wn.mk d m c t 0 0), (1 + p i % mr rest), hn, rfl, rfl, rfl⟩
        · refine condF' (cf (by omega)) ?_
          refine (condF' (by rw [slowAt_pos h0]; exact bne_self_eq_false _) (condF' (by rw [slowAt_pos h0, wrap_id (show -9223372036854775808 ≤ c - rest by omega) (show c - rest ≤ 9223372036854775807 by omega)]; exact bne_self_eq_false _) ?_))
          rw [show (if (65535 : Int) < rest then (65535 : Int) else rest) = mr rest from rfl]
          have hp := mr_le h0
          rintro r' hr
          have hn := hp
          rw [wrap_id (show -9223372036854775808 ≤ 1 + (i : Int) by omega) (show 1 + (i : Int) ≤ 9223372036854775807 by omega)] at hr
          rw [slow_at hd hc hM ht h0 h2 ⟨by omega, by omega⟩ hn] at hr
          subst hr
          rw [wrap_id (show -9223372036854775808 ≤ rest - mr rest by omega) (show rest - mr rest ≤ 9223372036854775807 by omega), i64n i (by omega)]
          exact ⟨rfl, rfl, ids8s n p x y z (slowAt d m c t (rest - mr rest)) (Wn.mk d m c t 0 0), mr rest, hn, rfl, rfl, rfl⟩
      · refine condF' (cf (by omega)) ?_
        refine (condF' (by rw [slowAt_pos h0]; exact bne_self_eq_false _) (condF' (by rw [slowAt_pos h0, wrap_id (show -9223372036854775808 ≤ c - rest by omega) (show c - rest ≤ 9223372036854775807 by omega)]; exact bne_self_eq_false _) ?_))
        rw [show (if (65535 : Int) < rest then (65535 : Int) else rest) = mr rest from rfl]
        have hp := mr_le h0
        rintro r' hr
        have hn := hp
        rw [wrap_id (show -9223372036854775808 ≤ 1 + (i : Int) by omega) (show 1 + (i : Int) ≤ 9223372036854775807 by omega)] at hr
        rw [slow_at hd hc hM ht h0 h2 ⟨by omega, by omega⟩ hn] at hr
        subst hr
        rw [wrap_id (show -9223372036854775808 ≤ rest - mr rest by omega) (show rest - mr rest ≤ 9223372036854775807 by omega), i64n i (by omega)]
        exact ⟨rfl, rfl, ids8s n p x y z (slowAt d m c t (rest - mr rest)) (Wn.mk d m c t 0 0), mr rest, hn, rfl, rfl, rfl⟩

    rintro e vals B ⟨n', hn, rfl, rfl, rfl⟩
    exact ⟨(rest - n').toNat, _, _, by omega, wk8s n p x y z _ _ _ ⟨.inr rfl, .inr rfl, .inr rfl, .inr rfl, .inr rfl, trivial⟩ rfl, rest - n', i + 1, rfl, by omega, by omega, by omega, rfl, rfl⟩
  · obtain rfl : rest = 0 := by omega
    refine st8E (rs := Try.f8.results.toList) (len := 99) (L := L8) (M := M8s) (vals := v8s n 0 (ni i)) (B := h8s n p x y z (slowAt d m c t 0) ⟨d, m, c, t, 0, 0⟩) (show 1 ≤ 4 by decide) (.exit 0) ?_ (hK i)
    rw [p8sc]
    exact ⟨rfl, rfl, ids8s n p x y z _ _, rfl, rfl, rfl⟩
abbrev f8e (rest : Int) (i : SV) : List SV := tplF 99 L8 (v8e rest i)
abbrev m8e (x y z : Int) (w u : Wn) : LHeap := (h8e x y z w u).map mkB
theorem ids8e (x y z : Int) (w u : Wn) : allIds 3 (h8e x y z w u) := ⟨rfl, rfl, rfl, trivial⟩
theorem wk8e (x y z : Int) (w u : Wn) (rest : Int) {i i' : SV} (hv : ValW (v8e rest i') (v8e rest i)) (hi : ltAll 3 (svIdsL (v8e rest i')) = true) : Weak 0 (f8e rest i) (m8e x y z w u) (f8e rest i') (m8e x y z w u) :=
  tpl_weak (B := h8e x y z w u) (R := []) hv hi (ids8e x y z w u) (show 0 ≤ 3 by decide)
theorem loop8e (x y z : Int) (d m c t : Int) (hd : 1200 ≤ d ∧ d ≤ 65527) (hc : 2 * d ≤ c ∧ c ≤ m) (hM : m ≤ 1099511627776) (ht : d ≤ t ∧ t ≤ c) (hT : c ≤ 4000000) {K : KC} (hK : ∀ i : Nat, K (.exit 0) (f8e 0 (ni i)) (m8e x y z (slowAt d m c t 0) ⟨d, m, c, t, 0, 0⟩)) (rest : Int) (i : Nat) (q1 : 0 ≤ rest) (q2 : rest ≤ c) (q3 : (i : Int) ≤ c - rest) :
    CodeOK Try.prog 0 (.loop c8_7) (f8e rest (ni i)) (m8e x y z (slowAt d m c t rest) ⟨d, m, c, t, 0, 0⟩) K := by
  refine CodeOK.loop (fun N fr hp => ∃ (rest : Int) (i : Nat), N = rest.toNat ∧ 0 ≤ rest ∧ rest ≤ c ∧ (i : Int) ≤ c - rest ∧ fr = f8e rest (ni i) ∧ hp = m8e x y z (slowAt d m c t rest) ⟨d, m, c, t, 0, 0⟩) ?_ (n := rest.toNat) ⟨rest, i, rfl, q1, q2, q3, rfl, rfl⟩
  rintro N fr hp ⟨rest, i, rfl, h1, h2, h3, rfl, rfl⟩
  by_cases h0 : 0 < rest
  · refine CodeOK.lookE (C := C8) ec gs8 mixed (u := 0) (len := 99) (rs := Try.f8.results.toList) (L := L8) (M := M8e) (show 0 ≤ 3 by decide) (Q := fun e vals B => ∃ n' : Int, (1 ≤ n' ∧ n' ≤ rest ∧ n' ≤ 65535) ∧ e = .normal ∧ vals = v8e (rest - n') (ni (i + 1 : Nat)) ∧ B = h8e x y z (slowAt d m c t (rest - n')) ⟨d, m, c, t, 0, 0⟩) (kr := fun _ => False) ?_ ?_ fun fr hp h => (endK_no' h).elim
    · show evalC C8 0 0 c8_7 (f8e rest (ni i)) (m8e x y z (slowAt d m c t rest) ⟨d, m, c, t, 0, 0⟩) (obsE Try.prog Try.f8.results.toList L8 M8e _ _)
      rw [p8ec, eta]
      refine condT' (cb h0) ?_
      refine (condF' (by rw [slowAt_pos h0]; exact bne_self_eq_false _) (condF' (by rw [slowAt_pos h0, wrap_id (show -9223372036854775808 ≤ c - rest by omega) (show c - rest ≤ 9223372036854775807 by omega)]; exact bne_self_eq_false _) ?_))
      rw [show (if (65535 : Int) < rest then (65535 : Int) else rest) = mr rest from rfl]
      have hp := mr_le h0
      rintro r' hr
      have hn := hp
      rw [wrap_id (show -9223372036854775808 ≤ 1 + (i : Int) by omega) (show 1 + (i : Int) ≤ 9223372036854775807 by omega)] at hr
      rw [slow_at hd hc hM ht h0 h2 ⟨by omega, by omega⟩ hn] at hr
      subst hr
      rw [wrap_id (show -9223372036854775808 ≤ rest - mr rest by omega) (show rest - mr rest ≤ 9223372036854775807 by omega), i64n i (by omega)]
      exact ⟨rfl, rfl, ids8e x y z (slowAt d m c t (rest - mr rest)) (Wn.mk d m c t 0 0), mr rest, hn, rfl, rfl, rfl⟩

    rintro e vals B ⟨n', hn, rfl, rfl, rfl⟩
    exact ⟨(rest - n').toNat, _, _, by omega, wk8e x y z _ _ _ ⟨.inr rfl, .inr rfl, .inr rfl, .inr rfl, .inr rfl, trivial⟩ rfl, rest - n', i + 1, rfl, by omega, by omega, by omega, rfl, rfl⟩
  · obtain rfl : rest = 0 := by omega
    refine st8E (rs := Try.f8.results.toList) (len := 99) (L := L8) (M := M8e) (vals := v8e 0 (ni i)) (B := h8e x y z (slowAt d m c t 0) ⟨d, m, c, t, 0, 0⟩) (show 0 ≤ 3 by decide) (.exit 0) ?_ (hK i)
    rw [p8ec]
    exact ⟨rfl, rfl, ids8e x y z _ _, rfl, rfl, rfl⟩
theorem made_grow (x y z T : Int) : madeW x y z = growAt (mD x) (mM x z) (mC x y z) T T := by
  have := mC_le x y z
  unfold growAt madeW newW minI
  rw [Int.sub_self, Int.add_zero, if_neg (by omega)]
theorem may_grows (x y z T : Int) (r : Int) (_ : 0 ≤ r) (h1 : r ≤ T) : mayW (growAt (mD x) (mM x z) (mC x y z) T r) = true := by
  have a := mD_le x
  have b := mM_le x z
  have c := mC_le x y z
  have e : 2 * mD x ≤ minI (mC x y z + (T - r)) (mM x z) ∧ minI (mC x y z + (T - r)) (mM x z) ≤ mM x z := by unfold minI; split <;> omega
  exact mayi ⟨a.1, a.2, b.2, e.1, e.2, Int.le_refl _, by show 0 < minI (mC x y z + (T - r)) (mM x z); omega, .inl rfl, .inl rfl⟩
def topG (c : Int) : Int := if 4000000 < c then 4000000 else c
theorem topG_le {c : Int} (h : 0 ≤ c) : 0 ≤ topG c ∧ topG c ≤ 4000000 := by unfold topG; split <;> omega
def sC (x y z : Int) : Int := maxI (mC x y z / 2) (2 * mD x)
theorem sC_le (x y z : Int) : 2 * mD x ≤ sC x y z ∧ sC x y z ≤ mM x z ∧ mD x ≤ mC x y z / 2 ∧ mC x y z / 2 ≤ sC x y z := by
  have a := mD_le x
  have b := mM_le x z
  have c := mC_le x y z
  unfold sC maxI
  split <;> omega
theorem bad_made (x y z : Int) : chW (madeW x y z) (isT 0 && isT 0) (bad1 (madeW x y z) 0 0) = ⟨mD x, mM x z, sC x y z, mC x y z / 2, 0, 0⟩ := by
  rw [(ch_yes (may_made x y z) (show (isT 0 && isT 0) = true from rfl)).1]
  rfl
theorem bad_slow (x y z : Int) : (⟨mD x, mM x z, sC x y z, mC x y z / 2, 0, 0⟩ : Wn) = slowAt (mD x) (mM x z) (sC x y z) (mC x y z / 2) (sC x y z) := by
  have a := mD_le x
  have b := sC_le x y z
  rw [slowAt_pos (by omega), Int.sub_self]
theorem bad_may (x y z : Int) : mayW ⟨mD x, mM x z, sC x y z, mC x y z / 2, 0, 0⟩ = true := by
  have := may_bad (may_made x y z) 0 (now := 0) (by omega)
  exact this
theorem bad_fast (x y z : Int) : slowV ⟨mD x, mM x z, sC x y z, mC x y z / 2, 0, 0⟩ = false := by
  have a := mD_le x
  have b := sC_le x y z
  unfold slowV
  rw [cf (show ¬ sC x y z < mC x y z / 2 by omega), beq_eq_false_iff_ne.2 (show mC x y z / 2 ≠ -1 by omega)]; rfl
theorem of_decide_not {a b : Int} (h : decide (b < a) = false) : a ≤ b := Int.not_lt.1 (of_decide_eq_false h)
theorem canon7s (n : Nat) (p : Nat → Int) (x y z : Int) : Canon Try.prog 7 [.agg [.int .i64 x, .int .i64 y, .int .i64 z], .slice 0 0 1 n] [some (bI n p)] fun v _ => v = .bool true := by
  have a := mD_le x
  have b := mM_le x z
  have c := mC_le x y z
  have t := topG_le (show 0 ≤ mC x y z by omega)
  refine CodeOK.body Try.func7 (by kernel_rfl) ?_
  rw [code7]
  refine CodeOK.frontN (C := C8) ec gs8 mixed (u := 0) (len := 62) (L := L7) (M := M7s) [c7_0, c7_1, c7_2, c7_3] (show 1 ≤ 3 by decide) (Q := atS .normal (v7s n (topG (mC x y z)) (minI (mC x y z + topG (mC x y z)) (mM x z)) .top) (h7s n p x y z (growAt (mD x) (mM x z) (mC x y z) (topG (mC x y z)) (topG (mC x y z))))) ?_ ?_
  · show evalC C8 0 1 (.seq c7_0 (.seq c7_1 (.seq c7_2 (.seq c7_3 .skip)))) (enterS 62 _) _ _
    rw [p7sa]
    rintro r' hr
    subst hr
    have e1 : (madeW x y z).c = mC x y z := rfl
    have e2 : (madeW x y z).m = mM x z := rfl
    rw [e1, e2, show (if (4000000 : Int) < mC x y z then (4000000 : Int) else mC x y z) = topG (mC x y z) from rfl, wrap_id (by omega) (by omega)]
    have e3 := made_grow x y z (topG (mC x y z))
    rw [← e3]
    exact ⟨rfl, rfl, ids7s n p x y z (madeW x y z), rfl, rfl, rfl⟩
  rintro e vals B ⟨rfl, rfl, rfl⟩
  refine CodeOK.seq (CodeOK.seq (st8 (len := 62) (L := L7) (M := M7s) (vals := v7s n (topG (mC x y z)) (minI (mC x y z + topG (mC x y z)) (mM x z)) (ni 0)) (B := h7s n p x y z (growAt (mD x) (mM x z) (mC x y z) (topG (mC x y z)) (topG (mC x y z)))) (show 1 ≤ 3 by decide) .normal ?_ (CodeOK.block (loop7s n p x y z _ _ _ _ _ (may_grows x y z _) t.2 (fun i => ?_) _ 0 t.1 (Int.le_refl _) (by omega)))))
  · show evalC C8 0 1 c7_4 (f7s n (topG (mC x y z)) (minI (mC x y z + topG (mC x y z)) (mM x z)) .top) (m7s n p x y z (growAt (mD x) (mM x z) (mC x y z) (topG (mC x y z)) (topG (mC x y z)))) _
    rw [p7sb]
    exact ⟨rfl, rfl, ids7s n p x y z _, rfl, rfl, rfl⟩
  refine CodeOK.pre (wk7s n p x y z (growAt (mD x) (mM x z) (mC x y z) (topG (mC x y z)) 0) 0 (minI (mC x y z + topG (mC x y z)) (mM x z)) (i := ni i) (i' := .top) ⟨.inr rfl, .inr rfl, .inr rfl, .inr rfl, .inl rfl, trivial⟩ rfl) ?_
  refine CodeOK.eval (C := C8) ec gs8 mixed 0 ?_
  show evalC C8 0 1 c7_6 (f7s n 0 (minI (mC x y z + topG (mC x y z)) (mM x z)) .top) (m7s n p x y z (growAt (mD x) (mM x z) (mC x y z) (topG (mC x y z)) 0)) (endK Try.prog Try.f7.results.toList fun v _ => v = .bool true)
  rw [p7sd n p x y z (growAt (mD x) (mM x z) (mC x y z) (topG (mC x y z)) 0) 0 (minI (mC x y z + topG (mC x y z)) (mM x z)) (fun v => v = .bool true)]
  refine condT' (beq_iff_eq.2 ?_) (condT' rfl rfl)
  show minI (mC x y z + (topG (mC x y z) - 0)) (mM x z) = _
  rw [Int.sub_zero]
theorem canon8s (n : Nat) (p : Nat → Int) (x y z : Int) : Canon Try.prog 8 [.agg [.int .i64 x, .int .i64 y, .int .i64 z], .slice 0 0 1 n] [some (bI n p)] fun v _ => v = .bool true := by
  have a := mD_le x
  have b := mM_le x z
  have c := mC_le x y z
  have t := sC_le x y z
  refine CodeOK.body Try.func8 (by kernel_rfl) ?_
  rw [code8]
  refine CodeOK.frontE (C := C8) ec gs8 mixed (u := 0) (len := 99) (rs := Try.f8.results.toList) (L := L8) (M := M8s) [c8_0, c8_1, c8_2, c8_3, c8_4, c8_5] (show 1 ≤ 4 by decide) (Q := fun e vals B => sC x y z ≤ 4000000 ∧ atS .normal (v8s n (sC x y z) .top) (h8s n p x y z (slowAt (mD x) (mM x z) (sC x y z) (mC x y z / 2) (sC x y z)) (Wn.mk (mD x) (mM x z) (sC x y z) (mC x y z / 2) 0 0)) e vals B) (kr := fun v => v = .bool true) ?_ ?_ fun fr hp h => h
  · show evalC C8 0 1 (.seq c8_0 (.seq c8_1 (.seq c8_2 (.seq c8_3 (.seq c8_4 (.seq c8_5 .skip)))))) (enterS 99 _) _ (obsE Try.prog Try.f8.results.toList L8 M8s _ _)
    rw [p8sa]
    rintro w rfl
    rw [eta, bad_made]
    rintro w rfl
    refine condF' (by rw [bad_fast, Bool.and_false]) ?_
    refine condSplit (fun q => condT' (by rw [bad_may]; rfl) rfl) fun q => ?_
    rw [← bad_slow]
    exact ⟨rfl, rfl, ids8s n p x y z (Wn.mk (mD x) (mM x z) (sC x y z) (mC x y z / 2) 0 0) (Wn.mk (mD x) (mM x z) (sC x y z) (mC x y z / 2) 0 0), of_decide_not q, rfl, rfl, rfl⟩
  rintro e vals B ⟨hT, rfl, rfl, rfl⟩
  refine CodeOK.seq (CodeOK.seq (st8 (len := 99) (L := L8) (M := M8s) (vals := v8s n (sC x y z) (ni 0)) (B := h8s n p x y z (slowAt (mD x) (mM x z) (sC x y z) (mC x y z / 2) (sC x y z)) (Wn.mk (mD x) (mM x z) (sC x y z) (mC x y z / 2) 0 0)) (show 1 ≤ 4 by decide) .normal ?_ (CodeOK.block (loop8s n p x y z _ _ _ _ a ⟨t.1, t.2.1⟩ b.2 t.2.2 hT (fun i => ?_) _ 0 (by omega) (Int.le_refl _) (by omega)))))
  · show evalC C8 0 1 c8_6 (f8s n (sC x y z) .top) (m8s n p x y z (slowAt (mD x) (mM x z) (sC x y z) (mC x y z / 2) (sC x y z)) (Wn.mk (mD x) (mM x z) (sC x y z) (mC x y z / 2) 0 0)) _
    rw [p8sb]
    exact ⟨rfl, rfl, ids8s n p x y z _ _, rfl, rfl, rfl⟩
  refine CodeOK.pre (wk8s n p x y z (slowAt (mD x) (mM x z) (sC x y z) (mC x y z / 2) 0) (Wn.mk (mD x) (mM x z) (sC x y z) (mC x y z / 2) 0 0) 0 (i := ni i) (i' := .top) ⟨.inr rfl, .inr rfl, .inr rfl, .inr rfl, .inl rfl, trivial⟩ rfl) ?_
  refine CodeOK.eval (C := C8) ec gs8 mixed 0 ?_
  show evalC C8 0 1 c8_8 (f8s n 0 .top) (m8s n p x y z (slowAt (mD x) (mM x z) (sC x y z) (mC x y z / 2) 0) (Wn.mk (mD x) (mM x z) (sC x y z) (mC x y z / 2) 0 0)) (endK Try.prog Try.f8.results.toList fun v _ => v = .bool true)
  rw [p8sd n p x y z (slowAt (mD x) (mM x z) (sC x y z) (mC x y z / 2) 0) (Wn.mk (mD x) (mM x z) (sC x y z) (mC x y z / 2) 0 0) 0 (fun v => v = .bool true)]
  refine condT' (beq_iff_eq.2 ?_) (condT' rfl (condT' (beq_self_eq_true (mC x y z / 2)) rfl))
  show minI (sC x y z + mD x) (mM x z) = if mM x z < IntKind.i64.wrap (sC x y z + mD x) then mM x z else IntKind.i64.wrap (sC x y z + mD x)
  rw [wrap_id (by omega) (by omega)]
  rfl
theorem canon7e (x y z : Int) : Canon Try.prog 7 [.agg [.int .i64 x, .int .i64 y, .int .i64 z], .eslice] [] fun v _ => v = .bool true := by
  have a := mD_le x
  have b := mM_le x z
  have c := mC_le x y z
  have t := topG_le (show 0 ≤ mC x y z by omega)
  refine CodeOK.body Try.func7 (by kernel_rfl) ?_
  rw [code7]
  refine CodeOK.frontN (C := C8) ec gs8 mixed (u := 0) (len := 62) (L := L7) (M := M7e) [c7_0, c7_1, c7_2, c7_3] (show 0 ≤ 2 by decide) (Q := atS .normal (v7e (topG (mC x y z)) (minI (mC x y z + topG (mC x y z)) (mM x z)) .top) (h7e x y z (growAt (mD x) (mM x z) (mC x y z) (topG (mC x y z)) (topG (mC x y z))))) ?_ ?_
  · show evalC C8 0 0 (.seq c7_0 (.seq c7_1 (.seq c7_2 (.seq c7_3 .skip)))) (enterS 62 _) _ _
    rw [p7ea]
    rintro r' hr
    subst hr
    have e1 : (madeW x y z).c = mC x y z := rfl
    have e2 : (madeW x y z).m = mM x z := rfl
    rw [e1, e2, show (if (4000000 : Int) < mC x y z then (4000000 : Int) else mC x y z) = topG (mC x y z) from rfl, wrap_id (by omega) (by omega)]
    have e3 := made_grow x y z (topG (mC x y z))
    rw [← e3]
    exact ⟨rfl, rfl, ids7e x y z (madeW x y z), rfl, rfl, rfl⟩
  rintro e vals B ⟨rfl, rfl, rfl⟩
  refine CodeOK.seq (CodeOK.seq (st8 (len := 62) (L := L7) (M := M7e) (vals := v7e (topG (mC x y z)) (minI (mC x y z + topG (mC x y z)) (mM x z)) (ni 0)) (B := h7e x y z (growAt (mD x) (mM x z) (mC x y z) (topG (mC x y z)) (topG (mC x y z)))) (show 0 ≤ 2 by decide) .normal ?_ (CodeOK.block (loop7e x y z _ _ _ _ _ (may_grows x y z _) t.2 (fun i => ?_) _ 0 t.1 (Int.le_refl _) (by omega)))))
  · show evalC C8 0 0 c7_4 (f7e (topG (mC x y z)) (minI (mC x y z + topG (mC x y z)) (mM x z)) .top) (m7e x y z (growAt (mD x) (mM x z) (mC x y z) (topG (mC x y z)) (topG (mC x y z)))) _
    rw [p7eb]
    exact ⟨rfl, rfl, ids7e x y z _, rfl, rfl, rfl⟩
  refine CodeOK.pre (wk7e x y z (growAt (mD x) (mM x z) (mC x y z) (topG (mC x y z)) 0) 0 (minI (mC x y z + topG (mC x y z)) (mM x z)) (i := ni i) (i' := .top) ⟨.inr rfl, .inr rfl, .inr rfl, .inr rfl, .inl rfl, trivial⟩ rfl) ?_
  refine CodeOK.eval (C := C8) ec gs8 mixed 0 ?_
  show evalC C8 0 0 c7_6 (f7e 0 (minI (mC x y z + topG (mC x y z)) (mM x z)) .top) (m7e x y z (growAt (mD x) (mM x z) (mC x y z) (topG (mC x y z)) 0)) (endK Try.prog Try.f7.results.toList fun v _ => v = .bool true)
  rw [p7ed x y z (growAt (mD x) (mM x z) (mC x y z) (topG (mC x y z)) 0) 0 (minI (mC x y z + topG (mC x y z)) (mM x z)) (fun v => v = .bool true)]
  refine condT' (beq_iff_eq.2 ?_) (condT' rfl rfl)
  show minI (mC x y z + (topG (mC x y z) - 0)) (mM x z) = _
  rw [Int.sub_zero]
theorem canon8e (x y z : Int) : Canon Try.prog 8 [.agg [.int .i64 x, .int .i64 y, .int .i64 z], .eslice] [] fun v _ => v = .bool true := by
  have a := mD_le x
  have b := mM_le x z
  have c := mC_le x y z
  have t := sC_le x y z
  refine CodeOK.body Try.func8 (by kernel_rfl) ?_
  rw [code8]
  refine CodeOK.frontE (C := C8) ec gs8 mixed (u := 0) (len := 99) (rs := Try.f8.results.toList) (L := L8) (M := M8e) [c8_0, c8_1, c8_2, c8_3, c8_4, c8_5] (show 0 ≤ 3 by decide) (Q := fun e vals B => sC x y z ≤ 4000000 ∧ atS .normal (v8e (sC x y z) .top) (h8e x y z (slowAt (mD x) (mM x z) (sC x y z) (mC x y z / 2) (sC x y z)) (Wn.mk (mD x) (mM x z) (sC x y z) (mC x y z / 2) 0 0)) e vals B) (kr := fun v => v = .bool true) ?_ ?_ fun fr hp h => h
  · show evalC C8 0 0 (.seq c8_0 (.seq c8_1 (.seq c8_2 (.seq c8_3 (.seq c8_4 (.seq c8_5 .skip)))))) (enterS 99 _) _ (obsE Try.prog Try.f8.results.toList L8 M8e _ _)
    rw [p8ea]
    rintro w rfl
    rw [eta, bad_made]
    rintro w rfl
    refine condF' (by rw [bad_fast, Bool.and_false]) ?_
    refine condSplit (fun q => condT' (by rw [bad_may]; rfl) rfl) fun q => ?_
    rw [← bad_slow]
    exact ⟨rfl, rfl, ids8e x y z (Wn.mk (mD x) (mM x z) (sC x y z) (mC x y z / 2) 0 0) (Wn.mk (mD x) (mM x z) (sC x y z) (mC x y z / 2) 0 0), of_decide_not q, rfl, rfl, rfl⟩
  rintro e vals B ⟨hT, rfl, rfl, rfl⟩
  refine CodeOK.seq (CodeOK.seq (st8 (len := 99) (L := L8) (M := M8e) (vals := v8e (sC x y z) (ni 0)) (B := h8e x y z (slowAt (mD x) (mM x z) (sC x y z) (mC x y z / 2) (sC x y z)) (Wn.mk (mD x) (mM x z) (sC x y z) (mC x y z / 2) 0 0)) (show 0 ≤ 3 by decide) .normal ?_ (CodeOK.block (loop8e x y z _ _ _ _ a ⟨t.1, t.2.1⟩ b.2 t.2.2 hT (fun i => ?_) _ 0 (by omega) (Int.le_refl _) (by omega)))))
  · show evalC C8 0 0 c8_6 (f8e (sC x y z) .top) (m8e x y z (slowAt (mD x) (mM x z) (sC x y z) (mC x y z / 2) (sC x y z)) (Wn.mk (mD x) (mM x z) (sC x y z) (mC x y z / 2) 0 0)) _
    rw [p8eb]
    exact ⟨rfl, rfl, ids8e x y z _ _, rfl, rfl, rfl⟩
  refine CodeOK.pre (wk8e x y z (slowAt (mD x) (mM x z) (sC x y z) (mC x y z / 2) 0) (Wn.mk (mD x) (mM x z) (sC x y z) (mC x y z / 2) 0 0) 0 (i := ni i) (i' := .top) ⟨.inr rfl, .inr rfl, .inr rfl, .inr rfl, .inl rfl, trivial⟩ rfl) ?_
  refine CodeOK.eval (C := C8) ec gs8 mixed 0 ?_
  show evalC C8 0 0 c8_8 (f8e 0 .top) (m8e x y z (slowAt (mD x) (mM x z) (sC x y z) (mC x y z / 2) 0) (Wn.mk (mD x) (mM x z) (sC x y z) (mC x y z / 2) 0 0)) (endK Try.prog Try.f8.results.toList fun v _ => v = .bool true)
  rw [p8ed x y z (slowAt (mD x) (mM x z) (sC x y z) (mC x y z / 2) 0) (Wn.mk (mD x) (mM x z) (sC x y z) (mC x y z / 2) 0 0) 0 (fun v => v = .bool true)]
  refine condT' (beq_iff_eq.2 ?_) (condT' rfl (condT' (beq_self_eq_true (mC x y z / 2)) rfl))
  show minI (sC x y z + mD x) (mM x z) = if mM x z < IntKind.i64.wrap (sC x y z + mD x) then mM x z else IntKind.i64.wrap (sC x y z + mD x)
  rw [wrap_id (by omega) (by omega)]
  rfl
end
/-- A slice of numbers that came in. -/
def IsInts (w : World) (a : Option Addr) (len cap : Nat) : Prop :=
  len = 0 ∨ ∃ x : Addr, a = some x ∧ len ≤ cap ∧ ∀ r, r < len → ∃ n : Int, w.cell? (x.add r) = some (.int .i64 n)
theorem IsInts.cases {w : World} {a : Option Addr} {len cap : Nat} (h : IsInts w a len cap) : len = 0 ∨ 0 < len ∧ ∃ (b off : Nat) (g : Nat → Int), a = some ⟨b, off, none⟩ ∧ len ≤ cap ∧ ∀ φ : Phi, BAt φ ⟨b, off, cap⟩ (bI len g) w := by
  rcases Nat.eq_zero_or_pos len with h0 | hp
  · exact .inl h0
  refine .inr ⟨hp, ?_⟩
  rcases h with h | ⟨x, rfl, hl, hc⟩
  · omega
  · obtain ⟨n0, hn0⟩ := hc 0 hp
    have hn0 : w.cell? x = some (.int .i64 n0) := by simpa [Addr.add] using hn0
    obtain ⟨blk, off, spot⟩ := x
    have hs : spot = none := by simpa using World.cell?_spot hn0
    subst hs
    unfold World.cell? at hn0
    split at hn0
    · rename_i c ty fz hb
      have get : ∀ k, w.cell? ((⟨blk, off, none⟩ : Addr).add k) = c[off + k]? := fun k => by
        rw [add_plain]
        unfold World.cell?
        simp [hb]
      refine ⟨blk, off, fun r => numAt c[off + r]?, rfl, hl, fun φ => ⟨c, ty, fz, hb, (fun h => nomatch h), fun r hr => ⟨?_, rfl⟩⟩⟩
      have hr : r < len := hr
      obtain ⟨a0, q0⟩ := hc r hr
      rw [get] at q0
      have e : (c.toList.drop (off + r * 1)).take 1 = [.int .i64 a0] := by
        apply List.ext_getElem?
        intro j
        rw [List.getElem?_take]
        rcases j with _ | j
        · simpa [Nat.mul_one] using q0
        · simp only [show ¬ (j + 1 < 1) by omega, if_false]
          rfl
      show RL φ [.int .i64 (numAt c[off + r]?)] ((c.toList.drop (off + r * 1)).take 1)
      rw [e, q0]
      simp [RL, R, numAt]
    · cases hn0
theorem grows_any (x y z : Int) (s : Option Addr) (len cap : Nat) (W : World) (h : IsInts W s len cap) : Calls Try.prog 7 #[.agg #[.int .i64 x, .int .i64 y, .int .i64 z], .slice s len cap] W fun e w' => e = .returned (.bool true) ∧ Below W.heap.size W w' := by
  rcases h.cases with rfl | ⟨hn, b1, off1, g, rfl, hc1, hB1⟩
  · exact lawOf (canon7e x y z) (RL.cons (by simp [R, RL]) (RL.cons (by simp [R]) RL.nil)) W
  · exact law1 rfl (canon7s len g x y z) hB1 (RL.cons (by simp [R, RL]) (RL.cons (by simp [R]; omega) RL.nil))
theorem slowly_any (x y z : Int) (s : Option Addr) (len cap : Nat) (W : World) (h : IsInts W s len cap) : Calls Try.prog 8 #[.agg #[.int .i64 x, .int .i64 y, .int .i64 z], .slice s len cap] W fun e w' => e = .returned (.bool true) ∧ Below W.heap.size W w' := by
  rcases h.cases with rfl | ⟨hn, b1, off1, g, rfl, hc1, hB1⟩
  · exact lawOf (canon8e x y z) (RL.cons (by simp [R, RL]) (RL.cons (by simp [R]) RL.nil)) W
  · exact law1 rfl (canon8s len g x y z) hB1 (RL.cons (by simp [R, RL]) (RL.cons (by simp [R]; omega) RL.nil))
end Go.Proofs.Ytefjhkgkdmjopaa
