/-
  Chapter 11 by the engine: WindowOnce.
-/
import Derived.Test.YtefjhkgkdmjopaaT7
import Derived.Test.YtefjhkgkdmjopaaV5
namespace Go.Proofs.Ytefjhkgkdmjopaa
open Go.RowKit
theorem once_core {w : Wn} (hw : mayW w = true) {now : Int} (hn : 0 ≤ now ∧ now ≤ 9007199254740991) {T B : Prop} {Kt : Wn → Prop} (hT : T) (hK : ∀ v, v.s = now → mayW v = true → Kt v) :
    ∀ r' : Wn, r' = chW w (isT 9007199254740991 && isT now) (bad1 w 9007199254740991 now) →
      bif decide (w.s < 9007199254740991) then bif r'.s != now then B else bif r'.t != IntKind.i64.wrap (w.c.tdiv 2) then B
        else bif r'.c != if IntKind.i64.wrap (2 * w.d) > IntKind.i64.wrap (w.c.tdiv 2) then IntKind.i64.wrap (2 * w.d) else IntKind.i64.wrap (w.c.tdiv 2) then B
        else bif w.s == 9007199254740991 then bif r'.d == w.d && (r'.m == w.m && (r'.c == w.c && (r'.t == w.t && (r'.s == w.s && (r'.g == w.g && true))))) then T else B else Kt r'
      else bif w.s == 9007199254740991 then bif r'.d == w.d && (r'.m == w.m && (r'.c == w.c && (r'.t == w.t && (r'.s == w.s && (r'.g == w.g && true))))) then T else B else Kt r' := by
  rintro r' hr
  have hd := mayd hw
  have h1 : (isT 9007199254740991 && isT now) = true := by rw [isT_iff.2 (by omega), isT_iff.2 hn]; rfl
  rw [(ch_yes hw h1).1] at hr
  by_cases hs : w.s < 9007199254740991
  · have hb : behV w 9007199254740991 = true := by
      unfold behV
      rw [cb hs, Bool.or_true]
    have hr : r' = ⟨w.d, w.m, maxI (w.c / 2) (2 * w.d), w.c / 2, now, 0⟩ := by rw [hr]; unfold bad1; rw [hb]; rfl
    have hm := may_bad hw 9007199254740991 hn
    unfold bad1 at hm
    rw [hb] at hm
    rw [cb hs, wrap_id (n := 2 * w.d) (by omega) (by omega), Int.tdiv_eq_ediv_of_nonneg (by omega), wrap_id (by omega) (by omega)]
    subst hr
    refine condT' rfl (condF' (bne_self_eq_false _) (condF' (bne_self_eq_false _) (condF' (bne_self_eq_false _) (condF' (beq_eq_false_iff_ne.2 (by omega)) (hK _ rfl hm)))))
  · have he : w.s = 9007199254740991 := by omega
    have hb : behV w 9007199254740991 = false := by
      unfold behV
      rw [he]; rfl
    have hr : r' = w := by rw [hr]; unfold bad1; rw [hb]; rfl
    subst hr
    refine condF' (cf hs) (condT' (beq_iff_eq.2 he) (condT' ?_ hT))
    simp only [beq_self_eq_true, Bool.and_self]
theorem beh_no {v : Wn} {now sent : Int} (h : v.s = now) (hn : 0 ≤ now) (hs : sent ≤ now) : behV v sent = false := by
  unfold behV
  rw [h, cf (show ¬ now < sent by omega), beq_eq_false_iff_ne.2 (show now ≠ -1 by omega)]; rfl
theorem now_le (a : Int) : 0 ≤ a % 9007199254740992 ∧ a % 9007199254740992 ≤ 9007199254740991 := by omega
section
attribute [local irreducible] evalC
set_option maxRecDepth 100000
abbrev f6s (n m : Nat) (i : SV) : List SV := tplF 132 L6 (v6s n m i)
abbrev m6s (n m : Nat) (g : Nat → Th) (k : Nat → Nat → Int) (x y z : Int) (w : Wn) : LHeap := (h6s n m g k x y z w).map mkB
theorem ids6s (n m : Nat) (g : Nat → Th) (k : Nat → Nat → Int) (x y z : Int) (w : Wn) : allIds 4 (h6s n m g k x y z w) := ⟨fun _ _ => rfl, fun _ _ => rfl, rfl, rfl, trivial⟩
theorem wk6s (n m : Nat) (g : Nat → Th) (k : Nat → Nat → Int) (x y z : Int) (w : Wn) {i i' : SV} (hv : ValW (v6s n m i') (v6s n m i)) (hi : ltAll 4 (svIdsL (v6s n m i')) = true) : Weak 2 (f6s n m i) (m6s n m g k x y z w) (f6s n m i') (m6s n m g k x y z w) :=
  tpl_weak (B := h6s n m g k x y z w) (R := []) hv hi (ids6s n m g k x y z w) (show 2 ≤ 4 by decide)
theorem loop6s (n m : Nat) (g : Nat → Th) (k : Nat → Nat → Int) (x y z : Int) {K : KC} (hK : K (.exit 0) (f6s n m .top) (m6s n m g k x y z (runW2 (madeW x y z) g (min n 60)))) : CodeOK Try.prog 2 (.loop c6_3) (f6s n m (ni 0)) (m6s n m g k x y z (madeW x y z)) K := by
  refine CodeOK.count (n := min n 60) (F := fun i => f6s n m (ni i)) (H := fun i => m6s n m g k x y z (runW2 (madeW x y z) g i)) (fun i hi => ?_) ?_ hK
  · refine st8E (M := M6s) (rs := Try.f6.results.toList) (vals := v6s n m (ni (i + 1 : Nat))) (B := h6s n m g k x y z (runW2 (madeW x y z) g (i + 1))) (show 2 ≤ 4 by decide) .normal ?_ ⟨rfl, wk6s n m g k x y z _ ⟨.inr rfl, .inr rfl, .inr rfl, .inr rfl, trivial⟩ rfl⟩
    rw [p6sc, eta]
    refine condT' (cb (by omega)) (condT' (cb (by omega)) (condT' (cb (by omega)) (condT' (by simp only [Bool.and_true, Nat.zero_add, Int.toNat_natCast]; exact cb (by omega)) ⟨may_run (may_made x y z) g i, ?_⟩)))
    rintro r' rfl
    simp only [Nat.zero_add, Int.toNat_natCast]
    rw [i64n i (by omega), etaT]
    exact ⟨rfl, rfl, ids6s n m g k x y z (runW2 (madeW x y z) g (i + 1)), rfl, rfl, rfl⟩
  · refine st8E (M := M6s) (rs := Try.f6.results.toList) (vals := v6s n m (ni (min n 60))) (B := h6s n m g k x y z (runW2 (madeW x y z) g (min n 60))) (show 2 ≤ 4 by decide) (.exit 0) ?_ ⟨rfl, wk6s n m g k x y z _ ⟨.inr rfl, .inr rfl, .inr rfl, .inl rfl, trivial⟩ rfl⟩
    rw [p6sc]
    by_cases hl : n ≤ 60
    · refine condF' (cf (by omega)) ?_
      exact ⟨rfl, rfl, ids6s n m g k x y z _, rfl, rfl, rfl⟩
    · refine condT' (cb (by omega)) (condF' (cf (by omega)) ?_)
      exact ⟨rfl, rfl, ids6s n m g k x y z _, rfl, rfl, rfl⟩
abbrev f6e (n : Nat) (i : SV) : List SV := tplF 132 L6 (v6e n i)
abbrev m6e (n : Nat) (g : Nat → Th) (x y z : Int) (w : Wn) : LHeap := (h6e n g x y z w).map mkB
theorem ids6e (n : Nat) (g : Nat → Th) (x y z : Int) (w : Wn) : allIds 3 (h6e n g x y z w) := ⟨fun _ _ => rfl, rfl, rfl, trivial⟩
theorem wk6e (n : Nat) (g : Nat → Th) (x y z : Int) (w : Wn) {i i' : SV} (hv : ValW (v6e n i') (v6e n i)) (hi : ltAll 3 (svIdsL (v6e n i')) = true) : Weak 1 (f6e n i) (m6e n g x y z w) (f6e n i') (m6e n g x y z w) :=
  tpl_weak (B := h6e n g x y z w) (R := []) hv hi (ids6e n g x y z w) (show 1 ≤ 3 by decide)
theorem loop6e (n : Nat) (g : Nat → Th) (x y z : Int) {K : KC} (hK : K (.exit 0) (f6e n .top) (m6e n g x y z (runW2 (madeW x y z) g (min n 60)))) : CodeOK Try.prog 1 (.loop c6_3) (f6e n (ni 0)) (m6e n g x y z (madeW x y z)) K := by
  refine CodeOK.count (n := min n 60) (F := fun i => f6e n (ni i)) (H := fun i => m6e n g x y z (runW2 (madeW x y z) g i)) (fun i hi => ?_) ?_ hK
  · refine st8E (M := M6e) (rs := Try.f6.results.toList) (vals := v6e n (ni (i + 1 : Nat))) (B := h6e n g x y z (runW2 (madeW x y z) g (i + 1))) (show 1 ≤ 3 by decide) .normal ?_ ⟨rfl, wk6e n g x y z _ ⟨.inr rfl, .inr rfl, .inr rfl, .inr rfl, trivial⟩ rfl⟩
    rw [p6ec, eta]
    refine condT' (cb (by omega)) (condT' (cb (by omega)) (condT' (cb (by omega)) (condT' (by simp only [Bool.and_true, Nat.zero_add, Int.toNat_natCast]; exact cb (by omega)) ⟨may_run (may_made x y z) g i, ?_⟩)))
    rintro r' rfl
    simp only [Nat.zero_add, Int.toNat_natCast]
    rw [i64n i (by omega), etaT]
    exact ⟨rfl, rfl, ids6e n g x y z (runW2 (madeW x y z) g (i + 1)), rfl, rfl, rfl⟩
  · refine st8E (M := M6e) (rs := Try.f6.results.toList) (vals := v6e n (ni (min n 60))) (B := h6e n g x y z (runW2 (madeW x y z) g (min n 60))) (show 1 ≤ 3 by decide) (.exit 0) ?_ ⟨rfl, wk6e n g x y z _ ⟨.inr rfl, .inr rfl, .inr rfl, .inl rfl, trivial⟩ rfl⟩
    rw [p6ec]
    by_cases hl : n ≤ 60
    · refine condF' (cf (by omega)) ?_
      exact ⟨rfl, rfl, ids6e n g x y z _, rfl, rfl, rfl⟩
    · refine condT' (cb (by omega)) (condF' (cf (by omega)) ?_)
      exact ⟨rfl, rfl, ids6e n g x y z _, rfl, rfl, rfl⟩
abbrev b6s (m : Nat) (now : Int) (i : SV) : List SV := tplF 132 L6b (u6s m now i)
abbrev d6s (n m : Nat) (g : Nat → Th) (k : Nat → Nat → Int) (x y z : Int) (w v : Wn) : LHeap := (k6s n m g k x y z w v).map mkB
theorem jds6s (n m : Nat) (g : Nat → Th) (k : Nat → Nat → Int) (x y z : Int) (w v : Wn) : allIds 5 (k6s n m g k x y z w v) := ⟨fun _ _ => rfl, fun _ _ => rfl, rfl, rfl, rfl, trivial⟩
theorem wj6s (n m : Nat) (g : Nat → Th) (k : Nat → Nat → Int) (x y z : Int) (w v : Wn) (now : Int) {i i' : SV} (hv : ValW (u6s m now i') (u6s m now i)) (hi : ltAll 5 (svIdsL (u6s m now i')) = true) : Weak 2 (b6s m now i) (d6s n m g k x y z w v) (b6s m now i') (d6s n m g k x y z w v) :=
  tpl_weak (B := k6s n m g k x y z w v) (R := []) hv hi (jds6s n m g k x y z w v) (show 2 ≤ 5 by decide)
theorem second6s (n m : Nat) (g : Nat → Th) (k : Nat → Nat → Int) (x y z : Int) (w v : Wn) (now : Int) (hs : v.s = now) (hv : mayW v = true) (hn : 0 ≤ now ∧ now ≤ 9007199254740991) :
    CodeOK Try.prog 2 (.seq (.seq c6_9 (.block 2 (.loop c6_10))) c6_11) (b6s m now .top) (d6s n m g k x y z w v) (endK Try.prog Try.f6.results.toList fun v _ => v = .bool true) := by
  refine CodeOK.seq (CodeOK.seq (st8 (len := 132) (L := L6b) (M := N6s) (vals := u6s m now (ni 0)) (B := k6s n m g k x y z w v) (show 2 ≤ 5 by decide) .normal ?_ (CodeOK.block ?_)))
  · show evalC C8 0 2 c6_9 (b6s m now .top) (d6s n m g k x y z w v) _
    rw [q6sb]
    exact ⟨rfl, rfl, jds6s n m g k x y z w v, rfl, rfl, rfl⟩
  refine CodeOK.count (id := 2) (n := min m 20) (F := fun i => b6s m now (ni i)) (H := fun _ => d6s n m g k x y z w v) (fr' := b6s m now .top) (hp' := d6s n m g k x y z w v) (fun i hi => ?_) ?_ ?_
  · refine st8E (M := N6s) (rs := Try.f6.results.toList) (vals := u6s m now (ni (i + 1 : Nat))) (B := k6s n m g k x y z w v) (show 2 ≤ 5 by decide) .normal ?_ ⟨rfl, wj6s n m g k x y z w v now ⟨.inr rfl, .inr rfl, .inr rfl, .inr rfl, trivial⟩ rfl⟩
    rw [q6sc, eta]
    simp only [Nat.zero_add, Int.toNat_natCast, cb (show (i : Int) < m by omega), cb (show (i : Int) < 20 by omega), cb (show i < m by omega), cond_true, Bool.and_true, i64n i (by omega), wrap_id (show -9223372036854775808 ≤ now + 1 by omega) (show now + 1 ≤ 9223372036854775807 by omega), cb (show 0 < now + 1 by omega), cb (show now + 1 ≤ 9223372036854775807 by omega)]
    have hsent : 0 ≤ k i 0 % (now + 1) ∧ k i 0 % (now + 1) ≤ now := by
      have h1 := Int.emod_nonneg (k i 0) (show now + 1 ≠ 0 by omega)
      have h2 := Int.emod_lt_of_pos (k i 0) (show 0 < now + 1 by omega)
      omega
    have hb := beh_no hs hn.1 hsent.2
    have t1 : (isT (k i 0 % (now + 1)) && isT (k i 1 % 9007199254740992)) = true := by rw [isT_iff.2 (by omega), isT_mod]; rfl
    have t2 : ackOk (k i 0 % (now + 1)) (IntKind.i64.wrap (1 + k i 1 % 65535)) = true := by
      have := (ackOk_b (k i 0 % (now + 1)) (k i 1)).1
      unfold ackOk at this ⊢
      rw [isT_mod] at this
      rw [isT_iff.2 (by omega)]
      exact this
    rw [t1, t2, (ch_yes hv rfl).1, (ch_yes hv rfl).1]
    rintro r' hr
    have hr : r' = v := by rw [hr]; unfold bad1; rw [hb]; rfl
    subst hr
    refine condF' (by simp only [beq_self_eq_true, Bool.and_self, Bool.not_true]) ?_
    rintro r2 hr
    have hr : r2 = r' := by rw [hr]; unfold ack1; rw [hb]; rfl
    subst hr
    refine condF' (by simp only [beq_self_eq_true, Bool.and_self, Bool.not_true]) ?_
    exact ⟨rfl, rfl, jds6s n m g k x y z w r2, rfl, rfl, rfl⟩
  · refine st8E (M := N6s) (rs := Try.f6.results.toList) (vals := u6s m now (ni (min m 20))) (B := k6s n m g k x y z w v) (show 2 ≤ 5 by decide) (.exit 2) ?_ ⟨rfl, wj6s n m g k x y z w v now ⟨.inr rfl, .inr rfl, .inr rfl, .inl rfl, trivial⟩ rfl⟩
    rw [q6sc]
    by_cases hl : m ≤ 20
    · refine condF' (cf (by omega)) ?_
      exact ⟨rfl, rfl, jds6s n m g k x y z w v, rfl, rfl, rfl⟩
    · refine condT' (cb (by omega)) (condF' (cf (by omega)) ?_)
      exact ⟨rfl, rfl, jds6s n m g k x y z w v, rfl, rfl, rfl⟩
  show CodeOK Try.prog 2 c6_11 (b6s m now .top) (d6s n m g k x y z w v) (endK Try.prog Try.f6.results.toList _)
  refine CodeOK.eval (C := C8) ec gs8 mixed 0 ?_
  show evalC C8 0 2 c6_11 (b6s m now .top) (d6s n m g k x y z w v) (endK Try.prog Try.f6.results.toList fun v _ => v = .bool true)
  rw [q6sd n m g k x y z w v now (fun v => v = .bool true)]
abbrev b6e (m : Nat) (now : Int) (i : SV) : List SV := tplF 132 L6b (u6e m now i)
abbrev d6e (m : Nat) (k : Nat → Nat → Int) (x y z : Int) (w v : Wn) : LHeap := (k6e m k x y z w v).map mkB
theorem jds6e (m : Nat) (k : Nat → Nat → Int) (x y z : Int) (w v : Wn) : allIds 4 (k6e m k x y z w v) := ⟨fun _ _ => rfl, rfl, rfl, rfl, trivial⟩
theorem wj6e (m : Nat) (k : Nat → Nat → Int) (x y z : Int) (w v : Wn) (now : Int) {i i' : SV} (hv : ValW (u6e m now i') (u6e m now i)) (hi : ltAll 4 (svIdsL (u6e m now i')) = true) : Weak 1 (b6e m now i) (d6e m k x y z w v) (b6e m now i') (d6e m k x y z w v) :=
  tpl_weak (B := k6e m k x y z w v) (R := []) hv hi (jds6e m k x y z w v) (show 1 ≤ 4 by decide)
theorem second6e (m : Nat) (k : Nat → Nat → Int) (x y z : Int) (w v : Wn) (now : Int) (hs : v.s = now) (hv : mayW v = true) (hn : 0 ≤ now ∧ now ≤ 9007199254740991) :
    CodeOK Try.prog 1 (.seq (.seq c6_9 (.block 2 (.loop c6_10))) c6_11) (b6e m now .top) (d6e m k x y z w v) (endK Try.prog Try.f6.results.toList fun v _ => v = .bool true) := by
  refine CodeOK.seq (CodeOK.seq (st8 (len := 132) (L := L6b) (M := N6e) (vals := u6e m now (ni 0)) (B := k6e m k x y z w v) (show 1 ≤ 4 by decide) .normal ?_ (CodeOK.block ?_)))
  · show evalC C8 0 1 c6_9 (b6e m now .top) (d6e m k x y z w v) _
    rw [q6eb]
    exact ⟨rfl, rfl, jds6e m k x y z w v, rfl, rfl, rfl⟩
  refine CodeOK.count (id := 2) (n := min m 20) (F := fun i => b6e m now (ni i)) (H := fun _ => d6e m k x y z w v) (fr' := b6e m now .top) (hp' := d6e m k x y z w v) (fun i hi => ?_) ?_ ?_
  · refine st8E (M := N6e) (rs := Try.f6.results.toList) (vals := u6e m now (ni (i + 1 : Nat))) (B := k6e m k x y z w v) (show 1 ≤ 4 by decide) .normal ?_ ⟨rfl, wj6e m k x y z w v now ⟨.inr rfl, .inr rfl, .inr rfl, .inr rfl, trivial⟩ rfl⟩
    rw [q6ec, eta]
    simp only [Nat.zero_add, Int.toNat_natCast, cb (show (i : Int) < m by omega), cb (show (i : Int) < 20 by omega), cb (show i < m by omega), cond_true, Bool.and_true, i64n i (by omega), wrap_id (show -9223372036854775808 ≤ now + 1 by omega) (show now + 1 ≤ 9223372036854775807 by omega), cb (show 0 < now + 1 by omega), cb (show now + 1 ≤ 9223372036854775807 by omega)]
    have hsent : 0 ≤ k i 0 % (now + 1) ∧ k i 0 % (now + 1) ≤ now := by
      have h1 := Int.emod_nonneg (k i 0) (show now + 1 ≠ 0 by omega)
      have h2 := Int.emod_lt_of_pos (k i 0) (show 0 < now + 1 by omega)
      omega
    have hb := beh_no hs hn.1 hsent.2
    have t1 : (isT (k i 0 % (now + 1)) && isT (k i 1 % 9007199254740992)) = true := by rw [isT_iff.2 (by omega), isT_mod]; rfl
    have t2 : ackOk (k i 0 % (now + 1)) (IntKind.i64.wrap (1 + k i 1 % 65535)) = true := by
      have := (ackOk_b (k i 0 % (now + 1)) (k i 1)).1
      unfold ackOk at this ⊢
      rw [isT_mod] at this
      rw [isT_iff.2 (by omega)]
      exact this
    rw [t1, t2, (ch_yes hv rfl).1, (ch_yes hv rfl).1]
    rintro r' hr
    have hr : r' = v := by rw [hr]; unfold bad1; rw [hb]; rfl
    subst hr
    refine condF' (by simp only [beq_self_eq_true, Bool.and_self, Bool.not_true]) ?_
    rintro r2 hr
    have hr : r2 = r' := by rw [hr]; unfold ack1; rw [hb]; rfl
    subst hr
    refine condF' (by simp only [beq_self_eq_true, Bool.and_self, Bool.not_true]) ?_
    exact ⟨rfl, rfl, jds6e m k x y z w r2, rfl, rfl, rfl⟩
  · refine st8E (M := N6e) (rs := Try.f6.results.toList) (vals := u6e m now (ni (min m 20))) (B := k6e m k x y z w v) (show 1 ≤ 4 by decide) (.exit 2) ?_ ⟨rfl, wj6e m k x y z w v now ⟨.inr rfl, .inr rfl, .inr rfl, .inl rfl, trivial⟩ rfl⟩
    rw [q6ec]
    by_cases hl : m ≤ 20
    · refine condF' (cf (by omega)) ?_
      exact ⟨rfl, rfl, jds6e m k x y z w v, rfl, rfl, rfl⟩
    · refine condT' (cb (by omega)) (condF' (cf (by omega)) ?_)
      exact ⟨rfl, rfl, jds6e m k x y z w v, rfl, rfl, rfl⟩
  show CodeOK Try.prog 1 c6_11 (b6e m now .top) (d6e m k x y z w v) (endK Try.prog Try.f6.results.toList _)
  refine CodeOK.eval (C := C8) ec gs8 mixed 0 ?_
  show evalC C8 0 1 c6_11 (b6e m now .top) (d6e m k x y z w v) (endK Try.prog Try.f6.results.toList fun v _ => v = .bool true)
  rw [q6ed m k x y z w v now (fun v => v = .bool true)]
theorem canon6s (n m : Nat) (g : Nat → Th) (k : Nat → Nat → Int) (x y z : Int) : Canon Try.prog 6 [.agg [.int .i64 x, .int .i64 y, .int .i64 z], .slice 0 0 5 n, .slice 1 0 2 (m + 1)] [some (bT n g), some (bP (m + 1) k)] fun v _ => v = .bool true := by
  refine CodeOK.body Try.func6 (by kernel_rfl) ?_
  rw [code6]
  refine CodeOK.frontN (C := C8) ec gs8 mixed (u := 0) (len := 132) (L := L6) (M := M6s) [c6_0, c6_1] (show 2 ≤ 4 by decide) (Q := atS .normal (v6s n (m + 1) .top) (h6s n (m + 1) g k x y z (madeW x y z))) ?_ ?_
  · show evalC C8 0 2 (.seq c6_0 (.seq c6_1 .skip)) (enterS 132 _) _ _
    rw [p6sa]
    rintro r' rfl
    exact ⟨rfl, rfl, ids6s n (m + 1) g k x y z _, rfl, rfl, rfl⟩
  rintro e vals B ⟨rfl, rfl, rfl⟩
  refine CodeOK.seq (CodeOK.seq (st8 (len := 132) (L := L6) (M := M6s) (vals := v6s n (m + 1) (ni 0)) (B := h6s n (m + 1) g k x y z (madeW x y z)) (show 2 ≤ 4 by decide) .normal ?_ (CodeOK.block (loop6s n (m + 1) g k x y z ?_))))
  · show evalC C8 0 2 c6_2 (f6s n (m + 1) .top) (m6s n (m + 1) g k x y z (madeW x y z)) _
    rw [p6sb]
    exact ⟨rfl, rfl, ids6s n (m + 1) g k x y z _, rfl, rfl, rfl⟩
  have hw := may_run (may_made x y z) g (min n 60)
  show CodeOK Try.prog 2 (.seq c6_4 (.seq c6_5 (.seq c6_6 (.seq c6_7 (.seq c6_8 (.seq (.seq c6_9 (.block 2 (.loop c6_10))) c6_11)))))) (f6s n (m + 1) .top) (m6s n (m + 1) g k x y z (runW2 (madeW x y z) g (min n 60))) (endK Try.prog Try.f6.results.toList fun v _ => v = .bool true)
  generalize runW2 (madeW x y z) g (min n 60) = w at hw
  refine CodeOK.frontE (C := C8) ec gs8 mixed (u := 0) (len := 132) (rs := Try.f6.results.toList) (L := L6b) (M := N6s) [c6_4, c6_5, c6_6, c6_7, c6_8] (show 2 ≤ 5 by decide)
    (Q := fun e vals B => ∃ v, (v.s = k 0 0 % 9007199254740992 ∧ mayW v = true) ∧ atS .normal (u6s (m + 1) (k 0 0 % 9007199254740992) .top) (k6s n (m + 1) g k x y z w v) e vals B) (kr := fun v => v = .bool true) ?_ ?_ fun fr hp h => h
  · show evalC C8 0 2 (.seq c6_4 (.seq c6_5 (.seq c6_6 (.seq c6_7 (.seq c6_8 .skip))))) (f6s n (m + 1) .top) (m6s n (m + 1) g k x y z w) (obsE Try.prog Try.f6.results.toList L6b N6s _ _)
    rw [p6sd, eta]
    refine condT' (cb (by omega)) (condT' (cb (by omega)) ?_)
    exact once_core hw (now_le _) rfl fun v h1 h2 => ⟨rfl, rfl, jds6s n (m + 1) g k x y z w v, v, ⟨h1, h2⟩, rfl, rfl, rfl⟩
  rintro e vals B ⟨v, ⟨h1, h2⟩, rfl, rfl, rfl⟩
  exact second6s n (m + 1) g k x y z w v _ h1 h2 (now_le _)
theorem canon6se (n : Nat) (g : Nat → Th) (x y z : Int) : Canon Try.prog 6 [.agg [.int .i64 x, .int .i64 y, .int .i64 z], .slice 0 0 5 n, .eslice] [some (bT n g)] fun v _ => v = .bool true := by
  refine CodeOK.body Try.func6 (by kernel_rfl) ?_
  rw [code6]
  refine CodeOK.frontN (C := C8) ec gs8 mixed (u := 0) (len := 132) (L := L6) (M := M6e) [c6_0, c6_1] (show 1 ≤ 3 by decide) (Q := atS .normal (v6e n .top) (h6e n g x y z (madeW x y z))) ?_ ?_
  · show evalC C8 0 1 (.seq c6_0 (.seq c6_1 .skip)) (enterS 132 _) _ _
    rw [p6ea]
    rintro r' rfl
    exact ⟨rfl, rfl, ids6e n g x y z _, rfl, rfl, rfl⟩
  rintro e vals B ⟨rfl, rfl, rfl⟩
  refine CodeOK.seq (CodeOK.seq (st8 (len := 132) (L := L6) (M := M6e) (vals := v6e n (ni 0)) (B := h6e n g x y z (madeW x y z)) (show 1 ≤ 3 by decide) .normal ?_ (CodeOK.block (loop6e n g x y z ?_))))
  · show evalC C8 0 1 c6_2 (f6e n .top) (m6e n g x y z (madeW x y z)) _
    rw [p6eb]
    exact ⟨rfl, rfl, ids6e n g x y z _, rfl, rfl, rfl⟩
  show CodeOK Try.prog 1 (.seq c6_4 (.seq c6_5 (.seq c6_6 (.seq c6_7 (.seq c6_8 (.seq (.seq c6_9 (.block 2 (.loop c6_10))) c6_11)))))) (f6e n .top) (m6e n g x y z (runW2 (madeW x y z) g (min n 60))) (endK Try.prog Try.f6.results.toList _)
  refine CodeOK.eval (C := C8) ec gs8 mixed 64 ?_
  show evalC C8 64 1 (.seq c6_4 (.seq c6_5 (.seq c6_6 (.seq c6_7 (.seq c6_8 (.seq (.seq c6_9 (.block 2 (.loop c6_10))) c6_11)))))) (f6e n .top) (m6e n g x y z (runW2 (madeW x y z) g (min n 60))) (endK Try.prog Try.f6.results.toList fun v _ => v = .bool true)
  rw [p6ed n g x y z _ (fun v => v = .bool true), eta]
  exact once_core (may_run (may_made x y z) g (min n 60)) (show (0 : Int) ≤ 0 ∧ (0 : Int) ≤ 9007199254740991 by omega) rfl fun v _ _ => rfl
theorem canon6es (m : Nat) (k : Nat → Nat → Int) (x y z : Int) : Canon Try.prog 6 [.agg [.int .i64 x, .int .i64 y, .int .i64 z], .eslice, .slice 0 0 2 (m + 1)] [some (bP (m + 1) k)] fun v _ => v = .bool true := by
  refine CodeOK.body Try.func6 (by kernel_rfl) ?_
  rw [code6]
  have hw := may_made x y z
  refine CodeOK.frontE (C := C8) ec gs8 mixed (u := 64) (len := 132) (rs := Try.f6.results.toList) (L := L6b) (M := N6e) [c6_0, c6_1, (.seq c6_2 (.block 0 (.loop c6_3))), c6_4, c6_5, c6_6, c6_7, c6_8] (show 1 ≤ 4 by decide)
    (Q := fun e vals B => ∃ v, (v.s = k 0 0 % 9007199254740992 ∧ mayW v = true) ∧ atS .normal (u6e (m + 1) (k 0 0 % 9007199254740992) .top) (k6e (m + 1) k x y z (madeW x y z) v) e vals B) (kr := fun v => v = .bool true) ?_ ?_ fun fr hp h => h
  · show evalC C8 64 1 (.seq c6_0 (.seq c6_1 (.seq (.seq c6_2 (.block 0 (.loop c6_3))) (.seq c6_4 (.seq c6_5 (.seq c6_6 (.seq c6_7 (.seq c6_8 .skip)))))))) (enterS 132 _) _ (obsE Try.prog Try.f6.results.toList L6b N6e _ _)
    rw [q6ea]
    rintro w rfl
    rw [eta]
    refine condT' (cb (by omega)) (condT' (cb (by omega)) ?_)
    exact once_core hw (now_le _) rfl fun v h1 h2 => ⟨rfl, rfl, jds6e (m + 1) k x y z (madeW x y z) v, v, ⟨h1, h2⟩, rfl, rfl, rfl⟩
  rintro e vals B ⟨v, ⟨h1, h2⟩, rfl, rfl, rfl⟩
  exact second6e (m + 1) k x y z (madeW x y z) v _ h1 h2 (now_le _)
theorem canon6ee (x y z : Int) : Canon Try.prog 6 [.agg [.int .i64 x, .int .i64 y, .int .i64 z], .eslice, .eslice] [] fun v _ => v = .bool true := by
  refine evalF_ok (C := C8) ec gs8 mixed (u := 64) Try.func6 (by kernel_rfl) ?_
  show evalF C8 64 Try.f6 [.agg [.int .i64 x, .int .i64 y, .int .i64 z], .eslice, .eslice] [] _
  rw [t6ee x y z (fun v => v = .bool true)]
  rintro w rfl
  rw [eta]
  exact once_core (may_made x y z) (show (0 : Int) ≤ 0 ∧ (0 : Int) ≤ 9007199254740991 by omega) rfl fun v _ _ => rfl
end
/-- A slice of pairs of numbers that came in. -/
def IsPrs (w : World) (a : Option Addr) (len cap : Nat) : Prop :=
  len = 0 ∨ ∃ x : Addr, a = some x ∧ len ≤ cap ∧ ∀ r, r < len → ∀ j, j < 2 → ∃ n : Int, w.cell? (x.add (r * 2 + j)) = some (.int .i64 n)
theorem IsPrs.cases {w : World} {a : Option Addr} {len cap : Nat} (h : IsPrs w a len cap) : len = 0 ∨ ∃ (m b off : Nat) (g : Nat → Nat → Int), len = m + 1 ∧ a = some ⟨b, off, none⟩ ∧ len ≤ cap ∧ ∀ φ : Phi, BAt φ ⟨b, off, cap⟩ (bP len g) w := by
  rcases Nat.eq_zero_or_pos len with h0 | hp
  · exact .inl h0
  refine .inr ⟨len - 1, ?_⟩
  rcases h with h | ⟨x, rfl, hl, hc⟩
  · omega
  · obtain ⟨n0, hn0⟩ := hc 0 hp 0 (by omega)
    have hn0 : w.cell? x = some (.int .i64 n0) := by simpa [Addr.add] using hn0
    obtain ⟨blk, off, spot⟩ := x
    have hs : spot = none := by simpa using World.cell?_spot hn0
    subst hs
    unfold World.cell? at hn0
    split at hn0
    · rename_i c ty fz hb
      have get : ∀ k, w.cell? ((⟨blk, off, none⟩ : Addr).add k) = c[off + k]? := fun k => by
        rw [add_plain]
        unfold World.cell?
        simp [hb]
      refine ⟨blk, off, fun r j => numAt c[off + (r * 2 + j)]?, by omega, rfl, hl, fun φ => ⟨c, ty, fz, hb, (fun h => nomatch h), fun r hr => ⟨?_, rfl⟩⟩⟩
      have hr : r < len := hr
      obtain ⟨a0, q0⟩ := hc r hr 0 (by omega)
      obtain ⟨a1, q1⟩ := hc r hr 1 (by omega)
      rw [get] at q0 q1
      have e : (c.toList.drop (off + r * 2)).take 2 = [.int .i64 a0, .int .i64 a1] := by
        apply List.ext_getElem?
        intro j
        rw [List.getElem?_take]
        rcases j with _ | _ | j
        · simpa [Nat.add_assoc] using q0
        · simpa [Nat.add_assoc] using q1
        · simp only [show ¬ (j + 1 + 1 < 2) by omega, if_false]
          rfl
      show RL φ [.int .i64 (numAt c[off + (r * 2 + 0)]?), .int .i64 (numAt c[off + (r * 2 + 1)]?)] ((c.toList.drop (off + r * 2)).take 2)
      rw [e, q0, q1]
      simp [RL, R, numAt]
    · cases hn0
/-- A law over two slices. -/
theorem law2 {f : FuncId} {args : List SV} {vs : List Value} {B B2 : Blk} (hrw : B.rw = false) (hrw2 : B2.rw = false) {b off cap b2 off2 cap2 : Nat} (hcan : Canon Try.prog f args [some B, some B2] fun v _ => v = .bool true) {w : World} (hB : ∀ φ : Phi, BAt φ ⟨b, off, cap⟩ B w) (hB2 : ∀ φ : Phi, BAt φ ⟨b2, off2, cap2⟩ B2 w)
    (ha : RL (fun id => if id = 0 then some ⟨b, off, cap⟩ else if id = 1 then some ⟨b2, off2, cap2⟩ else none) args vs) : Calls Try.prog f vs.toArray w fun e w' => e = .returned (.bool true) ∧ Below w.heap.size w w' := by
  refine lawOfR hcan (fun id b hb => ?_) (φ := fun id => if id = 0 then some ⟨b, off, cap⟩ else if id = 1 then some ⟨b2, off2, cap2⟩ else none) (w := w) (fun id hid => ?_) (fun id b' hb' => ?_) ha
  · match id, hb with
    | 0, hb => simp [hget] at hb; subst hb; exact hrw
    | 1, hb => simp [hget] at hb; subst hb; exact hrw2
    | id + 2, hb => simp [hget] at hb
  · have h0 : id ≠ 0 := by simp at hid; omega
    have h1 : id ≠ 1 := by simp at hid; omega
    simp [h0, h1]
  · match id, hb' with
    | 0, hb' =>
      simp [hget] at hb'
      subst hb'
      exact ⟨_, rfl, hB _⟩
    | 1, hb' =>
      simp [hget] at hb'
      subst hb'
      exact ⟨_, rfl, hB2 _⟩
    | id + 2, hb' => simp [hget] at hb'
theorem once_any (x y z : Int) (s : Option Addr) (len cap : Nat) (s2 : Option Addr) (len2 cap2 : Nat) (W : World) (h : IsThs W s len cap) (h2 : IsPrs W s2 len2 cap2) :
    Calls Try.prog 6 #[.agg #[.int .i64 x, .int .i64 y, .int .i64 z], .slice s len cap, .slice s2 len2 cap2] W fun e w' => e = .returned (.bool true) ∧ Below W.heap.size W w' := by
  rcases h.cases with rfl | ⟨hn, b1, off1, g, rfl, hc1, hB1⟩ <;> rcases h2.cases with rfl | ⟨m, b2, off2, k, rfl, rfl, hc2, hB2⟩
  · exact lawOf (canon6ee x y z) (RL.cons (by simp [R, RL]) (RL.cons (by simp [R]) (RL.cons (by simp [R]) RL.nil))) W
  · exact law1 rfl (canon6es m k x y z) hB2 (RL.cons (by simp [R, RL]) (RL.cons (by simp [R]) (RL.cons (by simp [R]; omega) RL.nil)))
  · exact law1 rfl (canon6se len g x y z) hB1 (RL.cons (by simp [R, RL]) (RL.cons (by simp [R]; omega) (RL.cons (by simp [R]) RL.nil)))
  · exact law2 rfl rfl (canon6s len m g k x y z) hB1 hB2 (RL.cons (by simp [R, RL]) (RL.cons (by simp [R]; omega) (RL.cons (by simp [R]; omega) RL.nil)))
end Go.Proofs.Ytefjhkgkdmjopaa
