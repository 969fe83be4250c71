/-
  Chapter 11 by the engine: WindowBounds, WindowIdle.
-/
import Derived.Test.YtefjhkgkdmjopaaT5
import Derived.Test.YtefjhkgkdmjopaaE25
namespace Go.Proofs.Ytefjhkgkdmjopaa
open Go.RowKit
theorem i64n (i : Nat) (h : i < 100000000) : IntKind.i64.wrap ((i : Int) + 1) = ((i + 1 : Nat) : Int) := by rw [wrap_id (by omega) (by omega)]; rfl
abbrev ni (n : Nat) : SV := .int .i64 n
theorem etaT (x : Th) : Th.mk x.k x.t x.n x.s x.f = x := rfl
section
attribute [local irreducible] evalC
set_option maxRecDepth 100000
theorem st8 {m0 len : Nat} {L : List Nat} {M : List Bool} {vals : List SV} {B : List BO} (hm0 : m0 ≤ M.length) (e : Ex) {c : Code} {fr : List SV} {hp : LHeap}
    (hh : evalC C8 0 m0 c fr hp (obsN L M (seen len M.length (atS e vals B)))) {K : KC} (hK : K e (tplF len L vals) (B.map mkB)) : CodeOK Try.prog m0 c fr hp K := CodeOK.at (C := C8) ec gs8 mixed hm0 e hh hK
theorem st8E {m0 len : Nat} {rs : List ResultVar} {L : List Nat} {M : List Bool} {vals : List SV} {B : List BO} (hm0 : m0 ≤ M.length) (e : Ex) {c : Code} {fr : List SV} {hp : LHeap}
    (hh : evalC C8 0 m0 c fr hp (obsE Try.prog rs L M (seen len M.length (atS e vals B)) (fun _ => False))) {K : KC} (hK : K e (tplF len L vals) (B.map mkB)) : CodeOK Try.prog m0 c fr hp K := CodeOK.atE (C := C8) ec gs8 mixed hm0 e hh hK
/-! ### WindowBounds -/
abbrev f5 (n : Nat) (i : SV) : List SV := tplF 78 L5 (v5 n i)
abbrev m5 (n : Nat) (g : Nat → Th) (x y z : Int) (w : Wn) : LHeap := (h5 n g x y z w).map mkB
theorem ids5 (n : Nat) (g : Nat → Th) (x y z : Int) (w : Wn) : allIds 3 (h5 n g x y z w) := ⟨fun _ _ => rfl, rfl, rfl, trivial⟩
theorem wk5 (n : Nat) (g : Nat → Th) (x y z : Int) (w : Wn) {i i' : SV} (hv : ValW (v5 n i') (v5 n i)) (hi : ltAll 3 (svIdsL (v5 n i')) = true) : Weak 1 (f5 n i) (m5 n g x y z w) (f5 n i') (m5 n g x y z w) :=
  tpl_weak (B := h5 n g x y z w) (R := []) hv hi (ids5 n g x y z w) (show 1 ≤ 3 by decide)
/-- What a window that may be passes. -/
theorem bounds_ok {w : Wn} (h : mayW w = true) {x : Int} (hd : w.d = 1200 + x % 64328) {A B : Prop} (hA : A) : bif (bif mayW w then (0 : Int) else (2 : Int)) != (0 : Int) then B
    else bif decide (w.c < IntKind.i64.wrap ((2 : Int) * w.d)) then B else bif decide (w.m < w.c) then B else bif decide (w.g < (0 : Int)) then B else bif decide (w.c ≤ w.g) then B
    else bif w.d != IntKind.i64.wrap ((1200 : Int) + x % (64328 : Int)) then B else A := by
  have hw := mayd h
  rw [chk_ne, h, wrap_id (by omega) (by omega), wrap_id (by omega) (by omega), ← hd]
  refine condF' rfl (condF' (cf (by omega)) (condF' (cf (by omega)) (condF' (cf (by omega)) (condF' (cf (by omega)) (condF' (bne_self_eq_false _) hA)))))
theorem round5 (n : Nat) (g : Nat → Th) (x y z : Int) (i : Nat) (hi : i < min n 100 + 1) : evalC C8 0 1 c5_4 (f5 n (ni i)) (m5 n g x y z (runW2 (madeW x y z) g (min i n))) (obsE Try.prog Try.f5.results.toList L5 M5 (seen 78 3 (atS .normal (v5 n (ni (i + 1 : Nat))) (h5 n g x y z (runW2 (madeW x y z) g (min (i + 1) n))))) (fun _ => False)) := by
  have hw := may_run (may_made x y z) g (min i n)
  rw [p5c, eta]
  refine condT' (cb (by omega)) (condT' (cb (by omega)) (bounds_ok hw ((run_d _ _ _).trans rfl) ?_))
  by_cases h : i < n
  · refine condT' (cb (by omega)) (condT' (cb (by omega)) (condT' (by simp only [Bool.and_true, Nat.zero_add, Int.toNat_natCast]; exact cb h) ⟨hw, ?_⟩))
    rintro r' rfl
    simp only [Nat.zero_add, Int.toNat_natCast]
    rw [i64n i (by omega), etaT, show min (i + 1) n = i + 1 by omega, show min i n = i by omega]
    exact ⟨rfl, rfl, ids5 n g x y z (runW2 (madeW x y z) g (i + 1)), rfl, rfl, rfl⟩
  · refine condF' (cf (by omega)) ?_
    rw [i64n i (by omega), show min (i + 1) n = n by omega, show min i n = n by omega]
    exact ⟨rfl, rfl, ids5 n g x y z _, rfl, rfl, rfl⟩
theorem loop5 (n : Nat) (g : Nat → Th) (x y z : Int) {K : KC} (hK : K (.exit 0) (f5 n .top) (m5 n g x y z (runW2 (madeW x y z) g (min (min n 100 + 1) n)))) : CodeOK Try.prog 1 (.loop c5_4) (f5 n (ni 0)) (m5 n g x y z (madeW x y z)) K := by
  have h0 : runW2 (madeW x y z) g (min 0 n) = madeW x y z := by rw [Nat.zero_min]; rfl
  rw [← h0]
  refine CodeOK.count (n := min n 100 + 1) (F := fun i => f5 n (ni i)) (H := fun i => m5 n g x y z (runW2 (madeW x y z) g (min i n))) (fun i hi => ?_) ?_ hK
  · exact st8E (M := M5) (show 1 ≤ 3 by decide) .normal (round5 n g x y z i hi) ⟨rfl, wk5 n g x y z _ ⟨.inr rfl, .inr rfl, .inr rfl, .inr rfl, trivial⟩ rfl⟩
  · refine st8E (M := M5) (rs := Try.f5.results.toList) (vals := v5 n (ni (min n 100 + 1))) (B := h5 n g x y z (runW2 (madeW x y z) g (min (min n 100 + 1) n))) (show 1 ≤ 3 by decide) (.exit 0) ?_ ⟨rfl, wk5 n g x y z _ ⟨.inr rfl, .inr rfl, .inr rfl, .inl rfl, trivial⟩ rfl⟩
    rw [p5c]
    by_cases h : n ≤ 100
    · refine condF' (cf (by omega)) ?_
      exact ⟨rfl, rfl, ids5 n g x y z _, rfl, rfl, rfl⟩
    · refine condT' (cb (by omega)) (condF' (cf (by omega)) ?_)
      exact ⟨rfl, rfl, ids5 n g x y z _, rfl, rfl, rfl⟩
theorem canon5 (n : Nat) (g : Nat → Th) (x y z : Int) : Canon Try.prog 5 [.agg [.int .i64 x, .int .i64 y, .int .i64 z], .slice 0 0 5 n] [some (bT n g)] fun v _ => v = .bool true := by
  refine CodeOK.body Try.func5 (by kernel_rfl) ?_
  rw [code5]
  refine CodeOK.frontN (C := C8) ec gs8 mixed (u := 0) (len := 78) (L := L5) (M := M5) [c5_0, c5_1, c5_2] (show 1 ≤ 3 by decide) (Q := atS .normal (v5 n .top) (h5 n g x y z (madeW x y z))) ?_ ?_
  · show evalC C8 0 1 (.seq c5_0 (.seq c5_1 (.seq c5_2 .skip))) (enterS 78 _) _ _
    rw [p5a]
    rintro r' rfl
    exact ⟨rfl, rfl, ids5 n g x y z _, rfl, rfl, rfl⟩
  rintro e vals B ⟨rfl, rfl, rfl⟩
  refine CodeOK.seq (CodeOK.seq (st8 (M := M5) (vals := v5 n (ni 0)) (B := h5 n g x y z (madeW x y z)) (show 1 ≤ 3 by decide) .normal ?_ (CodeOK.block (loop5 n g x y z ?_))))
  · show evalC C8 0 1 c5_3 (f5 n .top) (m5 n g x y z (madeW x y z)) _
    rw [p5b]
    exact ⟨rfl, rfl, ids5 n g x y z _, rfl, rfl, rfl⟩
  show CodeOK Try.prog 1 c5_5 (f5 n .top) (m5 n g x y z _) (endK Try.prog Try.f5.results.toList _)
  refine CodeOK.eval (C := C8) ec gs8 mixed 0 ?_
  show evalC C8 0 1 c5_5 (f5 n .top) (m5 n g x y z _) (endK Try.prog Try.f5.results.toList fun v _ => v = .bool true)
  rw [p5d n g x y z _ (fun v => v = .bool true)]
theorem canon5e (x y z : Int) : Canon Try.prog 5 [.agg [.int .i64 x, .int .i64 y, .int .i64 z], .eslice] [] fun v _ => v = .bool true := by
  refine evalF_ok (C := C8) ec gs8 mixed (u := 64) Try.func5 (by kernel_rfl) ?_
  show evalF C8 64 Try.f5 [.agg [.int .i64 x, .int .i64 y, .int .i64 z], .eslice] [] _
  rw [t5e x y z (fun v => v = .bool true)]
  rintro r' rfl
  exact bounds_ok (may_made x y z) rfl rfl
/-! ### WindowIdle -/
abbrev f9 (n : Nat) (i : SV) : List SV := tplF 95 L9 (v9 n i)
abbrev m9 (n : Nat) (g : Nat → Th) (x y z a b : Int) (w : Wn) : LHeap := (h9 n g x y z a b w).map mkB
theorem ids9 (n : Nat) (g : Nat → Th) (x y z a b : Int) (w : Wn) : allIds 4 (h9 n g x y z a b w) := ⟨fun _ _ => rfl, rfl, rfl, rfl, trivial⟩
theorem wk9 (n : Nat) (g : Nat → Th) (x y z a b : Int) (w : Wn) {i i' : SV} (hv : ValW (v9 n i') (v9 n i)) (hi : ltAll 4 (svIdsL (v9 n i')) = true) : Weak 1 (f9 n i) (m9 n g x y z a b w) (f9 n i') (m9 n g x y z a b w) :=
  tpl_weak (B := h9 n g x y z a b w) (R := []) hv hi (ids9 n g x y z a b w) (show 1 ≤ 4 by decide)
theorem loop9 (n : Nat) (g : Nat → Th) (x y z a b : Int) {K : KC} (hK : K (.exit 0) (f9 n .top) (m9 n g x y z a b (runW2 (madeW x y z) g (min n 60)))) : CodeOK Try.prog 1 (.loop c9_3) (f9 n (ni 0)) (m9 n g x y z a b (madeW x y z)) K := by
  refine CodeOK.count (n := min n 60) (F := fun i => f9 n (ni i)) (H := fun i => m9 n g x y z a b (runW2 (madeW x y z) g i)) (fun i hi => ?_) ?_ hK
  · refine st8E (M := M9) (rs := Try.f9.results.toList) (vals := v9 n (ni (i + 1 : Nat))) (B := h9 n g x y z a b (runW2 (madeW x y z) g (i + 1))) (show 1 ≤ 4 by decide) .normal ?_ ⟨rfl, wk9 n g x y z a b _ ⟨.inr rfl, .inr rfl, .inr rfl, .inr rfl, trivial⟩ rfl⟩
    rw [p9c, eta]
    refine condT' (cb (by omega)) (condT' (cb (by omega)) (condT' (cb (by omega)) (condT' (by simp only [Bool.and_true, Nat.zero_add, Int.toNat_natCast]; exact cb (by omega)) ⟨may_run (may_made x y z) g i, ?_⟩)))
    rintro r' rfl
    simp only [Nat.zero_add, Int.toNat_natCast]
    rw [i64n i (by omega), etaT]
    exact ⟨rfl, rfl, ids9 n g x y z a b (runW2 (madeW x y z) g (i + 1)), rfl, rfl, rfl⟩
  · refine st8E (M := M9) (rs := Try.f9.results.toList) (vals := v9 n (ni (min n 60))) (B := h9 n g x y z a b (runW2 (madeW x y z) g (min n 60))) (show 1 ≤ 4 by decide) (.exit 0) ?_ ⟨rfl, wk9 n g x y z a b _ ⟨.inr rfl, .inr rfl, .inr rfl, .inl rfl, trivial⟩ rfl⟩
    rw [p9c]
    by_cases h : n ≤ 60
    · refine condF' (cf (by omega)) ?_
      exact ⟨rfl, rfl, ids9 n g x y z a b _, rfl, rfl, rfl⟩
    · refine condT' (cb (by omega)) (condF' (cf (by omega)) ?_)
      exact ⟨rfl, rfl, ids9 n g x y z a b _, rfl, rfl, rfl⟩
theorem ackOk_b (a b : Int) : ackOk (a % 9007199254740992) (IntKind.i64.wrap (1 + b % 65535)) = true ∧ IntKind.i64.wrap (1 + b % 65535) = 1 + b % 65535 := by
  have ew : IntKind.i64.wrap (1 + b % 65535) = 1 + b % 65535 := wrap_id (by omega) (by omega)
  rw [ew]
  refine ⟨?_, rfl⟩
  unfold ackOk
  rw [isT_mod, cb (show 1 ≤ 1 + b % 65535 by omega), cb (show 1 + b % 65535 ≤ 65535 by omega)]
  rfl
theorem ack_keeps (w : Wn) (t n : Int) (f : Bool) : (ack1 w t n f).t = w.t ∧ (ack1 w t n f).s = w.s := by
  unfold ack1
  cases !f || !behV w t with
  | true => exact ⟨rfl, rfl⟩
  | false => cases slowV w <;> exact ⟨rfl, rfl⟩
theorem idle_tail {w : Wn} (hw : mayW w = true) (a b : Int) (C : Prop) : ∀ (r' : Wn) (e : Int),
    r' = chW w (ackOk (a % 9007199254740992) (IntKind.i64.wrap (1 + b % 65535))) (ack1 w (a % 9007199254740992) (IntKind.i64.wrap (1 + b % 65535)) false) → e = chE w (ackOk (a % 9007199254740992) (IntKind.i64.wrap (1 + b % 65535))) →
    ∀ (r2 : Wn) (e2 : Int), r2 = chW w (ackOk (a % 9007199254740992) (IntKind.i64.wrap (1 + b % 65535))) (ack1 w (a % 9007199254740992) (IntKind.i64.wrap (1 + b % 65535)) true) → e2 = chE w (ackOk (a % 9007199254740992) (IntKind.i64.wrap (1 + b % 65535))) →
    bif e == (0 : Int) then bif e2 == (0 : Int) then
      bif r'.d == w.d && (r'.m == w.m && (r'.c == w.c && (r'.t == w.t && (r'.s == w.s && (r'.g == w.g && true))))) then bif decide (w.c ≤ r2.c) then bif r2.t == w.t then bif r2.s == w.s then True else C else C else C else C else C else C := by
  obtain ⟨h1, h2⟩ := ackOk_b a b
  rw [h1, h2]
  rintro r' e rfl rfl r2 e2 rfl rfl
  rw [(ch_yes hw rfl).1, (ch_yes hw rfl).1, (ch_yes (r := w) hw rfl).2]
  have e1 : ack1 w (a % 9007199254740992) (1 + b % 65535) false = w := rfl
  have h3 := (may_ack hw (a % 9007199254740992) (n := 1 + b % 65535) (by omega) true).2
  obtain ⟨h4, h5⟩ := ack_keeps w (a % 9007199254740992) (1 + b % 65535) true
  rw [e1, h4, h5, cb h3]
  simp only [beq_self_eq_true, Bool.and_self, cond_true]
theorem canon9 (n : Nat) (g : Nat → Th) (x y z a b : Int) : Canon Try.prog 9 [.agg [.int .i64 x, .int .i64 y, .int .i64 z], .slice 0 0 5 n, .agg [.int .i64 a, .int .i64 b]] [some (bT n g)] fun v _ => v = .bool true := by
  refine CodeOK.body Try.func9 (by kernel_rfl) ?_
  rw [code9]
  refine CodeOK.frontN (C := C8) ec gs8 mixed (u := 0) (len := 95) (L := L9) (M := M9) [c9_0, c9_1] (show 1 ≤ 4 by decide) (Q := atS .normal (v9 n .top) (h9 n g x y z a b (madeW x y z))) ?_ ?_
  · show evalC C8 0 1 (.seq c9_0 (.seq c9_1 .skip)) (enterS 95 _) _ _
    rw [p9a]
    rintro r' rfl
    exact ⟨rfl, rfl, ids9 n g x y z a b _, rfl, rfl, rfl⟩
  rintro e vals B ⟨rfl, rfl, rfl⟩
  refine CodeOK.seq (CodeOK.seq (st8 (M := M9) (vals := v9 n (ni 0)) (B := h9 n g x y z a b (madeW x y z)) (show 1 ≤ 4 by decide) .normal ?_ (CodeOK.block (loop9 n g x y z a b ?_))))
  · show evalC C8 0 1 c9_2 (f9 n .top) (m9 n g x y z a b (madeW x y z)) _
    rw [p9b]
    exact ⟨rfl, rfl, ids9 n g x y z a b _, rfl, rfl, rfl⟩
  show CodeOK Try.prog 1 c9_4 (f9 n .top) (m9 n g x y z a b _) (endK Try.prog Try.f9.results.toList _)
  refine CodeOK.eval (C := C8) ec gs8 mixed 0 ?_
  show evalC C8 0 1 c9_4 (f9 n .top) (m9 n g x y z a b _) (endK Try.prog Try.f9.results.toList fun v _ => v = .bool true)
  rw [p9d n g x y z a b _ (fun v => v = .bool true), eta]
  have := idle_tail (may_run (may_made x y z) g (min n 60)) a b (SV.bool false = SV.bool true)
  simpa only [eq_self] using this
theorem canon9e (x y z a b : Int) : Canon Try.prog 9 [.agg [.int .i64 x, .int .i64 y, .int .i64 z], .eslice, .agg [.int .i64 a, .int .i64 b]] [] fun v _ => v = .bool true := by
  refine evalF_ok (C := C8) ec gs8 mixed (u := 64) Try.func9 (by kernel_rfl) ?_
  show evalF C8 64 Try.f9 [.agg [.int .i64 x, .int .i64 y, .int .i64 z], .eslice, .agg [.int .i64 a, .int .i64 b]] [] _
  rw [t9e x y z a b (fun v => v = .bool true)]
  rintro r' rfl
  have := idle_tail (may_made x y z) a b (SV.bool false = SV.bool true)
  simpa only [eq_self] using this
end
/-- A slice of things that came in. -/
def IsThs (w : World) (a : Option Addr) (len cap : Nat) : Prop :=
  len = 0 ∨ ∃ x : Addr, a = some x ∧ len ≤ cap ∧ ∀ r, r < len → (∀ j, j < 4 → ∃ n : Int, w.cell? (x.add (r * 5 + j)) = some (.int .i64 n)) ∧ ∃ b : Bool, w.cell? (x.add (r * 5 + 4)) = some (.bool b)
def numAt : Option Value → Int
  | some (.int _ n) => n
  | _ => 0
def boolAt : Option Value → Bool
  | some (.bool b) => b
  | _ => false
theorem add_plain (blk off k : Nat) : (⟨blk, off, none⟩ : Addr).add k = ⟨blk, off + k, none⟩ := by
  unfold Addr.add
  split
  · rename_i h; rw [h]; rfl
  · rfl
theorem IsThs.cases {w : World} {a : Option Addr} {len cap : Nat} (h : IsThs w a len cap) : len = 0 ∨ 0 < len ∧ ∃ (b off : Nat) (g : Nat → Th), a = some ⟨b, off, none⟩ ∧ len ≤ cap ∧ ∀ φ : Phi, BAt φ ⟨b, off, cap⟩ (bT len g) w := by
  rcases Nat.eq_zero_or_pos len with h0 | hp
  · exact .inl h0
  refine .inr ⟨hp, ?_⟩
  rcases h with h | ⟨x, rfl, hl, hc⟩
  · omega
  · obtain ⟨n0, hn0⟩ := (hc 0 hp).1 0 (by omega)
    have hn0 : w.cell? x = some (.int .i64 n0) := by simpa [Addr.add] using hn0
    obtain ⟨blk, off, spot⟩ := x
    have hs : spot = none := by simpa using World.cell?_spot hn0
    subst hs
    unfold World.cell? at hn0
    split at hn0
    · rename_i c ty fz hb
      have get : ∀ k, w.cell? ((⟨blk, off, none⟩ : Addr).add k) = c[off + k]? := fun k => by
        rw [add_plain]
        unfold World.cell?
        simp [hb]
      have hcell : ∀ r, r < len → (∀ j, j < 4 → ∃ n : Int, c[off + (r * 5 + j)]? = some (.int .i64 n)) ∧ ∃ b : Bool, c[off + (r * 5 + 4)]? = some (.bool b) := by
        intro r hr
        obtain ⟨h1, h2⟩ := hc r hr
        refine ⟨fun j hj => ?_, ?_⟩
        · obtain ⟨n, hn⟩ := h1 j hj
          exact ⟨n, by rw [← get]; exact hn⟩
        · obtain ⟨b, hb'⟩ := h2
          exact ⟨b, by rw [← get]; exact hb'⟩
      refine ⟨blk, off, fun r => ⟨numAt c[off + (r * 5 + 0)]?, numAt c[off + (r * 5 + 1)]?, numAt c[off + (r * 5 + 2)]?, numAt c[off + (r * 5 + 3)]?, boolAt c[off + (r * 5 + 4)]?⟩, rfl, hl, fun φ => ⟨c, ty, fz, hb, (fun h => nomatch h), fun r hr => ⟨?_, rfl⟩⟩⟩
      have hr : r < len := hr
      obtain ⟨hi, b4, q4⟩ := hcell r hr
      obtain ⟨a0, q0⟩ := hi 0 (by omega)
      obtain ⟨a1, q1⟩ := hi 1 (by omega)
      obtain ⟨a2, q2⟩ := hi 2 (by omega)
      obtain ⟨a3, q3⟩ := hi 3 (by omega)
      have e : (c.toList.drop (off + r * 5)).take 5 = [.int .i64 a0, .int .i64 a1, .int .i64 a2, .int .i64 a3, .bool b4] := by
        apply List.ext_getElem?
        intro j
        rw [List.getElem?_take]
        rcases j with _ | _ | _ | _ | _ | j
        · simpa [Nat.add_assoc] using q0
        · simpa [Nat.add_assoc] using q1
        · simpa [Nat.add_assoc] using q2
        · simpa [Nat.add_assoc] using q3
        · simpa [Nat.add_assoc] using q4
        · simp only [show ¬ (j + 1 + 1 + 1 + 1 + 1 < 5) by omega, if_false]
          rfl
      show RL φ (tC ⟨numAt c[off + (r * 5 + 0)]?, numAt c[off + (r * 5 + 1)]?, numAt c[off + (r * 5 + 2)]?, numAt c[off + (r * 5 + 3)]?, boolAt c[off + (r * 5 + 4)]?⟩) ((c.toList.drop (off + r * 5)).take 5)
      rw [e, q0, q1, q2, q3, q4]
      simp [RL, R, numAt, boolAt, tC]
    · cases hn0
/-- A law over one slice. -/
theorem law1 {f : FuncId} {args : List SV} {vs : List Value} {B : Blk} (hrw : B.rw = false) {b off cap : Nat} (hcan : Canon Try.prog f args [some B] fun v _ => v = .bool true) {w : World} (hB : ∀ φ : Phi, BAt φ ⟨b, off, cap⟩ B w)
    (ha : RL (fun id => if id = 0 then some ⟨b, off, cap⟩ else none) args vs) : Calls Try.prog f vs.toArray w fun e w' => e = .returned (.bool true) ∧ Below w.heap.size w w' := by
  refine lawOfR hcan (fun id b hb => ?_) (φ := fun id => if id = 0 then some ⟨b, off, cap⟩ else none) (w := w) (fun id hid => ?_) (fun id b' hb' => ?_) ha
  · cases id with
    | zero => simp [hget] at hb; subst hb; exact hrw
    | succ id => simp [hget] at hb
  · have : id ≠ 0 := by simp at hid; omega
    simp [this]
  · cases id with
    | succ id => simp [hget] at hb'
    | zero =>
      simp [hget] at hb'
      subst hb'
      exact ⟨_, rfl, hB _⟩
theorem bounds_any (x y z : Int) (s : Option Addr) (len cap : Nat) (W : World) (h : IsThs W s len cap) : Calls Try.prog 5 #[.agg #[.int .i64 x, .int .i64 y, .int .i64 z], .slice s len cap] W fun e w' => e = .returned (.bool true) ∧ Below W.heap.size W w' := by
  rcases h.cases with rfl | ⟨hn, b1, off1, g, rfl, hc1, hB1⟩
  · exact lawOf (canon5e x y z) (RL.cons (by simp [R, RL]) (RL.cons (by simp [R]) RL.nil)) W
  · exact law1 rfl (canon5 len g x y z) hB1 (RL.cons (by simp [R, RL]) (RL.cons (by simp [R]; omega) RL.nil))
theorem idle_any (x y z : Int) (s : Option Addr) (len cap : Nat) (a b : Int) (W : World) (h : IsThs W s len cap) : Calls Try.prog 9 #[.agg #[.int .i64 x, .int .i64 y, .int .i64 z], .slice s len cap, .agg #[.int .i64 a, .int .i64 b]] W fun e w' => e = .returned (.bool true) ∧ Below W.heap.size W w' := by
  rcases h.cases with rfl | ⟨hn, b1, off1, g, rfl, hc1, hB1⟩
  · exact lawOf (canon9e x y z a b) (RL.cons (by simp [R, RL]) (RL.cons (by simp [R]) (RL.cons (by simp [R, RL]) RL.nil))) W
  · exact law1 rfl (canon9 len g x y z a b) hB1 (RL.cons (by simp [R, RL]) (RL.cons (by simp [R]; omega) (RL.cons (by simp [R, RL]) RL.nil)))
end Go.Proofs.Ytefjhkgkdmjopaa
