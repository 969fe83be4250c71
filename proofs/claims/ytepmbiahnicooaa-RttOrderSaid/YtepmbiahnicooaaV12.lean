/-
  RttOrder: its loop, by rules; once with numbers of how much longer, once without.
-/
import Derived.Test.YtepmbiahnicooaaV9b
import Derived.Test.YtepmbiahnicooaaP3
namespace Go.Proofs.Ytepmbiahnicooaa
open Go.RowKit

theorem inj4 {k : Nat} (h : 3 ≤ k) : ∀ (i j x : Nat), [0, 1, 2, k][i]? = some x → [0, 1, 2, k][j]? = some x → i = j := by
  intro i j x h1 h2
  match i, j with
  | 0, 0 => rfl
  | 1, 1 => rfl
  | 2, 2 => rfl
  | 3, 3 => rfl
  | 0, 1 => simp at h1 h2; omega
  | 0, 2 => simp at h1 h2; omega
  | 0, 3 => simp at h1 h2; omega
  | 1, 0 => simp at h1 h2; omega
  | 1, 2 => simp at h1 h2; omega
  | 1, 3 => simp at h1 h2; omega
  | 2, 0 => simp at h1 h2; omega
  | 2, 1 => simp at h1 h2; omega
  | 2, 3 => simp at h1 h2; omega
  | 3, 0 => simp at h1 h2; omega
  | 3, 1 => simp at h1 h2; omega
  | 3, 2 => simp at h1 h2; omega
  | i + 4, _ => simp at h1
  | 0, j + 4 => simp at h2
  | 1, j + 4 => simp at h2
  | 2, j + 4 => simp at h2
  | 3, j + 4 => simp at h2
theorem idsR (k : Nat) (e : Nat → Int) (m : Nat) : idsOkB m (.raw (some (bR k e))) := fun _ _ => rfl
/-- What is no pointer's block. -/
def Dry (o : Option Blk) : Prop := ∀ b, o = some b → ∀ r, svIdsL (b.rd r) = []
theorem Dry.ok {o : Option Blk} (h : Dry o) (m : Nat) : idsOkB m (.raw o) := by
  cases o with
  | none => trivial
  | some b => exact fun r _ => by rw [h b rfl r]; rfl
theorem dryR (k : Nat) (e : Nat → Int) : Dry (some (bR k e)) := fun _ h => by simp at h; subst h; exact fun _ => rfl
theorem dryN : Dry none := fun _ h => (nomatch h)
abbrev f6 (N : Nat) (more out i : SV) : List SV := tplF 77 L6 (v6 N more out i)
abbrev m6 (n : Nat) (g : Nat → Nat → Int) (o : Option Blk) (N : Nat) (q : Nat → Nat → Int) : LHeap := (h6 n g o N q).map mkB
abbrev m6s (n : Nat) (g : Nat → Nat → Int) (o : Option Blk) (N : Nat) (q : Nat → Nat → Int) (M : Nat) (p : Nat → Nat → Int) : LHeap := (h6s n g o N q M p).map mkB
theorem grown6 {n : Nat} {g : Nat → Nat → Int} {o : Option Blk} (ho : Dry o) {N : Nat} {q : Nat → Nat → Int} {k M : Nat} {p : Nat → Nat → Int} {more i : SV} {hp : LHeap} {b : Blk} (hk : 3 ≤ k) (hm : ren (fun i => [0, 1, 2, k][i]?) more = some more) (hi : svIds i = [])
    (h0 : hget hp 0 = some (bT n g)) (h1 : hget hp 1 = o) (h2 : hget hp 2 = some (bW N q)) (hb : hget hp k = some b) (hs : b.sz = 3) (hn : b.n = M) (hrw : b.rw = true) (ht : b.ty = 32)
    (hr : ∀ r, r < M → b.rd r = [.int .i64 (p r 0), .int .i64 (p r 1), .int .i64 (p r 2)]) : Weak 2 (f6 N more (.slice k 0 3 M) i) hp (f6 N more (.slice 3 0 3 M) i) (m6s n g o N q M p) := by
  refine ren_weak (m0 := 2) [0, 1, 2, k] rfl (by simp [h6s]) (fun j hj => by
    rcases (by omega : j = 0 ∨ j = 1) with rfl | rfl <;> rfl) ⟨.inr rfl, .inr hm, .inr rfl, .inr rfl, .inr (ren_id_of hi _), trivial⟩ (fun id b1 hb1 => ?_) (inj4 hk)
  match id, hb1 with
  | 0, hb1 =>
    have hb1 : some (bT n g) = some b1 := hb1
    obtain rfl := Option.some.inj hb1
    exact ⟨0, _, rfl, h0, WB.of_rows rfl (Nat.le_refl _) (fun h => h) (fun _ => rfl) fun _ _ => ⟨rfl, rfl⟩⟩
  | 1, hb1 =>
    have hb1 : o = some b1 := hb1
    exact ⟨1, b1, rfl, h1.trans hb1, WB.of_rows rfl (Nat.le_refl _) (fun h => h) (fun _ => rfl) fun r _ => ⟨rfl, ho b1 hb1 r⟩⟩
  | 2, hb1 =>
    have hb1 : some (bW N q) = some b1 := hb1
    obtain rfl := Option.some.inj hb1
    exact ⟨2, _, rfl, h2, WB.of_rows rfl (Nat.le_refl _) (fun h => h) (fun _ => rfl) fun _ _ => ⟨rfl, rfl⟩⟩
  | 3, hb1 =>
    have hb1 : some (bW M p) = some b1 := hb1
    obtain rfl := Option.some.inj hb1
    exact ⟨k, b, rfl, hb, WB.of_rows hs.symm (by rw [hn]; exact Nat.le_refl _) (fun _ => hrw) (fun _ => ht.symm) fun r hr' => ⟨(hr r hr').symm, rfl⟩⟩
  | id + 4, hb1 => exact nomatch (show (none : Option Blk) = some b1 from hb1)
/-- What stands behind so many rounds. -/
def I6 (n : Nat) (g : Nat → Nat → Int) (o : Option Blk) (N : Nat) (q : Nat → Nat → Int) (more : SV) (i : Nat) (fr : List SV) (hp : LHeap) : Prop :=
  (i = 0 ∧ fr = f6 N more .nilSlice (.int .i64 (0 : Nat)) ∧ hp = m6 n g o N q) ∨ (0 < i ∧ ∃ p, Longer q p i ∧ fr = f6 N more (.slice 3 0 3 i) (.int .i64 i) ∧ hp = m6s n g o N q i p)
/-- One row more. -/
def ext (p : Nat → Nat → Int) (i : Nat) (x y z : Int) (r j : Nat) : Int := if r = i then (if j = 0 then x else if j = 1 then y else z) else p r j
theorem ext_longer {q p : Nat → Nat → Int} {i : Nat} (h : Longer q p i) {x : Int} (h1 : q i 0 ≤ x) (h2 : x ≤ 9007199254740991) : Longer q (ext p i x (q i 1) (q i 2)) (i + 1) := by
  refine ⟨fun r hr => ?_, fun r hr => ?_, fun r hr => ?_, fun r hr => ?_⟩ <;> by_cases e : r = i
  · subst e; simpa [ext] using h1
  · simpa [ext, e] using h.le r (by omega)
  · subst e; simpa [ext] using h2
  · simpa [ext, e] using h.hi r (by omega)
  · subst e; simp [ext]
  · simpa [ext, e] using h.held r (by omega)
  · subst e; simp [ext]
  · simpa [ext, e] using h.at_ r (by omega)
theorem none_longer {q p : Nat → Nat → Int} : Longer q p 0 := ⟨fun r h => by omega, fun r h => by omega, fun r h => by omega, fun r h => by omega⟩
def QN (n : Nat) (g : Nat → Nat → Int) (o : Option Blk) (N : Nat) (q : Nat → Nat → Int) (more : SV) : Ex → List SV → List BO → Prop := fun x vals B => x = .normal ∧ ∃ y B1 B2, q 0 0 ≤ y ∧ y ≤ 9007199254740991 ∧ vals = v6 N more (.slice 5 0 3 1) (.int .i64 ((1 : Nat) : Int)) ∧ B = h6 n g o N q ++ [B1, B2, .rows 3 1 true 32 [[.int .i64 y, .int .i64 (q 0 1), .int .i64 (q 0 2)]]]
def QS (n : Nat) (g : Nat → Nat → Int) (o : Option Blk) (N : Nat) (q : Nat → Nat → Int) (more : SV) (M : Nat) (p : Nat → Nat → Int) : Ex → List SV → List BO → Prop := fun x vals B => x = .normal ∧ ∃ y B1 B2 b, q (M + 1) 0 ≤ y ∧ y ≤ 9007199254740991 ∧ vals = v6 N more (.slice 6 0 3 (M + 2)) (.int .i64 ((M + 2 : Nat) : Int)) ∧ B = h6 n g o N q ++ [.raw none, B1, B2, .raw (some b)] ∧ b.sz = 3 ∧ b.n = M + 2 ∧ b.rw = true ∧ b.ty = 32 ∧
  ∀ r, r < M + 2 → b.rd r = [.int .i64 (ext p (M + 1) y (q (M + 1) 1) (q (M + 1) 2) r 0), .int .i64 (ext p (M + 1) y (q (M + 1) 1) (q (M + 1) 2) r 1), .int .i64 (ext p (M + 1) y (q (M + 1) 1) (q (M + 1) 2) r 2)]
theorem ext_new (p : Nat → Nat → Int) (i : Nat) (x y z : Int) : [SV.int .i64 x, .int .i64 y, .int .i64 z] = [.int .i64 (ext p i x y z i 0), .int .i64 (ext p i x y z i 1), .int .i64 (ext p i x y z i 2)] := by simp [ext]
theorem ext_old (p : Nat → Nat → Int) {i r : Nat} (h : r < i) (x y z : Int) : [SV.int .i64 (p r 0), .int .i64 (p r 1), .int .i64 (p r 2)] = [.int .i64 (ext p i x y z r 0), .int .i64 (ext p i x y z r 1), .int .i64 (ext p i x y z r 2)] := by simp [ext, show r ≠ i by omega]
set_option maxRecDepth 100000 in
theorem roundN6 (n : Nat) (g : Nat → Nat → Int) (k : Nat) (e : Nat → Int) (N : Nat) (q : Nat → Nat → Int) (hN : BrgP false N q) : evalC C6 0 2 c6_4 (f6 N (.slice 1 0 1 k) .nilSlice (.int .i64 (0 : Nat))) (m6 n g (some (bR k e)) N q) (obsN L6 [false, false, false, true, true, true] (seen 77 6 (QN n g (some (bR k e)) N q (.slice 1 0 1 k)))) := by
  have h1 := hN.lo
  rw [p6rn, cb (show ((0 : Nat) : Int) < N by omega), i64n 0 (by omega)]
  simp only [cond_true, show (0 : Nat) + ((0 : Nat) : Int).toNat = 0 from rfl, cb (show 0 < N by omega), Nat.zero_add, Bool.and_true]
  by_cases hk : 0 < k
  · have t0 : ((0 : Nat) : Int).tmod (k : Int) = 0 := Int.zero_tmod _
    have q0 := (hN.ok 0 0).lo
    have q1 := (hN.ok 0 0).hi
    rw [cb (show (0 : Int) < (k : Int) by omega), show ((k : Int) == 0) = false by simp; omega, t0, wrap_id (n := 9007199254740992 - q 0 0) (by omega) (by omega)]
    simp only [cond_true, cond_false, cb (show (0 : Int) < (k : Int) by omega), show (0 : Int).toNat = 0 from rfl, cb hk, cb (show (0 : Int) < 9007199254740992 - q 0 0 by omega), cb (show 9007199254740992 - q 0 0 ≤ 9223372036854775807 by omega), Bool.and_self]
    rintro r ⟨r0, r1, -⟩
    rw [wrap_id (n := q 0 0 + r) (by omega) (by omega)]
    exact ⟨rfl, rfl, ⟨fun _ _ => rfl, (dryR k e).ok 6, fun _ _ => rfl, rfl, rfl, rfl, trivial⟩, rfl, q 0 0 + r, _, _, by omega, by omega, rfl, rfl⟩
  · rw [cf (show ¬ (0 : Int) < (k : Int) by omega), cond_false]
    exact ⟨rfl, rfl, ⟨fun _ _ => rfl, (dryR k e).ok 6, fun _ _ => rfl, rfl, rfl, rfl, trivial⟩, rfl, q 0 0, _, _, Int.le_refl _, (hN.ok 0 0).hi, rfl, rfl⟩
set_option maxRecDepth 100000 in
theorem roundS6 (n : Nat) (g : Nat → Nat → Int) (k : Nat) (e : Nat → Int) (N : Nat) (q : Nat → Nat → Int) (hN : BrgP false N q) (M : Nat) (p : Nat → Nat → Int) (hM : M + 1 < N) : evalC C6 0 2 c6_4 (f6 N (.slice 1 0 1 k) (.slice 3 0 3 (M + 1)) (.int .i64 (M + 1 : Nat))) (m6s n g (some (bR k e)) N q (M + 1) p) (obsN L6 [false, false, false, false, true, true, false] (seen 77 7 (QS n g (some (bR k e)) N q (.slice 1 0 1 k) M p))) := by
  have h60 := hN.hi
  rw [p6rs, cb (show ((M + 1 : Nat) : Int) < N by omega), i64n (M + 1) (by omega)]
  simp only [cond_true, Nat.zero_add, Int.toNat_natCast, cb hM, Bool.and_true, cb (show M + 1 + 1 ≤ 9223372036854775807 by omega), cb (show (M + 1 + 1) * 24 ≤ 140737488355328 by omega), Bool.and_self]
  by_cases hk : 0 < k
  · have t0 : (((M + 1 : Nat) : Int).tmod (k : Int)) = (((M + 1) % k : Nat) : Int) := by rw [Int.tmod_eq_emod_of_nonneg (by omega)]; rfl
    have t1 := Nat.mod_lt (M + 1) hk
    have q0 := (hN.ok (M + 1) 0).lo
    have q1 := (hN.ok (M + 1) 0).hi
    rw [cb (show (0 : Int) < (k : Int) by omega), show ((k : Int) == 0) = false by simp; omega, t0, wrap_id (n := 9007199254740992 - q (M + 1) 0) (by omega) (by omega)]
    simp only [cond_true, cond_false, cb (show (((M + 1) % k : Nat) : Int) < (k : Int) by omega), Int.toNat_natCast, cb t1, cb (show (0 : Int) < 9007199254740992 - q (M + 1) 0 by omega), cb (show 9007199254740992 - q (M + 1) 0 ≤ 9223372036854775807 by omega), Bool.and_self]
    rintro r ⟨r0, r1, -⟩
    rw [wrap_id (n := q (M + 1) 0 + r) (by omega) (by omega)]
    refine ⟨rfl, rfl, ⟨fun _ _ => rfl, (dryR k e).ok 7, fun _ _ => rfl, trivial, rfl, rfl, fun r hr => ?_, trivial⟩, rfl, q (M + 1) 0 + r, _, _, _, by omega, by omega, rfl, rfl, rfl, rfl, rfl, rfl, fun r hr => ?_⟩
    · dsimp only
      by_cases h : r < M + 1
      · rw [cb h]; rfl
      · obtain rfl : r = M + 1 := by have hr : r < M + 1 + 1 := hr; omega
        rw [cf h, cond_false, Nat.sub_self]; rfl
    · dsimp only
      by_cases h : r < M + 1
      · rw [cb h]; exact ext_old p h _ _ _
      · obtain rfl : r = M + 1 := by omega
        rw [cf h, cond_false, Nat.sub_self]; exact ext_new p (M + 1) _ _ _
  · rw [cf (show ¬ (0 : Int) < (k : Int) by omega), cond_false]
    refine ⟨rfl, rfl, ⟨fun _ _ => rfl, (dryR k e).ok 7, fun _ _ => rfl, trivial, rfl, rfl, fun r hr => ?_, trivial⟩, rfl, q (M + 1) 0, _, _, _, Int.le_refl _, (hN.ok (M + 1) 0).hi, rfl, rfl, rfl, rfl, rfl, rfl, fun r hr => ?_⟩
    · dsimp only
      by_cases h : r < M + 1
      · rw [cb h]; rfl
      · obtain rfl : r = M + 1 := by have hr : r < M + 1 + 1 := hr; omega
        rw [cf h, cond_false, Nat.sub_self]; rfl
    · dsimp only
      by_cases h : r < M + 1
      · rw [cb h]; exact ext_old p h _ _ _
      · obtain rfl : r = M + 1 := by omega
        rw [cf h, cond_false, Nat.sub_self]; exact ext_new p (M + 1) _ _ _
set_option maxRecDepth 100000 in
theorem exit6 (n : Nat) (g : Nat → Nat → Int) (k : Nat) (e : Nat → Int) (N : Nat) (q : Nat → Nat → Int) (M : Nat) (p : Nat → Nat → Int) (hM : N = M + 1) (K : KC) (hK : K (.exit 0) (f6 N (.slice 1 0 1 k) (.slice 3 0 3 (M + 1)) (.int .i64 (M + 1 : Nat))) ((h6s n g (some (bR k e)) N q (M + 1) p ++ no3).map mkB)) :
    CodeOK Try.prog 2 c6_4 (f6 N (.slice 1 0 1 k) (.slice 3 0 3 (M + 1)) (.int .i64 (M + 1 : Nat))) (m6s n g (some (bR k e)) N q (M + 1) p) K := by
  refine (CodeOK.lookN (C := C6) ec gs6 mixed (u := 0) (len := 77) (L := L6) (M := [false, false, false, false, true, true, false]) (Nat.le_add_left 2 5)
    (Q := fun x vals B => x = .exit 0 ∧ vals = v6 N (.slice 1 0 1 k) (.slice 3 0 3 (M + 1)) (.int .i64 ((M + 1 : Nat) : Int)) ∧ B = h6s n g (some (bR k e)) N q (M + 1) p ++ no3) ?_).st ?_
  · rw [p6rs, cf (show ¬ ((M + 1 : Nat) : Int) < N by omega)]
    exact ⟨rfl, rfl, ⟨fun _ _ => rfl, (dryR k e).ok 7, fun _ _ => rfl, fun _ _ => rfl, trivial, trivial, trivial, trivial⟩, rfl, rfl, rfl⟩
  · rintro x vals B ⟨rfl, rfl, rfl⟩
    exact hK
theorem loop6 (n : Nat) (g : Nat → Nat → Int) (k : Nat) (e : Nat → Int) (N : Nat) (q : Nat → Nat → Int) (hN : BrgP false N q) : CodeOK Try.prog 2 (.loop c6_4) (f6 N (.slice 1 0 1 k) .nilSlice (.int .i64 (0 : Nat))) (m6 n g (some (bR k e)) N q) (fun x fr hp => x = .exit 0 ∧ ∃ p, Longer q p N ∧ fr = f6 N (.slice 1 0 1 k) (.slice 3 0 3 N) (.int .i64 N) ∧ hp = m6s n g (some (bR k e)) N q N p) := by
  have hlo := hN.lo
  refine CodeOK.monoW (K := fun x fr hp => x = .exit 0 ∧ ∃ p, Longer q p N ∧ fr = f6 N (.slice 1 0 1 k) (.slice 3 0 3 N) (.int .i64 N) ∧ hp = (h6s n g (some (bR k e)) N q N p ++ no3).map mkB) ?_ ?_
  · refine CodeOK.loop (fun m fr hp => ∃ i : Nat, i + m = N ∧ I6 n g (some (bR k e)) N q (.slice 1 0 1 k) i fr hp) ?_ (n := N) ⟨0, by omega, .inl ⟨rfl, rfl, rfl⟩⟩
    rintro m fr hp ⟨i, him, ⟨rfl, rfl, rfl⟩ | ⟨h0, p, hp, rfl, rfl⟩⟩
    · refine (CodeOK.lookN (C := C6) ec gs6 mixed (u := 0) (len := 77) (L := L6) (M := [false, false, false, true, true, true]) (Nat.le_add_left 2 4) (roundN6 n g k e N q hN)).st ?_
      rintro x vals B ⟨rfl, y, B1, B2, y0, y1, rfl, rfl⟩
      refine ⟨m - 1, _, _, by omega, grown6 (b := ⟨3, 1, fun r => [[.int .i64 y, .int .i64 (q 0 1), .int .i64 (q 0 2)]].getD r [], true, 32⟩) (p := ext q 0 y (q 0 1) (q 0 2)) (dryR k e) (by omega) rfl rfl rfl rfl rfl rfl rfl rfl rfl rfl fun r hr => ?_, 1, by omega, .inr ⟨by omega, _, ext_longer none_longer y0 y1, rfl, rfl⟩⟩
      obtain rfl : r = 0 := by omega
      exact ext_new q 0 _ _ _
    · obtain ⟨M, rfl⟩ : ∃ M, i = M + 1 := ⟨i - 1, by omega⟩
      by_cases h : M + 1 < N
      · refine (CodeOK.lookN (C := C6) ec gs6 mixed (u := 0) (len := 77) (L := L6) (M := [false, false, false, false, true, true, false]) (Nat.le_add_left 2 5) (roundS6 n g k e N q hN M p h)).st ?_
        rintro x vals B ⟨rfl, y, B1, B2, b, y0, y1, rfl, rfl, b1, b2, b3, b4, b5⟩
        exact ⟨m - 1, _, _, by omega, grown6 (b := b) (dryR k e) (by omega) rfl rfl rfl rfl rfl rfl b1 b2 b3 b4 b5, M + 2, by omega, .inr ⟨by omega, _, ext_longer hp y0 y1, rfl, rfl⟩⟩
      · have hNM : N = M + 1 := by omega
        refine exit6 n g k e N q M p hNM _ ?_
        subst hNM
        exact ⟨rfl, p, hp, rfl, rfl⟩
  · rintro x fr hp ⟨rfl, p, hp, rfl, rfl⟩
    exact ⟨f6 N (.slice 1 0 1 k) (.slice 3 0 3 N) (.int .i64 N), m6s n g (some (bR k e)) N q N p, tpl_weak (B := h6s n g (some (bR k e)) N q N p) (R := no3) ⟨.inr rfl, .inr rfl, .inr rfl, .inr rfl, .inr rfl, trivial⟩ rfl ⟨fun _ _ => rfl, (dryR k e).ok 4, fun _ _ => rfl, fun _ _ => rfl, trivial⟩ (Nat.le_add_left 2 2), rfl, p, hp, rfl, rfl⟩
set_option maxRecDepth 100000 in
theorem canon6 (n : Nat) (g : Nat → Nat → Int) (k : Nat) (e : Nat → Int) (hn : 0 < n) : Canon Try.prog 6 [.slice 0 0 3 n, (.slice 1 0 1 k)] [some (bT n g), (some (bR k e))] fun v _ => v = .bool true := by
  refine CodeOK.body Try.func6 (by kernel_rfl) ?_
  rw [code6]
  refine CodeOK.frontN (C := C6) ec gs6 mixed (u := 0) (len := 77) (L := L6) (M := [false, false, false]) [c6_0, c6_1, c6_2] (Nat.le_add_left 2 1) (Q := fun x vals B => x = .normal ∧ ∃ N q, BrgP false N q ∧ vals = v6 N (.slice 1 0 1 k) .nilSlice .top ∧ B = h6 n g (some (bR k e)) N q) ?_ ?_
  · show evalC C6 0 2 _ (enterS 77 _) _ _
    simp only [List.foldr]
    rw [p6a]
    refine ⟨⟨hn, Nat.le_refl _, fun r _ => ⟨_, _, _, rfl⟩⟩, fun N q hq => ?_⟩
    cases Nat.beq N 1 with
    | false => exact ⟨rfl, rfl, ⟨fun _ _ => rfl, (dryR k e).ok 3, fun _ _ => rfl, trivial⟩, rfl, N, q, hq, rfl, rfl⟩
    | true =>
      have he := frc_row (F := fun r => [SV.int .i64 (q r 0), .int .i64 (q r 1), .int .i64 (q r 2)])
      refine ⟨rfl, rfl, ⟨fun _ _ => rfl, (dryR k e).ok 3, fun r _ => ?_, trivial⟩, rfl, N, q, hq, rfl, congrArg (fun F => [BO.raw (some (bT n g)), .raw (some (bR k e)), .raw (some ⟨3, N, F, true, 32⟩)]) he⟩
      show ltAll 3 (svIdsL ((fun r => bif Nat.beq r 0 then [SV.int .i64 (q 0 0), .int .i64 (q 0 1), .int .i64 (q 0 2)] else [SV.int .i64 (q r 0), .int .i64 (q r 1), .int .i64 (q r 2)]) r)) = true
      rw [he]
      rfl
  · rintro x vals B ⟨rfl, N, q, hq, rfl, rfl⟩
    refine CodeOK.seq (CodeOK.seq ((CodeOK.lookN (C := C6) ec gs6 mixed (u := 0) (len := 77) (L := L6) (M := [false, false, false]) (Nat.le_add_left 2 1) (Q := fun x vals B => x = .normal ∧ vals = v6 N (.slice 1 0 1 k) .nilSlice (.int .i64 (0 : Nat)) ∧ B = h6 n g (some (bR k e)) N q) ?_).st ?_))
    · rw [p6s]
      exact ⟨rfl, rfl, ⟨fun _ _ => rfl, (dryR k e).ok 3, fun _ _ => rfl, trivial⟩, rfl, rfl, rfl⟩
    rintro x vals B ⟨rfl, rfl, rfl⟩
    refine CodeOK.block ((loop6 n g k e N q hq).mono ?_)
    rintro x fr hp ⟨rfl, p, hp, rfl, rfl⟩
    have hlo := hq.lo
    have hhi := hq.hi
    obtain ⟨M, rfl⟩ : ∃ M, N = M + 1 := ⟨N - 1, by omega⟩
    show CodeOK Try.prog 2 c6_5 (f6 (M + 1) (.slice 1 0 1 k) (.slice 3 0 3 (M + 1)) (.int .i64 ((M + 1 : Nat) : Int))) (m6s n g (some (bR k e)) (M + 1) q (M + 1) p) (endK Try.prog ([4].map .tmp) _)
    refine CodeOK.fin (C := C6) ec gs6 mixed (u := 0) (M := []) (k := fun v _ => v = .bool true) ?_ fun v hp h => h
    rw [p6e]
    refine ⟨q, by show M + 1 ≤ 1000; omega, ⟨Nat.le_refl _, fun r _ => rfl, fun r _ => ⟨hq.ok r 0, hq.ok r 1, hq.ok r 2⟩⟩, ?_⟩
    rintro l m s v f ⟨h1⟩
    refine ⟨p, by show M + 1 ≤ 1000; omega, ⟨Nat.le_refl _, fun r _ => rfl, fun r hr => ⟨⟨by have := hp.le r hr; have := (hq.ok r 0).lo; omega, hp.hi r hr⟩, by rw [hp.held r hr]; exact hq.ok r 1, by rw [hp.at_ r hr]; exact hq.ok r 2⟩⟩, ?_⟩
    rintro l' m' s' v' f' ⟨h2⟩
    have o := run_order (q := q) (p := p) (fun r => hq.held rfl r) (fun r => (hq.ok r 2).lo) (M + 1) hp
    rw [h1, h2] at o
    obtain ⟨o1, o2, -, -⟩ := o
    simp only at o1 o2
    rw [cb o1, cb o2]
    exact ⟨.inl rfl, rfl⟩
set_option maxRecDepth 100000 in
theorem roundN6x (n : Nat) (g : Nat → Nat → Int) (N : Nat) (q : Nat → Nat → Int) (hN : BrgP false N q) : evalC C6 0 2 c6_4 (f6 N .eslice .nilSlice (.int .i64 (0 : Nat))) (m6 n g none N q) (obsN L6 [false, false, false, true, true, true] (seen 77 6 (QN n g none N q .eslice))) := by
  have h1 := hN.lo
  rw [p6rnx, cb (show ((0 : Nat) : Int) < N by omega), i64n 0 (by omega)]
  simp only [cond_true, show (0 : Nat) + ((0 : Nat) : Int).toNat = 0 from rfl, cb (show 0 < N by omega), Nat.zero_add, Bool.and_true]
  exact ⟨rfl, rfl, ⟨fun _ _ => rfl, dryN.ok 6, fun _ _ => rfl, rfl, rfl, rfl, trivial⟩, rfl, q 0 0, _, _, Int.le_refl _, (hN.ok 0 0).hi, rfl, rfl⟩
set_option maxRecDepth 100000 in
theorem roundS6x (n : Nat) (g : Nat → Nat → Int) (N : Nat) (q : Nat → Nat → Int) (hN : BrgP false N q) (M : Nat) (p : Nat → Nat → Int) (hM : M + 1 < N) : evalC C6 0 2 c6_4 (f6 N .eslice (.slice 3 0 3 (M + 1)) (.int .i64 (M + 1 : Nat))) (m6s n g none N q (M + 1) p) (obsN L6 [false, false, false, false, true, true, false] (seen 77 7 (QS n g none N q .eslice M p))) := by
  have h60 := hN.hi
  rw [p6rsx, cb (show ((M + 1 : Nat) : Int) < N by omega), i64n (M + 1) (by omega)]
  simp only [cond_true, Nat.zero_add, Int.toNat_natCast, cb hM, Bool.and_true, cb (show M + 1 + 1 ≤ 9223372036854775807 by omega), cb (show (M + 1 + 1) * 24 ≤ 140737488355328 by omega), Bool.and_self]
  refine ⟨rfl, rfl, ⟨fun _ _ => rfl, dryN.ok 7, fun _ _ => rfl, trivial, rfl, rfl, fun r hr => ?_, trivial⟩, rfl, q (M + 1) 0, _, _, _, Int.le_refl _, (hN.ok (M + 1) 0).hi, rfl, rfl, rfl, rfl, rfl, rfl, fun r hr => ?_⟩
  · dsimp only
    by_cases h : r < M + 1
    · rw [cb h]; rfl
    · obtain rfl : r = M + 1 := by have hr : r < M + 1 + 1 := hr; omega
      rw [cf h, cond_false, Nat.sub_self]; rfl
  · dsimp only
    by_cases h : r < M + 1
    · rw [cb h]; exact ext_old p h _ _ _
    · obtain rfl : r = M + 1 := by omega
      rw [cf h, cond_false, Nat.sub_self]; exact ext_new p (M + 1) _ _ _
set_option maxRecDepth 100000 in
theorem exit6x (n : Nat) (g : Nat → Nat → Int) (N : Nat) (q : Nat → Nat → Int) (M : Nat) (p : Nat → Nat → Int) (hM : N = M + 1) (K : KC) (hK : K (.exit 0) (f6 N .eslice (.slice 3 0 3 (M + 1)) (.int .i64 (M + 1 : Nat))) ((h6s n g none N q (M + 1) p ++ no3).map mkB)) :
    CodeOK Try.prog 2 c6_4 (f6 N .eslice (.slice 3 0 3 (M + 1)) (.int .i64 (M + 1 : Nat))) (m6s n g none N q (M + 1) p) K := by
  refine (CodeOK.lookN (C := C6) ec gs6 mixed (u := 0) (len := 77) (L := L6) (M := [false, false, false, false, true, true, false]) (Nat.le_add_left 2 5)
    (Q := fun x vals B => x = .exit 0 ∧ vals = v6 N .eslice (.slice 3 0 3 (M + 1)) (.int .i64 ((M + 1 : Nat) : Int)) ∧ B = h6s n g none N q (M + 1) p ++ no3) ?_).st ?_
  · rw [p6rsx, cf (show ¬ ((M + 1 : Nat) : Int) < N by omega)]
    exact ⟨rfl, rfl, ⟨fun _ _ => rfl, dryN.ok 7, fun _ _ => rfl, fun _ _ => rfl, trivial, trivial, trivial, trivial⟩, rfl, rfl, rfl⟩
  · rintro x vals B ⟨rfl, rfl, rfl⟩
    exact hK
theorem loop6x (n : Nat) (g : Nat → Nat → Int) (N : Nat) (q : Nat → Nat → Int) (hN : BrgP false N q) : CodeOK Try.prog 2 (.loop c6_4) (f6 N .eslice .nilSlice (.int .i64 (0 : Nat))) (m6 n g none N q) (fun x fr hp => x = .exit 0 ∧ ∃ p, Longer q p N ∧ fr = f6 N .eslice (.slice 3 0 3 N) (.int .i64 N) ∧ hp = m6s n g none N q N p) := by
  have hlo := hN.lo
  refine CodeOK.monoW (K := fun x fr hp => x = .exit 0 ∧ ∃ p, Longer q p N ∧ fr = f6 N .eslice (.slice 3 0 3 N) (.int .i64 N) ∧ hp = (h6s n g none N q N p ++ no3).map mkB) ?_ ?_
  · refine CodeOK.loop (fun m fr hp => ∃ i : Nat, i + m = N ∧ I6 n g none N q .eslice i fr hp) ?_ (n := N) ⟨0, by omega, .inl ⟨rfl, rfl, rfl⟩⟩
    rintro m fr hp ⟨i, him, ⟨rfl, rfl, rfl⟩ | ⟨h0, p, hp, rfl, rfl⟩⟩
    · refine (CodeOK.lookN (C := C6) ec gs6 mixed (u := 0) (len := 77) (L := L6) (M := [false, false, false, true, true, true]) (Nat.le_add_left 2 4) (roundN6x n g N q hN)).st ?_
      rintro x vals B ⟨rfl, y, B1, B2, y0, y1, rfl, rfl⟩
      refine ⟨m - 1, _, _, by omega, grown6 (b := ⟨3, 1, fun r => [[.int .i64 y, .int .i64 (q 0 1), .int .i64 (q 0 2)]].getD r [], true, 32⟩) (p := ext q 0 y (q 0 1) (q 0 2)) dryN (by omega) rfl rfl rfl rfl rfl rfl rfl rfl rfl rfl fun r hr => ?_, 1, by omega, .inr ⟨by omega, _, ext_longer none_longer y0 y1, rfl, rfl⟩⟩
      obtain rfl : r = 0 := by omega
      exact ext_new q 0 _ _ _
    · obtain ⟨M, rfl⟩ : ∃ M, i = M + 1 := ⟨i - 1, by omega⟩
      by_cases h : M + 1 < N
      · refine (CodeOK.lookN (C := C6) ec gs6 mixed (u := 0) (len := 77) (L := L6) (M := [false, false, false, false, true, true, false]) (Nat.le_add_left 2 5) (roundS6x n g N q hN M p h)).st ?_
        rintro x vals B ⟨rfl, y, B1, B2, b, y0, y1, rfl, rfl, b1, b2, b3, b4, b5⟩
        exact ⟨m - 1, _, _, by omega, grown6 (b := b) dryN (by omega) rfl rfl rfl rfl rfl rfl b1 b2 b3 b4 b5, M + 2, by omega, .inr ⟨by omega, _, ext_longer hp y0 y1, rfl, rfl⟩⟩
      · have hNM : N = M + 1 := by omega
        refine exit6x n g N q M p hNM _ ?_
        subst hNM
        exact ⟨rfl, p, hp, rfl, rfl⟩
  · rintro x fr hp ⟨rfl, p, hp, rfl, rfl⟩
    exact ⟨f6 N .eslice (.slice 3 0 3 N) (.int .i64 N), m6s n g none N q N p, tpl_weak (B := h6s n g none N q N p) (R := no3) ⟨.inr rfl, .inr rfl, .inr rfl, .inr rfl, .inr rfl, trivial⟩ rfl ⟨fun _ _ => rfl, dryN.ok 4, fun _ _ => rfl, fun _ _ => rfl, trivial⟩ (Nat.le_add_left 2 2), rfl, p, hp, rfl, rfl⟩
set_option maxRecDepth 100000 in
theorem canon6x (n : Nat) (g : Nat → Nat → Int) (hn : 0 < n) : Canon Try.prog 6 [.slice 0 0 3 n, .eslice] [some (bT n g), none] fun v _ => v = .bool true := by
  refine CodeOK.body Try.func6 (by kernel_rfl) ?_
  rw [code6]
  refine CodeOK.frontN (C := C6) ec gs6 mixed (u := 0) (len := 77) (L := L6) (M := [false, false, false]) [c6_0, c6_1, c6_2] (Nat.le_add_left 2 1) (Q := fun x vals B => x = .normal ∧ ∃ N q, BrgP false N q ∧ vals = v6 N .eslice .nilSlice .top ∧ B = h6 n g none N q) ?_ ?_
  · show evalC C6 0 2 _ (enterS 77 _) _ _
    simp only [List.foldr]
    rw [p6ax]
    refine ⟨⟨hn, Nat.le_refl _, fun r _ => ⟨_, _, _, rfl⟩⟩, fun N q hq => ?_⟩
    cases Nat.beq N 1 with
    | false => exact ⟨rfl, rfl, ⟨fun _ _ => rfl, dryN.ok 3, fun _ _ => rfl, trivial⟩, rfl, N, q, hq, rfl, rfl⟩
    | true =>
      have he := frc_row (F := fun r => [SV.int .i64 (q r 0), .int .i64 (q r 1), .int .i64 (q r 2)])
      refine ⟨rfl, rfl, ⟨fun _ _ => rfl, dryN.ok 3, fun r _ => ?_, trivial⟩, rfl, N, q, hq, rfl, congrArg (fun F => [BO.raw (some (bT n g)), .raw none, .raw (some ⟨3, N, F, true, 32⟩)]) he⟩
      show ltAll 3 (svIdsL ((fun r => bif Nat.beq r 0 then [SV.int .i64 (q 0 0), .int .i64 (q 0 1), .int .i64 (q 0 2)] else [SV.int .i64 (q r 0), .int .i64 (q r 1), .int .i64 (q r 2)]) r)) = true
      rw [he]
      rfl
  · rintro x vals B ⟨rfl, N, q, hq, rfl, rfl⟩
    refine CodeOK.seq (CodeOK.seq ((CodeOK.lookN (C := C6) ec gs6 mixed (u := 0) (len := 77) (L := L6) (M := [false, false, false]) (Nat.le_add_left 2 1) (Q := fun x vals B => x = .normal ∧ vals = v6 N .eslice .nilSlice (.int .i64 (0 : Nat)) ∧ B = h6 n g none N q) ?_).st ?_))
    · rw [p6sx]
      exact ⟨rfl, rfl, ⟨fun _ _ => rfl, dryN.ok 3, fun _ _ => rfl, trivial⟩, rfl, rfl, rfl⟩
    rintro x vals B ⟨rfl, rfl, rfl⟩
    refine CodeOK.block ((loop6x n g N q hq).mono ?_)
    rintro x fr hp ⟨rfl, p, hp, rfl, rfl⟩
    have hlo := hq.lo
    have hhi := hq.hi
    obtain ⟨M, rfl⟩ : ∃ M, N = M + 1 := ⟨N - 1, by omega⟩
    show CodeOK Try.prog 2 c6_5 (f6 (M + 1) .eslice (.slice 3 0 3 (M + 1)) (.int .i64 ((M + 1 : Nat) : Int))) (m6s n g none (M + 1) q (M + 1) p) (endK Try.prog ([4].map .tmp) _)
    refine CodeOK.fin (C := C6) ec gs6 mixed (u := 0) (M := []) (k := fun v _ => v = .bool true) ?_ fun v hp h => h
    rw [p6ex]
    refine ⟨q, by show M + 1 ≤ 1000; omega, ⟨Nat.le_refl _, fun r _ => rfl, fun r _ => ⟨hq.ok r 0, hq.ok r 1, hq.ok r 2⟩⟩, ?_⟩
    rintro l m s v f ⟨h1⟩
    refine ⟨p, by show M + 1 ≤ 1000; omega, ⟨Nat.le_refl _, fun r _ => rfl, fun r hr => ⟨⟨by have := hp.le r hr; have := (hq.ok r 0).lo; omega, hp.hi r hr⟩, by rw [hp.held r hr]; exact hq.ok r 1, by rw [hp.at_ r hr]; exact hq.ok r 2⟩⟩, ?_⟩
    rintro l' m' s' v' f' ⟨h2⟩
    have o := run_order (q := q) (p := p) (fun r => hq.held rfl r) (fun r => (hq.ok r 2).lo) (M + 1) hp
    rw [h1, h2] at o
    obtain ⟨o1, o2, -, -⟩ := o
    simp only at o1 o2
    rw [cb o1, cb o2]
    exact ⟨.inl rfl, rfl⟩
end Go.Proofs.Ytepmbiahnicooaa
