/-
  Chapter 11 by the engine: WindowKnown: its loops, by rules.
-/
import Derived.Test.YtefjhkgkdmjopaaT9
import Derived.Test.YtefjhkgkdmjopaaV5
namespace Go.Proofs.Ytefjhkgkdmjopaa
open Go.RowKit
section
attribute [local irreducible] evalC
theorem ok3 : SpecOK Try.prog 3 s3 := by
  intro args h base k hk
  unfold s3 at hk
  split at hk
  · obtain ⟨w, rfl, hk1⟩ := agW_ok hk
    obtain ⟨p, rfl, hk2⟩ := agP_ok hk1
    exact ⟨_, [], [], hk2, CSim.plain (cal Try.func3 (by kernel_rfl) (by kernel_rfl)) (canon3 w p _ _ _) rfl rfl h base⟩
  · cases hk
theorem gs10 : GSound C10 := (GSound.none.add ok24).add ok3
def at10 (x0 : Ex) (vs : List SV) (B0 : List BO) : Ex → List SV → List BO → Prop := fun x vals B => x = x0 ∧ vals = vs ∧ B = B0
theorem step10 {M : List Bool} (x0 : Ex) (vs : List SV) (B0 : List BO) {c : Code} {fr : List SV} {hp : LHeap} (h : evalC C10 0 0 c fr hp (obsN L10 M (seen 159 M.length (at10 x0 vs B0)))) {K : KC} (hK : K x0 (tplF 159 L10 vs) (B0.map mkB)) : CodeOK Try.prog 0 c fr hp K :=
  (CodeOK.lookN (C := C10) ec gs10 mixed (u := 0) (Nat.zero_le _) h).st fun x vals B h => by
    obtain ⟨rfl, rfl, rfl⟩ := h
    exact hK
theorem ids10 (e : Nat → Int) (d : Nat → Nat → Int) : allIds 2 (h10 e d) := ⟨fun _ _ => rfl, fun _ _ => rfl, trivial⟩
theorem ids10l (e : Nat → Int) (d q : Nat → Nat → Int) : allIds 3 (h10l e d q) := ⟨fun _ _ => rfl, fun _ _ => rfl, fun _ _ => rfl, trivial⟩
abbrev F10 (i k l n m : SV) : List SV := tplF 159 L10 (v10 i k l n m)
abbrev M2 (e : Nat → Int) (d : Nat → Nat → Int) : LHeap := (h10 e d).map mkB
abbrev M3 (e : Nat → Int) (d q : Nat → Nat → Int) : LHeap := (h10l e d q).map mkB
theorem wk2 (e : Nat → Int) (d : Nat → Nat → Int) {i k l n m i' k' l' n' m' : SV} (h : ValW (v10 i' k' l' n' m') (v10 i k l n m)) (hi : ltAll 2 (svIdsL (v10 i' k' l' n' m')) = true) : Weak 0 (F10 i k l n m) (M2 e d) (F10 i' k' l' n' m') (M2 e d) :=
  tpl_weak (B := h10 e d) (R := []) h hi (ids10 e d) (Nat.zero_le _)
theorem wk3 (e : Nat → Int) (d q : Nat → Nat → Int) {i k l n m i' k' l' n' m' : SV} (h : ValW (v10 i' k' l' n' m') (v10 i k l n m)) (hi : ltAll 3 (svIdsL (v10 i' k' l' n' m')) = true) : Weak 0 (F10 i k l n m) (M3 e d q) (F10 i' k' l' n' m') (M3 e d q) :=
  tpl_weak (B := h10l e d q) (R := []) h hi (ids10l e d q) (Nat.zero_le _)
theorem wk32 (e : Nat → Int) (d q : Nat → Nat → Int) {i k l n m i' k' l' n' m' : SV} (h : ValW (v10 i' k' l' n' m') (v10 i k l n m)) (hi : ltAll 2 (svIdsL (v10 i' k' l' n' m')) = true) : Weak 0 (F10 i k l n m) (M3 e d q) (F10 i' k' l' n' m') (M2 e d) :=
  tpl_weak (B := h10 e d) (R := [.raw (some (bM 6 q))]) h hi (ids10 e d) (Nat.zero_le _)
/-- Numbers of a table. -/
def tab (l : List (List Int)) (r j : Nat) : Int := (l.getD r []).getD j 0
theorem mloop (e : Nat → Int) (d q : Nat → Nat → Int) (i k n : Nat) (hi : i < 3) (hk : k < 19) (hn : n < 6) {K : KC} (hK : K (.exit 6) (F10 (ni i) (ni k) (.slice 2 0 6 6) (ni n) .top) (M3 e d q)) : CodeOK Try.prog 0 (.loop c10_12) (F10 (ni i) (ni k) (.slice 2 0 6 6) (ni n) (ni 0)) (M3 e d q) K := by
  refine CodeOK.count (n := 19) (F := fun m => F10 (ni i) (ni k) (.slice 2 0 6 6) (ni n) (ni m)) (H := fun _ => M3 e d q) (fun m hm => ?_) ?_ hK
  · refine step10 (M := [false, false, false]) .normal (v10 (ni i) (ni k) (.slice 2 0 6 6) (ni n) (ni (m + 1 : Nat))) (h10l e d q) ?_ ⟨rfl, wk3 e d q ⟨.inr rfl, .inr rfl, .inr rfl, .inr rfl, .inr rfl, .inr rfl, .inr rfl, .inr rfl, trivial⟩ rfl⟩
    rw [p10_12]
    simp only [cb (show (m : Int) < 19 by omega), cond_true, Nat.zero_add, Int.toNat_natCast, cb (show (n : Int) < 6 by omega), cb hn, cb (show (i : Int) < 3 by omega), cb hi, cb (show (k : Int) < 19 by omega), cb hk, cb hm, Bool.and_true, i64n m (by omega)]
    exact ⟨rfl, rfl, ids10l e d q, rfl, rfl, rfl⟩
  · refine step10 (M := [false, false, false]) (.exit 6) (v10 (ni i) (ni k) (.slice 2 0 6 6) (ni n) (ni 19)) (h10l e d q) ?_ ⟨rfl, wk3 e d q ⟨.inr rfl, .inr rfl, .inr rfl, .inr rfl, .inr rfl, .inr rfl, .inr rfl, .inl rfl, trivial⟩ rfl⟩
    rw [p10_12]
    exact ⟨rfl, rfl, ids10l e d q, rfl, rfl, rfl⟩
theorem nloop (e : Nat → Int) (d q : Nat → Nat → Int) (i k : Nat) (hi : i < 3) (hk : k < 19) {K : KC} (hK : K (.exit 4) (F10 (ni i) (ni k) (.slice 2 0 6 6) .top .top) (M3 e d q)) : CodeOK Try.prog 0 (.loop (.seq c10_10 (.seq (.block 5 (.seq c10_11 (.block 6 (.loop c10_12)))) c10_13))) (F10 (ni i) (ni k) (.slice 2 0 6 6) (ni 0) .top) (M3 e d q) K := by
  refine CodeOK.count (n := 6) (F := fun n => F10 (ni i) (ni k) (.slice 2 0 6 6) (ni n) .top) (H := fun _ => M3 e d q) (fun n hn => ?_) ?_ hK
  · refine CodeOK.seq (step10 (M := [false, false, false]) .normal (v10 (ni i) (ni k) (.slice 2 0 6 6) (ni n) .top) (h10l e d q) ?_ ?_)
    · rw [p10_10, cb (show (n : Int) < 6 by omega)]
      exact ⟨rfl, rfl, ids10l e d q, rfl, rfl, rfl⟩
    refine CodeOK.seq (CodeOK.block (CodeOK.seq (step10 (M := [false, false, false]) .normal (v10 (ni i) (ni k) (.slice 2 0 6 6) (ni n) (ni 0)) (h10l e d q) ?_ ?_)))
    · rw [p10_11]
      exact ⟨rfl, rfl, ids10l e d q, rfl, rfl, rfl⟩
    refine CodeOK.block (mloop e d q i k n hi hk hn ?_)
    show CodeOK Try.prog 0 c10_13 (F10 (ni i) (ni k) (.slice 2 0 6 6) (ni n) .top) (M3 e d q) _
    refine step10 (M := [false, false, false]) .normal (v10 (ni i) (ni k) (.slice 2 0 6 6) (ni (n + 1 : Nat)) .top) (h10l e d q) ?_ ⟨rfl, wk3 e d q ⟨.inr rfl, .inr rfl, .inr rfl, .inr rfl, .inr rfl, .inr rfl, .inr rfl, .inr rfl, trivial⟩ rfl⟩
    rw [p10_13, i64n n (by omega)]
    exact ⟨rfl, rfl, ids10l e d q, rfl, rfl, rfl⟩
  · refine CodeOK.seq (step10 (M := [false, false, false]) (.exit 4) (v10 (ni i) (ni k) (.slice 2 0 6 6) (ni 6) .top) (h10l e d q) ?_ ⟨rfl, wk3 e d q ⟨.inr rfl, .inr rfl, .inr rfl, .inr rfl, .inr rfl, .inr rfl, .inl rfl, .inr rfl, trivial⟩ rfl⟩)
    rw [p10_10]
    exact ⟨rfl, rfl, ids10l e d q, rfl, rfl, rfl⟩
/-- The measures of a round. -/
def six (e : Nat → Int) (d : Nat → Nat → Int) (i k : Nat) : List (List Int) :=
  [[e k, d i 1, d i 2, d i 3, d i 4, d i 5], [d i 0, e k, d i 2, d i 3, d i 4, d i 5], [d i 0, d i 1, e k, d i 3, d i 4, d i 5], [d i 0, d i 1, d i 2, e k, d i 4, d i 5], [d i 0, d i 1, d i 2, d i 3, e k, d i 5], [d i 0, d i 1, d i 2, d i 3, d i 4, e k]]
def rowS : List Int → List SV
  | l => l.map fun n => .int .i64 n
set_option maxRecDepth 100000 in
theorem six_weak (e : Nat → Int) (d : Nat → Nat → Int) (i k : Nat) : Weak 0 (F10 (ni i) (ni k) (.slice 2 0 6 6) (ni 0) .top) ([BO.raw (some (bE e)), .raw (some (bM 3 d)), .rows 6 6 true 23 ((six e d i k).map rowS)].map mkB) (F10 (ni i) (ni k) (.slice 2 0 6 6) (ni 0) .top) (M3 e d (tab (six e d i k))) := by
  refine heap_weak (m := 3) rfl (Nat.zero_le _) rfl fun id b1 hb => ?_
  match id, hb with
  | 0, hb =>
    have hb : some (bE e) = some b1 := hb
    obtain rfl := Option.some.inj hb
    exact ⟨_, rfl, WB.of_rows rfl (Nat.le_refl _) (fun h => h) (fun _ => rfl) fun _ _ => ⟨rfl, rfl⟩⟩
  | 1, hb =>
    have hb : some (bM 3 d) = some b1 := hb
    obtain rfl := Option.some.inj hb
    exact ⟨_, rfl, WB.of_rows rfl (Nat.le_refl _) (fun h => h) (fun _ => rfl) fun _ _ => ⟨rfl, rfl⟩⟩
  | 2, hb =>
    have hb : some (bM 6 (tab (six e d i k))) = some b1 := hb
    obtain rfl := Option.some.inj hb
    refine ⟨_, rfl, WB.of_rows rfl (Nat.le_refl _) (fun h => h) (fun _ => rfl) fun r hr => ?_⟩
    have hr : r < 6 := hr
    match r, hr with
    | 0, _ => exact ⟨rfl, rfl⟩
    | 1, _ => exact ⟨rfl, rfl⟩
    | 2, _ => exact ⟨rfl, rfl⟩
    | 3, _ => exact ⟨rfl, rfl⟩
    | 4, _ => exact ⟨rfl, rfl⟩
    | 5, _ => exact ⟨rfl, rfl⟩
  | id + 3, hb => exact nomatch (show (none : Option Blk) = some b1 from hb)
set_option maxRecDepth 100000 in
theorem kloop (e : Nat → Int) (d : Nat → Nat → Int) (i : Nat) (hi : i < 3) {K : KC} (hK : K (.exit 2) (F10 (ni i) .top .top .top .top) (M2 e d)) : CodeOK Try.prog 0 (.loop (.seq c10_6 (.seq (.block 3 (.seq c10_7 (.seq c10_8 (.seq c10_9 (.block 4 (.loop (.seq c10_10 (.seq (.block 5 (.seq c10_11 (.block 6 (.loop c10_12)))) c10_13)))))))) c10_14))) (F10 (ni i) (ni 0) .top .top .top) (M2 e d) K := by
  refine CodeOK.count (n := 19) (F := fun k => F10 (ni i) (ni k) .top .top .top) (H := fun _ => M2 e d) (fun k hk => ?_) ?_ hK
  · refine CodeOK.seq (step10 (M := [false, false]) .normal (v10 (ni i) (ni k) .top .top .top) (h10 e d) ?_ ?_)
    · rw [p10_6, cb (show (k : Int) < 19 by omega)]
      exact ⟨rfl, rfl, ids10 e d, rfl, rfl, rfl⟩
    refine CodeOK.seq (CodeOK.block ?_)
    refine CodeOK.frontN (C := C10) ec gs10 mixed (u := 0) (len := 159) (L := L10) (M := [false, false, true]) [c10_7, c10_8, c10_9] (Nat.zero_le _) (Q := at10 .normal (v10 (ni i) (ni k) (.slice 2 0 6 6) (ni 0) .top) [.raw (some (bE e)), .raw (some (bM 3 d)), .rows 6 6 true 23 ((six e d i k).map rowS)]) ?_ ?_
    · simp only [List.foldr]
      rw [p10_7]
      simp only [cond_true, Nat.zero_add, Int.toNat_natCast, cb (show (i : Int) < 3 by omega), cb hi, cb (show (k : Int) < 19 by omega), cb hk, Bool.and_true]
      exact ⟨rfl, rfl, ⟨fun _ _ => rfl, fun _ _ => rfl, rfl, trivial⟩, rfl, rfl, rfl⟩
    · rintro x vals B ⟨rfl, rfl, rfl⟩
      refine CodeOK.pre (six_weak e d i k) (CodeOK.block (nloop e d (tab (six e d i k)) i k hi hk ?_))
      show CodeOK Try.prog 0 c10_14 (F10 (ni i) (ni k) (.slice 2 0 6 6) .top .top) (M3 e d (tab (six e d i k))) _
      refine CodeOK.pre (wk32 e d (tab (six e d i k)) (i' := ni i) (k' := ni k) (l' := .top) (n' := .top) (m' := .top) ⟨.inr rfl, .inr rfl, .inr rfl, .inr rfl, .inr rfl, .inl rfl, .inr rfl, .inr rfl, trivial⟩ rfl) ?_
      refine step10 (M := [false, false]) .normal (v10 (ni i) (ni (k + 1 : Nat)) .top .top .top) (h10 e d) ?_ ⟨rfl, wk2 e d ⟨.inr rfl, .inr rfl, .inr rfl, .inr rfl, .inr rfl, .inr rfl, .inr rfl, .inr rfl, trivial⟩ rfl⟩
      rw [p10_14, i64n k (by omega)]
      exact ⟨rfl, rfl, ids10 e d, rfl, rfl, rfl⟩
  · refine CodeOK.seq (step10 (M := [false, false]) (.exit 2) (v10 (ni i) (ni 19) .top .top .top) (h10 e d) ?_ ⟨rfl, wk2 e d ⟨.inr rfl, .inr rfl, .inr rfl, .inr rfl, .inl rfl, .inr rfl, .inr rfl, .inr rfl, trivial⟩ rfl⟩)
    rw [p10_6]
    exact ⟨rfl, rfl, ids10 e d, rfl, rfl, rfl⟩
theorem iloop (e : Nat → Int) (d : Nat → Nat → Int) {K : KC} (hK : K (.exit 0) (F10 .top .top .top .top .top) (M2 e d)) : CodeOK Try.prog 0 (.loop (.seq c10_4 (.seq (.block 1 (.seq c10_5 (.block 2 (.loop (.seq c10_6 (.seq (.block 3 (.seq c10_7 (.seq c10_8 (.seq c10_9 (.block 4 (.loop (.seq c10_10 (.seq (.block 5 (.seq c10_11 (.block 6 (.loop c10_12)))) c10_13)))))))) c10_14)))))) c10_15))) (F10 (ni 0) .top .top .top .top) (M2 e d) K := by
  refine CodeOK.count (n := 3) (F := fun i => F10 (ni i) .top .top .top .top) (H := fun _ => M2 e d) (fun i hi => ?_) ?_ hK
  · refine CodeOK.seq (step10 (M := [false, false]) .normal (v10 (ni i) .top .top .top .top) (h10 e d) ?_ ?_)
    · rw [p10_4, cb (show (i : Int) < 3 by omega)]
      exact ⟨rfl, rfl, ids10 e d, rfl, rfl, rfl⟩
    refine CodeOK.seq (CodeOK.block (CodeOK.seq (step10 (M := [false, false]) .normal (v10 (ni i) (ni 0) .top .top .top) (h10 e d) ?_ ?_)))
    · rw [p10_5]
      exact ⟨rfl, rfl, ids10 e d, rfl, rfl, rfl⟩
    refine CodeOK.block (kloop e d i hi ?_)
    show CodeOK Try.prog 0 c10_15 (F10 (ni i) .top .top .top .top) (M2 e d) _
    refine step10 (M := [false, false]) .normal (v10 (ni (i + 1 : Nat)) .top .top .top .top) (h10 e d) ?_ ⟨rfl, wk2 e d ⟨.inr rfl, .inr rfl, .inr rfl, .inr rfl, .inr rfl, .inr rfl, .inr rfl, .inr rfl, trivial⟩ rfl⟩
    rw [p10_15, i64n i (by omega)]
    exact ⟨rfl, rfl, ids10 e d, rfl, rfl, rfl⟩
  · refine CodeOK.seq (step10 (M := [false, false]) (.exit 0) (v10 (ni 3) .top .top .top .top) (h10 e d) ?_ ⟨rfl, wk2 e d ⟨.inr rfl, .inr rfl, .inr rfl, .inl rfl, .inr rfl, .inr rfl, .inr rfl, .inr rfl, trivial⟩ rfl⟩)
    rw [p10_4]
    exact ⟨rfl, rfl, ids10 e d, rfl, rfl, rfl⟩
def ends10 : List (List Int) := [[-9223372036854775808], [-2], [-1], [0], [1], [1199], [1200], [2399], [2400], [65527], [65528], [65535], [65536], [131054], [1099511627776], [1099511627777], [9007199254740991], [9007199254740992], [9223372036854775807]]
def good10 : List (List Int) := [[1200, 2400, 2400, -1, -1, 0], [65527, 1099511627776, 1099511627776, 549755813888, 9007199254740991, 1099511627775], [1200, 131054, 2500, 1200, 5, 2499]]
def e10 (r : Nat) : Int := tab ends10 r 0
set_option maxRecDepth 100000 in
theorem start10 : Weak 0 (F10 .top .top .top .top .top) ([BO.rows 1 19 true 3 (ends10.map rowS), .rows 6 3 true 23 (good10.map rowS)].map mkB) (F10 .top .top .top .top .top) (M2 e10 (tab good10)) := by
  refine heap_weak (m := 2) rfl (Nat.zero_le _) rfl fun id b1 hb => ?_
  match id, hb with
  | 0, hb =>
    have hb : some (bE e10) = some b1 := hb
    obtain rfl := Option.some.inj hb
    refine ⟨_, rfl, WB.of_rows rfl (Nat.le_refl _) (fun h => h) (fun _ => rfl) fun r hr => ?_⟩
    have hr : r < 19 := hr
    match r, hr with
    | 0, _ => exact ⟨rfl, rfl⟩
    | 1, _ => exact ⟨rfl, rfl⟩
    | 2, _ => exact ⟨rfl, rfl⟩
    | 3, _ => exact ⟨rfl, rfl⟩
    | 4, _ => exact ⟨rfl, rfl⟩
    | 5, _ => exact ⟨rfl, rfl⟩
    | 6, _ => exact ⟨rfl, rfl⟩
    | 7, _ => exact ⟨rfl, rfl⟩
    | 8, _ => exact ⟨rfl, rfl⟩
    | 9, _ => exact ⟨rfl, rfl⟩
    | 10, _ => exact ⟨rfl, rfl⟩
    | 11, _ => exact ⟨rfl, rfl⟩
    | 12, _ => exact ⟨rfl, rfl⟩
    | 13, _ => exact ⟨rfl, rfl⟩
    | 14, _ => exact ⟨rfl, rfl⟩
    | 15, _ => exact ⟨rfl, rfl⟩
    | 16, _ => exact ⟨rfl, rfl⟩
    | 17, _ => exact ⟨rfl, rfl⟩
    | 18, _ => exact ⟨rfl, rfl⟩
    | j + 19, h => exact absurd h (by omega)
  | 1, hb =>
    have hb : some (bM 3 (tab good10)) = some b1 := hb
    obtain rfl := Option.some.inj hb
    refine ⟨_, rfl, WB.of_rows rfl (Nat.le_refl _) (fun h => h) (fun _ => rfl) fun r hr => ?_⟩
    have hr : r < 3 := hr
    match r, hr with
    | 0, _ => exact ⟨rfl, rfl⟩
    | 1, _ => exact ⟨rfl, rfl⟩
    | 2, _ => exact ⟨rfl, rfl⟩
  | id + 2, hb => exact nomatch (show (none : Option Blk) = some b1 from hb)
set_option maxRecDepth 100000 in
theorem canon10 : Canon Try.prog 10 [] [] fun v _ => v = .bool true := by
  refine CodeOK.body Try.func10 (by kernel_rfl) ?_
  rw [code10]
  refine CodeOK.frontN (C := C10) ec gs10 mixed (u := 0) (len := 159) (L := L10) (M := [true, true]) [c10_0, c10_1, c10_2] (Nat.zero_le _) (Q := at10 .normal (v10 .top .top .top .top .top) [.rows 1 19 true 3 (ends10.map rowS), .rows 6 3 true 23 (good10.map rowS)]) ?_ ?_
  · show evalC C10 0 0 _ (enterS 159 []) _ _
    simp only [List.foldr]
    rw [p10a]
    exact ⟨rfl, rfl, ⟨rfl, rfl, trivial⟩, rfl, rfl, rfl⟩
  · rintro x vals B ⟨rfl, rfl, rfl⟩
    refine CodeOK.pre start10 (CodeOK.seq (CodeOK.seq (step10 (M := [false, false]) .normal (v10 (ni 0) .top .top .top .top) (h10 e10 (tab good10)) ?_ ?_)))
    · rw [p10_3]
      exact ⟨rfl, rfl, ids10 _ _, rfl, rfl, rfl⟩
    refine CodeOK.block (iloop e10 (tab good10) ?_)
    show CodeOK Try.prog 0 c10_16 (F10 .top .top .top .top .top) (M2 e10 (tab good10)) (endK Try.prog ([0].map .tmp) _)
    refine CodeOK.fin (C := C10) ec gs10 mixed (u := 0) (M := []) (k := fun v _ => v = .bool true) ?_ fun v hp h => h
    rw [p10_16]
    exact ⟨.inl rfl, rfl⟩
end
theorem known_any (w : World) : Calls Try.prog 10 #[] w fun e w' => e = .returned (.bool true) ∧ Below w.heap.size w w' :=
  lawOf canon10 (vs := []) RL.nil w
end Go.Proofs.Ytefjhkgkdmjopaa
