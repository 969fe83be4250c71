/-
  Chapter 9 by the engine: what is lost: the rounds of the reference's Find. (Printed by genv9.py.)
-/
import Derived.Test.YtcjfmkkfcbelpaaT8
namespace Go.Proofs.Ytcjfmkkfcbelpaa
open Go.RowKit
set_option linter.unusedVariables false
def St12 (n : Nat) (P : Nat → Pk) (g t l m s v f : Int) (i : Nat) (fr : List SV) (hp : LHeap) : Prop :=
  fr = tplF 112 L12 (v12 n g t (lsV (lostB g t (waitV l m s v f) P) i 2) (lsV (restB g t (waitV l m s v f) P) i (2 + (lsO (lostB g t (waitV l m s v f) P) P i).length)) (tmV g t (waitV l m s v f) P i) (.int .i64 i)) ∧
  hp = (h12 n P l m s v f ++ (lsO (lostB g t (waitV l m s v f) P) P i ++ lsO (restB g t (waitV l m s v f) P) P i)).map mkB
def Nx12 (n : Nat) (P : Nat → Pk) (g t l m s v f : Int) (i : Nat) (fr : List SV) (hp : LHeap) : Prop := ∃ fr' hp', Weak 1 fr hp fr' hp' ∧ St12 n P g t l m s v f i fr' hp'
structure Base12 (n : Nat) (P : Nat → Pk) (l m s v f : Int) (hp : LHeap) : Prop where
  h0 : hget hp 0 = some (bP n P)
  h1 : hget hp 1 = mkB (.rows 5 1 true 25 [[.int .i64 l, .int .i64 m, .int .i64 s, .int .i64 v, .int .i64 f]])
theorem nx12SN {n : Nat} {P : Nat → Pk} {g t l m s v f tm x0 : Int} {i a x : Nat} {A : Blk} {B : List BO} (hx : x0 = ((i + 1 : Nat) : Int)) (hB : Base12 n P l m s v f (B.map mkB)) (ht : tm = tmV g t (waitV l m s v f) P (i + 1)) (e1 : cntS (lostB g t (waitV l m s v f) P) (i + 1) = a + 1) (e2 : cntS (restB g t (waitV l m s v f) P) (i + 1) = 0) (hA : hget (B.map mkB) x = some A) (lA : IsL A (fun r => P (ixS (lostB g t (waitV l m s v f) P) (i + 1) r)) (a + 1)) (hne : [0, 1, x].Nodup) : Nx12 n P g t l m s v f (i + 1) (tplF 112 L12 [.slice 0 0 6 n, .int .i64 g, .int .i64 t, .ptr 1 0 5 0, .slice x 0 6 (a + 1), .nilSlice, .int .i64 tm, .int .i64 x0]) (B.map mkB) := by
  subst hx ht
  refine ⟨_, _, ?_, rfl, rfl⟩
  simp only [lsV, lsO, e1, e2, List.length_nil, List.length_cons, List.nil_append, List.append_nil, List.cons_append]
  refine ren_weak (m0 := 1) (vals' := [.slice 0 0 6 n, .int .i64 g, .int .i64 t, .ptr 1 0 5 0, .slice 2 0 6 (a + 1), .nilSlice, .int .i64 (tmV g t (waitV l m s v f) P (i + 1)), .int .i64 ((i + 1 : Nat) : Int)]) [0, 1, x] rfl (show 1 ≤ 3 by decide) (fun j hj => by obtain rfl : j = 0 := (by omega); rfl) ⟨.inr rfl, .inr rfl, .inr rfl, .inr rfl, .inr rfl, .inr rfl, .inr rfl, .inr rfl, trivial⟩ (fun id b1 hb1 => ?_) (inj_nodup hne)
  match id, hb1 with
  | 0, hb1 =>
    obtain rfl := Option.some.inj (show some (bP n P) = some b1 from hb1)
    exact ⟨0, _, rfl, hB.h0, WB.of_rows rfl (Nat.le_refl _) (fun h => h) (fun _ => rfl) fun _ _ => ⟨rfl, rfl⟩⟩
  | 1, hb1 =>
    have h := hB.h1.trans hb1
    obtain rfl := Option.some.inj (show some _ = some b1 from hb1)
    exact ⟨1, _, rfl, h, rfl, Nat.le_refl _, (fun h => h), (fun _ => rfl), fun r hr => by
      obtain rfl : r = 0 := (by have : r < 1 := hr; omega)
      exact ⟨.inr rfl, .inr rfl, .inr rfl, .inr rfl, .inr rfl, trivial⟩⟩
  | 2, hb1 =>
    obtain rfl := Option.some.inj (show some (bPw (a + 1) (fun r => P (ixS (lostB g t (waitV l m s v f) P) (i + 1) r))) = some b1 from hb1)
    exact ⟨x, _, rfl, hA, lA.wb _⟩
  | id + 3, hb1 => exact nomatch (show (none : Option Blk) = some b1 from hb1)
theorem nx12NS {n : Nat} {P : Nat → Pk} {g t l m s v f tm x0 : Int} {i b y : Nat} {D : Blk} {B : List BO} (hx : x0 = ((i + 1 : Nat) : Int)) (hB : Base12 n P l m s v f (B.map mkB)) (ht : tm = tmV g t (waitV l m s v f) P (i + 1)) (e1 : cntS (lostB g t (waitV l m s v f) P) (i + 1) = 0) (e2 : cntS (restB g t (waitV l m s v f) P) (i + 1) = b + 1) (hD : hget (B.map mkB) y = some D) (lD : IsL D (fun r => P (ixS (restB g t (waitV l m s v f) P) (i + 1) r)) (b + 1)) (hne : [0, 1, y].Nodup) : Nx12 n P g t l m s v f (i + 1) (tplF 112 L12 [.slice 0 0 6 n, .int .i64 g, .int .i64 t, .ptr 1 0 5 0, .nilSlice, .slice y 0 6 (b + 1), .int .i64 tm, .int .i64 x0]) (B.map mkB) := by
  subst hx ht
  refine ⟨_, _, ?_, rfl, rfl⟩
  simp only [lsV, lsO, e1, e2, List.length_nil, List.length_cons, List.nil_append, List.append_nil, List.cons_append]
  refine ren_weak (m0 := 1) (vals' := [.slice 0 0 6 n, .int .i64 g, .int .i64 t, .ptr 1 0 5 0, .nilSlice, .slice 2 0 6 (b + 1), .int .i64 (tmV g t (waitV l m s v f) P (i + 1)), .int .i64 ((i + 1 : Nat) : Int)]) [0, 1, y] rfl (show 1 ≤ 3 by decide) (fun j hj => by obtain rfl : j = 0 := (by omega); rfl) ⟨.inr rfl, .inr rfl, .inr rfl, .inr rfl, .inr rfl, .inr rfl, .inr rfl, .inr rfl, trivial⟩ (fun id b1 hb1 => ?_) (inj_nodup hne)
  match id, hb1 with
  | 0, hb1 =>
    obtain rfl := Option.some.inj (show some (bP n P) = some b1 from hb1)
    exact ⟨0, _, rfl, hB.h0, WB.of_rows rfl (Nat.le_refl _) (fun h => h) (fun _ => rfl) fun _ _ => ⟨rfl, rfl⟩⟩
  | 1, hb1 =>
    have h := hB.h1.trans hb1
    obtain rfl := Option.some.inj (show some _ = some b1 from hb1)
    exact ⟨1, _, rfl, h, rfl, Nat.le_refl _, (fun h => h), (fun _ => rfl), fun r hr => by
      obtain rfl : r = 0 := (by have : r < 1 := hr; omega)
      exact ⟨.inr rfl, .inr rfl, .inr rfl, .inr rfl, .inr rfl, trivial⟩⟩
  | 2, hb1 =>
    obtain rfl := Option.some.inj (show some (bPw (b + 1) (fun r => P (ixS (restB g t (waitV l m s v f) P) (i + 1) r))) = some b1 from hb1)
    exact ⟨y, _, rfl, hD, lD.wb _⟩
  | id + 3, hb1 => exact nomatch (show (none : Option Blk) = some b1 from hb1)
theorem nx12SS {n : Nat} {P : Nat → Pk} {g t l m s v f tm x0 : Int} {i a b x y : Nat} {A D : Blk} {B : List BO} (hx : x0 = ((i + 1 : Nat) : Int)) (hB : Base12 n P l m s v f (B.map mkB)) (ht : tm = tmV g t (waitV l m s v f) P (i + 1)) (e1 : cntS (lostB g t (waitV l m s v f) P) (i + 1) = a + 1) (e2 : cntS (restB g t (waitV l m s v f) P) (i + 1) = b + 1) (hA : hget (B.map mkB) x = some A) (lA : IsL A (fun r => P (ixS (lostB g t (waitV l m s v f) P) (i + 1) r)) (a + 1)) (hD : hget (B.map mkB) y = some D) (lD : IsL D (fun r => P (ixS (restB g t (waitV l m s v f) P) (i + 1) r)) (b + 1)) (hne : [0, 1, x, y].Nodup) : Nx12 n P g t l m s v f (i + 1) (tplF 112 L12 [.slice 0 0 6 n, .int .i64 g, .int .i64 t, .ptr 1 0 5 0, .slice x 0 6 (a + 1), .slice y 0 6 (b + 1), .int .i64 tm, .int .i64 x0]) (B.map mkB) := by
  subst hx ht
  refine ⟨_, _, ?_, rfl, rfl⟩
  simp only [lsV, lsO, e1, e2, List.length_nil, List.length_cons, List.nil_append, List.append_nil, List.cons_append]
  refine ren_weak (m0 := 1) (vals' := [.slice 0 0 6 n, .int .i64 g, .int .i64 t, .ptr 1 0 5 0, .slice 2 0 6 (a + 1), .slice 3 0 6 (b + 1), .int .i64 (tmV g t (waitV l m s v f) P (i + 1)), .int .i64 ((i + 1 : Nat) : Int)]) [0, 1, x, y] rfl (show 1 ≤ 4 by decide) (fun j hj => by obtain rfl : j = 0 := (by omega); rfl) ⟨.inr rfl, .inr rfl, .inr rfl, .inr rfl, .inr rfl, .inr rfl, .inr rfl, .inr rfl, trivial⟩ (fun id b1 hb1 => ?_) (inj_nodup hne)
  match id, hb1 with
  | 0, hb1 =>
    obtain rfl := Option.some.inj (show some (bP n P) = some b1 from hb1)
    exact ⟨0, _, rfl, hB.h0, WB.of_rows rfl (Nat.le_refl _) (fun h => h) (fun _ => rfl) fun _ _ => ⟨rfl, rfl⟩⟩
  | 1, hb1 =>
    have h := hB.h1.trans hb1
    obtain rfl := Option.some.inj (show some _ = some b1 from hb1)
    exact ⟨1, _, rfl, h, rfl, Nat.le_refl _, (fun h => h), (fun _ => rfl), fun r hr => by
      obtain rfl : r = 0 := (by have : r < 1 := hr; omega)
      exact ⟨.inr rfl, .inr rfl, .inr rfl, .inr rfl, .inr rfl, trivial⟩⟩
  | 2, hb1 =>
    obtain rfl := Option.some.inj (show some (bPw (a + 1) (fun r => P (ixS (lostB g t (waitV l m s v f) P) (i + 1) r))) = some b1 from hb1)
    exact ⟨x, _, rfl, hA, lA.wb _⟩
  | 3, hb1 =>
    obtain rfl := Option.some.inj (show some (bPw (b + 1) (fun r => P (ixS (restB g t (waitV l m s v f) P) (i + 1) r))) = some b1 from hb1)
    exact ⟨y, _, rfl, hD, lD.wb _⟩
  | id + 4, hb1 => exact nomatch (show (none : Option Blk) = some b1 from hb1)
def QR12 (n : Nat) (P : Nat → Pk) (g t l m s v f : Int) (i : Nat) : Ex → List SV → List BO → Prop := fun x vals B => (x = .exit 0 ∧ ¬ i < n ∧ ∃ fr' hp', Weak 1 (tplF 112 L12 vals) (B.map mkB) fr' hp' ∧ St12 n P g t l m s v f i fr' hp') ∨ (x = .normal ∧ i < n ∧ Nx12 n P g t l m s v f (i + 1) (tplF 112 L12 vals) (B.map mkB))
/-- Numbers that may be. -/
structure Num (n : Nat) (P : Nat → Pk) (g : Int) : Prop where
  g0 : -1 ≤ g
  g1 : g ≤ 9007199254740991
  p0 : ∀ i, i < n → 0 ≤ (P i).n
  p1 : ∀ i, i < n → (P i).n ≤ 9007199254740991
theorem far_iff {n i : Nat} {P : Nat → Pk} {g : Int} (N : Num n P g) (hi : i < n) : far g (P i).n = decide ((P i).n ≤ IntKind.i64.wrap (g - 3)) := by
  have h0 := N.g0
  have h1 := N.g1
  have h2 := N.p0 i hi
  have h3 := N.p1 i hi
  unfold far
  rw [wrap_id (n := g - (P i).n) (by omega) (by omega), wrap_id (n := g - 3) (by omega) (by omega), decide_eq_decide]
  omega
section
attribute [local irreducible] evalC
set_option maxRecDepth 100000
theorem round12nn {n i a b : Nat} {P : Nat → Pk} {g t l m s v f : Int} (hn : n ≤ 100000) (N : Num n P g) (e1 : cntS (lostB g t (waitV l m s v f) P) i = 0) (e2 : cntS (restB g t (waitV l m s v f) P) i = 0) : evalC C9 0 1 c12_7 (tplF 112 L12 (v12 n g t .nilSlice .nilSlice (tmV g t (waitV l m s v f) P i) (.int .i64 i))) ((h12 n P l m s v f).map mkB) (obsN L12 M12nn (seen 112 7 (QR12 n P g t l m s v f i))) := by
  rw [p12nn n P g t l m s v f (tmV g t (waitV l m s v f) P i) i]
  refine condSplit (fun hin => ?_) fun hin => ?_
  rotate_left
  · refine ⟨rfl, rfl, ⟨fun _ _ => rfl, rfl, trivial, trivial, trivial, trivial, trivial, trivial⟩, .inl ⟨rfl, by have := of_decide_eq_false hin; omega, _, _, ?_, rfl, rfl⟩⟩
    simp only [lsV, lsO, e1, e2, List.length_nil, List.length_cons, List.nil_append, List.append_nil, List.cons_append]
    exact tpl_weak (len := 112) (L := L12) (vals' := v12 n g t .nilSlice .nilSlice (tmV g t (waitV l m s v f) P i) (.int .i64 i)) (B := h12 n P l m s v f) (R := [.raw none, .raw none, .raw none, .raw none, .raw none]) ⟨.inr rfl, .inr rfl, .inr rfl, .inr rfl, .inr rfl, .inr rfl, .inr rfl, .inr rfl, trivial⟩ rfl ⟨fun _ _ => rfl, rfl, trivial⟩ (show 1 ≤ 2 by decide)
  have hi : i < n := by have := of_decide_eq_true hin; omega
  have hw : IntKind.i64.wrap ((i : Int) + 1) = ((i + 1 : Nat) : Int) := i64n i (by omega)
  have h2 : (decide (i < n) && true) = true := by rw [Bool.and_true]; exact cb hi
  have hf := far_iff N hi
  simp only [Nat.zero_add, Int.toNat_natCast]
  refine condT' hin (condT' h2 (condT' hin (condT' h2 (condSplit (fun q1 => condT' hin (condT' h2 (condSplit (fun q2 => condT' hin (condT' h2 (?_))) fun q2 => condSplit (fun q6 => condT' hin (condT' h2 (?_))) fun q6 => condT' hin (condT' h2 (condT' hin (condT' h2 (condSplit (fun q3 => condSplit (fun q4 => ?_) fun q4 => condSplit (fun q5 => ?_) fun q5 => ?_) fun q3 => ?_))))))) fun q1 => condT' hin (condT' h2 (condT' hin (condT' h2 (condSplit (fun q3 => ?_) fun q3 => ?_))))))))
  · have hl := lost_yes (t := t) (w := (waitV l m s v f)) q1 (by rw [hf, show decide ((P i).n ≤ IntKind.i64.wrap (g - 3)) = true from q2]; rfl)
    exact ⟨rfl, rfl, ⟨fun _ _ => rfl, rfl, rfl, rfl, trivial, trivial, trivial, trivial⟩, .inr ⟨rfl, hi, nx12SN (x := 3) hw ⟨rfl, rfl⟩ (tm_lost hl) (by rw [cntS_yes hl, e1]) (by rw [cntS_no (rest_no hl), e2]) rfl (isL_one rfl rfl rfl rfl rfl hl e1) (by decide)⟩⟩
  · have hl := lost_yes (t := t) (w := (waitV l m s v f)) q1 (by rw [show decide (dueT (P i).a (waitV l m s v f) ≤ t) = true from q6, Bool.or_true])
    exact ⟨rfl, rfl, ⟨fun _ _ => rfl, rfl, rfl, rfl, trivial, trivial, trivial, trivial⟩, .inr ⟨rfl, hi, nx12SN (x := 3) hw ⟨rfl, rfl⟩ (tm_lost hl) (by rw [cntS_yes hl, e1]) (by rw [cntS_no (rest_no hl), e2]) rfl (isL_one rfl rfl rfl rfl rfl hl e1) (by decide)⟩⟩
  · have hl : lostB g t (waitV l m s v f) P i = false := lost_no2 (by rw [hf, show decide ((P i).n ≤ IntKind.i64.wrap (g - 3)) = false from q2, show decide (dueT (P i).a (waitV l m s v f) ≤ t) = false from q6]; rfl)
    exact ⟨rfl, rfl, ⟨fun _ _ => rfl, rfl, rfl, rfl, trivial, trivial, trivial, trivial⟩, .inr ⟨rfl, hi, nx12NS (y := 3) hw ⟨rfl, rfl⟩ (tm_new hl q1 q4) (by rw [cntS_no hl, e1]) (by rw [cntS_yes (rest_yes hl), e2]) rfl (isL_one rfl rfl rfl rfl rfl (rest_yes hl) e2) (by decide)⟩⟩
  · have hl : lostB g t (waitV l m s v f) P i = false := lost_no2 (by rw [hf, show decide ((P i).n ≤ IntKind.i64.wrap (g - 3)) = false from q2, show decide (dueT (P i).a (waitV l m s v f) ≤ t) = false from q6]; rfl)
    exact ⟨rfl, rfl, ⟨fun _ _ => rfl, rfl, rfl, rfl, trivial, trivial, trivial, trivial⟩, .inr ⟨rfl, hi, nx12NS (y := 3) hw ⟨rfl, rfl⟩ (tm_less hl q1 q5) (by rw [cntS_no hl, e1]) (by rw [cntS_yes (rest_yes hl), e2]) rfl (isL_one rfl rfl rfl rfl rfl (rest_yes hl) e2) (by decide)⟩⟩
  · have hl : lostB g t (waitV l m s v f) P i = false := lost_no2 (by rw [hf, show decide ((P i).n ≤ IntKind.i64.wrap (g - 3)) = false from q2, show decide (dueT (P i).a (waitV l m s v f) ≤ t) = false from q6]; rfl)
    exact ⟨rfl, rfl, ⟨fun _ _ => rfl, rfl, rfl, rfl, trivial, trivial, trivial, trivial⟩, .inr ⟨rfl, hi, nx12NS (y := 3) hw ⟨rfl, rfl⟩ (tm_same1 hl q4 q5) (by rw [cntS_no hl, e1]) (by rw [cntS_yes (rest_yes hl), e2]) rfl (isL_one rfl rfl rfl rfl rfl (rest_yes hl) e2) (by decide)⟩⟩
  · rw [q1] at q3; cases q3
  · rw [q1] at q3; cases q3
  · have hl : lostB g t (waitV l m s v f) P i = false := lost_no1 q1
    exact ⟨rfl, rfl, ⟨fun _ _ => rfl, rfl, rfl, rfl, trivial, trivial, trivial, trivial⟩, .inr ⟨rfl, hi, nx12NS (y := 3) hw ⟨rfl, rfl⟩ (tm_same2 hl q1) (by rw [cntS_no hl, e1]) (by rw [cntS_yes (rest_yes hl), e2]) rfl (isL_one rfl rfl rfl rfl rfl (rest_yes hl) e2) (by decide)⟩⟩
theorem round12sn {n i a b : Nat} {P : Nat → Pk} {g t l m s v f : Int} (hn : n ≤ 100000) (N : Num n P g) (e1 : cntS (lostB g t (waitV l m s v f) P) i = a + 1) (e2 : cntS (restB g t (waitV l m s v f) P) i = 0) : evalC C9 0 1 c12_7 (tplF 112 L12 (v12 n g t (.slice 2 0 6 (a + 1)) .nilSlice (tmV g t (waitV l m s v f) P i) (.int .i64 i))) ((h12 n P l m s v f ++ [lO (a + 1) (fun r => P (ixS (lostB g t (waitV l m s v f) P) i r))]).map mkB) (obsN L12 M12s (seen 112 5 (QR12 n P g t l m s v f i))) := by
  rw [p12sn n P g t l m s v f (tmV g t (waitV l m s v f) P i) i a (fun r => P (ixS (lostB g t (waitV l m s v f) P) i r))]
  refine condSplit (fun hin => ?_) fun hin => ?_
  rotate_left
  · refine ⟨rfl, rfl, ⟨fun _ _ => rfl, rfl, (fun _ _ => rfl), trivial, trivial, trivial⟩, .inl ⟨rfl, by have := of_decide_eq_false hin; omega, _, _, ?_, rfl, rfl⟩⟩
    simp only [lsV, lsO, e1, e2, List.length_nil, List.length_cons, List.nil_append, List.append_nil, List.cons_append]
    exact tpl_weak (len := 112) (L := L12) (vals' := v12 n g t (.slice 2 0 6 (a + 1)) .nilSlice (tmV g t (waitV l m s v f) P i) (.int .i64 i)) (B := h12 n P l m s v f ++ [lO (a + 1) (fun r => P (ixS (lostB g t (waitV l m s v f) P) i r))]) (R := [.raw none, .raw none]) ⟨.inr rfl, .inr rfl, .inr rfl, .inr rfl, .inr rfl, .inr rfl, .inr rfl, .inr rfl, trivial⟩ rfl ⟨fun _ _ => rfl, rfl, (fun _ _ => rfl), trivial⟩ (show 1 ≤ 3 by decide)
  have hi : i < n := by have := of_decide_eq_true hin; omega
  have hw : IntKind.i64.wrap ((i : Int) + 1) = ((i + 1 : Nat) : Int) := i64n i (by omega)
  have h2 : (decide (i < n) && true) = true := by rw [Bool.and_true]; exact cb hi
  have hf := far_iff N hi
  simp only [Nat.zero_add, Int.toNat_natCast]
  have ha : a + 1 ≤ 100000 := by have := cntS_le (lostB g t (waitV l m s v f) P) i; omega
  refine condT' hin (condT' h2 (condT' hin (condT' h2 (condSplit (fun q1 => condT' hin (condT' h2 (condSplit (fun q2 => condT' hin (condT' h2 (condT' (cap6 ha) ?_))) fun q2 => condSplit (fun q6 => condT' hin (condT' h2 (condT' (cap6 ha) ?_))) fun q6 => condT' hin (condT' h2 (condT' hin (condT' h2 (condSplit (fun q3 => condSplit (fun q4 => ?_) fun q4 => condSplit (fun q5 => ?_) fun q5 => ?_) fun q3 => ?_))))))) fun q1 => condT' hin (condT' h2 (condT' hin (condT' h2 (condSplit (fun q3 => ?_) fun q3 => ?_))))))))
  · have hl := lost_yes (t := t) (w := (waitV l m s v f)) q1 (by rw [hf, show decide ((P i).n ≤ IntKind.i64.wrap (g - 3)) = true from q2]; rfl)
    exact ⟨rfl, rfl, ⟨fun _ _ => rfl, rfl, trivial, rfl, ((isL_app rfl rfl rfl rfl (fun r hr => by show cond _ _ _ = _; rw [decide_eq_true hr]; rfl) (by show cond _ _ _ = _; rw [decide_eq_false (Nat.lt_irrefl _), Nat.sub_self]; rfl) hl e1)).ids, trivial⟩, .inr ⟨rfl, hi, nx12SN (x := 4) hw ⟨rfl, rfl⟩ (tm_lost hl) (by rw [cntS_yes hl, e1]) (by rw [cntS_no (rest_no hl), e2]) rfl (isL_app rfl rfl rfl rfl (fun r hr => by show cond _ _ _ = _; rw [decide_eq_true hr]; rfl) (by show cond _ _ _ = _; rw [decide_eq_false (Nat.lt_irrefl _), Nat.sub_self]; rfl) hl e1) (by decide)⟩⟩
  · have hl := lost_yes (t := t) (w := (waitV l m s v f)) q1 (by rw [show decide (dueT (P i).a (waitV l m s v f) ≤ t) = true from q6, Bool.or_true])
    exact ⟨rfl, rfl, ⟨fun _ _ => rfl, rfl, trivial, rfl, ((isL_app rfl rfl rfl rfl (fun r hr => by show cond _ _ _ = _; rw [decide_eq_true hr]; rfl) (by show cond _ _ _ = _; rw [decide_eq_false (Nat.lt_irrefl _), Nat.sub_self]; rfl) hl e1)).ids, trivial⟩, .inr ⟨rfl, hi, nx12SN (x := 4) hw ⟨rfl, rfl⟩ (tm_lost hl) (by rw [cntS_yes hl, e1]) (by rw [cntS_no (rest_no hl), e2]) rfl (isL_app rfl rfl rfl rfl (fun r hr => by show cond _ _ _ = _; rw [decide_eq_true hr]; rfl) (by show cond _ _ _ = _; rw [decide_eq_false (Nat.lt_irrefl _), Nat.sub_self]; rfl) hl e1) (by decide)⟩⟩
  · have hl : lostB g t (waitV l m s v f) P i = false := lost_no2 (by rw [hf, show decide ((P i).n ≤ IntKind.i64.wrap (g - 3)) = false from q2, show decide (dueT (P i).a (waitV l m s v f) ≤ t) = false from q6]; rfl)
    exact ⟨rfl, rfl, ⟨fun _ _ => rfl, rfl, (fun _ _ => rfl), rfl, ((isL_one rfl rfl rfl rfl rfl (rest_yes hl) e2)).ids, trivial⟩, .inr ⟨rfl, hi, nx12SS (x := 2) (y := 4) hw ⟨rfl, rfl⟩ (tm_new hl q1 q4) (by rw [cntS_no hl, e1]) (by rw [cntS_yes (rest_yes hl), e2]) rfl (isL_keep rfl rfl rfl rfl (fun r => rfl) hl) rfl (isL_one rfl rfl rfl rfl rfl (rest_yes hl) e2) (by decide)⟩⟩
  · have hl : lostB g t (waitV l m s v f) P i = false := lost_no2 (by rw [hf, show decide ((P i).n ≤ IntKind.i64.wrap (g - 3)) = false from q2, show decide (dueT (P i).a (waitV l m s v f) ≤ t) = false from q6]; rfl)
    exact ⟨rfl, rfl, ⟨fun _ _ => rfl, rfl, (fun _ _ => rfl), rfl, ((isL_one rfl rfl rfl rfl rfl (rest_yes hl) e2)).ids, trivial⟩, .inr ⟨rfl, hi, nx12SS (x := 2) (y := 4) hw ⟨rfl, rfl⟩ (tm_less hl q1 q5) (by rw [cntS_no hl, e1]) (by rw [cntS_yes (rest_yes hl), e2]) rfl (isL_keep rfl rfl rfl rfl (fun r => rfl) hl) rfl (isL_one rfl rfl rfl rfl rfl (rest_yes hl) e2) (by decide)⟩⟩
  · have hl : lostB g t (waitV l m s v f) P i = false := lost_no2 (by rw [hf, show decide ((P i).n ≤ IntKind.i64.wrap (g - 3)) = false from q2, show decide (dueT (P i).a (waitV l m s v f) ≤ t) = false from q6]; rfl)
    exact ⟨rfl, rfl, ⟨fun _ _ => rfl, rfl, (fun _ _ => rfl), rfl, ((isL_one rfl rfl rfl rfl rfl (rest_yes hl) e2)).ids, trivial⟩, .inr ⟨rfl, hi, nx12SS (x := 2) (y := 4) hw ⟨rfl, rfl⟩ (tm_same1 hl q4 q5) (by rw [cntS_no hl, e1]) (by rw [cntS_yes (rest_yes hl), e2]) rfl (isL_keep rfl rfl rfl rfl (fun r => rfl) hl) rfl (isL_one rfl rfl rfl rfl rfl (rest_yes hl) e2) (by decide)⟩⟩
  · rw [q1] at q3; cases q3
  · rw [q1] at q3; cases q3
  · have hl : lostB g t (waitV l m s v f) P i = false := lost_no1 q1
    exact ⟨rfl, rfl, ⟨fun _ _ => rfl, rfl, (fun _ _ => rfl), rfl, ((isL_one rfl rfl rfl rfl rfl (rest_yes hl) e2)).ids, trivial⟩, .inr ⟨rfl, hi, nx12SS (x := 2) (y := 4) hw ⟨rfl, rfl⟩ (tm_same2 hl q1) (by rw [cntS_no hl, e1]) (by rw [cntS_yes (rest_yes hl), e2]) rfl (isL_keep rfl rfl rfl rfl (fun r => rfl) hl) rfl (isL_one rfl rfl rfl rfl rfl (rest_yes hl) e2) (by decide)⟩⟩
theorem round12ns {n i a b : Nat} {P : Nat → Pk} {g t l m s v f : Int} (hn : n ≤ 100000) (N : Num n P g) (e1 : cntS (lostB g t (waitV l m s v f) P) i = 0) (e2 : cntS (restB g t (waitV l m s v f) P) i = b + 1) : evalC C9 0 1 c12_7 (tplF 112 L12 (v12 n g t .nilSlice (.slice 2 0 6 (b + 1)) (tmV g t (waitV l m s v f) P i) (.int .i64 i))) ((h12 n P l m s v f ++ [lO (b + 1) (fun r => P (ixS (restB g t (waitV l m s v f) P) i r))]).map mkB) (obsN L12 M12s (seen 112 5 (QR12 n P g t l m s v f i))) := by
  rw [p12ns n P g t l m s v f (tmV g t (waitV l m s v f) P i) i b (fun r => P (ixS (restB g t (waitV l m s v f) P) i r))]
  refine condSplit (fun hin => ?_) fun hin => ?_
  rotate_left
  · refine ⟨rfl, rfl, ⟨fun _ _ => rfl, rfl, (fun _ _ => rfl), trivial, trivial, trivial⟩, .inl ⟨rfl, by have := of_decide_eq_false hin; omega, _, _, ?_, rfl, rfl⟩⟩
    simp only [lsV, lsO, e1, e2, List.length_nil, List.length_cons, List.nil_append, List.append_nil, List.cons_append]
    exact tpl_weak (len := 112) (L := L12) (vals' := v12 n g t .nilSlice (.slice 2 0 6 (b + 1)) (tmV g t (waitV l m s v f) P i) (.int .i64 i)) (B := h12 n P l m s v f ++ [lO (b + 1) (fun r => P (ixS (restB g t (waitV l m s v f) P) i r))]) (R := [.raw none, .raw none]) ⟨.inr rfl, .inr rfl, .inr rfl, .inr rfl, .inr rfl, .inr rfl, .inr rfl, .inr rfl, trivial⟩ rfl ⟨fun _ _ => rfl, rfl, (fun _ _ => rfl), trivial⟩ (show 1 ≤ 3 by decide)
  have hi : i < n := by have := of_decide_eq_true hin; omega
  have hw : IntKind.i64.wrap ((i : Int) + 1) = ((i + 1 : Nat) : Int) := i64n i (by omega)
  have h2 : (decide (i < n) && true) = true := by rw [Bool.and_true]; exact cb hi
  have hf := far_iff N hi
  simp only [Nat.zero_add, Int.toNat_natCast]
  have hb : b + 1 ≤ 100000 := by have := cntS_le (restB g t (waitV l m s v f) P) i; omega
  refine condT' hin (condT' h2 (condT' hin (condT' h2 (condSplit (fun q1 => condT' hin (condT' h2 (condSplit (fun q2 => condT' hin (condT' h2 (?_))) fun q2 => condSplit (fun q6 => condT' hin (condT' h2 (?_))) fun q6 => condT' hin (condT' h2 (condT' (cap6 hb) (condT' hin (condT' h2 (condSplit (fun q3 => condSplit (fun q4 => ?_) fun q4 => condSplit (fun q5 => ?_) fun q5 => ?_) fun q3 => ?_)))))))) fun q1 => condT' hin (condT' h2 (condT' (cap6 hb) (condT' hin (condT' h2 (condSplit (fun q3 => ?_) fun q3 => ?_)))))))))
  · have hl := lost_yes (t := t) (w := (waitV l m s v f)) q1 (by rw [hf, show decide ((P i).n ≤ IntKind.i64.wrap (g - 3)) = true from q2]; rfl)
    exact ⟨rfl, rfl, ⟨fun _ _ => rfl, rfl, (fun _ _ => rfl), rfl, ((isL_one rfl rfl rfl rfl rfl hl e1)).ids, trivial⟩, .inr ⟨rfl, hi, nx12SS (x := 4) (y := 2) hw ⟨rfl, rfl⟩ (tm_lost hl) (by rw [cntS_yes hl, e1]) (by rw [cntS_no (rest_no hl), e2]) rfl (isL_one rfl rfl rfl rfl rfl hl e1) rfl (isL_keep rfl rfl rfl rfl (fun r => rfl) (rest_no hl)) (by decide)⟩⟩
  · have hl := lost_yes (t := t) (w := (waitV l m s v f)) q1 (by rw [show decide (dueT (P i).a (waitV l m s v f) ≤ t) = true from q6, Bool.or_true])
    exact ⟨rfl, rfl, ⟨fun _ _ => rfl, rfl, (fun _ _ => rfl), rfl, ((isL_one rfl rfl rfl rfl rfl hl e1)).ids, trivial⟩, .inr ⟨rfl, hi, nx12SS (x := 4) (y := 2) hw ⟨rfl, rfl⟩ (tm_lost hl) (by rw [cntS_yes hl, e1]) (by rw [cntS_no (rest_no hl), e2]) rfl (isL_one rfl rfl rfl rfl rfl hl e1) rfl (isL_keep rfl rfl rfl rfl (fun r => rfl) (rest_no hl)) (by decide)⟩⟩
  · have hl : lostB g t (waitV l m s v f) P i = false := lost_no2 (by rw [hf, show decide ((P i).n ≤ IntKind.i64.wrap (g - 3)) = false from q2, show decide (dueT (P i).a (waitV l m s v f) ≤ t) = false from q6]; rfl)
    exact ⟨rfl, rfl, ⟨fun _ _ => rfl, rfl, trivial, rfl, ((isL_app rfl rfl rfl rfl (fun r hr => by show cond _ _ _ = _; rw [decide_eq_true hr]; rfl) (by show cond _ _ _ = _; rw [decide_eq_false (Nat.lt_irrefl _), Nat.sub_self]; rfl) (rest_yes hl) e2)).ids, trivial⟩, .inr ⟨rfl, hi, nx12NS (y := 4) hw ⟨rfl, rfl⟩ (tm_new hl q1 q4) (by rw [cntS_no hl, e1]) (by rw [cntS_yes (rest_yes hl), e2]) rfl (isL_app rfl rfl rfl rfl (fun r hr => by show cond _ _ _ = _; rw [decide_eq_true hr]; rfl) (by show cond _ _ _ = _; rw [decide_eq_false (Nat.lt_irrefl _), Nat.sub_self]; rfl) (rest_yes hl) e2) (by decide)⟩⟩
  · have hl : lostB g t (waitV l m s v f) P i = false := lost_no2 (by rw [hf, show decide ((P i).n ≤ IntKind.i64.wrap (g - 3)) = false from q2, show decide (dueT (P i).a (waitV l m s v f) ≤ t) = false from q6]; rfl)
    exact ⟨rfl, rfl, ⟨fun _ _ => rfl, rfl, trivial, rfl, ((isL_app rfl rfl rfl rfl (fun r hr => by show cond _ _ _ = _; rw [decide_eq_true hr]; rfl) (by show cond _ _ _ = _; rw [decide_eq_false (Nat.lt_irrefl _), Nat.sub_self]; rfl) (rest_yes hl) e2)).ids, trivial⟩, .inr ⟨rfl, hi, nx12NS (y := 4) hw ⟨rfl, rfl⟩ (tm_less hl q1 q5) (by rw [cntS_no hl, e1]) (by rw [cntS_yes (rest_yes hl), e2]) rfl (isL_app rfl rfl rfl rfl (fun r hr => by show cond _ _ _ = _; rw [decide_eq_true hr]; rfl) (by show cond _ _ _ = _; rw [decide_eq_false (Nat.lt_irrefl _), Nat.sub_self]; rfl) (rest_yes hl) e2) (by decide)⟩⟩
  · have hl : lostB g t (waitV l m s v f) P i = false := lost_no2 (by rw [hf, show decide ((P i).n ≤ IntKind.i64.wrap (g - 3)) = false from q2, show decide (dueT (P i).a (waitV l m s v f) ≤ t) = false from q6]; rfl)
    exact ⟨rfl, rfl, ⟨fun _ _ => rfl, rfl, trivial, rfl, ((isL_app rfl rfl rfl rfl (fun r hr => by show cond _ _ _ = _; rw [decide_eq_true hr]; rfl) (by show cond _ _ _ = _; rw [decide_eq_false (Nat.lt_irrefl _), Nat.sub_self]; rfl) (rest_yes hl) e2)).ids, trivial⟩, .inr ⟨rfl, hi, nx12NS (y := 4) hw ⟨rfl, rfl⟩ (tm_same1 hl q4 q5) (by rw [cntS_no hl, e1]) (by rw [cntS_yes (rest_yes hl), e2]) rfl (isL_app rfl rfl rfl rfl (fun r hr => by show cond _ _ _ = _; rw [decide_eq_true hr]; rfl) (by show cond _ _ _ = _; rw [decide_eq_false (Nat.lt_irrefl _), Nat.sub_self]; rfl) (rest_yes hl) e2) (by decide)⟩⟩
  · rw [q1] at q3; cases q3
  · rw [q1] at q3; cases q3
  · have hl : lostB g t (waitV l m s v f) P i = false := lost_no1 q1
    exact ⟨rfl, rfl, ⟨fun _ _ => rfl, rfl, trivial, rfl, ((isL_app rfl rfl rfl rfl (fun r hr => by show cond _ _ _ = _; rw [decide_eq_true hr]; rfl) (by show cond _ _ _ = _; rw [decide_eq_false (Nat.lt_irrefl _), Nat.sub_self]; rfl) (rest_yes hl) e2)).ids, trivial⟩, .inr ⟨rfl, hi, nx12NS (y := 4) hw ⟨rfl, rfl⟩ (tm_same2 hl q1) (by rw [cntS_no hl, e1]) (by rw [cntS_yes (rest_yes hl), e2]) rfl (isL_app rfl rfl rfl rfl (fun r hr => by show cond _ _ _ = _; rw [decide_eq_true hr]; rfl) (by show cond _ _ _ = _; rw [decide_eq_false (Nat.lt_irrefl _), Nat.sub_self]; rfl) (rest_yes hl) e2) (by decide)⟩⟩
theorem round12ss {n i a b : Nat} {P : Nat → Pk} {g t l m s v f : Int} (hn : n ≤ 100000) (N : Num n P g) (e1 : cntS (lostB g t (waitV l m s v f) P) i = a + 1) (e2 : cntS (restB g t (waitV l m s v f) P) i = b + 1) : evalC C9 0 1 c12_7 (tplF 112 L12 (v12 n g t (.slice 2 0 6 (a + 1)) (.slice 3 0 6 (b + 1)) (tmV g t (waitV l m s v f) P i) (.int .i64 i))) ((h12 n P l m s v f ++ [lO (a + 1) (fun r => P (ixS (lostB g t (waitV l m s v f) P) i r)), lO (b + 1) (fun r => P (ixS (restB g t (waitV l m s v f) P) i r))]).map mkB) (obsN L12 M12ss (seen 112 6 (QR12 n P g t l m s v f i))) := by
  rw [p12ss n P g t l m s v f (tmV g t (waitV l m s v f) P i) i a (fun r => P (ixS (lostB g t (waitV l m s v f) P) i r)) b (fun r => P (ixS (restB g t (waitV l m s v f) P) i r))]
  refine condSplit (fun hin => ?_) fun hin => ?_
  rotate_left
  · refine ⟨rfl, rfl, ⟨fun _ _ => rfl, rfl, (fun _ _ => rfl), (fun _ _ => rfl), trivial, trivial, trivial⟩, .inl ⟨rfl, by have := of_decide_eq_false hin; omega, _, _, ?_, rfl, rfl⟩⟩
    simp only [lsV, lsO, e1, e2, List.length_nil, List.length_cons, List.nil_append, List.append_nil, List.cons_append]
    exact tpl_weak (len := 112) (L := L12) (vals' := v12 n g t (.slice 2 0 6 (a + 1)) (.slice 3 0 6 (b + 1)) (tmV g t (waitV l m s v f) P i) (.int .i64 i)) (B := h12 n P l m s v f ++ [lO (a + 1) (fun r => P (ixS (lostB g t (waitV l m s v f) P) i r)), lO (b + 1) (fun r => P (ixS (restB g t (waitV l m s v f) P) i r))]) (R := [.raw none, .raw none]) ⟨.inr rfl, .inr rfl, .inr rfl, .inr rfl, .inr rfl, .inr rfl, .inr rfl, .inr rfl, trivial⟩ rfl ⟨fun _ _ => rfl, rfl, (fun _ _ => rfl), (fun _ _ => rfl), trivial⟩ (show 1 ≤ 4 by decide)
  have hi : i < n := by have := of_decide_eq_true hin; omega
  have hw : IntKind.i64.wrap ((i : Int) + 1) = ((i + 1 : Nat) : Int) := i64n i (by omega)
  have h2 : (decide (i < n) && true) = true := by rw [Bool.and_true]; exact cb hi
  have hf := far_iff N hi
  simp only [Nat.zero_add, Int.toNat_natCast]
  have ha : a + 1 ≤ 100000 := by have := cntS_le (lostB g t (waitV l m s v f) P) i; omega
  have hb : b + 1 ≤ 100000 := by have := cntS_le (restB g t (waitV l m s v f) P) i; omega
  refine condT' hin (condT' h2 (condT' hin (condT' h2 (condSplit (fun q1 => condT' hin (condT' h2 (condSplit (fun q2 => condT' hin (condT' h2 (condT' (cap6 ha) ?_))) fun q2 => condSplit (fun q6 => condT' hin (condT' h2 (condT' (cap6 ha) ?_))) fun q6 => condT' hin (condT' h2 (condT' (cap6 hb) (condT' hin (condT' h2 (condSplit (fun q3 => condSplit (fun q4 => ?_) fun q4 => condSplit (fun q5 => ?_) fun q5 => ?_) fun q3 => ?_)))))))) fun q1 => condT' hin (condT' h2 (condT' (cap6 hb) (condT' hin (condT' h2 (condSplit (fun q3 => ?_) fun q3 => ?_)))))))))
  · have hl := lost_yes (t := t) (w := (waitV l m s v f)) q1 (by rw [hf, show decide ((P i).n ≤ IntKind.i64.wrap (g - 3)) = true from q2]; rfl)
    exact ⟨rfl, rfl, ⟨fun _ _ => rfl, rfl, trivial, (fun _ _ => rfl), rfl, ((isL_app rfl rfl rfl rfl (fun r hr => by show cond _ _ _ = _; rw [decide_eq_true hr]; rfl) (by show cond _ _ _ = _; rw [decide_eq_false (Nat.lt_irrefl _), Nat.sub_self]; rfl) hl e1)).ids, trivial⟩, .inr ⟨rfl, hi, nx12SS (x := 5) (y := 3) hw ⟨rfl, rfl⟩ (tm_lost hl) (by rw [cntS_yes hl, e1]) (by rw [cntS_no (rest_no hl), e2]) rfl (isL_app rfl rfl rfl rfl (fun r hr => by show cond _ _ _ = _; rw [decide_eq_true hr]; rfl) (by show cond _ _ _ = _; rw [decide_eq_false (Nat.lt_irrefl _), Nat.sub_self]; rfl) hl e1) rfl (isL_keep rfl rfl rfl rfl (fun r => rfl) (rest_no hl)) (by decide)⟩⟩
  · have hl := lost_yes (t := t) (w := (waitV l m s v f)) q1 (by rw [show decide (dueT (P i).a (waitV l m s v f) ≤ t) = true from q6, Bool.or_true])
    exact ⟨rfl, rfl, ⟨fun _ _ => rfl, rfl, trivial, (fun _ _ => rfl), rfl, ((isL_app rfl rfl rfl rfl (fun r hr => by show cond _ _ _ = _; rw [decide_eq_true hr]; rfl) (by show cond _ _ _ = _; rw [decide_eq_false (Nat.lt_irrefl _), Nat.sub_self]; rfl) hl e1)).ids, trivial⟩, .inr ⟨rfl, hi, nx12SS (x := 5) (y := 3) hw ⟨rfl, rfl⟩ (tm_lost hl) (by rw [cntS_yes hl, e1]) (by rw [cntS_no (rest_no hl), e2]) rfl (isL_app rfl rfl rfl rfl (fun r hr => by show cond _ _ _ = _; rw [decide_eq_true hr]; rfl) (by show cond _ _ _ = _; rw [decide_eq_false (Nat.lt_irrefl _), Nat.sub_self]; rfl) hl e1) rfl (isL_keep rfl rfl rfl rfl (fun r => rfl) (rest_no hl)) (by decide)⟩⟩
  · have hl : lostB g t (waitV l m s v f) P i = false := lost_no2 (by rw [hf, show decide ((P i).n ≤ IntKind.i64.wrap (g - 3)) = false from q2, show decide (dueT (P i).a (waitV l m s v f) ≤ t) = false from q6]; rfl)
    exact ⟨rfl, rfl, ⟨fun _ _ => rfl, rfl, (fun _ _ => rfl), trivial, rfl, ((isL_app rfl rfl rfl rfl (fun r hr => by show cond _ _ _ = _; rw [decide_eq_true hr]; rfl) (by show cond _ _ _ = _; rw [decide_eq_false (Nat.lt_irrefl _), Nat.sub_self]; rfl) (rest_yes hl) e2)).ids, trivial⟩, .inr ⟨rfl, hi, nx12SS (x := 2) (y := 5) hw ⟨rfl, rfl⟩ (tm_new hl q1 q4) (by rw [cntS_no hl, e1]) (by rw [cntS_yes (rest_yes hl), e2]) rfl (isL_keep rfl rfl rfl rfl (fun r => rfl) hl) rfl (isL_app rfl rfl rfl rfl (fun r hr => by show cond _ _ _ = _; rw [decide_eq_true hr]; rfl) (by show cond _ _ _ = _; rw [decide_eq_false (Nat.lt_irrefl _), Nat.sub_self]; rfl) (rest_yes hl) e2) (by decide)⟩⟩
  · have hl : lostB g t (waitV l m s v f) P i = false := lost_no2 (by rw [hf, show decide ((P i).n ≤ IntKind.i64.wrap (g - 3)) = false from q2, show decide (dueT (P i).a (waitV l m s v f) ≤ t) = false from q6]; rfl)
    exact ⟨rfl, rfl, ⟨fun _ _ => rfl, rfl, (fun _ _ => rfl), trivial, rfl, ((isL_app rfl rfl rfl rfl (fun r hr => by show cond _ _ _ = _; rw [decide_eq_true hr]; rfl) (by show cond _ _ _ = _; rw [decide_eq_false (Nat.lt_irrefl _), Nat.sub_self]; rfl) (rest_yes hl) e2)).ids, trivial⟩, .inr ⟨rfl, hi, nx12SS (x := 2) (y := 5) hw ⟨rfl, rfl⟩ (tm_less hl q1 q5) (by rw [cntS_no hl, e1]) (by rw [cntS_yes (rest_yes hl), e2]) rfl (isL_keep rfl rfl rfl rfl (fun r => rfl) hl) rfl (isL_app rfl rfl rfl rfl (fun r hr => by show cond _ _ _ = _; rw [decide_eq_true hr]; rfl) (by show cond _ _ _ = _; rw [decide_eq_false (Nat.lt_irrefl _), Nat.sub_self]; rfl) (rest_yes hl) e2) (by decide)⟩⟩
  · have hl : lostB g t (waitV l m s v f) P i = false := lost_no2 (by rw [hf, show decide ((P i).n ≤ IntKind.i64.wrap (g - 3)) = false from q2, show decide (dueT (P i).a (waitV l m s v f) ≤ t) = false from q6]; rfl)
    exact ⟨rfl, rfl, ⟨fun _ _ => rfl, rfl, (fun _ _ => rfl), trivial, rfl, ((isL_app rfl rfl rfl rfl (fun r hr => by show cond _ _ _ = _; rw [decide_eq_true hr]; rfl) (by show cond _ _ _ = _; rw [decide_eq_false (Nat.lt_irrefl _), Nat.sub_self]; rfl) (rest_yes hl) e2)).ids, trivial⟩, .inr ⟨rfl, hi, nx12SS (x := 2) (y := 5) hw ⟨rfl, rfl⟩ (tm_same1 hl q4 q5) (by rw [cntS_no hl, e1]) (by rw [cntS_yes (rest_yes hl), e2]) rfl (isL_keep rfl rfl rfl rfl (fun r => rfl) hl) rfl (isL_app rfl rfl rfl rfl (fun r hr => by show cond _ _ _ = _; rw [decide_eq_true hr]; rfl) (by show cond _ _ _ = _; rw [decide_eq_false (Nat.lt_irrefl _), Nat.sub_self]; rfl) (rest_yes hl) e2) (by decide)⟩⟩
  · rw [q1] at q3; cases q3
  · rw [q1] at q3; cases q3
  · have hl : lostB g t (waitV l m s v f) P i = false := lost_no1 q1
    exact ⟨rfl, rfl, ⟨fun _ _ => rfl, rfl, (fun _ _ => rfl), trivial, rfl, ((isL_app rfl rfl rfl rfl (fun r hr => by show cond _ _ _ = _; rw [decide_eq_true hr]; rfl) (by show cond _ _ _ = _; rw [decide_eq_false (Nat.lt_irrefl _), Nat.sub_self]; rfl) (rest_yes hl) e2)).ids, trivial⟩, .inr ⟨rfl, hi, nx12SS (x := 2) (y := 5) hw ⟨rfl, rfl⟩ (tm_same2 hl q1) (by rw [cntS_no hl, e1]) (by rw [cntS_yes (rest_yes hl), e2]) rfl (isL_keep rfl rfl rfl rfl (fun r => rfl) hl) rfl (isL_app rfl rfl rfl rfl (fun r hr => by show cond _ _ _ = _; rw [decide_eq_true hr]; rfl) (by show cond _ _ _ = _; rw [decide_eq_false (Nat.lt_irrefl _), Nat.sub_self]; rfl) (rest_yes hl) e2) (by decide)⟩⟩
end
end Go.Proofs.Ytcjfmkkfcbelpaa
