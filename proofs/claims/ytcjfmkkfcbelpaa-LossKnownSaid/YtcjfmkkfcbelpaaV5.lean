/-
  Chapter 9 by the engine: what is lost: the loop of loss.Find.
-/
import Derived.Test.YtcjfmkkfcbelpaaT5
import Derived.Test.YtcjfmkkfcbelpaaT6
import Derived.Test.YtcjfmkkfcbelpaaP3
namespace Go.Proofs.Ytcjfmkkfcbelpaa
open Go.RowKit
set_option linter.unusedVariables false
theorem gs9 : GSound C9 := (((gs8.add ok14).add ok15).add ok13).add ok22
def lostB (g t w : Int) (P : Nat → Pk) (i : Nat) : Bool := decide ((P i).n ≤ g) && (far g (P i).n || decide (dueT (P i).a w ≤ t))
def restB (g t w : Int) (P : Nat → Pk) (i : Nat) : Bool := !lostB g t w P i
def leB (g : Int) (P : Nat → Pk) (i : Nat) : Bool := decide ((P i).n ≤ g)
def dueP (w : Int) (P : Nat → Pk) (i : Nat) : Int := minT (dueT (P i).a w)
def tmV (g t w : Int) (P : Nat → Pk) : Nat → Int := tmS (lostB g t w P) (leB g P) (dueP w P)
/-- The list that was picked, by its value, and its block. -/
def lsV (f : Nat → Bool) (i id : Nat) : SV := match cntS f i with
  | 0 => .nilSlice
  | a + 1 => .slice id 0 6 (a + 1)
def lsO (f : Nat → Bool) (P : Nat → Pk) (i : Nat) : List BO := match cntS f i with
  | 0 => []
  | a + 1 => [lO (a + 1) fun r => P (ixS f i r)]
/-- A list of packets in a block of its own. -/
structure IsL (A : Blk) (f : Nat → Pk) (n : Nat) : Prop where
  sz : A.sz = 6
  len : A.n = n
  rw : A.rw = true
  ty : A.ty = 33
  rd : ∀ r, r < n → A.rd r = pkC (f r)
theorem IsL.wb {A : Blk} {f : Nat → Pk} {n : Nat} (hA : IsL A f n) (ρ : Ren) : WB ρ (bPw n f) A :=
  WB.of_rows hA.sz.symm (by rw [hA.len]; exact Nat.le_refl _) (fun _ => hA.rw) (fun _ => hA.ty.symm) fun r hr => ⟨(hA.rd r hr).symm, rfl⟩
/-- What stands behind so many rounds. -/
def St (n : Nat) (P : Nat → Pk) (g t w : Int) (i : Nat) (fr : List SV) (hp : LHeap) : Prop :=
  fr = tplF 89 L11 (v11 n (lsV (lostB g t w P) i 7) (lsV (restB g t w P) i (7 + (lsO (lostB g t w P) P i).length)) (tmV g t w P i) (.slice 0 0 6 n) (.int .i64 i)) ∧
  hp = (h11 n P g t w ++ (lsO (lostB g t w P) P i ++ lsO (restB g t w P) P i)).map mkB
def Nx (n : Nat) (P : Nat → Pk) (g t w : Int) (i : Nat) (fr : List SV) (hp : LHeap) : Prop := ∃ fr' hp', Weak 1 fr hp fr' hp' ∧ St n P g t w i fr' hp'
/-- What all rounds leave as it is. -/
structure Base (n : Nat) (P : Nat → Pk) (g t w : Int) (hp : LHeap) : Prop where
  h0 : hget hp 0 = some (bP n P)
  h2 : hget hp 2 = mkB (cO g)
  h3 : hget hp 3 = mkB (cO t)
  h4 : hget hp 4 = mkB (cO w)
  h5 : hget hp 5 = mkB dueO
  h6 : hget hp 6 = mkB (.rows 3 1 true 56 [rulC 2 5 3])
theorem nxSN {n : Nat} {P : Nat → Pk} {g t w tm x0 : Int} {i a x : Nat} {B : List BO} {A : Blk} (hx : x0 = ((i + 1 : Nat) : Int)) (hB : Base n P g t w (B.map mkB)) (ht : tm = tmV g t w P (i + 1)) (e1 : cntS (lostB g t w P) (i + 1) = a + 1) (e2 : cntS (restB g t w P) (i + 1) = 0) (hA : hget (B.map mkB) x = some A) (lA : IsL A (fun r => P (ixS (lostB g t w P) (i + 1) r)) (a + 1)) (hne : [0, 1, 2, 3, 4, 5, 6, x].Nodup) : Nx n P g t w (i + 1) (tplF 89 L11 [.slice 0 0 6 n, .slice x 0 6 (a + 1), .nilSlice, .int .i64 tm, .ptr 6 0 3 0, .slice 0 0 6 n, .int .i64 n, .int .i64 x0]) (B.map mkB) := by
  subst hx ht
  refine ⟨_, _, ?_, rfl, rfl⟩
  simp only [lsV, lsO, e1, e2, List.length_nil, List.length_cons, List.nil_append, List.append_nil, List.cons_append]
  refine ren_weak (m0 := 1) (vals' := [.slice 0 0 6 n, .slice 7 0 6 (a + 1), .nilSlice, .int .i64 (tmV g t w P (i + 1)), .ptr 6 0 3 0, .slice 0 0 6 n, .int .i64 n, .int .i64 ((i + 1 : Nat) : Int)]) [0, 1, 2, 3, 4, 5, 6, x] rfl (show 1 ≤ 8 by decide) (fun j hj => by obtain rfl : j = 0 := (by omega); rfl) ⟨.inr rfl, .inr rfl, .inr rfl, .inr rfl, .inr rfl, .inr rfl, .inr rfl, .inr rfl, trivial⟩ (fun id b1 hb1 => ?_) (inj_nodup hne)
  match id, hb1 with
  | 0, hb1 =>
    obtain rfl := Option.some.inj (show some (bP n P) = some b1 from hb1)
    exact ⟨0, _, rfl, hB.h0, WB.of_rows rfl (Nat.le_refl _) (fun h => h) (fun _ => rfl) fun _ _ => ⟨rfl, rfl⟩⟩
  | 1, hb1 => exact nomatch (show (none : Option Blk) = some b1 from hb1)
  | 2, hb1 =>
    have h := hB.h2.trans hb1
    obtain rfl := Option.some.inj (show some _ = some b1 from hb1)
    exact ⟨2, _, rfl, h, rfl, Nat.le_refl _, (fun h => h), (fun _ => rfl), fun r hr => by
      obtain rfl : r = 0 := (by have : r < 1 := hr; omega)
      exact ⟨.inr rfl, trivial⟩⟩
  | 3, hb1 =>
    have h := hB.h3.trans hb1
    obtain rfl := Option.some.inj (show some _ = some b1 from hb1)
    exact ⟨3, _, rfl, h, rfl, Nat.le_refl _, (fun h => h), (fun _ => rfl), fun r hr => by
      obtain rfl : r = 0 := (by have : r < 1 := hr; omega)
      exact ⟨.inr rfl, trivial⟩⟩
  | 4, hb1 =>
    have h := hB.h4.trans hb1
    obtain rfl := Option.some.inj (show some _ = some b1 from hb1)
    exact ⟨4, _, rfl, h, rfl, Nat.le_refl _, (fun h => h), (fun _ => rfl), fun r hr => by
      obtain rfl : r = 0 := (by have : r < 1 := hr; omega)
      exact ⟨.inr rfl, trivial⟩⟩
  | 5, hb1 =>
    have h := hB.h5.trans hb1
    obtain rfl := Option.some.inj (show some _ = some b1 from hb1)
    exact ⟨5, _, rfl, h, rfl, Nat.le_refl _, (fun h => h), (fun _ => rfl), fun r hr => by
      obtain rfl : r = 0 := (by have : r < 1 := hr; omega)
      exact ⟨.inr rfl, trivial⟩⟩
  | 6, hb1 =>
    have h := hB.h6.trans hb1
    obtain rfl := Option.some.inj (show some _ = some b1 from hb1)
    exact ⟨6, _, rfl, h, rfl, Nat.le_refl _, (fun h => h), (fun _ => rfl), fun r hr => by
      obtain rfl : r = 0 := (by have : r < 1 := hr; omega)
      exact ⟨.inr rfl, .inr rfl, .inr rfl, trivial⟩⟩
  | 7, hb1 =>
    obtain rfl := Option.some.inj (show some (bPw (a + 1) (fun r => P (ixS (lostB g t w P) (i + 1) r))) = some b1 from hb1)
    exact ⟨x, _, rfl, hA, lA.wb _⟩
  | id + 8, hb1 => exact nomatch (show (none : Option Blk) = some b1 from hb1)
theorem nxNS {n : Nat} {P : Nat → Pk} {g t w tm x0 : Int} {i b y : Nat} {B : List BO} {D : Blk} (hx : x0 = ((i + 1 : Nat) : Int)) (hB : Base n P g t w (B.map mkB)) (ht : tm = tmV g t w P (i + 1)) (e1 : cntS (lostB g t w P) (i + 1) = 0) (e2 : cntS (restB g t w P) (i + 1) = b + 1) (hD : hget (B.map mkB) y = some D) (lD : IsL D (fun r => P (ixS (restB g t w P) (i + 1) r)) (b + 1)) (hne : [0, 1, 2, 3, 4, 5, 6, y].Nodup) : Nx n P g t w (i + 1) (tplF 89 L11 [.slice 0 0 6 n, .nilSlice, .slice y 0 6 (b + 1), .int .i64 tm, .ptr 6 0 3 0, .slice 0 0 6 n, .int .i64 n, .int .i64 x0]) (B.map mkB) := by
  subst hx ht
  refine ⟨_, _, ?_, rfl, rfl⟩
  simp only [lsV, lsO, e1, e2, List.length_nil, List.length_cons, List.nil_append, List.append_nil, List.cons_append]
  refine ren_weak (m0 := 1) (vals' := [.slice 0 0 6 n, .nilSlice, .slice 7 0 6 (b + 1), .int .i64 (tmV g t w P (i + 1)), .ptr 6 0 3 0, .slice 0 0 6 n, .int .i64 n, .int .i64 ((i + 1 : Nat) : Int)]) [0, 1, 2, 3, 4, 5, 6, y] rfl (show 1 ≤ 8 by decide) (fun j hj => by obtain rfl : j = 0 := (by omega); rfl) ⟨.inr rfl, .inr rfl, .inr rfl, .inr rfl, .inr rfl, .inr rfl, .inr rfl, .inr rfl, trivial⟩ (fun id b1 hb1 => ?_) (inj_nodup hne)
  match id, hb1 with
  | 0, hb1 =>
    obtain rfl := Option.some.inj (show some (bP n P) = some b1 from hb1)
    exact ⟨0, _, rfl, hB.h0, WB.of_rows rfl (Nat.le_refl _) (fun h => h) (fun _ => rfl) fun _ _ => ⟨rfl, rfl⟩⟩
  | 1, hb1 => exact nomatch (show (none : Option Blk) = some b1 from hb1)
  | 2, hb1 =>
    have h := hB.h2.trans hb1
    obtain rfl := Option.some.inj (show some _ = some b1 from hb1)
    exact ⟨2, _, rfl, h, rfl, Nat.le_refl _, (fun h => h), (fun _ => rfl), fun r hr => by
      obtain rfl : r = 0 := (by have : r < 1 := hr; omega)
      exact ⟨.inr rfl, trivial⟩⟩
  | 3, hb1 =>
    have h := hB.h3.trans hb1
    obtain rfl := Option.some.inj (show some _ = some b1 from hb1)
    exact ⟨3, _, rfl, h, rfl, Nat.le_refl _, (fun h => h), (fun _ => rfl), fun r hr => by
      obtain rfl : r = 0 := (by have : r < 1 := hr; omega)
      exact ⟨.inr rfl, trivial⟩⟩
  | 4, hb1 =>
    have h := hB.h4.trans hb1
    obtain rfl := Option.some.inj (show some _ = some b1 from hb1)
    exact ⟨4, _, rfl, h, rfl, Nat.le_refl _, (fun h => h), (fun _ => rfl), fun r hr => by
      obtain rfl : r = 0 := (by have : r < 1 := hr; omega)
      exact ⟨.inr rfl, trivial⟩⟩
  | 5, hb1 =>
    have h := hB.h5.trans hb1
    obtain rfl := Option.some.inj (show some _ = some b1 from hb1)
    exact ⟨5, _, rfl, h, rfl, Nat.le_refl _, (fun h => h), (fun _ => rfl), fun r hr => by
      obtain rfl : r = 0 := (by have : r < 1 := hr; omega)
      exact ⟨.inr rfl, trivial⟩⟩
  | 6, hb1 =>
    have h := hB.h6.trans hb1
    obtain rfl := Option.some.inj (show some _ = some b1 from hb1)
    exact ⟨6, _, rfl, h, rfl, Nat.le_refl _, (fun h => h), (fun _ => rfl), fun r hr => by
      obtain rfl : r = 0 := (by have : r < 1 := hr; omega)
      exact ⟨.inr rfl, .inr rfl, .inr rfl, trivial⟩⟩
  | 7, hb1 =>
    obtain rfl := Option.some.inj (show some (bPw (b + 1) (fun r => P (ixS (restB g t w P) (i + 1) r))) = some b1 from hb1)
    exact ⟨y, _, rfl, hD, lD.wb _⟩
  | id + 8, hb1 => exact nomatch (show (none : Option Blk) = some b1 from hb1)
theorem nxSS {n : Nat} {P : Nat → Pk} {g t w tm x0 : Int} {i a b x y : Nat} {B : List BO} {A D : Blk} (hx : x0 = ((i + 1 : Nat) : Int)) (hB : Base n P g t w (B.map mkB)) (ht : tm = tmV g t w P (i + 1)) (e1 : cntS (lostB g t w P) (i + 1) = a + 1) (e2 : cntS (restB g t w P) (i + 1) = b + 1) (hA : hget (B.map mkB) x = some A) (lA : IsL A (fun r => P (ixS (lostB g t w P) (i + 1) r)) (a + 1)) (hD : hget (B.map mkB) y = some D) (lD : IsL D (fun r => P (ixS (restB g t w P) (i + 1) r)) (b + 1)) (hne : [0, 1, 2, 3, 4, 5, 6, x, y].Nodup) : Nx n P g t w (i + 1) (tplF 89 L11 [.slice 0 0 6 n, .slice x 0 6 (a + 1), .slice y 0 6 (b + 1), .int .i64 tm, .ptr 6 0 3 0, .slice 0 0 6 n, .int .i64 n, .int .i64 x0]) (B.map mkB) := by
  subst hx ht
  refine ⟨_, _, ?_, rfl, rfl⟩
  simp only [lsV, lsO, e1, e2, List.length_nil, List.length_cons, List.nil_append, List.append_nil, List.cons_append]
  refine ren_weak (m0 := 1) (vals' := [.slice 0 0 6 n, .slice 7 0 6 (a + 1), .slice 8 0 6 (b + 1), .int .i64 (tmV g t w P (i + 1)), .ptr 6 0 3 0, .slice 0 0 6 n, .int .i64 n, .int .i64 ((i + 1 : Nat) : Int)]) [0, 1, 2, 3, 4, 5, 6, x, y] rfl (show 1 ≤ 9 by decide) (fun j hj => by obtain rfl : j = 0 := (by omega); rfl) ⟨.inr rfl, .inr rfl, .inr rfl, .inr rfl, .inr rfl, .inr rfl, .inr rfl, .inr rfl, trivial⟩ (fun id b1 hb1 => ?_) (inj_nodup hne)
  match id, hb1 with
  | 0, hb1 =>
    obtain rfl := Option.some.inj (show some (bP n P) = some b1 from hb1)
    exact ⟨0, _, rfl, hB.h0, WB.of_rows rfl (Nat.le_refl _) (fun h => h) (fun _ => rfl) fun _ _ => ⟨rfl, rfl⟩⟩
  | 1, hb1 => exact nomatch (show (none : Option Blk) = some b1 from hb1)
  | 2, hb1 =>
    have h := hB.h2.trans hb1
    obtain rfl := Option.some.inj (show some _ = some b1 from hb1)
    exact ⟨2, _, rfl, h, rfl, Nat.le_refl _, (fun h => h), (fun _ => rfl), fun r hr => by
      obtain rfl : r = 0 := (by have : r < 1 := hr; omega)
      exact ⟨.inr rfl, trivial⟩⟩
  | 3, hb1 =>
    have h := hB.h3.trans hb1
    obtain rfl := Option.some.inj (show some _ = some b1 from hb1)
    exact ⟨3, _, rfl, h, rfl, Nat.le_refl _, (fun h => h), (fun _ => rfl), fun r hr => by
      obtain rfl : r = 0 := (by have : r < 1 := hr; omega)
      exact ⟨.inr rfl, trivial⟩⟩
  | 4, hb1 =>
    have h := hB.h4.trans hb1
    obtain rfl := Option.some.inj (show some _ = some b1 from hb1)
    exact ⟨4, _, rfl, h, rfl, Nat.le_refl _, (fun h => h), (fun _ => rfl), fun r hr => by
      obtain rfl : r = 0 := (by have : r < 1 := hr; omega)
      exact ⟨.inr rfl, trivial⟩⟩
  | 5, hb1 =>
    have h := hB.h5.trans hb1
    obtain rfl := Option.some.inj (show some _ = some b1 from hb1)
    exact ⟨5, _, rfl, h, rfl, Nat.le_refl _, (fun h => h), (fun _ => rfl), fun r hr => by
      obtain rfl : r = 0 := (by have : r < 1 := hr; omega)
      exact ⟨.inr rfl, trivial⟩⟩
  | 6, hb1 =>
    have h := hB.h6.trans hb1
    obtain rfl := Option.some.inj (show some _ = some b1 from hb1)
    exact ⟨6, _, rfl, h, rfl, Nat.le_refl _, (fun h => h), (fun _ => rfl), fun r hr => by
      obtain rfl : r = 0 := (by have : r < 1 := hr; omega)
      exact ⟨.inr rfl, .inr rfl, .inr rfl, trivial⟩⟩
  | 7, hb1 =>
    obtain rfl := Option.some.inj (show some (bPw (a + 1) (fun r => P (ixS (lostB g t w P) (i + 1) r))) = some b1 from hb1)
    exact ⟨x, _, rfl, hA, lA.wb _⟩
  | 8, hb1 =>
    obtain rfl := Option.some.inj (show some (bPw (b + 1) (fun r => P (ixS (restB g t w P) (i + 1) r))) = some b1 from hb1)
    exact ⟨y, _, rfl, hD, lD.wb _⟩
  | id + 9, hb1 => exact nomatch (show (none : Option Blk) = some b1 from hb1)
end Go.Proofs.Ytcjfmkkfcbelpaa
