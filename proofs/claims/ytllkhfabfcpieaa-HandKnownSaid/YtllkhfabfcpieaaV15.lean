/-
  Chapter 16 by the engine: HandPlays.
-/
import Derived.Test.YtllkhfabfcpieaaT14
namespace Go.Proofs.Ytllkhfabfcpieaa
open Go.RowKit
set_option linter.unusedVariables false
structure HB (b : Blk) (hd : Hd) : Prop where
  sz : b.sz = 7
  n : b.n = 1
  rw : b.rw = true
  ty : b.ty = 54
  rd : b.rd 0 = hC hd
structure MB (b : Blk) (sv : Bool) (ks gs : SV) (va cf an : Bool) : Prop where
  sz : b.sz = 6
  n : b.n = 1
  rw : b.rw = true
  ty : b.ty = 57
  rd : b.rd 0 = mC sv ks gs va cf an
section
variable {hd : Hd} {sv va cf an : Bool} {nk ng : Nat} {kf gf : Nat → Int}
theorem Rel.ofK (R : Rel hd sv nk kf gf ng va cf an) {A : Blk} (hA : ∀ r, A.rd r = [.int .i64 (kf r)]) : Rel hd sv nk (fun r => rI (A.rd r)) gf ng va cf an := by
  rw [show (fun r => rI (A.rd r)) = kf from funext fun r => by rw [hA r]; rfl]
  exact R
theorem Rel.ofG (R : Rel hd sv nk kf gf ng va cf an) {A : Blk} (hA : ∀ r, A.rd r = [.int .i64 (gf r)]) : Rel hd sv nk kf (fun r => rI (A.rd r)) ng va cf an := by
  rw [show (fun r => rI (A.rd r)) = gf from funext fun r => by rw [hA r]; rfl]
  exact R
theorem isI_of {A : Blk} {n : Nat} (f : Nat → Int) (h1 : A.sz = 1) (h2 : A.n = n) (h3 : n ≤ 100000) (hA : ∀ r, A.rd r = [.int .i64 (f r)]) : IsI A n := ⟨h1, by rw [h2]; exact Nat.le_refl _, h3, fun r _ => ⟨_, hA r⟩⟩
/-- What stands behind so many rounds. -/
def St (n : Nat) (g : Nat → Nat → Int) (i : Nat) (fr : List SV) (hp : LHeap) : Prop :=
  (∃ (hd : Hd) (sv va cf an : Bool) (kf : Nat → Int) (nk : Nat), Rel hd sv (nk + 1) kf (fun _ => 0) 0 va cf an ∧ fr = tplF 74 L6 (v6 (.slice 0 0 2 n) (.int .i64 i)) ∧ hp = (h6n n g hd sv va cf an kf nk).map mkB) ∨
  (∃ (hd : Hd) (sv va cf an : Bool) (kf : Nat → Int) (nk : Nat) (gf : Nat → Int) (ng : Nat), Rel hd sv (nk + 1) kf gf (ng + 1) va cf an ∧ fr = tplF 74 L6 (v6 (.slice 0 0 2 n) (.int .i64 i)) ∧ hp = (h6s n g hd sv va cf an kf nk gf ng).map mkB)
def Nx (n : Nat) (g : Nat → Nat → Int) (i : Nat) (fr : List SV) (hp : LHeap) : Prop := ∃ fr' hp', Weak 1 fr hp fr' hp' ∧ St n g i fr' hp'
theorem wbD {ρ : Ren} {n : Nat} {g : Nat → Nat → Int} : WB ρ (bD n g) (bD n g) := WB.of_rows rfl (Nat.le_refl _) (fun h => h) (fun _ => rfl) fun _ _ => ⟨rfl, rfl⟩
theorem HB.wb {b b1 : Blk} {ρ : Ren} (H : HB b hd) (H1 : HB b1 hd) : WB ρ b1 b := WB.of_rows (by rw [H1.sz, H.sz]) (by rw [H1.n, H.n]; exact Nat.le_refl _) (fun _ => H.rw) (fun _ => by rw [H1.ty, H.ty]) fun r hr => by
  rw [H1.n] at hr
  obtain rfl : r = 0 := by omega
  rw [H1.rd, H.rd]
  exact ⟨rfl, rfl⟩
theorem MB.wb {b b1 : Blk} {ρ : Ren} {ks gs ks1 gs1 : SV} (H : MB b sv ks gs va cf an) (H1 : MB b1 sv ks1 gs1 va cf an) (hk : ren ρ ks1 = some ks) (hg : ren ρ gs1 = some gs) : WB ρ b1 b := ⟨by rw [H1.sz, H.sz], by rw [H1.n, H.n]; exact Nat.le_refl _, fun _ => H.rw, fun _ => by rw [H1.ty, H.ty], fun r hr => by
  rw [H1.n] at hr
  obtain rfl : r = 0 := by omega
  rw [H1.rd, H.rd]
  exact (cl_k sv va cf an).wl _ _ _ _ _ hk hg⟩
theorem inj_nodup {l : List Nat} (h : l.Nodup) : ∀ (i j x : Nat), l[i]? = some x → l[j]? = some x → i = j := by
  intro i j x e1 e2
  obtain ⟨h1, e1⟩ := List.getElem?_eq_some_iff.1 e1
  obtain ⟨h2, e2⟩ := List.getElem?_eq_some_iff.1 e2
  have hp := List.pairwise_iff_getElem.1 h
  rcases Nat.lt_trichotomy i j with q | q | q
  · exact absurd (e1.trans e2.symm) (hp i j h1 h2 q)
  · exact q
  · exact absurd (e2.trans e1.symm) (hp j i h2 h1 q)
theorem nxN {n i a c d nk : Nat} {g : Nat → Nat → Int} {w : Int} {kf : Nat → Int} {B : List BO} {H M A : Blk} (hw : w = ((i + 1 : Nat) : Int)) (R : Rel hd sv (nk + 1) kf (fun _ => 0) 0 va cf an) (h0 : hget (B.map mkB) 0 = some (bD n g)) (h1 : hget (B.map mkB) a = some H) (hH : HB H hd)
    (h2 : hget (B.map mkB) c = some M) (hM : MB M sv (.slice d 0 1 (nk + 1)) .nilSlice va cf an) (h3 : hget (B.map mkB) d = some A) (hA : IsA A kf (nk + 1)) (hne : [0, a, c, d].Nodup) : Nx n g (i + 1) (tplF 74 L6 [.slice 0 0 2 n, .bool false, .ptr a 0 7 0, .ptr c 0 6 0, .int .i64 w]) (B.map mkB) := by
  subst hw
  refine ⟨_, _, ?_, .inl ⟨hd, sv, va, cf, an, kf, nk, R, rfl, rfl⟩⟩
  refine ren_weak (m0 := 1) [0, a, c, d] rfl (show 1 ≤ 4 by decide) (fun j hj => by obtain rfl : j = 0 := (by omega); rfl) ⟨.inr rfl, .inr rfl, .inr rfl, .inr rfl, .inr rfl, trivial⟩ (fun id b1 hb1 => ?_) (inj_nodup hne)
  match id, hb1 with
  | 0, hb1 =>
    obtain rfl := Option.some.inj (show some (bD n g) = some b1 from hb1)
    exact ⟨0, _, rfl, h0, wbD⟩
  | 1, hb1 =>
    obtain rfl := Option.some.inj (show some _ = some b1 from hb1)
    exact ⟨a, H, rfl, h1, hH.wb ⟨rfl, rfl, rfl, rfl, rfl⟩⟩
  | 2, hb1 =>
    obtain rfl := Option.some.inj (show some _ = some b1 from hb1)
    exact ⟨c, M, rfl, h2, hM.wb (ks1 := .slice 3 0 1 (nk + 1)) (gs1 := .nilSlice) ⟨rfl, rfl, rfl, rfl, rfl⟩ rfl rfl⟩
  | 3, hb1 =>
    obtain rfl := Option.some.inj (show some (bFw kf (nk + 1)) = some b1 from hb1)
    exact ⟨d, A, rfl, h3, hA.wb _⟩
  | id + 4, hb1 => exact nomatch (show (none : Option Blk) = some b1 from hb1)
theorem nxS {n i a c d e nk ng : Nat} {g : Nat → Nat → Int} {w : Int} {kf gf : Nat → Int} {B : List BO} {H M A G : Blk} (hw : w = ((i + 1 : Nat) : Int)) (R : Rel hd sv (nk + 1) kf gf (ng + 1) va cf an) (h0 : hget (B.map mkB) 0 = some (bD n g)) (h1 : hget (B.map mkB) a = some H) (hH : HB H hd)
    (h2 : hget (B.map mkB) c = some M) (hM : MB M sv (.slice d 0 1 (nk + 1)) (.slice e 0 1 (ng + 1)) va cf an) (h3 : hget (B.map mkB) d = some A) (hA : IsA A kf (nk + 1)) (h4 : hget (B.map mkB) e = some G) (hG : IsA G gf (ng + 1)) (hne : [0, a, c, d, e].Nodup) : Nx n g (i + 1) (tplF 74 L6 [.slice 0 0 2 n, .bool false, .ptr a 0 7 0, .ptr c 0 6 0, .int .i64 w]) (B.map mkB) := by
  subst hw
  refine ⟨_, _, ?_, .inr ⟨hd, sv, va, cf, an, kf, nk, gf, ng, R, rfl, rfl⟩⟩
  refine ren_weak (m0 := 1) [0, a, c, d, e] rfl (show 1 ≤ 5 by decide) (fun j hj => by obtain rfl : j = 0 := (by omega); rfl) ⟨.inr rfl, .inr rfl, .inr rfl, .inr rfl, .inr rfl, trivial⟩ (fun id b1 hb1 => ?_) (inj_nodup hne)
  match id, hb1 with
  | 0, hb1 =>
    obtain rfl := Option.some.inj (show some (bD n g) = some b1 from hb1)
    exact ⟨0, _, rfl, h0, wbD⟩
  | 1, hb1 =>
    obtain rfl := Option.some.inj (show some _ = some b1 from hb1)
    exact ⟨a, H, rfl, h1, hH.wb ⟨rfl, rfl, rfl, rfl, rfl⟩⟩
  | 2, hb1 =>
    obtain rfl := Option.some.inj (show some _ = some b1 from hb1)
    exact ⟨c, M, rfl, h2, hM.wb (ks1 := .slice 3 0 1 (nk + 1)) (gs1 := .slice 4 0 1 (ng + 1)) ⟨rfl, rfl, rfl, rfl, rfl⟩ rfl rfl⟩
  | 3, hb1 =>
    obtain rfl := Option.some.inj (show some (bFw kf (nk + 1)) = some b1 from hb1)
    exact ⟨d, A, rfl, h3, hA.wb _⟩
  | 4, hb1 =>
    obtain rfl := Option.some.inj (show some (bFw gf (ng + 1)) = some b1 from hb1)
    exact ⟨e, G, rfl, h4, hG.wb _⟩
  | id + 5, hb1 => exact nomatch (show (none : Option Blk) = some b1 from hb1)
end
/-- What a round leaves, or an end. -/
def QR (n : Nat) (g : Nat → Nat → Int) (i : Nat) : Ex → List SV → List BO → Prop := fun x vals B => (x = .exit 0 ∧ Weak 1 (tplF 74 L6 vals) (B.map mkB) (tplF 74 L6 [.slice 0 0 2 n, .bool false, .top, .top, .top]) [some (bD n g)]) ∨ (x = .normal ∧ i < n ∧ Nx n g (i + 1) (tplF 74 L6 vals) (B.map mkB))
theorem wkEnd {n : Nat} {g : Nat → Nat → Int} {x y z : SV} {B : List BO} (h0 : hget (B.map mkB) 0 = some (bD n g)) : Weak 1 (tplF 74 L6 [.slice 0 0 2 n, .bool false, x, y, z]) (B.map mkB) (tplF 74 L6 [.slice 0 0 2 n, .bool false, .top, .top, .top]) [some (bD n g)] := by
  refine ren_weak (m0 := 1) [0] rfl (Nat.le_refl _) (fun j hj => by obtain rfl : j = 0 := (by omega); rfl) ⟨.inr rfl, .inr rfl, .inl rfl, .inl rfl, .inl rfl, trivial⟩ (fun id b1 hb1 => ?_) inj1
  match id, hb1 with
  | 0, hb1 =>
    obtain rfl := Option.some.inj (show some (bD n g) = some b1 from hb1)
    exact ⟨0, _, rfl, h0, wbD⟩
  | id + 1, hb1 => exact nomatch (show (none : Option Blk) = some b1 from hb1)
theorem neI (e : Int) : (e != e) = false := bne_self_eq_false e
section
attribute [local irreducible] evalC
set_option maxRecDepth 100000
theorem roundn {n i : Nat} {g : Nat → Nat → Int} {hd : Hd} {sv va cf an : Bool} {kf : Nat → Int} {nk : Nat} (R : Rel hd sv (nk + 1) kf (fun _ => 0) 0 va cf an) : evalC C13 64 1 c6_4 (tplF 74 L6 (v6 (.slice 0 0 2 n) (.int .i64 i))) ((h6n n g hd sv va cf an kf nk).map mkB) (obsE Try.prog Try.f6.results.toList L6 M6n (seen 74 7 (QR n g i)) (fun _ => False)) := by
  have hn := R.rnk
  have hn3 := cK_le hd
  have hg := R.rng
  have hg3 := cG_le hd
  rw [p6ln n g hd sv va cf an kf nk i]
  refine condSplit (fun hin => ?_) fun hin => ?_
  rotate_left
  · exact ⟨rfl, rfl, ⟨fun _ _ => rfl, rfl, rfl, fun _ _ => rfl, trivial, trivial, trivial, trivial⟩, .inl ⟨rfl, wkEnd rfl⟩⟩
  refine condSplit (fun h60 => ?_) fun h60 => ?_
  rotate_left
  · exact ⟨rfl, rfl, ⟨fun _ _ => rfl, rfl, rfl, fun _ _ => rfl, trivial, trivial, trivial, trivial⟩, .inl ⟨rfl, wkEnd rfl⟩⟩
  have hi : i < n := by have := of_decide_eq_true hin; omega
  have h6 : i < 60 := by have := of_decide_eq_true h60; omega
  have hw : IntKind.i64.wrap ((i : Int) + 1) = ((i + 1 : Nat) : Int) := i64n i (by omega)
  have h2 : (decide (0 + (i : Int).toNat < n) && true) = true := by simp only [Bool.and_true, Nat.zero_add, Int.toNat_natCast]; exact cb hi
  refine condT' hin (condT' h2 ?_)
  refine condSplit (fun q6 => ?_) fun q6 => ?_
  · refine condF' (no_nothing R.wf) ?_
    refine ⟨isI_of kf rfl rfl (by omega) (fun r => rfl), ⟨show 1 ≤ nk + 1 by omega, show nk + 1 ≤ 1000 by omega⟩, condSplit (fun _ => ?_) fun _ => ?_⟩
    · exact fun _ _ _ _ _ _ _ _ _ _ _ _ _ _ _ _ => condT' hin (condT' h2 ⟨isI_of kf rfl rfl (by omega) (fun r => by cases r <;> rfl), R.ofK (fun r => by cases r <;> rfl), rfl, rfl, ⟨fun _ _ => rfl, rfl, rfl, fun _ _ => rfl, (fun r _ => by cases r <;> rfl), (fun r _ => by cases r <;> rfl), (fun r _ => by cases r <;> rfl), trivial⟩, .inr ⟨rfl, hi, nxN (a := 4) (c := 5) (d := 6) (kf := kf) hw R rfl rfl ⟨rfl, rfl, rfl, rfl, rfl⟩ rfl ⟨rfl, rfl, rfl, rfl, rfl⟩ rfl (isA_b1 rfl rfl rfl rfl (fun r => by cases r <;> rfl)) (by decide)⟩⟩)
    · exact fun _ _ _ _ _ _ _ _ _ _ _ _ _ _ _ _ => condT' hin (condT' h2 ⟨isI_of kf rfl rfl (by omega) (fun r => rfl), R.ofK (fun r => rfl), rfl, rfl, ⟨fun _ _ => rfl, rfl, rfl, fun _ _ => rfl, (fun r _ => by cases r <;> rfl), (fun r _ => by cases r <;> rfl), (fun _ _ => rfl), trivial⟩, .inr ⟨rfl, hi, nxN (a := 4) (c := 5) (d := 6) (kf := kf) hw R rfl rfl ⟨rfl, rfl, rfl, rfl, rfl⟩ rfl ⟨rfl, rfl, rfl, rfl, rfl⟩ rfl (isA_b1 rfl rfl rfl rfl (fun r => rfl)) (by decide)⟩⟩)
  · refine condT' hin (condT' h2 ⟨⟨rfl, rfl, rfl, isI_of kf rfl rfl (by omega) (fun r => rfl)⟩, R, fun e h' va' cf' an' R' => condSplit (fun _ => ?_) fun _ => ?_, fun e h' R' => ?_, fun e h' R' => condSplit (fun _ => ?_) fun _ => ?_⟩)
    · exact condF' (neI e) (condT' hin (condT' h2 ⟨isI_of kf rfl rfl (by omega) (fun r => by cases r <;> rfl), R'.ofK (fun r => by cases r <;> rfl), rfl, rfl, ⟨fun _ _ => rfl, rfl, rfl, (fun r _ => by cases r <;> rfl), trivial, trivial, trivial, trivial⟩, .inr ⟨rfl, hi, nxN (a := 1) (c := 2) (d := 3) (kf := kf) hw R' rfl rfl ⟨rfl, rfl, rfl, rfl, rfl⟩ rfl ⟨rfl, rfl, rfl, rfl, rfl⟩ rfl (isA_b1 rfl rfl rfl rfl (fun r => by cases r <;> rfl)) (by decide)⟩⟩))
    · exact condF' (neI e) (condT' hin (condT' h2 ⟨isI_of kf rfl rfl (by omega) (fun r => rfl), R'.ofK (fun r => rfl), rfl, rfl, ⟨fun _ _ => rfl, rfl, rfl, (fun _ _ => rfl), trivial, trivial, trivial, trivial⟩, .inr ⟨rfl, hi, nxN (a := 1) (c := 2) (d := 3) (kf := kf) hw R' rfl rfl ⟨rfl, rfl, rfl, rfl, rfl⟩ rfl ⟨rfl, rfl, rfl, rfl, rfl⟩ rfl (isA_b1 rfl rfl rfl rfl (fun r => rfl)) (by decide)⟩⟩))
    · exact condF' (neI e) (condT' hin (condT' h2 ⟨isI_of (appF kf (nk + 1) _) rfl rfl (by omega) (fun r => rfl), R'.ofK (fun r => rfl), rfl, rfl, ⟨fun _ _ => rfl, rfl, rfl, trivial, (fun _ _ => rfl), trivial, trivial, trivial⟩, .inr ⟨rfl, hi, nxN (a := 1) (c := 2) (d := 4) hw R' rfl rfl ⟨rfl, rfl, rfl, rfl, rfl⟩ rfl ⟨rfl, rfl, rfl, rfl, rfl⟩ rfl (isA_b1 rfl rfl rfl rfl (fun r => rfl)) (by decide)⟩⟩))
    · exact condF' (neI e) (condT' hin (condT' h2 ⟨isI_of kf rfl rfl (by omega) (fun r => by cases r <;> rfl), isI_of (appF (fun _ => 0) 0 _) rfl rfl (by decide) (fun r => by cases r <;> rfl), (R'.ofK (fun r => by cases r <;> rfl)).ofG (fun r => by cases r <;> rfl), rfl, rfl, ⟨fun _ _ => rfl, rfl, rfl, (fun r _ => by cases r <;> rfl), (fun r _ => by cases r <;> rfl), trivial, trivial, trivial⟩, .inr ⟨rfl, hi, nxS (a := 1) (c := 2) (d := 3) (e := 4) (kf := kf) (ng := 0) hw R' rfl rfl ⟨rfl, rfl, rfl, rfl, rfl⟩ rfl ⟨rfl, rfl, rfl, rfl, rfl⟩ rfl (isA_b1 rfl rfl rfl rfl (fun r => by cases r <;> rfl)) rfl (isA_b1 rfl rfl rfl rfl (fun r => by cases r <;> rfl)) (by decide)⟩⟩))
    · exact condF' (neI e) (condT' hin (condT' h2 ⟨isI_of kf rfl rfl (by omega) (fun r => rfl), isI_of (appF (fun _ => 0) 0 _) rfl rfl (by decide) (fun r => by cases r <;> rfl), (R'.ofK (fun r => rfl)).ofG (fun r => by cases r <;> rfl), rfl, rfl, ⟨fun _ _ => rfl, rfl, rfl, (fun _ _ => rfl), (fun r _ => by cases r <;> rfl), trivial, trivial, trivial⟩, .inr ⟨rfl, hi, nxS (a := 1) (c := 2) (d := 3) (e := 4) (kf := kf) (ng := 0) hw R' rfl rfl ⟨rfl, rfl, rfl, rfl, rfl⟩ rfl ⟨rfl, rfl, rfl, rfl, rfl⟩ rfl (isA_b1 rfl rfl rfl rfl (fun r => rfl)) rfl (isA_b1 rfl rfl rfl rfl (fun r => by cases r <;> rfl)) (by decide)⟩⟩))
theorem rounds {n i : Nat} {g : Nat → Nat → Int} {hd : Hd} {sv va cf an : Bool} {kf : Nat → Int} {nk : Nat} {gf : Nat → Int} {ng : Nat} (R : Rel hd sv (nk + 1) kf gf (ng + 1) va cf an) : evalC C13 64 1 c6_4 (tplF 74 L6 (v6 (.slice 0 0 2 n) (.int .i64 i))) ((h6s n g hd sv va cf an kf nk gf ng).map mkB) (obsE Try.prog Try.f6.results.toList L6 M6s (seen 74 9 (QR n g i)) (fun _ => False)) := by
  have hn := R.rnk
  have hn3 := cK_le hd
  have hg := R.rng
  have hg3 := cG_le hd
  rw [p6ls n g hd sv va cf an kf nk gf ng i]
  refine condSplit (fun hin => ?_) fun hin => ?_
  rotate_left
  · exact ⟨rfl, rfl, ⟨fun _ _ => rfl, rfl, rfl, fun _ _ => rfl, fun _ _ => rfl, trivial, trivial, trivial, trivial, trivial⟩, .inl ⟨rfl, wkEnd rfl⟩⟩
  refine condSplit (fun h60 => ?_) fun h60 => ?_
  rotate_left
  · exact ⟨rfl, rfl, ⟨fun _ _ => rfl, rfl, rfl, fun _ _ => rfl, fun _ _ => rfl, trivial, trivial, trivial, trivial, trivial⟩, .inl ⟨rfl, wkEnd rfl⟩⟩
  have hi : i < n := by have := of_decide_eq_true hin; omega
  have h6 : i < 60 := by have := of_decide_eq_true h60; omega
  have hw : IntKind.i64.wrap ((i : Int) + 1) = ((i + 1 : Nat) : Int) := i64n i (by omega)
  have h2 : (decide (0 + (i : Int).toNat < n) && true) = true := by simp only [Bool.and_true, Nat.zero_add, Int.toNat_natCast]; exact cb hi
  refine condT' hin (condT' h2 ?_)
  refine condSplit (fun q6 => ?_) fun q6 => ?_
  · refine condF' (no_nothing R.wf) ?_
    refine ⟨isI_of kf rfl rfl (by omega) (fun r => rfl), ⟨show 1 ≤ nk + 1 by omega, show nk + 1 ≤ 1000 by omega⟩, ⟨show 1 ≤ ng + 1 by omega, show ng + 1 ≤ 1000 by omega⟩, isI_of gf rfl rfl (by omega) (fun r => rfl), condSplit (fun _ => condSplit (fun _ => ?_) fun _ => ?_) fun _ => condSplit (fun _ => ?_) fun _ => ?_⟩
    · exact fun _ _ _ _ _ _ _ _ _ _ _ _ _ _ _ _ => condT' hin (condT' h2 ⟨isI_of kf rfl rfl (by omega) (fun r => by cases r <;> rfl), isI_of gf rfl rfl (by omega) (fun r => by cases r <;> rfl), (R.ofK (fun r => by cases r <;> rfl)).ofG (fun r => by cases r <;> rfl), rfl, rfl, ⟨fun _ _ => rfl, rfl, rfl, fun _ _ => rfl, fun _ _ => rfl, (fun r _ => by cases r <;> rfl), (fun r _ => by cases r <;> rfl), (fun r _ => by cases r <;> rfl), (fun r _ => by cases r <;> rfl), trivial⟩, .inr ⟨rfl, hi, nxS (a := 5) (c := 6) (d := 7) (e := 8) (kf := kf) (gf := gf) hw R rfl rfl ⟨rfl, rfl, rfl, rfl, rfl⟩ rfl ⟨rfl, rfl, rfl, rfl, rfl⟩ rfl (isA_b1 rfl rfl rfl rfl (fun r => by cases r <;> rfl)) rfl (isA_b1 rfl rfl rfl rfl (fun r => by cases r <;> rfl)) (by decide)⟩⟩)
    · exact fun _ _ _ _ _ _ _ _ _ _ _ _ _ _ _ _ => condT' hin (condT' h2 ⟨isI_of kf rfl rfl (by omega) (fun r => by cases r <;> rfl), isI_of gf rfl rfl (by omega) (fun r => rfl), (R.ofK (fun r => by cases r <;> rfl)).ofG (fun r => rfl), rfl, rfl, ⟨fun _ _ => rfl, rfl, rfl, fun _ _ => rfl, fun _ _ => rfl, (fun r _ => by cases r <;> rfl), (fun r _ => by cases r <;> rfl), (fun r _ => by cases r <;> rfl), (fun _ _ => rfl), trivial⟩, .inr ⟨rfl, hi, nxS (a := 5) (c := 6) (d := 7) (e := 8) (kf := kf) (gf := gf) hw R rfl rfl ⟨rfl, rfl, rfl, rfl, rfl⟩ rfl ⟨rfl, rfl, rfl, rfl, rfl⟩ rfl (isA_b1 rfl rfl rfl rfl (fun r => by cases r <;> rfl)) rfl (isA_b1 rfl rfl rfl rfl (fun r => rfl)) (by decide)⟩⟩)
    · exact fun _ _ _ _ _ _ _ _ _ _ _ _ _ _ _ _ => condT' hin (condT' h2 ⟨isI_of kf rfl rfl (by omega) (fun r => rfl), isI_of gf rfl rfl (by omega) (fun r => by cases r <;> rfl), (R.ofK (fun r => rfl)).ofG (fun r => by cases r <;> rfl), rfl, rfl, ⟨fun _ _ => rfl, rfl, rfl, fun _ _ => rfl, fun _ _ => rfl, (fun r _ => by cases r <;> rfl), (fun r _ => by cases r <;> rfl), (fun _ _ => rfl), (fun r _ => by cases r <;> rfl), trivial⟩, .inr ⟨rfl, hi, nxS (a := 5) (c := 6) (d := 7) (e := 8) (kf := kf) (gf := gf) hw R rfl rfl ⟨rfl, rfl, rfl, rfl, rfl⟩ rfl ⟨rfl, rfl, rfl, rfl, rfl⟩ rfl (isA_b1 rfl rfl rfl rfl (fun r => rfl)) rfl (isA_b1 rfl rfl rfl rfl (fun r => by cases r <;> rfl)) (by decide)⟩⟩)
    · exact fun _ _ _ _ _ _ _ _ _ _ _ _ _ _ _ _ => condT' hin (condT' h2 ⟨isI_of kf rfl rfl (by omega) (fun r => rfl), isI_of gf rfl rfl (by omega) (fun r => rfl), (R.ofK (fun r => rfl)).ofG (fun r => rfl), rfl, rfl, ⟨fun _ _ => rfl, rfl, rfl, fun _ _ => rfl, fun _ _ => rfl, (fun r _ => by cases r <;> rfl), (fun r _ => by cases r <;> rfl), (fun _ _ => rfl), (fun _ _ => rfl), trivial⟩, .inr ⟨rfl, hi, nxS (a := 5) (c := 6) (d := 7) (e := 8) (kf := kf) (gf := gf) hw R rfl rfl ⟨rfl, rfl, rfl, rfl, rfl⟩ rfl ⟨rfl, rfl, rfl, rfl, rfl⟩ rfl (isA_b1 rfl rfl rfl rfl (fun r => rfl)) rfl (isA_b1 rfl rfl rfl rfl (fun r => rfl)) (by decide)⟩⟩)
  · refine condT' hin (condT' h2 ⟨⟨rfl, rfl, rfl, isI_of kf rfl rfl (by omega) (fun r => rfl)⟩, ⟨rfl, rfl, rfl, isI_of gf rfl rfl (by omega) (fun r => rfl)⟩, show 1 ≤ ng + 1 by omega, R, fun e h' va' cf' an' R' => condSplit (fun _ => condSplit (fun _ => ?_) fun _ => ?_) fun _ => condSplit (fun _ => ?_) fun _ => ?_, fun e h' R' => condSplit (fun _ => ?_) fun _ => ?_, fun e h' R' => condSplit (fun _ => ?_) fun _ => ?_⟩)
    · exact condF' (neI e) (condT' hin (condT' h2 ⟨isI_of kf rfl rfl (by omega) (fun r => by cases r <;> rfl), isI_of gf rfl rfl (by omega) (fun r => by cases r <;> rfl), (R'.ofK (fun r => by cases r <;> rfl)).ofG (fun r => by cases r <;> rfl), rfl, rfl, ⟨fun _ _ => rfl, rfl, rfl, (fun r _ => by cases r <;> rfl), (fun r _ => by cases r <;> rfl), trivial, trivial, trivial, trivial, trivial⟩, .inr ⟨rfl, hi, nxS (a := 1) (c := 2) (d := 3) (e := 4) (kf := kf) (gf := gf) hw R' rfl rfl ⟨rfl, rfl, rfl, rfl, rfl⟩ rfl ⟨rfl, rfl, rfl, rfl, rfl⟩ rfl (isA_b1 rfl rfl rfl rfl (fun r => by cases r <;> rfl)) rfl (isA_b1 rfl rfl rfl rfl (fun r => by cases r <;> rfl)) (by decide)⟩⟩))
    · exact condF' (neI e) (condT' hin (condT' h2 ⟨isI_of kf rfl rfl (by omega) (fun r => by cases r <;> rfl), isI_of gf rfl rfl (by omega) (fun r => rfl), (R'.ofK (fun r => by cases r <;> rfl)).ofG (fun r => rfl), rfl, rfl, ⟨fun _ _ => rfl, rfl, rfl, (fun r _ => by cases r <;> rfl), (fun _ _ => rfl), trivial, trivial, trivial, trivial, trivial⟩, .inr ⟨rfl, hi, nxS (a := 1) (c := 2) (d := 3) (e := 4) (kf := kf) (gf := gf) hw R' rfl rfl ⟨rfl, rfl, rfl, rfl, rfl⟩ rfl ⟨rfl, rfl, rfl, rfl, rfl⟩ rfl (isA_b1 rfl rfl rfl rfl (fun r => by cases r <;> rfl)) rfl (isA_b1 rfl rfl rfl rfl (fun r => rfl)) (by decide)⟩⟩))
    · exact condF' (neI e) (condT' hin (condT' h2 ⟨isI_of kf rfl rfl (by omega) (fun r => rfl), isI_of gf rfl rfl (by omega) (fun r => by cases r <;> rfl), (R'.ofK (fun r => rfl)).ofG (fun r => by cases r <;> rfl), rfl, rfl, ⟨fun _ _ => rfl, rfl, rfl, (fun _ _ => rfl), (fun r _ => by cases r <;> rfl), trivial, trivial, trivial, trivial, trivial⟩, .inr ⟨rfl, hi, nxS (a := 1) (c := 2) (d := 3) (e := 4) (kf := kf) (gf := gf) hw R' rfl rfl ⟨rfl, rfl, rfl, rfl, rfl⟩ rfl ⟨rfl, rfl, rfl, rfl, rfl⟩ rfl (isA_b1 rfl rfl rfl rfl (fun r => rfl)) rfl (isA_b1 rfl rfl rfl rfl (fun r => by cases r <;> rfl)) (by decide)⟩⟩))
    · exact condF' (neI e) (condT' hin (condT' h2 ⟨isI_of kf rfl rfl (by omega) (fun r => rfl), isI_of gf rfl rfl (by omega) (fun r => rfl), (R'.ofK (fun r => rfl)).ofG (fun r => rfl), rfl, rfl, ⟨fun _ _ => rfl, rfl, rfl, (fun _ _ => rfl), (fun _ _ => rfl), trivial, trivial, trivial, trivial, trivial⟩, .inr ⟨rfl, hi, nxS (a := 1) (c := 2) (d := 3) (e := 4) (kf := kf) (gf := gf) hw R' rfl rfl ⟨rfl, rfl, rfl, rfl, rfl⟩ rfl ⟨rfl, rfl, rfl, rfl, rfl⟩ rfl (isA_b1 rfl rfl rfl rfl (fun r => rfl)) rfl (isA_b1 rfl rfl rfl rfl (fun r => rfl)) (by decide)⟩⟩))
    · exact condF' (neI e) (condT' hin (condT' h2 ⟨isI_of (appF kf (nk + 1) _) rfl rfl (by omega) (fun r => rfl), isI_of gf rfl rfl (by omega) (fun r => by cases r <;> rfl), (R'.ofK (fun r => rfl)).ofG (fun r => by cases r <;> rfl), rfl, rfl, ⟨fun _ _ => rfl, rfl, rfl, trivial, (fun r _ => by cases r <;> rfl), (fun _ _ => rfl), trivial, trivial, trivial, trivial⟩, .inr ⟨rfl, hi, nxS (a := 1) (c := 2) (d := 5) (e := 4) (gf := gf) hw R' rfl rfl ⟨rfl, rfl, rfl, rfl, rfl⟩ rfl ⟨rfl, rfl, rfl, rfl, rfl⟩ rfl (isA_b1 rfl rfl rfl rfl (fun r => rfl)) rfl (isA_b1 rfl rfl rfl rfl (fun r => by cases r <;> rfl)) (by decide)⟩⟩))
    · exact condF' (neI e) (condT' hin (condT' h2 ⟨isI_of (appF kf (nk + 1) _) rfl rfl (by omega) (fun r => rfl), isI_of gf rfl rfl (by omega) (fun r => rfl), (R'.ofK (fun r => rfl)).ofG (fun r => rfl), rfl, rfl, ⟨fun _ _ => rfl, rfl, rfl, trivial, (fun _ _ => rfl), (fun _ _ => rfl), trivial, trivial, trivial, trivial⟩, .inr ⟨rfl, hi, nxS (a := 1) (c := 2) (d := 5) (e := 4) (gf := gf) hw R' rfl rfl ⟨rfl, rfl, rfl, rfl, rfl⟩ rfl ⟨rfl, rfl, rfl, rfl, rfl⟩ rfl (isA_b1 rfl rfl rfl rfl (fun r => rfl)) rfl (isA_b1 rfl rfl rfl rfl (fun r => rfl)) (by decide)⟩⟩))
    · exact condF' (neI e) (condT' hin (condT' h2 ⟨isI_of kf rfl rfl (by omega) (fun r => by cases r <;> rfl), isI_of (appF gf (ng + 1) _) rfl rfl (by omega) (fun r => rfl), (R'.ofK (fun r => by cases r <;> rfl)).ofG (fun r => rfl), rfl, rfl, ⟨fun _ _ => rfl, rfl, rfl, (fun r _ => by cases r <;> rfl), trivial, (fun _ _ => rfl), trivial, trivial, trivial, trivial⟩, .inr ⟨rfl, hi, nxS (a := 1) (c := 2) (d := 3) (e := 5) (kf := kf) hw R' rfl rfl ⟨rfl, rfl, rfl, rfl, rfl⟩ rfl ⟨rfl, rfl, rfl, rfl, rfl⟩ rfl (isA_b1 rfl rfl rfl rfl (fun r => by cases r <;> rfl)) rfl (isA_b1 rfl rfl rfl rfl (fun r => rfl)) (by decide)⟩⟩))
    · exact condF' (neI e) (condT' hin (condT' h2 ⟨isI_of kf rfl rfl (by omega) (fun r => rfl), isI_of (appF gf (ng + 1) _) rfl rfl (by omega) (fun r => rfl), (R'.ofK (fun r => rfl)).ofG (fun r => rfl), rfl, rfl, ⟨fun _ _ => rfl, rfl, rfl, (fun _ _ => rfl), trivial, (fun _ _ => rfl), trivial, trivial, trivial, trivial⟩, .inr ⟨rfl, hi, nxS (a := 1) (c := 2) (d := 3) (e := 5) (kf := kf) hw R' rfl rfl ⟨rfl, rfl, rfl, rfl, rfl⟩ rfl ⟨rfl, rfl, rfl, rfl, rfl⟩ rfl (isA_b1 rfl rfl rfl rfl (fun r => rfl)) rfl (isA_b1 rfl rfl rfl rfl (fun r => rfl)) (by decide)⟩⟩))
theorem loop6 {n : Nat} {g : Nat → Nat → Int} {fr : List SV} {hp : LHeap} (h0 : St n g 0 fr hp) {K : KC} (hK : CodeOK Try.prog 1 c6_5 (tplF 74 L6 [.slice 0 0 2 n, .bool false, .top, .top, .top]) [some (bD n g)] K) : CodeOK Try.prog 1 (.loop c6_4) fr hp (fun x fr hp => x = .exit 0 ∧ CodeOK Try.prog 1 c6_5 fr hp K) := by
  refine CodeOK.loop (fun N fr hp => ∃ i : Nat, i + N = n ∧ St n g i fr hp) ?_ (n := n) ⟨0, by omega, h0⟩
  rintro N fr hp ⟨i, hi, ⟨hd, sv, va, cf, an, kf, nk, R, rfl, rfl⟩ | ⟨hd, sv, va, cf, an, kf, nk, gf, ng, R, rfl, rfl⟩⟩
  · refine CodeOK.lookE (C := C13) ec gs13 mixed (u := 64) (len := 74) (rs := Try.f6.results.toList) (L := L6) (M := M6n) (show 1 ≤ 7 by decide) (Q := QR n g i) (kr := fun _ => False) (roundn R) ?_ fun fr hp h => (endK_no h).elim
    rintro x vals B (⟨rfl, hw⟩ | ⟨rfl, hlt, fr', hp', hw, hs⟩)
    · exact ⟨rfl, CodeOK.pre hw hK⟩
    · exact ⟨N - 1, _, _, by omega, hw, i + 1, by omega, hs⟩
  · refine CodeOK.lookE (C := C13) ec gs13 mixed (u := 64) (len := 74) (rs := Try.f6.results.toList) (L := L6) (M := M6s) (show 1 ≤ 9 by decide) (Q := QR n g i) (kr := fun _ => False) (rounds R) ?_ fun fr hp h => (endK_no h).elim
    rintro x vals B (⟨rfl, hw⟩ | ⟨rfl, hlt, fr', hp', hw, hs⟩)
    · exact ⟨rfl, CodeOK.pre hw hK⟩
    · exact ⟨N - 1, _, _, by omega, hw, i + 1, by omega, hs⟩
theorem rel_new (b : Bool) {kf gf : Nat → Int} (h : kf 0 = 0) : Rel (newH b) b 1 kf gf 0 (!b) false false := by
  refine ⟨wf_new b, rfl, rfl, rfl, rfl, rfl, rfl, fun s => ?_, fun s => ?_⟩
  · show (false || kf 0 == s) = _
    rw [h]
    unfold hasV
    cases q : inS s with
    | true => rcases inS_cases q with rfl | rfl | rfl <;> rfl
    | false =>
      cases e : (0 : Int) == s with
      | true => rw [← (eq_of_beq e : (0 : Int) = s)] at q; cases q
      | false => rfl
  · show false = _
    unfold goneV hasV
    cases q : inS s with
    | true => rcases inS_cases q with rfl | rfl | rfl <;> rfl
    | false => rfl
theorem canon6 (b : Bool) (n : Nat) (g : Nat → Nat → Int) : Canon Try.prog 6 [.bool b, .slice 0 0 2 n] [some (bD n g)] fun v _ => v = .bool true := by
  refine CodeOK.body Try.func6 (by kernel_rfl) ?_
  rw [code6]
  refine CodeOK.frontE (C := C13) ec gs13 mixed (u := 64) (len := 74) (rs := Try.f6.results.toList) (L := L6) (M := M6a) [c6_0, c6_1, c6_2] (show 1 ≤ 4 by decide) (Q := fun x vals B => x = .normal ∧ ∃ kf : Nat → Int, Rel (newH b) b 1 kf (fun _ => 0) 0 (!b) false false ∧ vals = v6 (.slice 0 0 2 n) .top ∧ B = h6n n g (newH b) b (!b) false false kf 0) (kr := fun v => v = .bool true) ?_ ?_ fun fr hp h => h
  · show evalC C13 64 1 _ (enterS 74 _) _ (obsE Try.prog Try.f6.results.toList L6 M6a _ _)
    simp only [List.foldr]
    rw [p6a]
    have hE : ∀ r : Nat, (fun r => bif Nat.beq r 0 then [SV.int .i64 ((fun _ => (0 : Int)) 0)] else (fun r => [SV.int .i64 ((fun _ => (0 : Int)) r)]) r) r = [.int .i64 0] := fun r => by cases r <;> rfl
    refine ⟨isI_of (fun _ => 0) rfl rfl (by decide) hE, rel_new b rfl, rfl, rfl, ⟨fun _ _ => rfl, rfl, rfl, (fun r _ => by cases r <;> rfl), trivial⟩, rfl, fun _ => 0, rel_new b rfl, rfl, ?_⟩
    exact congrArg (fun F => [BO.raw (some (bD n g)), hbO (newH b), mbO b (.slice 3 0 1 1) .nilSlice (!b) false false, .raw (some ⟨1, 1, F, true, 3⟩)]) (funext hE)
  · rintro x vals B ⟨rfl, kf, R, rfl, rfl⟩
    refine CodeOK.seq (CodeOK.seq (CodeOK.at (C := C13) ec gs13 mixed (u := 0) (len := 74) (L := L6) (M := M6a) (vals := v6 (.slice 0 0 2 n) (.int .i64 (0 : Nat))) (B := h6n n g (newH b) b (!b) false false kf 0) (show 1 ≤ 4 by decide) .normal ?_ (CodeOK.block ?_)))
    · show evalC C13 0 1 c6_3 (tplF 74 L6 (v6 (.slice 0 0 2 n) .top)) ((h6n n g (newH b) b (!b) false false kf 0).map mkB) _
      rw [p6s]
      exact ⟨rfl, rfl, ⟨fun _ _ => rfl, rfl, rfl, fun _ _ => rfl, trivial⟩, rfl, rfl, rfl⟩
    refine (loop6 (n := n) (g := g) (.inl ⟨newH b, b, !b, false, false, kf, 0, R, rfl, rfl⟩) (K := endK Try.prog Try.f6.results.toList fun v _ => v = .bool true) ?_).mono ?_
    · refine CodeOK.eval (C := C13) ec gs13 mixed 64 ?_
      rw [p6e]
    · rintro x fr hp ⟨rfl, h⟩
      exact h
theorem canon6e (b : Bool) : Canon Try.prog 6 [.bool b, .eslice] [] fun v _ => v = .bool true := by
  refine CodeOK.body Try.func6 (by kernel_rfl) (CodeOK.eval (C := C13) ec gs13 mixed 64 ?_)
  show evalC C13 64 0 (bodF Try.f6) (enterS 74 _) [] (endK Try.prog Try.f6.results.toList fun v _ => v = .bool true)
  rw [p6x b (fun v => v = .bool true)]
  exact ⟨isI_of (fun _ => 0) rfl rfl (by decide) (fun r => by cases r <;> rfl), rel_new b rfl, rfl⟩
end
end Go.Proofs.Ytllkhfabfcpieaa
