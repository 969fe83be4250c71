/-
  Chapter 9 by the engine: what the laws ask of Find: lists that may be, by name.
-/
import Derived.Test.YtcjfmkkfcbelpaaV17
namespace Go.Proofs.Ytcjfmkkfcbelpaa
open Go.RowKit
def s11g : Spec := fun args h base k => match args with
  | [.nilSlice, .int .i64 g, .int .i64 t, .agg [.int .i64 l, .int .i64 m, .int .i64 s, .int .i64 v, .int .i64 f]] => Late 0 (fun _ => pk0) g t l m s v f ∧ k (.tuple [.nilSlice, .nilSlice, .int .i64 (-1), .int .i64 0]) [] []
  | [.slice id 0 6 n, .int .i64 g, .int .i64 t, .agg [.int .i64 l, .int .i64 m, .int .i64 s, .int .i64 v, .int .i64 f]] => match h id with
    | some b => IsP b n ∧ (0 < n ∧ ∀ (P : Nat → Pk), P = (fun r => rowP (b.rd r)) → ∀ (g' t' w : Int), g' = g → t' = t → w = waitV l m s v f → (Late n P g' t' l m s v f ∧ ∀ tm : Int, tm = tmV g' t' w P n →
      ((∀ (a : Nat) (PL : Nat → Pk), Pick (lostB g' t' w P) P n a PL → cntS (restB g' t' w P) n = 0 → k (.tuple [.slice base 0 6 (a + 1), .nilSlice, .int .i64 tm, .int .i64 0]) [] [bPw (a + 1) PL]) ∧
      ((∀ (b : Nat) (PR : Nat → Pk), cntS (lostB g' t' w P) n = 0 → Pick (restB g' t' w P) P n b PR → k (.tuple [.nilSlice, .slice base 0 6 (b + 1), .int .i64 tm, .int .i64 0]) [] [bPw (b + 1) PR]) ∧
      (∀ (a : Nat) (PL : Nat → Pk) (b : Nat) (PR : Nat → Pk), Pick (lostB g' t' w P) P n a PL → Pick (restB g' t' w P) P n b PR → k (.tuple [.slice base 0 6 (a + 1), .slice (base + 1) 0 6 (b + 1), .int .i64 tm, .int .i64 0]) [] [bPw (a + 1) PL, bPw (b + 1) PR])))))
    | none => False
  | _ => False
def s20n : Spec := fun args _ _ k => match args with
  | [.int .i64 a, .int .i64 b] => ∀ l m s v : Int, l = a % 1099511627776 → s = b % 1099511627776 → m = (if s < l then s else l) → v = l / 2 → k (rtt l m s v 0) [] []
  | _ => False
def s19n : Spec := fun args h base k => match args with
  | [.slice id 0 3 n] => match h id with
    | some b => IsRs b n ∧ (0 < n ∧ ∀ q : Nat, q + 1 = min n 60 → ∀ P : Nat → Pk, P = (pkR fun r => rowR (b.rd r)) → k (.slice base 0 6 (q + 1)) [] [bPw (q + 1) P])
    | none => False
  | _ => s19 args h base k
theorem weaken {f : FuncId} {s s' : Spec} (h : SpecOK Try.prog f s) (hw : ∀ args hp base k, s' args hp base k → s args hp base k) : SpecOK Try.prog f s' :=
  fun args hp base k hk => h args hp base k (hw args hp base k hk)
theorem ok20n : SpecOK Try.prog 20 s20n := weaken ok20 fun args h base k hk => by
  unfold s20n at hk
  split at hk
  · exact hk _ _ _ _ rfl rfl rfl rfl
  · cases hk
theorem ok19n : SpecOK Try.prog 19 s19n := weaken ok19 fun args h base k hk => by
  unfold s19n at hk
  split at hk
  · unfold s19
    split at hk
    · rename_i hb
      simp only [hb]
      exact ⟨hk.1, hk.2.1, fun q hq => hk.2.2 q hq _ rfl⟩
    · cases hk
  · exact hk
theorem ok11g : SpecOK Try.prog 11 s11g := weaken ok11 fun args h base k hk => by
  unfold s11g at hk
  split at hk
  · obtain ⟨L, hk⟩ := hk
    unfold s11
    simp only [lp]
    rw [L.c1, L.c2, L.c3, L.c4, L.c5]
    exact ⟨fun _ _ tm ht => by subst ht; exact hk, fun a PL p => absurd p.cnt (by show ¬ 0 = a + 1; omega), fun b PR _ q => absurd q.cnt (by show ¬ 0 = b + 1; omega), fun a PL b PR p => absurd p.cnt (by show ¬ 0 = a + 1; omega)⟩
  · rename_i id n g t l m s v f
    split at hk
    · rename_i b hb
      obtain ⟨hP, hn, hk⟩ := hk
      obtain ⟨L, hk⟩ := hk _ rfl _ _ _ rfl rfl rfl
      obtain ⟨k1, k2, k3⟩ := hk _ rfl
      unfold s11
      simp only [lp, hb]
      refine ⟨hP, ?_⟩
      rw [L.c1, L.c2, L.c3, L.c4, L.c5]
      refine ⟨fun h1 h2 => ?_, fun a PL p q tm ht => by subst ht; exact k1 a PL p q, fun b PR p q tm ht => by subst ht; exact k2 b PR p q, fun a PL b PR p q tm ht => by subst ht; exact k3 a PL b PR p q⟩
      have := cntS_not (lostB g t (waitV l m s v f) fun r => rowP (b.rd r)) n
      rw [show (fun j => !lostB g t (waitV l m s v f) (fun r => rowP (b.rd r)) j) = restB g t (waitV l m s v f) (fun r => rowP (b.rd r)) from rfl, h1, h2] at this
      omega
    · cases hk
  · cases hk
def G18 : Gam := addGam (addGam (addGam G17 19 s19n) 20 s20n) 11 s11g
noncomputable def C18 : Ctx := ⟨Try.prog, G18, fun t => memN t eqs⟩
theorem gs18 : GSound C18 := ((gs17.add ok19n).add ok20n).add ok11g
end Go.Proofs.Ytcjfmkkfcbelpaa
