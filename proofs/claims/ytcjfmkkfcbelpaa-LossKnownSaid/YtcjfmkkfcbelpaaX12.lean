/-
  Chapter 9 by the engine: what is lost: the contract of both.
-/
import Derived.Test.YtcjfmkkfcbelpaaV11
namespace Go.Proofs.Ytcjfmkkfcbelpaa
open Go.RowKit
/-- A list that was picked, by name. -/
structure Pick (f : Nat → Bool) (P : Nat → Pk) (n a : Nat) (Q : Nat → Pk) : Prop where
  cnt : cntS f n = a + 1
  row : ∀ r, r < a + 1 → Q r = P (ixS f n r)
def s11 : Spec := fun args h base k => match args with
  | [u, .int .i64 g, .int .i64 t, .agg [.int .i64 l, .int .i64 m, .int .i64 s, .int .i64 v, .int .i64 f]] => lp h u fun P n =>
    bif chkP P n != 0 then k (noList 2) [] [] else bif decide (g < -1) then k (noList 9) [] [] else bif decide (9007199254740991 < g) then k (noList 9) [] [] else bif !isT t then k (noList 9) [] [] else bif chkE l m s v f != 0 then k (noList (chkE l m s v f)) [] [] else
      ((cntS (lostB g t (waitV l m s v f) P) n = 0 → cntS (restB g t (waitV l m s v f) P) n = 0 → ∀ tm : Int, tm = tmV g t (waitV l m s v f) P n → k (.tuple [.nilSlice, .nilSlice, .int .i64 tm, .int .i64 0]) [] []) ∧
      ((∀ (a : Nat) (PL : Nat → Pk), Pick (lostB g t (waitV l m s v f) P) P n a PL → cntS (restB g t (waitV l m s v f) P) n = 0 → ∀ tm : Int, tm = tmV g t (waitV l m s v f) P n → k (.tuple [.slice base 0 6 (a + 1), .nilSlice, .int .i64 tm, .int .i64 0]) [] [bPw (a + 1) PL]) ∧
      ((∀ (b : Nat) (PR : Nat → Pk), cntS (lostB g t (waitV l m s v f) P) n = 0 → Pick (restB g t (waitV l m s v f) P) P n b PR → ∀ tm : Int, tm = tmV g t (waitV l m s v f) P n → k (.tuple [.nilSlice, .slice base 0 6 (b + 1), .int .i64 tm, .int .i64 0]) [] [bPw (b + 1) PR]) ∧
      (∀ (a : Nat) (PL : Nat → Pk) (b : Nat) (PR : Nat → Pk), Pick (lostB g t (waitV l m s v f) P) P n a PL → Pick (restB g t (waitV l m s v f) P) P n b PR → ∀ tm : Int, tm = tmV g t (waitV l m s v f) P n → k (.tuple [.slice base 0 6 (a + 1), .slice (base + 1) 0 6 (b + 1), .int .i64 tm, .int .i64 0]) [] [bPw (a + 1) PL, bPw (b + 1) PR]))))
  | _ => False
def G12 : Gam := addGam (addGam G9 11 s11) 12 s11
noncomputable def C12 : Ctx := ⟨Try.prog, G12, fun t => memN t eqs⟩
end Go.Proofs.Ytcjfmkkfcbelpaa
