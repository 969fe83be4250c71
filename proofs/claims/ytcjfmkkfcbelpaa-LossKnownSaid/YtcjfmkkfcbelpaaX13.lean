/-
  Chapter 9 by the engine: small parts: cut, measure, steady, four.
-/
import Derived.Test.YtcjfmkkfcbelpaaV12
namespace Go.Proofs.Ytcjfmkkfcbelpaa
open Go.RowKit
def four : Nat → Pk := fun r => [(⟨1, 0, 9, false, false, false⟩ : Pk), ⟨2, 100, 9, false, false, false⟩, ⟨5, 200, 9, false, false, false⟩, ⟨6, 300, 9, false, false, false⟩].getD r pk0
def s23 : Spec := fun args _ _ k => match args with
  | [] => k (rtt 8000000 1 800 0 0) [] []
  | _ => False
def s24 : Spec := fun args _ base k => match args with
  | [] => k (.slice base 0 6 4) [] [bPw 4 four]
  | _ => False
def s20 : Spec := fun args _ _ k => match args with
  | [.int .i64 a, .int .i64 b] => k (rtt (a % 1099511627776) (if b % 1099511627776 < a % 1099511627776 then b % 1099511627776 else a % 1099511627776) (b % 1099511627776) ((a % 1099511627776) / 2) 0) [] []
  | _ => False
/-- Packets, however many. -/
structure IsPs (b : Blk) (n : Nat) : Prop where
  sz : b.sz = 6
  le : n ≤ b.n
  rd : ∀ r, r < n → ∃ p : Pk, b.rd r = pkC p
/-- A copy of the first ones, of 260 at most. -/
def s10 : Spec := fun args h base k => match args with
  | [.nilSlice] => k .nilSlice [] []
  | [.eslice] => k .nilSlice [] []
  | [.slice id 0 6 n] => match h id with
    | some b => IsPs b n ∧ (0 < n ∧ ∀ (q : Nat) (Q : Nat → Pk), q + 1 = min n 260 → (∀ r, r < q + 1 → Q r = rowP (b.rd r)) → k (.slice base 0 6 (q + 1)) [] [bPw (q + 1) Q])
    | none => False
  | _ => False
def G13 : Gam := addGam (addGam (addGam (addGam G12 23 s23) 24 s24) 20 s20) 10 s10
noncomputable def C13 : Ctx := ⟨Try.prog, G13, fun t => memN t eqs⟩
end Go.Proofs.Ytcjfmkkfcbelpaa
