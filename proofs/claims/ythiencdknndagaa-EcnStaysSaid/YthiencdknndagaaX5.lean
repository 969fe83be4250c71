/-
  Chapter 12 by the engine: the states of EcnStays.
-/
import Derived.Test.YthiencdknndagaaX7
namespace Go.Proofs.Ythiencdknndagaa
open Go.RowKit
def blk5 (n : Nat) (g : Nat → Nat → Int) : Blk := ⟨3, n, fun r => [.int .i64 (g r 0), .int .i64 (g r 1), .int .i64 (g r 2)], false, 0⟩
def cnt5 (s : Int) : Blk := ⟨5, 1, fun _ => [.int .i64 s, .int .i64 2, .int .i64 0, .int .i64 1, .bool true], true, 24⟩
def hpA (n : Nat) (g : Nat → Nat → Int) : LHeap := [some (blk5 n g)]
def hpB (n : Nat) (g : Nat → Nat → Int) (s : Int) : LHeap := [some (blk5 n g), some (cnt5 s)]
def fr5 (n : Nat) (many : Int) (e : List SV) : List SV := .slice 0 0 3 n :: .int .i64 many :: .top :: .top :: .bool false :: .ptr 1 0 5 0 :: (e ++ List.replicate (96 - e.length) .top)
def fO (n : Nat) (many : Int) (i : Nat) : List SV := fr5 n many [.int .i64 i]
def fN (n : Nat) (many : Int) (i : Nat) (k : Int) : List SV := fr5 n many [.int .i64 i, .top, .top, .top, .top, .int .i64 k]
abbrev KT5 := Ex → Nat → List SV → List (Option Blk) → List (Nat × Nat × Bool × Nat × List (List SV)) → Prop
def keep5 (Kt : KT5) (l : List Nat) : KC := fun x fr hp => Kt x fr.length (l.map fun i => fr.getD i .top) (hp.take 1) ((hp.drop 1).take 1 |>.map rowsB)
end Go.Proofs.Ythiencdknndagaa
