/-
  Chapter 7 by the engine: what laws are given over no samples; the states of RttOrder.
-/
import Derived.Test.YtepmbiahnicooaaX4
namespace Go.Proofs.Ytepmbiahnicooaa
open Go.RowKit
def l20v : Spec := fun args _ base k => match args with
  | [.eslice, .bool _] => k (.slice base 0 3 1) [] [bW 1 (litG [(5, 0, 1)])]
  | _ => False
noncomputable def C8 : Ctx := ⟨Try.prog, addGam (addGam (addGam (addGam G5 19 l19L) 20 l20v) 21 s21) 23 s23, fun t => memN t eqs⟩
/-- Numbers in a row that came in. -/
def bR (k : Nat) (e : Nat → Int) : Blk := ⟨1, k, fun r => [.int .i64 (e r)], false, 0⟩
abbrev L6 : List Nat := [0, 1, 4, 5, 6]
def v6 (N : Nat) (more out i : SV) : List SV := [.slice 2 0 3 N, more, .bool false, out, i]
def h6 (n : Nat) (g : Nat → Nat → Int) (o : Option Blk) (N : Nat) (q : Nat → Nat → Int) : List BO := [.raw (some (bT n g)), .raw o, .raw (some (bW N q))]
def h6s (n : Nat) (g : Nat → Nat → Int) (o : Option Blk) (N : Nat) (q : Nat → Nat → Int) (M : Nat) (p : Nat → Nat → Int) : List BO := [.raw (some (bT n g)), .raw o, .raw (some (bW N q)), .raw (some (bW M p))]
end Go.Proofs.Ytepmbiahnicooaa
