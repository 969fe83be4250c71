/-
  Chapter 7 by the engine: the states of RttKnown.
-/
import Derived.Test.YtepmbiahnicooaaX4
namespace Go.Proofs.Ytepmbiahnicooaa
open Go.RowKit
def s8 : Spec := fun args _ _ k => match args with
  | [.agg [.int .i64 _, .int .i64 _, .int .i64 _, .int .i64 _, .int .i64 _], .int .i64 _, .agg [.int .i64 _, .int .i64 _, .int .i64 _]] => k (.bool true) [] []
  | _ => False
def s3 : Spec := fun args _ _ k => match args with
  | [.int .i64 _, .int .i64 _, .bool _] => k (.bool true) [] []
  | _ => False
noncomputable def C10 : Ctx := ⟨Try.prog, addGam (addGam (addGam noGam 13 s13) 8 s8) 3 s3, fun t => memN t eqs⟩
def bE (e : Nat → Int) : Blk := ⟨1, 12, fun r => [.int .i64 (e r)], true, 3⟩
def bM (n : Nat) (q : Nat → Nat → Int) : Blk := ⟨5, n, fun r => [.int .i64 (q r 0), .int .i64 (q r 1), .int .i64 (q r 2), .int .i64 (q r 3), .int .i64 (q r 4)], true, 27⟩
abbrev L10 : List Nat := [0, 1, 2, 3, 4, 5, 6, 7, 8, 9]
def v10 (i k l n m a b : SV) : List SV := [.bool false, .slice 0 0 1 12, .slice 1 0 5 5, i, k, l, n, m, a, b]
def h10 (e : Nat → Int) (d : Nat → Nat → Int) : List BO := [.raw (some (bE e)), .raw (some (bM 5 d))]
def h10l (e : Nat → Int) (d q : Nat → Nat → Int) : List BO := [.raw (some (bE e)), .raw (some (bM 5 d)), .raw (some (bM 6 q))]
end Go.Proofs.Ytepmbiahnicooaa
