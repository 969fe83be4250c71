/-
  Chapter 9 by the engine: what is lost: the reference's Find.
-/
import Derived.Test.YtcjfmkkfcbelpaaV8
namespace Go.Proofs.Ytcjfmkkfcbelpaa
open Go.RowKit
abbrev L12 : List Nat := [0, 1, 2, 7, 14, 15, 16, 17]
def v12 (n : Nat) (g t : Int) (lost rest : SV) (tm : Int) (i : SV) : List SV := [.slice 0 0 6 n, .int .i64 g, .int .i64 t, .ptr 1 0 5 0, lost, rest, .int .i64 tm, i]
def h12 (n : Nat) (P : Nat → Pk) (l m s v f : Int) : List BO := [.raw (some (bP n P)), .rows 5 1 true 25 [[.int .i64 l, .int .i64 m, .int .i64 s, .int .i64 v, .int .i64 f]]]
abbrev M12a : List Bool := [false, true]
abbrev M12nn : List Bool := [false, true, true, true, true, true, true]
abbrev M12s : List Bool := [false, true, false, true, false]
abbrev M12ss : List Bool := [false, true, false, false, true, false]
end Go.Proofs.Ytcjfmkkfcbelpaa
