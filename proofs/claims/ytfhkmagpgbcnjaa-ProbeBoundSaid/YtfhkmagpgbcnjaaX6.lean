/-
  Chapter 19 by the engine: what laws are given: the results by name.
-/
import Derived.Test.YtfhkmagpgbcnjaaX5
namespace Go.Proofs.Ytfhkmagpgbcnjaa
open Go.RowKit
structure AnsP (e0 sp v a b c : Int) (x y z e : Int) : Prop where
  hx : x = zi e0 (put sp 0 v a)
  hy : y = zi e0 (put sp 1 v b)
  hz : z = zi e0 (put sp 2 v c)
  he : e = e0
def l9 : Spec := fun args _ _ k => match args with
  | [.agg [.int .i64 a, .int .i64 b, .int .i64 c], .int .i64 sp, .int .i64 m] => ∀ x y z e : Int, AnsP (dE a b c sp m) sp (mx (at3 a b c sp) m) a b c x y z e → k (.tuple [.agg [.int .i64 x, .int .i64 y, .int .i64 z], .int .i64 e]) [] []
  | _ => False
def l12 : Spec := fun args _ _ k => match args with
  | [.agg [.int .i64 a, .int .i64 b, .int .i64 c], .int .i64 sp] => ∀ x y z e : Int, AnsP (kE a b c sp) sp (at3 a b c sp - 1) a b c x y z e → k (.tuple [.agg [.int .i64 x, .int .i64 y, .int .i64 z], .int .i64 e]) [] []
  | _ => False
def l14 : Spec := fun args _ _ k => match args with
  | [.agg [.int .i64 a, .int .i64 b, .int .i64 c], .int .i64 sp] => ∀ x y z e : Int, AnsP (mayE a b c sp) sp 0 a b c x y z e → k (.tuple [.agg [.int .i64 x, .int .i64 y, .int .i64 z], .int .i64 e]) [] []
  | _ => False
def l23 : Spec := fun args _ _ k => match args with
  | [.int .i64 i, .int .i64 n] => bif decide (0 < n) && decide (n ≤ 9223372036854775807) then ∀ r : Int, (0 ≤ r ∧ r < n ∧ r = i % n) → k (.int .i64 r) [] [] else False
  | _ => False
def G7 : Gam := addGam (addGam (addGam (addGam (addGam (addGam (addGam (addGam (addGam (addGam (addGam (addGam (addGam (addGam (addGam noGam 16 s16) 17 s16) 18 s18) 19 s18) 20 s20) 21 s20) 9 l9) 10 l9) 12 l12) 13 l12) 14 l14) 15 l14) 11 s11) 23 l23) 22 s22
noncomputable def C7 : Ctx := ⟨Try.prog, G7, fun t => memN t eqs⟩
end Go.Proofs.Ytfhkmagpgbcnjaa
