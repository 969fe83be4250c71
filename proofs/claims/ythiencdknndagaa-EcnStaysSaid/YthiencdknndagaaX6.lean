/-
  Chapter 12 by the engine: what laws are given of Marked and Acked: the results by name.
-/
import Derived.Test.YthiencdknndagaaX4
namespace Go.Proofs.Ythiencdknndagaa
open Go.RowKit
structure AckP (f m : Bool) (s a b c x y z newly : Int) (s' a' b' c' : Int) (f' bo : Bool) (e : Int) : Prop where
  hs : s' = zi (aE s a b c x y z newly) s
  ha : a' = zi (aE s a b c x y z newly) (pk (aSee f m s a b c x y z newly) x a)
  hb : b' = zi (aE s a b c x y z newly) (pk (aSee f m s a b c x y z newly) y b)
  hc : c' = zi (aE s a b c x y z newly) (pk (aSee f m s a b c x y z newly) z c)
  hf : f' = zb (aE s a b c x y z newly) (aFail f m s a b c x y z newly)
  hbo : bo = zb (aE s a b c x y z newly) (aSee f m s a b c x y z newly && decide (c < z))
  he : e = aE s a b c x y z newly
def l11 : Spec := fun args _ _ k => match args with
  | [.agg [.int .i64 s, .int .i64 a, .int .i64 b, .int .i64 c, .bool f], .agg [.int .i64 _, q, .bool m, .int .i64 x, .int .i64 y, .int .i64 z], .int .i64 newly] =>
    bif okSl q then ∀ (s' a' b' c' : Int) (f' bo : Bool) (e : Int), AckP f m s a b c x y z newly s' a' b' c' f' bo e →
      k (.tuple [.agg [.int .i64 s', .int .i64 a', .int .i64 b', .int .i64 c', .bool f'], .bool bo, .int .i64 e]) [] [] else False
  | _ => False
structure MarkP (f : Bool) (s a b c : Int) (s' a' b' c' : Int) (f' : Bool) (e : Int) : Prop where
  hs : s' = zi (mE s a b c) (s + 1)
  ha : a' = zi (mE s a b c) a
  hb : b' = zi (mE s a b c) b
  hc : c' = zi (mE s a b c) c
  hf : f' = zb (mE s a b c) f
  he : e = mE s a b c
def l8 : Spec := fun args _ _ k => match args with
  | [.agg [.int .i64 s, .int .i64 a, .int .i64 b, .int .i64 c, .bool f]] => ∀ (s' a' b' c' : Int) (f' : Bool) (e : Int), MarkP f s a b c s' a' b' c' f' e →
      k (.tuple [.agg [.int .i64 s', .int .i64 a', .int .i64 b', .int .i64 c', .bool f'], .int .i64 e]) [] []
  | _ => False
/-- A number between, by name. -/
structure BrP (i n r : Int) : Prop where
  lo : 0 ≤ r
  hi : r < n
  eq : r = i % n
def l16 : Spec := fun args _ _ k => match args with
  | [.int .i64 i, .int .i64 n] => bif decide (0 < n) && decide (n ≤ 9223372036854775807) then ∀ r : Int, BrP i n r → k (.int .i64 r) [] [] else False
  | _ => False
def s3 : Spec := fun args _ _ k => match args with
  | [.agg [.int .i64 _, .int .i64 _, .int .i64 _, .int .i64 _, .bool _], .agg [.int .i64 _, .nilSlice, .bool _, .int .i64 _, .int .i64 _, .int .i64 _], .int .i64 _] => k (.bool true) [] []
  | _ => False
def G6 : Gam := addGam (addGam (addGam (addGam (addGam noGam 16 l16) 11 l11) 8 l8) 17 s17) 15 s15
noncomputable def C6 : Ctx := ⟨Try.prog, G6, fun t => memN t eqs⟩
def G7 : Gam := addGam G6 3 s3
noncomputable def C7 : Ctx := ⟨Try.prog, G7, fun t => memN t eqs⟩
end Go.Proofs.Ythiencdknndagaa
