/-
  Chapter 18 by the engine: facts; what may be due.
-/
import Derived.Test.YtfoogfhcjnpokaaX3
namespace Go.Proofs.Ytfoogfhcjnpokaa
open Go.RowKit
/-- Facts: of each space whether there are keys, when it may be lost, when the last one was sent, how many are under way. -/
structure Fc where
  k0 : Bool
  a0 : Int
  b0 : Int
  n0 : Int
  k1 : Bool
  a1 : Int
  b1 : Int
  n1 : Int
  k2 : Bool
  a2 : Int
  b2 : Int
  n2 : Int
  cf : Bool
  lm : Bool
  pr : Bool
  now : Int
def fcL (F : Fc) : List SV := [.bool F.k0, .int .i64 F.a0, .int .i64 F.b0, .int .i64 F.n0, .bool F.k1, .int .i64 F.a1, .int .i64 F.b1, .int .i64 F.n1, .bool F.k2, .int .i64 F.a2, .int .i64 F.b2, .int .i64 F.n2, .bool F.cf, .bool F.lm, .bool F.pr, .int .i64 F.now]
def fc (F : Fc) : SV := .agg (fcL F)
def okS (a b n : Int) : Bool := isOrNever a && (isOrNever b && (decide (0 ≤ n) && decide (n ≤ 256)))
def mayF (F : Fc) : Bool := okS F.a0 F.b0 F.n0 && (okS F.a1 F.b1 F.n1 && (okS F.a2 F.b2 F.n2 && isT F.now))
def sMay : Spec := fun args _ _ k => match args with
  | [.agg [.bool k0, .int .i64 a0, .int .i64 b0, .int .i64 n0, .bool k1, .int .i64 a1, .int .i64 b1, .int .i64 n1, .bool k2, .int .i64 a2, .int .i64 b2, .int .i64 n2, .bool cf, .bool lm, .bool pr, .int .i64 now]] => k (.bool (mayF ⟨k0, a0, b0, n0, k1, a1, b1, n1, k2, a2, b2, n2, cf, lm, pr, now⟩)) [] []
  | _ => False
def bC (cs : List SV) : Blk := ⟨cs.length, 1, fun _ => cs, false, 0⟩
def hpC (l m s v f d c mo : Int) : LHeap := [some (bC [.int .i64 l, .int .i64 m, .int .i64 s, .int .i64 v, .int .i64 f]), some (bC [.int .i64 d]), some (bC [.int .i64 c]), some (bC [.int .i64 mo])]
def waitS : SV := .func (.func 24) [] [.ptr 0 0 5 0, .ptr 1 0 1 0, .ptr 2 0 1 0, .ptr 3 0 1 0]
def askS (F : Fc) : SV := .agg [.bool F.k0, .int .i64 F.a0, .int .i64 F.b0, .int .i64 F.n0, .bool F.k1, .int .i64 F.a1, .int .i64 F.b1, .int .i64 F.n1, .bool F.k2, .int .i64 F.a2, .int .i64 F.b2, .int .i64 F.n2, .bool F.cf, .bool F.lm, .bool F.pr, .int .i64 F.now, waitS]
def row5 (b : Blk) (K : Int → Int → Int → Int → Int → Prop) : Prop := match b.sz, b.n, b.rd 0 with
  | 5, 1, [.int .i64 l, .int .i64 m, .int .i64 s, .int .i64 v, .int .i64 f] => K l m s v f
  | _, _, _ => False
def row1 (b : Blk) (K : Int → Prop) : Prop := match b.sz, b.n, b.rd 0 with
  | 1, 1, [.int .i64 x] => K x
  | _, _, _ => False
/-- The four that are waited by. -/
def four (h : Heap) (i0 i1 i2 i3 : Nat) (K : Int → Int → Int → Int → Int → Int → Int → Int → Prop) : Prop :=
  match h i0, h i1, h i2, h i3 with
  | some x0, some x1, some x2, some x3 => row5 x0 fun l m s v f => row1 x1 fun d => row1 x2 fun c => row1 x3 fun mo => K l m s v f d c mo
  | _, _, _, _ => False
def waitV (l m s v f d c mo : Int) (i : Int) : Int := backV (baseV l m s v f i d) c mo
def s24 : Spec := fun args h _ k => match args with
  | [.int .i64 i, .ptr i0 0 5 0, .ptr i1 0 1 0, .ptr i2 0 1 0, .ptr i3 0 1 0] => four h i0 i1 i2 i3 fun l m s v f d c mo => k (.int .i64 (waitV l m s v f d c mo i)) [] []
  | _ => False
def G4 : Gam := addGam (addGam (addGam G3 21 sIsT) 25 sBack) 45 sBack
noncomputable def C4 : Ctx := ⟨Try.prog, G4, fun t => memN t eqs⟩
def G5 : Gam := addGam (addGam (addGam G4 15 sMay) 19 sMay) 24 s24
noncomputable def C5 : Ctx := ⟨Try.prog, G5, fun t => memN t eqs⟩
/-- A list that is handed back. -/
def obsRes (v : SV) (hp : LHeap) : BO := match v with
  | .slice id _ _ _ => obsB true (hget hp id)
  | _ => .raw none
end Go.Proofs.Ytfoogfhcjnpokaa
