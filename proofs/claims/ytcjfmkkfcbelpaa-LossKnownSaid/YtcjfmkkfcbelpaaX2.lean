/-
  Chapter 9 by the engine: packets, what is ruled.
-/
import Derived.Test.YtcjfmkkfcbelpaaV1
import Derived.Test.YtcjfmkkfcbelpaaP2
namespace Go.Proofs.Ytcjfmkkfcbelpaa
open Go.RowKit
def pk (n a z : Int) (b c d : Bool) : SV := .agg [.int .i64 n, .int .i64 a, .int .i64 z, .bool b, .bool c, .bool d]
/-- A number that a pointer tells. -/
def cell1 (h : Heap) (id : Nat) (K : Int → Prop) : Prop := match h id with
  | some b => match b.sz, b.n, b.rd 0 with
    | 1, 1, [.int .i64 x] => K x
    | _, _, _ => False
  | none => False
/-- The function that tells when a packet is due, and what it caught. -/
def due1 (h : Heap) (id : Nat) (K : Int → Prop) : Prop := match h id with
  | some b => match b.sz, b.n, b.rd 0 with
    | 1, 1, [.func (.func 37) [] [.ptr w 0 1 0]] => cell1 h w K
    | _, _, _ => False
  | none => False
def dueT (a w : Int) : Int := IntKind.i64.wrap (a + w)
def minT (x : Int) : Int := if 9007199254740991 < x then 9007199254740991 else x
def far (g n : Int) : Bool := decide (3 ≤ IntKind.i64.wrap (g - n))
def s37 : Spec := fun args h _ k => match args with
  | [.agg [.int .i64 _, .int .i64 a, .int .i64 _, .bool _, .bool _, .bool _], .ptr w 0 1 0] => cell1 h w fun w => k (.int .i64 (dueT a w)) [] []
  | _ => False
def s38 : Spec := fun args h _ k => match args with
  | [.agg [.int .i64 n, .int .i64 _, .int .i64 _, .bool _, .bool _, .bool _], .ptr g 0 1 0] => cell1 h g fun g => k (.bool (decide (n ≤ g))) [] []
  | _ => False
def s40 : Spec := fun args h _ k => match args with
  | [.agg [.int .i64 _, .int .i64 a, .int .i64 _, .bool _, .bool _, .bool _], .ptr d 0 1 0] => due1 h d fun w => k (.int .i64 (minT (dueT a w))) [] []
  | _ => False
def s39 : Spec := fun args h _ k => match args with
  | [.agg [.int .i64 n, .int .i64 a, .int .i64 _, .bool _, .bool _, .bool _], .ptr g 0 1 0, .ptr d 0 1 0, .ptr t 0 1 0] => cell1 h g fun g => due1 h d fun w => cell1 h t fun t => k (.bool (far g n || decide (dueT a w ≤ t))) [] []
  | _ => False
def cB (x : Int) : Blk := oneB [.int .i64 x] true 3
def s30 : Spec := fun args h _ k => match args with
  | [.agg [.int .i64 n, .int .i64 a, .int .i64 z, .bool _, .bool _, .bool _], .ptr l 0 1 0] => (match h l with
    | some b => match b.sz, b.n, b.rw, b.ty, b.rd 0 with
      | 1, 1, true, 3, [.int .i64 x] => k (.bool (badV x n a z)) [(l, some (cB n))] []
      | _, _, _, _, _ => False
    | none => False)
  | _ => False
def dueW (w : Nat) : Blk := ⟨1, 1, fun _ => [.func (.func 37) [] [.ptr w 0 1 0]], true, 54⟩
def s27 : Spec := fun args _ base k => match args with
  | [.int .i64 g, .int .i64 n, .int .i64 w] => k (.agg [.func (.func 38) [] [.ptr base 0 1 0], .func (.func 39) [] [.ptr base 0 1 0, .ptr (base + 3) 0 1 0, .ptr (base + 1) 0 1 0], .func (.func 40) [] [.ptr (base + 3) 0 1 0]]) [] [cB g, cB n, cB w, dueW (base + 2)]
  | _ => False
def G5 : Gam := addGam (addGam (addGam G4 37 s37) 38 s38) 30 s30
noncomputable def C5 : Ctx := ⟨Try.prog, G5, fun t => memN t eqs⟩
def G6 : Gam := addGam (addGam (addGam G5 39 s39) 40 s40) 27 s27
noncomputable def C6 : Ctx := ⟨Try.prog, G6, fun t => memN t eqs⟩
def dueB (w : Nat) : Blk := ⟨1, 1, fun _ => [.func (.func 37) [] [.ptr w 0 1 0]], false, 0⟩
end Go.Proofs.Ytcjfmkkfcbelpaa
