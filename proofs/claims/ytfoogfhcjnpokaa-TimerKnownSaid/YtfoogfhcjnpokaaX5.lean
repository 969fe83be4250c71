/-
  Chapter 18 by the engine: lists of what may be due; the best of them.
-/
import Derived.Test.YtfoogfhcjnpokaaX4
namespace Go.Proofs.Ytfoogfhcjnpokaa
open Go.RowKit
abbrev D3 := Int × Int × Int
def rowS3 (x : D3) : List SV := [.int .i64 x.1, .int .i64 x.2.1, .int .i64 x.2.2]
def listV (base : Nat) : List D3 → SV
  | [] => .nilSlice
  | _ :: l => .slice base 0 3 (l.length + 1)
def listN : List D3 → List Blk
  | [] => []
  | x :: l => [⟨3, l.length + 1, fun r => rowS3 ((x :: l).getD r (0, 0, 0)), true, 32⟩]
def kList (k : SV → Wr → List Blk → Prop) (base : Nat) (rows : List D3) : Prop := k (listV base rows) [] (listN rows)
def optL (c : Bool) (x : D3) (K : List D3 → Prop) : Prop := bif c then K [x] else K []
/-- What may be lost. -/
def lossK (F : Fc) (K : List D3 → Prop) : Prop :=
  bif F.a0 != -1 then (bif F.a1 != -1 then (bif F.a2 != -1 then K [(1, 0, F.a0), (1, 1, F.a1), (1, 2, F.a2)] else K [(1, 0, F.a0), (1, 1, F.a1)]) else (bif F.a2 != -1 then K [(1, 0, F.a0), (1, 2, F.a2)] else K [(1, 0, F.a0)]))
  else (bif F.a1 != -1 then (bif F.a2 != -1 then K [(1, 1, F.a1), (1, 2, F.a2)] else K [(1, 1, F.a1)]) else (bif F.a2 != -1 then K [(1, 2, F.a2)] else K []))
def u0 (F : Fc) : Bool := decide (0 < F.n0) && F.b0 != -1
def u1 (F : Fc) : Bool := decide (0 < F.n1) && F.b1 != -1
def u2 (F : Fc) : Bool := decide (0 < F.n2) && (F.b2 != -1 && F.cf)
/-- What is under way. -/
def probK (F : Fc) (W : Int → Int) (K : List D3 → Prop) : Prop :=
  bif u0 F then (bif u1 F then (bif u2 F then K [(2, 0, dueV F.b0 (W 0)), (2, 1, dueV F.b1 (W 1)), (2, 2, dueV F.b2 (W 2))] else K [(2, 0, dueV F.b0 (W 0)), (2, 1, dueV F.b1 (W 1))]) else (bif u2 F then K [(2, 0, dueV F.b0 (W 0)), (2, 2, dueV F.b2 (W 2))] else K [(2, 0, dueV F.b0 (W 0))]))
  else (bif u1 F then (bif u2 F then K [(2, 1, dueV F.b1 (W 1)), (2, 2, dueV F.b2 (W 2))] else K [(2, 1, dueV F.b1 (W 1))]) else (bif u2 F then K [(2, 2, dueV F.b2 (W 2))] else K []))
/-- What is there, if nothing is under way. -/
def lastK (F : Fc) (W : Int → Int) (K : List D3 → Prop) : Prop :=
  bif decide (0 < F.n0) then K [] else bif decide (0 < F.n1) then K [] else bif decide (0 < F.n2) then K [] else bif F.pr then K [] else
    bif F.k1 then K [(2, 1, dueV F.now (W 1))] else bif F.k0 then K [(2, 0, dueV F.now (W 0))] else K []
def asc (a b c d : Nat) : Bool := Nat.blt a b && (Nat.blt b c && Nat.blt c d)
def s28 : Spec := fun args h base k => match args with
  | [.agg [.bool k0, .int .i64 a0, .int .i64 b0, .int .i64 n0, .bool k1, .int .i64 a1, .int .i64 b1, .int .i64 n1, .bool k2, .int .i64 a2, .int .i64 b2, .int .i64 n2, .bool cf, .bool lm, .bool pr, .int .i64 now, .func (.func 24) [] [.ptr i0 0 5 0, .ptr i1 0 1 0, .ptr i2 0 1 0, .ptr i3 0 1 0]]] => bif asc i0 i1 i2 i3 then four h i0 i1 i2 i3 fun _ _ _ _ _ _ _ _ => lossK ⟨k0, a0, b0, n0, k1, a1, b1, n1, k2, a2, b2, n2, cf, lm, pr, now⟩ (kList k base) else False
  | _ => False
def s29 : Spec := fun args h base k => match args with
  | [.agg [.bool k0, .int .i64 a0, .int .i64 b0, .int .i64 n0, .bool k1, .int .i64 a1, .int .i64 b1, .int .i64 n1, .bool k2, .int .i64 a2, .int .i64 b2, .int .i64 n2, .bool cf, .bool lm, .bool pr, .int .i64 now, .func (.func 24) [] [.ptr i0 0 5 0, .ptr i1 0 1 0, .ptr i2 0 1 0, .ptr i3 0 1 0]]] => bif asc i0 i1 i2 i3 then four h i0 i1 i2 i3 fun l m s v f d c mo => probK ⟨k0, a0, b0, n0, k1, a1, b1, n1, k2, a2, b2, n2, cf, lm, pr, now⟩ (waitV l m s v f d c mo) (kList k base) else False
  | _ => False
def s30 : Spec := fun args h base k => match args with
  | [.agg [.bool k0, .int .i64 a0, .int .i64 b0, .int .i64 n0, .bool k1, .int .i64 a1, .int .i64 b1, .int .i64 n1, .bool k2, .int .i64 a2, .int .i64 b2, .int .i64 n2, .bool cf, .bool lm, .bool pr, .int .i64 now, .func (.func 24) [] [.ptr i0 0 5 0, .ptr i1 0 1 0, .ptr i2 0 1 0, .ptr i3 0 1 0]]] => bif asc i0 i1 i2 i3 then four h i0 i1 i2 i3 fun l m s v f d c mo => lastK ⟨k0, a0, b0, n0, k1, a1, b1, n1, k2, a2, b2, n2, cf, lm, pr, now⟩ (waitV l m s v f d c mo) (kList k base) else False
  | _ => False
def row3 (cs : List SV) (K : D3 → Prop) : Prop := match cs with
  | [.int .i64 x, .int .i64 y, .int .i64 z] => K (x, y, z)
  | _ => False
def dueS (x : D3) : SV := .agg [.int .i64 x.1, .int .i64 x.2.1, .int .i64 x.2.2]
/-- The first one of the least time. -/
def bestK (k : SV → Wr → List Blk → Prop) : D3 → List D3 → Prop
  | x, [] => k (.tuple [dueS x, .bool true]) [] []
  | x, y :: l => bif decide (y.2.2 < x.2.2) then bestK k y l else bestK k x l
def s31 : Spec := fun args h _ k => match args with
  | [.nilSlice, .func (.func 27) [] []] => k (.tuple [due 0 0 0, .bool false]) [] []
  | [.slice id 0 3 1, .func (.func 27) [] []] => match h id with
    | some b => match b.sz, b.n with
      | 3, 1 => row3 (b.rd 0) fun x => bestK k x []
      | _, _ => False
    | none => False
  | [.slice id 0 3 2, .func (.func 27) [] []] => match h id with
    | some b => match b.sz, b.n with
      | 3, 2 => row3 (b.rd 0) fun x => row3 (b.rd 1) fun y => bestK k x [y]
      | _, _ => False
    | none => False
  | [.slice id 0 3 3, .func (.func 27) [] []] => match h id with
    | some b => match b.sz, b.n with
      | 3, 3 => row3 (b.rd 0) fun x => row3 (b.rd 1) fun y => row3 (b.rd 2) fun z => bestK k x [y, z]
      | _, _ => False
    | none => False
  | _ => False
def G6 : Gam := addGam (addGam (addGam (addGam G5 28 s28) 29 s29) 30 s30) 31 s31
noncomputable def C6 : Ctx := ⟨Try.prog, G6, fun t => memN t eqs⟩
def b3 (rows : List D3) : Blk := ⟨3, rows.length, fun r => rowS3 (rows.getD r (0, 0, 0)), false, 0⟩
end Go.Proofs.Ytfoogfhcjnpokaa
