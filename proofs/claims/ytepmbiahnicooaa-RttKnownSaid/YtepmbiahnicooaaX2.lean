/-
  Chapter 7 by the engine: contracts.
-/
import Derived.Test.YtepmbiahnicooaaX1
namespace Go.Proofs.Ytepmbiahnicooaa
open Go.RowKit
def rtt (l m s v f : Int) : SV := .agg [.int .i64 l, .int .i64 m, .int .i64 s, .int .i64 v, .int .i64 f]
def s29 : Spec := fun args _ _ k => match args with
  | [.int .i64 n] => k (.bool (isT n)) [] []
  | _ => False
def s25 : Spec := fun args _ _ k => match args with
  | [.int .i64 n] => k (.int .i64 (timeV n)) [] []
  | _ => False
def s14 : Spec := fun args _ _ k => match args with
  | [.int .i64 n] => k (.tuple [rtt 0 0 (zi (newE n) n) (zi (newE n) (n / 2)) (zi (newE n) (-1)), .int .i64 (newE n)]) [] []
  | _ => False
def s26 : Spec := fun args h _ k => match args with
  | [.slice id 0 1 5] => match h id with
    | some b => match b.sz, b.n, b.rd 0, b.rd 1, b.rd 2, b.rd 3, b.rd 4 with
      | 1, 5, [.int .i64 x0], [.int .i64 x1], [.int .i64 x2], [.int .i64 x3], [.int .i64 x4] => k (.bool (isT x0 && (isT x1 && (isT x2 && (isT x3 && isT x4))))) [] []
      | _, _, _, _, _, _, _ => False
    | none => False
  | [.slice id 0 1 3] => match h id with
    | some b => match b.sz, b.n, b.rd 0, b.rd 1, b.rd 2 with
      | 1, 3, [.int .i64 x0], [.int .i64 x1], [.int .i64 x2] => k (.bool (isT x0 && (isT x1 && isT x2))) [] []
      | _, _, _, _, _ => False
    | none => False
  | _ => False
structure Tm (n : Int) : Prop where
  lo : 0 ≤ n
  hi : n ≤ 9007199254740991
structure Times (m s v x d : Int) : Prop where
  m : Tm m
  s : Tm s
  v : Tm v
  x : Tm x
  d : Tm d
def s27 : Spec := fun args _ _ k => match args with
  | [.agg [.int .i64 _, .int .i64 m, .int .i64 s, .int .i64 v, .int .i64 f], .int .i64 x, .int .i64 d, .int .i64 _] =>
    Times m s v x d ∧ k (rtt x (mnI m x) ((7 * s + cnt m x d) / 8) ((3 * v + absI (s - cnt m x d)) / 4) f) [] []
  | _ => False
def s28 : Spec := fun args _ _ k => match args with
  | [.agg [.int .i64 _, .int .i64 _, .int .i64 _, .int .i64 _, .int .i64 _], .int .i64 x, .int .i64 _, .int .i64 n] => Tm x ∧ k (rtt x x x (x / 2) n) [] []
  | _ => False
def s18 : Spec := fun args _ _ k => match args with
  | [.int .i64 i, .int .i64 n] => bif decide (0 < n) && decide (n ≤ 9223372036854775807) then k (.int .i64 (i % n)) [] [] else False
  | _ => False
def s11 : Spec := fun args _ _ k => match args with
  | [.int .i64 d, .int .i64 m, .bool b] => k (.int .i64 (heldV d m b)) [] []
  | _ => False
def G1 : Gam := addGam (addGam (addGam (addGam (addGam (addGam (addGam (addGam (addGam noGam 29 s29) 25 s25) 14 s14) 15 s14) 26 s26) 27 s27) 28 s28) 18 s18) 11 s11
noncomputable def C1 : Ctx := ⟨Try.prog, G1, fun t => memN t eqs⟩
/-- What a check answers. -/
def s21 : Spec := fun args _ _ k => match args with
  | [.agg [.int .i64 l, .int .i64 m, .int .i64 s, .int .i64 v, .int .i64 f]] => k (.int .i64 (chkE l m s v f)) [] []
  | _ => False
def s23 : Spec := fun args _ _ k => match args with
  | [.agg [.int .i64 l, .int .i64 m, .int .i64 s, .int .i64 v, .int .i64 f]] => k (.int .i64 (greatV l m s v f)) [] []
  | _ => False
def smp (l m s v f x d n : Int) : SV := .tuple [rtt (zi (smE l m s v f x d n) x) (zi (smE l m s v f x d n) (smM m f x)) (zi (smE l m s v f x d n) (smS m s f x d)) (zi (smE l m s v f x d n) (smV m s v f x d)) (zi (smE l m s v f x d n) (smF f n)), .int .i64 (smE l m s v f x d n)]
def s16 : Spec := fun args _ _ k => match args with
  | [.agg [.int .i64 l, .int .i64 m, .int .i64 s, .int .i64 v, .int .i64 f], .int .i64 x, .int .i64 d, .int .i64 n] => k (smp l m s v f x d n) [] []
  | _ => False
noncomputable def C2 : Ctx := ⟨Try.prog, addGam (addGam G1 21 s21) 22 s21, fun t => memN t eqs⟩
def G3 : Gam := addGam (addGam (addGam (addGam (addGam (addGam (addGam G1 21 s21) 22 s21) 23 s23) 24 s23) 16 s16) 17 s16) 12 s11
noncomputable def C3 : Ctx := ⟨Try.prog, G3, fun t => memN t eqs⟩
def s13 : Spec := fun args _ _ k => match args with
  | [] => k (.bool true) [] []
  | _ => False
noncomputable def C4 : Ctx := ⟨Try.prog, addGam G3 13 s13, fun t => memN t eqs⟩
end Go.Proofs.Ytepmbiahnicooaa
