/-
  Chapter 19 by the engine: more contracts.
-/
import Derived.Test.YtfhkmagpgbcnjaaX2
namespace Go.Proofs.Ytfhkmagpgbcnjaa
open Go.RowKit
def fst3 (a b c : Int) : Int := if ok3 a b c then (if 0 < a then 0 else if 0 < b then 1 else if 0 < c then 2 else -1) else -1
def sum3 (a b c : Int) : Int := if ok3 a b c then a + b + c else 0
def s18 : Spec := fun args _ _ k => match args with
  | [.agg [.int .i64 a, .int .i64 b, .int .i64 c]] => k (.int .i64 (fst3 a b c)) [] []
  | _ => False
def s20 : Spec := fun args _ _ k => match args with
  | [.agg [.int .i64 a, .int .i64 b, .int .i64 c]] => k (.int .i64 (sum3 a b c)) [] []
  | _ => False
/-- An answer: three cells and an error. -/
def ans (e sp v a b c : Int) : SV := .tuple [.agg [.int .i64 (zi e (put sp 0 v a)), .int .i64 (zi e (put sp 1 v b)), .int .i64 (zi e (put sp 2 v c))], .int .i64 e]
def s9 : Spec := fun args _ _ k => match args with
  | [.agg [.int .i64 a, .int .i64 b, .int .i64 c], .int .i64 sp, .int .i64 m] => k (ans (dE a b c sp m) sp (mx (at3 a b c sp) m) a b c) [] []
  | _ => False
def s12 : Spec := fun args _ _ k => match args with
  | [.agg [.int .i64 a, .int .i64 b, .int .i64 c], .int .i64 sp] => k (ans (kE a b c sp) sp (at3 a b c sp - 1) a b c) [] []
  | _ => False
def s14 : Spec := fun args _ _ k => match args with
  | [.agg [.int .i64 a, .int .i64 b, .int .i64 c], .int .i64 sp] => k (ans (mayE a b c sp) sp 0 a b c) [] []
  | _ => False
end Go.Proofs.Ytfhkmagpgbcnjaa
