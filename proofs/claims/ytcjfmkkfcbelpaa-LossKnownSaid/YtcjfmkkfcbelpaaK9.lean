/-
  Chapter 9 by the engine: T16, V16, X28, T28, V28, V30 in one. (Printed by merge.py.)
-/
import Derived.Test.YtcjfmkkfcbelpaaV15
import Derived.Test.YtcjfmkkfcbelpaaK3
namespace Go.Proofs.Ytcjfmkkfcbelpaa
open Go.RowKit
set_option linter.unusedVariables false
set_option maxRecDepth 100000

theorem t4 (l m s v f : Int) (kk : SV → Prop) : evalF C16 64 Try.f4 [rtt l m s v f] [] (fun v _ => kk v) = (
    bif waitV l m s v f == waitV l m s v f then kk (SV.bool true) else kk (SV.bool false)) := by kernel_rfl
end Go.Proofs.Ytcjfmkkfcbelpaa
namespace Go.Proofs.Ytcjfmkkfcbelpaa
open Go.RowKit
section
attribute [local irreducible] evalC
set_option maxRecDepth 100000
theorem canon4 (l m s v f : Int) : Canon Try.prog 4 [rtt l m s v f] [] fun v _ => v = .bool true := by
  refine evalF_ok (C := C16) ec gs16 mixed (u := 64) Try.func4 (by kernel_rfl) ?_
  show evalF C16 64 Try.f4 [rtt l m s v f] [] _
  rw [t4 l m s v f (fun v => v = .bool true), beq_self_eq_true]
  rfl
end
theorem waits_any (l m s v f : Int) (W : World) : Calls Try.prog 4 #[.agg #[.int .i64 l, .int .i64 m, .int .i64 s, .int .i64 v, .int .i64 f]] W fun e w' => e = .returned (.bool true) ∧ Below W.heap.size W w' :=
  lawOf (canon4 l m s v f) (RL.cons (by simp [R, RL, rtt]) RL.nil) W
end Go.Proofs.Ytcjfmkkfcbelpaa
namespace Go.Proofs.Ytcjfmkkfcbelpaa
open Go.RowKit
set_option linter.unusedVariables false
noncomputable def c9_0 : Code := (sq1 (bodF Try.f9))
noncomputable def c9_1 : Code := (sq1 (sq2 (bodF Try.f9)))
noncomputable def c9_2 : Code := (sq1 (sq1 (sq2 (sq2 (bodF Try.f9)))))
noncomputable def c9_3 : Code := (sq1 (lpC (blkC (sq2 (sq1 (sq2 (sq2 (bodF Try.f9))))))))
noncomputable def c9_4 : Code := (sq1 (blkC (sq1 (sq2 (lpC (blkC (sq2 (sq1 (sq2 (sq2 (bodF Try.f9)))))))))))
noncomputable def c9_5 : Code := (lpC (blkC (sq2 (blkC (sq1 (sq2 (lpC (blkC (sq2 (sq1 (sq2 (sq2 (bodF Try.f9)))))))))))))
noncomputable def c9_6 : Code := (sq2 (sq2 (lpC (blkC (sq2 (sq1 (sq2 (sq2 (bodF Try.f9)))))))))
noncomputable def c9_7 : Code := (sq1 (sq2 (sq2 (sq2 (bodF Try.f9)))))
noncomputable def c9_8 : Code := (sq1 (sq1 (sq2 (sq2 (sq2 (sq2 (bodF Try.f9)))))))
noncomputable def c9_9 : Code := (lpC (blkC (sq2 (sq1 (sq2 (sq2 (sq2 (sq2 (bodF Try.f9)))))))))
noncomputable def c9_10 : Code := (sq2 (sq2 (sq2 (sq2 (sq2 (bodF Try.f9))))))
theorem code9 : bodF Try.f9 = (.seq c9_0 (.seq c9_1 (.seq (.seq c9_2 (.block 0 (.loop (.seq c9_3 (.seq (.block 1 (.seq c9_4 (.block 2 (.loop c9_5)))) c9_6))))) (.seq c9_7 (.seq (.seq c9_8 (.block 4 (.loop c9_9))) c9_10))))) := by kernel_rfl
noncomputable def c9_11 : Code := sq1 c9_10
noncomputable def c9_12 : Code := sq1 (sq2 c9_10)
noncomputable def c9_13 : Code := sq2 (sq2 c9_10)
theorem code9b : c9_10 = .seq c9_11 (.seq c9_12 c9_13) := by kernel_rfl
noncomputable def d9_0 : Code := sq1 c9_5
noncomputable def d9_x : Code := blkC (sq1 (sq2 c9_5))
noncomputable def d9_1 : Code := sq1 d9_x
noncomputable def d9_2 : Code := sq1 (sq2 d9_x)
noncomputable def d9_3 : Code := sq1 (sq2 (sq2 d9_x))
noncomputable def d9_4 : Code := sq1 (sq2 (sq2 (sq2 d9_x)))
noncomputable def d9_5 : Code := sq1 (sq2 (sq2 (sq2 (sq2 d9_x))))
noncomputable def d9_6 : Code := sq1 (sq2 (sq2 (sq2 (sq2 (sq2 d9_x)))))
noncomputable def d9_7 : Code := sq1 (sq2 (sq2 (sq2 (sq2 (sq2 (sq2 d9_x))))))
noncomputable def d9_8 : Code := (sq2 (sq2 (sq2 (sq2 (sq2 (sq2 (sq2 d9_x)))))))
noncomputable def d9_9 : Code := sq2 (sq2 c9_5)
theorem code9d : c9_5 = .seq d9_0 (.seq (.block 3 (.seq d9_1 (.seq d9_2 (.seq d9_3 (.seq d9_4 (.seq d9_5 (.seq d9_6 (.seq d9_7 d9_8)))))))) d9_9) := by kernel_rfl
/-- LossTells holds. -/
def s3 : Spec := fun args h base k => match args with
  | [.slice id 0 6 n, .agg [.int .i64 g, .int .i64 t], .agg [.int .i64 l, .int .i64 m, .int .i64 s, .int .i64 v, .int .i64 f]] => match h id with
    | some b => IsPs b n ∧ (0 < n ∧ k (.bool true) [] [])
    | none => False
  | _ => False
/-- LossWaits holds. -/
def s4 : Spec := fun args _ _ k => match args with
  | [.agg [.int .i64 l, .int .i64 m, .int .i64 s, .int .i64 v, .int .i64 f]] => k (.bool true) [] []
  | _ => False
/-- Check, of a list that begins at a later row. -/
def s14o : Spec := fun args h _ k => match args with
  | [u] => lpO h u fun P n => k (.int .i64 (chkP P n)) [] []
  | _ => False
def G28 : Gam := addGam (addGam (addGam G18 3 s3) 4 s4) 14 s14o
noncomputable def C28 : Ctx := ⟨Try.prog, G28, fun t => memN t eqs⟩
/-! Templates. -/
def eB (e : Nat → Int) : Blk := ⟨1, 15, fun r => [.int .i64 (e r)], true, 3⟩
def eO (e : Nat → Int) : BO := .raw (some (eB e))
abbrev L9a : List Nat := [1, 2]
def v9a (i : SV) : List SV := [.slice 0 0 1 15, i]
abbrev L9 : List Nat := [1, 2, 3]
def v9 (i k : SV) : List SV := [.slice 0 0 1 15, i, k]
abbrev L9q : List Nat := [1, 2, 3, 4]
def v9q (i k : SV) : List SV := [.slice 0 0 1 15, i, k, .slice 1 0 6 4]
def setN (x : Int) (p : Pk) : Pk := ⟨x, p.a, p.z, p.b, p.c, p.d⟩
def setA (x : Int) (p : Pk) : Pk := ⟨p.n, x, p.z, p.b, p.c, p.d⟩
def setZ (x : Int) (p : Pk) : Pk := ⟨p.n, p.a, x, p.b, p.c, p.d⟩
def pk9 (r : Nat) : Pk := ⟨r, 0, 1, false, false, false⟩
abbrev L9m : List Nat := [5]
abbrev L9n : List Nat := [5, 6]
abbrev L9z : List Nat := [5, 10, 11]
abbrev M9n : List Bool := [true, true]
abbrev M9s : List Bool := [false, true, false]
end Go.Proofs.Ytcjfmkkfcbelpaa
namespace Go.Proofs.Ytcjfmkkfcbelpaa
open Go.RowKit
set_option linter.unusedVariables false
set_option maxRecDepth 100000

theorem p9a (Kt : KT) : evalC C28 0 0 (.seq c9_0 (.seq c9_1 .skip)) (enterS 166 []) [] ( obsN [1] [true] Kt) = ( Kt Ex.normal (166 : Nat) [SV.slice (0 : Nat) (0 : Nat) (1 : Nat) (15 : Nat)] [BO.rows (1 : Nat) (15 : Nat) true (3 : Nat) [[SV.int IntKind.i64 (-9223372036854775808 : Int)], [SV.int IntKind.i64 (-2 : Int)], [SV.int IntKind.i64 (-1 : Int)], [SV.int IntKind.i64 (0 : Int)], [SV.int IntKind.i64 (1 : Int)], [SV.int IntKind.i64 (2 : Int)], [SV.int IntKind.i64 (3 : Int)], [SV.int IntKind.i64 (4 : Int)], [SV.int IntKind.i64 (5 : Int)], [SV.int IntKind.i64 (6 : Int)], [SV.int IntKind.i64 (65535 : Int)], [SV.int IntKind.i64 (65536 : Int)], [SV.int IntKind.i64 (9007199254740991 : Int)], [SV.int IntKind.i64 (9007199254740992 : Int)], [SV.int IntKind.i64 (9223372036854775807 : Int)]]]) := by kernel_rfl
theorem p9a2 (e : Nat → Int) (Kt : KT) : evalC C28 0 0 c9_2 (tplF 166 [1] [.slice 0 0 1 15]) ([eO e].map mkB) ( obsN L9a [false] Kt) = ( Kt Ex.normal (166 : Nat) [SV.slice (0 : Nat) (0 : Nat) (1 : Nat) (15 : Nat), SV.int IntKind.i64 (0 : Int)] [BO.raw (some (Blk.mk (1 : Nat) (15 : Nat) (fun r => [SV.int IntKind.i64 (e r)]) true (3 : Nat)))]) := by kernel_rfl
theorem p9b (e : Nat → Int) (i : Nat) (Kt : KT) : evalC C28 0 0 c9_3 (tplF 166 L9a (v9a (.int .i64 i))) ([eO e].map mkB) ( obsN L9a [false] Kt) = ( bif decide ((↑i : Int) < (15 : Int)) then Kt Ex.normal (166 : Nat) [SV.slice (0 : Nat) (0 : Nat) (1 : Nat) (15 : Nat), SV.int IntKind.i64 (↑i : Int)] [BO.raw (some (Blk.mk (1 : Nat) (15 : Nat) (fun r => [SV.int IntKind.i64 (e r)]) true (3 : Nat)))] else Kt (Ex.exit (0 : Nat)) (166 : Nat) [SV.slice (0 : Nat) (0 : Nat) (1 : Nat) (15 : Nat), SV.int IntKind.i64 (↑i : Int)] [BO.raw (some (Blk.mk (1 : Nat) (15 : Nat) (fun r => [SV.int IntKind.i64 (e r)]) true (3 : Nat)))]) := by kernel_rfl
theorem p9c (e : Nat → Int) (i : Nat) (Kt : KT) : evalC C28 0 0 c9_4 (tplF 166 L9a (v9a (.int .i64 i))) ([eO e].map mkB) ( obsN L9 [false] Kt) = ( Kt Ex.normal (166 : Nat) [SV.slice (0 : Nat) (0 : Nat) (1 : Nat) (15 : Nat), SV.int IntKind.i64 (↑i : Int), SV.int IntKind.i64 (0 : Int)] [BO.raw (some (Blk.mk (1 : Nat) (15 : Nat) (fun r => [SV.int IntKind.i64 (e r)]) true (3 : Nat)))]) := by kernel_rfl
theorem p9d0 (e : Nat → Int) (i k : Nat) (Kt : KT) : evalC C28 0 0 d9_0 (tplF 166 L9 (v9 (.int .i64 i) (.int .i64 k))) ([eO e].map mkB) ( obsN L9 [false] Kt) = ( bif decide ((↑k : Int) < (15 : Int)) then Kt Ex.normal (166 : Nat) [SV.slice (0 : Nat) (0 : Nat) (1 : Nat) (15 : Nat), SV.int IntKind.i64 (↑i : Int), SV.int IntKind.i64 (↑k : Int)] [BO.raw (some (Blk.mk (1 : Nat) (15 : Nat) (fun r => [SV.int IntKind.i64 (e r)]) true (3 : Nat)))] else Kt (Ex.exit (2 : Nat)) (166 : Nat) [SV.slice (0 : Nat) (0 : Nat) (1 : Nat) (15 : Nat), SV.int IntKind.i64 (↑i : Int), SV.int IntKind.i64 (↑k : Int)] [BO.raw (some (Blk.mk (1 : Nat) (15 : Nat) (fun r => [SV.int IntKind.i64 (e r)]) true (3 : Nat)))]) := by kernel_rfl
theorem p9d1 (e : Nat → Int) (i k : Nat) (Kt : KT) : evalC C28 0 0 d9_1 (tplF 166 L9 (v9 (.int .i64 i) (.int .i64 k))) ([eO e].map mkB) ( obsN L9q [false, false] Kt) = ( Kt Ex.normal (166 : Nat) [SV.slice (0 : Nat) (0 : Nat) (1 : Nat) (15 : Nat), SV.int IntKind.i64 (↑i : Int), SV.int IntKind.i64 (↑k : Int), SV.slice (1 : Nat) (0 : Nat) (6 : Nat) (4 : Nat)] [BO.raw (some (Blk.mk (1 : Nat) (15 : Nat) (fun r => [SV.int IntKind.i64 (e r)]) true (3 : Nat))), BO.raw (some (Blk.mk (6 : Nat) (4 : Nat) (fun r => [SV.int IntKind.i64 (four r).n, SV.int IntKind.i64 (four r).a, SV.int IntKind.i64 (four r).z, SV.bool (four r).b, SV.bool (four r).c, SV.bool (four r).d]) true (33 : Nat)))]) := by kernel_rfl
theorem p9d2 (e : Nat → Int) (i k : Nat) (Q : Nat → Pk) (Kt : KT) : evalC C28 0 0 d9_2 (tplF 166 L9q (v9q (.int .i64 i) (.int .i64 k))) ([eO e, lO 4 Q].map mkB) ( obsN L9q [false, false] Kt) = ( bif decide ((↑i : Int) < (15 : Int)) then bif decide ((0 : Nat) + (↑i : Int).toNat < (15 : Nat)) && true then bif decide ((↑k : Int) < (15 : Int)) then bif decide ((0 : Nat) + (↑k : Int).toNat < (15 : Nat)) && true then IsPs (Blk.mk (6 : Nat) (4 : Nat) (fun r => [SV.int IntKind.i64 (Q r).n, SV.int IntKind.i64 (Q r).a, SV.int IntKind.i64 (Q r).z, SV.bool (Q r).b, SV.bool (Q r).c, SV.bool (Q r).d]) true (33 : Nat)) (4 : Nat) ∧ Nat.le (1 : Nat) (4 : Nat) ∧ Kt Ex.normal (166 : Nat) [SV.slice (0 : Nat) (0 : Nat) (1 : Nat) (15 : Nat), SV.int IntKind.i64 (↑i : Int), SV.int IntKind.i64 (↑k : Int), SV.slice (1 : Nat) (0 : Nat) (6 : Nat) (4 : Nat)] [BO.raw (some (Blk.mk (1 : Nat) (15 : Nat) (fun r => [SV.int IntKind.i64 (e r)]) true (3 : Nat))), BO.raw (some (Blk.mk (6 : Nat) (4 : Nat) (fun r => [SV.int IntKind.i64 (Q r).n, SV.int IntKind.i64 (Q r).a, SV.int IntKind.i64 (Q r).z, SV.bool (Q r).b, SV.bool (Q r).c, SV.bool (Q r).d]) true (33 : Nat)))] else False else False else False else False) := by kernel_rfl
theorem p9d3 (e : Nat → Int) (i k : Nat) (Q : Nat → Pk) (Kt : KT) : evalC C28 0 0 d9_3 (tplF 166 L9q (v9q (.int .i64 i) (.int .i64 k))) ([eO e, lO 4 Q].map mkB) ( obsN L9q [false, false] Kt) = ( bif decide ((↑i : Int) < (15 : Int)) then bif decide ((0 : Nat) + (↑i : Int).toNat < (15 : Nat)) && true then Kt Ex.normal (166 : Nat) [SV.slice (0 : Nat) (0 : Nat) (1 : Nat) (15 : Nat), SV.int IntKind.i64 (↑i : Int), SV.int IntKind.i64 (↑k : Int), SV.slice (1 : Nat) (0 : Nat) (6 : Nat) (4 : Nat)] [BO.raw (some (Blk.mk (1 : Nat) (15 : Nat) (fun r => [SV.int IntKind.i64 (e r)]) true (3 : Nat))), BO.raw (some (Blk.mk (6 : Nat) (4 : Nat) (fun r => bif r.beq ((0 : Nat) + Int.toNat (3 : Int)) then pkC (setN (e ((0 : Nat) + (↑i : Int).toNat)) (Q ((0 : Nat) + Int.toNat (3 : Int)))) else pkC (Q r)) true (33 : Nat)))] else False else False) := by kernel_rfl
theorem p9d4 (e : Nat → Int) (i k : Nat) (Q : Nat → Pk) (Kt : KT) : evalC C28 0 0 d9_4 (tplF 166 L9q (v9q (.int .i64 i) (.int .i64 k))) ([eO e, lO 4 Q].map mkB) ( obsN L9q [false, false] Kt) = ( bif decide ((↑k : Int) < (15 : Int)) then bif decide ((0 : Nat) + (↑k : Int).toNat < (15 : Nat)) && true then Kt Ex.normal (166 : Nat) [SV.slice (0 : Nat) (0 : Nat) (1 : Nat) (15 : Nat), SV.int IntKind.i64 (↑i : Int), SV.int IntKind.i64 (↑k : Int), SV.slice (1 : Nat) (0 : Nat) (6 : Nat) (4 : Nat)] [BO.raw (some (Blk.mk (1 : Nat) (15 : Nat) (fun r => [SV.int IntKind.i64 (e r)]) true (3 : Nat))), BO.raw (some (Blk.mk (6 : Nat) (4 : Nat) (fun r => bif r.beq ((0 : Nat) + Int.toNat (0 : Int)) then pkC (setA (e ((0 : Nat) + (↑k : Int).toNat)) (Q ((0 : Nat) + Int.toNat (0 : Int)))) else pkC (Q r)) true (33 : Nat)))] else False else False) := by kernel_rfl
theorem p9d5 (e : Nat → Int) (i k : Nat) (Q : Nat → Pk) (Kt : KT) : evalC C28 0 0 d9_5 (tplF 166 L9q (v9q (.int .i64 i) (.int .i64 k))) ([eO e, lO 4 Q].map mkB) ( obsN L9q [false, false] Kt) = ( bif decide ((↑k : Int) < (15 : Int)) then bif decide ((0 : Nat) + (↑k : Int).toNat < (15 : Nat)) && true then IsPs (Blk.mk (6 : Nat) (4 : Nat) (fun r => [SV.int IntKind.i64 (Q r).n, SV.int IntKind.i64 (Q r).a, SV.int IntKind.i64 (Q r).z, SV.bool (Q r).b, SV.bool (Q r).c, SV.bool (Q r).d]) true (33 : Nat)) (4 : Nat) ∧ Nat.le (1 : Nat) (4 : Nat) ∧ Kt Ex.normal (166 : Nat) [SV.slice (0 : Nat) (0 : Nat) (1 : Nat) (15 : Nat), SV.int IntKind.i64 (↑i : Int), SV.int IntKind.i64 (↑k : Int), SV.slice (1 : Nat) (0 : Nat) (6 : Nat) (4 : Nat)] [BO.raw (some (Blk.mk (1 : Nat) (15 : Nat) (fun r => [SV.int IntKind.i64 (e r)]) true (3 : Nat))), BO.raw (some (Blk.mk (6 : Nat) (4 : Nat) (fun r => [SV.int IntKind.i64 (Q r).n, SV.int IntKind.i64 (Q r).a, SV.int IntKind.i64 (Q r).z, SV.bool (Q r).b, SV.bool (Q r).c, SV.bool (Q r).d]) true (33 : Nat)))] else False else False) := by kernel_rfl
theorem p9d6 (e : Nat → Int) (i k : Nat) (Kt : KT) : evalC C28 0 0 d9_6 (tplF 166 L9 (v9 (.int .i64 i) (.int .i64 k))) ([eO e].map mkB) ( obsN L9q [false, false] Kt) = ( Kt Ex.normal (166 : Nat) [SV.slice (0 : Nat) (0 : Nat) (1 : Nat) (15 : Nat), SV.int IntKind.i64 (↑i : Int), SV.int IntKind.i64 (↑k : Int), SV.slice (1 : Nat) (0 : Nat) (6 : Nat) (4 : Nat)] [BO.raw (some (Blk.mk (1 : Nat) (15 : Nat) (fun r => [SV.int IntKind.i64 (e r)]) true (3 : Nat))), BO.raw (some (Blk.mk (6 : Nat) (4 : Nat) (fun r => [SV.int IntKind.i64 (four r).n, SV.int IntKind.i64 (four r).a, SV.int IntKind.i64 (four r).z, SV.bool (four r).b, SV.bool (four r).c, SV.bool (four r).d]) true (33 : Nat)))]) := by kernel_rfl
theorem p9d7 (e : Nat → Int) (i k : Nat) (Q : Nat → Pk) (Kt : KT) : evalC C28 0 0 d9_7 (tplF 166 L9q (v9q (.int .i64 i) (.int .i64 k))) ([eO e, lO 4 Q].map mkB) ( obsN L9q [false, false] Kt) = ( bif decide ((↑i : Int) < (15 : Int)) then bif decide ((0 : Nat) + (↑i : Int).toNat < (15 : Nat)) && true then Kt Ex.normal (166 : Nat) [SV.slice (0 : Nat) (0 : Nat) (1 : Nat) (15 : Nat), SV.int IntKind.i64 (↑i : Int), SV.int IntKind.i64 (↑k : Int), SV.slice (1 : Nat) (0 : Nat) (6 : Nat) (4 : Nat)] [BO.raw (some (Blk.mk (1 : Nat) (15 : Nat) (fun r => [SV.int IntKind.i64 (e r)]) true (3 : Nat))), BO.raw (some (Blk.mk (6 : Nat) (4 : Nat) (fun r => bif r.beq ((0 : Nat) + Int.toNat (2 : Int)) then pkC (setZ (e ((0 : Nat) + (↑i : Int).toNat)) (Q ((0 : Nat) + Int.toNat (2 : Int)))) else pkC (Q r)) true (33 : Nat)))] else False else False) := by kernel_rfl
theorem p9d8 (e : Nat → Int) (i k : Nat) (Q : Nat → Pk) (Kt : KT) : evalC C28 0 0 d9_8 (tplF 166 L9q (v9q (.int .i64 i) (.int .i64 k))) ([eO e, lO 4 Q].map mkB) ( obsN L9 [false] Kt) = ( bif decide ((↑k : Int) < (15 : Int)) then bif decide ((0 : Nat) + (↑k : Int).toNat < (15 : Nat)) && true then IsPs (Blk.mk (6 : Nat) (4 : Nat) (fun r => [SV.int IntKind.i64 (Q r).n, SV.int IntKind.i64 (Q r).a, SV.int IntKind.i64 (Q r).z, SV.bool (Q r).b, SV.bool (Q r).c, SV.bool (Q r).d]) true (33 : Nat)) (4 : Nat) ∧ Nat.le (1 : Nat) (4 : Nat) ∧ bif decide ((↑i : Int) < (15 : Int)) then bif decide ((0 : Nat) + (↑i : Int).toNat < (15 : Nat)) && true then bif decide ((↑k : Int) < (15 : Int)) then bif decide ((0 : Nat) + (↑k : Int).toNat < (15 : Nat)) && true then bif decide ((↑i : Int) < (15 : Int)) then bif decide ((0 : Nat) + (↑i : Int).toNat < (15 : Nat)) && true then bif decide ((↑k : Int) < (15 : Int)) then bif decide ((0 : Nat) + (↑k : Int).toNat < (15 : Nat)) && true then bif decide ((↑i : Int) < (15 : Int)) then bif decide ((0 : Nat) + (↑i : Int).toNat < (15 : Nat)) && true then bif decide ((↑k : Int) < (15 : Int)) then bif decide ((0 : Nat) + (↑k : Int).toNat < (15 : Nat)) && true then IsPs (Blk.mk (6 : Nat) (4 : Nat) (fun r => [SV.int IntKind.i64 (Q r).n, SV.int IntKind.i64 (Q r).a, SV.int IntKind.i64 (Q r).z, SV.bool (Q r).b, SV.bool (Q r).c, SV.bool (Q r).d]) true (33 : Nat)) (2 : Nat) ∧ Nat.le (1 : Nat) (2 : Nat) ∧ Kt Ex.normal (166 : Nat) [SV.slice (0 : Nat) (0 : Nat) (1 : Nat) (15 : Nat), SV.int IntKind.i64 (↑i : Int), SV.int IntKind.i64 (↑k : Int)] [BO.raw (some (Blk.mk (1 : Nat) (15 : Nat) (fun r => [SV.int IntKind.i64 (e r)]) true (3 : Nat)))] else False else False else False else False else False else False else False else False else False else False else False else False else False else False) := by kernel_rfl
theorem p9d9 (e : Nat → Int) (i k : Nat) (Kt : KT) : evalC C28 0 0 d9_9 (tplF 166 L9 (v9 (.int .i64 i) (.int .i64 k))) ([eO e].map mkB) ( obsN L9 [false] Kt) = ( Kt Ex.normal (166 : Nat) [SV.slice (0 : Nat) (0 : Nat) (1 : Nat) (15 : Nat), SV.int IntKind.i64 (↑i : Int), SV.int IntKind.i64 (IntKind.i64.wrap ((↑k : Int) + (1 : Int)))] [BO.raw (some (Blk.mk (1 : Nat) (15 : Nat) (fun r => [SV.int IntKind.i64 (e r)]) true (3 : Nat)))]) := by kernel_rfl
theorem p9e (e : Nat → Int) (i : Nat) (Kt : KT) : evalC C28 0 0 c9_6 (tplF 166 L9a (v9a (.int .i64 i))) ([eO e].map mkB) ( obsN L9a [false] Kt) = ( Kt Ex.normal (166 : Nat) [SV.slice (0 : Nat) (0 : Nat) (1 : Nat) (15 : Nat), SV.int IntKind.i64 (IntKind.i64.wrap ((↑i : Int) + (1 : Int)))] [BO.raw (some (Blk.mk (1 : Nat) (15 : Nat) (fun r => [SV.int IntKind.i64 (e r)]) true (3 : Nat)))]) := by kernel_rfl
theorem p9f (Kt : KT) : evalC C28 0 0 c9_7 (tplF 166 [] []) [] ( obsN L9m [] Kt) = ( Kt Ex.normal (166 : Nat) [SV.nilSlice] []) := by kernel_rfl
theorem p9g (Kt : KT) : evalC C28 0 0 c9_8 (tplF 166 L9m [.nilSlice]) [] ( obsN L9n [] Kt) = ( Kt Ex.normal (166 : Nat) [SV.nilSlice, SV.int IntKind.i64 (0 : Int)] []) := by kernel_rfl
theorem p9hn (i : Nat) (Kt : KT) : evalC C28 0 0 c9_9 (tplF 166 L9n [.nilSlice, .int .i64 i]) [] ( obsN L9n M9n Kt) = ( bif decide ((↑i : Int) < (257 : Int)) then Kt Ex.normal (166 : Nat) [SV.slice (1 : Nat) (0 : Nat) (6 : Nat) (1 : Nat), SV.int IntKind.i64 (IntKind.i64.wrap ((↑i : Int) + (1 : Int)))] [BO.rows (6 : Nat) (1 : Nat) true (33 : Nat) [[SV.int IntKind.i64 (↑i : Int), SV.int IntKind.i64 (0 : Int), SV.int IntKind.i64 (1 : Int), SV.bool false, SV.bool false, SV.bool false]], BO.rows (6 : Nat) (1 : Nat) true (33 : Nat) [[SV.int IntKind.i64 (↑i : Int), SV.int IntKind.i64 (0 : Int), SV.int IntKind.i64 (1 : Int), SV.bool false, SV.bool false, SV.bool false]]] else Kt (Ex.exit (4 : Nat)) (166 : Nat) [SV.nilSlice, SV.int IntKind.i64 (↑i : Int)] [BO.raw none, BO.raw none]) := by kernel_rfl
theorem p9hs (i a : Nat) (P : Nat → Pk) (Kt : KT) : evalC C28 0 0 c9_9 (tplF 166 L9n [.slice 0 0 6 (a + 1), .int .i64 i]) ([lO (a + 1) P].map mkB) ( obsN L9n M9s Kt) = ( bif decide ((↑i : Int) < (257 : Int)) then bif decide (a + (1 : Nat) + (1 : Nat) ≤ (9223372036854775807 : Nat)) && decide ((a + (1 : Nat) + (1 : Nat)) * (32 : Nat) ≤ (140737488355328 : Nat)) && true && true && true && true && decide (a + (1 : Nat) = a + (1 : Nat)) && true then Kt Ex.normal (166 : Nat) [SV.slice (2 : Nat) (0 : Nat) (6 : Nat) (a + (1 : Nat) + (1 : Nat)), SV.int IntKind.i64 (IntKind.i64.wrap ((↑i : Int) + (1 : Int)))] [BO.raw none, BO.rows (6 : Nat) (1 : Nat) true (33 : Nat) [[SV.int IntKind.i64 (↑i : Int), SV.int IntKind.i64 (0 : Int), SV.int IntKind.i64 (1 : Int), SV.bool false, SV.bool false, SV.bool false]], BO.raw (some (Blk.mk (6 : Nat) (a + (1 : Nat) + (1 : Nat)) (fun r => bif decide (r < a + (1 : Nat)) then (bPw (a + (1 : Nat)) P).rd r else (fun i_1 => (Blk.mk C28.P.types[(33 : Nat)].size (1 : Nat) (fun r => bif r.beq (0 : Nat) then [SV.int IntKind.i64 (↑i : Int), SV.int IntKind.i64 (0 : Int), SV.int IntKind.i64 (1 : Int), SV.bool false, SV.bool false, SV.bool false] else (fun r => List.take C28.P.types[(33 : Nat)].size (List.drop (r * C28.P.types[(33 : Nat)].size) [SV.int IntKind.i64 (↑i : Int), SV.int IntKind.i64 (0 : Int), SV.int IntKind.i64 (1 : Int), SV.bool false, SV.bool false, SV.bool false])) r) true (33 : Nat)).rd ((0 : Nat) + i_1)) (r - (a + (1 : Nat)))) true (33 : Nat)))] else False else Kt (Ex.exit (4 : Nat)) (166 : Nat) [SV.slice (0 : Nat) (0 : Nat) (6 : Nat) (a + (1 : Nat)), SV.int IntKind.i64 (↑i : Int)] [BO.raw (some (Blk.mk (6 : Nat) (a + (1 : Nat)) (fun r => [SV.int IntKind.i64 (P r).n, SV.int IntKind.i64 (P r).a, SV.int IntKind.i64 (P r).z, SV.bool (P r).b, SV.bool (P r).c, SV.bool (P r).d]) true (33 : Nat))), BO.raw none, BO.raw none]) := by kernel_rfl
theorem p9i (n : Nat) (P : Nat → Pk) (Kt : KT) : evalC C28 0 0 (.seq c9_11 (.seq c9_12 .skip)) (tplF 166 L9m [.slice 0 0 6 (n + 1)]) ([lO (n + 1) P].map mkB) ( obsN L9z [false] Kt) = ( IsP (Blk.mk (6 : Nat) (1 : Nat) (fun r => bif r.beq (0 : Nat) then [SV.int IntKind.i64 (9007199254740991 : Int), SV.int IntKind.i64 (9007199254740991 : Int), SV.int IntKind.i64 (1 : Int), SV.bool false, SV.bool false, SV.bool false] else (fun r => List.take C28.P.types[(33 : Nat)].size (List.drop (r * C28.P.types[(33 : Nat)].size) [SV.int IntKind.i64 (9007199254740991 : Int), SV.int IntKind.i64 (9007199254740991 : Int), SV.int IntKind.i64 (1 : Int), SV.bool false, SV.bool false, SV.bool false])) r) true (33 : Nat)) (1 : Nat) ∧ Nat.le (1 : Nat) (1 : Nat) ∧ ∀ (P_1 : Nat → Pk), (P_1 = fun r => rowP ((Blk.mk C28.P.types[(33 : Nat)].size (1 : Nat) (fun r => bif r.beq (0 : Nat) then [SV.int IntKind.i64 (9007199254740991 : Int), SV.int IntKind.i64 (9007199254740991 : Int), SV.int IntKind.i64 (1 : Int), SV.bool false, SV.bool false, SV.bool false] else (fun r => List.take C28.P.types[(33 : Nat)].size (List.drop (r * C28.P.types[(33 : Nat)].size) [SV.int IntKind.i64 (9007199254740991 : Int), SV.int IntKind.i64 (9007199254740991 : Int), SV.int IntKind.i64 (1 : Int), SV.bool false, SV.bool false, SV.bool false])) r) true (33 : Nat)).rd r)) → ∀ (g' t' w : Int), g' = (9007199254740991 : Int) → t' = (9007199254740991 : Int) → w = (9000000 : Int) → Late (1 : Nat) P_1 g' t' (8000000 : Int) (1 : Int) (800 : Int) (0 : Int) (0 : Int) ∧ ∀ (tm : Int), tm = tmV g' t' w P_1 (1 : Nat) → (∀ (a : Nat) (PL : Nat → Pk), Pick (lostB g' t' w P_1) P_1 (1 : Nat) a PL → cntS (restB g' t' w P_1) (1 : Nat) = (0 : Nat) → bif (a + (1 : Nat)).beq (1 : Nat) then Kt Ex.normal (166 : Nat) [SV.slice (0 : Nat) (0 : Nat) (6 : Nat) (n + (1 : Nat)), SV.int IntKind.i64 tm, SV.int IntKind.i64 (0 : Int)] [BO.raw (some (Blk.mk (6 : Nat) (n + (1 : Nat)) (fun r => [SV.int IntKind.i64 (P r).n, SV.int IntKind.i64 (P r).a, SV.int IntKind.i64 (P r).z, SV.bool (P r).b, SV.bool (P r).c, SV.bool (P r).d]) true (33 : Nat)))] else Kt Ex.normal (166 : Nat) [SV.slice (0 : Nat) (0 : Nat) (6 : Nat) (n + (1 : Nat)), SV.int IntKind.i64 tm, SV.int IntKind.i64 (0 : Int)] [BO.raw (some (Blk.mk (6 : Nat) (n + (1 : Nat)) (fun r => [SV.int IntKind.i64 (P r).n, SV.int IntKind.i64 (P r).a, SV.int IntKind.i64 (P r).z, SV.bool (P r).b, SV.bool (P r).c, SV.bool (P r).d]) true (33 : Nat)))]) ∧ (∀ (b : Nat) (PR : Nat → Pk), cntS (lostB g' t' w P_1) (1 : Nat) = (0 : Nat) → Pick (restB g' t' w P_1) P_1 (1 : Nat) b PR → bif (b + (1 : Nat)).beq (1 : Nat) then Kt Ex.normal (166 : Nat) [SV.slice (0 : Nat) (0 : Nat) (6 : Nat) (n + (1 : Nat)), SV.int IntKind.i64 tm, SV.int IntKind.i64 (0 : Int)] [BO.raw (some (Blk.mk (6 : Nat) (n + (1 : Nat)) (fun r => [SV.int IntKind.i64 (P r).n, SV.int IntKind.i64 (P r).a, SV.int IntKind.i64 (P r).z, SV.bool (P r).b, SV.bool (P r).c, SV.bool (P r).d]) true (33 : Nat)))] else Kt Ex.normal (166 : Nat) [SV.slice (0 : Nat) (0 : Nat) (6 : Nat) (n + (1 : Nat)), SV.int IntKind.i64 tm, SV.int IntKind.i64 (0 : Int)] [BO.raw (some (Blk.mk (6 : Nat) (n + (1 : Nat)) (fun r => [SV.int IntKind.i64 (P r).n, SV.int IntKind.i64 (P r).a, SV.int IntKind.i64 (P r).z, SV.bool (P r).b, SV.bool (P r).c, SV.bool (P r).d]) true (33 : Nat)))]) ∧ ∀ (a : Nat) (PL : Nat → Pk) (b : Nat) (PR : Nat → Pk), Pick (lostB g' t' w P_1) P_1 (1 : Nat) a PL → Pick (restB g' t' w P_1) P_1 (1 : Nat) b PR → bif (a + (1 : Nat)).beq (1 : Nat) then bif (b + (1 : Nat)).beq (1 : Nat) then Kt Ex.normal (166 : Nat) [SV.slice (0 : Nat) (0 : Nat) (6 : Nat) (n + (1 : Nat)), SV.int IntKind.i64 tm, SV.int IntKind.i64 (0 : Int)] [BO.raw (some (Blk.mk (6 : Nat) (n + (1 : Nat)) (fun r => [SV.int IntKind.i64 (P r).n, SV.int IntKind.i64 (P r).a, SV.int IntKind.i64 (P r).z, SV.bool (P r).b, SV.bool (P r).c, SV.bool (P r).d]) true (33 : Nat)))] else Kt Ex.normal (166 : Nat) [SV.slice (0 : Nat) (0 : Nat) (6 : Nat) (n + (1 : Nat)), SV.int IntKind.i64 tm, SV.int IntKind.i64 (0 : Int)] [BO.raw (some (Blk.mk (6 : Nat) (n + (1 : Nat)) (fun r => [SV.int IntKind.i64 (P r).n, SV.int IntKind.i64 (P r).a, SV.int IntKind.i64 (P r).z, SV.bool (P r).b, SV.bool (P r).c, SV.bool (P r).d]) true (33 : Nat)))] else bif (b + (1 : Nat)).beq (1 : Nat) then Kt Ex.normal (166 : Nat) [SV.slice (0 : Nat) (0 : Nat) (6 : Nat) (n + (1 : Nat)), SV.int IntKind.i64 tm, SV.int IntKind.i64 (0 : Int)] [BO.raw (some (Blk.mk (6 : Nat) (n + (1 : Nat)) (fun r => [SV.int IntKind.i64 (P r).n, SV.int IntKind.i64 (P r).a, SV.int IntKind.i64 (P r).z, SV.bool (P r).b, SV.bool (P r).c, SV.bool (P r).d]) true (33 : Nat)))] else Kt Ex.normal (166 : Nat) [SV.slice (0 : Nat) (0 : Nat) (6 : Nat) (n + (1 : Nat)), SV.int IntKind.i64 tm, SV.int IntKind.i64 (0 : Int)] [BO.raw (some (Blk.mk (6 : Nat) (n + (1 : Nat)) (fun r => [SV.int IntKind.i64 (P r).n, SV.int IntKind.i64 (P r).a, SV.int IntKind.i64 (P r).z, SV.bool (P r).b, SV.bool (P r).c, SV.bool (P r).d]) true (33 : Nat)))]) := by kernel_rfl
theorem p9j (n : Nat) (P : Nat → Pk) (x y : Int) (kk : SV → Prop) : evalC C28 0 0 c9_13 (tplF 166 L9z [.slice 0 0 6 (n + 1), .int .i64 x, .int .i64 y]) ([lO (n + 1) P].map mkB) ( endK Try.prog Try.f9.results.toList (fun v _ => kk v)) = ( IsP (Blk.mk (6 : Nat) (n + (1 : Nat)) (fun r => [SV.int IntKind.i64 (P r).n, SV.int IntKind.i64 (P r).a, SV.int IntKind.i64 (P r).z, SV.bool (P r).b, SV.bool (P r).c, SV.bool (P r).d]) true (33 : Nat)) ((0 : Nat) + (n + (1 : Nat))) ∧ bif chkP (fun r => rowP ((bPw (n + (1 : Nat)) P).rd ((0 : Nat) + r))) (n + (1 : Nat)) == (2 : Int) then bif decide ((1 : Int) ≤ (↑(n + (1 : Nat)) : Int)) && decide ((↑(n + (1 : Nat)) : Int) ≤ (↑(n + (1 : Nat)) : Int)) then bif decide ((1 : Int) < (↑(n + (1 : Nat)) : Int)) then IsP (Blk.mk (6 : Nat) (n + (1 : Nat)) (fun r => [SV.int IntKind.i64 (P r).n, SV.int IntKind.i64 (P r).a, SV.int IntKind.i64 (P r).z, SV.bool (P r).b, SV.bool (P r).c, SV.bool (P r).d]) true (33 : Nat)) ((1 : Nat) + ((↑(n + (1 : Nat)) : Int).toNat - (1 : Nat))) ∧ bif chkP (fun r => rowP ((bPw (n + (1 : Nat)) P).rd ((0 : Nat) + Int.toNat (1 : Int) + r))) ((↑(n + (1 : Nat)) : Int).toNat - (1 : Nat)) == (0 : Int) then bif x == (9007199254740991 : Int) then kk (SV.bool (y == (0 : Int))) else kk (SV.bool false) else kk (SV.bool false) else bif x == (9007199254740991 : Int) then kk (SV.bool (y == (0 : Int))) else kk (SV.bool false) else False else kk (SV.bool false)) := by kernel_rfl
end Go.Proofs.Ytcjfmkkfcbelpaa
namespace Go.Proofs.Ytcjfmkkfcbelpaa
open Go.RowKit
set_option linter.unusedVariables false
/-- A function that reads one list alone, over a list that begins at a later row. -/
theorem CSim.view {P : Program} {f : FuncId} {id r0 n : Nat} {h : Heap} {b B : Blk} {v : SV} (hcall : ∀ vs w, (callFunc f vs).run P w = .ok (.enter f vs) w) (hcan : Canon P f [.slice 0 0 b.sz n] [some B] fun v' _ => v' = v) (hrw : B.rw = false) (hb : h id = some b) (hsz : B.sz = b.sz) (hn : r0 + B.n ≤ b.n)
    (hrd : ∀ r, r < B.n → B.rd r = b.rd (r0 + r) ∧ svIdsL (B.rd r) = []) (hv : ren (fun _ => none) v = some v) (base : Nat) : CSim P f [.slice id r0 b.sz n] h base v [] [] := by
  refine ⟨hcall, fun g φ w vs hr has hf hm0 => ?_⟩
  simp only [RL] at has
  obtain ⟨x, xs, rfl, hx, rfl⟩ := has
  simp only [R] at hx
  obtain ⟨l, e1, e2, rfl⟩ := hx
  obtain ⟨l', p1, p2⟩ := hr.blk id b hb
  obtain rfl : l' = l := Option.some.inj (p1.symm.trans e1)
  let φ2 : Phi := fun i => match i with | 0 => some ⟨l'.blk, l'.off + r0 * b.sz, l'.cap - r0⟩ | _ + 1 => none
  have hB : BAt φ2 ⟨l'.blk, l'.off + r0 * b.sz, l'.cap - r0⟩ B w := by
    obtain ⟨cells, ty, fz, q1, q2, q3⟩ := p2
    refine ⟨cells, ty, fz, q1, fun h => (by rw [hrw] at h; cases h), fun r hr => ?_⟩
    obtain ⟨s1, s2⟩ := q3 (r0 + r) (by omega)
    obtain ⟨t1, t2⟩ := hrd r hr
    rw [← t1] at s1 s2
    rw [hsz]
    refine ⟨?_, s2⟩
    have s3 := (WL_self t2 (fun _ => none)).via s1
    rw [Nat.add_mul, ← Nat.add_assoc] at s3
    exact s3.mono fun i l e => by simp [Phi.via] at e
  have hno : ∀ i b1, hget [some B] i = some b1 → b1.rw = true → False := fun i b1 e h => by
    match i, e with
    | 0, e =>
      obtain rfl := Option.some.inj (show some B = some b1 from e)
      rw [hrw] at h
      cases h
    | i + 1, e => exact nomatch (show (none : Option Blk) = some b1 from e)
  have hr1 : HRep (liftG φ2 (hget [some B]) w 1) φ2 (hget [some B]) w := by
    refine ⟨fun i b1 e => ?_, fun i j bi bj li lj hi hj hne h => (hno i bi hi h).elim, fun i b1 l e h => (hno i b1 e h).elim, rfl, rfl, rfl, Nat.le_refl _, fun _ _ _ => rfl, fun _ _ => rfl⟩
    match i, e with
    | 0, e =>
      obtain rfl := Option.some.inj (show some B = some b1 from e)
      exact ⟨_, rfl, hB⟩
    | i + 1, e => exact nomatch (show (none : Option Blk) = some b1 from e)
  have ha : RL φ2 [.slice 0 0 b.sz n] [.slice (some ⟨l'.blk, l'.off + r0 * b.sz, none⟩) n (l'.cap - r0)] := by
    refine RL.cons ?_ RL.nil
    simp only [R]
    exact ⟨_, rfl, (by show 0 + n ≤ l'.cap - r0; omega), by simp⟩
  refine (hcan φ2 w _ hr1 ha fun i hi => ?_).mono ?_
  · match i, hi with
    | i + 1, _ => rfl
  · rintro e w' ⟨u, φ', v', hp', rfl, rfl, q3, q4⟩
    have hsame : ∀ k, k < w.heap.size → w'.heap[k]? = w.heap[k]? := fun k hk => q4.old k hk (by rintro ⟨i, b1, l, e1, e2, _⟩; exact hno i b1 e1 e2)
    have hv' := (R.via hv q3).mono (ψ := φ) (fun i l e => by simp [Phi.via] at e)
    refine ⟨u, φ, rfl, Phi.le_refl φ, fun _ => .inl rfl, hv', ?_⟩
    rw [updH_nil]
    refine ⟨fun i b1 e => ?_, hr.sep, hr.own, q4.os.trans hr.os, q4.tape.trans hr.tape, q4.output.trans hr.output, Nat.le_trans hr.size q4.size, fun i hi hS => (hsame i (Nat.lt_of_lt_of_le hi hr.size)).trans (hr.old i hi hS), hr.ids⟩
    obtain ⟨l, p1, p2⟩ := hr.blk i b1 e
    exact ⟨l, p1, p2.same (hsame l.blk p2.lt)⟩
section
attribute [local irreducible] evalC
set_option maxRecDepth 100000
theorem canon14 (n : Nat) (P : Nat → Pk) (hn : n ≤ 100000) : Canon Try.prog 14 [.slice 0 0 6 n] [some (bP n P)] fun v _ => v = .int .i64 (chkP P n) := by
  refine evalF_ok (C := C8) ec gs8 mixed (u := 64) Try.func14 (by kernel_rfl) ?_
  show evalF C8 64 Try.f14 _ [some (bP n P)] _
  rw [t14s n P (fun v => v = _)]
  unfold chkP
  refine condSplit (fun q => ?_) fun q => ?_
  · rw [show decide (256 < n) = true from cb (by have := of_decide_eq_true q; omega)]
    rfl
  · rw [show decide (256 < n) = false from cf (by have := of_decide_eq_false q; omega)]
    refine ⟨isP_bP P hn, condSplit (fun q1 => ?_) fun q1 => ?_⟩
    · rw [show anyBad (-1) P n = true from q1]; rfl
    · rw [show anyBad (-1) P n = false from q1]; rfl
theorem ok14o : SpecOK Try.prog 14 s14o := by
  intro args h base k hk
  unfold s14o at hk
  split at hk
  · rename_i v
    obtain ⟨Q, m, lm, hk⟩ := lpO_ok hk
    rcases lm with ⟨he, rfl, rfl⟩ | ⟨id, r0, bl, rfl, g1, g2, rfl⟩
    · refine ok14 [v] h base k ?_
      unfold s14
      rcases he with rfl | rfl <;> exact hk
    · have hs : bl.sz = 6 := g2.sz
      have hv := CSim.view (f := 14) (B := bP m fun r => rowP (bl.rd (r0 + r))) (n := m) (r0 := r0) (v := .int .i64 (chkP (fun r => rowP (bl.rd (r0 + r))) m)) (cal (f := 14) Try.func14 (by kernel_rfl) (by kernel_rfl)) (by rw [hs]; exact canon14 m _ (by have := g2.sm; omega)) rfl g1 hs.symm g2.le (fun r hr => ?_) rfl base
      · rw [hs] at hv
        exact ⟨_, [], [], hk, hv⟩
      · obtain ⟨p, e⟩ := g2.rd (r0 + r) (by have hr : r < m := hr; omega)
        refine ⟨?_, rfl⟩
        show pkC (rowP (bl.rd (r0 + r))) = bl.rd (r0 + r)
        rw [e, rowP_pkC]
  · cases hk
theorem ok3 : SpecOK Try.prog 3 s3 := by
  intro args h base k hk
  unfold s3 at hk
  split at hk
  · rename_i id n g t l m s v f
    split at hk
    · rename_i bl hb
      obtain ⟨hP, hn, hk⟩ := hk
      refine ⟨_, [], [], hk, CSim.reads (cal (f := 3) Try.func3 (by kernel_rfl) (by kernel_rfl)) [.slice 0 0 6 n, .agg [.int .i64 g, .int .i64 t], .agg [.int .i64 l, .int .i64 m, .int .i64 s, .int .i64 v, .int .i64 f]] [some (bP n fun r => rowP (bl.rd r))] [id] rfl (canon3 n _ g t l m s v f hn) rfl (fun i b1 e => ?_) rfl base⟩
      match i, e with
      | 0, e =>
        obtain rfl := Option.some.inj (show some (bP n fun r => rowP (bl.rd r)) = some b1 from e)
        exact ⟨rfl, id, bl, rfl, hb, hP.wb _⟩
      | i + 1, e => exact nomatch (show (none : Option Blk) = some b1 from e)
    · cases hk
  · cases hk
theorem ok4 : SpecOK Try.prog 4 s4 := by
  intro args h base k hk
  unfold s4 at hk
  split at hk
  · rename_i l m s v f
    exact ⟨_, [], [], hk, CSim.reads (cal (f := 4) Try.func4 (by kernel_rfl) (by kernel_rfl)) [.agg [.int .i64 l, .int .i64 m, .int .i64 s, .int .i64 v, .int .i64 f]] [] [] rfl (canon4 l m s v f) rfl (fun i b1 e => by simp [hget] at e) rfl base⟩
  · cases hk
theorem gs28 : GSound C28 := ((gs18.add ok3).add ok4).add ok14o
end
end Go.Proofs.Ytcjfmkkfcbelpaa
namespace Go.Proofs.Ytcjfmkkfcbelpaa
open Go.RowKit
set_option linter.unusedVariables false
def ends9 (r : Nat) : Int := [(-9223372036854775808 : Int), -2, -1, 0, 1, 2, 3, 4, 5, 6, 65535, 65536, 9007199254740991, 9007199254740992, 9223372036854775807].getD r 0
theorem wb_eB {ρ : Ren} {e : Nat → Int} : WB ρ (eB e) (eB e) := WB.of_rows rfl (Nat.le_refl _) (fun h => h) (fun _ => rfl) fun _ _ => ⟨rfl, rfl⟩
theorem wkE9 {fr : List SV} {hp : LHeap} {e : Nat → Int} (h0 : hget hp 0 = some (eB e)) (hv : ltAll 1 (svIdsL fr) = true) : Weak 0 fr hp fr ([eO e].map mkB) := by
  refine heap_weak (m := 1) rfl (by decide) hv fun id b1 hb1 => ?_
  match id, hb1 with
  | 0, hb1 =>
    obtain rfl := Option.some.inj (show some (eB e) = some b1 from hb1)
    exact ⟨_, h0, wb_eB⟩
  | id + 1, hb1 => exact nomatch (show (none : Option Blk) = some b1 from hb1)
theorem wkQ9 {fr : List SV} {hp : LHeap} {e : Nat → Int} {Q : Nat → Pk} {A : Blk} (h0 : hget hp 0 = some (eB e)) (h1 : hget hp 1 = some A) (hA : IsL A Q 4) (hv : ltAll 2 (svIdsL fr) = true) : Weak 0 fr hp fr ([eO e, lO 4 Q].map mkB) := by
  refine heap_weak (m := 2) rfl (by decide) hv fun id b1 hb1 => ?_
  match id, hb1 with
  | 0, hb1 =>
    obtain rfl := Option.some.inj (show some (eB e) = some b1 from hb1)
    exact ⟨_, h0, wb_eB⟩
  | 1, hb1 =>
    obtain rfl := Option.some.inj (show some (bPw 4 Q) = some b1 from hb1)
    exact ⟨_, h1, hA.wb _⟩
  | id + 2, hb1 => exact nomatch (show (none : Option Blk) = some b1 from hb1)
theorem isL_set {Q : Nat → Pk} {j n : Nat} {f : Pk → Pk} : IsL ⟨6, n, fun r => bif r.beq j then pkC (f (Q j)) else pkC (Q r), true, 33⟩ (fun r => bif r.beq j then f (Q j) else Q r) n :=
  ⟨rfl, rfl, rfl, rfl, fun r _ => by
    show (bif r.beq j then pkC (f (Q j)) else pkC (Q r)) = pkC (bif r.beq j then f (Q j) else Q r)
    cases r.beq j <;> rfl⟩
theorem isPs_w {Q : Nat → Pk} {n m : Nat} (h : m ≤ n) : IsPs (bPw n Q) m := ⟨rfl, h, fun r _ => ⟨Q r, rfl⟩⟩
abbrev F9k (i : Nat) (k : SV) : List SV := tplF 166 L9 (v9 (ni i) k)
abbrev F9i (i : SV) : List SV := tplF 166 L9a (v9a i)
abbrev F9q (i k : Nat) : List SV := tplF 166 L9q (v9q (ni i) (ni k))
abbrev H9e (e : Nat → Int) : LHeap := [eO e].map mkB
abbrev H9q (e : Nat → Int) (Q : Nat → Pk) : LHeap := [eO e, lO 4 Q].map mkB
theorem dropK (i : Nat) : F9k i .top = F9i (ni i) := by kernel_rfl
theorem dropQ (i k : Nat) : tplF 166 L9q [.slice 0 0 1 15, ni i, ni k, .top] = F9k i (ni k) := by kernel_rfl
section
attribute [local irreducible] evalC
set_option maxRecDepth 100000
set_option maxHeartbeats 2000000
theorem ix9 {i : Nat} (h : i < 15) : decide ((i : Int) < 15) = true ∧ (decide (0 + ((i : Nat) : Int).toNat < 15) && true) = true := by
  refine ⟨cb (by omega), ?_⟩
  rw [Bool.and_true]
  exact cb (by show 0 + i < 15; omega)
theorem ids9 {e : Nat → Int} : allIds 1 [eO e] := ⟨fun _ _ => rfl, trivial⟩
theorem ids9q {e : Nat → Int} {Q : Nat → Pk} : allIds 2 [eO e, lO 4 Q] := ⟨fun _ _ => rfl, fun _ _ => rfl, trivial⟩
/-- A part that writes one packet of the list. -/
theorem write9 {c : Code} {e : Nat → Int} {i k : Nat} {Q : Nat → Pk} {K : KC} (h : evalC C28 0 0 c (F9q i k) (H9q e Q) (obsN L9q [false, false] (seen 166 2 fun x vals B => x = .normal ∧ ∃ Q', Weak 0 (tplF 166 L9q vals) (B.map mkB) (F9q i k) (H9q e Q')))) (hK : ∀ Q', K .normal (F9q i k) (H9q e Q')) :
    CodeOK Try.prog 0 c (F9q i k) (H9q e Q) K := by
  refine ((CodeOK.lookN (C := C28) ec gs28 mixed (u := 0) (len := 166) (L := L9q) (M := [false, false]) (Nat.zero_le _) h).monoW (K' := K) ?_)
  rintro x fr hp ⟨vals, B, rfl, rfl, rfl, Q', hw⟩
  exact ⟨_, _, hw, hK Q'⟩
theorem body9 (e : Nat → Int) (i k : Nat) (hi : i < 15) (hk : k < 15) {K : KC} (hK : K .normal (F9k i (ni k)) (H9e e)) : CodeOK Try.prog 0 (.seq d9_1 (.seq d9_2 (.seq d9_3 (.seq d9_4 (.seq d9_5 (.seq d9_6 (.seq d9_7 d9_8))))))) (F9k i (ni k)) (H9e e) K := by
  obtain ⟨a1, a2⟩ := ix9 hi
  obtain ⟨b1, b2⟩ := ix9 hk
  refine CodeOK.seq (CodeOK.at (C := C28) ec gs28 mixed (u := 0) (len := 166) (L := L9q) (M := [false, false]) (vals := v9q (ni i) (ni k)) (B := [eO e, lO 4 four]) (Nat.zero_le _) .normal ?_ ?_)
  · rw [p9d1 e i k]
    exact ⟨rfl, rfl, ids9q, rfl, rfl, rfl⟩
  refine CodeOK.seq (CodeOK.at (C := C28) ec gs28 mixed (u := 0) (len := 166) (L := L9q) (M := [false, false]) (vals := v9q (ni i) (ni k)) (B := [eO e, lO 4 four]) (Nat.zero_le _) .normal ?_ ?_)
  · rw [p9d2 e i k four]
    exact condT' a1 (condT' a2 (condT' b1 (condT' b2 ⟨isPs_w (Nat.le_refl _), Nat.succ_le_succ (Nat.zero_le _), rfl, rfl, ids9q, rfl, rfl, rfl⟩)))
  refine CodeOK.seq (write9 ?_ fun Q1 => ?_)
  · rw [p9d3 e i k four]
    exact condT' a1 (condT' a2 ⟨rfl, rfl, ⟨fun _ _ => rfl, isL_set.ids, trivial⟩, rfl, _, wkQ9 rfl rfl isL_set (by kernel_rfl)⟩)
  refine CodeOK.seq (write9 ?_ fun Q2 => ?_)
  · rw [p9d4 e i k Q1]
    exact condT' b1 (condT' b2 ⟨rfl, rfl, ⟨fun _ _ => rfl, isL_set.ids, trivial⟩, rfl, _, wkQ9 rfl rfl isL_set (by kernel_rfl)⟩)
  refine CodeOK.seq (CodeOK.at (C := C28) ec gs28 mixed (u := 0) (len := 166) (L := L9q) (M := [false, false]) (vals := v9q (ni i) (ni k)) (B := [eO e, lO 4 Q2]) (Nat.zero_le _) .normal ?_ ?_)
  · rw [p9d5 e i k Q2]
    exact condT' b1 (condT' b2 ⟨isPs_w (Nat.le_refl _), Nat.succ_le_succ (Nat.zero_le _), rfl, rfl, ids9q, rfl, rfl, rfl⟩)
  refine CodeOK.pre (fr1 := F9k i (ni k)) (hp1 := H9e e) ?_ ?_
  · rw [← dropQ i k]
    exact tpl_weak (B := [eO e]) (R := [lO 4 Q2]) ⟨.inr rfl, .inr rfl, .inr rfl, .inl rfl, trivial⟩ rfl ids9 (Nat.zero_le _)
  refine CodeOK.seq (CodeOK.at (C := C28) ec gs28 mixed (u := 0) (len := 166) (L := L9q) (M := [false, false]) (vals := v9q (ni i) (ni k)) (B := [eO e, lO 4 four]) (Nat.zero_le _) .normal ?_ ?_)
  · rw [p9d6 e i k]
    exact ⟨rfl, rfl, ids9q, rfl, rfl, rfl⟩
  refine CodeOK.seq (write9 ?_ fun Q3 => ?_)
  · rw [p9d7 e i k four]
    exact condT' a1 (condT' a2 ⟨rfl, rfl, ⟨fun _ _ => rfl, isL_set.ids, trivial⟩, rfl, _, wkQ9 rfl rfl isL_set (by kernel_rfl)⟩)
  refine CodeOK.at (C := C28) ec gs28 mixed (u := 0) (len := 166) (L := L9) (M := [false]) (vals := v9 (ni i) (ni k)) (B := [eO e]) (Nat.zero_le _) .normal ?_ hK
  rw [p9d8 e i k Q3]
  exact condT' b1 (condT' b2 ⟨isPs_w (Nat.le_refl _), Nat.succ_le_succ (Nat.zero_le _), condT' a1 (condT' a2 (condT' b1 (condT' b2 (condT' a1 (condT' a2 (condT' b1 (condT' b2 (condT' a1 (condT' a2 (condT' b1 (condT' b2 ⟨isPs_w (by decide), Nat.succ_le_succ (Nat.zero_le _), rfl, rfl, ids9, rfl, rfl, rfl⟩)))))))))))⟩)
theorem self9 {fr : List SV} {e : Nat → Int} (hv : ltAll 1 (svIdsL fr) = true) : Weak 0 fr (H9e e) fr (H9e e) := wkE9 rfl hv
theorem round9k (e : Nat → Int) (i k : Nat) (hi : i < 15) (hk : k < 15) : CodeOK Try.prog 0 c9_5 (F9k i (ni k)) (H9e e) (fun x fr hp => x = .normal ∧ Weak 0 fr hp (F9k i (ni (k + 1))) (H9e e)) := by
  rw [code9d]
  refine CodeOK.seq (CodeOK.at (C := C28) ec gs28 mixed (u := 0) (len := 166) (L := L9) (M := [false]) (vals := v9 (ni i) (ni k)) (B := [eO e]) (Nat.zero_le _) .normal ?_ ?_)
  · rw [p9d0 e i k]
    exact condT' (ix9 hk).1 ⟨rfl, rfl, ids9, rfl, rfl, rfl⟩
  refine CodeOK.seq (CodeOK.block (body9 e i k hi hk ?_))
  refine CodeOK.at (C := C28) ec gs28 mixed (u := 0) (len := 166) (L := L9) (M := [false]) (vals := v9 (ni i) (ni (k + 1))) (B := [eO e]) (Nat.zero_le _) .normal ?_ ⟨rfl, self9 (by kernel_rfl)⟩
  rw [p9d9 e i k, i64n k (by omega)]
  exact ⟨rfl, rfl, ids9, rfl, rfl, rfl⟩
theorem loop9k (e : Nat → Int) (i : Nat) (hi : i < 15) {K : KC} (hK : K (.exit 2) (F9i (ni i)) (H9e e)) : CodeOK Try.prog 0 (.loop c9_5) (F9k i (ni 0)) (H9e e) K := by
  refine CodeOK.count (n := 15) (F := fun k => F9k i (ni k)) (H := fun _ => H9e e) (fun k hk => round9k e i k hi hk) ?_ hK
  rw [code9d, ← dropK i]
  refine CodeOK.seq (CodeOK.at (C := C28) ec gs28 mixed (u := 0) (len := 166) (L := L9) (M := [false]) (vals := v9 (ni i) (ni 15)) (B := [eO e]) (Nat.zero_le _) (.exit 2) ?_ ⟨rfl, ?_⟩)
  · rw [p9d0 e i 15]
    exact condF' (cf (by omega)) ⟨rfl, rfl, ids9, rfl, rfl, rfl⟩
  · exact tpl_weak (B := [eO e]) (R := []) ⟨.inr rfl, .inr rfl, .inl rfl, trivial⟩ rfl ids9 (Nat.zero_le _)
theorem round9i (e : Nat → Int) (i : Nat) (hi : i < 15) : CodeOK Try.prog 0 (.seq c9_3 (.seq (.block 1 (.seq c9_4 (.block 2 (.loop c9_5)))) c9_6)) (F9i (ni i)) (H9e e) (fun x fr hp => x = .normal ∧ Weak 0 fr hp (F9i (ni (i + 1))) (H9e e)) := by
  refine CodeOK.seq (CodeOK.at (C := C28) ec gs28 mixed (u := 0) (len := 166) (L := L9a) (M := [false]) (vals := v9a (ni i)) (B := [eO e]) (Nat.zero_le _) .normal ?_ ?_)
  · rw [p9b e i]
    exact condT' (ix9 hi).1 ⟨rfl, rfl, ids9, rfl, rfl, rfl⟩
  refine CodeOK.seq (CodeOK.block (CodeOK.seq (CodeOK.at (C := C28) ec gs28 mixed (u := 0) (len := 166) (L := L9) (M := [false]) (vals := v9 (ni i) (ni 0)) (B := [eO e]) (Nat.zero_le _) .normal ?_ (CodeOK.block (loop9k e i hi ?_)))))
  · rw [p9c e i]
    exact ⟨rfl, rfl, ids9, rfl, rfl, rfl⟩
  refine CodeOK.at (C := C28) ec gs28 mixed (u := 0) (len := 166) (L := L9a) (M := [false]) (vals := v9a (ni (i + 1))) (B := [eO e]) (Nat.zero_le _) .normal ?_ ⟨rfl, self9 (by kernel_rfl)⟩
  rw [p9e e i, i64n i (by omega)]
  exact ⟨rfl, rfl, ids9, rfl, rfl, rfl⟩
theorem loop9i (e : Nat → Int) {K : KC} (hK : K (.exit 0) (tplF 166 [] []) []) : CodeOK Try.prog 0 (.loop (.seq c9_3 (.seq (.block 1 (.seq c9_4 (.block 2 (.loop c9_5)))) c9_6))) (F9i (ni 0)) (H9e e) K := by
  refine CodeOK.count (n := 15) (F := fun i => F9i (ni i)) (H := fun _ => H9e e) (fun i hi => round9i e i hi) ?_ hK
  refine CodeOK.seq (CodeOK.at (C := C28) ec gs28 mixed (u := 0) (len := 166) (L := L9a) (M := [false]) (vals := v9a (ni 15)) (B := [eO e]) (Nat.zero_le _) (.exit 0) ?_ ⟨rfl, ?_⟩)
  · rw [p9b e 15]
    exact condF' (cf (by omega)) ⟨rfl, rfl, ids9, rfl, rfl, rfl⟩
  · have h : tplF 166 L9a [.top, .top] = tplF 166 [] [] := by kernel_rfl
    rw [← h]
    exact tpl_weak (B := []) (R := [eO e]) ⟨.inl rfl, .inl rfl, trivial⟩ rfl trivial (Nat.zero_le _)
/-! ### Too many packets -/
abbrev F9m (i : Nat) : List SV := tplF 166 L9n [gV 0 i, ni i]
abbrev H9m (i : Nat) : LHeap := (gO pk9 i).map mkB
theorem grow9 {x1 : Int} {i x : Nat} {B : List BO} {A : Blk} (h1 : x1 = ((i + 1 : Nat) : Int)) (hA : hget (B.map mkB) x = some A) (lA : IsL A pk9 (i + 1)) :
    Weak 0 (tplF 166 L9n [.slice x 0 6 (i + 1), .int .i64 x1]) (B.map mkB) (F9m (i + 1)) (H9m (i + 1)) := by
  subst h1
  refine ren_weak (m0 := 0) (vals' := [.slice 0 0 6 (i + 1), ni (i + 1)]) [x] rfl (Nat.zero_le _) (fun j hj => absurd hj (Nat.not_lt_zero j)) ⟨.inr rfl, .inr rfl, trivial⟩ (fun id b1 hb1 => ?_) (inj_nodup (List.nodup_cons.2 ⟨List.not_mem_nil, List.nodup_nil⟩))
  match id, hb1 with
  | 0, hb1 =>
    obtain rfl := Option.some.inj (show some (bPw (i + 1) pk9) = some b1 from hb1)
    exact ⟨x, _, rfl, hA, lA.wb _⟩
  | id + 1, hb1 => exact nomatch (show (none : Option Blk) = some b1 from hb1)
theorem round9 (i : Nat) (hi : i < 257) : CodeOK Try.prog 0 c9_9 (F9m i) (H9m i) (fun x fr hp => x = .normal ∧ Weak 0 fr hp (F9m (i + 1)) (H9m (i + 1))) := by
  have ha : decide ((i : Int) < 257) = true := cb (by omega)
  cases i with
  | zero =>
    refine (CodeOK.lookN (C := C28) ec gs28 mixed (u := 0) (len := 166) (L := L9n) (M := M9n) (Nat.zero_le _) (Q := fun x vals B => x = .normal ∧ Weak 0 (tplF 166 L9n vals) (B.map mkB) (F9m (0 + 1)) (H9m (0 + 1))) ?_).st fun x vals B h => h
    show evalC C28 0 0 c9_9 (tplF 166 L9n [.nilSlice, .int .i64 (0 : Nat)]) [] (obsN L9n M9n _)
    rw [p9hn 0]
    refine condT' ha ?_
    rw [i64n 0 (by omega)]
    exact ⟨rfl, rfl, ⟨rfl, rfl, trivial⟩, rfl, grow9 (A := ⟨6, 1, fun r => [pkC (pk9 0)].getD r [], true, 33⟩) rfl rfl (isL_fst rfl rfl rfl rfl rfl)⟩
  | succ q =>
    refine (CodeOK.lookN (C := C28) ec gs28 mixed (u := 0) (len := 166) (L := L9n) (M := M9s) (Nat.zero_le _) (Q := fun x vals B => x = .normal ∧ Weak 0 (tplF 166 L9n vals) (B.map mkB) (F9m (q + 1 + 1)) (H9m (q + 1 + 1))) ?_).st fun x vals B h => h
    show evalC C28 0 0 c9_9 (tplF 166 L9n [.slice 0 0 6 (q + 1), .int .i64 (q + 1 : Nat)]) ([lO (q + 1) pk9].map mkB) (obsN L9n M9s _)
    rw [p9hs (q + 1) q pk9]
    refine condT' ha (condT' (cap6q (a := q) (by omega)) ?_)
    rw [i64n (q + 1) (by omega)]
    exact ⟨rfl, rfl, ⟨trivial, rfl, ((isL_snoc rfl rfl rfl rfl (fun r hr => by show cond _ _ _ = _; rw [decide_eq_true hr]; rfl) (by show cond _ _ _ = _; rw [decide_eq_false (Nat.lt_irrefl _), Nat.sub_self]; rfl)) : IsL _ pk9 (q + 1 + 1)).ids, trivial⟩, rfl, grow9 (x := 2) rfl rfl (isL_snoc rfl rfl rfl rfl (fun r hr => by show cond _ _ _ = _; rw [decide_eq_true hr]; rfl) (by show cond _ _ _ = _; rw [decide_eq_false (Nat.lt_irrefl _), Nat.sub_self]; rfl))⟩
theorem loop9 {K : KC} (hK : K (.exit 4) (tplF 166 L9m [.slice 0 0 6 (256 + 1)]) ([lO (256 + 1) pk9].map mkB)) : CodeOK Try.prog 0 (.loop c9_9) (F9m 0) (H9m 0) K := by
  refine CodeOK.count (n := 256 + 1) (F := fun i => F9m i) (H := fun i => H9m i) (fun i hi => round9 i hi) ?_ hK
  refine (CodeOK.lookN (C := C28) ec gs28 mixed (u := 0) (len := 166) (L := L9n) (M := M9s) (Nat.zero_le _) (Q := fun x vals B => x = .exit 4 ∧ Weak 0 (tplF 166 L9n vals) (B.map mkB) (tplF 166 L9m [.slice 0 0 6 (256 + 1)]) ([lO (256 + 1) pk9].map mkB)) ?_).st fun x vals B h => h
  show evalC C28 0 0 c9_9 (tplF 166 L9n [.slice 0 0 6 (256 + 1), .int .i64 (256 + 1 : Nat)]) ([lO (256 + 1) pk9].map mkB) (obsN L9n M9s _)
  rw [p9hs (256 + 1) 256 pk9]
  have h : tplF 166 L9n [.slice 0 0 6 (256 + 1), .top] = tplF 166 L9m [.slice 0 0 6 (256 + 1)] := by kernel_rfl
  refine condF' (cf (by omega)) ⟨rfl, rfl, ⟨fun _ _ => rfl, trivial, trivial, trivial⟩, rfl, ?_⟩
  rw [← h]
  exact tpl_weak (B := [lO (256 + 1) pk9]) (R := [.raw none, .raw none]) ⟨.inr rfl, .inl rfl, trivial⟩ rfl ⟨fun _ _ => rfl, trivial⟩ (show 0 ≤ 1 by decide)
/-! ### The rest -/
theorem prv_9 : ∀ i : Nat, prv (-1) (fun r => pk9 (1 + r)) i ≤ (i : Int)
  | 0 => by show (-1 : Int) ≤ 0; omega
  | i + 1 => by
    show ((1 + i : Nat) : Int) ≤ ((i + 1 : Nat) : Int)
    omega
theorem good_9 : ∀ n : Nat, n ≤ 256 → anyBad (-1) (fun r => pk9 (1 + r)) n = false
  | 0, _ => rfl
  | n + 1, h => by
    have hp := prv_9 n
    simp only [anyBad, good_9 n (by omega), Bool.false_or]
    exact badV_no (x := prv (-1) (fun r => pk9 (1 + r)) n) (n := ((1 + n : Nat) : Int)) (by omega) (by omega) (show (0 : Int) ≤ 0 by decide) (show (0 : Int) ≤ 9007199254740991 by decide) (show (1 : Int) ≤ 1 by decide) (show (1 : Int) ≤ 65535 by decide)
theorem end9 : CodeOK Try.prog 0 c9_10 (tplF 166 L9m [.slice 0 0 6 (256 + 1)]) ([lO (256 + 1) pk9].map mkB) (endK Try.prog Try.f9.results.toList fun v _ => v = .bool true) := by
  rw [code9b]
  refine CodeOK.frontN (C := C28) ec gs28 mixed (u := 0) (len := 166) (L := L9z) (M := [false]) [c9_11, c9_12] (Nat.zero_le _) (Q := atS .normal [.slice 0 0 6 (256 + 1), .int .i64 9007199254740991, .int .i64 0] [lO (256 + 1) pk9]) ?_ ?_
  · show evalC C28 0 0 (.seq c9_11 (.seq c9_12 .skip)) (tplF 166 L9m [.slice 0 0 6 (256 + 1)]) ([lO (256 + 1) pk9].map mkB) (obsN L9z [false] _)
    rw [p9i 256 pk9]
    refine ⟨⟨rfl, Nat.le_refl _, by decide, fun r hr => ⟨⟨9007199254740991, 9007199254740991, 1, false, false, false⟩, by obtain rfl : r = 0 := (by omega); rfl⟩⟩, Nat.le_refl _, fun P1 e1 g' t' w e2 e3 e4 => ?_⟩
    subst e1 e2 e3 e4
    refine ⟨⟨by kernel_rfl, by decide, by decide, by kernel_rfl, by kernel_rfl⟩, fun tm ht => ?_⟩
    obtain rfl : tm = 9007199254740991 := ht.trans (by kernel_rfl)
    have fin : seen 166 1 (atS .normal [.slice 0 0 6 (256 + 1), .int .i64 9007199254740991, .int .i64 0] [lO (256 + 1) pk9]) Ex.normal 166 [.slice 0 0 6 (256 + 1), .int .i64 9007199254740991, .int .i64 0] [lO (256 + 1) pk9] := ⟨rfl, rfl, ⟨fun _ _ => rfl, trivial⟩, rfl, rfl, rfl⟩
    exact ⟨fun a PL p q => condSplit (fun _ => fin) fun _ => fin, fun b PR p q => condSplit (fun _ => fin) fun _ => fin, fun a PL b PR p q => condSplit (fun _ => condSplit (fun _ => fin) fun _ => fin) fun _ => condSplit (fun _ => fin) fun _ => fin⟩
  rintro x vals B ⟨rfl, rfl, rfl⟩
  refine CodeOK.eval (C := C28) ec gs28 mixed 0 ?_
  show evalC C28 0 0 c9_13 (tplF 166 L9z [.slice 0 0 6 (256 + 1), .int .i64 9007199254740991, .int .i64 0]) ([lO (256 + 1) pk9].map mkB) (endK Try.prog Try.f9.results.toList fun v _ => v = .bool true)
  rw [p9j 256 pk9 9007199254740991 0 (fun v => v = .bool true)]
  have h1 : (chkP (fun r => rowP ((bPw (256 + 1) pk9).rd (0 + r))) (256 + 1) == 2) = true := by kernel_rfl
  have h2 : (chkP (fun r => rowP ((bPw (256 + 1) pk9).rd (0 + Int.toNat 1 + r))) (((256 + 1 : Nat) : Int).toNat - 1) == 0) = true := by
    have h3 : chkP (fun r => pk9 (1 + r)) 256 = 0 := by
      unfold chkP
      rw [good_9 256 (Nat.le_refl _)]
      rfl
    show (chkP (fun r => pk9 (0 + 1 + r)) 256 == 0) = true
    exact (congrArg (fun z : Int => z == 0) h3).trans rfl
  exact ⟨⟨rfl, by decide, by decide, fun r _ => ⟨pk9 r, rfl⟩⟩, condT' h1 (condT' (by decide) (condT' (by decide) ⟨⟨rfl, by decide, by decide, fun r _ => ⟨pk9 r, rfl⟩⟩, condT' h2 (condT' (by decide) rfl)⟩))⟩
theorem canon9 : Canon Try.prog 9 [] [] fun v _ => v = .bool true := by
  refine CodeOK.body Try.func9 (by kernel_rfl) ?_
  rw [code9]
  refine CodeOK.frontN (C := C28) ec gs28 mixed (u := 0) (len := 166) (L := [1]) (M := [true]) [c9_0, c9_1] (Nat.zero_le _) (Q := fun x vals B => x = .normal ∧ Weak 0 (tplF 166 [1] vals) (B.map mkB) (tplF 166 [1] [.slice 0 0 1 15]) (H9e ends9)) ?_ ?_
  · show evalC C28 0 0 (.seq c9_0 (.seq c9_1 .skip)) (enterS 166 []) [] (obsN [1] [true] _)
    rw [p9a]
    refine ⟨rfl, rfl, ⟨rfl, trivial⟩, rfl, heap_weak (m := 1) rfl (by decide) (by kernel_rfl) fun id b1 hb1 => ?_⟩
    match id, hb1 with
    | 0, hb1 =>
      obtain rfl := Option.some.inj (show some (eB ends9) = some b1 from hb1)
      refine ⟨_, rfl, WB.of_rows rfl (Nat.le_refl _) (fun _ => rfl) (fun _ => rfl) fun r hr => ?_⟩
      match r, hr with
      | 0, _ => exact ⟨rfl, rfl⟩
      | 1, _ => exact ⟨rfl, rfl⟩
      | 2, _ => exact ⟨rfl, rfl⟩
      | 3, _ => exact ⟨rfl, rfl⟩
      | 4, _ => exact ⟨rfl, rfl⟩
      | 5, _ => exact ⟨rfl, rfl⟩
      | 6, _ => exact ⟨rfl, rfl⟩
      | 7, _ => exact ⟨rfl, rfl⟩
      | 8, _ => exact ⟨rfl, rfl⟩
      | 9, _ => exact ⟨rfl, rfl⟩
      | 10, _ => exact ⟨rfl, rfl⟩
      | 11, _ => exact ⟨rfl, rfl⟩
      | 12, _ => exact ⟨rfl, rfl⟩
      | 13, _ => exact ⟨rfl, rfl⟩
      | 14, _ => exact ⟨rfl, rfl⟩
      | r + 15, hr => exact absurd (show r + 15 < 15 from hr) (by omega)
    | id + 1, hb1 => exact nomatch (show (none : Option Blk) = some b1 from hb1)
  rintro x vals B ⟨rfl, hw⟩
  refine CodeOK.pre hw ?_
  refine CodeOK.seq (CodeOK.seq (CodeOK.at (C := C28) ec gs28 mixed (u := 0) (len := 166) (L := L9a) (M := [false]) (vals := v9a (ni 0)) (B := [eO ends9]) (Nat.zero_le _) .normal ?_ (CodeOK.block (loop9i ends9 ?_))))
  · rw [p9a2 ends9]
    exact ⟨rfl, rfl, ids9, rfl, rfl, rfl⟩
  refine CodeOK.seq (CodeOK.at (C := C28) ec gs28 mixed (u := 0) (len := 166) (L := L9m) (M := []) (vals := [.nilSlice]) (B := []) (Nat.zero_le _) .normal ?_ ?_)
  · rw [p9f]
    exact ⟨rfl, rfl, trivial, rfl, rfl, rfl⟩
  refine CodeOK.seq (CodeOK.seq (CodeOK.at (C := C28) ec gs28 mixed (u := 0) (len := 166) (L := L9n) (M := []) (vals := [.nilSlice, ni 0]) (B := []) (Nat.zero_le _) .normal ?_ (CodeOK.block (loop9 ?_))))
  · show evalC C28 0 0 c9_8 (tplF 166 L9m [.nilSlice]) [] (obsN L9n [] _)
    rw [p9g]
    exact ⟨rfl, rfl, trivial, rfl, rfl, rfl⟩
  exact end9
end
theorem known_any (W : World) : Calls Try.prog 9 #[] W fun e w' => e = .returned (.bool true) ∧ Below W.heap.size W w' :=
  lawOf canon9 RL.nil W
end Go.Proofs.Ytcjfmkkfcbelpaa
