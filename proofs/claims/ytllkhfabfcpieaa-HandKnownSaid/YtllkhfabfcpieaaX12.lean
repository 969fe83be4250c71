/-
  Chapter 16 by the engine: one call of both handshakes.
-/
import Derived.Test.YtllkhfabfcpieaaX10
namespace Go.Proofs.Ytllkhfabfcpieaa
open Go.RowKit
/-- One call: the handshakes say the same behind it, and answer alike. What may become of the lists. -/
def s28 : Spec := fun args h base k => match args with
  | [.ptr hid 0 7 0, .ptr id 0 6 0, .agg [.int .i64 _, .int .i64 s]] => handW h hid fun hd => mW h id fun sv ik nk gs va cf an => lstW h ik nk fun kf => bif mOk id ik gs base then (match gs with
    | .nilSlice => Rel hd sv nk kf (fun _ => 0) 0 va cf an ∧
      ((∀ (e : Int) (h' : Hd) (va' cf' an' : Bool), Rel h' sv nk kf (fun _ => 0) 0 va' cf' an' → k (.tuple [.int .i64 e, .int .i64 e]) [(hid, some (hB h')), (id, some (mB sv (.slice ik 0 1 nk) .nilSlice va' cf' an')), (ik, some (bFw kf nk))] []) ∧
      ((∀ (e : Int) (h' : Hd), Rel h' sv (nk + 1) (appF kf nk s) (fun _ => 0) 0 va cf an → k (.tuple [.int .i64 e, .int .i64 e]) [(hid, some (hB h')), (id, some (mB sv (.slice base 0 1 (nk + 1)) .nilSlice va cf an)), (ik, none)] [bFw (appF kf nk s) (nk + 1)]) ∧
      (∀ (e : Int) (h' : Hd), Rel h' sv nk kf (appF (fun _ => 0) 0 s) 1 va cf an → k (.tuple [.int .i64 e, .int .i64 e]) [(hid, some (hB h')), (id, some (mB sv (.slice ik 0 1 nk) (.slice base 0 1 1) va cf an)), (ik, some (bFw kf nk))] [bFw (appF (fun _ => 0) 0 s) 1])))
    | .slice ig 0 1 ng => lstW h ig ng fun gf => 1 ≤ ng ∧ (Rel hd sv nk kf gf ng va cf an ∧
      ((∀ (e : Int) (h' : Hd) (va' cf' an' : Bool), Rel h' sv nk kf gf ng va' cf' an' → k (.tuple [.int .i64 e, .int .i64 e]) [(hid, some (hB h')), (id, some (mB sv (.slice ik 0 1 nk) (.slice ig 0 1 ng) va' cf' an')), (ik, some (bFw kf nk)), (ig, some (bFw gf ng))] []) ∧
      ((∀ (e : Int) (h' : Hd), Rel h' sv (nk + 1) (appF kf nk s) gf ng va cf an → k (.tuple [.int .i64 e, .int .i64 e]) [(hid, some (hB h')), (id, some (mB sv (.slice base 0 1 (nk + 1)) (.slice ig 0 1 ng) va cf an)), (ik, none), (ig, some (bFw gf ng))] [bFw (appF kf nk s) (nk + 1)]) ∧
      (∀ (e : Int) (h' : Hd), Rel h' sv nk kf (appF gf ng s) (ng + 1) va cf an → k (.tuple [.int .i64 e, .int .i64 e]) [(hid, some (hB h')), (id, some (mB sv (.slice ik 0 1 nk) (.slice base 0 1 (ng + 1)) va cf an)), (ik, some (bFw kf nk)), (ig, none)] [bFw (appF gf ng s) (ng + 1)]))))
    | _ => False) else False
  | _ => False
/-- A copy, of lists that lie apart, none empty. -/
def s25m : Spec := fun args h base k => match args with
  | [.ptr id 0 6 0] => mR h id fun sv ik nk gs va cf an => lst h (.slice ik 0 1 nk) fun kf _ => (1 ≤ nk ∧ nk ≤ 1000) ∧ (match gs with
      | .nilSlice => k (.ptr base 0 6 0) [] [mB sv (.slice (base + 1) 0 1 nk) .nilSlice va cf an, bFw kf nk]
      | .slice ig 0 1 ng => (1 ≤ ng ∧ ng ≤ 1000) ∧ (bif neN ik ig then lst h (.slice ig 0 1 ng) (fun gf _ => k (.ptr base 0 6 0) [] [mB sv (.slice (base + 1) 0 1 nk) (.slice (base + 2) 0 1 ng) va cf an, bFw kf nk, bFw gf ng]) else False)
      | _ => False)
  | _ => False
end Go.Proofs.Ytllkhfabfcpieaa
