/-
  Chapter 16 by the engine: calls, what lives, lists.
-/
import Derived.Test.YtllkhfabfcpieaaV1
namespace Go.Proofs.Ytllkhfabfcpieaa
open Go.RowKit
def s10 : Spec := fun args _ base k => match args with
  | [.bool b] => k (.ptr base 0 7 0) [] [hB (newH b)]
  | _ => False
def s24 : Spec := fun args h base k => match args with
  | [.nilPtr] => k .nilPtr [] []
  | [.ptr id 0 7 0] => handR h id fun hd => bif nothV hd then k .nilPtr [] [] else k (.ptr base 0 7 0) [] [hB hd]
  | _ => False
def s13 : Spec := fun args h _ k => match args with
  | [.ptr id 0 7 0, .agg [.int .i64 kd, .int .i64 sp]] => handW h id fun hd => ∀ (h' : Hd) (e : Int), h' = callH hd kd sp → e = callE hd kd sp → k (.int .i64 e) [(id, some (hB h'))] []
  | _ => False
def G3 : Gam := addGam (addGam (addGam (addGam (addGam (addGam (addGam (addGam (addGam (addGam (addGam G2 11 s11) 12 s12) 14 s14) 15 s15) 16 s16) 19 s19) 30 s30) 27 s27) 31 s31) 26 s26) 29 s29
noncomputable def C3 : Ctx := ⟨Try.prog, G3, fun t => memN t eqs⟩
def bI (l : List Int) : Blk := ⟨1, l.length, fun r => [.int .i64 (l.getD r 0)], false, 0⟩
/-- A list that is handed back. -/
def obsRes (v : SV) (hp : LHeap) : BO := match v with
  | .slice id _ _ _ => obsB true (hget hp id)
  | _ => .raw none
end Go.Proofs.Ytllkhfabfcpieaa
