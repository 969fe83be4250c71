/-
  Chapter 16 by the engine: both handshakes side by side.
-/
import Derived.Test.YtllkhfabfcpieaaV11
namespace Go.Proofs.Ytllkhfabfcpieaa
open Go.RowKit
def cnt0 (e : Int) : Nat := bif e == 0 then 0 else 1
def cnt2 (e : Int) : Nat := bif e == 2 then 1 else 0
def cK (h : Hd) : Nat := cnt0 h.e0 + (cnt0 h.e1 + cnt0 h.e2)
def cG (h : Hd) : Nat := cnt2 h.e0 + (cnt2 h.e1 + cnt2 h.e2)
/-- Both handshakes say the same. -/
structure Rel (hd : Hd) (sv : Bool) (nk : Nat) (kf gf : Nat → Int) (ng : Nat) (va cf an : Bool) : Prop where
  wf : WF hd
  rsv : sv = hd.sv
  rva : va = hd.va
  rcf : cf = hd.cf
  ran : an = hd.an
  rnk : nk = cK hd
  rng : ng = cG hd
  has : ∀ s, inF kf nk s = hasV hd s
  gone : ∀ s, inF gf ng s = goneV hd s
def s23 : Spec := fun args h _ k => match args with
  | [.ptr hid 0 7 0, .ptr id 0 6 0, .int .i64 _] => handR h hid fun hd => mAllN h id fun sv nk kf gf ng va cf an => Rel hd sv nk kf gf ng va cf an ∧ k (.bool true) [] []
  | _ => False
end Go.Proofs.Ytllkhfabfcpieaa
