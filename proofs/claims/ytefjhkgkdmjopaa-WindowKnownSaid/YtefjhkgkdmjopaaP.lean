/-
  Chapter 11: a window, in plain words.
-/
namespace Go.Proofs.Ytefjhkgkdmjopaa
/-- A window: Datagram, Most, Cwnd, Thresh, Start, Got. -/
structure Wn where
  d : Int
  m : Int
  c : Int
  t : Int
  s : Int
  g : Int
  deriving DecidableEq
def isT (n : Int) : Bool := decide (0 ≤ n) && decide (n ≤ 9007199254740991)
theorem isT_iff {n : Int} : isT n = true ↔ 0 ≤ n ∧ n ≤ 9007199254740991 := by simp [isT]
/-- May one be? -/
def mayW (w : Wn) : Bool :=
  decide (1200 ≤ w.d ∧ w.d ≤ 65527 ∧ w.m ≤ 1099511627776 ∧ 2 * w.d ≤ w.c ∧ w.c ≤ w.m ∧ 0 ≤ w.g ∧ w.g < w.c ∧ (w.t = -1 ∨ w.d ≤ w.t ∧ w.t ≤ w.m) ∧ (w.s = -1 ∨ 0 ≤ w.s ∧ w.s ≤ 9007199254740991))
def slowV (w : Wn) : Bool := w.t == -1 || decide (w.c < w.t)
def behV (w : Wn) (n : Int) : Bool := w.s == -1 || decide (w.s < n)
def minI (a b : Int) : Int := if b < a then b else a
def maxI (a b : Int) : Int := if a < b then b else a
/-- Round by round: what is over, and how great it is. -/
def slowF (d m : Int) : Nat → Int → Int → Int × Int
  | 0, g, c => (g, c)
  | n + 1, g, c => if c ≤ g then slowF d m n (g - c) (minI (c + d) m) else (g, c)
def slowW (w : Wn) (n : Int) : Wn := let r := slowF w.d w.m (w.g + n).toNat (w.g + n) w.c; ⟨w.d, w.m, r.2, w.t, w.s, r.1⟩
def growW (w : Wn) (n : Int) : Wn := ⟨w.d, w.m, minI (w.c + n) w.m, w.t, w.s, w.g⟩
def zW : Wn := ⟨0, 0, 0, 0, 0, 0⟩
/-- Behind an acknowledgement. -/
def ack1 (w : Wn) (at_ sz : Int) (full : Bool) : Wn := bif !full || !behV w at_ then w else bif slowV w then growW w sz else slowW w sz
def ackOk (at_ sz : Int) : Bool := isT at_ && (decide (1 ≤ sz) && decide (sz ≤ 65535))
def chE (w : Wn) (ok : Bool) : Int := bif !mayW w then 2 else bif !ok then 9 else 0
def chW (w : Wn) (ok : Bool) (r : Wn) : Wn := bif mayW w && ok then r else zW
def bad1 (w : Wn) (sent now : Int) : Wn := bif !behV w sent then w else ⟨w.d, w.m, maxI (w.c / 2) (2 * w.d), w.c / 2, now, 0⟩
def col1 (w : Wn) : Wn := ⟨w.d, w.m, 2 * w.d, w.t, -1, 0⟩
def newW (d f m : Int) : Wn := ⟨d, m, f, -1, -1, 0⟩
end Go.Proofs.Ytefjhkgkdmjopaa
