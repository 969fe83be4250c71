/-
  Plain functions of layer 9: packets out of rows.
-/
import Derived.Test.YtcjfmkkfcbelpaaP3
namespace Go.Proofs.Ytcjfmkkfcbelpaa
structure Rw where
  s : Int
  t : Int
  z : Int
/-- The number of a packet: so many rows. -/
def nmR (R : Nat → Rw) : Nat → Int
  | 0 => -1
  | i + 1 => nmR R i + 1 + (R i).s % 4
def pkR (R : Nat → Rw) (i : Nat) : Pk := ⟨nmR R (i + 1), (R i).t % 1125899906842624, 1 + (R i).z % 65535, (R i).z.tmod 2 == 0, true, false⟩
theorem nmR_range (R : Nat → Rw) : ∀ i : Nat, (i : Int) - 1 ≤ nmR R i ∧ nmR R i ≤ 4 * (i : Int) - 1
  | 0 => ⟨by simp [nmR], by simp [nmR]⟩
  | i + 1 => by
    have := nmR_range R i
    simp only [nmR]
    omega
end Go.Proofs.Ytcjfmkkfcbelpaa
