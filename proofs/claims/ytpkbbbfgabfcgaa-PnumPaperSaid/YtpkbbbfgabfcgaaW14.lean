/-
  PnumNear and PnumPaper, of bytes as they come in.
-/
import Derived.Test.YtpkbbbfgabfcgaaW8
import Derived.Test.YtpkbbbfgabfcgaaW11
import Derived.Test.YtpkbbbfgabfcgaaW12
namespace Go.Proofs.Ytpkbbbfgabfcgaa
open Go.RowKit
theorem row_bs {w : World} {A : Option Addr} {n c : Nat} {zs : List Int} (h : IsRow .u8 w A n c zs) : ∃ xs : List Int, xs.length = n ∧ BS w A xs := by
  rcases h with ⟨rfl, rfl, rfl, rfl⟩ | ⟨ad, rfl, hl, _, hz, hc, hw⟩
  · exact ⟨[], rfl, BS_nil _ _⟩
  · exact ⟨zs.take n, by rw [List.length_take]; omega, BS.of_row hl hz hc hw⟩
theorem near_row (greatest n : Int) (A : Option Addr) (len c : Nat) (zs : List Int) (w : World) (h : IsRow .u8 w A len c zs) :
    Calls Try.prog 6 #[.int .i64 greatest, .slice A len c, .int .i64 n] w fun e w' => e = .returned (.bool true) ∧ Below w.heap.size w w' := by
  obtain ⟨xs, hn, hb⟩ := row_bs h
  exact near_any greatest n A len c xs w hn hb
theorem paper_row (greatest n : Int) (A : Option Addr) (len c : Nat) (zs : List Int) (w : World) (h : IsRow .u8 w A len c zs) :
    Calls Try.prog 7 #[.int .i64 greatest, .slice A len c, .int .i64 n] w fun e w' => e = .returned (.bool true) ∧ Below w.heap.size w w' := by
  obtain ⟨xs, hn, hb⟩ := row_bs h
  exact paper_any greatest n A len c xs w hn hb
end Go.Proofs.Ytpkbbbfgabfcgaa
