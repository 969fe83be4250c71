/-
  How a slice of numbers opens.
-/
import Derived.Test.YtefjhkgkdmjopaaR
import Derived.Test.YtefjhkgkdmjopaaV8
namespace Go.Proofs.Ytefjhkgkdmjopaa
open Go.RowKit
theorem ints_of {w : World} {a : Option Addr} {len cap : Nat} {zs : List Int} (h : IsRow .i64 w a len cap zs) : IsInts w a len cap := by
  rcases h with ⟨_, rfl, _, _⟩ | ⟨x, rfl, hl, _, hz, hc, _⟩
  · exact .inl rfl
  · exact .inr ⟨x, rfl, hl, fun r hr => ⟨_, hc r (by omega)⟩⟩
end Go.Proofs.Ytefjhkgkdmjopaa
