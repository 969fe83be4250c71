/-
  How a slice of numbers opens.
-/
import Derived.Test.YtepmbiahnicooaaR
import Derived.Test.YtepmbiahnicooaaV13
namespace Go.Proofs.Ytepmbiahnicooaa
open Go.RowKit
theorem ints_of {W : World} {a : Option Addr} {len cap : Nat} {zs : List Int} (h : IsRow .i64 W a len cap zs) : IsInts W a len cap := by
  rcases h with ⟨-, h, -, -⟩ | ⟨x, h1, h2, -, h4, h5, -⟩
  · exact .inl h
  · exact .inr ⟨x, h1, h2, fun r hr => ⟨_, h5 r (by omega)⟩⟩
end Go.Proofs.Ytepmbiahnicooaa
