/-
  How a slice of pairs of numbers opens.
-/
import Derived.Test.YtllkhfabfcpieaaR
import Derived.Test.YtllkhfabfcpieaaV4
import Derived.Deep.Slices
namespace Go.Proofs.Ytllkhfabfcpieaa
open Go.RowKit Go.ChangeShapes Go.WideShapes

theorem pairs_of {H : Type} {enc : TypeId × Value → H} {W : World} {b : Nat} {held : Bool} {a : Option Addr} {len cap : Nat} {d : DataW H} {p : List MemPlace}
    (h : DataW.Trod enc Try.prog W b (fun _ => true) held 22 (.slice a len cap) d p) : IsPairs W a len cap := by
  obtain ⟨fuel, hf⟩ := h
  rcases Go.Deep.open_slice Try.underlying22 hf with ⟨hcs, _⟩ | ⟨x, l, c, m, n, D, Pl, hcs, _, hl, _, hm, _, hx⟩
  · simp [Value.cells] at hcs
    exact .inl hcs.2.1
  · simp [Value.cells] at hcs
    obtain ⟨rfl, rfl, rfl⟩ := hcs
    refine .inr ⟨x, rfl, hl, fun r hr j hj => ?_⟩
    obtain ⟨cs', h1, h2⟩ := hx r (by rw [hm]; simp; omega)
    have hc3 : Try.prog.cellsOf 27 = 2 := by kernel_rfl
    rw [hc3] at h1
    obtain ⟨_, _, h5⟩ := World.cells?_some h1
    have hleaf : leafAt Try.prog 6 27 j = some 3 := by
      rcases j with _ | _ | j
      · kernel_rfl
      · kernel_rfl
      · omega
    obtain ⟨m', y, hy⟩ := leaf_trod 6 27 j 3 n cs' _ hleaf (by kernel_rfl) h2
    obtain ⟨k, hk, _, _⟩ := DataW.trod_int Try.underlying3 hy
    refine ⟨k, ?_⟩
    rw [← Go.Deep.add_add, h5 j hj]
    have h6 := congrArg (fun l => l[0]?) hk
    simpa [List.getElem?_take, List.getElem?_drop] using h6
end Go.Proofs.Ytllkhfabfcpieaa
