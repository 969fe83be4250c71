/-
  How long a slice of pairs that came in is at most: the form's own reach.
-/
import Derived.Test.YtllkhfabfcpieaaR4
import Derived.SizedLaws
namespace Go.Proofs.Ytllkhfabfcpieaa
open Go.RowKit Go.ChangeShapes Go.WideShapes

theorem pairs_size {H : Type} {enc : TypeId × Value → H} {W : World} {b : Nat} {held : Bool} {a : Option Addr} {len cap : Nat} {d : DataW H} {p : List MemPlace} {ts : List TypeId} {ds : List (DataW H)} {j : Nat}
    (h : DataW.Trod enc Try.prog W b (fun _ => true) held 22 (.slice a len cap) d p) (hw : (DataW.weightsEach Try.prog ts ds).all (· ≤ reachBytes) = true) (ht : ts[j]? = some 22) (hd : ds[j]? = some d) : len ≤ 8796093022000 := by
  obtain ⟨fuel, hf⟩ := h
  rcases Go.Deep.open_slice Try.underlying22 hf with ⟨hcs, _⟩ | ⟨x, l, c, m, n, D, Pl, hcs, _, _, _, _, hx, _⟩
  · simp [Value.cells] at hcs
    omega
  · simp [Value.cells] at hcs
    obtain ⟨rfl, rfl, rfl⟩ := hcs
    obtain rfl := (Prod.mk.inj hx).1
    have h1 := sized_slice hw ht hd Try.underlying22
    have hb : Try.prog.bytesOf 27 = 16 := by kernel_rfl
    have hr : reachBytes = 140737488351232 := by kernel_rfl
    rw [hb, hr] at h1
    simp only [List.length_map, List.length_range] at h1
    omega
end Go.Proofs.Ytllkhfabfcpieaa
