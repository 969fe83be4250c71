/-
  How a slice opens. (Printed by genopen.py.)
-/
import Derived.Test.YtcjfmkkfcbelpaaR
import Derived.Test.YtcjfmkkfcbelpaaV20
import Derived.Deep.Slices
namespace Go.Proofs.Ytcjfmkkfcbelpaa
open Go.RowKit Go.ChangeShapes Go.WideShapes

theorem pks_of {H : Type} {enc : TypeId × Value → H} {W : World} {b : Nat} {held : Bool} {a : Option Addr} {len cap : Nat} {d : DataW H} {p : List MemPlace}
    (h : DataW.Trod enc Try.prog W b (fun _ => true) held 22 (.slice a len cap) d p) : IsPks W a len cap := by
  obtain ⟨fuel, hf⟩ := h
  rcases Go.Deep.open_slice Try.underlying22 hf with ⟨hcs, _⟩ | ⟨x, l, c, m, n, D, Pl, hcs, _, hl, _, hm, _, hx⟩
  · simp [Value.cells] at hcs
    exact .inl hcs.2.1
  · simp [Value.cells] at hcs
    obtain ⟨rfl, rfl, rfl⟩ := hcs
    refine .inr ⟨x, rfl, hl, fun r hr => ?_⟩
    obtain ⟨cs', h1, h2⟩ := hx r (by rw [hm]; simp; omega)
    have hc5 : Try.prog.cellsOf 33 = 6 := by kernel_rfl
    rw [hc5] at h1
    obtain ⟨_, _, h5⟩ := World.cells?_some h1
    have num : ∀ j, j < 3 → ∃ n : Int, W.cell? (x.add (r * 6 + j)) = some (.int .i64 n) := fun j hj => by
      have hleaf : leafAt Try.prog 6 33 j = some 3 := by
        rcases j with _ | _ | _ | j
        · kernel_rfl
        · kernel_rfl
        · kernel_rfl
        · omega
      obtain ⟨m', y, hy⟩ := leaf_trod 6 33 j 3 n cs' _ hleaf (by kernel_rfl) h2
      obtain ⟨k, hk, _, _⟩ := DataW.trod_int Try.underlying3 hy
      refine ⟨k, ?_⟩
      rw [← Go.Deep.add_add, h5 j (by omega)]
      have h6 := congrArg (fun l => l[0]?) hk
      simpa [List.getElem?_take, List.getElem?_drop] using h6
    have tok : ∀ j, 3 ≤ j → j < 6 → ∃ b : Bool, W.cell? (x.add (r * 6 + j)) = some (.bool b) := fun j hl hj => by
      have hleaf : leafAt Try.prog 6 33 j = some 4 := by
        rcases j with _ | _ | _ | _ | _ | _ | j
        · omega
        · omega
        · omega
        · kernel_rfl
        · kernel_rfl
        · kernel_rfl
        · omega
      obtain ⟨m', y, hy⟩ := leaf_trod 6 33 j 4 n cs' _ hleaf (by kernel_rfl) h2
      obtain ⟨k, hk, _⟩ := DataW.trod_bool Try.underlying4 hy
      refine ⟨k, ?_⟩
      rw [← Go.Deep.add_add, h5 j (by omega)]
      have h6 := congrArg (fun l => l[0]?) hk
      simpa [List.getElem?_take, List.getElem?_drop] using h6
    exact ⟨num, tok⟩
end Go.Proofs.Ytcjfmkkfcbelpaa
