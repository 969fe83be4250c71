/-
  The chapter's examples of layer 8: works.
-/
import Derived.Test.YtegpfcigfejinaaW3
namespace Go.Proofs.Ytegpfcigfejinaa
open Go.RowKit

/-- Two measures lie in blocks of the call's own. -/
structure Two (w wr : World) : Prop where
  below : Below w.heap.size w wr
  size : w.heap.size + 1 < wr.heap.size
  r0 : wr.cell? ⟨w.heap.size, 0, none⟩ = some (.int .i64 100)
  r1 : wr.cell? ⟨w.heap.size, 1, none⟩ = some (.int .i64 100)
  r2 : wr.cell? ⟨w.heap.size, 2, none⟩ = some (.int .i64 2000000)
  r3 : wr.cell? ⟨w.heap.size, 3, none⟩ = some (.int .i64 300000)
  r4 : wr.cell? ⟨w.heap.size, 4, none⟩ = some (.int .i64 0)
  n0 : wr.cell? ⟨w.heap.size + 1, 0, none⟩ = some (.int .i64 0)
  n1 : wr.cell? ⟨w.heap.size + 1, 1, none⟩ = some (.int .i64 0)
  n2 : wr.cell? ⟨w.heap.size + 1, 2, none⟩ = some (.int .i64 333000000)
  n3 : wr.cell? ⟨w.heap.size + 1, 3, none⟩ = some (.int .i64 166500000)
  n4 : wr.cell? ⟨w.heap.size + 1, 4, none⟩ = some (.int .i64 (-1))
theorem Two.next {w wr wx : World} (h : Two w wr) (hb : Below wr.heap.size wr wx) : Two w wx := by
  have l0 : w.heap.size < wr.heap.size := by have := h.size; omega
  have l1 := h.size
  exact ⟨h.below.trans (hb.mono h.below.size), Nat.lt_of_lt_of_le h.size hb.size, (hb.cell (p := ⟨w.heap.size, 0, none⟩) l0).trans h.r0, (hb.cell (p := ⟨w.heap.size, 1, none⟩) l0).trans h.r1, (hb.cell (p := ⟨w.heap.size, 2, none⟩) l0).trans h.r2, (hb.cell (p := ⟨w.heap.size, 3, none⟩) l0).trans h.r3, (hb.cell (p := ⟨w.heap.size, 4, none⟩) l0).trans h.r4,
    (hb.cell (p := ⟨w.heap.size + 1, 0, none⟩) l1).trans h.n0, (hb.cell (p := ⟨w.heap.size + 1, 1, none⟩) l1).trans h.n1, (hb.cell (p := ⟨w.heap.size + 1, 2, none⟩) l1).trans h.n2, (hb.cell (p := ⟨w.heap.size + 1, 3, none⟩) l1).trans h.n3, (hb.cell (p := ⟨w.heap.size + 1, 4, none⟩) l1).trans h.n4⟩
theorem Two.made (w : World) : Two w ((w.alloc (.cells #[.int .i64 100, .int .i64 100, .int .i64 2000000, .int .i64 300000, .int .i64 0] 23)).alloc (.cells #[.int .i64 0, .int .i64 0, .int .i64 333000000, .int .i64 166500000, .int .i64 (-1)] 23)) := by
  have e : w.heap.size + 1 = (w.alloc (.cells #[.int .i64 100, .int .i64 100, .int .i64 2000000, .int .i64 300000, .int .i64 0] 23)).heap.size := by simp
  have hc : ∀ i, ((w.alloc (.cells #[.int .i64 100, .int .i64 100, .int .i64 2000000, .int .i64 300000, .int .i64 0] 23)).alloc (.cells #[.int .i64 0, .int .i64 0, .int .i64 333000000, .int .i64 166500000, .int .i64 (-1)] 23)).cell? ⟨w.heap.size, i, none⟩ = #[Value.int .i64 100, .int .i64 100, .int .i64 2000000, .int .i64 300000, .int .i64 0][i]? := fun i => by
    rw [World.cell?_alloc_lt _ _ _ (by simp), World.cell?_alloc_new]
  have hd : ∀ i, ((w.alloc (.cells #[.int .i64 100, .int .i64 100, .int .i64 2000000, .int .i64 300000, .int .i64 0] 23)).alloc (.cells #[.int .i64 0, .int .i64 0, .int .i64 333000000, .int .i64 166500000, .int .i64 (-1)] 23)).cell? ⟨w.heap.size + 1, i, none⟩ = #[Value.int .i64 0, .int .i64 0, .int .i64 333000000, .int .i64 166500000, .int .i64 (-1)][i]? := fun i => by
    rw [e, World.cell?_alloc_new]
  exact ⟨((Below.refl _ _).alloc (Nat.le_refl _) _).alloc (by simp) _, by simp, hc 0, hc 1, hc 2, hc 3, hc 4, hd 0, hd 1, hd 2, hd 3, hd 4⟩

set_option maxHeartbeats 1000000 in
theorem works_any (w : World) : Calls Try.prog 14 #[] w fun e w' => e = .returned (.bool true) ∧ Below w.heap.size w w' := by
  have h0 := Two.made w
  go_enter Try.func14, Try.ntmps14
  go_wp2_with fail
  refine (base_any 100 100 2000000 300000 0 0 5000000 _).mono ?_
  rintro e w1 ⟨rfl, hb⟩
  have h1 := h0.next hb
  rw [show baseV 100 100 2000000 300000 0 0 5000000 = 3200000 from by decide +kernel]
  have r0 := h1.r0; have r1 := h1.r1; have r2 := h1.r2; have r3 := h1.r3; have r4 := h1.r4; have n0 := h1.n0; have n1 := h1.n1; have n2 := h1.n2; have n3 := h1.n3; have n4 := h1.n4
  clear hb
  go_wp2_with fail
  refine (base_any 100 100 2000000 300000 0 2 5000000 _).mono ?_
  rintro e w2 ⟨rfl, hb⟩
  have h2 := h1.next hb
  rw [show baseV 100 100 2000000 300000 0 2 5000000 = 8200000 from by decide +kernel]
  have r0 := h2.r0; have r1 := h2.r1; have r2 := h2.r2; have r3 := h2.r3; have r4 := h2.r4; have n0 := h2.n0; have n1 := h2.n1; have n2 := h2.n2; have n3 := h2.n3; have n4 := h2.n4
  clear hb
  go_wp2_with fail
  refine (base_any 0 0 333000000 166500000 (-1) 0 0 _).mono ?_
  rintro e w3 ⟨rfl, hb⟩
  have h3 := h2.next hb
  rw [show baseV 0 0 333000000 166500000 (-1) 0 0 = 999000000 from by decide +kernel]
  have r0 := h3.r0; have r1 := h3.r1; have r2 := h3.r2; have r3 := h3.r3; have r4 := h3.r4; have n0 := h3.n0; have n1 := h3.n1; have n2 := h3.n2; have n3 := h3.n3; have n4 := h3.n4
  clear hb
  go_wp2_with fail
  refine (base_any 0 0 333000000 166500000 (-1) 3 0 _).mono ?_
  rintro e w4 ⟨rfl, hb⟩
  have h4 := h3.next hb
  rw [show baseV 0 0 333000000 166500000 (-1) 3 0 = 0 from by decide +kernel]
  have r0 := h4.r0; have r1 := h4.r1; have r2 := h4.r2; have r3 := h4.r3; have r4 := h4.r4; have n0 := h4.n0; have n1 := h4.n1; have n2 := h4.n2; have n3 := h4.n3; have n4 := h4.n4
  clear hb
  go_wp2_with fail
  refine (backed_any (3) 2 10 _ (by decide) (by decide)).mono ?_
  rintro e w' ⟨rfl, rfl⟩
  rw [show backV (3) 2 10 = 12 from by decide +kernel]
  go_wp2_with fail
  refine (backed_any (3) 9 4 _ (by decide) (by decide)).mono ?_
  rintro e w' ⟨rfl, rfl⟩
  rw [show backV (3) 9 4 = 48 from by decide +kernel]
  go_wp2_with fail
  refine (backed_any (1) 60 60 _ (by decide) (by decide)).mono ?_
  rintro e w' ⟨rfl, rfl⟩
  rw [show backV (1) 60 60 = 9007199254740991 from by decide +kernel]
  go_wp2_with fail
  refine (backed_any (-1) 3 3 _ (by decide) (by decide)).mono ?_
  rintro e w' ⟨rfl, rfl⟩
  rw [show backV (-1) 3 3 = 0 from by decide +kernel]
  go_wp2_with fail
  refine (due_any (5) 7 _).mono ?_
  rintro e w' ⟨rfl, rfl⟩
  rw [show dueV (5) 7 = 12 from by decide +kernel]
  go_wp2_with fail
  refine (due_any (-1) 7 _).mono ?_
  rintro e w' ⟨rfl, rfl⟩
  rw [show dueV (-1) 7 = -1 from by decide +kernel]
  go_wp2_with fail
  refine (due_any (9007199254740991) 1 _).mono ?_
  rintro e w' ⟨rfl, rfl⟩
  rw [show dueV (9007199254740991) 1 = 9007199254740991 from by decide +kernel]
  go_wp2_with fail
  refine (per_any 100 100 2000000 300000 0 5000000 _).mono ?_
  rintro e w5 ⟨rfl, hb⟩
  rw [show perV 100 100 2000000 300000 0 5000000 = 24600000 from by decide +kernel]
  go_wp2_with fail
  go_ret
  exact ⟨rfl, h4.below.trans (hb.mono h4.below.size)⟩
end Go.Proofs.Ytegpfcigfejinaa
