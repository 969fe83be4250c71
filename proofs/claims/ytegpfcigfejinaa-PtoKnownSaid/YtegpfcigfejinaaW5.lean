/-
  PtoBacks, PtoTells: the walks.
-/
import Derived.Test.YtegpfcigfejinaaW4
import Derived.Deep.RegionHeld3
namespace Go.Proofs.Ytegpfcigfejinaa
open Go.RowKit

set_option maxHeartbeats 1000000 in
theorem backs_any (base count most : Int) (w : World) (hb : base ≤ 9223372036854775807) (hc : count ≤ 9223372036854775807) (hm : most ≤ 9223372036854775807) :
    Calls Try.prog 4 #[.int .i64 base, .int .i64 count, .int .i64 most] w fun e w' => e = .returned (.bool true) ∧ Below w.heap.size w w' := by
  go_enter Try.func4, Try.ntmps4
  go_wp2_with (first
    | (go_at_call 15; refine (backed_any _ _ _ _ hc hm).mono ?_; rintro e w' ⟨rfl, rfl⟩)
    | (go_at_call 16; refine (rbacked_any _ _ _ _ hc hm).mono ?_; rintro e w' ⟨rfl, rfl⟩)
    | (go_at_call 17; refine (due_any _ _ _).mono ?_; rintro e w' ⟨rfl, rfl⟩)
    | (go_at_call 18; refine (rdue_any _ _ _).mono ?_; rintro e w' ⟨rfl, rfl⟩)
    | (go_at_call 14; refine (works_any _).mono ?_; rintro e w' ⟨rfl, hb⟩))
  go_ret
  exact ⟨rfl, hb⟩

/-- A measure in a block of the call's own: its five cells, and that all below is as it was. -/
theorem rs_made (w : World) (l m s v f : Int) :
    (w.alloc (.cells #[.int .i64 l, .int .i64 m, .int .i64 s, .int .i64 v, .int .i64 f] 23)).cell? ⟨w.heap.size, 0, none⟩ = some (.int .i64 l) ∧
    (w.alloc (.cells #[.int .i64 l, .int .i64 m, .int .i64 s, .int .i64 v, .int .i64 f] 23)).cell? ⟨w.heap.size, 1, none⟩ = some (.int .i64 m) ∧
    (w.alloc (.cells #[.int .i64 l, .int .i64 m, .int .i64 s, .int .i64 v, .int .i64 f] 23)).cell? ⟨w.heap.size, 2, none⟩ = some (.int .i64 s) ∧
    (w.alloc (.cells #[.int .i64 l, .int .i64 m, .int .i64 s, .int .i64 v, .int .i64 f] 23)).cell? ⟨w.heap.size, 3, none⟩ = some (.int .i64 v) ∧
    (w.alloc (.cells #[.int .i64 l, .int .i64 m, .int .i64 s, .int .i64 v, .int .i64 f] 23)).cell? ⟨w.heap.size, 4, none⟩ = some (.int .i64 f) ∧
    Below w.heap.size w (w.alloc (.cells #[.int .i64 l, .int .i64 m, .int .i64 s, .int .i64 v, .int .i64 f] 23)) ∧ w.heap.size < (w.alloc (.cells #[.int .i64 l, .int .i64 m, .int .i64 s, .int .i64 v, .int .i64 f] 23)).heap.size := by
  have hc : ∀ i, (w.alloc (.cells #[.int .i64 l, .int .i64 m, .int .i64 s, .int .i64 v, .int .i64 f] 23)).cell? ⟨w.heap.size, i, none⟩ = #[Value.int .i64 l, .int .i64 m, .int .i64 s, .int .i64 v, .int .i64 f][i]? := fun i => by
    rw [World.cell?_alloc_new]
  exact ⟨hc 0, hc 1, hc 2, hc 3, hc 4, (Below.refl _ _).alloc (Nat.le_refl _) _, by simp⟩
theorem rs_next {w w1 w2 : World} {l m s v f : Int} (h : w1.cell? ⟨w.heap.size, 0, none⟩ = some (.int .i64 l) ∧ w1.cell? ⟨w.heap.size, 1, none⟩ = some (.int .i64 m) ∧ w1.cell? ⟨w.heap.size, 2, none⟩ = some (.int .i64 s) ∧
      w1.cell? ⟨w.heap.size, 3, none⟩ = some (.int .i64 v) ∧ w1.cell? ⟨w.heap.size, 4, none⟩ = some (.int .i64 f) ∧ Below w.heap.size w w1 ∧ w.heap.size < w1.heap.size) (hb : Below w1.heap.size w1 w2) :
    w2.cell? ⟨w.heap.size, 0, none⟩ = some (.int .i64 l) ∧ w2.cell? ⟨w.heap.size, 1, none⟩ = some (.int .i64 m) ∧ w2.cell? ⟨w.heap.size, 2, none⟩ = some (.int .i64 s) ∧
      w2.cell? ⟨w.heap.size, 3, none⟩ = some (.int .i64 v) ∧ w2.cell? ⟨w.heap.size, 4, none⟩ = some (.int .i64 f) ∧ Below w.heap.size w w2 ∧ w.heap.size < w2.heap.size := by
  obtain ⟨h0, h1, h2, h3, h4, h5, h6⟩ := h
  have hc : ∀ i, w2.cell? ⟨w.heap.size, i, none⟩ = w1.cell? ⟨w.heap.size, i, none⟩ := fun i => hb.cell (p := ⟨w.heap.size, i, none⟩) h6
  exact ⟨(hc 0).trans h0, (hc 1).trans h1, (hc 2).trans h2, (hc 3).trans h3, (hc 4).trans h4, h5.trans (hb.mono h5.size), Nat.lt_of_lt_of_le h6 hb.size⟩

set_option maxHeartbeats 2000000 in
theorem tells_any (l m s v f space delay : Int) (w : World) :
    Calls Try.prog 3 #[.agg #[.int .i64 l, .int .i64 m, .int .i64 s, .int .i64 v, .int .i64 f], .int .i64 space, .int .i64 delay] w fun e w' => e = .returned (.bool true) ∧ Below w.heap.size w w' := by
  go_enter Try.func3, Try.ntmps3
  go_wp2_with fail
  go_region_held3 (fun w' => w'.cell? ⟨w.heap.size, 0, none⟩ = some (.int .i64 l) ∧ w'.cell? ⟨w.heap.size, 1, none⟩ = some (.int .i64 m) ∧ w'.cell? ⟨w.heap.size, 2, none⟩ = some (.int .i64 s) ∧
      w'.cell? ⟨w.heap.size, 3, none⟩ = some (.int .i64 v) ∧ w'.cell? ⟨w.heap.size, 4, none⟩ = some (.int .i64 f) ∧ Below w.heap.size w w' ∧ w.heap.size < w'.heap.size)
    (first | exact rs_next (rs_made w l m s v f) ((Below.refl _ _).drew) | exact rs_next (by assumption) hb)
    (first
      | (go_at_call 10; refine (base_any _ _ _ _ _ _ _ _).mono ?_; rintro e w' ⟨rfl, hb⟩)
      | (go_at_call 11; refine (rbase_any _ _ _ _ _ _ _ _).mono ?_; rintro e w' ⟨rfl, hb⟩)
      | (go_at_call 12; refine (per_any _ _ _ _ _ _ _).mono ?_; rintro e w' ⟨rfl, hb⟩)
      | (go_at_call 13; refine (rper_any _ _ _ _ _ _ _).mono ?_; rintro e w' ⟨rfl, hb⟩)
      | (go_at_call 14; refine (works_any _).mono ?_; rintro e w' ⟨rfl, hb⟩))
  go_split_ands
  go_wp2
  go_ret
  exact ⟨rfl, by assumption⟩
end Go.Proofs.Ytegpfcigfejinaa
