/-
  Bytes that came in, as the walks want them.
-/
import Derived.Test.YtpkbbbfgabfcgaaW7
import Derived.Test.YtpkbbbfgabfcgaaR
namespace Go.Proofs.Ytpkbbbfgabfcgaa
open Go.RowKit

theorem wf_u8 {n : Int} (h : (Lit.int .u8 n).wf = true) : 0 ≤ n ∧ n ≤ 255 := by
  simpa [Lit.wf, IntKind.min, IntKind.max, IntKind.signed, IntKind.bits] using h
theorem wf_i64 {n : Int} (h : (Lit.int .i64 n).wf = true) : -9223372036854775808 ≤ n ∧ n ≤ 9223372036854775807 := by
  simpa [Lit.wf, IntKind.min, IntKind.max, IntKind.signed, IntKind.bits] using h

theorem BS.of_row {w : World} {ad : Addr} {n c : Nat} {zs : List Int} (hl : n ≤ c) (hz : zs.length = c) (hc : ∀ i, i < zs.length → w.cell? (ad.add i) = some (.int .u8 (zs.getD i 0))) (hw : ∀ n ∈ zs, (Lit.int .u8 n).wf = true) :
    BS w (some ad) (zs.take n) := by
  refine ⟨?_, fun x hx => wf_u8 (hw x (List.mem_of_mem_take hx))⟩
  rcases Nat.eq_zero_or_pos n with h0 | h0
  · subst h0; exact .inl (by simp)
  · obtain ⟨b, off, spot⟩ := ad
    have h1 := hc 0 (by omega)
    have hspot : spot = none := by simpa [Addr.add] using World.cell?_spot h1
    subst hspot
    have hplain : ∀ j, (⟨b, off, none⟩ : Addr).add j = ⟨b, off + j, none⟩ := fun j => by unfold Addr.add; split <;> simp_all
    refine .inr ⟨b, off, rfl, ?_, fun i hi => ?_⟩
    · exact World.block_lt_of_cell? w _ h1
    · rw [List.length_take] at hi
      rw [← hplain, hc i (by omega)]
      simp [List.getD, show i < n by omega]

theorem tells_any (full other : Int) (A : Option Addr) (n c : Nat) (zs : List Int) (w : World) (h : IsRow .u8 w A n c zs) :
    Calls Try.prog 3 #[.int .i64 full, .int .i64 other, .slice A n c] w fun e w' => e = .returned (.bool true) ∧ Below w.heap.size w w' := by
  rcases h with ⟨rfl, rfl, rfl, rfl⟩ | ⟨ad, rfl, hl, hm, hz, hc, hw⟩
  · exact tells_nil full other w
  · exact tells_some full other ad n c (min n 6) (zs.take n) w hl (by unfold maxLen at hm; omega) rfl (by rw [List.length_take]; omega) (BS.of_row hl hz hc hw)

end Go.Proofs.Ytpkbbbfgabfcgaa
