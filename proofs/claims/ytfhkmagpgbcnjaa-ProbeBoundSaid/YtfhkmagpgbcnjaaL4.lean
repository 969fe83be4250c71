/-
  ProbeBound: the law from the walk.
-/
import Derived.Test.YtfhkmagpgbcnjaaV10
namespace Go.Proofs.Ytfhkmagpgbcnjaa
open Go.RowKit

/-- A slice of pairs of numbers that came in. -/
def IsPairs (w : World) (a : Option Addr) (len cap : Nat) : Prop :=
  len = 0 ∨ ∃ x : Addr, a = some x ∧ len ≤ cap ∧ ∀ r, r < len → ∀ j, j < 2 → ∃ n : Int, w.cell? (x.add (r * 2 + j)) = some (.int .i64 n)
def numAt : Option Value → Int
  | some (.int _ n) => n
  | _ => 0
theorem t4e (kk : SV → Prop) : evalF C11 64 Try.f4 [.eslice] [] (fun v _ => kk v) = kk (.bool true) := by kernel_rfl
theorem bound_any (a : Option Addr) (len cap : Nat) (w : World) (h : IsPairs w a len cap) :
    Calls Try.prog 4 #[.slice a len cap] w fun e w' => e = .returned (.bool true) ∧ Below w.heap.size w w' := by
  rcases Nat.eq_zero_or_pos len with h0 | hp
  · subst h0
    refine lawOf (args := [.eslice]) (evalF_ok (C := C11) ec gs11 mixed (u := 64) Try.func4 (by kernel_rfl) ?_) (vs := [.slice a 0 cap]) ?_ w
    · rw [t4e (fun v => v = _)]
    · simp [RL, R]
  · rcases h with h | ⟨x, rfl, hl, hc⟩
    · omega
    · obtain ⟨n0, hn0⟩ := hc 0 hp 0 (by omega)
      have hn0 : w.cell? x = some (.int .i64 n0) := by simpa [Addr.add] using hn0
      obtain ⟨blk, off, spot⟩ := x
      have hs : spot = none := by simpa using World.cell?_spot hn0
      subst hs
      unfold World.cell? at hn0
      split at hn0
      · rename_i c ty fz hb
        have hcell : ∀ r, r < len → ∀ j, j < 2 → ∃ n : Int, c[off + (r * 2 + j)]? = some (.int .i64 n) := by
          intro r hr j hj
          obtain ⟨n, hn⟩ := hc r hr j hj
          refine ⟨n, ?_⟩
          have e : (⟨blk, off, none⟩ : Addr).add (r * 2 + j) = ⟨blk, off + (r * 2 + j), none⟩ := by
            unfold Addr.add
            split
            · rename_i h; rw [h]; rfl
            · rfl
          rw [e] at hn
          unfold World.cell? at hn
          rw [hb] at hn
          simpa using hn
        refine lawOfR (hp := [some (bR4 len fun r j => numAt c[off + (r * 2 + j)]?)]) (canon4 len _) (fun id b hb => ?_) (φ := fun id => if id = 0 then some ⟨blk, off, cap⟩ else none) (w := w) (fun id hid => ?_) (fun id b hb' => ?_) (vs := [.slice (some ⟨blk, off, none⟩) len cap]) ?_
        · cases id with
          | zero => simp [hget] at hb; subst hb; rfl
          | succ id => simp [hget] at hb
        · have : id ≠ 0 := by simp at hid; omega
          simp [this]
        · cases id with
          | succ id => simp [hget] at hb'
          | zero =>
            simp [hget] at hb'
            subst hb'
            refine ⟨⟨blk, off, cap⟩, by simp, c, ty, fz, hb, (fun h => nomatch h), fun r hr => ⟨?_, rfl⟩⟩
            have hr : r < len := hr
            obtain ⟨a0, q0⟩ := hcell r hr 0 (by omega)
            obtain ⟨a1, q1⟩ := hcell r hr 1 (by omega)
            have e : (c.toList.drop (off + r * 2)).take 2 = [.int .i64 a0, .int .i64 a1] := by
              apply List.ext_getElem?
              intro j
              rw [List.getElem?_take]
              rcases j with _ | _ | j
              · simpa [Nat.add_assoc] using q0
              · simpa [Nat.add_assoc] using q1
              · simp only [show ¬ (j + 1 + 1 < 2) by omega, if_false]
                rfl
            show RL _ [.int .i64 (numAt c[off + (r * 2 + 0)]?), .int .i64 (numAt c[off + (r * 2 + 1)]?)] ((c.toList.drop (off + r * 2)).take 2)
            rw [e, q0, q1]
            simp [RL, R, numAt]
        · simp [RL, R]
          omega
      · cases hn0
end Go.Proofs.Ytfhkmagpgbcnjaa
