/-
  EcnStays: the law from the walk.
-/
import Derived.Test.YthiencdknndagaaV5
namespace Go.Proofs.Ythiencdknndagaa
open Go.RowKit

/-- A slice of triples of numbers that came in. -/
def IsTriples (w : World) (a : Option Addr) (len cap : Nat) : Prop :=
  len = 0 ∨ ∃ x : Addr, a = some x ∧ len ≤ cap ∧ ∀ r, r < len → ∀ j, j < 3 → ∃ n : Int, w.cell? (x.add (r * 3 + j)) = some (.int .i64 n)
def numAt : Option Value → Int
  | some (.int _ n) => n
  | _ => 0
theorem t5e (many : Int) (kk : SV → Prop) : evalF C6 64 Try.f5 [.eslice, .int .i64 many] [] (fun v _ => kk v) = kk (.bool true) := by kernel_rfl
theorem stays_any (a : Option Addr) (len cap : Nat) (many : Int) (w : World) (h : IsTriples w a len cap) :
    Calls Try.prog 5 #[.slice a len cap, .int .i64 many] w fun e w' => e = .returned (.bool true) ∧ Below w.heap.size w w' := by
  rcases Nat.eq_zero_or_pos len with h0 | hp
  · subst h0
    refine lawOf (args := [.eslice, .int .i64 many]) (evalF_ok (C := C6) ec gs6 mixed (u := 64) Try.func5 (by kernel_rfl) ?_) (vs := [.slice a 0 cap, .int .i64 many]) ?_ w
    · rw [t5e many (fun v => v = _)]
    · simp [RL, R]
  · rcases h with h | ⟨x, rfl, hl, hc⟩
    · omega
    · obtain ⟨n0, hn0⟩ := hc 0 hp 0 (by omega)
      have hn0 : w.cell? x = some (.int .i64 n0) := by simpa [Addr.add] using hn0
      obtain ⟨blk, off, spot⟩ := x
      have hs : spot = none := by simpa using World.cell?_spot hn0
      subst hs
      unfold World.cell? at hn0
      split at hn0
      · rename_i c ty fz hb
        have hcell : ∀ r, r < len → ∀ j, j < 3 → ∃ n : Int, c[off + (r * 3 + j)]? = some (.int .i64 n) := by
          intro r hr j hj
          obtain ⟨n, hn⟩ := hc r hr j hj
          refine ⟨n, ?_⟩
          have e : (⟨blk, off, none⟩ : Addr).add (r * 3 + j) = ⟨blk, off + (r * 3 + j), none⟩ := by
            unfold Addr.add
            split
            · rename_i h; rw [h]; rfl
            · rfl
          rw [e] at hn
          unfold World.cell? at hn
          rw [hb] at hn
          simpa using hn
        refine lawOfR (hp := hpA len fun r j => numAt c[off + (r * 3 + j)]?) (canon5 len _ many) (fun id b hb => ?_) (φ := fun id => if id = 0 then some ⟨blk, off, cap⟩ else none) (w := w) (fun id hid => ?_) (fun id b hb' => ?_) (vs := [.slice (some ⟨blk, off, none⟩) len cap, .int .i64 many]) ?_
        · cases id with
          | zero => simp [hpA, hget] at hb; subst hb; rfl
          | succ id => simp [hpA, hget] at hb
        · have : id ≠ 0 := by simp [hpA] at hid; omega
          simp [this]
        · cases id with
          | succ id => simp [hpA, hget] at hb'
          | zero =>
            simp [hpA, hget] at hb'
            subst hb'
            refine ⟨⟨blk, off, cap⟩, by simp, c, ty, fz, hb, (fun h => nomatch h), fun r hr => ⟨?_, rfl⟩⟩
            have hr : r < len := hr
            obtain ⟨a0, q0⟩ := hcell r hr 0 (by omega)
            obtain ⟨a1, q1⟩ := hcell r hr 1 (by omega)
            obtain ⟨a2, q2⟩ := hcell r hr 2 (by omega)
            have e : (c.toList.drop (off + r * 3)).take 3 = [.int .i64 a0, .int .i64 a1, .int .i64 a2] := by
              apply List.ext_getElem?
              intro j
              rw [List.getElem?_take]
              rcases j with _ | _ | _ | j
              · simpa [Nat.add_assoc] using q0
              · simpa [Nat.add_assoc] using q1
              · simpa [Nat.add_assoc] using q2
              · simp only [show ¬ (j + 1 + 1 + 1 < 3) by omega, if_false]
                rfl
            show RL _ [.int .i64 (numAt c[off + (r * 3 + 0)]?), .int .i64 (numAt c[off + (r * 3 + 1)]?), .int .i64 (numAt c[off + (r * 3 + 2)]?)] ((c.toList.drop (off + r * 3)).take 3)
            rw [e, q0, q1, q2]
            simp [RL, R, numAt]
        · simp [RL, R]
          omega
      · cases hn0
end Go.Proofs.Ythiencdknndagaa
