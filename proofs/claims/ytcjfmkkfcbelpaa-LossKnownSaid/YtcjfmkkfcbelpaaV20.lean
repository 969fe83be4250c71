/-
  Chapter 9 by the engine: slices that came in. (Printed by genopen.py.)
-/
import Derived.Test.YtcjfmkkfcbelpaaV18
namespace Go.Proofs.Ytcjfmkkfcbelpaa
open Go.RowKit
set_option linter.unusedSimpArgs false
def numAt : Option Value → Int
  | some (.int _ n) => n
  | _ => 0
def boolAt : Option Value → Bool
  | some (.bool b) => b
  | _ => false
theorem add_plain (blk off k : Nat) : (⟨blk, off, none⟩ : Addr).add k = ⟨blk, off + k, none⟩ := by
  unfold Addr.add
  split
  · rename_i h; rw [h]; rfl
  · rfl
/-- A slice of rows that came in. -/
def IsRws (w : World) (a : Option Addr) (len cap : Nat) : Prop :=
  len = 0 ∨ ∃ x : Addr, a = some x ∧ len ≤ cap ∧ ∀ r, r < len → (∀ j, j < 3 → ∃ n : Int, w.cell? (x.add (r * 3 + j)) = some (.int .i64 n))
theorem IsRws.cases {w : World} {a : Option Addr} {len cap : Nat} (h : IsRws w a len cap) : len = 0 ∨ 0 < len ∧ ∃ (b off : Nat) (g : Nat → Rw), a = some ⟨b, off, none⟩ ∧ len ≤ cap ∧ ∀ φ : Phi, BAt φ ⟨b, off, cap⟩ (bR len g) w := by
  rcases Nat.eq_zero_or_pos len with h0 | hp
  · exact .inl h0
  refine .inr ⟨hp, ?_⟩
  rcases h with h | ⟨x, rfl, hl, hc⟩
  · omega
  · obtain ⟨n0, hn0⟩ := hc 0 hp 0 (by omega)
    have hn0 : w.cell? x = some (.int .i64 n0) := by simpa [Addr.add] using hn0
    obtain ⟨blk, off, spot⟩ := x
    have hs : spot = none := by simpa using World.cell?_spot hn0
    subst hs
    unfold World.cell? at hn0
    split at hn0
    · rename_i c ty fz hb
      have get : ∀ k, w.cell? ((⟨blk, off, none⟩ : Addr).add k) = c[off + k]? := fun k => by
        rw [add_plain]
        unfold World.cell?
        simp [hb]
      refine ⟨blk, off, fun r => ⟨numAt c[off + (r * 3 + 0)]?, numAt c[off + (r * 3 + 1)]?, numAt c[off + (r * 3 + 2)]?⟩, rfl, hl, fun φ => ⟨c, ty, fz, hb, (fun h => nomatch h), fun r hr => ⟨?_, rfl⟩⟩⟩
      have hr : r < len := hr
      obtain ⟨a0, q0⟩ := hc r hr 0 (by omega)
      rw [get] at q0
      obtain ⟨a1, q1⟩ := hc r hr 1 (by omega)
      rw [get] at q1
      obtain ⟨a2, q2⟩ := hc r hr 2 (by omega)
      rw [get] at q2
      have e : (c.toList.drop (off + r * 3)).take 3 = [.int .i64 a0, .int .i64 a1, .int .i64 a2] := by
        apply List.ext_getElem?
        intro j
        rw [List.getElem?_take]
        rcases j with _ | _ | _ | j
        · simpa [Nat.add_assoc] using q0
        · simpa [Nat.add_assoc] using q1
        · simpa [Nat.add_assoc] using q2
        · simp only [show ¬ (j + 1 + 1 + 1 < 3) by omega, if_false]
          rfl
      show RL φ (rwC ⟨numAt c[off + (r * 3 + 0)]?, numAt c[off + (r * 3 + 1)]?, numAt c[off + (r * 3 + 2)]?⟩) ((c.toList.drop (off + r * 3)).take 3)
      rw [e, q0, q1, q2]
      simp [RL, R, numAt, boolAt, rwC]
    · cases hn0
/-- A slice of packets that came in. -/
def IsPks (w : World) (a : Option Addr) (len cap : Nat) : Prop :=
  len = 0 ∨ ∃ x : Addr, a = some x ∧ len ≤ cap ∧ ∀ r, r < len → (∀ j, j < 3 → ∃ n : Int, w.cell? (x.add (r * 6 + j)) = some (.int .i64 n)) ∧ (∀ j, 3 ≤ j → j < 6 → ∃ b : Bool, w.cell? (x.add (r * 6 + j)) = some (.bool b))
theorem IsPks.cases {w : World} {a : Option Addr} {len cap : Nat} (h : IsPks w a len cap) : len = 0 ∨ 0 < len ∧ ∃ (b off : Nat) (g : Nat → Pk), a = some ⟨b, off, none⟩ ∧ len ≤ cap ∧ ∀ φ : Phi, BAt φ ⟨b, off, cap⟩ (bP len g) w := by
  rcases Nat.eq_zero_or_pos len with h0 | hp
  · exact .inl h0
  refine .inr ⟨hp, ?_⟩
  rcases h with h | ⟨x, rfl, hl, hc⟩
  · omega
  · obtain ⟨n0, hn0⟩ := (hc 0 hp).1 0 (by omega)
    have hn0 : w.cell? x = some (.int .i64 n0) := by simpa [Addr.add] using hn0
    obtain ⟨blk, off, spot⟩ := x
    have hs : spot = none := by simpa using World.cell?_spot hn0
    subst hs
    unfold World.cell? at hn0
    split at hn0
    · rename_i c ty fz hb
      have get : ∀ k, w.cell? ((⟨blk, off, none⟩ : Addr).add k) = c[off + k]? := fun k => by
        rw [add_plain]
        unfold World.cell?
        simp [hb]
      refine ⟨blk, off, fun r => ⟨numAt c[off + (r * 6 + 0)]?, numAt c[off + (r * 6 + 1)]?, numAt c[off + (r * 6 + 2)]?, boolAt c[off + (r * 6 + 3)]?, boolAt c[off + (r * 6 + 4)]?, boolAt c[off + (r * 6 + 5)]?⟩, rfl, hl, fun φ => ⟨c, ty, fz, hb, (fun h => nomatch h), fun r hr => ⟨?_, rfl⟩⟩⟩
      have hr : r < len := hr
      obtain ⟨a0, q0⟩ := (hc r hr).1 0 (by omega)
      rw [get] at q0
      obtain ⟨a1, q1⟩ := (hc r hr).1 1 (by omega)
      rw [get] at q1
      obtain ⟨a2, q2⟩ := (hc r hr).1 2 (by omega)
      rw [get] at q2
      obtain ⟨a3, q3⟩ := (hc r hr).2 3 (by omega) (by omega)
      rw [get] at q3
      obtain ⟨a4, q4⟩ := (hc r hr).2 4 (by omega) (by omega)
      rw [get] at q4
      obtain ⟨a5, q5⟩ := (hc r hr).2 5 (by omega) (by omega)
      rw [get] at q5
      have e : (c.toList.drop (off + r * 6)).take 6 = [.int .i64 a0, .int .i64 a1, .int .i64 a2, .bool a3, .bool a4, .bool a5] := by
        apply List.ext_getElem?
        intro j
        rw [List.getElem?_take]
        rcases j with _ | _ | _ | _ | _ | _ | j
        · simpa [Nat.add_assoc] using q0
        · simpa [Nat.add_assoc] using q1
        · simpa [Nat.add_assoc] using q2
        · simpa [Nat.add_assoc] using q3
        · simpa [Nat.add_assoc] using q4
        · simpa [Nat.add_assoc] using q5
        · simp only [show ¬ (j + 1 + 1 + 1 + 1 + 1 + 1 < 6) by omega, if_false]
          rfl
      show RL φ (pkC ⟨numAt c[off + (r * 6 + 0)]?, numAt c[off + (r * 6 + 1)]?, numAt c[off + (r * 6 + 2)]?, boolAt c[off + (r * 6 + 3)]?, boolAt c[off + (r * 6 + 4)]?, boolAt c[off + (r * 6 + 5)]?⟩) ((c.toList.drop (off + r * 6)).take 6)
      rw [e, q0, q1, q2, q3, q4, q5]
      simp [RL, R, numAt, boolAt, pkC]
    · cases hn0
/-- A law over one slice. -/
theorem law1 {f : FuncId} {args : List SV} {vs : List Value} {B : Blk} (hrw : B.rw = false) {b off cap : Nat} (hcan : Canon Try.prog f args [some B] fun v _ => v = .bool true) {w : World} (hB : ∀ φ : Phi, BAt φ ⟨b, off, cap⟩ B w)
    (ha : RL (fun id => if id = 0 then some ⟨b, off, cap⟩ else none) args vs) : Calls Try.prog f vs.toArray w fun e w' => e = .returned (.bool true) ∧ Below w.heap.size w w' := by
  refine lawOfR hcan (fun id b hb => ?_) (φ := fun id => if id = 0 then some ⟨b, off, cap⟩ else none) (w := w) (fun id hid => ?_) (fun id b' hb' => ?_) ha
  · cases id with
    | zero => simp [hget] at hb; subst hb; exact hrw
    | succ id => simp [hget] at hb
  · have : id ≠ 0 := by simp at hid; omega
    simp [this]
  · cases id with
    | succ id => simp [hget] at hb'
    | zero =>
      simp [hget] at hb'
      subst hb'
      exact ⟨_, rfl, hB _⟩
end Go.Proofs.Ytcjfmkkfcbelpaa
