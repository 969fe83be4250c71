/-
  RttOrder: the law from the walk.
-/
import Derived.Test.YtepmbiahnicooaaV12
namespace Go.Proofs.Ytepmbiahnicooaa
open Go.RowKit

/-- A slice of numbers that came in. -/
def IsInts (w : World) (a : Option Addr) (len cap : Nat) : Prop :=
  len = 0 ∨ ∃ x : Addr, a = some x ∧ len ≤ cap ∧ ∀ r, r < len → ∃ n : Int, w.cell? (x.add r) = some (.int .i64 n)
theorem IsInts.at {w : World} {a : Option Addr} {len cap : Nat} (h : IsInts w a len cap) (hp : 0 < len) : ∃ (b off : Nat) (e : Nat → Int), a = some ⟨b, off, none⟩ ∧ len ≤ cap ∧ ∀ φ : Phi, BAt φ ⟨b, off, cap⟩ (bR len e) w := by
  rcases h with h | ⟨x, rfl, hl, hc⟩
  · omega
  · obtain ⟨n0, hn0⟩ := hc 0 hp
    have hn0 : w.cell? x = some (.int .i64 n0) := by simpa [Addr.add] using hn0
    obtain ⟨blk, off, spot⟩ := x
    have hs : spot = none := by simpa using World.cell?_spot hn0
    subst hs
    unfold World.cell? at hn0
    split at hn0
    · rename_i c ty fz hb
      have hcell : ∀ r, r < len → ∃ n : Int, c[off + r]? = some (.int .i64 n) := by
        intro r hr
        obtain ⟨n, hn⟩ := hc r hr
        refine ⟨n, ?_⟩
        have e : (⟨blk, off, none⟩ : Addr).add r = ⟨blk, off + r, none⟩ := by
          unfold Addr.add
          split
          · rename_i h; rw [h]; rfl
          · rfl
        rw [e] at hn
        unfold World.cell? at hn
        rw [hb] at hn
        simpa using hn
      refine ⟨blk, off, fun r => numAt c[off + r]?, rfl, hl, fun φ => ⟨c, ty, fz, hb, (fun h => nomatch h), fun r hr => ⟨?_, rfl⟩⟩⟩
      have hr : r < len := hr
      obtain ⟨a0, q0⟩ := hcell r hr
      have e : (c.toList.drop (off + r * 1)).take 1 = [.int .i64 a0] := by
        apply List.ext_getElem?
        intro j
        rw [List.getElem?_take]
        rcases j with _ | j
        · simpa using q0
        · simp only [show ¬ (j + 1 < 1) by omega, if_false]
          rfl
      show RL φ [.int .i64 (numAt c[off + r]?)] ((c.toList.drop (off + r * 1)).take 1)
      rw [e, q0]
      simp [RL, R, numAt]
    · cases hn0
theorem R_sl {φ : Phi} {id b off cap sz len : Nat} (h : φ id = some ⟨b, off, cap⟩) (hl : len ≤ cap) : R φ (.slice id 0 sz len) (.slice (some ⟨b, off, none⟩) len cap) := by
  simp only [R]
  exact ⟨_, h, by simpa using hl, by simp⟩
theorem R_es {φ : Phi} {a : Option Addr} {cap : Nat} : R φ .eslice (.slice a 0 cap) := by
  simp only [R]
  exact ⟨_, _, rfl⟩
theorem order_any (s : Option Addr) (len cap : Nat) (s' : Option Addr) (len' cap' : Nat) (w : World) (h : IsTriples w s len cap) (h' : IsInts w s' len' cap') :
    Calls Try.prog 6 #[.slice s len cap, .slice s' len' cap'] w fun e w' => e = .returned (.bool true) ∧ Below w.heap.size w w' := by
  rcases Nat.eq_zero_or_pos len with h0 | hp <;> rcases Nat.eq_zero_or_pos len' with h0' | hp'
  · subst h0 h0'
    refine lawOf (args := [.eslice, .eslice]) (evalF_ok (C := C8) ec gs8 mixed (u := 64) Try.func6 (by kernel_rfl) ?_) (vs := [.slice s 0 cap, .slice s' 0 cap']) ?_ w
    · rw [t6e (fun v => v = _)]
      refine ⟨tp5, ?_⟩
      intro l m s v f hr
      obtain ⟨rfl, rfl, rfl, rfl, rfl⟩ := run5 hr
      refine ⟨tp5, ?_⟩
      intro l m s v f hr
      obtain ⟨rfl, rfl, rfl, rfl, rfl⟩ := run5 hr
      rfl
    · exact RL.cons R_es (RL.cons R_es RL.nil)
  · subst h0
    obtain ⟨b, off, e, rfl, hl, hB⟩ := h'.at hp'
    have hc : Canon Try.prog 6 [.eslice, .slice 0 0 1 len'] [some (bR len' e)] fun v _ => v = .bool true := by
      refine CodeOK.body Try.func6 (by kernel_rfl) ?_
      show CodeOK Try.prog 1 (bodF Try.f6) _ _ (endK Try.prog ([4].map .tmp) _)
      refine CodeOK.fin (C := C8) ec gs8 mixed (u := 64) (M := []) (k := fun v _ => v = .bool true) ?_ fun v hp h => h
      show evalC C8 64 1 (bodF Try.f6) (enterS 77 [.eslice, .slice 0 0 1 len']) [some (bR len' e)] _
      rw [t6k, cb (show (0 : Int) < (len' : Int) by omega), show ((len' : Int) == 0) = false by simp; omega, Int.zero_tmod, cb (show (0 : Int) < (len' : Int) by omega), cb hp']
      simp only [cond_true, cond_false, Bool.and_true]
      rintro r ⟨r0, r1, -⟩
      rw [wrap_id (n := 5 + r) (by omega) (by omega)]
      refine ⟨tp5, ?_⟩
      intro l m s v f hr
      obtain ⟨rfl, rfl, rfl, rfl, rfl⟩ := run5 hr
      refine ⟨⟨⟨by omega, by omega⟩, ⟨by omega, by omega⟩, ⟨by omega, by omega⟩⟩, ?_⟩
      rintro l m s v f ⟨hr⟩
      have e1 : runR (litG [(5 + r, 0, 1)]) 1 = ⟨5 + r, 5 + r, 5 + r, (5 + r) / 2, 1⟩ := rfl
      rw [e1] at hr
      simp only [Rt.mk.injEq] at hr
      obtain ⟨rfl, rfl, rfl, rfl, rfl⟩ := hr
      rw [cb (show (5 : Int) ≤ 5 + r by omega)]
      exact ⟨.inl trivial, rfl⟩
    refine lawOfR hc (fun id b hb => ?_) (φ := fun id => if id = 0 then some ⟨b, off, cap'⟩ else none) (w := w) (fun id hid => ?_) (fun id b' hb' => ?_) (vs := [.slice s 0 cap, .slice (some ⟨b, off, none⟩) len' cap']) ?_
    · cases id with
      | zero => simp [hget] at hb; subst hb; rfl
      | succ id => simp [hget] at hb
    · have : id ≠ 0 := by simp at hid; omega
      simp [this]
    · cases id with
      | succ id => simp [hget] at hb'
      | zero =>
        simp [hget] at hb'
        subst hb'
        exact ⟨_, rfl, hB _⟩
    · exact RL.cons R_es (RL.cons (R_sl rfl hl) RL.nil)
  · subst h0'
    obtain ⟨b, off, g, rfl, hl, hB⟩ := h.at hp
    refine lawOfR (canon6x len g hp) (fun id b hb => ?_) (φ := fun id => if id = 0 then some ⟨b, off, cap⟩ else none) (w := w) (fun id hid => ?_) (fun id b' hb' => ?_) (vs := [.slice (some ⟨b, off, none⟩) len cap, .slice s' 0 cap']) ?_
    · match id, hb with
      | 0, hb => simp [hget] at hb; subst hb; rfl
      | 1, hb => simp [hget] at hb
      | id + 2, hb => simp [hget] at hb
    · have : id ≠ 0 := by simp at hid; omega
      simp [this]
    · match id, hb' with
      | 0, hb' =>
        simp [hget] at hb'
        subst hb'
        exact ⟨_, rfl, hB _⟩
      | 1, hb' => simp [hget] at hb'
      | id + 2, hb' => simp [hget] at hb'
    · exact RL.cons (R_sl rfl hl) (RL.cons R_es RL.nil)
  · obtain ⟨b, off, g, rfl, hl, hB⟩ := h.at hp
    obtain ⟨b2, off2, e, rfl, hl2, hB2⟩ := h'.at hp'
    refine lawOfR (canon6 len g len' e hp) (fun id b hb => ?_) (φ := fun id => if id = 0 then some ⟨b, off, cap⟩ else if id = 1 then some ⟨b2, off2, cap'⟩ else none) (w := w) (fun id hid => ?_) (fun id b' hb' => ?_) (vs := [.slice (some ⟨b, off, none⟩) len cap, .slice (some ⟨b2, off2, none⟩) len' cap']) ?_
    · match id, hb with
      | 0, hb => simp [hget] at hb; subst hb; rfl
      | 1, hb => simp [hget] at hb; subst hb; rfl
      | id + 2, hb => simp [hget] at hb
    · have h1 : id ≠ 0 := by simp at hid; omega
      have h2 : id ≠ 1 := by simp at hid; omega
      simp [h1, h2]
    · match id, hb' with
      | 0, hb' =>
        simp [hget] at hb'
        subst hb'
        exact ⟨_, rfl, hB _⟩
      | 1, hb' =>
        simp [hget] at hb'
        subst hb'
        exact ⟨_, rfl, hB2 _⟩
      | id + 2, hb' => simp [hget] at hb'
    · exact RL.cons (R_sl rfl hl) (RL.cons (R_sl rfl hl2) RL.nil)
end Go.Proofs.Ytepmbiahnicooaa
