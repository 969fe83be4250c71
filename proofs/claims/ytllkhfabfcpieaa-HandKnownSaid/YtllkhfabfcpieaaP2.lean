/-
  Chapter 16: what handshakes may be, all of them in a table.
-/
import Derived.Test.YtllkhfabfcpieaaP
namespace Go.Proofs.Ytllkhfabfcpieaa
/-- What may be. -/
structure WF (h : Hd) : Prop where
  e0 : h.e0 = 1 ∨ h.e0 = 2
  e1 : h.e1 = 0 ∨ h.e1 = 1 ∨ h.e1 = 2
  e2 : h.e2 = 0 ∨ h.e2 = 1
  c : (h.cf && !(h.va && h.e2 == 1)) = false
  s : (!h.sv && !h.va) = false
def bools : List Bool := [false, true]
def wfB (h : Hd) : Bool := !(h.cf && !(h.va && h.e2 == 1)) && !(!h.sv && !h.va)
def allHd (P : Hd → Bool) : Bool :=
  bools.all fun sv => [(1 : Int), 2].all fun e0 => [(0 : Int), 1, 2].all fun e1 => [(0 : Int), 1].all fun e2 => bools.all fun va => bools.all fun cf => bools.all fun an => !wfB ⟨sv, e0, e1, e2, va, cf, an⟩ || P ⟨sv, e0, e1, e2, va, cf, an⟩
theorem mem_bools (b : Bool) : b ∈ bools := by cases b <;> simp [bools]
theorem all_hd {P : Hd → Bool} (h : allHd P = true) {x : Hd} (w : WF x) : P x = true := by
  unfold allHd at h
  simp only [List.all_eq_true] at h
  have := h x.sv (mem_bools _) x.e0 (by rcases w.e0 with e | e <;> simp [e]) x.e1 (by rcases w.e1 with e | e | e <;> simp [e]) x.e2 (by rcases w.e2 with e | e <;> simp [e]) x.va (mem_bools _) x.cf (mem_bools _) x.an (mem_bools _)
  have e : Hd.mk x.sv x.e0 x.e1 x.e2 x.va x.cf x.an = x := rfl
  rw [e] at this
  have hw : wfB x = true := by rw [wfB, w.c, w.s]; rfl
  simpa [hw] using this
/-- One call, by its kind and its space. -/
def callK (h : Hd) (k s : Int) : Hd :=
  bif k == 0 then keysH h s else bif k == 1 then keysH h s else bif k == 2 then discH h s else bif k == 3 then valH h else bif k == 4 then confH h else ansH h s
def callF (h : Hd) (k s : Int) : Int :=
  bif k == 0 then keysE h s else bif k == 1 then keysE h s else bif k == 2 then discE h s else bif k == 3 then valE h else bif k == 4 then needsV h 2 else needsV h s
theorem callH_eq (h : Hd) (a b : Int) : callH h a b = callK h (a % 6) (b % 3) := rfl
theorem callE_eq (h : Hd) (a b : Int) : callE h a b = callF h (a % 6) (b % 3) := rfl
def allKS (P : Int → Int → Bool) : Bool := [(0 : Int), 1, 2, 3, 4, 5].all fun k => [(0 : Int), 1, 2].all fun s => P k s
theorem all_ks {P : Int → Int → Bool} (h : allKS P = true) (a b : Int) : P (a % 6) (b % 3) = true := by
  unfold allKS at h
  simp only [List.all_eq_true] at h
  refine h _ ?_ _ ?_
  · have : a % 6 = 0 ∨ a % 6 = 1 ∨ a % 6 = 2 ∨ a % 6 = 3 ∨ a % 6 = 4 ∨ a % 6 = 5 := by omega
    rcases this with e | e | e | e | e | e <;> simp [e]
  · have : b % 3 = 0 ∨ b % 3 = 1 ∨ b % 3 = 2 := by omega
    rcases this with e | e | e <;> simp [e]
theorem all_hks {P : Hd → Int → Int → Bool} (h : allHd (fun h => allKS (P h)) = true) {x : Hd} (w : WF x) (a b : Int) : P x (a % 6) (b % 3) = true :=
  all_ks (P := P x) (all_hd (P := fun h => allKS (P h)) h w) a b
def wfF (h : Hd) : Bool := (h.e0 == 1 || h.e0 == 2) && ((h.e1 == 0 || (h.e1 == 1 || h.e1 == 2)) && ((h.e2 == 0 || h.e2 == 1) && wfB h))
theorem wf_of {h : Hd} (w : wfF h = true) : WF h := by
  simp only [wfF, wfB, Bool.and_eq_true, Bool.or_eq_true, beq_iff_eq, Bool.not_eq_true'] at w
  obtain ⟨h1, h2, h3, h4, h5⟩ := w
  exact ⟨h1, h2, h3, h4, h5⟩
theorem wf_new (b : Bool) : WF (newH b) := by cases b <;> exact wf_of (by decide)
theorem wf_call {h : Hd} (w : WF h) (a b : Int) : WF (callH h a b) :=
  wf_of (all_hks (P := fun h k s => wfF (callK h k s)) (by decide +kernel) w a b)
theorem sv_call {h : Hd} (w : WF h) (a b : Int) : (callH h a b).sv = h.sv := by
  have := all_hks (P := fun h k s => (callK h k s).sv == h.sv) (by decide +kernel) w a b
  simpa [callH_eq] using this
/-- A handshake behind calls. -/
def playN (b : Bool) (g : Nat → Nat → Int) : Nat → Hd
  | 0 => newH b
  | i + 1 => callH (playN b g i) (g i 0) (g i 1)
theorem wf_play (b : Bool) (g : Nat → Nat → Int) : ∀ n, WF (playN b g n)
  | 0 => wf_new b
  | n + 1 => wf_call (wf_play b g n) _ _
theorem sv_play (b : Bool) (g : Nat → Nat → Int) : ∀ n, (playN b g n).sv = b
  | 0 => rfl
  | n + 1 => (sv_call (wf_play b g n) _ _).trans (sv_play b g n)
end Go.Proofs.Ytllkhfabfcpieaa
