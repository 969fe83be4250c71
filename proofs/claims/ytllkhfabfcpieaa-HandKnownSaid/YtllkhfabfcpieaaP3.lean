/-
  Chapter 16: HandSure, in plain words.
-/
import Derived.Test.YtllkhfabfcpieaaP2
namespace Go.Proofs.Ytllkhfabfcpieaa
/-- The same, of a server. -/
def twin (h : Hd) (v : Bool) : Hd := ⟨true, h.e0, h.e1, h.e2, v, h.cf, h.an⟩
def sureB (h : Hd) (b : Bool) (k s : Int) : Bool := b || ((k == 5 && (decide (0 < s) && livesV h s)) || (k == 4 && livesV h 2))
def sureT (h : Hd) (k s : Int) : Bool := bools.all fun v => h.sv || (!wfB (twin h v) || (callK (twin h v) k s == twin (callK h k s) (callK (twin h v) k s).va &&
  (sureV (callK h k s) == sureB h (sureV h) k s && (sureV (callK (twin h v) k s) && (validV (callK h k s) && confV (callK h k s) == confV (callK (twin h v) k s))))))
theorem sure_table : allHd (fun h => allKS (sureT h)) = true := by decide +kernel
theorem wfB_of {h : Hd} (w : WF h) : wfB h = true := by rw [wfB, w.c, w.s]; rfl
structure SureP (h m : Hd) (a b : Int) : Prop where
  tw : callH m a b = twin (callH h a b) (callH m a b).va
  su : sureV (callH h a b) = sureB h (sureV h) (a % 6) (b % 3)
  sm : sureV (callH m a b) = true
  va : validV (callH h a b) = true
  cf : confV (callH h a b) = confV (callH m a b)
theorem sure_step {h m : Hd} (w : WF h) (wm : WF m) (hs : h.sv = false) (ht : m = twin h m.va) (a b : Int) : SureP h m a b := by
  have := all_hks (P := sureT) sure_table w a b
  simp only [sureT, List.all_eq_true] at this
  have := this m.va (mem_bools _)
  rw [hs, Bool.false_or, ← ht, wfB_of wm, Bool.not_true, Bool.false_or] at this
  simp only [Bool.and_eq_true, beq_iff_eq] at this
  obtain ⟨h1, h2, h3, h4, h5⟩ := this
  exact ⟨h1, h2, h3, h4, h5⟩
theorem twin_play (g : Nat → Nat → Int) : ∀ n, playN true g n = twin (playN false g n) (playN true g n).va
  | 0 => rfl
  | n + 1 => (sure_step (wf_play false g n) (wf_play true g n) (sv_play false g n) (twin_play g n) _ _).tw
theorem sure_play (g : Nat → Nat → Int) (n : Nat) : SureP (playN false g n) (playN true g n) (g n 0) (g n 1) :=
  sure_step (wf_play false g n) (wf_play true g n) (sv_play false g n) (twin_play g n) _ _
end Go.Proofs.Ytllkhfabfcpieaa
