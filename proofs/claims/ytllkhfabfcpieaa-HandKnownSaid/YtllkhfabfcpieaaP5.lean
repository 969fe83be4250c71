/-
  Chapter 16: both handshakes side by side: what a call leaves them.
-/
import Derived.Test.YtllkhfabfcpieaaX10
namespace Go.Proofs.Ytllkhfabfcpieaa
open Go.RowKit
theorem lives_has {h : Hd} {s : Int} (hl : livesV h s = true) : hasV h s = true := by
  unfold livesV needsV at hl
  unfold hasV
  cases q : nothV h with
  | true => rw [q] at hl; cases hl
  | false =>
    rw [q] at hl
    cases q1 : inS s with
    | false => rw [q1] at hl; cases hl
    | true =>
      rw [q1] at hl
      simp only [Bool.not_true, cond_false] at hl
      cases q2 : stg h s != 1 with
      | true => rw [q2] at hl; cases hl
      | false =>
        have e : stg h s = 1 := by simpa using q2
        rw [e]; rfl
theorem Rel.live {hd : Hd} {sv va cf an : Bool} {nk ng : Nat} {kf gf : Nat → Int} (R : Rel hd sv nk kf gf ng va cf an) (s : Int) : livesV hd s = livM kf gf nk ng s := by
  unfold livM
  rw [R.has, R.gone]
  unfold goneV
  have := lives_has (h := hd) (s := s)
  cases h1 : livesV hd s with
  | true => rw [this h1]; rfl
  | false => cases hasV hd s <;> rfl
theorem no_nothing {h : Hd} (w : WF h) : nothV h = false := by
  unfold nothV
  rcases w.e0 with e | e <;> rw [e] <;> rfl
theorem cK_le (h : Hd) : cK h ≤ 3 := by
  unfold cK cnt0
  cases h.e0 == 0 <;> cases h.e1 == 0 <;> cases h.e2 == 0 <;> decide
theorem cG_le (h : Hd) : cG h ≤ 3 := by
  unfold cG cnt2
  cases h.e0 == 2 <;> cases h.e1 == 2 <;> cases h.e2 == 2 <;> decide
theorem cK_pos {h : Hd} (w : WF h) : 1 ≤ cK h := by
  unfold cK
  have : cnt0 h.e0 = 1 := by rcases w.e0 with e | e <;> rw [e] <;> rfl
  omega
theorem inS_iff {s : Int} (h : inS s = true) : 0 ≤ s ∧ s < 3 := by
  unfold inS at h
  simpa [Bool.and_eq_true] using h
theorem inS_cases {s : Int} (h : inS s = true) : s = 0 ∨ s = 1 ∨ s = 2 := by
  have := inS_iff h
  omega
theorem tab {P : Hd → Int → Int → Bool} (h : allHd (fun h => allKS (P h)) = true) {x : Hd} (w : WF x) {k s : Int} (hk : 0 ≤ k ∧ k < 6) (hs : inS s = true) : P x k s = true := by
  have := all_hks h w k s
  rwa [Int.emod_eq_of_lt hk.1 hk.2, Int.emod_eq_of_lt (inS_iff hs).1 (inS_iff hs).2] at this
def cT (h : Hd) (k s : Int) : Bool :=
  cK (callK h k s) == cK h + cond ((k == 0 || k == 1) && !hasV h s) 1 0 && (cG (callK h k s) == cG h + cond (k == 2 && (livesV h s && !(s == 2))) 1 0 && ((callK h k s).va == (h.va || (k == 3 || (k == 4 && livesV h 2))) && ((callK h k s).cf == (h.cf || (k == 4 && livesV h 2)) && ((callK h k s).an == (h.an || (k == 5 && (livesV h s && s != 0))) && ((callK h k s).sv == h.sv && wfF (callK h k s))))))
theorem c_table : allHd (fun h => allKS (cT h)) = true := by decide +kernel
def eT (h : Hd) (k s : Int) : Bool := callF h k s == (bif k == 0 || k == 1 then (bif goneV h s then 160 else 0) else bif k == 2 then (bif s == 2 then 2 else bif livesV h s then 0 else 160) else bif k == 3 then 0 else bif k == 4 then (bif livesV h 2 then 0 else 160) else bif livesV h s then 0 else 160)
theorem e_table : allHd (fun h => allKS (eT h)) = true := by decide +kernel
theorem eK {h : Hd} (w : WF h) {k s : Int} (hk : 0 ≤ k ∧ k < 6) (hs : inS s = true) : callF h k s = (bif k == 0 || k == 1 then (bif goneV h s then 160 else 0) else bif k == 2 then (bif s == 2 then 2 else bif livesV h s then 0 else 160) else bif k == 3 then 0 else bif k == 4 then (bif livesV h 2 then 0 else 160) else bif livesV h s then 0 else 160) := by
  have := tab (P := eT) e_table w hk hs
  unfold eT at this
  exact eq_of_beq this
theorem hasK {h : Hd} (w : WF h) {k s : Int} (hk : 0 ≤ k ∧ k < 6) (hs : inS s = true) (t : Int) : hasV (callK h k s) t = (hasV h t || ((k == 0 || k == 1) && s == t)) ∧ goneV (callK h k s) t = (goneV h t || (k == 2 && (s == t && (hasV h t && decide (t < 2))))) := by
  cases q : inS t with
  | true =>
    have := tab (P := liveT) live_table w hk hs
    unfold liveT at this
    obtain ⟨q0, q1, q2⟩ := three_ok this
    simp only [Bool.and_eq_true, beq_iff_eq] at q0 q1 q2
    rcases inS_cases q with rfl | rfl | rfl
    · exact q0
    · exact q1
    · exact q2
  | false =>
    have no : ∀ h : Hd, hasV h t = false := fun h => by unfold hasV; rw [q]; cases nothV h <;> rfl
    have ne : (s == t) = false := by
      cases e : s == t with
      | false => rfl
      | true =>
        have : s = t := eq_of_beq e
        rw [← this, hs] at q
        cases q
    unfold goneV
    rw [no, no, ne]
    simp
section
variable {hd : Hd} {sv va cf an va' cf' an' : Bool} {nk ng nk' ng' : Nat} {kf gf kf' gf' : Nat → Int} {k s : Int}
theorem Rel.step (R : Rel hd sv nk kf gf ng va cf an) (hk : 0 ≤ k ∧ k < 6) (hs : inS s = true) (h1 : nk' = nk + cond ((k == 0 || k == 1) && !inF kf nk s) 1 0)
    (h2 : ∀ t, inF kf' nk' t = (inF kf nk t || ((k == 0 || k == 1) && s == t))) (h3 : ng' = ng + cond (k == 2 && (livM kf gf nk ng s && !(s == 2))) 1 0)
    (h4 : ∀ t, inF gf' ng' t = (inF gf ng t || (k == 2 && (s == t && (inF kf nk t && decide (t < 2)))))) (h5 : va' = (va || (k == 3 || (k == 4 && livM kf gf nk ng 2)))) (h6 : cf' = (cf || (k == 4 && livM kf gf nk ng 2)))
    (h7 : an' = (an || (k == 5 && (livM kf gf nk ng s && s != 0)))) : Rel (callK hd k s) sv nk' kf' gf' ng' va' cf' an' := by
  have := tab (P := cT) c_table R.wf hk hs
  unfold cT at this
  simp only [Bool.and_eq_true, beq_iff_eq] at this
  obtain ⟨c1, c2, c3, c4, c5, c6, c7⟩ := this
  refine ⟨wf_of c7, ?_, ?_, ?_, ?_, ?_, ?_, fun t => ?_, fun t => ?_⟩
  · rw [c6, R.rsv]
  · rw [h5, c3, R.rva, R.live]
  · rw [h6, c4, R.rcf, R.live]
  · rw [h7, c5, R.ran, R.live]
  · rw [h1, c1, R.has, ← R.rnk]
  · rw [h3, c2, R.live, ← R.rng]
  · rw [h2, (hasK R.wf hk hs t).1, R.has]
  · rw [h4, (hasK R.wf hk hs t).2, R.gone, R.has]
theorem inF_app (f : Nat → Int) (n : Nat) (s t : Int) : inF (appF f n s) (n + 1) t = (inF f n t || s == t) := by
  show (inF (appF f n s) n t || appF f n s n == t) = _
  rw [inF_congr (f := appF f n s) (g := f) fun r hr => by unfold appF; rw [decide_eq_true hr, cond_true]]
  have : appF f n s n = s := by unfold appF; rw [decide_eq_false (Nat.lt_irrefl _), cond_false]
  rw [this]
theorem needs_out (w : WF hd) (q : (!inS s) = true) : needsV hd s = 9 := by
  unfold needsV
  rw [no_nothing w, q]
  rfl
theorem s_out2 (q : (!inS s) = true) : (s == 2) = false := by
  cases e : s == 2 with
  | false => rfl
  | true =>
    have : s = 2 := eq_of_beq e
    subst this
    cases q
/-- Out of range: nothing changes. -/
theorem keysH_out (w : WF hd) (q : (!inS s) = true) : keysH hd s = hd := by unfold keysH; rw [needs_out w q]; rfl
theorem keysE_out (w : WF hd) (q : (!inS s) = true) : keysE hd s = 9 := by unfold keysE; rw [needs_out w q]; rfl
theorem discH_out (w : WF hd) (q : (!inS s) = true) : discH hd s = hd := by unfold discH; rw [needs_out w q]; rfl
theorem discE_out (w : WF hd) (q : (!inS s) = true) : discE hd s = 9 := by unfold discE; rw [needs_out w q, s_out2 q, Bool.and_false]; rfl
theorem ansH_out (w : WF hd) (q : (!inS s) = true) : ansH hd s = hd := by unfold ansH; rw [needs_out w q]; rfl
theorem Rel.keysK (R : Rel hd sv nk kf gf ng va cf an) (q : (!inS s) = false) (q2 : (!inF kf nk s) = true) : Rel (keysH hd s) sv (nk + 1) (appF kf nk s) gf ng va cf an :=
  R.step (k := 0) (by decide) (bnT q) (by rw [q2]; rfl) (fun t => inF_app kf nk s t) rfl (fun t => by simp) (by simp) (by simp) (by simp)
theorem Rel.keysS (R : Rel hd sv nk kf gf ng va cf an) (q : (!inS s) = false) (q2 : (!inF kf nk s) = false) : Rel (keysH hd s) sv nk kf gf ng va cf an :=
  R.step (k := 0) (by decide) (bnT q) (by rw [q2]; rfl) (fun t => by
    cases e : s == t with
    | false => simp
    | true => rw [← (eq_of_beq e : s = t), bnT q2]; rfl) rfl (fun t => by simp) (by simp) (by simp) (by simp)
theorem Rel.goneHas (R : Rel hd sv nk kf gf ng va cf an) (q : inF gf ng s = true) : (!inF kf nk s) = false := by
  rw [R.gone] at q
  unfold goneV at q
  rw [R.has]
  cases h : hasV hd s with
  | true => rfl
  | false => rw [h] at q; cases q
theorem Rel.keysE_gone (R : Rel hd sv nk kf gf ng va cf an) (q : (!inS s) = false) (q1 : inF gf ng s = true) : keysE hd s = 160 := by
  have := eK R.wf (k := 0) (by decide) (bnT q)
  rw [← R.gone, q1] at this
  exact this
theorem Rel.keysE_ok (R : Rel hd sv nk kf gf ng va cf an) (q : (!inS s) = false) (q1 : inF gf ng s = false) : keysE hd s = 0 := by
  have := eK R.wf (k := 0) (by decide) (bnT q)
  rw [← R.gone, q1] at this
  exact this
theorem Rel.disc_two (R : Rel hd sv nk kf gf ng va cf an) (q1 : (s == 2) = true) : Rel (discH hd s) sv nk kf gf ng va cf an := by
  have : discH hd s = hd := by
    unfold discH
    rw [show (s != 2) = false by unfold bne; rw [q1]; rfl, Bool.and_false]
    rfl
  rw [this]
  exact R
theorem Rel.discE_two (R : Rel hd sv nk kf gf ng va cf an) (q1 : (s == 2) = true) : discE hd s = 2 := by unfold discE; rw [no_nothing R.wf, q1]; rfl
theorem Rel.disc_no (R : Rel hd sv nk kf gf ng va cf an) (q : (!inS s) = false) (q2 : (!livM kf gf nk ng s) = true) : Rel (discH hd s) sv nk kf gf ng va cf an :=
  R.step (k := 2) (by decide) (bnT q) rfl (fun t => by simp) (by rw [bnF q2]; rfl) (fun t => by
    cases e : s == t with
    | false => simp
    | true =>
      have e : s = t := eq_of_beq e
      subst e
      have := bnF q2
      unfold livM at this
      cases h1 : inF kf nk s with
      | false => simp
      | true =>
        rw [h1] at this
        cases h2 : inF gf ng s with
        | true => simp
        | false => rw [h2] at this; cases this) (by simp) (by simp) (by simp)
theorem Rel.discE_no (R : Rel hd sv nk kf gf ng va cf an) (q : (!inS s) = false) (q1 : (s == 2) = false) (q2 : (!livM kf gf nk ng s) = true) : discE hd s = 160 := by
  have := eK R.wf (k := 2) (by decide) (bnT q)
  rw [R.live, bnF q2, q1] at this
  exact this
theorem Rel.disc_yes (R : Rel hd sv nk kf gf ng va cf an) (q : (!inS s) = false) (q1 : (s == 2) = false) (q2 : (!livM kf gf nk ng s) = false) : Rel (discH hd s) sv nk kf (appF gf ng s) (ng + 1) va cf an :=
  R.step (k := 2) (by decide) (bnT q) rfl (fun t => by simp) (by rw [bnT q2, q1]; rfl) (fun t => by
    rw [inF_app]
    cases e : s == t with
    | false => simp
    | true =>
      have e : s = t := eq_of_beq e
      subst e
      have := bnT q2
      unfold livM at this
      have hl : s < 2 := by
        have := inS_iff (bnT q)
        have : s ≠ 2 := by simpa using q1
        omega
      cases h1 : inF kf nk s with
      | false => rw [h1] at this; cases this
      | true => simp [hl]) (by simp) (by simp) (by simp)
theorem Rel.discE_yes (R : Rel hd sv nk kf gf ng va cf an) (q : (!inS s) = false) (q1 : (s == 2) = false) (q2 : (!livM kf gf nk ng s) = false) : discE hd s = 0 := by
  have := eK R.wf (k := 2) (by decide) (bnT q)
  rw [R.live, bnT q2, q1] at this
  exact this
theorem Rel.valR (R : Rel hd sv nk kf gf ng va cf an) : Rel (valH hd) sv nk kf gf ng true cf an :=
  R.step (k := 3) (s := 0) (by decide) rfl rfl (fun t => by simp) rfl (fun t => by simp) (by simp) (by simp) (by simp)
theorem Rel.valE_ok (R : Rel hd sv nk kf gf ng va cf an) : valE hd = 0 := by unfold valE; rw [no_nothing R.wf]; rfl
theorem Rel.conf_yes (R : Rel hd sv nk kf gf ng va cf an) (q : livM kf gf nk ng 2 = true) : Rel (confH hd) sv nk kf gf ng true true an :=
  R.step (k := 4) (s := 0) (by decide) rfl rfl (fun t => by simp) rfl (fun t => by simp) (by rw [q]; simp) (by rw [q]; simp) (by simp)
theorem Rel.conf_no (R : Rel hd sv nk kf gf ng va cf an) (q : livM kf gf nk ng 2 = false) : Rel (confH hd) sv nk kf gf ng va cf an :=
  R.step (k := 4) (s := 0) (by decide) rfl rfl (fun t => by simp) rfl (fun t => by simp) (by rw [q]; simp) (by rw [q]; simp) (by simp)
theorem Rel.confE_yes (R : Rel hd sv nk kf gf ng va cf an) (q : livM kf gf nk ng 2 = true) : needsV hd 2 = 0 := by
  have := eK R.wf (k := 4) (s := 0) (by decide) rfl
  rw [R.live 2, q] at this
  exact this
theorem Rel.confE_no (R : Rel hd sv nk kf gf ng va cf an) (q : livM kf gf nk ng 2 = false) : needsV hd 2 = 160 := by
  have := eK R.wf (k := 4) (s := 0) (by decide) rfl
  rw [R.live 2, q] at this
  exact this
theorem Rel.ans_yes (R : Rel hd sv nk kf gf ng va cf an) (q : (!inS s) = false) (q1 : livM kf gf nk ng s = true) : Rel (ansH hd s) sv nk kf gf ng va cf (an || s != 0) :=
  R.step (k := 5) (by decide) (bnT q) rfl (fun t => by simp) rfl (fun t => by simp) (by simp) (by simp) (by rw [q1]; simp)
theorem Rel.ans_no (R : Rel hd sv nk kf gf ng va cf an) (q : (!inS s) = false) (q1 : livM kf gf nk ng s = false) : Rel (ansH hd s) sv nk kf gf ng va cf an :=
  R.step (k := 5) (by decide) (bnT q) rfl (fun t => by simp) rfl (fun t => by simp) (by simp) (by simp) (by rw [q1]; simp)
theorem Rel.ansE_yes (R : Rel hd sv nk kf gf ng va cf an) (q : (!inS s) = false) (q1 : livM kf gf nk ng s = true) : needsV hd s = 0 := by
  have := eK R.wf (k := 5) (by decide) (bnT q)
  rw [R.live, q1] at this
  exact this
theorem Rel.ansE_no (R : Rel hd sv nk kf gf ng va cf an) (q : (!inS s) = false) (q1 : livM kf gf nk ng s = false) : needsV hd s = 160 := by
  have := eK R.wf (k := 5) (by decide) (bnT q)
  rw [R.live, q1] at this
  exact this
end
end Go.Proofs.Ytllkhfabfcpieaa
