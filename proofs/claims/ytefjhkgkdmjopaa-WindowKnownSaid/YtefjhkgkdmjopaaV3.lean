/-
  Chapter 11 by the engine: New, Check, Slow, Acked, Bad, Collapse, and the document's answers.
-/
import Derived.Test.YtefjhkgkdmjopaaV2
import Derived.Test.YtefjhkgkdmjopaaT3
namespace Go.Proofs.Ytefjhkgkdmjopaa
open Go.RowKit
section
attribute [local irreducible] evalC
set_option maxRecDepth 100000
/-- What is handed back. -/
def V (w : Wn) (ok : Bool) (r : Wn) : SV := .tuple [.agg (wC (chW w ok r)), .int .i64 (chE w ok)]
theorem V_no {w : Wn} {ok : Bool} {r : Wn} (h : mayW w = false) : SV.tuple [.agg (wC zW), .int .i64 2] = V w ok r := by
  unfold V chW chE; rw [h]; rfl
theorem V_bad {w : Wn} {r : Wn} (h : mayW w = true) : SV.tuple [.agg (wC zW), .int .i64 9] = V w false r := by
  unfold V chW chE; rw [h]; rfl
theorem V_yes {w : Wn} {r : Wn} (h : mayW w = true) : SV.tuple [.agg (wC r), .int .i64 0] = V w true r := by
  unfold V chW chE; rw [h]; rfl
theorem V_ids (w : Wn) (ok : Bool) (r : Wn) : svIds (V w ok r) = [] := rfl
theorem res_ok {w : Wn} {ok : Bool} {r : Wn} {k : SV → Wr → List Blk → Prop} (h : res w ok r k) : k (V w ok r) [] [] := h _ _ rfl rfl
theorem r29_40 (w : Wn) (ok : Bool) : Canon Try.prog 29 [.agg (wC w), .bool ok, .func (.func 40) [] []] [] fun v _ => v = V w ok (col1 w) := by
  refine CodeOK.body Try.func29 (by kernel_rfl) (CodeOK.eval (C := C3) ec gs3 mixed 64 ?_)
  show evalC C3 64 0 (bodF Try.f29) (enterS 28 _) _ (endK Try.prog Try.f29.results.toList _)
  rw [t29_40 w ok (fun v => v = V w ok (col1 w)), eta]
  refine condSplit (fun q => ?_) fun q => ?_
  · exact V_no (by simpa using q)
  have q : mayW w = true := by simpa using q
  refine condSplit (fun q2 => ?_) fun q2 => ?_
  · obtain rfl : ok = false := by simpa using q2
    exact V_bad q
  obtain rfl : ok = true := by simpa using q2
  refine ⟨q, ?_⟩
  rintro w' rfl
  exact V_yes q
theorem r29_38 (w : Wn) (ok : Bool) (x y : Int) : Canon Try.prog 29 [.agg (wC w), .bool ok, .func (.func 38) [] [.ptr 0 0 1 0, .ptr 1 0 1 0]] [some (oneB [.int .i64 x] false 0), some (oneB [.int .i64 y] false 0)] fun v _ => v = V w ok (bad1 w x y) := by
  refine CodeOK.body Try.func29 (by kernel_rfl) (CodeOK.eval (C := C3) ec gs3 mixed 64 ?_)
  show evalC C3 64 2 (bodF Try.f29) (enterS 28 _) _ (endK Try.prog Try.f29.results.toList _)
  rw [t29_38 w ok x y (fun v => v = V w ok (bad1 w x y)), eta]
  refine condSplit (fun q => ?_) fun q => ?_
  · exact V_no (by simpa using q)
  have q : mayW w = true := by simpa using q
  refine condSplit (fun q2 => ?_) fun q2 => ?_
  · obtain rfl : ok = false := by simpa using q2
    exact V_bad q
  obtain rfl : ok = true := by simpa using q2
  refine ⟨q, ?_⟩
  rintro w' rfl
  exact V_yes q
theorem r29_31 (w : Wn) (ok x : Bool) (p : Pk) (hs : ok = true → 1 ≤ p.s ∧ p.s ≤ 65535) : Canon Try.prog 29 [.agg (wC w), .bool ok, .func (.func 31) [] [.ptr 0 0 1 0, .ptr 1 0 6 0]] [some (oneB [.bool x] false 0), some (oneB (pC p) false 0)] fun v _ => v = V w ok (ack1 w p.t p.s x) := by
  refine CodeOK.body Try.func29 (by kernel_rfl) (CodeOK.eval (C := C3) ec gs3 mixed 64 ?_)
  show evalC C3 64 2 (bodF Try.f29) (enterS 28 _) _ (endK Try.prog Try.f29.results.toList _)
  rw [t29_31 w ok x p (fun v => v = V w ok (ack1 w p.t p.s x)), eta]
  refine condSplit (fun q => ?_) fun q => ?_
  · exact V_no (by simpa using q)
  have q : mayW w = true := by simpa using q
  refine condSplit (fun q2 => ?_) fun q2 => ?_
  · obtain rfl : ok = false := by simpa using q2
    exact V_bad q
  obtain rfl : ok = true := by simpa using q2
  refine ⟨⟨q, hs rfl⟩, ?_⟩
  rintro w' rfl
  exact V_yes q
theorem ok29 : SpecOK Try.prog 29 s29 := by
  intro args h base k hk
  unfold s29 at hk
  have hc := cal (f := 29) Try.func29 (by kernel_rfl) (by kernel_rfl)
  split at hk
  · rename_i d m c t s g ok f cap
    cases h40 : Nat.beq f 40 with
    | true =>
      obtain rfl := Nat.eq_of_beq_eq_true h40
      rw [h40, cond_true] at hk
      split at hk
      · exact ⟨_, [], [], res_ok hk, CSim.plain hc (r29_40 ⟨d, m, c, t, s, g⟩ ok) rfl rfl h base⟩
      · cases hk
    | false =>
    rw [h40, cond_false] at hk
    cases h38 : Nat.beq f 38 with
    | true =>
      obtain rfl := Nat.eq_of_beq_eq_true h38
      rw [h38, cond_true] at hk
      split at hk
      · rename_i x y
        cases hxy : Nat.beq x y with
        | true => rw [hxy] at hk; exact hk.elim
        | false =>
        rw [hxy, cond_false] at hk
        obtain ⟨bx, vx, x1, x2, x3, x4, hk⟩ := intR_ok hk
        obtain ⟨by', vy, y1, y2, y3, y4, hk⟩ := intR_ok hk
        exact ⟨_, [], [], res_ok hk, CSim.reads hc _ _ [x, y] rfl (r29_38 ⟨d, m, c, t, s, g⟩ ok vx vy) rfl (two_wb rfl x1 x2 x3 x4 rfl y1 y2 y3 y4 rfl) rfl base⟩
      · cases hk
    | false =>
    rw [h38, cond_false] at hk
    cases h31 : Nat.beq f 31 with
    | true =>
      obtain rfl := Nat.eq_of_beq_eq_true h31
      rw [h31, cond_true] at hk
      split at hk
      · rename_i x y
        obtain ⟨bx, vx, x1, x2, x3, x4, hk⟩ := boolR_ok hk
        obtain ⟨by', p, y1, y2, y3, y4, hs, hk⟩ := pktR_ok hk
        exact ⟨_, [], [], res_ok hk, CSim.reads hc _ _ [x, y] rfl (r29_31 ⟨d, m, c, t, s, g⟩ ok vx p hs) rfl (two_wb rfl x1 x2 x3 x4 rfl y1 y2 y3 y4 rfl) rfl base⟩
      · cases hk
    | false => rw [h31] at hk; exact hk.elim
  · cases hk
theorem ok20 : SpecOK Try.prog 20 sCheck := by
  intro args h base k hk
  unfold sCheck at hk
  split at hk
  · obtain ⟨w, rfl, hk⟩ := agW_ok hk
    refine ⟨_, [], [], hk, plainOK gs3 Try.func20 (by kernel_rfl) (by kernel_rfl) ?_ rfl rfl h base⟩
    show evalF C3 64 Try.f20 _ [] _
    rw [t20 w (fun v => v = _), eta]
    cases mayW w <;> rfl
  · cases hk
theorem ok21 : SpecOK Try.prog 21 sCheck := by
  intro args h base k hk
  unfold sCheck at hk
  split at hk
  · obtain ⟨w, rfl, hk⟩ := agW_ok hk
    refine ⟨_, [], [], hk, plainOK gs3 Try.func21 (by kernel_rfl) (by kernel_rfl) ?_ rfl rfl h base⟩
    show evalF C3 64 Try.f21 _ [] _
    rw [t21 w (fun v => v = _)]
    have yes : (1200 ≤ w.d ∧ w.d ≤ 65527 ∧ w.m ≤ 1099511627776 ∧ 2 * w.d ≤ w.c ∧ w.c ≤ w.m ∧ 0 ≤ w.g ∧ w.g < w.c ∧ (w.t = -1 ∨ w.d ≤ w.t ∧ w.t ≤ w.m) ∧ (w.s = -1 ∨ 0 ≤ w.s ∧ w.s ≤ 9007199254740991)) → SV.int .i64 0 = .int .i64 (bif mayW w then 0 else 2) := fun h => by
      rw [may_of (b := true) (by simpa using h)]; rfl
    have no : ¬ (1200 ≤ w.d ∧ w.d ≤ 65527 ∧ w.m ≤ 1099511627776 ∧ 2 * w.d ≤ w.c ∧ w.c ≤ w.m ∧ 0 ≤ w.g ∧ w.g < w.c ∧ (w.t = -1 ∨ w.d ≤ w.t ∧ w.t ≤ w.m) ∧ (w.s = -1 ∨ 0 ≤ w.s ∧ w.s ≤ 9007199254740991)) → SV.int .i64 2 = .int .i64 (bif mayW w then 0 else 2) := fun h => by
      rw [may_of (b := false) (by simpa using h)]; rfl
    refine condSplit (fun q1 => no ?_) fun q1 => ?_
    · simp only [decide_eq_true_eq] at q1; omega
    refine condSplit (fun q2 => no ?_) fun q2 => ?_
    · simp only [decide_eq_true_eq] at q2; omega
    simp only [decide_eq_false_iff_not] at q1 q2
    rw [wrap_id (by omega) (by omega)]
    repeat' (refine condSplit (fun q => ?_) fun q => ?_)
    all_goals
      simp only [decide_eq_true_eq, decide_eq_false_iff_not, bne_iff_ne, ne_eq, bne_eq_false_iff_eq, isT, Bool.not_eq_true', Bool.not_eq_false', Bool.and_eq_true, Bool.and_eq_false_imp] at *
    all_goals first
      | (refine yes ?_; omega)
      | (refine no ?_; omega)
  · cases hk
theorem ok37 : SpecOK Try.prog 37 s37 := by
  intro args h base k hk
  unfold s37 at hk
  split at hk
  · rename_i n
    obtain ⟨w, rfl, hk⟩ := agW_ok hk
    refine ⟨_, [], [], hk, plainOK gs3 Try.func37 (by kernel_rfl) (by kernel_rfl) ?_ rfl rfl h base⟩
    show evalF C3 64 Try.f37 _ [] _
    rw [t37 w n (fun v => v = _)]
    unfold behV
    refine condSplit (fun q => ?_) fun q => ?_ <;> rw [q] <;> rfl
  · cases hk
theorem gs4 : GSound C4 := (((gs3.add ok29).add ok20).add ok21).add ok37
theorem chk_ne (b : Bool) : ((bif b then (0 : Int) else 2) != 0) = !b := by cases b <;> rfl
theorem chk_eq (b : Bool) : ((bif b then (0 : Int) else 2) == 0) = b := by cases b <;> rfl
theorem ok12 : SpecOK Try.prog 12 sAcked := by
  intro args h base k hk
  unfold sAcked at hk
  split at hk
  · rename_i full
    obtain ⟨w, rfl, hk1⟩ := agW_ok hk
    obtain ⟨p, rfl, hk2⟩ := agP_ok hk1
    refine ⟨_, [], [], res_ok hk2, plainOK gs4 Try.func12 (by kernel_rfl) (by kernel_rfl) ?_ rfl (V_ids _ _ _) h base⟩
    show evalF C4 64 Try.f12 _ [] _
    rw [t12 w p full (fun v => v = V w (ackOk p.t p.s) (ack1 w p.t p.s full))]
    unfold ackOk
    refine condSplit (fun q => ?_) fun q => ?_
    · refine condSplit (fun q2 => ?_) fun q2 => ?_
      · rw [q, q2]
        refine ⟨fun h => ⟨(of_decide_eq_true q2 : 1 ≤ p.s), (of_decide_eq_true h : p.s ≤ 65535)⟩, ?_⟩
        rintro r' e rfl rfl
        rfl
      · rw [q, q2]
        refine ⟨(fun h => nomatch h), ?_⟩
        rintro r' e rfl rfl
        rfl
    · rw [q]
      refine ⟨(fun h => nomatch h), ?_⟩
      rintro r' e rfl rfl
      rfl
  · cases hk
theorem ok14 : SpecOK Try.prog 14 sBad := by
  intro args h base k hk
  unfold sBad at hk
  split at hk
  · rename_i x y
    obtain ⟨w, rfl, hk⟩ := agW_ok hk
    refine ⟨_, [], [], res_ok hk, plainOK gs4 Try.func14 (by kernel_rfl) (by kernel_rfl) ?_ rfl (V_ids _ _ _) h base⟩
    show evalF C4 64 Try.f14 _ [] _
    rw [t14 w x y (fun v => v = V w (isT x && isT y) (bad1 w x y))]
    refine condSplit (fun q => ?_) fun q => ?_
    · rw [q]
      rintro r' e rfl rfl
      rfl
    · rw [q]
      rintro r' e rfl rfl
      rfl
  · cases hk
theorem ok15 : SpecOK Try.prog 15 sBad := by
  intro args h base k hk
  unfold sBad at hk
  split at hk
  · rename_i x y
    obtain ⟨w, rfl, hk⟩ := agW_ok hk
    refine ⟨_, [], [], res_ok hk, plainOK gs4 Try.func15 (by kernel_rfl) (by kernel_rfl) ?_ rfl (V_ids _ _ _) h base⟩
    show evalF C4 64 Try.f15 _ [] _
    rw [t15 w x y (fun v => v = V w (isT x && isT y) (bad1 w x y)), eta, chk_ne]
    refine condSplit (fun q => ?_) fun q => ?_
    · have q : mayW w = false := by simpa using q
      rw [q]; exact V_no q
    have q : mayW w = true := by simpa using q
    have hd := may_d q
    refine condSplit (fun q2 => ?_) fun q2 => ?_
    · have q2 : isT x = false := by simpa using q2
      rw [q2]; exact V_bad q
    have q2 : isT x = true := by simpa using q2
    refine condSplit (fun q3 => ?_) fun q3 => ?_
    · have q3 : isT y = false := by simpa using q3
      rw [q2, q3]; exact V_bad q
    have q3 : isT y = true := by simpa using q3
    rw [q2, q3]
    refine condSplit (fun q4 => Eq.trans ?_ (V_yes q)) fun q4 => Eq.trans ?_ (V_yes q)
    · unfold bad1
      rw [q4]; rfl
    · unfold bad1
      rw [q4, wrap_id (n := 2 * w.d) (by omega) (by omega), Int.tdiv_eq_ediv_of_nonneg (by omega), wrap_id (by omega) (by omega)]; rfl
  · cases hk
theorem ok16 : SpecOK Try.prog 16 sColl := by
  intro args h base k hk
  unfold sColl at hk
  split at hk
  · obtain ⟨w, rfl, hk⟩ := agW_ok hk
    refine ⟨_, [], [], res_ok hk, plainOK gs4 Try.func16 (by kernel_rfl) (by kernel_rfl) ?_ rfl (V_ids _ _ _) h base⟩
    show evalF C4 64 Try.f16 _ [] _
    rw [t16 w (fun v => v = V w true (col1 w))]
    rintro r' e rfl rfl
    rfl
  · cases hk
theorem ok17 : SpecOK Try.prog 17 sColl := by
  intro args h base k hk
  unfold sColl at hk
  split at hk
  · obtain ⟨w, rfl, hk⟩ := agW_ok hk
    refine ⟨_, [], [], res_ok hk, plainOK gs4 Try.func17 (by kernel_rfl) (by kernel_rfl) ?_ rfl (V_ids _ _ _) h base⟩
    show evalF C4 64 Try.f17 _ [] _
    rw [t17 w (fun v => v = V w true (col1 w)), eta, chk_ne]
    refine condSplit (fun q => ?_) fun q => ?_
    · have q : mayW w = false := by simpa using q
      rw [q]; exact V_no q
    have q : mayW w = true := by simpa using q
    have hd := may_d q
    rw [wrap_id (by omega) (by omega)]
    exact V_yes (r := col1 w) q
  · cases hk
theorem ok18 : SpecOK Try.prog 18 sNew := by
  intro args h base k hk
  unfold sNew at hk
  split at hk
  · rename_i d f m
    refine ⟨_, [], [], res_ok hk, plainOK gs4 Try.func18 (by kernel_rfl) (by kernel_rfl) ?_ rfl (V_ids _ _ _) h base⟩
    show evalF C4 64 Try.f18 _ [] _
    rw [t18 d f m (fun v => v = V (newW d f m) true (newW d f m)), chk_ne]
    refine condSplit (fun q => ?_) fun q => ?_
    · have q : mayW (newW d f m) = false := by simpa [newW] using q
      rw [show mayW ⟨d, m, f, -1, -1, 0⟩ = false from q]; exact V_no q
    have q : mayW (newW d f m) = true := by simpa [newW] using q
    exact V_yes (r := newW d f m) q
  · cases hk
theorem ok19 : SpecOK Try.prog 19 sNew := by
  intro args h base k hk
  unfold sNew at hk
  split at hk
  · rename_i d f m
    refine ⟨_, [], [], res_ok hk, plainOK gs4 Try.func19 (by kernel_rfl) (by kernel_rfl) ?_ rfl (V_ids _ _ _) h base⟩
    show evalF C4 64 Try.f19 _ [] _
    rw [t19 d f m (fun v => v = V (newW d f m) true (newW d f m)), chk_ne]
    refine condSplit (fun q => ?_) fun q => ?_
    · have q : mayW (newW d f m) = false := by simpa [newW] using q
      exact V_no q
    have q : mayW (newW d f m) = true := by simpa [newW] using q
    exact V_yes (r := newW d f m) q
  · cases hk
theorem ok22 : SpecOK Try.prog 22 sSlow := by
  intro args h base k hk
  unfold sSlow at hk
  split at hk
  · obtain ⟨w, rfl, hk⟩ := agW_ok hk
    refine ⟨_, [], [], hk, plainOK gs4 Try.func22 (by kernel_rfl) (by kernel_rfl) ?_ rfl rfl h base⟩
    show evalF C4 64 Try.f22 _ [] _
    rw [t22 w (fun v => v = _), eta]
    cases mayW w <;> rfl
  · cases hk
theorem ok23 : SpecOK Try.prog 23 sSlow := by
  intro args h base k hk
  unfold sSlow at hk
  split at hk
  · obtain ⟨w, rfl, hk⟩ := agW_ok hk
    refine ⟨_, [], [], hk, plainOK gs4 Try.func23 (by kernel_rfl) (by kernel_rfl) ?_ rfl rfl h base⟩
    show evalF C4 64 Try.f23 _ [] _
    rw [t23 w (fun v => v = _), eta, chk_eq]
    cases mayW w
    · rfl
    · unfold slowV
      rw [cond_true]
      refine condSplit (fun q => ?_) fun q => ?_ <;> rw [q] <;> rfl
  · cases hk
theorem gs5 : GSound C5 := (gs4.add ok23).add ok22
/-! ### The document's answer to an acknowledgement -/
abbrev f13 : List SV := tplF 79 L13 v13
abbrev m13 (w : Wn) (p : Pk) : LHeap := (h13 w p).map mkB
theorem ids13 (w : Wn) (p : Pk) : allIds 3 (h13 w p) := ⟨rfl, rfl, rfl, trivial⟩
def at13 (p : Pk) (e : Ex) (w : Wn) : Ex → List SV → List BO → Prop := fun x vals B => x = e ∧ vals = v13 ∧ B = h13 w p
theorem step13 {w : Wn} {p : Pk} (e : Ex) {cd : Code} {fr : List SV} {hp : LHeap} (hh : evalC C5 0 0 cd fr hp (obsN L13 M13 (seen 79 3 (at13 p e w)))) {K : KC} (hK : K e f13 (m13 w p)) : CodeOK Try.prog 0 cd fr hp K :=
  (CodeOK.lookN (C := C5) ec gs5 mixed (u := 0) (M := M13) (by decide) hh).st fun x vals B hh => by
    obtain ⟨rfl, rfl, rfl⟩ := hh
    exact hK
theorem wk13 (w : Wn) (p : Pk) : Weak 0 f13 (m13 w p) f13 (m13 w p) := tpl_weak (B := h13 w p) (R := []) ⟨.inr rfl, .inr rfl, trivial⟩ rfl (ids13 w p) (Nat.zero_le _)
theorem loop13 (w : Wn) (p : Pk) (hw : mayW w = true) (r : Int × Int) {n : Nat} {x : Int × Int} (h : Slo w r n x) {K : KC} (hK : K (.exit 0) f13 (m13 (wgc w r) p)) : CodeOK Try.prog 0 (.loop c13_6) f13 (m13 (wgc w x) p) K := by
  refine CodeOK.loop (fun n fr hp => ∃ x, Slo w r n x ∧ fr = f13 ∧ hp = m13 (wgc w x) p) ?_ (n := n) ⟨x, h, rfl, rfl⟩
  rintro n fr hp ⟨x, h, rfl, rfl⟩
  have hd := may_d hw
  by_cases hx : x.2 ≤ x.1
  · obtain ⟨n', rfl, h'⟩ := h.step hw hx
    refine step13 (w := wgc w (x.1 - x.2, minI (x.2 + w.d) w.m)) (p := p) .normal ?_ ⟨n', _, _, by omega, wk13 _ _, _, h', rfl, rfl⟩
    rw [p13b]
    have h2 := h.g
    have h3 := h.c
    rw [cb (show (wgc w x).c ≤ (wgc w x).g from hx), cond_true, wrap_id (show -9223372036854775808 ≤ (wgc w x).g - (wgc w x).c from show -9223372036854775808 ≤ x.1 - x.2 by omega) (show (wgc w x).g - (wgc w x).c ≤ 9223372036854775807 from show x.1 - x.2 ≤ 9223372036854775807 by omega),
      wrap_id (show -9223372036854775808 ≤ (wgc w x).c + (wgc w x).d from show -9223372036854775808 ≤ x.2 + w.d by omega) (show (wgc w x).c + (wgc w x).d ≤ 9223372036854775807 from show x.2 + w.d ≤ 9223372036854775807 by omega)]
    exact ⟨rfl, rfl, ids13 (wgc w (x.1 - x.2, minI (x.2 + w.d) w.m)) p, rfl, rfl, rfl⟩
  · obtain rfl := h.done hx
    refine step13 (w := wgc w x) (p := p) (.exit 0) ?_ hK
    rw [p13b, cf (show ¬ (wgc w x).c ≤ (wgc w x).g from hx), cond_false]
    exact ⟨rfl, rfl, ids13 _ p, rfl, rfl, rfl⟩
theorem canon13 (w : Wn) (p : Pk) (full : Bool) : Canon Try.prog 13 [.agg (wC w), .agg (pC p), .bool full] [] fun v _ => v = V w (ackOk p.t p.s) (ack1 w p.t p.s full) := by
  refine CodeOK.body Try.func13 (by kernel_rfl) ?_
  rw [code13]
  refine CodeOK.frontE (C := C5) ec gs5 mixed (u := 0) (len := 79) (rs := Try.f13.results.toList) (L := L13) (M := M13) [c13_0, c13_1, c13_2, c13_3, c13_4, c13_5] (Nat.zero_le _)
    (Q := fun x vals B => (mayW w = true ∧ ackOk p.t p.s = true ∧ full = true ∧ behV w p.t = true ∧ slowV w = false) ∧ at13 p .normal (wgc w (w.g + p.s, w.c)) x vals B) (kr := fun v => v = V w (ackOk p.t p.s) (ack1 w p.t p.s full)) ?_ ?_ fun fr hp h => h
  · show evalC C5 0 0 (.seq c13_0 (.seq c13_1 (.seq c13_2 (.seq c13_3 (.seq c13_4 (.seq c13_5 .skip)))))) (enterS 79 _) _ (obsE Try.prog Try.f13.results.toList L13 M13 _ _)
    rw [p13a, eta, chk_ne]
    refine condSplit (fun q => ?_) fun q => ?_
    · have q : mayW w = false := by simpa using q
      rw [q]; exact V_no q
    have q : mayW w = true := by simpa using q
    have hd := may_d q
    unfold ackOk
    refine condSplit (fun q2 => ?_) fun q2 => ?_
    · have q2 : isT p.t = false := by simpa using q2
      rw [q2]; exact V_bad q
    have q2 : isT p.t = true := by simpa using q2
    refine condSplit (fun q3 => ?_) fun q3 => ?_
    · have q3 : decide (1 ≤ p.s) = false := by simp only [decide_eq_true_eq] at q3; exact cf (by omega)
      rw [q2, q3]; exact V_bad q
    simp only [decide_eq_false_iff_not] at q3
    refine condSplit (fun q4 => ?_) fun q4 => ?_
    · have q4 : decide (p.s ≤ 65535) = false := by simp only [decide_eq_true_eq] at q4; exact cf (by omega)
      rw [q2, q4, Bool.and_false]; exact V_bad q
    simp only [decide_eq_false_iff_not] at q4
    have q5 : (isT p.t && (decide (1 ≤ p.s) && decide (p.s ≤ 65535))) = true := by rw [q2, cb (show 1 ≤ p.s by omega), cb (show p.s ≤ 65535 by omega)]; rfl
    rw [q5]
    refine condSplit (fun q6 => ?_) fun q6 => ?_
    · refine Eq.trans ?_ (V_yes q)
      unfold ack1
      rw [q6, Bool.or_true]; rfl
    have q6 : behV w p.t = true := by simpa using q6
    refine condSplit (fun q7 => ?_) fun q7 => ?_
    · refine Eq.trans ?_ (V_yes q)
      unfold ack1
      rw [q7]; rfl
    have q7 : full = true := by simpa using q7
    refine condSplit (fun q8 => ?_) fun q8 => ?_
    · refine Eq.trans ?_ (V_yes q)
      unfold ack1
      rw [q, Bool.true_and] at q8
      rw [q6, q7, q8, wrap_id (by omega) (by omega)]; rfl
    rw [q, Bool.true_and] at q8
    rw [wrap_id (by omega) (by omega)]
    exact ⟨rfl, rfl, ids13 (wgc w (w.g + p.s, w.c)) p, ⟨q, rfl, q7, q6, q8⟩, rfl, rfl, rfl⟩
  rintro x vals B ⟨⟨q, q5, q7, q6, q8⟩, rfl, rfl, rfl⟩
  have hs : 0 ≤ p.s ∧ p.s ≤ 65535 := by
    simp only [ackOk, Bool.and_eq_true, decide_eq_true_eq] at q5
    omega
  refine CodeOK.seq (CodeOK.block (loop13 w p q _ (slo_start w q hs) ?_))
  show CodeOK Try.prog 0 c13_7 f13 (m13 (slowW w p.s) p) (endK Try.prog Try.f13.results.toList _)
  refine CodeOK.eval (C := C5) ec gs5 mixed 0 ?_
  show evalC C5 0 0 c13_7 f13 (m13 (slowW w p.s) p) (endK Try.prog Try.f13.results.toList fun v _ => v = V w (ackOk p.t p.s) (ack1 w p.t p.s full))
  rw [p13c (slowW w p.s) p (fun v => v = V w (ackOk p.t p.s) (ack1 w p.t p.s full))]
  rw [q5]
  refine Eq.trans ?_ (V_yes q)
  unfold ack1
  rw [q7, q6, q8]; rfl
theorem ok13 : SpecOK Try.prog 13 sAcked := by
  intro args h base k hk
  unfold sAcked at hk
  split at hk
  · rename_i full
    obtain ⟨w, rfl, hk1⟩ := agW_ok hk
    obtain ⟨p, rfl, hk2⟩ := agP_ok hk1
    exact ⟨_, [], [], res_ok hk2, CSim.plain (cal Try.func13 (by kernel_rfl) (by kernel_rfl)) (canon13 w p full) rfl rfl h base⟩
  · cases hk
end
end Go.Proofs.Ytefjhkgkdmjopaa
