/-
  Chapter 11 by the engine: the laws' own functions; WindowTells.
-/
import Derived.Test.YtefjhkgkdmjopaaT4
namespace Go.Proofs.Ytefjhkgkdmjopaa
open Go.RowKit
section
attribute [local irreducible] evalC
set_option maxRecDepth 100000
theorem gs6 : GSound C6 := ((((((((gs5.add ok11).add ok12).add ok13).add ok14).add ok15).add ok16).add ok17).add ok18).add ok19
theorem ch_no {w : Wn} {ok : Bool} {r : Wn} (h : (chE w ok != 0) = true) : chW w ok r = zW := by
  unfold chE at h
  unfold chW
  cases hm : mayW w
  · rfl
  · cases ok
    · rfl
    · rw [hm] at h; exact nomatch (show (false : Bool) = true from h)
theorem ch_yes {w : Wn} {ok : Bool} {r : Wn} (h : mayW w = true) (h2 : ok = true) : chW w ok r = r ∧ chE w ok = 0 := by
  unfold chE chW
  rw [h, h2]
  exact ⟨rfl, rfl⟩
theorem resW_ok {r : Wn} {k : SV → Wr → List Blk → Prop} (h : resW r k) : k (.agg (wC r)) [] [] := h _ rfl
theorem agT_ok {v : SV} {K : Th → Prop} (hk : agT v K) : ∃ x : Th, v = .agg (tC x) ∧ K x := by
  unfold agT at hk
  split at hk
  · rename_i k t n s f
    exact ⟨⟨k, t, n, s, f⟩, rfl, hk⟩
  · cases hk
theorem ok27 : SpecOK Try.prog 27 s27 := by
  intro args h base k hk
  unfold s27 at hk
  split at hk
  · rename_i x y
    obtain ⟨w, rfl, hk1⟩ := agW_ok hk
    refine ⟨_, [], [], resW_ok hk1, plainOK gs6 Try.func27 (by kernel_rfl) (by kernel_rfl) ?_ rfl rfl h base⟩
    show evalF C6 64 Try.f27 _ [] _
    rw [t27 w x y (fun v => v = _), eta]
    rintro r' e rfl rfl
    refine condSplit (fun q => ?_) fun q => ?_
    · rw [ch_no q]; rfl
    · rfl
  · cases hk
theorem ok28 : SpecOK Try.prog 28 s28 := by
  intro args h base k hk
  unfold s28 at hk
  split at hk
  · rename_i x y
    obtain ⟨w, rfl, hk1⟩ := agW_ok hk
    refine ⟨_, [], [], resW_ok hk1, plainOK gs6 Try.func28 (by kernel_rfl) (by kernel_rfl) ?_ rfl rfl h base⟩
    show evalF C6 64 Try.f28 _ [] _
    rw [t28 w x y (fun v => v = _), eta]
    rintro r' e rfl rfl
    refine condSplit (fun q => ?_) fun q => ?_
    · rw [ch_no q]; rfl
    · rfl
  · cases hk
theorem ok25 : SpecOK Try.prog 25 s25 := by
  intro args h base k hk
  unfold s25 at hk
  split at hk
  · rename_i x y z
    refine ⟨_, [], [], resW_ok hk, plainOK gs6 Try.func25 (by kernel_rfl) (by kernel_rfl) ?_ rfl rfl h base⟩
    show evalF C6 64 Try.f25 _ [] _
    rw [t25 x y z (fun v => v = _)]
    have h1 := mD_le x
    have h2 := mM_le x z
    have h3 := mC_le x y z
    have eD : IntKind.i64.wrap (1200 + x % 64328) = mD x := wrap_id (by omega) (by omega)
    have e2 : IntKind.i64.wrap (2 * mD x) = 2 * mD x := wrap_id (by omega) (by omega)
    have e3 : IntKind.i64.wrap (1099511627776 - 2 * mD x) = 1099511627776 - 2 * mD x := wrap_id (by omega) (by omega)
    have e4 : IntKind.i64.wrap (1099511627776 - 2 * mD x + 1) = 1099511627776 - 2 * mD x + 1 := wrap_id (by omega) (by omega)
    have eM : IntKind.i64.wrap (2 * mD x + z % (1099511627776 - 2 * mD x + 1)) = mM x z := wrap_id (show -9223372036854775808 ≤ mM x z by omega) (show mM x z ≤ 9223372036854775807 by omega)
    have e5 : IntKind.i64.wrap (mM x z - 2 * mD x) = mM x z - 2 * mD x := wrap_id (by omega) (by omega)
    have e6 : IntKind.i64.wrap (mM x z - 2 * mD x + 1) = mM x z - 2 * mD x + 1 := wrap_id (by omega) (by omega)
    have eC : IntKind.i64.wrap (2 * mD x + y % (mM x z - 2 * mD x + 1)) = mC x y z := wrap_id (show -9223372036854775808 ≤ mC x y z by omega) (show mC x y z ≤ 9223372036854775807 by omega)
    rw [eD, e2, e3, e4, eM, e5, e6, eC]
    rw [cb (show 0 < 1099511627776 - 2 * mD x + 1 by omega), cb (show 1099511627776 - 2 * mD x + 1 ≤ 9223372036854775807 by omega), cb (show 0 < mM x z - 2 * mD x + 1 by omega), cb (show mM x z - 2 * mD x + 1 ≤ 9223372036854775807 by omega)]
    simp only [Bool.and_self, cond_true]
    obtain ⟨c1, c2⟩ := ch_yes (w := newW (mD x) (mC x y z) (mM x z)) (r := newW (mD x) (mC x y z) (mM x z)) (ok := true) (may_made x y z) rfl
    rw [c1, c2]
    rintro r' e rfl rfl
    rfl
  · cases hk
theorem ok26 : SpecOK Try.prog 26 s26 := by
  intro args h base k hk
  unfold s26 at hk
  split at hk
  · obtain ⟨w, rfl, hk1⟩ := agW_ok hk
    obtain ⟨x, rfl, hw, hk2⟩ := agT_ok hk1
    refine ⟨_, [], [], hk2 _ rfl, plainOK gs6 Try.func26 (by kernel_rfl) (by kernel_rfl) ?_ rfl rfl h base⟩
    show evalF C6 64 Try.f26 _ [] _
    rw [t26 w x (fun v => v = _), eta]
    have b1 : (isT (x.t % 9007199254740992) && isT (x.n % 9007199254740992)) = true := by rw [isT_mod, isT_mod]; rfl
    have b2 : ackOk (x.t % 9007199254740992) (1 + x.s % 65535) = true := by
      unfold ackOk
      rw [isT_mod, cb (show 1 ≤ 1 + x.s % 65535 by omega), cb (show 1 + x.s % 65535 ≤ 65535 by omega)]
      rfl
    have ew : IntKind.i64.wrap (1 + x.s % 65535) = 1 + x.s % 65535 := wrap_id (by omega) (by omega)
    unfold stepW
    refine condSplit (fun q => ?_) fun q => ?_
    · rw [q]
      rw [(ch_yes hw b1).1, (ch_yes (r := w) hw b1).2]
      rintro r' e rfl rfl
      rfl
    refine condSplit (fun q2 => ?_) fun q2 => ?_
    · rw [q, q2]
      rw [(ch_yes hw b1).1, (ch_yes (r := w) hw b1).2]
      rintro r' e rfl rfl
      rfl
    refine condSplit (fun q3 => ?_) fun q3 => ?_
    · rw [q, q2, q3]
      rw [(ch_yes hw rfl).1, (ch_yes (r := w) hw rfl).2]
      rintro r' e rfl rfl
      rfl
    · rw [q, q2, q3]
      rw [ew]
      rw [(ch_yes hw b2).1, (ch_yes (r := w) hw b2).2]
      rintro r' e rfl rfl
      rfl
  · cases hk
theorem two_ok {h : Heap} {v : SV} {K : Int → Int → Prop} (hk : two h v K) : ∃ (id : Nat) (b : Blk) (x y : Int), v = .slice id 0 1 2 ∧ h id = some b ∧ b.sz = 1 ∧ b.n = 2 ∧ b.rd 0 = [.int .i64 x] ∧ b.rd 1 = [.int .i64 y] ∧ K x y := by
  unfold two at hk
  split at hk
  · rename_i id
    split at hk
    · rename_i b hb
      split at hk
      · rename_i x y h1 h2 h3 h4
        exact ⟨id, b, x, y, rfl, hb, h1, h2, h3, h4, hk⟩
      · cases hk
    · cases hk
  · cases hk
theorem canon42 (w : Wn) (a b x y : Int) : Canon Try.prog 42 [.agg (wC w), .int .i64 a, .int .i64 b, .slice 0 0 1 2] [some (b2I x y)] fun v _ => v = .bool (isV w a b x y) := by
  refine CodeOK.body Try.func42 (by kernel_rfl) (CodeOK.eval (C := C0) ec g0 mixed 64 ?_)
  show evalC C0 64 1 (bodF Try.f42) (enterS 40 _) _ (endK Try.prog Try.f42.results.toList _)
  rw [t42 w a b x y (fun v => v = .bool (isV w a b x y))]
  unfold isV
  refine condSplit (fun q => ?_) fun q => ?_
  · refine condSplit (fun q2 => ?_) fun q2 => ?_
    · rw [q, q2]
      simp only [cond_true, cond_false]
      refine condSplit (fun q3 => ?_) fun q3 => ?_
      · rw [q3]; rfl
      · rw [q3]; rfl
    · rw [q, q2]; rfl
  · rw [q]; rfl
theorem ok42 : SpecOK Try.prog 42 s42 := by
  intro args h base k hk
  unfold s42 at hk
  split at hk
  · rename_i a b l
    obtain ⟨w, rfl, hk1⟩ := agW_ok hk
    obtain ⟨id, bl, x, y, rfl, h1, h2, h3, h4, h5, hk2⟩ := two_ok hk1
    refine ⟨_, [], [], hk2, CSim.reads (cal Try.func42 (by kernel_rfl) (by kernel_rfl)) _ _ [id] rfl (canon42 w a b x y) rfl (fun i b1 e => ?_) rfl base⟩
    match i, e with
    | 0, e =>
      obtain rfl := Option.some.inj (show some (b2I x y) = some b1 from e)
      refine ⟨rfl, id, bl, rfl, h1, WB.of_rows h2.symm (by rw [h3]; exact Nat.le_refl _) (fun q => nomatch q) (fun q => nomatch q) fun r hr => ?_⟩
      have hr : r < 2 := hr
      match r, hr with
      | 0, _ => exact ⟨h4.symm, rfl⟩
      | 1, _ => exact ⟨h5.symm, rfl⟩
    | i + 1, e => exact nomatch (show (none : Option Blk) = some b1 from e)
  · cases hk
theorem okv12 : SpecOK Try.prog 12 vAcked := weaken ok12 fun args hp base k hk => by
  unfold vAcked at hk
  split at hk
  · obtain ⟨w, rfl, hk1⟩ := agW_ok hk
    obtain ⟨p, rfl, hk2⟩ := agP_ok hk1
    show ∀ (r' : Wn) (e : Int), _ → _ → _
    rintro r' e rfl rfl
    exact hk2
  · cases hk
theorem okv16 : SpecOK Try.prog 16 vColl := weaken ok16 fun args hp base k hk => by
  unfold vColl at hk
  split at hk
  · obtain ⟨w, rfl, hk1⟩ := agW_ok hk
    show ∀ (r' : Wn) (e : Int), _ → _ → _
    rintro r' e rfl rfl
    exact hk1
  · cases hk
theorem okv18 : SpecOK Try.prog 18 vNew := weaken ok18 fun args hp base k hk => by
  unfold vNew at hk
  split at hk
  · show ∀ (r' : Wn) (e : Int), _ → _ → _
    rintro r' e rfl rfl
    exact hk
  · cases hk
theorem okv27 : SpecOK Try.prog 27 v27 := weaken ok27 fun args hp base k hk => by
  unfold v27 at hk
  split at hk
  · obtain ⟨w, rfl, hk1⟩ := agW_ok hk
    show ∀ r' : Wn, _ → _
    rintro r' rfl
    exact hk1
  · cases hk
theorem okv28 : SpecOK Try.prog 28 v28 := weaken ok28 fun args hp base k hk => by
  unfold v28 at hk
  split at hk
  · obtain ⟨w, rfl, hk1⟩ := agW_ok hk
    show ∀ r' : Wn, _ → _
    rintro r' rfl
    exact hk1
  · cases hk
theorem gs7 : GSound C7 := (((((gs5.add okv12).add okv16).add okv18).add okv27).add okv28).add ok42
theorem ok24 : SpecOK Try.prog 24 sTrue := by
  intro args h base k hk
  unfold sTrue at hk
  split at hk
  · refine ⟨_, [], [], hk, plainOK gs7 Try.func24 (by kernel_rfl) (by kernel_rfl) ?_ rfl rfl h base⟩
    show evalF C7 64 Try.f24 _ [] _
    rw [t24 (fun v => v = _)]
  · cases hk
theorem gs8 : GSound C8 := ((((gs6.add ok27).add ok28).add ok25).add ok26).add ok24
theorem canon3 (w : Wn) (p : Pk) (x y z : Int) : Canon Try.prog 3 [.agg (wC w), .agg (pC p), .agg [.int .i64 x, .int .i64 y, .int .i64 z]] [] fun v _ => v = .bool true := by
  refine evalF_ok (C := C8) ec gs8 mixed (u := 64) Try.func3 (by kernel_rfl) ?_
  show evalF C8 64 Try.f3 [.agg (wC w), .agg (pC p), .agg [.int .i64 x, .int .i64 y, .int .i64 z]] [] _
  rw [t3 w p x y z (fun v => v = .bool true)]
  rintro r e rfl rfl r1 e1 rfl rfl r2 e2 rfl rfl r3 e3 rfl rfl
  simp only [beq_self_eq_true, bne_self_eq_false, Bool.and_self, Bool.not_true, cond_false, cond_true]
  rintro r e rfl rfl r1 e1 rfl rfl r2 e2 rfl rfl r3 e3 rfl rfl
  simp only [beq_self_eq_true, Bool.and_self, cond_true]
end
theorem tells_any (w : Wn) (p : Pk) (x y z : Int) (W : World) : Calls Try.prog 3 #[.agg #[.int .i64 w.d, .int .i64 w.m, .int .i64 w.c, .int .i64 w.t, .int .i64 w.s, .int .i64 w.g], .agg #[.int .i64 p.n, .int .i64 p.t, .int .i64 p.s, .bool p.a, .bool p.b, .bool p.c], .agg #[.int .i64 x, .int .i64 y, .int .i64 z]] W fun e w' => e = .returned (.bool true) ∧ Below W.heap.size W w' :=
  lawOf (canon3 w p x y z) (RL.cons (by simp [R, RL, wC]) (RL.cons (by simp [R, RL, pC]) (RL.cons (by simp [R, RL]) RL.nil))) W
end Go.Proofs.Ytefjhkgkdmjopaa
