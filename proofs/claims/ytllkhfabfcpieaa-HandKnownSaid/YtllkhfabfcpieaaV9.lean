/-
  Chapter 16 by the engine: the document's handshake: contracts of its functions.
-/
import Derived.Test.YtllkhfabfcpieaaT9
namespace Go.Proofs.Ytllkhfabfcpieaa
open Go.RowKit
theorem inF_of {f : Nat → Int} {s : Int} : ∀ {n i : Nat}, i < n → (f i == s) = true → inF f n s = true
  | 0, _, h, _ => absurd h (Nat.not_lt_zero _)
  | n + 1, i, h, e => by
    simp only [inF, Bool.or_eq_true]
    by_cases hi : i = n
    · subst hi; exact .inr e
    · exact .inl (inF_of (by omega) e)
theorem inF_congr {f g : Nat → Int} {s : Int} : ∀ {n : Nat}, (∀ r, r < n → f r = g r) → inF f n s = inF g n s
  | 0, _ => rfl
  | n + 1, h => by
    simp only [inF]
    rw [inF_congr fun r hr => h r (by omega), h n (by omega)]
theorem isI_bF (f : Nat → Int) {n : Nat} (h : n ≤ 100000) : IsI (bF f n) n := ⟨rfl, Nat.le_refl _, h, fun _ _ => ⟨_, rfl⟩⟩
theorem isI_bFw (f : Nat → Int) {n : Nat} (h : n ≤ 100000) : IsI (bFw f n) n := ⟨rfl, Nat.le_refl _, h, fun _ _ => ⟨_, rfl⟩⟩
theorem IsI.at {b : Blk} {n r : Nat} (h : IsI b n) (hr : r < n) : b.rd r = [.int .i64 (rI (b.rd r))] := by
  obtain ⟨x, e⟩ := h.rd r hr
  rw [e]
  rfl
theorem IsI.wb {b : Blk} {n : Nat} (h : IsI b n) (ρ : Ren) : WB ρ (bF (fun r => rI (b.rd r)) n) b :=
  WB.of_rows h.sz.symm h.le (fun q => nomatch q) (fun q => nomatch q) fun _ hr => ⟨(h.at hr).symm, rfl⟩
theorem IsI.wbw {b : Blk} {n : Nat} (h : IsI b n) (hw : b.rw = true) (ht : b.ty = 3) (ρ : Ren) : WB ρ (bFw (fun r => rI (b.rd r)) n) b :=
  WB.of_rows h.sz.symm h.le (fun _ => hw) (fun _ => ht.symm) fun _ hr => ⟨(h.at hr).symm, rfl⟩
def Lst (h : Heap) (v : SV) (f : Nat → Int) (n : Nat) : Prop := (v = .nilSlice ∧ n = 0 ∧ f = fun _ => 0) ∨ ∃ id b, v = .slice id 0 1 n ∧ h id = some b ∧ IsI b n ∧ f = fun r => rI (b.rd r)
theorem lst_ok {h : Heap} {v : SV} {K : (Nat → Int) → Nat → Prop} (hk : lst h v K) : ∃ f n, Lst h v f n ∧ K f n := by
  unfold lst at hk
  split at hk
  · exact ⟨_, _, .inl ⟨rfl, rfl, rfl⟩, hk⟩
  · rename_i id n
    split at hk
    · rename_i b hb
      exact ⟨_, _, .inr ⟨id, b, rfl, hb, hk.1, rfl⟩, hk.2⟩
    · cases hk
  · cases hk
theorem lst_sl {h : Heap} {id n : Nat} {K : (Nat → Int) → Nat → Prop} (hk : lst h (.slice id 0 1 n) K) : ∃ b, h id = some b ∧ IsI b n ∧ K (fun r => rI (b.rd r)) n := by
  change (match h id with | some b => IsI b n ∧ K (fun r => rI (b.rd r)) n | none => False) at hk
  split at hk
  · rename_i b hb
    exact ⟨b, hb, hk.1, hk.2⟩
  · cases hk
theorem lstW_ok {h : Heap} {id n : Nat} {K : (Nat → Int) → Prop} (hk : lstW h id n K) : ∃ b, h id = some b ∧ b.rw = true ∧ b.ty = 3 ∧ b.n = n ∧ IsI b n ∧ K (fun r => rI (b.rd r)) := by
  unfold lstW at hk
  split at hk
  · rename_i b hb
    obtain ⟨⟨h1, h2, h3, h4⟩, h5⟩ := hk
    exact ⟨b, hb, h1, h2, h3, h4, h5⟩
  · cases hk
theorem mR_ok {h : Heap} {id : Nat} {K : Bool → Nat → Nat → SV → Bool → Bool → Bool → Prop} (hk : mR h id K) : ∃ (b : Blk) (sv : Bool) (ik nk : Nat) (gs : SV) (va cf an : Bool), h id = some b ∧ b.sz = 6 ∧ b.n = 1 ∧ b.rd 0 = mC sv (.slice ik 0 1 nk) gs va cf an ∧ K sv ik nk gs va cf an := by
  unfold mR at hk
  split at hk
  · rename_i b hb
    split at hk
    · rename_i sv ik nk gs va cf an h1 h2 h3
      exact ⟨b, sv, ik, nk, gs, va, cf, an, hb, h1, h2, h3, hk⟩
    · cases hk
  · cases hk
theorem mW_ok {h : Heap} {id : Nat} {K : Bool → Nat → Nat → SV → Bool → Bool → Bool → Prop} (hk : mW h id K) : ∃ (b : Blk) (sv : Bool) (ik nk : Nat) (gs : SV) (va cf an : Bool), h id = some b ∧ b.sz = 6 ∧ b.n = 1 ∧ b.rw = true ∧ b.ty = 57 ∧ b.rd 0 = mC sv (.slice ik 0 1 nk) gs va cf an ∧ K sv ik nk gs va cf an := by
  unfold mW at hk
  split at hk
  · rename_i b hb
    split at hk
    · rename_i sv ik nk gs va cf an h1 h2 h3 h4 h5
      exact ⟨b, sv, ik, nk, gs, va, cf, an, hb, h1, h2, h3, h4, h5, hk⟩
    · cases hk
  · cases hk
section
attribute [local irreducible] evalC
set_option maxRecDepth 100000
/-! ### Is a number one of some? -/
theorem canon45 (f : Nat → Int) (n : Nat) (s : Int) (hn : n ≤ 100000) : Canon Try.prog 45 [.slice 0 0 1 n, .int .i64 s] [some (bF f n)] fun v _ => v = .bool (inF f n s) := by
  refine CodeOK.body Try.func45 (by kernel_rfl) ?_
  rw [code45]
  have ids : allIds 1 (h45 f n) := ⟨fun _ _ => rfl, trivial⟩
  have wk : ∀ {i i' : SV}, ValW (v45 n s i') (v45 n s i) → ltAll 1 (svIdsL (v45 n s i')) = true → Weak 1 (tplF 18 L45 (v45 n s i)) ((h45 f n).map mkB) (tplF 18 L45 (v45 n s i')) ((h45 f n).map mkB) := fun hv hi => tpl_weak (B := h45 f n) (R := []) hv hi ids (show 1 ≤ 1 by decide)
  refine CodeOK.frontN (C := C7) ec gs7 mixed (u := 0) (len := 18) (L := L45) (M := [false]) [c45_0] (show 1 ≤ 1 by decide) (Q := atS .normal (v45 n s .top) (h45 f n)) ?_ ?_
  · show evalC C7 0 1 (.seq c45_0 .skip) (enterS 18 _) _ _
    rw [p45a]
    exact ⟨rfl, rfl, ids, rfl, rfl, rfl⟩
  rintro x vals B ⟨rfl, rfl, rfl⟩
  refine CodeOK.seq (CodeOK.seq (CodeOK.at (C := C7) ec gs7 mixed (u := 0) (len := 18) (L := L45) (M := [false]) (vals := v45 n s (ni 0)) (B := h45 f n) (show 1 ≤ 1 by decide) .normal ?_ (CodeOK.block ?_)))
  · show evalC C7 0 1 c45_1 (tplF 18 L45 (v45 n s .top)) ((h45 f n).map mkB) _
    rw [p45b]
    exact ⟨rfl, rfl, ids, rfl, rfl, rfl⟩
  refine CodeOK.loop (fun N fr hp => ∃ i : Nat, i + N = n ∧ inF f i s = false ∧ fr = tplF 18 L45 (v45 n s (ni i)) ∧ hp = (h45 f n).map mkB) ?_ (n := n) ⟨0, by omega, rfl, rfl, rfl⟩
  rintro N fr hp ⟨i, hi, hf, rfl, rfl⟩
  refine CodeOK.lookE (C := C7) ec gs7 mixed (u := 0) (len := 18) (rs := Try.f45.results.toList) (L := L45) (M := [false]) (show 1 ≤ 1 by decide) (Q := fun x vals B => (i < n ∧ (f i == s) = false ∧ x = .normal ∧ vals = v45 n s (ni (i + 1 : Nat)) ∧ B = h45 f n) ∨ (i = n ∧ x = .exit 0 ∧ vals = v45 n s (ni i) ∧ B = h45 f n)) (kr := fun v => v = .bool (inF f n s)) ?_ ?_ fun fr hp h => h
  · show evalC C7 0 1 c45_2 (tplF 18 L45 (v45 n s (ni i))) ((h45 f n).map mkB) (obsE Try.prog Try.f45.results.toList L45 [false] _ _)
    rw [p45c]
    by_cases hin : i < n
    · refine condT (cb (by omega)) (condT (cb (by omega)) (condT (by simp only [Bool.and_true, Nat.zero_add, Int.toNat_natCast]; exact cb hin) ?_))
      simp only [Nat.zero_add, Int.toNat_natCast]
      refine condSplit (fun q => ?_) fun q => ?_
      · show SV.bool true = .bool (inF f n s)
        rw [inF_of hin q]
      · rw [i64n i (by omega)]
        exact ⟨rfl, rfl, ids, .inl ⟨hin, q, rfl, rfl, rfl⟩⟩
    · refine condF (cf (by omega)) ?_
      exact ⟨rfl, rfl, ids, .inr ⟨by omega, rfl, rfl, rfl⟩⟩
  · rintro x vals B (⟨hin, q, rfl, rfl, rfl⟩ | ⟨rfl, rfl, rfl, rfl⟩)
    · exact ⟨N - 1, _, _, by omega, wk ⟨.inr rfl, .inr rfl, .inr rfl, trivial⟩ rfl, i + 1, by omega, by simp only [inF, hf, q, Bool.or_self], rfl, rfl⟩
    · refine CodeOK.pre (wk (i := ni i) (i' := .top) ⟨.inr rfl, .inr rfl, .inl rfl, trivial⟩ rfl) ?_
      refine CodeOK.eval (C := C7) ec gs7 mixed 0 ?_
      show evalC C7 0 1 c45_3 (tplF 18 L45 (v45 i s .top)) ((h45 f i).map mkB) (endK Try.prog Try.f45.results.toList fun v _ => v = .bool (inF f i s))
      rw [p45d f i s (fun v => v = .bool (inF f i s)), hf]
theorem ok45 : SpecOK Try.prog 45 s45 := by
  intro args h base k hk
  unfold s45 at hk
  split at hk
  · rename_i l s
    obtain ⟨f, n, hl, hk⟩ := lst_ok hk
    rcases hl with ⟨rfl, rfl, rfl⟩ | ⟨id, b, rfl, hb, hi, rfl⟩
    · refine ⟨_, [], [], hk, plainOK gs7 Try.func45 (by kernel_rfl) (by kernel_rfl) ?_ rfl rfl h base⟩
      show evalF C7 64 Try.f45 _ [] _
      rw [t45n s (fun v => v = _)]
      rfl
    · refine ⟨_, [], [], hk, CSim.reads (cal Try.func45 (by kernel_rfl) (by kernel_rfl)) _ _ [id] rfl (canon45 _ n s hi.sm) rfl (fun i b1 e => ?_) rfl base⟩
      match i, e with
      | 0, e =>
        obtain rfl := Option.some.inj (show some (bF (fun r => rI (b.rd r)) n) = some b1 from e)
        exact ⟨rfl, id, b, rfl, hb, hi.wb _⟩
      | i + 1, e => exact nomatch (show (none : Option Blk) = some b1 from e)
  · cases hk
theorem ok46 : SpecOK Try.prog 46 s35 := by
  intro args h base k hk
  unfold s35 at hk
  split at hk
  · rename_i s
    refine ⟨_, [], [], hk, plainOK g0 Try.func46 (by kernel_rfl) (by kernel_rfl) ?_ rfl rfl h base⟩
    show evalF C0 64 Try.f46 _ [] _
    rw [t46 s (fun v => v = _)]
    unfold inS
    refine condSplit (fun q => ?_) fun q => ?_ <;> rw [q] <;> rfl
  · cases hk
theorem gs9 : GSound C9 := (gs7.add ok45).add ok46
/-! ### Readers -/
/-- The blocks of a handshake, as a function finds them that reads. -/
theorem wb_n {id ik nk : Nat} {sv va cf an : Bool} {b bk : Blk} {h : Heap} {kf : Nat → Int} (hb : h id = some b) (h1 : b.sz = 6) (h2 : b.n = 1) (h3 : b.rd 0 = mC sv (.slice ik 0 1 nk) .nilSlice va cf an) (hk : h ik = some bk) (hi : ∀ ρ, WB ρ (bF kf nk) bk) {m : Blk} (hm : m.sz = 6 ∧ m.n = 1 ∧ (m.rw = true → b.rw = true) ∧ (m.rw = true → m.ty = b.ty) ∧ m.rd 0 = mC sv (.slice 1 0 1 nk) .nilSlice va cf an) :
    ∀ (i : Nat) (b1 : Blk), hget (hpN m kf nk) i = some b1 → ∃ x b, [id, ik][i]? = some x ∧ h x = some b ∧ WB (fun i => [id, ik][i]?) b1 b := by
  intro i b1 e
  match i, e with
  | 0, e =>
    obtain rfl := Option.some.inj (show some m = some b1 from e)
    refine ⟨id, b, rfl, hb, ⟨hm.1.trans h1.symm, by rw [hm.2.1, h2]; exact Nat.le_refl _, hm.2.2.1, hm.2.2.2.1, fun r hr => ?_⟩⟩
    obtain rfl : r = 0 := by rw [hm.2.1] at hr; omega
    rw [hm.2.2.2.2, h3]
    exact ⟨.inr rfl, .inr rfl, .inr rfl, .inr rfl, .inr rfl, .inr rfl, trivial⟩
  | 1, e =>
    obtain rfl := Option.some.inj (show some (bF kf nk) = some b1 from e)
    exact ⟨ik, bk, rfl, hk, hi _⟩
  | i + 2, e => exact nomatch (show (none : Option Blk) = some b1 from e)
theorem wb_s {id ik nk ig ng : Nat} {sv va cf an : Bool} {b bk bg : Blk} {h : Heap} {kf gf : Nat → Int} (hb : h id = some b) (h1 : b.sz = 6) (h2 : b.n = 1) (h3 : b.rd 0 = mC sv (.slice ik 0 1 nk) (.slice ig 0 1 ng) va cf an) (hk : h ik = some bk) (hi : ∀ ρ, WB ρ (bF kf nk) bk) (hg : h ig = some bg) (hj : ∀ ρ, WB ρ (bF gf ng) bg)
    {m : Blk} (hm : m.sz = 6 ∧ m.n = 1 ∧ (m.rw = true → b.rw = true) ∧ (m.rw = true → m.ty = b.ty) ∧ m.rd 0 = mC sv (.slice 1 0 1 nk) (.slice 2 0 1 ng) va cf an) :
    ∀ (i : Nat) (b1 : Blk), hget (hpS m kf nk gf ng) i = some b1 → ∃ x b, [id, ik, ig][i]? = some x ∧ h x = some b ∧ WB (fun i => [id, ik, ig][i]?) b1 b := by
  intro i b1 e
  match i, e with
  | 0, e =>
    obtain rfl := Option.some.inj (show some m = some b1 from e)
    refine ⟨id, b, rfl, hb, ⟨hm.1.trans h1.symm, by rw [hm.2.1, h2]; exact Nat.le_refl _, hm.2.2.1, hm.2.2.2.1, fun r hr => ?_⟩⟩
    obtain rfl : r = 0 := by rw [hm.2.1] at hr; omega
    rw [hm.2.2.2.2, h3]
    exact ⟨.inr rfl, .inr rfl, .inr rfl, .inr rfl, .inr rfl, .inr rfl, trivial⟩
  | 1, e =>
    obtain rfl := Option.some.inj (show some (bF kf nk) = some b1 from e)
    exact ⟨ik, bk, rfl, hk, hi _⟩
  | 2, e =>
    obtain rfl := Option.some.inj (show some (bF gf ng) = some b1 from e)
    exact ⟨ig, bg, rfl, hg, hj _⟩
  | i + 3, e => exact nomatch (show (none : Option Blk) = some b1 from e)
theorem ro_n {m : Blk} {kf : Nat → Int} {nk : Nat} (hm : m.rw = false) : ∀ (i : Nat) (b1 : Blk), hget (hpN m kf nk) i = some b1 → b1.rw = false := by
  intro i b1 e
  match i, e with
  | 0, e => obtain rfl := Option.some.inj (show some m = some b1 from e); exact hm
  | 1, e => obtain rfl := Option.some.inj (show some (bF kf nk) = some b1 from e); rfl
  | i + 2, e => exact nomatch (show (none : Option Blk) = some b1 from e)
theorem ro_s {m : Blk} {kf gf : Nat → Int} {nk ng : Nat} (hm : m.rw = false) : ∀ (i : Nat) (b1 : Blk), hget (hpS m kf nk gf ng) i = some b1 → b1.rw = false := by
  intro i b1 e
  match i, e with
  | 0, e => obtain rfl := Option.some.inj (show some m = some b1 from e); exact hm
  | 1, e => obtain rfl := Option.some.inj (show some (bF kf nk) = some b1 from e); rfl
  | 2, e => obtain rfl := Option.some.inj (show some (bF gf ng) = some b1 from e); rfl
  | i + 3, e => exact nomatch (show (none : Option Blk) = some b1 from e)
theorem mread {f : FuncId} (hcall : ∀ vs w, (callFunc f vs).run Try.prog w = .ok (.enter f vs) w) {rest : List SV} {h : Heap} {id ik nk ng : Nat} {gs v : SV} {sv va cf an : Bool} {b : Blk} {kf gf : Nat → Int} (hb : h id = some b) (h1 : b.sz = 6) (h2 : b.n = 1) (h3 : b.rd 0 = mC sv (.slice ik 0 1 nk) gs va cf an)
    (hK : ∃ bk, h ik = some bk ∧ IsI bk nk ∧ kf = fun r => rI (bk.rd r)) (hG : Lst h gs gf ng) (hsk : nk ≤ 100000 → ng = 0 → gf = (fun _ => 0) → Canon Try.prog f (.ptr 0 0 6 0 :: rest) (hpN (mRo sv (.slice 1 0 1 nk) .nilSlice va cf an) kf nk) fun v' _ => v' = v)
    (hs : nk ≤ 100000 → ng ≤ 100000 → Canon Try.prog f (.ptr 0 0 6 0 :: rest) (hpS (mRo sv (.slice 1 0 1 nk) (.slice 2 0 1 ng) va cf an) kf nk gf ng) fun v' _ => v' = v) (hr : svIdsL rest = []) (hv : svIds v = []) (base : Nat) : CSim Try.prog f (.ptr id 0 6 0 :: rest) h base v [] [] := by
  obtain ⟨bk, k1, k2, rfl⟩ := hK
  rcases hG with ⟨rfl, rfl, rfl⟩ | ⟨ig, bg, rfl, g1, g2, rfl⟩
  · refine CSim.reads hcall _ _ [id, ik] rfl (hsk k2.sm rfl rfl) ?_ (fun i b1 e => ⟨ro_n rfl i b1 e, wb_n hb h1 h2 h3 k1 k2.wb ⟨rfl, rfl, (fun q => nomatch (show (false : Bool) = true from q)), (fun q => nomatch (show (false : Bool) = true from q)), rfl⟩ i b1 e⟩) (ren_id_of hv _) base
    simp only [renL, ren, renL_id_of hr]
    rfl
  · refine CSim.reads hcall _ _ [id, ik, ig] rfl (hs k2.sm g2.sm) ?_ (fun i b1 e => ⟨ro_s rfl i b1 e, wb_s hb h1 h2 h3 k1 k2.wb g1 g2.wb ⟨rfl, rfl, (fun q => nomatch (show (false : Bool) = true from q)), (fun q => nomatch (show (false : Bool) = true from q)), rfl⟩ i b1 e⟩) (ren_id_of hv _) base
    simp only [renL, ren, renL_id_of hr]
    rfl
theorem mAll_ok {h : Heap} {id : Nat} {K : Bool → Nat → (Nat → Int) → (Nat → Int) → Nat → Bool → Bool → Bool → Prop} (hk : mAll h id K) : ∃ (b : Blk) (sv : Bool) (ik nk : Nat) (gs : SV) (va cf an : Bool) (kf gf : Nat → Int) (ng : Nat), h id = some b ∧ b.sz = 6 ∧ b.n = 1 ∧ b.rd 0 = mC sv (.slice ik 0 1 nk) gs va cf an ∧
    (∃ bk, h ik = some bk ∧ IsI bk nk ∧ kf = fun r => rI (bk.rd r)) ∧ Lst h gs gf ng ∧ K sv nk kf gf ng va cf an := by
  obtain ⟨b, sv, ik, nk, gs, va, cf, an, h1, h2, h3, h4, hk⟩ := mR_ok hk
  obtain ⟨bk, k1, k2, hk⟩ := lst_sl hk
  obtain ⟨gf, ng, hg, hk⟩ := lst_ok hk
  exact ⟨b, sv, ik, nk, gs, va, cf, an, _, gf, ng, h1, h2, h3, h4, ⟨bk, k1, k2, rfl⟩, hg, hk⟩
theorem ok36 : SpecOK Try.prog 36 s36 := by
  intro args h base k hk
  unfold s36 at hk
  split at hk
  · rename_i id s
    obtain ⟨b, sv, ik, nk, gs, va, cf, an, kf, gf, ng, h1, h2, h3, h4, h5, h6, hk⟩ := mAll_ok hk
    refine ⟨_, [], [], hk, mread (cal Try.func36 (by kernel_rfl) (by kernel_rfl)) h1 h2 h3 h4 h5 h6 (fun hn e1 e2 => ?_) (fun hn hg => ?_) rfl rfl base⟩
    · subst e1 e2
      refine CodeOK.body Try.func36 (by kernel_rfl) (CodeOK.eval (C := C9) ec gs9 mixed 64 ?_)
      show evalC C9 64 2 (bodF Try.f36) (enterS 20 _) _ (endK Try.prog Try.f36.results.toList _)
      rw [t36n sv va cf an kf nk s (fun v => v = .bool (livM kf (fun _ => 0) nk 0 s))]
      refine ⟨isI_bF kf hn, condSplit (fun q => ?_) fun q => ?_⟩
      · unfold livM; rw [show inF kf nk s = true from q]; rfl
      · unfold livM; rw [show inF kf nk s = false from q]; rfl
    · refine CodeOK.body Try.func36 (by kernel_rfl) (CodeOK.eval (C := C9) ec gs9 mixed 64 ?_)
      show evalC C9 64 3 (bodF Try.f36) (enterS 20 _) _ (endK Try.prog Try.f36.results.toList _)
      rw [t36s sv va cf an kf nk gf ng s (fun v => v = .bool (livM kf gf nk ng s))]
      refine ⟨isI_bF kf hn, condSplit (fun q => ⟨isI_bF gf hg, ?_⟩) fun q => ?_⟩
      · unfold livM; rw [show inF kf nk s = true from q]; rfl
      · unfold livM; rw [show inF kf nk s = false from q]; rfl
  · cases hk
theorem ok37 : SpecOK Try.prog 37 s37 := by
  intro args h base k hk
  unfold s37 at hk
  split at hk
  · rename_i id s
    obtain ⟨b, sv, ik, nk, gs, va, cf, an, kf, gf, ng, h1, h2, h3, h4, h5, h6, hk⟩ := mAll_ok hk
    refine ⟨_, [], [], hk, mread (cal Try.func37 (by kernel_rfl) (by kernel_rfl)) h1 h2 h3 h4 h5 h6 (fun hn e1 e2 => ?_) (fun hn hg => ?_) rfl rfl base⟩
    · refine CodeOK.body Try.func37 (by kernel_rfl) (CodeOK.eval (C := C9) ec gs9 mixed 64 ?_)
      show evalC C9 64 2 (bodF Try.f37) (enterS 11 _) _ (endK Try.prog Try.f37.results.toList _)
      rw [t37n sv va cf an kf nk s (fun v => v = .bool (inF kf nk s))]
      exact ⟨isI_bF kf hn, rfl⟩
    · refine CodeOK.body Try.func37 (by kernel_rfl) (CodeOK.eval (C := C9) ec gs9 mixed 64 ?_)
      show evalC C9 64 3 (bodF Try.f37) (enterS 11 _) _ (endK Try.prog Try.f37.results.toList _)
      rw [t37s sv va cf an kf nk gf ng s (fun v => v = .bool (inF kf nk s))]
      exact ⟨isI_bF kf hn, rfl⟩
  · cases hk
theorem ok39 : SpecOK Try.prog 39 s39 := by
  intro args h base k hk
  unfold s39 at hk
  split at hk
  · rename_i id
    obtain ⟨b, sv, ik, nk, gs, va, cf, an, kf, gf, ng, h1, h2, h3, h4, h5, h6, hk⟩ := mAll_ok hk
    refine ⟨_, [], [], hk, mread (rest := []) (cal Try.func39 (by kernel_rfl) (by kernel_rfl)) h1 h2 h3 h4 h5 h6 (fun hn e1 e2 => ?_) (fun hn hg => ?_) rfl rfl base⟩
    · refine CodeOK.body Try.func39 (by kernel_rfl) (CodeOK.eval (C := C9) ec gs9 mixed 64 ?_)
      show evalC C9 64 2 (bodF Try.f39) (enterS 19 _) _ (endK Try.prog Try.f39.results.toList _)
      rw [t39n sv va cf an kf nk (fun v => v = .bool (sv || (cf || an)))]
      cases sv <;> cases cf <;> rfl
    · refine CodeOK.body Try.func39 (by kernel_rfl) (CodeOK.eval (C := C9) ec gs9 mixed 64 ?_)
      show evalC C9 64 3 (bodF Try.f39) (enterS 19 _) _ (endK Try.prog Try.f39.results.toList _)
      rw [t39s sv va cf an kf nk gf ng (fun v => v = .bool (sv || (cf || an)))]
      cases sv <;> cases cf <;> rfl
  · cases hk
theorem gs10 : GSound C10 := ((gs9.add ok36).add ok37).add ok39
end
end Go.Proofs.Ytllkhfabfcpieaa
