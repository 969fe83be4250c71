/-
  Chapter 16 by the engine: both handshakes say the same.
-/
import Derived.Test.YtllkhfabfcpieaaT10
import Derived.Test.YtllkhfabfcpieaaT12
import Derived.Test.YtllkhfabfcpieaaP5
namespace Go.Proofs.Ytllkhfabfcpieaa
open Go.RowKit
theorem bne_of {a b : Bool} (h : a = b) : (a != b) = false := by subst h; cases a <;> rfl
theorem beq_of {a b : Bool} (h : a = b) : (a == b) = true := by subst h; cases a <;> rfl
section
attribute [local irreducible] evalC
set_option maxRecDepth 100000
theorem canon23n {hd : Hd} {sv va cf an : Bool} {kf : Nat → Int} {nk : Nat} (s : Int) (R : Rel hd sv nk kf (fun _ => 0) 0 va cf an) (hn : nk ≤ 100000) : Canon Try.prog 23 [.ptr 0 0 7 0, .ptr 1 0 6 0, .int .i64 s] [some (oneB (hC hd) false 0), some (mRo sv (.slice 2 0 1 nk) .nilSlice va cf an), some (bF kf nk)] fun v _ => v = .bool true := by
  refine CodeOK.body Try.func23 (by kernel_rfl) (CodeOK.eval (C := C11) ec gs11 mixed 64 ?_)
  show evalC C11 64 3 (bodF Try.f23) (enterS 76 _) _ (endK Try.prog Try.f23.results.toList fun v _ => v = .bool true)
  rw [t23n hd sv va cf an kf nk s (fun v => v = .bool true)]
  refine ⟨isI_bF _ hn, condF' (bne_of (R.live (-1))) ?_⟩
  refine ⟨isI_bF _ hn, condF' (bne_of (R.has (-1)).symm) ?_⟩
  refine ⟨isI_bF _ hn, condF' (bne_of (R.live 0)) ?_⟩
  refine ⟨isI_bF _ hn, condF' (bne_of (R.has 0).symm) ?_⟩
  refine ⟨isI_bF _ hn, condF' (bne_of (R.live 1)) ?_⟩
  refine ⟨isI_bF _ hn, condF' (bne_of (R.has 1).symm) ?_⟩
  refine ⟨isI_bF _ hn, condF' (bne_of (R.live 2)) ?_⟩
  refine ⟨isI_bF _ hn, condF' (bne_of (R.has 2).symm) ?_⟩
  refine ⟨isI_bF _ hn, condF' (bne_of (R.live 3)) ?_⟩
  refine ⟨isI_bF _ hn, condF' (bne_of (R.has 3).symm) ?_⟩
  refine ⟨isI_bF _ hn, condT' (beq_of (R.live s)) ?_⟩
  refine ⟨isI_bF _ hn, condT' (beq_of (R.has s).symm) ?_⟩
  have rv : (validV hd == va) = true := beq_of (by unfold validV; rw [no_nothing R.wf, R.rva]; rfl)
  have rc : (confV hd == cf) = true := beq_of (by unfold confV; rw [no_nothing R.wf, R.rcf]; rfl)
  have rs : (sureV hd == (sv || (cf || an))) = true := beq_of (by unfold sureV; rw [no_nothing R.wf, R.rsv, R.rcf, R.ran]; rfl)
  refine condSplit (fun q0 => condSplit (fun q1 => condSplit (fun q2 => ?_) fun q2 => ?_) fun q1 => condSplit (fun q2 => ?_) fun q2 => ?_) fun q0 => condSplit (fun q1 => condSplit (fun q2 => ?_) fun q2 => ?_) fun q1 => condSplit (fun q2 => ?_) fun q2 => ?_
  · exact ⟨isI_bF _ hn, condT' ((R.live 0).symm.trans q0) (condT' ((R.live 1).symm.trans q1) (condT' ((R.live 2).symm.trans q2) (condT' rv (condT' rc ⟨isI_bF _ hn, show SV.bool _ = _ from congrArg SV.bool rs⟩))))⟩
  · exact ⟨isI_bF _ hn, condT' ((R.live 0).symm.trans q0) (condT' ((R.live 1).symm.trans q1) (condF' ((R.live 2).symm.trans q2) (condT' rv (condT' rc ⟨isI_bF _ hn, show SV.bool _ = _ from congrArg SV.bool rs⟩))))⟩
  · exact ⟨isI_bF _ hn, condT' ((R.live 0).symm.trans q0) (condF' ((R.live 1).symm.trans q1) (condT' ((R.live 2).symm.trans q2) (condT' rv (condT' rc ⟨isI_bF _ hn, show SV.bool _ = _ from congrArg SV.bool rs⟩))))⟩
  · exact ⟨isI_bF _ hn, condT' ((R.live 0).symm.trans q0) (condF' ((R.live 1).symm.trans q1) (condF' ((R.live 2).symm.trans q2) (condT' rv (condT' rc ⟨isI_bF _ hn, show SV.bool _ = _ from congrArg SV.bool rs⟩))))⟩
  · exact ⟨isI_bF _ hn, condF' ((R.live 0).symm.trans q0) (condT' ((R.live 1).symm.trans q1) (condT' ((R.live 2).symm.trans q2) (condT' rv (condT' rc ⟨isI_bF _ hn, show SV.bool _ = _ from congrArg SV.bool rs⟩))))⟩
  · exact ⟨isI_bF _ hn, condF' ((R.live 0).symm.trans q0) (condT' ((R.live 1).symm.trans q1) (condF' ((R.live 2).symm.trans q2) (condT' rv (condT' rc ⟨isI_bF _ hn, show SV.bool _ = _ from congrArg SV.bool rs⟩))))⟩
  · exact ⟨isI_bF _ hn, condF' ((R.live 0).symm.trans q0) (condF' ((R.live 1).symm.trans q1) (condT' ((R.live 2).symm.trans q2) (condT' rv (condT' rc ⟨isI_bF _ hn, show SV.bool _ = _ from congrArg SV.bool rs⟩))))⟩
  · exact ⟨isI_bF _ hn, condF' ((R.live 0).symm.trans q0) (condF' ((R.live 1).symm.trans q1) (condF' ((R.live 2).symm.trans q2) (condT' rv (condT' rc ⟨isI_bF _ hn, show SV.bool _ = _ from congrArg SV.bool rs⟩))))⟩
theorem canon23s {hd : Hd} {sv va cf an : Bool} {kf : Nat → Int} {nk : Nat} {gf : Nat → Int} {ng : Nat} (s : Int) (R : Rel hd sv nk kf gf ng va cf an) (hn : nk ≤ 100000) (hg : ng ≤ 100000) : Canon Try.prog 23 [.ptr 0 0 7 0, .ptr 1 0 6 0, .int .i64 s] [some (oneB (hC hd) false 0), some (mRo sv (.slice 2 0 1 nk) (.slice 3 0 1 ng) va cf an), some (bF kf nk), some (bF gf ng)] fun v _ => v = .bool true := by
  refine CodeOK.body Try.func23 (by kernel_rfl) (CodeOK.eval (C := C11) ec gs11 mixed 64 ?_)
  show evalC C11 64 4 (bodF Try.f23) (enterS 76 _) _ (endK Try.prog Try.f23.results.toList fun v _ => v = .bool true)
  rw [t23s hd sv va cf an kf nk gf ng s (fun v => v = .bool true)]
  refine ⟨isI_bF _ hn, isI_bF _ hg, condF' (bne_of (R.live (-1))) ?_⟩
  refine ⟨isI_bF _ hn, isI_bF _ hg, condF' (bne_of (R.has (-1)).symm) ?_⟩
  refine ⟨isI_bF _ hn, isI_bF _ hg, condF' (bne_of (R.live 0)) ?_⟩
  refine ⟨isI_bF _ hn, isI_bF _ hg, condF' (bne_of (R.has 0).symm) ?_⟩
  refine ⟨isI_bF _ hn, isI_bF _ hg, condF' (bne_of (R.live 1)) ?_⟩
  refine ⟨isI_bF _ hn, isI_bF _ hg, condF' (bne_of (R.has 1).symm) ?_⟩
  refine ⟨isI_bF _ hn, isI_bF _ hg, condF' (bne_of (R.live 2)) ?_⟩
  refine ⟨isI_bF _ hn, isI_bF _ hg, condF' (bne_of (R.has 2).symm) ?_⟩
  refine ⟨isI_bF _ hn, isI_bF _ hg, condF' (bne_of (R.live 3)) ?_⟩
  refine ⟨isI_bF _ hn, isI_bF _ hg, condF' (bne_of (R.has 3).symm) ?_⟩
  refine ⟨isI_bF _ hn, isI_bF _ hg, condT' (beq_of (R.live s)) ?_⟩
  refine ⟨isI_bF _ hn, isI_bF _ hg, condT' (beq_of (R.has s).symm) ?_⟩
  have rv : (validV hd == va) = true := beq_of (by unfold validV; rw [no_nothing R.wf, R.rva]; rfl)
  have rc : (confV hd == cf) = true := beq_of (by unfold confV; rw [no_nothing R.wf, R.rcf]; rfl)
  have rs : (sureV hd == (sv || (cf || an))) = true := beq_of (by unfold sureV; rw [no_nothing R.wf, R.rsv, R.rcf, R.ran]; rfl)
  refine condSplit (fun q0 => condSplit (fun q1 => condSplit (fun q2 => ?_) fun q2 => ?_) fun q1 => condSplit (fun q2 => ?_) fun q2 => ?_) fun q0 => condSplit (fun q1 => condSplit (fun q2 => ?_) fun q2 => ?_) fun q1 => condSplit (fun q2 => ?_) fun q2 => ?_
  · exact ⟨isI_bF _ hn, isI_bF _ hg, condT' ((R.live 0).symm.trans q0) (condT' ((R.live 1).symm.trans q1) (condT' ((R.live 2).symm.trans q2) (condT' rv (condT' rc ⟨isI_bF _ hn, isI_bF _ hg, show SV.bool _ = _ from congrArg SV.bool rs⟩))))⟩
  · exact ⟨isI_bF _ hn, isI_bF _ hg, condT' ((R.live 0).symm.trans q0) (condT' ((R.live 1).symm.trans q1) (condF' ((R.live 2).symm.trans q2) (condT' rv (condT' rc ⟨isI_bF _ hn, isI_bF _ hg, show SV.bool _ = _ from congrArg SV.bool rs⟩))))⟩
  · exact ⟨isI_bF _ hn, isI_bF _ hg, condT' ((R.live 0).symm.trans q0) (condF' ((R.live 1).symm.trans q1) (condT' ((R.live 2).symm.trans q2) (condT' rv (condT' rc ⟨isI_bF _ hn, isI_bF _ hg, show SV.bool _ = _ from congrArg SV.bool rs⟩))))⟩
  · exact ⟨isI_bF _ hn, isI_bF _ hg, condT' ((R.live 0).symm.trans q0) (condF' ((R.live 1).symm.trans q1) (condF' ((R.live 2).symm.trans q2) (condT' rv (condT' rc ⟨isI_bF _ hn, isI_bF _ hg, show SV.bool _ = _ from congrArg SV.bool rs⟩))))⟩
  · exact ⟨isI_bF _ hn, isI_bF _ hg, condF' ((R.live 0).symm.trans q0) (condT' ((R.live 1).symm.trans q1) (condT' ((R.live 2).symm.trans q2) (condT' rv (condT' rc ⟨isI_bF _ hn, isI_bF _ hg, show SV.bool _ = _ from congrArg SV.bool rs⟩))))⟩
  · exact ⟨isI_bF _ hn, isI_bF _ hg, condF' ((R.live 0).symm.trans q0) (condT' ((R.live 1).symm.trans q1) (condF' ((R.live 2).symm.trans q2) (condT' rv (condT' rc ⟨isI_bF _ hn, isI_bF _ hg, show SV.bool _ = _ from congrArg SV.bool rs⟩))))⟩
  · exact ⟨isI_bF _ hn, isI_bF _ hg, condF' ((R.live 0).symm.trans q0) (condF' ((R.live 1).symm.trans q1) (condT' ((R.live 2).symm.trans q2) (condT' rv (condT' rc ⟨isI_bF _ hn, isI_bF _ hg, show SV.bool _ = _ from congrArg SV.bool rs⟩))))⟩
  · exact ⟨isI_bF _ hn, isI_bF _ hg, condF' ((R.live 0).symm.trans q0) (condF' ((R.live 1).symm.trans q1) (condF' ((R.live 2).symm.trans q2) (condT' rv (condT' rc ⟨isI_bF _ hn, isI_bF _ hg, show SV.bool _ = _ from congrArg SV.bool rs⟩))))⟩
theorem wb_h {ρ : Ren} {hd : Hd} {b : Blk} (h1 : b.sz = 7) (h2 : b.n = 1) (h3 : b.rd 0 = hC hd) : WB ρ (oneB (hC hd) false 0) b :=
  WB.of_rows h1.symm (by rw [h2]; exact Nat.le_refl _) (fun q => nomatch q) (fun q => nomatch q) fun r hr => by
    obtain rfl : r = 0 := by have : r < 1 := hr; omega
    exact ⟨h3.symm, rfl⟩
theorem wb_m {ρ : Ren} {sv va cf an : Bool} {ks gs ks1 gs1 : SV} {b : Blk} (h1 : b.sz = 6) (h2 : b.n = 1) (h3 : b.rd 0 = mC sv ks gs va cf an) (hk : ren ρ ks1 = some ks) (hg : ren ρ gs1 = some gs) : WB ρ (mRo sv ks1 gs1 va cf an) b :=
  ⟨h1.symm, by rw [h2]; exact Nat.le_refl _, (fun q => nomatch (show (false : Bool) = true from q)), (fun q => nomatch (show (false : Bool) = true from q)), fun r hr => by
    obtain rfl : r = 0 := by have : r < 1 := hr; omega
    rw [h3]
    exact (cl_k sv va cf an).wl _ _ _ _ _ hk hg⟩
theorem ok23 : SpecOK Try.prog 23 s23 := by
  intro args h base k hk
  unfold s23 at hk
  split at hk
  · rename_i hid id s
    have hc := cal (f := 23) Try.func23 (by kernel_rfl) (by kernel_rfl)
    obtain ⟨bh, hd, a1, a2, a3, a4, hk⟩ := handR_ok hk
    obtain ⟨b, bk, sv, ik, nk, gs, va, cf, an, gf, ng, h1, h2, h3, h4, k1, k2, lg, ho, R, hk⟩ := mAllN_ok hk
    rcases lg with ⟨rfl, rfl, rfl⟩ | ⟨ig, bg, rfl, g1, g2, rfl⟩
    · refine ⟨_, [], [], hk, CSim.reads hc [.ptr 0 0 7 0, .ptr 1 0 6 0, .int .i64 s] [some (oneB (hC hd) false 0), some (mRo sv (.slice 2 0 1 nk) .nilSlice va cf an), some (bF (fun r => rI (bk.rd r)) nk)] [hid, id, ik] rfl (canon23n s R k2.sm) rfl (fun i c e => ?_) rfl base⟩
      match i, e with
      | 0, e =>
        obtain rfl := Option.some.inj (show some (oneB (hC hd) false 0) = some c from e)
        exact ⟨rfl, hid, bh, rfl, a1, wb_h a2 a3 a4⟩
      | 1, e =>
        obtain rfl := Option.some.inj (show some (mRo sv (.slice 2 0 1 nk) .nilSlice va cf an) = some c from e)
        exact ⟨rfl, id, b, rfl, h1, wb_m h2 h3 h4 rfl rfl⟩
      | 2, e =>
        obtain rfl := Option.some.inj (show some (bF (fun r => rI (bk.rd r)) nk) = some c from e)
        exact ⟨rfl, ik, bk, rfl, k1, k2.wb _⟩
      | i + 3, e => exact nomatch (show (none : Option Blk) = some c from e)
    · refine ⟨_, [], [], hk, CSim.reads hc [.ptr 0 0 7 0, .ptr 1 0 6 0, .int .i64 s] [some (oneB (hC hd) false 0), some (mRo sv (.slice 2 0 1 nk) (.slice 3 0 1 ng) va cf an), some (bF (fun r => rI (bk.rd r)) nk), some (bF (fun r => rI (bg.rd r)) ng)] [hid, id, ik, ig] rfl (canon23s s R k2.sm g2.sm) rfl (fun i c e => ?_) rfl base⟩
      match i, e with
      | 0, e =>
        obtain rfl := Option.some.inj (show some (oneB (hC hd) false 0) = some c from e)
        exact ⟨rfl, hid, bh, rfl, a1, wb_h a2 a3 a4⟩
      | 1, e =>
        obtain rfl := Option.some.inj (show some (mRo sv (.slice 2 0 1 nk) (.slice 3 0 1 ng) va cf an) = some c from e)
        exact ⟨rfl, id, b, rfl, h1, wb_m h2 h3 h4 rfl rfl⟩
      | 2, e =>
        obtain rfl := Option.some.inj (show some (bF (fun r => rI (bk.rd r)) nk) = some c from e)
        exact ⟨rfl, ik, bk, rfl, k1, k2.wb _⟩
      | 3, e =>
        obtain rfl := Option.some.inj (show some (bF (fun r => rI (bg.rd r)) ng) = some c from e)
        exact ⟨rfl, ig, bg, rfl, g1, g2.wb _⟩
      | i + 4, e => exact nomatch (show (none : Option Blk) = some c from e)
  · cases hk
end
end Go.Proofs.Ytllkhfabfcpieaa
