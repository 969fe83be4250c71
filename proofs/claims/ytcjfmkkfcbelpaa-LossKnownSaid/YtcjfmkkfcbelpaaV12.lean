/-
  Chapter 9 by the engine: what is lost: both keep the contract. (Printed by genv12.py.)
-/
import Derived.Test.YtcjfmkkfcbelpaaX12
namespace Go.Proofs.Ytcjfmkkfcbelpaa
open Go.RowKit
set_option linter.unusedVariables false
/-- No list, one list, two lists that are new. -/
theorem find0 {f : FuncId} {args1 args : List SV} {hp1 : LHeap} {ψ : List Nat} {h : Heap} {base : Nat} {V : SV} (hcall : ∀ vs w, (callFunc f vs).run Try.prog w = .ok (.enter f vs) w) (hl : ψ.length = hp1.length) (ha : renL (fun i => ψ[i]?) args1 = some args)
    (hb : ∀ (i : Nat) (b1 : Blk), hget hp1 i = some b1 → b1.rw = false ∧ ∃ x b, ψ[i]? = some x ∧ h x = some b ∧ WB (fun i => ψ[i]?) b1 b) (hV : svIds V = []) (hcan : Canon Try.prog f args1 hp1 fun v _ => v = V) : CSim Try.prog f args h base V [] [] :=
  CSim.reads hcall args1 hp1 ψ hl hcan ha hb (ren_id_of hV _) base
theorem find1 {f : FuncId} {args1 args : List SV} {hp1 : LHeap} {ψ : List Nat} {h : Heap} {base x c : Nat} {V V1 : SV} {Q : Nat → Pk} (hcall : ∀ vs w, (callFunc f vs).run Try.prog w = .ok (.enter f vs) w) (hl : ψ.length = hp1.length) (hinj : ∀ (i j x : Nat), ψ[i]? = some x → ψ[j]? = some x → i = j) (ha : renL (fun i => ψ[i]?) args1 = some args)
    (hb : ∀ (i : Nat) (b1 : Blk), hget hp1 i = some b1 → b1.rw = false ∧ ∃ x b, ψ[i]? = some x ∧ h x = some b ∧ WB (fun i => ψ[i]?) b1 b) (hx : hp1.length ≤ x) (hV : ren (back ψ [x] base) V = some V1)
    (hcan : Canon Try.prog f args1 hp1 fun v hp => v = V1 ∧ ∃ A, hget hp x = some A ∧ IsL A Q c) : CSim Try.prog f args h base V [] [bPw c Q] := by
  rw [← zipW_nil ψ]
  refine CSim.zip (outs := []) hcall args1 hp1 ψ hl hinj hcan ha (fun i b1 e => (hb i b1 e).2) (fun i b1 e hrw => by rw [(hb i b1 e).1] at hrw; cases hrw) (fun i hi => nomatch (show i < 0 from hi)) fun v' hp2 hk => ?_
  obtain ⟨rfl, A, hg, hA⟩ := hk
  refine ⟨[x], rfl, fun y hy => by simp at hy; subst hy; exact hx, inj1, hV, fun j c q => ?_, fun i b q => by simp at q⟩
  match j, q with
  | 0, q =>
    obtain rfl := Option.some.inj (show some (bPw _ Q) = some c from q)
    exact ⟨rfl, x, A, rfl, hg, hA.wb _⟩
  | j + 1, q => simp at q
theorem find2 {f : FuncId} {args1 args : List SV} {hp1 : LHeap} {ψ : List Nat} {h : Heap} {base x y c d : Nat} {V V1 : SV} {Q R : Nat → Pk} (hcall : ∀ vs w, (callFunc f vs).run Try.prog w = .ok (.enter f vs) w) (hl : ψ.length = hp1.length) (hinj : ∀ (i j x : Nat), ψ[i]? = some x → ψ[j]? = some x → i = j) (ha : renL (fun i => ψ[i]?) args1 = some args)
    (hb : ∀ (i : Nat) (b1 : Blk), hget hp1 i = some b1 → b1.rw = false ∧ ∃ x b, ψ[i]? = some x ∧ h x = some b ∧ WB (fun i => ψ[i]?) b1 b) (hx : hp1.length ≤ x) (hy : hp1.length ≤ y) (hne : x ≠ y) (hV : ren (back ψ [x, y] base) V = some V1)
    (hcan : Canon Try.prog f args1 hp1 fun v hp => v = V1 ∧ (∃ A, hget hp x = some A ∧ IsL A Q c) ∧ ∃ D, hget hp y = some D ∧ IsL D R d) : CSim Try.prog f args h base V [] [bPw c Q, bPw d R] := by
  rw [← zipW_nil ψ]
  refine CSim.zip (outs := []) hcall args1 hp1 ψ hl hinj hcan ha (fun i b1 e => (hb i b1 e).2) (fun i b1 e hrw => by rw [(hb i b1 e).1] at hrw; cases hrw) (fun i hi => nomatch (show i < 0 from hi)) fun v' hp2 hk => ?_
  obtain ⟨rfl, ⟨A, hg, hA⟩, D, hg2, hD⟩ := hk
  refine ⟨[x, y], rfl, fun z hz => by simp at hz; rcases hz with rfl | rfl <;> assumption, inj2 hne, hV, fun j c q => ?_, fun i b q => by simp at q⟩
  match j, q with
  | 0, q =>
    obtain rfl := Option.some.inj (show some (bPw _ Q) = some c from q)
    exact ⟨rfl, x, A, rfl, hg, hA.wb _⟩
  | 1, q =>
    obtain rfl := Option.some.inj (show some (bPw _ R) = some c from q)
    exact ⟨rfl, y, D, rfl, hg2, hD.wb _⟩
  | j + 2, q => simp at q
section
attribute [local irreducible] evalC
set_option maxRecDepth 100000
theorem ok11 : SpecOK Try.prog 11 s11 := by
  intro args h base k hk
  unfold s11 at hk
  split at hk
  · rename_i u g t l m s v f
    have hc := cal (f := 11) Try.func11 (by kernel_rfl) (by kernel_rfl)
    obtain ⟨P, n, lg, hk⟩ := lp_ok hk
    rcases lg with ⟨he, rfl, rfl⟩ | ⟨id, bl, rfl, g1, g2, rfl⟩
    · have hcan : Canon Try.prog 11 [u, .int .i64 g, .int .i64 t, .agg [.int .i64 l, .int .i64 m, .int .i64 s, .int .i64 v, .int .i64 f]] [] fun a _ => bif decide (g < -1) then a = noList 9 else bif decide (9007199254740991 < g) then a = noList 9 else bif !isT t then a = noList 9 else bif chkE l m s v f != 0 then a = noList (chkE l m s v f) else a = .tuple [.nilSlice, .nilSlice, .int .i64 (-1), .int .i64 0] := by
        rcases he with rfl | rfl
        · refine CodeOK.body Try.func11 (by kernel_rfl) (CodeOK.eval (C := C9) ec gs9 mixed 64 ?_)
          show evalC C9 64 0 (bodF Try.f11) (enterS 89 _) [] (endK Try.prog Try.f11.results.toList fun a _ => bif decide (g < -1) then a = noList 9 else bif decide (9007199254740991 < g) then a = noList 9 else bif !isT t then a = noList 9 else bif chkE l m s v f != 0 then a = noList (chkE l m s v f) else a = .tuple [.nilSlice, .nilSlice, .int .i64 (-1), .int .i64 0])
          rw [t11n g t l m s v f (fun a => bif decide (g < -1) then a = noList 9 else bif decide (9007199254740991 < g) then a = noList 9 else bif !isT t then a = noList 9 else bif chkE l m s v f != 0 then a = noList (chkE l m s v f) else a = .tuple [.nilSlice, .nilSlice, .int .i64 (-1), .int .i64 0])]
          cases decide (g < -1) <;> cases decide (9007199254740991 < g) <;> cases (!isT t) <;> cases (chkE l m s v f != 0) <;> rfl
        · refine CodeOK.body Try.func11 (by kernel_rfl) (CodeOK.eval (C := C9) ec gs9 mixed 64 ?_)
          show evalC C9 64 0 (bodF Try.f11) (enterS 89 _) [] (endK Try.prog Try.f11.results.toList fun a _ => bif decide (g < -1) then a = noList 9 else bif decide (9007199254740991 < g) then a = noList 9 else bif !isT t then a = noList 9 else bif chkE l m s v f != 0 then a = noList (chkE l m s v f) else a = .tuple [.nilSlice, .nilSlice, .int .i64 (-1), .int .i64 0])
          rw [t11e g t l m s v f (fun a => bif decide (g < -1) then a = noList 9 else bif decide (9007199254740991 < g) then a = noList 9 else bif !isT t then a = noList 9 else bif chkE l m s v f != 0 then a = noList (chkE l m s v f) else a = .tuple [.nilSlice, .nilSlice, .int .i64 (-1), .int .i64 0])]
          cases decide (g < -1) <;> cases decide (9007199254740991 < g) <;> cases (!isT t) <;> cases (chkE l m s v f != 0) <;> rfl
      have ha : renL (fun i => ([] : List Nat)[i]?) [u, .int .i64 g, .int .i64 t, .agg [.int .i64 l, .int .i64 m, .int .i64 s, .int .i64 v, .int .i64 f]] = some [u, .int .i64 g, .int .i64 t, .agg [.int .i64 l, .int .i64 m, .int .i64 s, .int .i64 v, .int .i64 f]] := by
        rcases he with rfl | rfl <;> exact renL_id_of rfl _
      have hb : ∀ (i : Nat) (b1 : Blk), hget [] i = some b1 → b1.rw = false ∧ ∃ x b, ([] : List Nat)[i]? = some x ∧ h x = some b ∧ WB (fun i => ([] : List Nat)[i]?) b1 b := fun i b1 e => by rw [nob] at e; cases e
      rw [show (chkP (fun _ => pk0) 0 != 0) = false from rfl, cond_false] at hk
      cases c2 : decide (g < -1) with
      | true => rw [c2] at hk hcan; exact ⟨_, _, _, hk, find0 hc rfl ha hb rfl hcan⟩
      | false =>
      rw [c2] at hk hcan
      cases c3 : decide (9007199254740991 < g) with
      | true => rw [c3] at hk hcan; exact ⟨_, _, _, hk, find0 hc rfl ha hb rfl hcan⟩
      | false =>
      rw [c3] at hk hcan
      cases c4 : !isT t with
      | true => rw [c4] at hk hcan; exact ⟨_, _, _, hk, find0 hc rfl ha hb rfl hcan⟩
      | false =>
      rw [c4] at hk hcan
      cases c5 : chkE l m s v f != 0 with
      | true => rw [c5] at hk hcan; exact ⟨_, _, _, hk, find0 hc rfl ha hb rfl hcan⟩
      | false =>
        rw [c5] at hk hcan
        exact ⟨_, _, _, hk.1 rfl rfl _ rfl, find0 hc rfl ha hb rfl hcan⟩
    · have hcan := canon11 n (fun r => rowP (bl.rd r)) g t l m s v f g2.sm
      have hb := one1 g1 g2
      have ha : renL (fun i => [id][i]?) [.slice 0 0 6 n, .int .i64 g, .int .i64 t, .agg [.int .i64 l, .int .i64 m, .int .i64 s, .int .i64 v, .int .i64 f]] = some [.slice id 0 6 n, .int .i64 g, .int .i64 t, .agg [.int .i64 l, .int .i64 m, .int .i64 s, .int .i64 v, .int .i64 f]] := rfl
      unfold Early at hcan
      cases c1 : chkP (fun r => rowP (bl.rd r)) n != 0 with
      | true => rw [c1] at hk hcan; exact ⟨_, _, _, hk, find0 hc rfl ha hb rfl hcan⟩
      | false =>
      rw [c1] at hk hcan
      cases c2 : decide (g < -1) with
      | true => rw [c2] at hk hcan; exact ⟨_, _, _, hk, find0 hc rfl ha hb rfl hcan⟩
      | false =>
      rw [c2] at hk hcan
      cases c3 : decide (9007199254740991 < g) with
      | true => rw [c3] at hk hcan; exact ⟨_, _, _, hk, find0 hc rfl ha hb rfl hcan⟩
      | false =>
      rw [c3] at hk hcan
      cases c4 : !isT t with
      | true => rw [c4] at hk hcan; exact ⟨_, _, _, hk, find0 hc rfl ha hb rfl hcan⟩
      | false =>
      rw [c4] at hk hcan
      cases c5 : chkE l m s v f != 0 with
      | true => rw [c5] at hk hcan; exact ⟨_, _, _, hk, find0 hc rfl ha hb rfl hcan⟩
      | false =>
      rw [c5] at hk hcan
      obtain ⟨k1, k2, k3, k4⟩ := hk
      cases e1 : cntS (lostB g t (waitV l m s v f) fun r => rowP (bl.rd r)) n with
      | zero =>
        cases e2 : cntS (restB g t (waitV l m s v f) fun r => rowP (bl.rd r)) n with
        | zero =>
          refine ⟨_, _, _, k1 e1 e2 _ rfl, find0 hc rfl ha hb rfl (hcan.mono fun a hp h => ?_)⟩
          rcases h with ⟨q1, q2, h⟩ | ⟨a', A, q1, q2, h, q4, q5⟩ | ⟨b', D, q1, q2, h, q4, q5⟩ | ⟨a', b', A, D, q1, q2, h, q4, q5, q6, q7⟩
          · exact h
          · omega
          · omega
          · omega
        | succ b =>
          refine ⟨_, _, _, k3 b _ e1 ⟨e2, fun r _ => rfl⟩ _ rfl, find1 (x := 7) (V1 := .tuple [.nilSlice, .slice 7 0 6 (b + 1), .int .i64 (tmV g t (waitV l m s v f) (fun r => rowP (bl.rd r)) n), .int .i64 0]) hc rfl inj1 ha hb (show 1 ≤ 7 by decide) (by simp only [ren, renL, back_one]) (hcan.mono fun a hp h => ?_)⟩
          rcases h with ⟨q1, q2, h⟩ | ⟨a', A, q1, q2, h, q4, q5⟩ | ⟨b', D, q1, q2, h, q4, q5⟩ | ⟨a', b', A, D, q1, q2, h, q4, q5, q6, q7⟩
          · omega
          · omega
          · obtain rfl : b' = b := by omega
            exact ⟨h, D, q4, q5⟩
          · omega
      | succ a =>
        cases e2 : cntS (restB g t (waitV l m s v f) fun r => rowP (bl.rd r)) n with
        | zero =>
          refine ⟨_, _, _, k2 a _ ⟨e1, fun r _ => rfl⟩ e2 _ rfl, find1 (x := 7) (V1 := .tuple [.slice 7 0 6 (a + 1), .nilSlice, .int .i64 (tmV g t (waitV l m s v f) (fun r => rowP (bl.rd r)) n), .int .i64 0]) hc rfl inj1 ha hb (show 1 ≤ 7 by decide) (by simp only [ren, renL, back_one]) (hcan.mono fun z hp h => ?_)⟩
          rcases h with ⟨q1, q2, h⟩ | ⟨a', A, q1, q2, h, q4, q5⟩ | ⟨b', D, q1, q2, h, q4, q5⟩ | ⟨a', b', A, D, q1, q2, h, q4, q5, q6, q7⟩
          · omega
          · obtain rfl : a' = a := by omega
            exact ⟨h, A, q4, q5⟩
          · omega
          · omega
        | succ b =>
          refine ⟨_, _, _, k4 a _ b _ ⟨e1, fun r _ => rfl⟩ ⟨e2, fun r _ => rfl⟩ _ rfl, find2 (x := 7) (y := 8) (V1 := .tuple [.slice 7 0 6 (a + 1), .slice 8 0 6 (b + 1), .int .i64 (tmV g t (waitV l m s v f) (fun r => rowP (bl.rd r)) n), .int .i64 0]) hc rfl inj1 ha hb (show 1 ≤ 7 by decide) (show 1 ≤ 8 by decide) (by decide) (by simp only [ren, renL, back_fst, back_snd]) (hcan.mono fun z hp h => ?_)⟩
          rcases h with ⟨q1, q2, h⟩ | ⟨a', A, q1, q2, h, q4, q5⟩ | ⟨b', D, q1, q2, h, q4, q5⟩ | ⟨a', b', A, D, q1, q2, h, q4, q5, q6, q7⟩
          · omega
          · omega
          · omega
          · obtain rfl : a' = a := by omega
            obtain rfl : b' = b := by omega
            exact ⟨h, ⟨A, q4, q5⟩, D, q6, q7⟩
  · cases hk
theorem ok12 : SpecOK Try.prog 12 s11 := by
  intro args h base k hk
  unfold s11 at hk
  split at hk
  · rename_i u g t l m s v f
    have hc := cal (f := 12) Try.func12 (by kernel_rfl) (by kernel_rfl)
    obtain ⟨P, n, lg, hk⟩ := lp_ok hk
    rcases lg with ⟨he, rfl, rfl⟩ | ⟨id, bl, rfl, g1, g2, rfl⟩
    · have hcan : Canon Try.prog 12 [u, .int .i64 g, .int .i64 t, .agg [.int .i64 l, .int .i64 m, .int .i64 s, .int .i64 v, .int .i64 f]] [] fun a _ => bif decide (g < -1) then a = noList 9 else bif decide (9007199254740991 < g) then a = noList 9 else bif !isT t then a = noList 9 else bif chkE l m s v f != 0 then a = noList (chkE l m s v f) else a = .tuple [.nilSlice, .nilSlice, .int .i64 (-1), .int .i64 0] := by
        rcases he with rfl | rfl
        · refine CodeOK.body Try.func12 (by kernel_rfl) (CodeOK.eval (C := C9) ec gs9 mixed 64 ?_)
          show evalC C9 64 0 (bodF Try.f12) (enterS 112 _) [] (endK Try.prog Try.f12.results.toList fun a _ => bif decide (g < -1) then a = noList 9 else bif decide (9007199254740991 < g) then a = noList 9 else bif !isT t then a = noList 9 else bif chkE l m s v f != 0 then a = noList (chkE l m s v f) else a = .tuple [.nilSlice, .nilSlice, .int .i64 (-1), .int .i64 0])
          rw [t12n g t l m s v f (fun a => bif decide (g < -1) then a = noList 9 else bif decide (9007199254740991 < g) then a = noList 9 else bif !isT t then a = noList 9 else bif chkE l m s v f != 0 then a = noList (chkE l m s v f) else a = .tuple [.nilSlice, .nilSlice, .int .i64 (-1), .int .i64 0])]
          cases decide (g < -1) <;> cases decide (9007199254740991 < g) <;> cases (!isT t) <;> cases (chkE l m s v f != 0) <;> rfl
        · refine CodeOK.body Try.func12 (by kernel_rfl) (CodeOK.eval (C := C9) ec gs9 mixed 64 ?_)
          show evalC C9 64 0 (bodF Try.f12) (enterS 112 _) [] (endK Try.prog Try.f12.results.toList fun a _ => bif decide (g < -1) then a = noList 9 else bif decide (9007199254740991 < g) then a = noList 9 else bif !isT t then a = noList 9 else bif chkE l m s v f != 0 then a = noList (chkE l m s v f) else a = .tuple [.nilSlice, .nilSlice, .int .i64 (-1), .int .i64 0])
          rw [t12e g t l m s v f (fun a => bif decide (g < -1) then a = noList 9 else bif decide (9007199254740991 < g) then a = noList 9 else bif !isT t then a = noList 9 else bif chkE l m s v f != 0 then a = noList (chkE l m s v f) else a = .tuple [.nilSlice, .nilSlice, .int .i64 (-1), .int .i64 0])]
          cases decide (g < -1) <;> cases decide (9007199254740991 < g) <;> cases (!isT t) <;> cases (chkE l m s v f != 0) <;> rfl
      have ha : renL (fun i => ([] : List Nat)[i]?) [u, .int .i64 g, .int .i64 t, .agg [.int .i64 l, .int .i64 m, .int .i64 s, .int .i64 v, .int .i64 f]] = some [u, .int .i64 g, .int .i64 t, .agg [.int .i64 l, .int .i64 m, .int .i64 s, .int .i64 v, .int .i64 f]] := by
        rcases he with rfl | rfl <;> exact renL_id_of rfl _
      have hb : ∀ (i : Nat) (b1 : Blk), hget [] i = some b1 → b1.rw = false ∧ ∃ x b, ([] : List Nat)[i]? = some x ∧ h x = some b ∧ WB (fun i => ([] : List Nat)[i]?) b1 b := fun i b1 e => by rw [nob] at e; cases e
      rw [show (chkP (fun _ => pk0) 0 != 0) = false from rfl, cond_false] at hk
      cases c2 : decide (g < -1) with
      | true => rw [c2] at hk hcan; exact ⟨_, _, _, hk, find0 hc rfl ha hb rfl hcan⟩
      | false =>
      rw [c2] at hk hcan
      cases c3 : decide (9007199254740991 < g) with
      | true => rw [c3] at hk hcan; exact ⟨_, _, _, hk, find0 hc rfl ha hb rfl hcan⟩
      | false =>
      rw [c3] at hk hcan
      cases c4 : !isT t with
      | true => rw [c4] at hk hcan; exact ⟨_, _, _, hk, find0 hc rfl ha hb rfl hcan⟩
      | false =>
      rw [c4] at hk hcan
      cases c5 : chkE l m s v f != 0 with
      | true => rw [c5] at hk hcan; exact ⟨_, _, _, hk, find0 hc rfl ha hb rfl hcan⟩
      | false =>
        rw [c5] at hk hcan
        exact ⟨_, _, _, hk.1 rfl rfl _ rfl, find0 hc rfl ha hb rfl hcan⟩
    · have hcan := canon12 n (fun r => rowP (bl.rd r)) g t l m s v f g2.sm
      have hb := one1 g1 g2
      have ha : renL (fun i => [id][i]?) [.slice 0 0 6 n, .int .i64 g, .int .i64 t, .agg [.int .i64 l, .int .i64 m, .int .i64 s, .int .i64 v, .int .i64 f]] = some [.slice id 0 6 n, .int .i64 g, .int .i64 t, .agg [.int .i64 l, .int .i64 m, .int .i64 s, .int .i64 v, .int .i64 f]] := rfl
      unfold Early at hcan
      cases c1 : chkP (fun r => rowP (bl.rd r)) n != 0 with
      | true => rw [c1] at hk hcan; exact ⟨_, _, _, hk, find0 hc rfl ha hb rfl hcan⟩
      | false =>
      rw [c1] at hk hcan
      cases c2 : decide (g < -1) with
      | true => rw [c2] at hk hcan; exact ⟨_, _, _, hk, find0 hc rfl ha hb rfl hcan⟩
      | false =>
      rw [c2] at hk hcan
      cases c3 : decide (9007199254740991 < g) with
      | true => rw [c3] at hk hcan; exact ⟨_, _, _, hk, find0 hc rfl ha hb rfl hcan⟩
      | false =>
      rw [c3] at hk hcan
      cases c4 : !isT t with
      | true => rw [c4] at hk hcan; exact ⟨_, _, _, hk, find0 hc rfl ha hb rfl hcan⟩
      | false =>
      rw [c4] at hk hcan
      cases c5 : chkE l m s v f != 0 with
      | true => rw [c5] at hk hcan; exact ⟨_, _, _, hk, find0 hc rfl ha hb rfl hcan⟩
      | false =>
      rw [c5] at hk hcan
      obtain ⟨k1, k2, k3, k4⟩ := hk
      cases e1 : cntS (lostB g t (waitV l m s v f) fun r => rowP (bl.rd r)) n with
      | zero =>
        cases e2 : cntS (restB g t (waitV l m s v f) fun r => rowP (bl.rd r)) n with
        | zero =>
          refine ⟨_, _, _, k1 e1 e2 _ rfl, find0 hc rfl ha hb rfl (hcan.mono fun a hp h => ?_)⟩
          rcases h with ⟨q1, q2, h⟩ | ⟨a', A, q1, q2, h, q4, q5⟩ | ⟨b', D, q1, q2, h, q4, q5⟩ | ⟨a', b', A, D, q1, q2, h, q4, q5, q6, q7⟩
          · exact h
          · omega
          · omega
          · omega
        | succ b =>
          refine ⟨_, _, _, k3 b _ e1 ⟨e2, fun r _ => rfl⟩ _ rfl, find1 (x := 2) (V1 := .tuple [.nilSlice, .slice 2 0 6 (b + 1), .int .i64 (tmV g t (waitV l m s v f) (fun r => rowP (bl.rd r)) n), .int .i64 0]) hc rfl inj1 ha hb (show 1 ≤ 2 by decide) (by simp only [ren, renL, back_one]) (hcan.mono fun a hp h => ?_)⟩
          rcases h with ⟨q1, q2, h⟩ | ⟨a', A, q1, q2, h, q4, q5⟩ | ⟨b', D, q1, q2, h, q4, q5⟩ | ⟨a', b', A, D, q1, q2, h, q4, q5, q6, q7⟩
          · omega
          · omega
          · obtain rfl : b' = b := by omega
            exact ⟨h, D, q4, q5⟩
          · omega
      | succ a =>
        cases e2 : cntS (restB g t (waitV l m s v f) fun r => rowP (bl.rd r)) n with
        | zero =>
          refine ⟨_, _, _, k2 a _ ⟨e1, fun r _ => rfl⟩ e2 _ rfl, find1 (x := 2) (V1 := .tuple [.slice 2 0 6 (a + 1), .nilSlice, .int .i64 (tmV g t (waitV l m s v f) (fun r => rowP (bl.rd r)) n), .int .i64 0]) hc rfl inj1 ha hb (show 1 ≤ 2 by decide) (by simp only [ren, renL, back_one]) (hcan.mono fun z hp h => ?_)⟩
          rcases h with ⟨q1, q2, h⟩ | ⟨a', A, q1, q2, h, q4, q5⟩ | ⟨b', D, q1, q2, h, q4, q5⟩ | ⟨a', b', A, D, q1, q2, h, q4, q5, q6, q7⟩
          · omega
          · obtain rfl : a' = a := by omega
            exact ⟨h, A, q4, q5⟩
          · omega
          · omega
        | succ b =>
          refine ⟨_, _, _, k4 a _ b _ ⟨e1, fun r _ => rfl⟩ ⟨e2, fun r _ => rfl⟩ _ rfl, find2 (x := 2) (y := 3) (V1 := .tuple [.slice 2 0 6 (a + 1), .slice 3 0 6 (b + 1), .int .i64 (tmV g t (waitV l m s v f) (fun r => rowP (bl.rd r)) n), .int .i64 0]) hc rfl inj1 ha hb (show 1 ≤ 2 by decide) (show 1 ≤ 3 by decide) (by decide) (by simp only [ren, renL, back_fst, back_snd]) (hcan.mono fun z hp h => ?_)⟩
          rcases h with ⟨q1, q2, h⟩ | ⟨a', A, q1, q2, h, q4, q5⟩ | ⟨b', D, q1, q2, h, q4, q5⟩ | ⟨a', b', A, D, q1, q2, h, q4, q5, q6, q7⟩
          · omega
          · omega
          · omega
          · obtain rfl : a' = a := by omega
            obtain rfl : b' = b := by omega
            exact ⟨h, ⟨A, q4, q5⟩, D, q6, q7⟩
  · cases hk
theorem gs12 : GSound C12 := (gs9.add ok11).add ok12
end
end Go.Proofs.Ytcjfmkkfcbelpaa
