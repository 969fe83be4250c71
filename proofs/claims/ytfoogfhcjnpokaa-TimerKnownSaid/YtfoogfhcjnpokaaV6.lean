/-
  Chapter 18 by the engine: the contracts are kept (6): lists, the best, Pick.
-/
import Derived.Test.YtfoogfhcjnpokaaV5
import Derived.Test.YtfoogfhcjnpokaaX7
namespace Go.Proofs.Ytfoogfhcjnpokaa
open Go.RowKit

theorem injA {a b c d : Nat} (h1 : a < b) (h2 : b < c) (h3 : c < d) : ∀ (i j x : Nat), [a, b, c, d][i]? = some x → [a, b, c, d][j]? = some x → i = j := by
  intro i j x p1 p2
  match i, j with
  | 0, 0 => rfl
  | 0, 1 => simp at p1 p2; omega
  | 0, 2 => simp at p1 p2; omega
  | 0, 3 => simp at p1 p2; omega
  | 1, 0 => simp at p1 p2; omega
  | 1, 1 => rfl
  | 1, 2 => simp at p1 p2; omega
  | 1, 3 => simp at p1 p2; omega
  | 2, 0 => simp at p1 p2; omega
  | 2, 1 => simp at p1 p2; omega
  | 2, 2 => rfl
  | 2, 3 => simp at p1 p2; omega
  | 3, 0 => simp at p1 p2; omega
  | 3, 1 => simp at p1 p2; omega
  | 3, 2 => simp at p1 p2; omega
  | 3, 3 => rfl
  | i + 4, _ => simp at p1
  | 0, j + 4 => simp at p2
  | 1, j + 4 => simp at p2
  | 2, j + 4 => simp at p2
  | 3, j + 4 => simp at p2
theorem asc_ok {a b c d : Nat} (h : asc a b c d = true) : a < b ∧ b < c ∧ c < d := by
  simpa [asc, Nat.blt_eq] using h
/-- Such a list is handed back. -/
def ListIs (rows : List D3) (v : SV) (o : BO) : Prop := match rows with
  | [] => v = .nilSlice
  | x :: l => ∃ t, 4 ≤ t ∧ v = .slice t 0 3 (l.length + 1) ∧ o = .rows 3 (l.length + 1) true 32 ((x :: l).map rowS3)
theorem listSim {f : FuncId} (hcall : ∀ vs w, (callFunc f vs).run Try.prog w = .ok (.enter f vs) w) {F : Fc} {h : Heap} {i0 i1 i2 i3 : Nat} {l m s v f' d c mo : Int} (H : Four h i0 i1 i2 i3 l m s v f' d c mo) (ha : asc i0 i1 i2 i3 = true) (rows : List D3)
    (hcan : Canon Try.prog f [askS F] (hpC l m s v f' d c mo) fun v hp => ListIs rows v (obsRes v hp)) {args : List SV} (hr : renL (fun i => [i0, i1, i2, i3][i]?) [askS F] = some args) (base : Nat) :
    CSim Try.prog f args h base (listV base rows) [] (listN rows) := by
  obtain ⟨a1, a2, a3⟩ := asc_ok ha
  cases rows with
  | nil => exact CSim.reads hcall [askS F] (hpC l m s v f' d c mo) [i0, i1, i2, i3] rfl (hcan.mono fun v hp h => h) hr (H.wb _) rfl base
  | cons x rows =>
    refine CSim.list (b := ⟨3, rows.length + 1, fun r => rowS3 ((x :: rows).getD r (0, 0, 0)), true, 32⟩) hcall [askS F] (hpC l m s v f' d c mo) [i0, i1, i2, i3] rfl rfl (fun r _ => rfl) (injA a1 a2 a3) hcan hr (H.wb _) fun v' hp2 hk => ?_
    obtain ⟨t, h1, rfl, h3⟩ := hk
    simp only [obsRes] at h3
    cases hb : hget hp2 t with
    | none => rw [hb] at h3; simp [obsB] at h3
    | some b2 =>
      rw [hb] at h3
      simp only [obsB, BO.rows.injEq] at h3
      obtain ⟨e1, e2, e3, e4, e5⟩ := h3
      refine ⟨t, b2, rfl, h1, hb, e1, e2, e3, e4, fun r hr => ?_⟩
      have hr : r < rows.length + 1 := hr
      have e6 := congrArg (fun L => L[r]?) e5
      simp only [List.getElem?_map] at e6
      rw [e2, List.getElem?_range hr, List.getElem?_eq_getElem (by simpa using hr)] at e6
      simp only [Option.map_some, Option.some.injEq] at e6
      show b2.rd r = rowS3 ((x :: rows).getD r (0, 0, 0))
      rw [e6, List.getD_eq_getElem?_getD, List.getElem?_eq_getElem (by simpa using hr)]
      rfl
theorem canon28 (F : Fc) (l m s v f d c mo : Int) : Canon Try.prog 28 [askS F] (hpC l m s v f d c mo) fun v' hp => ListIs (lossL F) v' (obsRes v' hp) := by
  refine CodeOK.body Try.func28 (by kernel_rfl) (CodeOK.eval (C := C5) ec gs5 mixed 64 ?_)
  show evalC C5 64 4 (bodF Try.f28) (enterS 24 [askS F]) (hpC l m s v f d c mo) (endK Try.prog Try.f28.results.toList (fun v' hp => ListIs (lossL F) v' (obsRes v' hp)))
  rw [t28 F l m s v f d c mo (ListIs (lossL F))]
  simp only [lossL, onL]
  cases F.a0 != -1 <;> cases F.a1 != -1 <;> cases F.a2 != -1 <;> first | rfl | exact ⟨_, by omega, rfl, rfl⟩
theorem ok28 : SpecOK Try.prog 28 s28 := by
  intro args h base k hk
  unfold s28 at hk
  split at hk
  · rename_i k0 a0 b0 n0 k1 a1 b1 n1 k2 a2 b2 n2 cf lm pr now i0 i1 i2 i3
    cases ha : asc i0 i1 i2 i3 with
    | false => simp [ha] at hk
    | true =>
      simp only [ha, cond_true] at hk
      obtain ⟨l, m, s, v, f, d, c, mo, H, hk⟩ := four_ok hk
      rw [lossK_eq] at hk
      exact ⟨_, _, _, hk, listSim (cal Try.func28 (by kernel_rfl) (by kernel_rfl)) (F := ⟨k0, a0, b0, n0, k1, a1, b1, n1, k2, a2, b2, n2, cf, lm, pr, now⟩) H ha _ (canon28 _ l m s v f d c mo) rfl base⟩
  · cases hk
theorem canon29 (F : Fc) (l m s v f d c mo : Int) : Canon Try.prog 29 [askS F] (hpC l m s v f d c mo) fun v' hp => ListIs (probL F (waitV l m s v f d c mo)) v' (obsRes v' hp) := by
  refine CodeOK.body Try.func29 (by kernel_rfl) (CodeOK.eval (C := C5) ec gs5 mixed 64 ?_)
  show evalC C5 64 4 (bodF Try.f29) (enterS 43 [askS F]) (hpC l m s v f d c mo) (endK Try.prog Try.f29.results.toList (fun v' hp => ListIs (probL F (waitV l m s v f d c mo)) v' (obsRes v' hp)))
  rw [t29 F l m s v f d c mo (ListIs (probL F (waitV l m s v f d c mo)))]
  simp only [probL, onL, u0, u1, u2]
  by_cases h0 : 0 < F.n0 <;> by_cases h1 : 0 < F.n1 <;> by_cases h2 : 0 < F.n2 <;> simp only [h0, h1, h2, decide_true, decide_false, cond_true, cond_false, Bool.true_and, Bool.false_and] <;>
    cases F.b0 != -1 <;> cases F.b1 != -1 <;> cases F.b2 != -1 <;> cases F.cf <;> first | rfl | exact ⟨_, by omega, rfl, rfl⟩
theorem ok29 : SpecOK Try.prog 29 s29 := by
  intro args h base k hk
  unfold s29 at hk
  split at hk
  · rename_i k0 a0 b0 n0 k1 a1 b1 n1 k2 a2 b2 n2 cf lm pr now i0 i1 i2 i3
    cases ha : asc i0 i1 i2 i3 with
    | false => simp [ha] at hk
    | true =>
      simp only [ha, cond_true] at hk
      obtain ⟨l, m, s, v, f, d, c, mo, H, hk⟩ := four_ok hk
      rw [probK_eq] at hk
      exact ⟨_, _, _, hk, listSim (cal Try.func29 (by kernel_rfl) (by kernel_rfl)) (F := ⟨k0, a0, b0, n0, k1, a1, b1, n1, k2, a2, b2, n2, cf, lm, pr, now⟩) H ha _ (canon29 _ l m s v f d c mo) rfl base⟩
  · cases hk
theorem canon30 (F : Fc) (l m s v f d c mo : Int) : Canon Try.prog 30 [askS F] (hpC l m s v f d c mo) fun v' hp => ListIs (lastL F (waitV l m s v f d c mo)) v' (obsRes v' hp) := by
  refine CodeOK.body Try.func30 (by kernel_rfl) (CodeOK.eval (C := C5) ec gs5 mixed 64 ?_)
  show evalC C5 64 4 (bodF Try.f30) (enterS 47 [askS F]) (hpC l m s v f d c mo) (endK Try.prog Try.f30.results.toList (fun v' hp => ListIs (lastL F (waitV l m s v f d c mo)) v' (obsRes v' hp)))
  rw [t30 F l m s v f d c mo (ListIs (lastL F (waitV l m s v f d c mo)))]
  unfold lastL
  by_cases h0 : 0 < F.n0
  · rw [cb h0, if_pos h0]; rfl
  by_cases h1 : 0 < F.n1
  · rw [cf h0, if_neg h0, cb h1, if_pos h1]; rfl
  by_cases h2 : 0 < F.n2
  · rw [cf h0, if_neg h0, cf h1, if_neg h1, cb h2, if_pos h2]; rfl
  rw [cf h0, if_neg h0, cf h1, if_neg h1, cf h2, if_neg h2]
  cases F.pr <;> cases F.k1 <;> cases F.k0 <;> first | rfl | exact ⟨_, by omega, rfl, rfl⟩
theorem ok30 : SpecOK Try.prog 30 s30 := by
  intro args h base k hk
  unfold s30 at hk
  split at hk
  · rename_i k0 a0 b0 n0 k1 a1 b1 n1 k2 a2 b2 n2 cf lm pr now i0 i1 i2 i3
    cases ha : asc i0 i1 i2 i3 with
    | false => simp [ha] at hk
    | true =>
      simp only [ha, cond_true] at hk
      obtain ⟨l, m, s, v, f, d, c, mo, H, hk⟩ := four_ok hk
      rw [lastK_eq] at hk
      exact ⟨_, _, _, hk, listSim (cal Try.func30 (by kernel_rfl) (by kernel_rfl)) (F := ⟨k0, a0, b0, n0, k1, a1, b1, n1, k2, a2, b2, n2, cf, lm, pr, now⟩) H ha _ (canon30 _ l m s v f d c mo) rfl base⟩
  · cases hk
theorem row3_ok {cs : List SV} {K : D3 → Prop} (h : row3 cs K) : ∃ x y z, cs = [.int .i64 x, .int .i64 y, .int .i64 z] ∧ K (x, y, z) := by
  unfold row3 at h
  split at h
  · exact ⟨_, _, _, rfl, h⟩
  · cases h
theorem bestSim {h : Heap} {id : Nat} {b : Blk} {rows : List D3} (hb : h id = some b) (hs : b.sz = 3) (hn : b.n = rows.length) (hr : ∀ r, r < rows.length → b.rd r = rowS3 (rows.getD r (0, 0, 0))) {v : SV} (hv : ren (fun _ => none) v = some v)
    (hcan : Canon Try.prog 31 [.slice 0 0 3 rows.length, .func (.func 27) [] []] [some (b3 rows)] fun v' _ => v' = v) (base : Nat) : CSim Try.prog 31 [.slice id 0 3 rows.length, .func (.func 27) [] []] h base v [] [] := by
  refine CSim.reads (cal Try.func31 (by kernel_rfl) (by kernel_rfl)) [.slice 0 0 3 rows.length, .func (.func 27) [] []] [some (b3 rows)] [id] rfl hcan rfl (fun i b1 e => ?_) hv base
  match i, e with
  | 0, e =>
    obtain rfl := Option.some.inj (show some (b3 rows) = some b1 from e)
    exact ⟨rfl, id, b, rfl, hb, WB.of_rows hs.symm (by rw [hn]; exact Nat.le_refl _) (fun h => (nomatch h)) (fun h => (nomatch h)) fun r hr' => ⟨(hr r hr').symm, rfl⟩⟩
  | i + 1, e => exact nomatch (show (none : Option Blk) = some b1 from e)
theorem ok31 : SpecOK Try.prog 31 s31 := by
  intro args h base k hk
  unfold s31 at hk
  split at hk
  · refine ⟨_, [], [], hk, plainOK gs1 Try.func31 (by kernel_rfl) (by kernel_rfl) ?_ rfl rfl h base⟩
    show evalF C1 64 Try.f31 _ [] _
    rw [t31_0 (fun v => v = _)]
    rfl
  · rename_i id
    split at hk
    · rename_i b hb
      split at hk
      · rename_i e1 e2
        obtain ⟨x0, y0, z0, r0, hk⟩ := row3_ok hk
        have hr : ∀ r, r < ([(x0, y0, z0)] : List D3).length → b.rd r = rowS3 (([(x0, y0, z0)] : List D3).getD r (0, 0, 0)) := by
          intro r hr
          have hr : r < 1 := hr
          match r, hr with
          | 0, _ => exact r0
        simp only [bestK] at hk
        refine ⟨_, [], [], hk, bestSim (rows := [(x0, y0, z0)]) hb e1 e2 hr rfl (evalF_ok (C := C1) ec gs1 mixed (u := 64) Try.func31 (by kernel_rfl) ?_) base⟩
        show evalF C1 64 Try.f31 [.slice 0 0 3 1, .func (.func 27) [] []] [some (b3 [(x0, y0, z0)])] (fun v _ => v = _)
        rw [t31_1 x0 y0 z0 (fun v => v = _)]
        rfl
      · cases hk
    · cases hk
  · rename_i id
    split at hk
    · rename_i b hb
      split at hk
      · rename_i e1 e2
        obtain ⟨x0, y0, z0, r0, hk⟩ := row3_ok hk
        obtain ⟨x1, y1, z1, r1, hk⟩ := row3_ok hk
        have hr : ∀ r, r < ([(x0, y0, z0), (x1, y1, z1)] : List D3).length → b.rd r = rowS3 (([(x0, y0, z0), (x1, y1, z1)] : List D3).getD r (0, 0, 0)) := by
          intro r hr
          have hr : r < 2 := hr
          match r, hr with
          | 0, _ => exact r0
          | 1, _ => exact r1
        by_cases h1 : z1 < z0
        · simp only [bestK, cb h1, cond_true] at hk
          refine ⟨_, [], [], hk, bestSim (rows := [(x0, y0, z0), (x1, y1, z1)]) hb e1 e2 hr rfl (evalF_ok (C := C1) ec gs1 mixed (u := 64) Try.func31 (by kernel_rfl) ?_) base⟩
          show evalF C1 64 Try.f31 [.slice 0 0 3 2, .func (.func 27) [] []] [some (b3 [(x0, y0, z0), (x1, y1, z1)])] (fun v _ => v = _)
          rw [t31_2 x0 y0 z0 x1 y1 z1 (fun v => v = _), cb h1]
          rfl
        · simp only [bestK, cf h1, cond_false] at hk
          refine ⟨_, [], [], hk, bestSim (rows := [(x0, y0, z0), (x1, y1, z1)]) hb e1 e2 hr rfl (evalF_ok (C := C1) ec gs1 mixed (u := 64) Try.func31 (by kernel_rfl) ?_) base⟩
          show evalF C1 64 Try.f31 [.slice 0 0 3 2, .func (.func 27) [] []] [some (b3 [(x0, y0, z0), (x1, y1, z1)])] (fun v _ => v = _)
          rw [t31_2 x0 y0 z0 x1 y1 z1 (fun v => v = _), cf h1]
          rfl
      · cases hk
    · cases hk
  · rename_i id
    split at hk
    · rename_i b hb
      split at hk
      · rename_i e1 e2
        obtain ⟨x0, y0, z0, r0, hk⟩ := row3_ok hk
        obtain ⟨x1, y1, z1, r1, hk⟩ := row3_ok hk
        obtain ⟨x2, y2, z2, r2, hk⟩ := row3_ok hk
        have hr : ∀ r, r < ([(x0, y0, z0), (x1, y1, z1), (x2, y2, z2)] : List D3).length → b.rd r = rowS3 (([(x0, y0, z0), (x1, y1, z1), (x2, y2, z2)] : List D3).getD r (0, 0, 0)) := by
          intro r hr
          have hr : r < 3 := hr
          match r, hr with
          | 0, _ => exact r0
          | 1, _ => exact r1
          | 2, _ => exact r2
        by_cases h1 : z1 < z0
        · by_cases h2 : z2 < z1
          · simp only [bestK, cb h1, cb h2, cond_true] at hk
            refine ⟨_, [], [], hk, bestSim (rows := [(x0, y0, z0), (x1, y1, z1), (x2, y2, z2)]) hb e1 e2 hr rfl (evalF_ok (C := C1) ec gs1 mixed (u := 64) Try.func31 (by kernel_rfl) ?_) base⟩
            show evalF C1 64 Try.f31 [.slice 0 0 3 3, .func (.func 27) [] []] [some (b3 [(x0, y0, z0), (x1, y1, z1), (x2, y2, z2)])] (fun v _ => v = _)
            rw [t31_3 x0 y0 z0 x1 y1 z1 x2 y2 z2 (fun v => v = _), cb h1, cb h2]
            rfl
          · simp only [bestK, cb h1, cf h2, cond_true, cond_false] at hk
            refine ⟨_, [], [], hk, bestSim (rows := [(x0, y0, z0), (x1, y1, z1), (x2, y2, z2)]) hb e1 e2 hr rfl (evalF_ok (C := C1) ec gs1 mixed (u := 64) Try.func31 (by kernel_rfl) ?_) base⟩
            show evalF C1 64 Try.f31 [.slice 0 0 3 3, .func (.func 27) [] []] [some (b3 [(x0, y0, z0), (x1, y1, z1), (x2, y2, z2)])] (fun v _ => v = _)
            rw [t31_3 x0 y0 z0 x1 y1 z1 x2 y2 z2 (fun v => v = _), cb h1, cf h2]
            rfl
        · by_cases h2 : z2 < z0
          · simp only [bestK, cf h1, cb h2, cond_true, cond_false] at hk
            refine ⟨_, [], [], hk, bestSim (rows := [(x0, y0, z0), (x1, y1, z1), (x2, y2, z2)]) hb e1 e2 hr rfl (evalF_ok (C := C1) ec gs1 mixed (u := 64) Try.func31 (by kernel_rfl) ?_) base⟩
            show evalF C1 64 Try.f31 [.slice 0 0 3 3, .func (.func 27) [] []] [some (b3 [(x0, y0, z0), (x1, y1, z1), (x2, y2, z2)])] (fun v _ => v = _)
            rw [t31_3 x0 y0 z0 x1 y1 z1 x2 y2 z2 (fun v => v = _), cf h1, cb h2]
            rfl
          · simp only [bestK, cf h1, cf h2, cond_false] at hk
            refine ⟨_, [], [], hk, bestSim (rows := [(x0, y0, z0), (x1, y1, z1), (x2, y2, z2)]) hb e1 e2 hr rfl (evalF_ok (C := C1) ec gs1 mixed (u := 64) Try.func31 (by kernel_rfl) ?_) base⟩
            show evalF C1 64 Try.f31 [.slice 0 0 3 3, .func (.func 27) [] []] [some (b3 [(x0, y0, z0), (x1, y1, z1), (x2, y2, z2)])] (fun v _ => v = _)
            rw [t31_3 x0 y0 z0 x1 y1 z1 x2 y2 z2 (fun v => v = _), cf h1, cf h2]
            rfl
      · cases hk
    · cases hk
  · cases hk
theorem gs6 : GSound C6 := (((gs5.add ok28).add ok29).add ok30).add ok31
theorem t16c (F : Fc) (l m s v f d c mo : Int) (kk : SV → Prop) : evalF C6 64 Try.f16 [fc F, rtt l m s v f, .int .i64 d, .int .i64 c, .int .i64 mo] [] (fun v _ => kk v) =
    (bif !mayF F then kk (dueS noneD) else bif chkE l m s v f != 0 then kk (dueS noneD) else
      lossK F (best3 kk (bif F.lm then kk (dueS noneD) else probK F (waitV l m s v f d c mo) (best3 kk (bif F.lm then kk (dueS noneD) else lastK F (waitV l m s v f d c mo) (best3 kk (kk (dueS noneD)))))))) := by kernel_rfl
theorem pick_tree (F : Fc) (l m s v f d c mo : Int) (kk : SV → Prop) (hk : kk (dueS (pickV F l m s v f d c mo))) : evalF C6 64 Try.f16 [fc F, rtt l m s v f, .int .i64 d, .int .i64 c, .int .i64 mo] [] (fun v _ => kk v) := by
  rw [t16c]
  unfold pickV pickD at hk
  cases hm : mayF F with
  | false => simpa [hm] using hk
  | true =>
    cases ho : okR l m s v f with
    | false => simpa [hm, okM, ho, chkE] using hk
    | true =>
      simp only [hm, okM, ho, Bool.and_self, if_true] at hk
      rw [chkE_ok ho, Bool.not_true, cond_false, bne_self_eq_false, cond_false, lossK_eq, best3_eq _ _ _ (loss_low hm), probK_eq, best3_eq _ _ _ (prob_low hm), lastK_eq, best3_eq _ _ _ (last_low hm)]
      by_cases h1 : lossL F = []
      · rw [if_pos h1] at hk ⊢
        cases hl : F.lm with
        | true => simpa [hl] using hk
        | false =>
          simp only [hl, Bool.false_eq_true, if_false, cond_false] at hk ⊢
          by_cases h2 : probL F (waitV l m s v f d c mo) = []
          · rw [if_pos h2] at hk ⊢
            by_cases h3 : lastL F (waitV l m s v f d c mo) = []
            · rw [if_pos h3]
              rw [h3] at hk
              exact hk
            · rw [if_neg h3]; exact hk
          · rw [if_neg h2] at hk ⊢; exact hk
      · rw [if_neg h1] at hk ⊢; exact hk
end Go.Proofs.Ytfoogfhcjnpokaa
