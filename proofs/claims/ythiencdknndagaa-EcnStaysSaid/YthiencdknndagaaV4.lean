/-
  Chapter 12 by the engine: the contracts of Acked, and of works.
-/
import Derived.Test.YthiencdknndagaaV3
namespace Go.Proofs.Ythiencdknndagaa
open Go.RowKit

theorem wr2 {a b : Int} (ha : 0 ≤ a ∧ a ≤ 9007199254740991) (hb : 0 ≤ b ∧ b ≤ 9007199254740991) : IntKind.i64.wrap (a + b) = a + b := wrap_id (by omega) (by omega)
theorem failW_eq {s a b c x y z newly : Int} (h : okC s a b c = true) (h' : okC newly x y z = true) : failW s a b c x y z newly = failsB s a b c x y z newly := by
  obtain ⟨_, h2, h3, h4⟩ := okC_range h
  obtain ⟨_, k2, k3, k4⟩ := okC_range h'
  simp only [failW, failsB, anyB, wr2 k2 k4, wr2 h2 h4, Bool.or_false, Bool.or_assoc]
  rw [wrap_id (n := x + z - (a + c)) (by omega) (by omega)]
theorem failR_eq {s a b c x y z newly : Int} (m : Bool) (h : okC s a b c = true) (h' : okC newly x y z = true) : failR m s a b c x y z newly = (if m = true then failsB s a b c x y z newly else decide (0 < newly)) := by
  obtain ⟨_, h2, h3, h4⟩ := okC_range h
  obtain ⟨_, k2, k3, k4⟩ := okC_range h'
  cases m
  · rfl
  · simp only [failR, failsB, Bool.not_true, cond_false, wr2 k2 k4]
    rw [wrap_id (n := x + z - a) (by omega) (by omega), wrap_id (n := x + z - a - c) (by omega) (by omega)]
    rw [Bool.eq_iff_iff]
    simp only [Bool.or_eq_true, decide_eq_true_eq, bne_iff_ne, if_true]
    omega
theorem same_fails {s a b c : Int} (h : a + c ≤ s) : failsB s a b c a b c 0 = false := by
  simp [failsB]; omega

def valA (f m : Bool) (s a b c x y z newly : Int) : SV :=
  .tuple [cntE (aE s a b c x y z newly) s (pk (aSee f m s a b c x y z newly) x a) (pk (aSee f m s a b c x y z newly) y b) (pk (aSee f m s a b c x y z newly) z c) (aFail f m s a b c x y z newly),
      .bool (zb (aE s a b c x y z newly) (aSee f m s a b c x y z newly && decide (c < z))), .int .i64 (aE s a b c x y z newly)]

theorem areN4 (n x y z : Int) : areN [n, x, y, z] = okC n x y z := by simp [areN, okC, Bool.and_assoc]
theorem tree11 (s a b c : Int) (f m : Bool) (x y z newly : Int) :
    (bif chkE s a b c != 0 then SV.tuple [SV.agg [SV.int IntKind.i64 0, SV.int IntKind.i64 0, SV.int IntKind.i64 0, SV.int IntKind.i64 0, SV.bool false], SV.bool false, SV.int IntKind.i64 (chkE s a b c)] = valA f m s a b c x y z newly
    else bif !areN [newly, x, y, z] then SV.tuple [SV.agg [SV.int IntKind.i64 0, SV.int IntKind.i64 0, SV.int IntKind.i64 0, SV.int IntKind.i64 0, SV.bool false], SV.bool false, SV.int IntKind.i64 9] = valA f m s a b c x y z newly
    else bif f then SV.tuple [SV.agg [SV.int IntKind.i64 s, SV.int IntKind.i64 a, SV.int IntKind.i64 b, SV.int IntKind.i64 c, SV.bool f], SV.bool false, SV.int IntKind.i64 0] = valA f m s a b c x y z newly
    else bif !m then SV.tuple [SV.agg [SV.int IntKind.i64 s, SV.int IntKind.i64 a, SV.int IntKind.i64 b, SV.int IntKind.i64 c, SV.bool (decide (0 < newly))], SV.bool false, SV.int IntKind.i64 0] = valA f m s a b c x y z newly
    else True) := by
  rw [areN4]
  rcases Bool.eq_false_or_eq_true (okC s a b c) with h1 | h1
  · rcases Bool.eq_false_or_eq_true (okC newly x y z) with h2 | h2
    · cases f <;> cases m <;> simp [chkE, h1, h2, valA, cntE, aE, zi, zb, aSee, aFail, pk]
    · simp [chkE, h1, h2, valA, cntE, aE, zi, zb]
  · simp [chkE, h1, valA, cntE, aE, zi, zb]
theorem fin_fail {s a b c x y z newly : Int} (h1 : okC s a b c = true) (h2 : okC newly x y z = true) (hf : failsB s a b c x y z newly = true) :
    SV.tuple [SV.agg [SV.int IntKind.i64 s, SV.int IntKind.i64 a, SV.int IntKind.i64 b, SV.int IntKind.i64 c, SV.bool true], SV.bool false, SV.int IntKind.i64 0] = valA false true s a b c x y z newly := by
  simp [h1, h2, hf, valA, cntE, aE, zi, zb, aSee, aFail, pk]
theorem fin_see {s a b c x y z newly : Int} (h1 : okC s a b c = true) (h2 : okC newly x y z = true) (hf : failsB s a b c x y z newly = false) :
    SV.tuple [SV.agg [SV.int IntKind.i64 s, SV.int IntKind.i64 x, SV.int IntKind.i64 y, SV.int IntKind.i64 z, SV.bool false], SV.bool (decide (c < z)), SV.int IntKind.i64 0] = valA false true s a b c x y z newly := by
  simp [h1, h2, hf, valA, cntE, aE, zi, zb, aSee, aFail, pk]
theorem fin_same {s a b c : Int} (h1 : okC s a b c = true) (h2 : okC 0 a b c = true) (h : a + c ≤ s) :
    SV.tuple [SV.agg [SV.int IntKind.i64 s, SV.int IntKind.i64 a, SV.int IntKind.i64 b, SV.int IntKind.i64 c, SV.bool false], SV.bool false, SV.int IntKind.i64 0] = valA false true s a b c a b c 0 := by
  have := fin_see h1 h2 (same_fails h)
  simpa using this
theorem fin11 (s a b c : Int) (f m : Bool) (x y z newly : Int) : (let kk : SV → Prop := fun v => v = valA f m s a b c x y z newly
    bif chkE s a b c != (0 : Int) then
      kk
        (SV.tuple
          [SV.agg
              [SV.int IntKind.i64 (0 : Int), SV.int IntKind.i64 (0 : Int), SV.int IntKind.i64 (0 : Int),
                SV.int IntKind.i64 (0 : Int), SV.bool false],
            SV.bool false, SV.int IntKind.i64 (chkE s a b c)])
    else
      bif !areN [newly, x, y, z] then
        kk
          (SV.tuple
            [SV.agg
                [SV.int IntKind.i64 (0 : Int), SV.int IntKind.i64 (0 : Int), SV.int IntKind.i64 (0 : Int),
                  SV.int IntKind.i64 (0 : Int), SV.bool false],
              SV.bool false, SV.int IntKind.i64 (9 : Int)])
      else
        bif f then
          kk
            (SV.tuple
              [SV.agg [SV.int IntKind.i64 s, SV.int IntKind.i64 a, SV.int IntKind.i64 b, SV.int IntKind.i64 c, SV.bool f],
                SV.bool false, SV.int IntKind.i64 (0 : Int)])
        else
          bif !m then
            kk
              (SV.tuple
                [SV.agg
                    [SV.int IntKind.i64 s, SV.int IntKind.i64 a, SV.int IntKind.i64 b, SV.int IntKind.i64 c,
                      SV.bool (decide ((0 : Int) < newly))],
                  SV.bool false, SV.int IntKind.i64 (0 : Int)])
          else
            bif x == a && (y == b && (z == c && true)) then
              bif newly == (0 : Int) then
                bif decide (IntKind.i64.wrap (a + c) ≤ s) then
                  kk
                    (SV.tuple
                      [SV.agg
                          [SV.int IntKind.i64 s, SV.int IntKind.i64 a, SV.int IntKind.i64 b, SV.int IntKind.i64 c,
                            SV.bool f],
                        SV.bool false, SV.int IntKind.i64 (0 : Int)])
                else
                  bif failW s a b c x y z newly then
                    kk
                      (SV.tuple
                        [SV.agg
                            [SV.int IntKind.i64 s, SV.int IntKind.i64 a, SV.int IntKind.i64 b, SV.int IntKind.i64 c,
                              SV.bool true],
                          SV.bool false, SV.int IntKind.i64 (0 : Int)])
                  else
                    kk
                      (SV.tuple
                        [SV.agg
                            [SV.int IntKind.i64 s, SV.int IntKind.i64 x, SV.int IntKind.i64 y, SV.int IntKind.i64 z,
                              SV.bool f],
                          SV.bool (decide (c < z)), SV.int IntKind.i64 (0 : Int)])
              else
                bif failW s a b c x y z newly then
                  kk
                    (SV.tuple
                      [SV.agg
                          [SV.int IntKind.i64 s, SV.int IntKind.i64 a, SV.int IntKind.i64 b, SV.int IntKind.i64 c,
                            SV.bool true],
                        SV.bool false, SV.int IntKind.i64 (0 : Int)])
                else
                  kk
                    (SV.tuple
                      [SV.agg
                          [SV.int IntKind.i64 s, SV.int IntKind.i64 x, SV.int IntKind.i64 y, SV.int IntKind.i64 z,
                            SV.bool f],
                        SV.bool (decide (c < z)), SV.int IntKind.i64 (0 : Int)])
            else
              bif failW s a b c x y z newly then
                kk
                  (SV.tuple
                    [SV.agg
                        [SV.int IntKind.i64 s, SV.int IntKind.i64 a, SV.int IntKind.i64 b, SV.int IntKind.i64 c,
                          SV.bool true],
                      SV.bool false, SV.int IntKind.i64 (0 : Int)])
              else
                kk
                  (SV.tuple
                    [SV.agg
                        [SV.int IntKind.i64 s, SV.int IntKind.i64 x, SV.int IntKind.i64 y, SV.int IntKind.i64 z, SV.bool f],
                      SV.bool (decide (c < z)), SV.int IntKind.i64 (0 : Int)])) := by
  intro kk; show _
  simp only [kk]

  rcases Bool.eq_false_or_eq_true (okC s a b c) with h1 | h1
  · rcases Bool.eq_false_or_eq_true (okC newly x y z) with h2 | h2
    · have hc : chkE s a b c = 0 := chkE_ok h1
      have hn : areN [newly, x, y, z] = true := by rw [areN4, h2]
      obtain ⟨r1, r2, r3, r4⟩ := okC_range h1
      rw [hc, hn, failW_eq h1 h2, wr2 r2 r4]
      cases f
      · cases m
        · simp [h1, h2, valA, cntE, aE, zi, zb, aSee, aFail, pk]
        · have hF : ∀ F : Bool, failsB s a b c x y z newly = F → (bif F then SV.tuple [SV.agg [SV.int IntKind.i64 s, SV.int IntKind.i64 a, SV.int IntKind.i64 b, SV.int IntKind.i64 c, SV.bool true], SV.bool false, SV.int IntKind.i64 0] = valA false true s a b c x y z newly
              else SV.tuple [SV.agg [SV.int IntKind.i64 s, SV.int IntKind.i64 x, SV.int IntKind.i64 y, SV.int IntKind.i64 z, SV.bool false], SV.bool (decide (c < z)), SV.int IntKind.i64 0] = valA false true s a b c x y z newly) := by
            intro F hF
            cases F
            · exact fin_see h1 h2 hF
            · exact fin_fail h1 h2 hF
          have hF := hF _ rfl
          cases he : (x == a && (y == b && (z == c && true))) with
          | false => simpa using hF
          | true =>
            simp only [Bool.and_eq_true, beq_iff_eq, and_true] at he
            obtain ⟨rfl, rfl, rfl⟩ := he
            cases hz : (newly == (0 : Int)) with
            | false => simpa using hF
            | true =>
              have hz : newly = 0 := by simpa using hz
              subst hz
              cases hs : decide (x + z ≤ s) with
              | false => simpa using hF
              | true => simpa using fin_same h1 h2 (by simpa using hs)
      · simp [h1, h2, valA, cntE, aE, zi, zb, aSee, aFail, pk]
    · have hc : chkE s a b c = 0 := chkE_ok h1
      have hn : areN [newly, x, y, z] = false := by rw [areN4, h2]
      rw [hc, hn]
      simp [h1, h2, valA, cntE, aE, zi, zb]
  · rw [chkE_bad h1]
    simp [h1, valA, cntE, aE, zi, zb]
theorem fin12 (s a b c : Int) (f m : Bool) (x y z newly : Int) : (let kk : SV → Prop := fun v => v = valA f m s a b c x y z newly
    bif chkE s a b c != (0 : Int) then
      kk
        (SV.tuple
          [SV.agg
              [SV.int IntKind.i64 (0 : Int), SV.int IntKind.i64 (0 : Int), SV.int IntKind.i64 (0 : Int),
                SV.int IntKind.i64 (0 : Int), SV.bool false],
            SV.bool false, SV.int IntKind.i64 (chkE s a b c)])
    else
      bif !isN newly then
        kk
          (SV.tuple
            [SV.agg
                [SV.int IntKind.i64 (0 : Int), SV.int IntKind.i64 (0 : Int), SV.int IntKind.i64 (0 : Int),
                  SV.int IntKind.i64 (0 : Int), SV.bool false],
              SV.bool false, SV.int IntKind.i64 (9 : Int)])
      else
        bif !(isN x && isN y && isN z) then
          kk
            (SV.tuple
              [SV.agg
                  [SV.int IntKind.i64 (0 : Int), SV.int IntKind.i64 (0 : Int), SV.int IntKind.i64 (0 : Int),
                    SV.int IntKind.i64 (0 : Int), SV.bool false],
                SV.bool false, SV.int IntKind.i64 (9 : Int)])
        else
          bif f then
            kk
              (SV.tuple
                [SV.agg [SV.int IntKind.i64 s, SV.int IntKind.i64 a, SV.int IntKind.i64 b, SV.int IntKind.i64 c, SV.bool f],
                  SV.bool false, SV.int IntKind.i64 (0 : Int)])
          else
            bif failR m s a b c x y z newly then
              kk
                (SV.tuple
                  [SV.agg
                      [SV.int IntKind.i64 s, SV.int IntKind.i64 a, SV.int IntKind.i64 b, SV.int IntKind.i64 c,
                        SV.bool true],
                    SV.bool false, SV.int IntKind.i64 (0 : Int)])
            else
              bif m then
                kk
                  (SV.tuple
                    [SV.agg
                        [SV.int IntKind.i64 s, SV.int IntKind.i64 x, SV.int IntKind.i64 y, SV.int IntKind.i64 z, SV.bool f],
                      SV.bool (decide (c < z)), SV.int IntKind.i64 (0 : Int)])
              else
                kk
                  (SV.tuple
                    [SV.agg
                        [SV.int IntKind.i64 s, SV.int IntKind.i64 a, SV.int IntKind.i64 b, SV.int IntKind.i64 c, SV.bool f],
                      SV.bool false, SV.int IntKind.i64 (0 : Int)])) := by
  intro kk; show _
  simp only [kk]

  rcases Bool.eq_false_or_eq_true (okC s a b c) with h1 | h1
  · rcases Bool.eq_false_or_eq_true (okC newly x y z) with h2 | h2
    · have hc : chkE s a b c = 0 := chkE_ok h1
      have hn := h2
      simp only [okC, Bool.and_eq_true] at hn
      obtain ⟨⟨⟨n1, n2⟩, n3⟩, n4⟩ := hn
      rw [hc, failR_eq m h1 h2, n1, n2, n3, n4]
      cases f <;> cases m <;> rcases Bool.eq_false_or_eq_true (failsB s a b c x y z newly) with hF | hF <;> rcases Bool.eq_false_or_eq_true (decide (0 < newly)) with hN | hN <;> simp [h1, h2, valA, cntE, aE, zi, zb, aSee, aFail, pk, hF, hN]
    · have hc : chkE s a b c = 0 := chkE_ok h1
      have hn := h2
      simp only [okC] at hn
      rw [hc]
      rcases Bool.eq_false_or_eq_true (isN newly) with n1 | n1
      · rw [n1, Bool.true_and] at hn
        rw [n1, hn]
        simp [h1, h2, valA, cntE, aE, zi, zb]
      · rw [n1]
        simp [h1, h2, valA, cntE, aE, zi, zb]
  · rw [chkE_bad h1]
    simp [h1, valA, cntE, aE, zi, zb]
theorem ok11 : SpecOK Try.prog 11 s11 := by
  intro args h base k hk
  unfold s11 at hk
  split at hk
  · rename_i s a b c f d q m x y z newly
    cases hq : okSl q with
    | false => simp [hq] at hk
    | true =>
      simp only [hq, cond_true] at hk
      cases q <;> simp [okSl] at hq
      case nilSlice =>
        refine ⟨_, [], [], hk, plainOK gs3 Try.func11 (by kernel_rfl) (by kernel_rfl) ?_ rfl rfl h base⟩
        show evalF C3 64 Try.f11 [cntS s a b c f, _, _] [] fun v' _ => v' = valA f m s a b c x y z newly
        rw [t11n s a b c f d m x y z newly (fun v => v = _)]
        exact fin11 s a b c f m x y z newly
      case raw q =>
        refine ⟨_, [], [], hk, plainOK gs3 Try.func11 (by kernel_rfl) (by kernel_rfl) ?_ rfl rfl h base⟩
        show evalF C3 64 Try.f11 [cntS s a b c f, _, _] [] fun v' _ => v' = valA f m s a b c x y z newly
        rw [t11 s a b c f d q m x y z newly (fun v => v = _)]
        exact fin11 s a b c f m x y z newly
  · cases hk
theorem ok12 : SpecOK Try.prog 12 s11 := by
  intro args h base k hk
  unfold s11 at hk
  split at hk
  · rename_i s a b c f d q m x y z newly
    cases hq : okSl q with
    | false => simp [hq] at hk
    | true =>
      simp only [hq, cond_true] at hk
      cases q <;> simp [okSl] at hq
      case nilSlice =>
        refine ⟨_, [], [], hk, plainOK gs3 Try.func12 (by kernel_rfl) (by kernel_rfl) ?_ rfl rfl h base⟩
        show evalF C3 64 Try.f12 [cntS s a b c f, _, _] [] fun v' _ => v' = valA f m s a b c x y z newly
        rw [t12n s a b c f d m x y z newly (fun v => v = _)]
        exact fin12 s a b c f m x y z newly
      case raw q =>
        refine ⟨_, [], [], hk, plainOK gs3 Try.func12 (by kernel_rfl) (by kernel_rfl) ?_ rfl rfl h base⟩
        show evalF C3 64 Try.f12 [cntS s a b c f, _, _] [] fun v' _ => v' = valA f m s a b c x y z newly
        rw [t12 s a b c f d q m x y z newly (fun v => v = _)]
        exact fin12 s a b c f m x y z newly
  · cases hk
theorem gs4 : GSound C4 := (gs3.add ok11).add ok12
theorem ok15 : SpecOK Try.prog 15 s15 := by
  intro args h base k hk
  unfold s15 at hk
  split at hk
  · refine ⟨_, [], [], hk, plainOK gs4 Try.func15 (by kernel_rfl) (by kernel_rfl) ?_ rfl rfl h base⟩
    show evalF C4 64 Try.f15 [] [] _
    rw [t15 (fun v => v = _)]
  · cases hk
theorem gs5 : GSound C5 := gs4.add ok15
end Go.Proofs.Ythiencdknndagaa
