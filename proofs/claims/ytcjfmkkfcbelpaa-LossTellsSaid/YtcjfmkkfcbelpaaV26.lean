/-
  Chapter 9 by the engine: what Find answers, way by way: the contracts are kept.
-/
import Derived.Test.YtcjfmkkfcbelpaaX27
namespace Go.Proofs.Ytcjfmkkfcbelpaa
open Go.RowKit
set_option linter.unusedVariables false
theorem bif_err {n : Nat} {P : Nat → Pk} {g t l m s v f : Int} {K : Int → Prop} {W : Prop} (he : errV n P g t l m s v f ≠ 0 → K (errV n P g t l m s v f)) (hw : errV n P g t l m s v f = 0 → W) :
    bif chkP P n != 0 then K 2 else bif decide (g < -1) then K 9 else bif decide (9007199254740991 < g) then K 9 else bif !isT t then K 9 else bif chkE l m s v f != 0 then K (chkE l m s v f) else W := by
  unfold errV at he hw
  cases h1 : chkP P n != 0 with
  | true => rw [h1] at he; exact he (by simp)
  | false =>
  rw [h1] at he hw
  cases h2 : decide (g < -1) with
  | true => rw [h2] at he; exact he (by simp)
  | false =>
  rw [h2] at he hw
  cases h3 : decide (9007199254740991 < g) with
  | true => rw [h3] at he; exact he (by simp)
  | false =>
  rw [h3] at he hw
  cases h4 : !isT t with
  | true => rw [h4] at he; exact he (by simp)
  | false =>
  rw [h4] at he hw
  cases h5 : chkE l m s v f != 0 with
  | true => rw [h5] at he; exact he (bne_iff_ne.1 h5)
  | false => rw [h5] at hw; exact hw rfl
theorem cnt_sum (g t w : Int) (P : Nat → Pk) (n : Nat) : cntS (lostB g t w P) n + cntS (restB g t w P) n = n := cntS_not _ n
theorem ok11t : SpecOK Try.prog 11 s11t := weaken ok11 fun args h base k hk => by
  unfold s11t at hk
  split at hk
  · rename_i id n g t l m s v f
    split at hk
    · rename_i b hb
      obtain ⟨hP, hn, hk⟩ := hk
      have hk := hk _ _ _ _ _ rfl ⟨rfl, rfl, rfl, rfl⟩
      have hs := cnt_sum g t (waitV l m s v f) (fun r => rowP (b.rd r)) n
      unfold s11
      simp only [lp, hb]
      obtain ⟨k0, k1, k2, k3⟩ := hk
      exact ⟨hP, bif_err (K := fun e => k (noList e) [] []) k0 fun h0 => ⟨fun h1 h2 => by omega, fun a PL p q tm ht => by subst ht; exact k1 h0 a PL p q, fun b PR p q tm ht => by subst ht; exact k2 h0 b PR p q, fun a PL b PR p q tm ht => by subst ht; exact k3 h0 a PL b PR p q⟩⟩
    · cases hk
  · cases hk
theorem ok12e : SpecOK Try.prog 12 s12e := weaken ok12 fun args h base k hk => by
  unfold s12e at hk
  split at hk
  · rename_i id n g t l m s v f
    split at hk
    · rename_i b hb
      obtain ⟨hP, hn, hk⟩ := hk
      have hk := hk _ _ _ _ _ rfl ⟨rfl, rfl, rfl, rfl⟩
      have hs := cnt_sum g t (waitV l m s v f) (fun r => rowP (b.rd r)) n
      unfold s11
      simp only [lp, hb]
      exact ⟨hP, bif_err (K := fun e => k (noList e) [] []) (fun _ => hk.2) fun h0 => absurd h0 hk.1⟩
    · cases hk
  · cases hk
theorem ok12sn : SpecOK Try.prog 12 s12sn := weaken ok12 fun args h base k hk => by
  unfold s12sn at hk
  split at hk
  · rename_i id n g t l m s v f
    split at hk
    · rename_i b hb
      obtain ⟨hP, hn, hk⟩ := hk
      have hk := hk _ _ _ _ _ rfl ⟨rfl, rfl, rfl, rfl⟩
      have hs := cnt_sum g t (waitV l m s v f) (fun r => rowP (b.rd r)) n
      unfold s11
      simp only [lp, hb]
      obtain ⟨e0, c0, k1⟩ := hk
      exact ⟨hP, bif_err (K := fun e => k (noList e) [] []) (fun h0 => absurd e0 h0) fun _ => ⟨fun h1 h2 => by omega, fun a PL p q tm ht => by subst ht; exact k1 a PL p, fun b PR p q => absurd q.cnt (by omega), fun a PL b PR p q => absurd q.cnt (by omega)⟩⟩
    · cases hk
  · cases hk
theorem ok12ns : SpecOK Try.prog 12 s12ns := weaken ok12 fun args h base k hk => by
  unfold s12ns at hk
  split at hk
  · rename_i id n g t l m s v f
    split at hk
    · rename_i b hb
      obtain ⟨hP, hn, hk⟩ := hk
      have hk := hk _ _ _ _ _ rfl ⟨rfl, rfl, rfl, rfl⟩
      have hs := cnt_sum g t (waitV l m s v f) (fun r => rowP (b.rd r)) n
      unfold s11
      simp only [lp, hb]
      obtain ⟨e0, c0, k1⟩ := hk
      exact ⟨hP, bif_err (K := fun e => k (noList e) [] []) (fun h0 => absurd e0 h0) fun _ => ⟨fun h1 h2 => by omega, fun a PL p q => absurd p.cnt (by omega), fun b PR p q tm ht => by subst ht; exact k1 b PR q, fun a PL b PR p q => absurd p.cnt (by omega)⟩⟩
    · cases hk
  · cases hk
theorem ok12ss : SpecOK Try.prog 12 s12ss := weaken ok12 fun args h base k hk => by
  unfold s12ss at hk
  split at hk
  · rename_i id n g t l m s v f
    split at hk
    · rename_i b hb
      obtain ⟨hP, hn, hk⟩ := hk
      have hk := hk _ _ _ _ _ rfl ⟨rfl, rfl, rfl, rfl⟩
      have hs := cnt_sum g t (waitV l m s v f) (fun r => rowP (b.rd r)) n
      unfold s11
      simp only [lp, hb]
      obtain ⟨e0, c0, c1, k1⟩ := hk
      exact ⟨hP, bif_err (K := fun e => k (noList e) [] []) (fun h0 => absurd e0 h0) fun _ => ⟨fun h1 h2 => by omega, fun a PL p q => by omega, fun b PR p q => by omega, fun a PL b PR p q tm ht => by subst ht; exact k1 a PL b PR p q⟩⟩
    · cases hk
  · cases hk
theorem ok11z : SpecOK Try.prog 11 s11z := weaken ok11 fun args h base k hk => by
  unfold s11z at hk
  split at hk
  · obtain ⟨k0, k1⟩ := hk _ rfl
    unfold s11
    simp only [lp]
    exact bif_err (K := fun e => k (noList e) [] []) k0 fun h0 => ⟨fun _ _ tm ht => by subst ht; exact k1 h0, fun a PL p => absurd p.cnt (by show ¬ 0 = a + 1; omega), fun b PR _ q => absurd q.cnt (by show ¬ 0 = b + 1; omega), fun a PL b PR p => absurd p.cnt (by show ¬ 0 = a + 1; omega)⟩
  · cases hk
theorem ok12z : SpecOK Try.prog 12 s11z := weaken ok12 fun args h base k hk => by
  unfold s11z at hk
  split at hk
  · obtain ⟨k0, k1⟩ := hk _ rfl
    unfold s11
    simp only [lp]
    exact bif_err (K := fun e => k (noList e) [] []) k0 fun h0 => ⟨fun _ _ tm ht => by subst ht; exact k1 h0, fun a PL p => absurd p.cnt (by show ¬ 0 = a + 1; omega), fun b PR _ q => absurd q.cnt (by show ¬ 0 = b + 1; omega), fun a PL b PR p => absurd p.cnt (by show ¬ 0 = a + 1; omega)⟩
  · cases hk
theorem gs27t : GSound C27t := gs18.add ok11t
theorem gs27e : GSound C27e := gs18.add ok12e
theorem gs27sn : GSound C27sn := gs18.add ok12sn
theorem gs27ns : GSound C27ns := gs18.add ok12ns
theorem gs27ss : GSound C27ss := gs18.add ok12ss
theorem gs27z : GSound C27z := (gs18.add ok11z).add ok12z
end Go.Proofs.Ytcjfmkkfcbelpaa
