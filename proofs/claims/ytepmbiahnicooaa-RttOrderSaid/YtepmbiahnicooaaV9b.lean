/-
  RttBounds: the law from the walk.
-/
import Derived.Test.YtepmbiahnicooaaV9
import Derived.Test.YtepmbiahnicooaaT5
namespace Go.Proofs.Ytepmbiahnicooaa
open Go.RowKit

theorem ok20v : SpecOK Try.prog 20 l20v := by
  intro args h base k hk
  unfold l20v at hk
  split at hk
  · rename_i t
    refine ⟨_, [], [bW 1 (litG [(5, 0, 1)])], hk, ?_⟩
    refine CSim.list (cal Try.func20 (by kernel_rfl) (by kernel_rfl)) [.eslice, .bool t] [] [] rfl rfl (fun r _ => rfl) (fun i j x e => by simp at e) (evalF_ok (C := C5) ec gs5 mixed (u := 64) Try.func20 (by kernel_rfl) ?_) rfl (fun i b1 hb1 => by simp [hget] at hb1) (K := fun v hp => v = .slice 1 0 3 1 ∧ obsHs [true, true] hp = [.rows 3 1 true 32 [[.int .i64 5, .int .i64 0, .int .i64 1]], .rows 3 1 true 32 [[.int .i64 5, .int .i64 0, .int .i64 1]]]) fun v' hp2 hk => ?_
    · rw [t20e t (fun v B => v = _ ∧ B = _)]
      exact ⟨rfl, rfl⟩
    · obtain ⟨b, h1, h2, h3, h4, h5, h6⟩ := obsHs_rows (M := [true, true]) (hp := hp2) (i := 1) (by rw [hk.2]; rfl)
      refine ⟨1, b, hk.1, by simp, h1, h2, h3, h4, h5, fun r hr => ?_⟩
      have hr : r < 1 := hr
      obtain rfl : r = 0 := by omega
      have h6 : [b.rd 0] = [[.int .i64 5, .int .i64 0, .int .i64 1]] := h6
      simp only [List.cons.injEq, and_true] at h6
      rw [h6]; rfl
  · cases hk
theorem gs8 : GSound C8 := (((gs5.add ok19L).add ok20v).add ok21).add ok23
theorem tp5 : Tp3 5 0 1 := ⟨⟨by omega, by omega⟩, ⟨by omega, by omega⟩, ⟨by omega, by omega⟩⟩
theorem run5 {l m s v f : Int} (h : Run1 5 0 1 l m s v f) : l = 5 ∧ m = 5 ∧ s = 5 ∧ v = 2 ∧ f = 1 := by
  obtain ⟨h⟩ := h
  have e : runR (litG [(5, 0, 1)]) 1 = ⟨5, 5, 5, 2, 1⟩ := rfl
  rw [e] at h
  simp only [Rt.mk.injEq] at h
  obtain ⟨h1, h2, h3, h4, h5⟩ := h
  exact ⟨h1.symm, h2.symm, h3.symm, h4.symm, h5.symm⟩
theorem bounds_any (s : Option Addr) (len cap : Nat) (w : World) (h : IsTriples w s len cap) : Calls Try.prog 9 #[.slice s len cap] w fun e w' => e = .returned (.bool true) ∧ Below w.heap.size w w' := by
  refine lawT (pre := []) (post := []) (vpre := []) (vpost := []) (by simp [RL]) (by simp [RL]) (fun n g hn => canon9 n g hn) (evalF_ok (C := C8) ec gs8 mixed (u := 64) Try.func9 (by kernel_rfl) ?_) h
  show evalF C8 64 Try.f9 [.eslice] [] _
  rw [t9e (fun v => v = _)]
  refine ⟨tp5, ?_⟩
  intro l m s v f hr
  obtain ⟨rfl, rfl, rfl, rfl, rfl⟩ := run5 hr
  rfl
end Go.Proofs.Ytepmbiahnicooaa
