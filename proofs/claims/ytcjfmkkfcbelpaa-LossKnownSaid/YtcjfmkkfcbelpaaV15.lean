/-
  Chapter 9 by the engine: works. (Printed by genv15.py.)
-/
import Derived.Test.YtcjfmkkfcbelpaaT15
namespace Go.Proofs.Ytcjfmkkfcbelpaa
open Go.RowKit
set_option linter.unusedVariables false
theorem pick_cnt {f : Nat → Bool} {P Q : Nat → Pk} {n a c : Nat} (p : Pick f P n a Q) (h : Nat.beq (cntS f n) c = true) : a + 1 = c := by
  rw [← p.cnt]
  exact Nat.eq_of_beq_eq_true h
theorem pick_row {f : Nat → Bool} {P Q : Nat → Pk} {n a r : Nat} {x : Pk} (p : Pick f P n a Q) (hr : r < a + 1) (h : eqP (P (ixS f n r)) x = true) : Q r = x := by
  rw [p.row r hr]
  exact eqP_iff.1 h
section
attribute [local irreducible] evalC
set_option maxRecDepth 100000
theorem findsa : evalC C14 64 0 (bodF Try.f32) (enterS 44 [.int .i64 (5), .int .i64 (1000), .int .i64 (2), .int .i64 (9000200)]) [] (endK Try.prog Try.f32.results.toList fun v _ => v = .bool true) := by
  rw [t32a (fun v => v = .bool true)]
  refine ⟨⟨rfl, Nat.le_refl _, by decide, fun r _ => ⟨four r, rfl⟩⟩, fun h => absurd h (by decide), fun a PL p h => absurd h (by decide), fun b PR h => absurd h (by decide), fun a PL b PR p q tm ht => ?_⟩
  obtain rfl : a = 1 := by have := pick_cnt p (c := 2) (by kernel_rfl); omega
  have hPL0 : PL 0 = four 0 := pick_row p (by decide) (by kernel_rfl)
  have hPL1 : PL 1 = four 1 := pick_row p (by decide) (by kernel_rfl)
  obtain rfl : b = 1 := by have := pick_cnt q (c := 2) (by kernel_rfl); omega
  have hPR0 : PR 0 = four 2 := pick_row q (by decide) (by kernel_rfl)
  have hPR1 : PR 1 = four 3 := pick_row q (by decide) (by kernel_rfl)
  subst ht
  -- 2 lost, 2 left
  exact condF' rfl (condF' rfl (⟨⟨rfl, Nat.le_refl _, by decide, fun r _ => ⟨PL r, rfl⟩⟩, ⟨rfl, by decide, by decide, fun r _ => ⟨four r, rfl⟩⟩, condT' (show (true && ((true && eqP (PL 0) (four 0)) && eqP (PL 1) (four 1))) = true from by rw [hPL0, hPL1]; rfl) ⟨⟨rfl, Nat.le_refl _, by decide, fun r _ => ⟨PR r, rfl⟩⟩, ⟨rfl, by decide, by decide, fun r _ => ⟨four r, rfl⟩⟩, condT' (show (true && ((true && eqP (PR 0) (four 2)) && eqP (PR 1) (four 3))) = true from by rw [hPR0, hPR1]; rfl) rfl⟩⟩))
theorem findsb : evalC C14 64 0 (bodF Try.f32) (enterS 44 [.int .i64 (4), .int .i64 (1000), .int .i64 (1), .int .i64 (9000100)]) [] (endK Try.prog Try.f32.results.toList fun v _ => v = .bool true) := by
  rw [t32b (fun v => v = .bool true)]
  refine ⟨⟨rfl, Nat.le_refl _, by decide, fun r _ => ⟨four r, rfl⟩⟩, fun h => absurd h (by decide), fun a PL p h => absurd h (by decide), fun b PR h => absurd h (by decide), fun a PL b PR p q tm ht => ?_⟩
  obtain rfl : a = 0 := by have := pick_cnt p (c := 1) (by kernel_rfl); omega
  have hPL0 : PL 0 = four 0 := pick_row p (by decide) (by kernel_rfl)
  obtain rfl : b = 2 := by have := pick_cnt q (c := 3) (by kernel_rfl); omega
  have hPR0 : PR 0 = four 1 := pick_row q (by decide) (by kernel_rfl)
  have hPR1 : PR 1 = four 2 := pick_row q (by decide) (by kernel_rfl)
  have hPR2 : PR 2 = four 3 := pick_row q (by decide) (by kernel_rfl)
  subst ht
  -- 1 lost, 3 left
  exact condT' rfl (condF' rfl (⟨⟨rfl, Nat.le_refl _, by decide, fun r _ => ⟨PL r, by cases r <;> rfl⟩⟩, ⟨rfl, by decide, by decide, fun r _ => ⟨four r, rfl⟩⟩, condT' (show (true && (true && eqP (PL 0) (four 0))) = true from by rw [hPL0]; rfl) ⟨⟨rfl, Nat.le_refl _, by decide, fun r _ => ⟨PR r, rfl⟩⟩, ⟨rfl, by decide, by decide, fun r _ => ⟨four r, rfl⟩⟩, condT' (show (true && (((true && eqP (PR 0) (four 1)) && eqP (PR 1) (four 2)) && eqP (PR 2) (four 3))) = true from by rw [hPR0, hPR1, hPR2]; rfl) rfl⟩⟩))
theorem findsc : evalC C14 64 0 (bodF Try.f32) (enterS 44 [.int .i64 (-1), .int .i64 (1000), .int .i64 (0), .int .i64 (-1)]) [] (endK Try.prog Try.f32.results.toList fun v _ => v = .bool true) := by
  rw [t32c (fun v => v = .bool true)]
  refine ⟨⟨rfl, Nat.le_refl _, by decide, fun r _ => ⟨four r, rfl⟩⟩, fun _ h => absurd h (by decide), fun a PL p h => absurd h (by decide), fun b PR _ q tm ht => ?_, fun a PL b PR p q => absurd (pick_cnt p (c := 0) (by kernel_rfl)) (by omega)⟩
  obtain rfl : b = 3 := by have := pick_cnt q (c := 4) (by kernel_rfl); omega
  have hPR0 : PR 0 = four 0 := pick_row q (by decide) (by kernel_rfl)
  have hPR1 : PR 1 = four 1 := pick_row q (by decide) (by kernel_rfl)
  have hPR2 : PR 2 = four 2 := pick_row q (by decide) (by kernel_rfl)
  have hPR3 : PR 3 = four 3 := pick_row q (by decide) (by kernel_rfl)
  subst ht
  -- 0 lost, 4 left
  exact condF' rfl (⟨⟨rfl, Nat.le_refl _, by decide, fun r _ => ⟨PR r, rfl⟩⟩, ⟨rfl, by decide, by decide, fun r _ => ⟨four r, rfl⟩⟩, condT' (show (true && ((((true && eqP (PR 0) (four 0)) && eqP (PR 1) (four 1)) && eqP (PR 2) (four 2)) && eqP (PR 3) (four 3))) = true from by rw [hPR0, hPR1, hPR2, hPR3]; rfl) rfl⟩)
theorem findsd : evalC C14 64 0 (bodF Try.f32) (enterS 44 [.int .i64 (6), .int .i64 (9000250), .int .i64 (3), .int .i64 (9000300)]) [] (endK Try.prog Try.f32.results.toList fun v _ => v = .bool true) := by
  rw [t32d (fun v => v = .bool true)]
  refine ⟨⟨rfl, Nat.le_refl _, by decide, fun r _ => ⟨four r, rfl⟩⟩, fun h => absurd h (by decide), fun a PL p h => absurd h (by decide), fun b PR h => absurd h (by decide), fun a PL b PR p q tm ht => ?_⟩
  obtain rfl : a = 2 := by have := pick_cnt p (c := 3) (by kernel_rfl); omega
  have hPL0 : PL 0 = four 0 := pick_row p (by decide) (by kernel_rfl)
  have hPL1 : PL 1 = four 1 := pick_row p (by decide) (by kernel_rfl)
  have hPL2 : PL 2 = four 2 := pick_row p (by decide) (by kernel_rfl)
  obtain rfl : b = 0 := by have := pick_cnt q (c := 1) (by kernel_rfl); omega
  have hPR0 : PR 0 = four 3 := pick_row q (by decide) (by kernel_rfl)
  subst ht
  -- 3 lost, 1 left
  exact condF' rfl (condT' rfl (⟨⟨rfl, Nat.le_refl _, by decide, fun r _ => ⟨PL r, rfl⟩⟩, ⟨rfl, by decide, by decide, fun r _ => ⟨four r, rfl⟩⟩, condT' (show (true && (((true && eqP (PL 0) (four 0)) && eqP (PL 1) (four 1)) && eqP (PL 2) (four 2))) = true from by rw [hPL0, hPL1, hPL2]; rfl) ⟨⟨rfl, Nat.le_refl _, by decide, fun r _ => ⟨PR r, by cases r <;> rfl⟩⟩, ⟨rfl, by decide, by decide, fun r _ => ⟨four r, rfl⟩⟩, condT' (show (true && (true && eqP (PR 0) (four 3))) = true from by rw [hPR0]; rfl) rfl⟩⟩))
theorem findse : evalC C14 64 0 (bodF Try.f32) (enterS 44 [.int .i64 (9), .int .i64 (0), .int .i64 (4), .int .i64 (-1)]) [] (endK Try.prog Try.f32.results.toList fun v _ => v = .bool true) := by
  rw [t32e (fun v => v = .bool true)]
  refine ⟨⟨rfl, Nat.le_refl _, by decide, fun r _ => ⟨four r, rfl⟩⟩, fun h => absurd h (by decide), fun a PL p _ tm ht => ?_, fun b PR h => absurd h (by decide), fun a PL b PR p q => absurd (pick_cnt q (c := 0) (by kernel_rfl)) (by omega)⟩
  obtain rfl : a = 3 := by have := pick_cnt p (c := 4) (by kernel_rfl); omega
  have hPL0 : PL 0 = four 0 := pick_row p (by decide) (by kernel_rfl)
  have hPL1 : PL 1 = four 1 := pick_row p (by decide) (by kernel_rfl)
  have hPL2 : PL 2 = four 2 := pick_row p (by decide) (by kernel_rfl)
  have hPL3 : PL 3 = four 3 := pick_row p (by decide) (by kernel_rfl)
  subst ht
  -- 4 lost, 0 left
  exact condF' rfl (⟨⟨rfl, Nat.le_refl _, by decide, fun r _ => ⟨PL r, rfl⟩⟩, ⟨rfl, by decide, by decide, fun r _ => ⟨four r, rfl⟩⟩, condT' (show (true && ((((true && eqP (PL 0) (four 0)) && eqP (PL 1) (four 1)) && eqP (PL 2) (four 2)) && eqP (PL 3) (four 3))) = true from by rw [hPL0, hPL1, hPL2, hPL3]; rfl) rfl⟩)
theorem ok32 : SpecOK Try.prog 32 s32 := by
  intro args h base k hk
  unfold s32 at hk
  have hc := cal (f := 32) Try.func32 (by kernel_rfl) (by kernel_rfl)
  split at hk
  · exact ⟨_, [], [], hk, find0 (ψ := []) (hp1 := []) (args1 := [.int .i64 (5), .int .i64 (1000), .int .i64 (2), .int .i64 (9000200)]) hc rfl rfl (fun i b1 e => by rw [nob] at e; cases e) rfl (CodeOK.body Try.func32 (by kernel_rfl) (CodeOK.eval (C := C14) ec gs14 mixed 64 findsa))⟩
  · exact ⟨_, [], [], hk, find0 (ψ := []) (hp1 := []) (args1 := [.int .i64 (4), .int .i64 (1000), .int .i64 (1), .int .i64 (9000100)]) hc rfl rfl (fun i b1 e => by rw [nob] at e; cases e) rfl (CodeOK.body Try.func32 (by kernel_rfl) (CodeOK.eval (C := C14) ec gs14 mixed 64 findsb))⟩
  · exact ⟨_, [], [], hk, find0 (ψ := []) (hp1 := []) (args1 := [.int .i64 (-1), .int .i64 (1000), .int .i64 (0), .int .i64 (-1)]) hc rfl rfl (fun i b1 e => by rw [nob] at e; cases e) rfl (CodeOK.body Try.func32 (by kernel_rfl) (CodeOK.eval (C := C14) ec gs14 mixed 64 findsc))⟩
  · exact ⟨_, [], [], hk, find0 (ψ := []) (hp1 := []) (args1 := [.int .i64 (6), .int .i64 (9000250), .int .i64 (3), .int .i64 (9000300)]) hc rfl rfl (fun i b1 e => by rw [nob] at e; cases e) rfl (CodeOK.body Try.func32 (by kernel_rfl) (CodeOK.eval (C := C14) ec gs14 mixed 64 findsd))⟩
  · exact ⟨_, [], [], hk, find0 (ψ := []) (hp1 := []) (args1 := [.int .i64 (9), .int .i64 (0), .int .i64 (4), .int .i64 (-1)]) hc rfl rfl (fun i b1 e => by rw [nob] at e; cases e) rfl (CodeOK.body Try.func32 (by kernel_rfl) (CodeOK.eval (C := C14) ec gs14 mixed 64 findse))⟩
  · cases hk
theorem gs15 : GSound C15 := gs14.add ok32
def s16 : Spec := fun args _ _ k => match args with
  | [] => k (.bool true) [] []
  | _ => False
theorem ok16 : SpecOK Try.prog 16 s16 := by
  intro args h base k hk
  unfold s16 at hk
  split at hk
  · refine ⟨_, [], [], hk, find0 (ψ := []) (hp1 := []) (args1 := []) (cal (f := 16) Try.func16 (by kernel_rfl) (by kernel_rfl)) rfl rfl (fun i b1 e => by rw [nob] at e; cases e) rfl (CodeOK.body Try.func16 (by kernel_rfl) (CodeOK.eval (C := C15) ec gs15 mixed 64 ?_))⟩
    show evalC C15 64 0 (bodF Try.f16) (enterS 62 []) [] (endK Try.prog Try.f16.results.toList fun v _ => v = .bool true)
    rw [t16 (fun v => v = .bool true)]
    exact ⟨⟨rfl, Nat.le_refl _, by decide, fun r hr => by
      match r, hr with
      | 0, _ => exact ⟨four 1, rfl⟩
      | 1, _ => exact ⟨four 0, rfl⟩⟩, ⟨rfl, Nat.le_refl _, by decide, fun r _ => ⟨four r, rfl⟩⟩, rfl⟩
  · cases hk
def G16 : Gam := addGam G15 16 s16
noncomputable def C16 : Ctx := ⟨Try.prog, G16, fun t => memN t eqs⟩
theorem gs16 : GSound C16 := gs15.add ok16
end
end Go.Proofs.Ytcjfmkkfcbelpaa
