/-
  Chapter 19 by the engine: the contracts are kept (1).
-/
import Derived.Test.YtfhkmagpgbcnjaaT1
import Derived.Test.YtfhkmagpgbcnjaaT2
namespace Go.Proofs.Ytfhkmagpgbcnjaa
open Go.RowKit

theorem ec {Γ : Gam} : EqOK ⟨Try.prog, Γ, fun t => memN t eqs⟩ := EqOK.of_list eqs_ok
theorem cal {f : FuncId} {fn : Func} (hf : Try.prog.funcs[f]? = some fn) (hn : (fn.name == "runtime.NumGoroutine") = false) (hb : fn.body.isSome = true) : ∀ vs w, (callFunc f vs).run Try.prog w = .ok (.enter f vs) w := fun vs w => callable hf hn hb vs w
/-- Numbers in, numbers out. -/
theorem plainOK {Γ : Gam} (hΓ : GSound ⟨Try.prog, Γ, fun t => memN t eqs⟩) {f : FuncId} {fn : Func} (hf : Try.prog.funcs[f]? = some fn) (hn : (fn.name == "runtime.NumGoroutine") = false) (hb : fn.body.isSome = true) {args : List SV} {v : SV}
    (he : evalF ⟨Try.prog, Γ, fun t => memN t eqs⟩ 64 fn args [] fun v' _ => v' = v) (ha : svIdsL args = []) (hv : svIds v = []) (h : Heap) (base : Nat) : CSim Try.prog f args h base v [] [] :=
  CSim.plain (cal hf hn hb) (evalF_ok (C := ⟨Try.prog, Γ, fun t => memN t eqs⟩) ec hΓ mixed hf hb he) (renL_id_of ha _) (ren_id_of hv _) h base
theorem g0 : GSound C0 := GSound.none

theorem chk_tree (a b c : Int) (K : Int → Prop) :
    (bif decide (a < (0 : Int)) then K 2 else bif decide ((2 : Int) < a) then K 2 else bif decide (b < (0 : Int)) then K 2 else bif decide ((2 : Int) < b) then K 2 else
      bif decide (c < (0 : Int)) then K 2 else bif decide ((2 : Int) < c) then K 2 else K 0) = K (chk a b c) := by
  simp only [chk, ok3, is2]
  by_cases h1 : a < 0
  · simp [h1, show ¬ (0 ≤ a) by omega]
  by_cases h2 : 2 < a
  · simp [h1, h2, show ¬ (a ≤ 2) by omega]
  by_cases h3 : b < 0
  · simp [h1, h2, h3, show ¬ (0 ≤ b) by omega]
  by_cases h4 : 2 < b
  · simp [h1, h2, h3, h4, show ¬ (b ≤ 2) by omega]
  by_cases h5 : c < 0
  · simp [h1, h2, h3, h4, h5, show ¬ (0 ≤ c) by omega]
  by_cases h6 : 2 < c
  · simp [h1, h2, h3, h4, h5, h6, show ¬ (c ≤ 2) by omega]
  · simp [h1, h2, h3, h4, h5, h6, show 0 ≤ a by omega, show a ≤ 2 by omega, show 0 ≤ b by omega, show b ≤ 2 by omega, show 0 ≤ c by omega, show c ≤ 2 by omega]
theorem ok16 : SpecOK Try.prog 16 s16 := by
  intro args h base k hk
  unfold s16 at hk
  split at hk
  · rename_i a b c
    refine ⟨_, [], [], hk, plainOK g0 Try.func16 (by kernel_rfl) (by kernel_rfl) ?_ rfl rfl h base⟩
    show evalF C0 64 Try.f16 _ [] _
    rw [t16 a b c (fun v => v = _)]
    rw [chk_tree a b c (fun n => SV.int .i64 n = _)]
  · cases hk
theorem ok17 : SpecOK Try.prog 17 s16 := by
  intro args h base k hk
  unfold s16 at hk
  split at hk
  · rename_i a b c
    refine ⟨_, [], [], hk, plainOK g0 Try.func17 (by kernel_rfl) (by kernel_rfl) ?_ rfl rfl h base⟩
    show evalF C0 64 Try.f17 _ [] _
    rw [t17 a b c (fun v => v = _)]
    rw [chk_tree a b c (fun n => SV.int .i64 n = _)]
  · cases hk
theorem gs1 : GSound C1 := (g0.add ok16).add ok17
end Go.Proofs.Ytfhkmagpgbcnjaa
