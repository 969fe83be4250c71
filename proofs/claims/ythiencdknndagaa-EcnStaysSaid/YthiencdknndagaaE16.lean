/-
  A small engine for walks, part 16: parts of a code, put together by rules; each part with its own fuel.
-/
import Derived.Test.YthiencdknndagaaEng
namespace Go.Proofs.Ythiencdknndagaa
open Go.RowKit

/-- What a part of the code does, from such a state on. -/
def CodeOK (P : Program) (m0 : Nat) (c : Code) (fr : List SV) (hp : LHeap) (K : KC) : Prop :=
  ∀ (g : Gh) (φ : Phi) (a : Act) (w : World), g.m0 = m0 → LRep g φ fr hp a w → c.wp P (Post g K) a w
theorem CodeOK.eval {C : Ctx} (hC : EqOK C) (hΓ : GSound C) (hm : C.P.follows .mixedOrders = true) (u : Nat) {m0 : Nat} {c : Code} {fr : List SV} {hp : LHeap} {K : KC} (h : evalC C u m0 c fr hp K) : CodeOK C.P m0 c fr hp K :=
  fun g φ a w hg hr => evalC_ok hC hΓ hm u g c fr hp K φ a w (by rw [hg]; exact h) hr
/-- The state may be said anew at the end. -/
def KW (m0 : Nat) (K : KC) : KC := fun x fr hp => ∃ fr1 hp1, Weak m0 fr hp fr1 hp1 ∧ K x fr1 hp1
theorem Post.weak {g : Gh} {K K' : KC} (hK : ∀ x fr hp, K x fr hp → KW g.m0 K' x fr hp) {e : Exit} {a : Act} {w : World} (h : Post g K e a w) : Post g K' e a w := by
  cases e <;> simp only [Post] at h ⊢ <;> first | exact h | (
    obtain ⟨φ, fr, hp, h1, h2⟩ := h
    obtain ⟨fr1, hp1, h3, h4⟩ := hK _ _ _ h1
    obtain ⟨φ', h5⟩ := h2.weak h3
    exact ⟨φ', fr1, hp1, h4, h5⟩)
theorem Post.mono {g : Gh} {K K' : KC} (hK : ∀ x fr hp, K x fr hp → K' x fr hp) {e : Exit} {a : Act} {w : World} (h : Post g K e a w) : Post g K' e a w := by
  cases e <;> simp only [Post] at h ⊢ <;> first | exact h | (
    obtain ⟨φ, fr, hp, h1, h2⟩ := h
    exact ⟨φ, fr, hp, hK _ _ _ h1, h2⟩)
theorem CodeOK.mono {P : Program} {m0 : Nat} {c : Code} {fr : List SV} {hp : LHeap} {K K' : KC} (h : CodeOK P m0 c fr hp K) (hK : ∀ x fr hp, K x fr hp → K' x fr hp) : CodeOK P m0 c fr hp K' :=
  fun g φ a w hg hr => wp_mono (h g φ a w hg hr) fun _ _ _ he => Post.mono hK he
theorem CodeOK.monoW {P : Program} {m0 : Nat} {c : Code} {fr : List SV} {hp : LHeap} {K K' : KC} (h : CodeOK P m0 c fr hp K) (hK : ∀ x fr hp, K x fr hp → KW m0 K' x fr hp) : CodeOK P m0 c fr hp K' :=
  fun g φ a w hg hr => wp_mono (h g φ a w hg hr) fun _ _ _ he => Post.weak (by rw [hg]; exact hK) he
theorem CodeOK.pre {P : Program} {m0 : Nat} {c : Code} {fr fr1 : List SV} {hp hp1 : LHeap} {K : KC} (hw : Weak m0 fr hp fr1 hp1) (h : CodeOK P m0 c fr1 hp1 K) : CodeOK P m0 c fr hp K := by
  intro g φ a w hg hr
  subst hg
  obtain ⟨φ', hr'⟩ := hr.weak hw
  exact h g φ' a w rfl hr'
/-- One part, then the next. -/
def thenK (K : KC) (N : List SV → LHeap → Prop) : KC
  | .normal, fr, hp => N fr hp
  | .exit i, fr, hp => K (.exit i) fr hp
  | .ret, fr, hp => K .ret fr hp
theorem CodeOK.seq {P : Program} {m0 : Nat} {x y : Code} {fr : List SV} {hp : LHeap} {K : KC} (h : CodeOK P m0 x fr hp (thenK K fun fr hp => CodeOK P m0 y fr hp K)) : CodeOK P m0 (.seq x y) fr hp K := by
  intro g φ a w hg hr
  refine wp_seq (wp_mono (h g φ a w hg hr) fun e a' w' he => ?_)
  cases e <;> simp only [Post, thenK] at he <;> simp only [Exit.then]
  · obtain ⟨φ', fr', hp', h1, h2⟩ := he
    exact h1 g φ' a' w' hg h2
  · exact he
  · exact he
def blockK (K : KC) (id : Nat) : KC
  | .exit i, fr, hp => bif Nat.beq i id then K .normal fr hp else K (.exit i) fr hp
  | x, fr, hp => K x fr hp
theorem CodeOK.block {P : Program} {m0 id : Nat} {c : Code} {fr : List SV} {hp : LHeap} {K : KC} (h : CodeOK P m0 c fr hp (blockK K id)) : CodeOK P m0 (.block id c) fr hp K := by
  intro g φ a w hg hr
  refine wp_block (wp_mono (h g φ a w hg hr) fun e a' w' he => ?_)
  cases e <;> simp only [Post, blockK] at he <;> simp only [Exit.inBlock]
  · exact he
  · rename_i i
    obtain ⟨φ', fr', hp', h1, h2⟩ := he
    cases hi : Nat.beq i id with
    | true =>
      simp only [hi, cond_true] at h1
      rw [if_pos (Nat.eq_of_beq_eq_true hi)]
      exact ⟨φ', fr', hp', h1, h2⟩
    | false =>
      simp only [hi, cond_false] at h1
      rw [if_neg (by rintro rfl; simp at hi)]
      exact ⟨φ', fr', hp', h1, h2⟩
  · exact he
theorem CodeOK.cond {P : Program} {m0 : Nat} {o : Operand} {x y : Code} {fr : List SV} {hp : LHeap} {K : KC} {t : Bool} (ho : evalO fr o = .bool t) (h : if t then CodeOK P m0 x fr hp K else CodeOK P m0 y fr hp K) : CodeOK P m0 (.cond o x y) fr hp K := by
  intro g φ a w hg hr
  have hv := evalO_R hr.fr o
  rw [ho] at hv
  simp only [R] at hv
  cases t
  · simp only [Bool.false_eq_true, if_false] at h
    exact wp_cond_false hv (h g φ a w hg hr)
  · simp only [if_true] at h
    exact wp_cond_true hv (h g φ a w hg hr)
/-- What a round leaves: the next one, or the end. -/
def roundK (m0 : Nat) (K : KC) (I : Nat → List SV → LHeap → Prop) (n : Nat) : KC := thenK K fun fr hp => ∃ n' fr1 hp1, n' < n ∧ Weak m0 fr hp fr1 hp1 ∧ I n' fr1 hp1
theorem CodeOK.loop {P : Program} {m0 : Nat} {c : Code} {K : KC} (I : Nat → List SV → LHeap → Prop) (hI : ∀ n fr hp, I n fr hp → CodeOK P m0 c fr hp (roundK m0 K I n)) {n : Nat} {fr : List SV} {hp : LHeap} (h : I n fr hp) : CodeOK P m0 (.loop c) fr hp K := by
  have main : ∀ (N n : Nat) (fr : List SV) (hp : LHeap), n < N → I n fr hp → ∀ (g : Gh) (φ : Phi) (a : Act) (w : World), g.m0 = m0 → LRep g φ fr hp a w → Code.rounds P c (Post g K) N a w := by
    intro N
    induction N with
    | zero => intro n fr hp h; omega
    | succ N ih =>
      intro n fr hp hn h g φ a w hg hr
      refine wp_mono (hI n fr hp h g φ a w hg hr) fun e a' w' he => ?_
      cases e <;> simp only [Post, roundK, thenK] at he
      · obtain ⟨φ', fr', hp', ⟨n', fr1, hp1, q1, q2, q3⟩, h2⟩ := he
        subst hg
        obtain ⟨φ1, hr1⟩ := h2.weak q2
        exact ih n' fr1 hp1 (by omega) q3 g φ1 a' w' rfl hr1
      · exact he
      · exact he
  intro g φ a w hg hr
  exact wp_loop_rounds (n + 1) (main (n + 1) n fr hp (by omega) h g φ a w hg hr)
/-- A function, from what its body does. -/
def endK (P : Program) (rs : List ResultVar) (k : KV) : KC := fun x fr hp => match x with
  | .exit _ => False
  | .normal => match resS P fr (hget hp) rs with | some l => k (packS l) hp | none => False
  | .ret => match resS P fr (hget hp) rs with | some l => k (packS l) hp | none => False
theorem CodeOK.body {P : Program} {f : FuncId} {fn : Func} (hf : P.funcs[f]? = some fn) (hb : fn.body.isSome = true) {args : List SV} {hp : LHeap} {k : KV}
    (h : CodeOK P hp.length (bodF fn) (enterS fn.ntmps args) hp (endK P fn.results.toList k)) : Canon P f args hp k := by
  cases hbb : fn.body with
  | none => rw [hbb] at hb; cases hb
  | some c =>
    have e : bodF fn = c := by unfold bodF; rw [hbb]; rfl
    rw [e] at h
    intro φ w vs hr ha hd
    refine calls_of_wp hf hbb (wp_mono (h (liftG φ (hget hp) w hp.length) φ _ w rfl ⟨hr, ?_, rfl, hd, Nat.le_refl _⟩) ?_)
    · have hl := ha.length
      have e : (vs.toArray ++ Array.replicate (fn.ntmps - vs.toArray.size) undef).toList = vs ++ List.replicate (fn.ntmps - args.length) undef := by
        simp [hl]
      dsimp only
      rw [e]
      exact ha.append (RL.replicate _ _)
    · have fin : ∀ (φ' : Phi) (fr : List SV) (hp' : LHeap) (a : Act) (w' : World), (match resS P fr (hget hp') fn.results.toList with | some l => k (packS l) hp' | none => False) → LRep (liftG φ (hget hp) w hp.length) φ' fr hp' a w' →
          a.defers = [] ∧ ∃ v, (results fn a.tmps).run P w' = .ok v w' ∧ ∃ u φ' v' hp', Ending.returned v = .returned u ∧ k v' hp' ∧ R φ' v' u ∧ HRep (liftG φ (hget hp) w hp.length) φ' (hget hp') w' := by
        intro φ' fr hp' a w' hk hl
        split at hk
        · rename_i l hl'
          obtain ⟨us, q1, q2⟩ := resS_ok hl.hr hl.fr hl'
          refine ⟨hl.df, _, ?_, _, φ', packS l, hp', rfl, hk, packS_ok q2, hl.hr⟩
          unfold results
          rw [Array.mapM_eq_mapM_toList]
          simp only [Sem.run_bind, Sem.run_map]
          erw [q1]
          rfl
        · cases hk
      intro e a w' he
      cases e <;> simp only [Post, endK] at he
      · obtain ⟨φ', fr, hp', h1, h2⟩ := he
        exact fin φ' fr hp' a w' h1 h2
      · obtain ⟨_, _, _, h1, _⟩ := he
        exact h1.elim
      · obtain ⟨φ', fr, hp', h1, h2⟩ := he
        exact fin φ' fr hp' a w' h1 h2
end Go.Proofs.Ythiencdknndagaa
