/-
  Chapter 7 by the engine: a measure behind samples; samples brought to be ones.
-/
import Derived.Test.YtepmbiahnicooaaV3
import Derived.Test.YtepmbiahnicooaaT4
namespace Go.Proofs.Ytepmbiahnicooaa
open Go.RowKit

/-! ### run -/
theorem ids19 (n : Nat) (g : Nat → Nat → Int) (l m s v f : Int) : allIds 3 (h19 n g l m s v f) := ⟨fun _ _ => rfl, rfl, rfl, trivial⟩
def Q19 (n : Nat) (g : Nat → Nat → Int) (r : Rt) (i : SV) (x0 : Ex) : Ex → List SV → List BO → Prop := fun x vals B => x = x0 ∧ vals = v19 n i ∧ B = h19 n g r.l r.m r.s r.v r.f
abbrev f19 (n : Nat) (i : SV) : List SV := tplF 44 L19 (v19 n i)
abbrev m19 (n : Nat) (g : Nat → Nat → Int) (r : Rt) : LHeap := (h19 n g r.l r.m r.s r.v r.f).map mkB
theorem step19 {n : Nat} {g : Nat → Nat → Int} (r : Rt) (i : SV) (x0 : Ex) {c : Code} {fr : List SV} {hp : LHeap} (h : evalC C5 0 1 c fr hp (obsN L19 [false, true, true] (seen 44 3 (Q19 n g r i x0)))) {K : KC} (hK : K x0 (f19 n i) (m19 n g r)) : CodeOK Try.prog 1 c fr hp K :=
  (CodeOK.lookN (C := C5) ec gs5 mixed (u := 0) (Nat.le_add_left 1 2) h).st fun x vals B h => by
    obtain ⟨rfl, rfl, rfl⟩ := h
    exact hK
theorem loop19 (n : Nat) (g : Nat → Nat → Int) (hn : n ≤ 1000) (hok : ∀ r, r < n → Tp (g r 0) ∧ Tp (g r 1) ∧ Tp (g r 2)) : CodeOK Try.prog 1 (.loop c19_3) (f19 n (.int .i64 (0 : Nat))) (m19 n g (runR g 0)) (fun x fr hp => x = .exit 0 ∧ fr = f19 n (.int .i64 n) ∧ hp = m19 n g (runR g n)) := by
  refine CodeOK.loop (fun k fr hp => ∃ i : Nat, i + k = n ∧ fr = f19 n (.int .i64 i) ∧ hp = m19 n g (runR g i)) ?_ (n := n) ⟨0, by omega, rfl, rfl⟩
  rintro k fr hp ⟨i, hik, rfl, rfl⟩
  by_cases h1 : i < n
  · obtain ⟨t0, t1, t2⟩ := hok i h1
    have hr := okR_run (g := g) (n := i) fun r hr => hok r (by omega)
    refine step19 (n := n) (g := g) (runR g (i + 1)) (.int .i64 ((i + 1 : Nat) : Int)) .normal ?_ ⟨k - 1, f19 n (.int .i64 ((i + 1 : Nat) : Int)), m19 n g (runR g (i + 1)), by omega, tpl_weak (B := h19 n g (runR g (i + 1)).l (runR g (i + 1)).m (runR g (i + 1)).s (runR g (i + 1)).v (runR g (i + 1)).f) (R := []) ⟨.inr rfl, .inr rfl, .inr rfl, .inr rfl, .inr rfl, trivial⟩ rfl (ids19 n g _ _ _ _ _) (Nat.le_add_left 1 2), i + 1, by omega, rfl, rfl⟩
    rw [p19r, cb (show (i : Int) < n by omega), i64n i (by omega)]
    simp only [cb h1, show decide ((0 : Int) ≤ (i : Int)) = true from cb (by omega), Bool.and_true, cond_true, Nat.zero_add, Int.toNat_natCast]
    rintro _ _ _ _ _ _ ⟨rfl, rfl, rfl, rfl, rfl, rfl⟩
    rw [smE_ok hr t0 t1 t2]
    exact ⟨rfl, rfl, ids19 n g _ _ _ _ _, rfl, rfl, rfl⟩
  · obtain rfl : i = n := by omega
    refine step19 (n := i) (g := g) (runR g i) (.int .i64 i) (.exit 0) ?_ ⟨rfl, rfl, rfl⟩
    rw [p19r, cf (show ¬ (i : Int) < i by omega)]
    exact ⟨rfl, rfl, ids19 i g _ _ _ _ _, rfl, rfl, rfl⟩
theorem canon19 (n : Nat) (g : Nat → Nat → Int) (hn : n ≤ 1000) (hok : ∀ r, r < n → Tp (g r 0) ∧ Tp (g r 1) ∧ Tp (g r 2)) : Canon Try.prog 19 [.slice 0 0 3 n] [some (bT n g)] fun v _ => v = .tuple [rtt (runR g n).l (runR g n).m (runR g n).s (runR g n).v (runR g n).f, .bool true] := by
  refine CodeOK.body Try.func19 (by kernel_rfl) ?_
  rw [code19]
  refine CodeOK.frontN (C := C5) ec gs5 mixed (u := 0) (len := 44) (L := L19) (M := [false, true, true]) [c19_0, c19_1] (Nat.le_add_left 1 2) (Q := Q19 n g (runR g 0) .top .normal) ?_ ?_
  · show evalC C5 0 1 _ (enterS 44 _) _ _
    simp only [List.foldr]
    rw [p19a]
    exact ⟨rfl, rfl, ids19 n g _ _ _ _ _, rfl, rfl, rfl⟩
  · rintro x vals B ⟨rfl, rfl, rfl⟩
    refine CodeOK.seq (CodeOK.seq (step19 (n := n) (g := g) (runR g 0) (.int .i64 (0 : Nat)) .normal ?_ ?_))
    · rw [p19s]
      exact ⟨rfl, rfl, ids19 n g _ _ _ _ _, rfl, rfl, rfl⟩
    refine CodeOK.block ((loop19 n g hn hok).mono ?_)
    rintro x fr hp ⟨rfl, rfl, rfl⟩
    refine CodeOK.eval (C := C5) ec gs5 mixed 0 ?_
    show evalC C5 0 1 c19_4 (f19 n (.int .i64 n)) (m19 n g (runR g n)) (endK Try.prog Try.f19.results.toList (fun v _ => v = _))
    rw [p19e n g n (runR g n).l (runR g n).m (runR g n).s (runR g n).v (runR g n).f (fun v => v = _)]
    rfl
theorem rows_wb {b : Blk} {n : Nat} {g : Nat → Nat → Int} (h : RowsAre b n g) (hs : b.sz = 3) (ψ : Ren) : WB ψ (bT n g) b :=
  WB.of_rows hs.symm h.le (fun h => (nomatch h)) (fun h => (nomatch h)) fun r hr => ⟨(h.rows r hr).symm, rfl⟩
theorem sim19 {h : Heap} {id n : Nat} {b : Blk} {g : Nat → Nat → Int} (hb : h id = some b) (hs : b.sz = 3) (hg : RowsAre b n g) (hn : n ≤ 1000) {l m s v f : Int} (hr : runR g n = ⟨l, m, s, v, f⟩) (base : Nat) : CSim Try.prog 19 [.slice id 0 3 n] h base (.tuple [rtt l m s v f, .bool true]) [] [] := by
  have hc := canon19 n g hn hg.ok
  rw [hr] at hc
  refine CSim.reads (cal Try.func19 (by kernel_rfl) (by kernel_rfl)) [.slice 0 0 3 n] [some (bT n g)] [id] rfl hc rfl (fun i b1 hb1 => ?_) rfl base
  match i, hb1 with
  | 0, hb1 =>
    obtain rfl : bT n g = b1 := by simpa [hget] using hb1
    exact ⟨rfl, id, b, rfl, hb, rows_wb hg hs _⟩
  | i + 1, hb1 => simp [hget] at hb1
theorem okl19 : SpecOK Try.prog 19 l19 := by
  intro args h base k hk
  unfold l19 at hk
  split at hk
  · rename_i id n
    split at hk
    · rename_i b hb
      cases hs : Nat.beq b.sz 3 with
      | false => simp [hs] at hk
      | true =>
        simp only [hs, cond_true] at hk
        obtain ⟨g, hn, hg, hk⟩ := hk
        exact ⟨_, [], [], hk _ _ _ _ _ ⟨rfl⟩, sim19 hb (Nat.eq_of_beq_eq_true hs) hg hn rfl base⟩
    · cases hk
  · cases hk
theorem ok19L : SpecOK Try.prog 19 l19L := by
  intro args h base k hk
  unfold l19L at hk
  split at hk
  · rename_i id
    split at hk
    · rename_i b hb
      split at hk
      · rename_i x y z e1 e2 r0
        obtain ⟨⟨hx, hy, hz⟩, hk⟩ := hk
        refine ⟨_, [], [], hk _ _ _ _ _ ⟨rfl⟩, sim19 (g := litG [(x, y, z)]) hb e1 ⟨by rw [e2]; exact Nat.le_refl _, fun r hr => ?_, fun r hr => ?_⟩ (by omega) rfl base⟩
        · obtain rfl : r = 0 := by omega
          rw [r0]; rfl
        · obtain rfl : r = 0 := by omega
          exact ⟨hx, hy, hz⟩
      · cases hk
    · cases hk
  · rename_i id
    split at hk
    · rename_i b hb
      split at hk
      · rename_i x y z x' y' z' e1 e2 r0 r1
        obtain ⟨⟨hx, hy, hz⟩, ⟨hx', hy', hz'⟩, hk⟩ := hk
        refine ⟨_, [], [], hk _ _ _ _ _ ⟨rfl⟩, sim19 (g := litG [(x, y, z), (x', y', z')]) hb e1 ⟨by rw [e2]; exact Nat.le_refl _, fun r hr => ?_, fun r hr => ?_⟩ (by omega) rfl base⟩
        · rcases (by omega : r = 0 ∨ r = 1) with rfl | rfl
          · rw [r0]; rfl
          · rw [r1]; rfl
        · rcases (by omega : r = 0 ∨ r = 1) with rfl | rfl
          · exact ⟨hx, hy, hz⟩
          · exact ⟨hx', hy', hz'⟩
      · cases hk
    · cases hk
  · cases hk
theorem gs7 : GSound C7 := gs5.add ok19L
end Go.Proofs.Ytepmbiahnicooaa
