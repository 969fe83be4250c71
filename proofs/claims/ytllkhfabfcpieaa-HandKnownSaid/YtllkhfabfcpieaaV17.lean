/-
  Chapter 16 by the engine: HandKnown.
-/
import Derived.Test.YtllkhfabfcpieaaT16
namespace Go.Proofs.Ytllkhfabfcpieaa
open Go.RowKit
set_option linter.unusedVariables false
theorem ok6 : SpecOK Try.prog 6 s6 := by
  intro args h base k hk
  unfold s6 at hk
  split at hk
  · rename_i b id n
    split at hk
    · rename_i blk hb
      obtain ⟨hd, hk⟩ := hk
      refine ⟨_, [], [], hk, CSim.reads (cal (f := 6) Try.func6 (by kernel_rfl) (by kernel_rfl)) [.bool b, .slice 0 0 2 n] [some (bD n fun r j => rowI (blk.rd r) j)] [id] rfl (canon6 b n _) rfl (fun i b1 e => ?_) rfl base⟩
      match i, e with
      | 0, e =>
        obtain rfl := Option.some.inj (show some (bD n fun r j => rowI (blk.rd r) j) = some b1 from e)
        refine ⟨rfl, id, blk, rfl, hb, WB.of_rows hd.sz.symm hd.le (fun q => nomatch q) (fun q => nomatch q) fun r hr => ?_⟩
        obtain ⟨x, y, e⟩ := hd.rd r hr
        refine ⟨?_, rfl⟩
        show [SV.int .i64 (rowI (blk.rd r) 0), SV.int .i64 (rowI (blk.rd r) 1)] = blk.rd r
        rw [e]
        rfl
      | i + 1, e => exact nomatch (show (none : Option Blk) = some b1 from e)
    · cases hk
  · cases hk
theorem gs14 : GSound C14 := gs13.add ok6
section
attribute [local irreducible] evalC
set_option maxRecDepth 100000
theorem ids9 (e : Nat → Int) : allIds 1 (h9 e) := ⟨fun _ _ => rfl, trivial⟩
theorem wk9 {e : Nat → Int} {i j k i' j' k' : SV} (hv : ValW (v9 i' j' k') (v9 i j k)) (hi : ltAll 1 (svIdsL (v9 i' j' k')) = true) : Weak 0 (tplF 112 L9 (v9 i j k)) ((h9 e).map mkB) (tplF 112 L9 (v9 i' j' k')) ((h9 e).map mkB) := tpl_weak (B := h9 e) (R := []) hv hi (ids9 e) (Nat.zero_le _)
/-- A step between two such states. -/
theorem step9 {e : Nat → Int} {i j k : SV} (x : Ex) {u : Nat} {c : Code} {fr : List SV} {hp : LHeap} (hh : evalC C14 u 0 c fr hp (obsN L9 [false] (seen 112 1 (atS x (v9 i j k) (h9 e))))) {K : KC} (hK : K x (tplF 112 L9 (v9 i j k)) ((h9 e).map mkB)) : CodeOK Try.prog 0 c fr hp K :=
  CodeOK.at (C := C14) ec gs14 mixed (M := [false]) (Nat.zero_le _) x hh hK
theorem roundK9 (e : Nat → Int) (i j k : Nat) (hk : k < 7) : CodeOK Try.prog 0 c9_K (tplF 112 L9 (v9 (.int .i64 i) (.int .i64 j) (.int .i64 k))) ((h9 e).map mkB) (fun x fr hp => x = .normal ∧ Weak 0 fr hp (tplF 112 L9 (v9 (.int .i64 i) (.int .i64 j) (.int .i64 (k + 1 : Nat)))) ((h9 e).map mkB)) := by
  refine CodeOK.lookE (C := C14) ec gs14 mixed (u := 64) (len := 112) (rs := Try.f9.results.toList) (L := L9) (M := [false]) (Nat.zero_le _) (Q := atS .normal (v9 (.int .i64 i) (.int .i64 j) (.int .i64 (k + 1 : Nat))) (h9 e)) (kr := fun _ => False) ?_ ?_ fun fr hp h => (endK_no h).elim
  · show evalC C14 64 0 c9_K (tplF 112 L9 (v9 (.int .i64 i) (.int .i64 j) (.int .i64 k))) ((h9 e).map mkB) (obsE Try.prog Try.f9.results.toList L9 [false] _ _)
    rw [p9g e i j k]
    have h1 : decide ((k : Int) < 7) = true := cb (by omega)
    have h2 : (decide (0 + (k : Int).toNat < 7) && true) = true := by simp only [Bool.and_true, Nat.zero_add, Int.toNat_natCast]; exact cb hk
    refine condT' h1 ?_
    iterate 6
      refine condT' h1 (condT' h2 (condT' h1 (condT' h2 ⟨⟨rfl, Nat.le_refl _, fun r hr => by
        match r, hr with
        | 0, _ => exact ⟨_, _, rfl⟩
        | 1, _ => exact ⟨_, _, rfl⟩
        | 2, _ => exact ⟨_, _, rfl⟩
        | 3, _ => exact ⟨_, _, rfl⟩
        | 4, _ => exact ⟨_, _, rfl⟩⟩, ?_⟩)))
    rw [i64n k (by omega)]
    exact ⟨rfl, rfl, ids9 e, rfl, rfl, rfl⟩
  · rintro x vals B ⟨rfl, rfl, rfl⟩
    exact ⟨rfl, wk9 ⟨.inr rfl, .inr rfl, .inr rfl, .inr rfl, .inr rfl, trivial⟩ rfl⟩
theorem loopK9 (e : Nat → Int) (i j : Nat) {K : KC} (hK : K (.exit 4) (tplF 112 L9 (v9 (.int .i64 i) (.int .i64 j) .top)) ((h9 e).map mkB)) : CodeOK Try.prog 0 (.loop c9_K) (tplF 112 L9 (v9 (.int .i64 i) (.int .i64 j) (.int .i64 (0 : Nat)))) ((h9 e).map mkB) K := by
  refine CodeOK.count (n := 7) (F := fun k => tplF 112 L9 (v9 (.int .i64 i) (.int .i64 j) (.int .i64 k))) (H := fun _ => (h9 e).map mkB) (fun k hk => roundK9 e i j k hk) ?_ hK
  refine CodeOK.lookE (C := C14) ec gs14 mixed (u := 64) (len := 112) (rs := Try.f9.results.toList) (L := L9) (M := [false]) (Nat.zero_le _) (Q := atS (.exit 4) (v9 (.int .i64 i) (.int .i64 j) (.int .i64 (7 : Nat))) (h9 e)) (kr := fun _ => False) ?_ ?_ fun fr hp h => (endK_no h).elim
  · show evalC C14 64 0 c9_K (tplF 112 L9 (v9 (.int .i64 i) (.int .i64 j) (.int .i64 (7 : Nat)))) ((h9 e).map mkB) (obsE Try.prog Try.f9.results.toList L9 [false] _ _)
    rw [p9g e i j 7]
    refine condF' (by decide) ?_
    exact ⟨rfl, rfl, ids9 e, rfl, rfl, rfl⟩
  · rintro x vals B ⟨rfl, rfl, rfl⟩
    exact ⟨rfl, wk9 ⟨.inr rfl, .inr rfl, .inr rfl, .inr rfl, .inl rfl, trivial⟩ rfl⟩
theorem loopJ9 (e : Nat → Int) (i : Nat) {K : KC} (hK : K (.exit 2) (tplF 112 L9 (v9 (.int .i64 i) .top .top)) ((h9 e).map mkB)) : CodeOK Try.prog 0 (.loop (.seq c9_5 (.seq (.block 3 (.seq c9_6 (.block 4 (.loop c9_K)))) c9_11))) (tplF 112 L9 (v9 (.int .i64 i) (.int .i64 (0 : Nat)) .top)) ((h9 e).map mkB) K := by
  refine CodeOK.count (n := 6) (F := fun j => tplF 112 L9 (v9 (.int .i64 i) (.int .i64 j) .top)) (H := fun _ => (h9 e).map mkB) (fun j hj => ?_) ?_ hK
  · refine CodeOK.seq (step9 (u := 0) .normal (i := .int .i64 i) (j := .int .i64 j) (k := .top) (e := e) ?_ ?_)
    · rw [p9e]
      refine condT' (cb (by omega)) ?_
      exact ⟨rfl, rfl, ids9 e, rfl, rfl, rfl⟩
    refine CodeOK.seq (CodeOK.block (CodeOK.seq (step9 (u := 0) .normal (i := .int .i64 i) (j := .int .i64 j) (k := .int .i64 (0 : Nat)) (e := e) ?_ ?_)))
    · rw [p9f]
      exact ⟨rfl, rfl, ids9 e, rfl, rfl, rfl⟩
    refine CodeOK.block (loopK9 e i j ?_)
    show CodeOK Try.prog 0 c9_11 _ _ _
    refine step9 (u := 0) .normal (i := .int .i64 i) (j := .int .i64 (j + 1 : Nat)) (k := .top) (e := e) ?_ ?_
    · rw [p9h, i64n j (by omega)]
      exact ⟨rfl, rfl, ids9 e, rfl, rfl, rfl⟩
    · exact ⟨rfl, wk9 ⟨.inr rfl, .inr rfl, .inr rfl, .inr rfl, .inr rfl, trivial⟩ rfl⟩
  · refine CodeOK.seq (step9 (u := 0) (.exit 2) (i := .int .i64 i) (j := .int .i64 (6 : Nat)) (k := .top) (e := e) ?_ ?_)
    · rw [p9e]
      refine condF' (by decide) ?_
      exact ⟨rfl, rfl, ids9 e, rfl, rfl, rfl⟩
    · exact ⟨rfl, wk9 ⟨.inr rfl, .inr rfl, .inr rfl, .inl rfl, .inr rfl, trivial⟩ rfl⟩
theorem loopI9 (e : Nat → Int) {K : KC} (hK : K (.exit 0) (tplF 112 L9 (v9 .top .top .top)) ((h9 e).map mkB)) : CodeOK Try.prog 0 (.loop (.seq c9_3 (.seq (.block 1 (.seq c9_4 (.block 2 (.loop (.seq c9_5 (.seq (.block 3 (.seq c9_6 (.block 4 (.loop c9_K)))) c9_11)))))) c9_12))) (tplF 112 L9 (v9 (.int .i64 (0 : Nat)) .top .top)) ((h9 e).map mkB) K := by
  refine CodeOK.count (n := 2) (F := fun i => tplF 112 L9 (v9 (.int .i64 i) .top .top)) (H := fun _ => (h9 e).map mkB) (fun i hi => ?_) ?_ hK
  · refine CodeOK.seq (step9 (u := 0) .normal (i := .int .i64 i) (j := .top) (k := .top) (e := e) ?_ ?_)
    · rw [p9c]
      refine condT' (cb (by omega)) ?_
      exact ⟨rfl, rfl, ids9 e, rfl, rfl, rfl⟩
    refine CodeOK.seq (CodeOK.block (CodeOK.seq (step9 (u := 0) .normal (i := .int .i64 i) (j := .int .i64 (0 : Nat)) (k := .top) (e := e) ?_ ?_)))
    · rw [p9d]
      exact ⟨rfl, rfl, ids9 e, rfl, rfl, rfl⟩
    refine CodeOK.block (loopJ9 e i ?_)
    show CodeOK Try.prog 0 c9_12 _ _ _
    refine step9 (u := 0) .normal (i := .int .i64 (i + 1 : Nat)) (j := .top) (k := .top) (e := e) ?_ ?_
    · rw [p9i, i64n i (by omega)]
      exact ⟨rfl, rfl, ids9 e, rfl, rfl, rfl⟩
    · exact ⟨rfl, wk9 ⟨.inr rfl, .inr rfl, .inr rfl, .inr rfl, .inr rfl, trivial⟩ rfl⟩
  · refine CodeOK.seq (step9 (u := 0) (.exit 0) (i := .int .i64 (2 : Nat)) (j := .top) (k := .top) (e := e) ?_ ?_)
    · rw [p9c]
      refine condF' (by decide) ?_
      exact ⟨rfl, rfl, ids9 e, rfl, rfl, rfl⟩
    · exact ⟨rfl, wk9 ⟨.inr rfl, .inr rfl, .inl rfl, .inr rfl, .inr rfl, trivial⟩ rfl⟩
def hZ : Hd := ⟨false, 0, 0, 0, false, false, false⟩
def e9 : Nat → Int := fun r => [-9223372036854775808, -1, 0, 1, 2, 3, 9223372036854775807].getD r 0
theorem canon9 : Canon Try.prog 9 [] [] fun v _ => v = .bool true := by
  refine CodeOK.body Try.func9 (by kernel_rfl) ?_
  rw [code9]
  refine CodeOK.frontN (C := C14) ec gs14 mixed (u := 0) (len := 112) (L := L9) (M := [false]) [c9_0, c9_1] (Nat.zero_le _) (Q := fun x vals B => x = .normal ∧ vals = v9 .top .top .top ∧ ∃ b, B = [.raw (some b)] ∧ b.sz = 1 ∧ b.n = 7 ∧ ∀ r, r < 7 → b.rd r = [.int .i64 (e9 r)]) ?_ ?_
  · show evalC C14 0 0 _ (enterS 112 _) _ _
    simp only [List.foldr]
    rw [p9a]
    refine ⟨rfl, rfl, ⟨fun r hr => ?_, trivial⟩, rfl, rfl, _, rfl, rfl, rfl, fun r hr => ?_⟩
    · match r, hr with
      | 0, _ => rfl
      | 1, _ => rfl
      | 2, _ => rfl
      | 3, _ => rfl
      | 4, _ => rfl
      | 5, _ => rfl
      | 6, _ => rfl
    · match r, hr with
      | 0, _ => rfl
      | 1, _ => rfl
      | 2, _ => rfl
      | 3, _ => rfl
      | 4, _ => rfl
      | 5, _ => rfl
      | 6, _ => rfl
  · rintro x vals B ⟨rfl, rfl, b, rfl, b1, b2, b3⟩
    have hw : Weak 0 (tplF 112 L9 (v9 .top .top .top)) ([BO.raw (some b)].map mkB) (tplF 112 L9 (v9 .top .top .top)) ((h9 e9).map mkB) := by
      refine ren_weak (m0 := 0) [0] rfl (Nat.zero_le _) (fun j hj => by omega) ⟨.inr rfl, .inr rfl, .inr rfl, .inr rfl, .inr rfl, trivial⟩ (fun id c hc => ?_) inj1
      match id, hc with
      | 0, hc =>
        obtain rfl := Option.some.inj (show some (bF e9 7) = some c from hc)
        exact ⟨0, b, rfl, rfl, WB.of_rows b1.symm (by rw [b2]; exact Nat.le_refl _) (fun q => nomatch (show (false : Bool) = true from q)) (fun q => nomatch (show (false : Bool) = true from q)) fun r hr => ⟨(b3 r hr).symm, rfl⟩⟩
      | id + 1, hc => exact nomatch (show (none : Option Blk) = some c from hc)
    refine CodeOK.pre hw ?_
    refine CodeOK.seq (CodeOK.seq (step9 (u := 0) .normal (i := .int .i64 (0 : Nat)) (j := .top) (k := .top) (e := e9) ?_ ?_))
    · rw [p9b]
      exact ⟨rfl, rfl, ids9 e9, rfl, rfl, rfl⟩
    refine CodeOK.block (loopI9 e9 ?_)
    refine CodeOK.eval (C := C14) ec gs14 mixed 64 ?_
    show evalC C14 64 0 (.seq c9_13 (.seq (.seq c9_14 (.block 8 (.loop c9_15))) c9_16)) (tplF 112 L9 (v9 .top .top .top)) ((h9 e9).map mkB) (endK Try.prog Try.f9.results.toList fun v _ => v = .bool true)
    rw [p9z e9 (fun v => v = .bool true)]
    rintro h1 a1 e1 rfl
    rw [show keysH (Hd.mk false 0 0 0 false false false) 0 = hZ by decide] at e1
    subst e1
    refine condF' rfl ?_
    rintro h2 a2 e2 rfl
    rw [show discH (Hd.mk hZ.sv hZ.e0 hZ.e1 hZ.e2 hZ.va hZ.cf hZ.an) 0 = hZ by decide] at e2
    subst e2
    refine condF' (by decide) ?_
    rintro h3 a3 e3 rfl
    rw [show valH (Hd.mk hZ.sv hZ.e0 hZ.e1 hZ.e2 hZ.va hZ.cf hZ.an) = hZ by decide] at e3
    subst e3
    refine condF' (by decide) ?_
    rintro h4 a4 e4 rfl
    rw [show confH (Hd.mk hZ.sv hZ.e0 hZ.e1 hZ.e2 hZ.va hZ.cf hZ.an) = hZ by decide] at e4
    subst e4
    refine condF' (by decide) ?_
    rintro h5 a5 e5 rfl
    rw [show ansH (Hd.mk hZ.sv hZ.e0 hZ.e1 hZ.e2 hZ.va hZ.cf hZ.an) 0 = hZ by decide] at e5
    subst e5
    refine condF' (by decide) (condF' (by decide) (condF' (by decide) (condF' (by decide) (condF' (by decide) (condF' (by decide) (condF' (by decide) (condF' (by decide) (condF' (by decide) (condT' (by decide) rfl)))))))))
end
theorem known_any (w : World) : Calls Try.prog 9 #[] w fun e w' => e = .returned (.bool true) ∧ Below w.heap.size w w' := lawOf canon9 RL.nil w
end Go.Proofs.Ytllkhfabfcpieaa
