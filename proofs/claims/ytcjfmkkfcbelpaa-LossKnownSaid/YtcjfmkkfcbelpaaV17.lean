/-
  Chapter 9 by the engine: packets out of rows: the contract is kept.
-/
import Derived.Test.YtcjfmkkfcbelpaaT17
namespace Go.Proofs.Ytcjfmkkfcbelpaa
open Go.RowKit
set_option linter.unusedVariables false
def gV (id : Nat) : Nat → SV
  | 0 => .nilSlice
  | a + 1 => .slice id 0 6 (a + 1)
def gO (Q : Nat → Pk) : Nat → List BO
  | 0 => []
  | a + 1 => [lO (a + 1) Q]
abbrev F19 (n : Nat) (R : Nat → Rw) (i : Nat) : List SV := tplF 51 L19 (v19 n (gV 1 i) (nmR R i) (ni i))
abbrev H19 (n : Nat) (R : Nat → Rw) (i : Nat) : LHeap := (h19 n R ++ gO (pkR R) i).map mkB
theorem grow19 {n : Nat} {R : Nat → Rw} {i x : Nat} {x0 x1 : Int} {B : List BO} {A : Blk} (h0 : x0 = nmR R (i + 1)) (h1 : x1 = ((i + 1 : Nat) : Int)) (hB : hget (B.map mkB) 0 = some (bR n R)) (hA : hget (B.map mkB) x = some A) (lA : IsL A (pkR R) (i + 1)) (hne : [0, x].Nodup) :
    Weak 1 (tplF 51 L19 [.slice 0 0 3 n, .slice x 0 6 (i + 1), .int .i64 x0, .int .i64 x1]) (B.map mkB) (F19 n R (i + 1)) (H19 n R (i + 1)) := by
  subst h0 h1
  refine ren_weak (m0 := 1) (vals' := v19 n (.slice 1 0 6 (i + 1)) (nmR R (i + 1)) (ni (i + 1))) [0, x] rfl (show 1 ≤ 2 by decide) (fun j hj => by obtain rfl : j = 0 := (by omega); rfl) ⟨.inr rfl, .inr rfl, .inr rfl, .inr rfl, trivial⟩ (fun id b1 hb1 => ?_) (inj_nodup hne)
  match id, hb1 with
  | 0, hb1 =>
    obtain rfl := Option.some.inj (show some (bR n R) = some b1 from hb1)
    exact ⟨0, _, rfl, hB, WB.of_rows rfl (Nat.le_refl _) (fun h => h) (fun _ => rfl) fun _ _ => ⟨rfl, rfl⟩⟩
  | 1, hb1 =>
    obtain rfl := Option.some.inj (show some (bPw (i + 1) (pkR R)) = some b1 from hb1)
    exact ⟨x, _, rfl, hA, lA.wb _⟩
  | id + 2, hb1 => exact nomatch (show (none : Option Blk) = some b1 from hb1)
theorem isL_snoc {A : Blk} {Q : Nat → Pk} {a : Nat} (h1 : A.sz = 6) (h2 : A.n = a + 1 + 1) (h3 : A.rw = true) (h4 : A.ty = 33) (h5 : ∀ r, r < a + 1 → A.rd r = pkC (Q r)) (h6 : A.rd (a + 1) = pkC (Q (a + 1))) : IsL A Q (a + 1 + 1) :=
  ⟨h1, h2, h3, h4, fun r hr => by
    by_cases h : r < a + 1
    · exact h5 r h
    · obtain rfl : r = a + 1 := by omega
      exact h6⟩
theorem isL_fst {A : Blk} {Q : Nat → Pk} (h1 : A.sz = 6) (h2 : A.n = 1) (h3 : A.rw = true) (h4 : A.ty = 33) (h5 : A.rd 0 = pkC (Q 0)) : IsL A Q (0 + 1) :=
  ⟨h1, h2, h3, h4, fun r hr => by
    obtain rfl : r = 0 := by omega
    exact h5⟩
theorem cap6q {a : Nat} (h : a + 1 ≤ 100000) : (decide (a + 1 + 1 ≤ 9223372036854775807) && decide ((a + 1 + 1) * 32 ≤ 140737488355328) && true && true && true && true && decide (a + 1 = a + 1) && true) = true := by
  have h1 : a + 1 + 1 ≤ 9223372036854775807 := by omega
  have h2 : (a + 1 + 1) * 32 ≤ 140737488355328 := by omega
  simp only [h1, h2, decide_true, Bool.and_true]
section
attribute [local irreducible] evalC
set_option maxRecDepth 100000
theorem round19 (n : Nat) (R : Nat → Rw) (i : Nat) (hi : i < n) (h60 : i < 60) : CodeOK Try.prog 1 c19_4 (F19 n R i) (H19 n R i) (fun x fr hp => x = .normal ∧ Weak 1 fr hp (F19 n R (i + 1)) (H19 n R (i + 1))) := by
  have ha : decide ((i : Int) < (n : Int)) = true := cb (by omega)
  have hb : (decide (0 + (i : Int).toNat < n) && true) = true := by simp only [Bool.and_true]; exact cb (by omega)
  have hx := nmR_range R i
  have ht : 0 + (i : Int).toNat = i := by omega
  have hn : IntKind.i64.wrap (IntKind.i64.wrap (nmR R i + 1) + (R i).s % 4) = nmR R (i + 1) := by
    rw [wrap_id (n := nmR R i + 1) (by omega) (by omega), wrap_id (by omega) (by omega)]
    rfl
  have hz : IntKind.i64.wrap (1 + (R i).z % 65535) = 1 + (R i).z % 65535 := wrap_id (by omega) (by omega)
  cases i with
  | zero =>
    refine (CodeOK.lookN (C := C16) ec gs16 mixed (u := 64) (len := 51) (L := L19) (M := M19n) (show 1 ≤ 5 by decide) (Q := fun x vals B => x = .normal ∧ Weak 1 (tplF 51 L19 vals) (B.map mkB) (F19 n R (0 + 1)) (H19 n R (0 + 1))) ?_).st fun x vals B h => h
    show evalC C16 64 1 c19_4 (tplF 51 L19 (v19 n .nilSlice (nmR R 0) (.int .i64 (0 : Nat)))) ((h19 n R).map mkB) (obsN L19 M19n _)
    rw [p19cn n R (nmR R 0) 0]
    refine condT' ha (condT' (cb (by omega)) (condT' ha (condT' hb (condT' ha (condT' hb (condT' ha (condT' hb (condT' ha (condT' hb ?_)))))))))
    rw [ht, hn, hz, i64n 0 (by omega)]
    refine ⟨rfl, rfl, ⟨fun _ _ => rfl, rfl, rfl, trivial, trivial, trivial⟩, rfl, ?_⟩
    exact grow19 (A := ⟨6, 1, fun r => [pkC (pkR R 0)].getD r [], true, 33⟩) rfl rfl rfl rfl (isL_fst rfl rfl rfl rfl rfl) (by decide)
  | succ q =>
    refine (CodeOK.lookN (C := C16) ec gs16 mixed (u := 64) (len := 51) (L := L19) (M := M19s) (show 1 ≤ 4 by decide) (Q := fun x vals B => x = .normal ∧ Weak 1 (tplF 51 L19 vals) (B.map mkB) (F19 n R (q + 1 + 1)) (H19 n R (q + 1 + 1))) ?_).st fun x vals B h => h
    show evalC C16 64 1 c19_4 (tplF 51 L19 (v19 n (.slice 1 0 6 (q + 1)) (nmR R (q + 1)) (.int .i64 (q + 1 : Nat)))) ((h19 n R ++ [lO (q + 1) (pkR R)]).map mkB) (obsN L19 M19s _)
    rw [p19cs n R (nmR R (q + 1)) (q + 1) q (pkR R)]
    refine condT' ha (condT' (cb (by omega)) (condT' ha (condT' hb (condT' ha (condT' hb (condT' ha (condT' hb (condT' ha (condT' hb (condT' (cap6q (a := q) (by omega)) ?_))))))))))
    rw [ht, hn, hz, i64n (q + 1) (by omega)]
    exact ⟨rfl, rfl, ⟨fun _ _ => rfl, trivial, rfl, ((isL_snoc rfl rfl rfl rfl (fun r hr => by show cond _ _ _ = _; rw [decide_eq_true hr]; rfl) (by show cond _ _ _ = _; rw [decide_eq_false (Nat.lt_irrefl _), Nat.sub_self]; rfl)) : IsL _ (pkR R) (q + 1 + 1)).ids, trivial⟩, rfl, grow19 (x := 3) rfl rfl rfl rfl (isL_snoc rfl rfl rfl rfl (fun r hr => by show cond _ _ _ = _; rw [decide_eq_true hr]; rfl) (by show cond _ _ _ = _; rw [decide_eq_false (Nat.lt_irrefl _), Nat.sub_self]; rfl)) (by decide)⟩
theorem loop19 (n : Nat) (R : Nat → Rw) (q : Nat) (hq : q + 1 = min n 60) {K : KC} (hK : K (.exit 0) (tplF 51 L19 (v19 n (.slice 1 0 6 (q + 1)) (nmR R (q + 1)) .top)) (H19 n R (q + 1))) : CodeOK Try.prog 1 (.loop c19_4) (F19 n R 0) (H19 n R 0) K := by
  refine CodeOK.count (n := q + 1) (F := fun i => F19 n R i) (H := fun i => H19 n R i) (fun i hi => round19 n R i (by omega) (by omega)) ?_ hK
  have hW : Weak 1 (tplF 51 L19 (v19 n (.slice 1 0 6 (q + 1)) (nmR R (q + 1)) (ni (q + 1)))) ((h19 n R ++ [lO (q + 1) (pkR R)]).map mkB) (tplF 51 L19 (v19 n (.slice 1 0 6 (q + 1)) (nmR R (q + 1)) .top)) (H19 n R (q + 1)) :=
    tpl_weak (B := h19 n R ++ [lO (q + 1) (pkR R)]) (R := []) ⟨.inr rfl, .inr rfl, .inr rfl, .inl rfl, trivial⟩ rfl ⟨fun _ _ => rfl, fun _ _ => rfl, trivial⟩ (show 1 ≤ 2 by decide)
  refine (CodeOK.lookN (C := C16) ec gs16 mixed (u := 64) (len := 51) (L := L19) (M := M19s) (show 1 ≤ 4 by decide) (Q := fun x vals B => x = .exit 0 ∧ Weak 1 (tplF 51 L19 vals) (B.map mkB) (tplF 51 L19 (v19 n (.slice 1 0 6 (q + 1)) (nmR R (q + 1)) .top)) (H19 n R (q + 1))) ?_).st fun x vals B h => h
  show evalC C16 64 1 c19_4 (tplF 51 L19 (v19 n (.slice 1 0 6 (q + 1)) (nmR R (q + 1)) (.int .i64 (q + 1 : Nat)))) ((h19 n R ++ [lO (q + 1) (pkR R)]).map mkB) (obsN L19 M19s _)
  rw [p19cs n R (nmR R (q + 1)) (q + 1) q (pkR R)]
  have fin : ∀ B, B = h19 n R ++ [lO (q + 1) (pkR R)] ++ [.raw none, .raw none] → Weak 1 (tplF 51 L19 (v19 n (.slice 1 0 6 (q + 1)) (nmR R (q + 1)) (ni (q + 1)))) (B.map mkB) (tplF 51 L19 (v19 n (.slice 1 0 6 (q + 1)) (nmR R (q + 1)) .top)) (H19 n R (q + 1)) := fun B hB => by
    subst hB
    exact tpl_weak (B := h19 n R ++ [lO (q + 1) (pkR R)]) (R := [.raw none, .raw none]) ⟨.inr rfl, .inr rfl, .inr rfl, .inl rfl, trivial⟩ rfl ⟨fun _ _ => rfl, fun _ _ => rfl, trivial⟩ (show 1 ≤ 2 by decide)
  by_cases h : q + 1 < n
  · refine condT' (cb (by omega)) (condF' (cf (by omega)) ?_)
    exact ⟨rfl, rfl, ⟨fun _ _ => rfl, fun _ _ => rfl, trivial, trivial, trivial⟩, rfl, fin _ rfl⟩
  · refine condF' (cf (by omega)) ?_
    exact ⟨rfl, rfl, ⟨fun _ _ => rfl, fun _ _ => rfl, trivial, trivial, trivial⟩, rfl, fin _ rfl⟩
theorem canon19 (n : Nat) (R : Nat → Rw) (q : Nat) (hq : q + 1 = min n 60) : Canon Try.prog 19 [.slice 0 0 3 n] [some (bR n R)] fun v hp => (fun v o => v = .slice 1 0 6 (q + 1) ∧ ∃ A, o = some A ∧ IsL A (pkR R) (q + 1)) v (hget hp 1) := by
  refine CodeOK.body Try.func19 (by kernel_rfl) ?_
  rw [code19]
  refine CodeOK.frontN (C := C16) ec gs16 mixed (u := 0) (len := 51) (L := L19) (M := [false]) [c19_0, c19_1, c19_2] (show 1 ≤ 1 by decide) (Q := atS .normal (v19 n .nilSlice (-1) .top) (h19 n R)) ?_ ?_
  · show evalC C16 0 1 (.seq c19_0 (.seq c19_1 (.seq c19_2 .skip))) (enterS 51 _) _ (obsN L19 [false] _)
    rw [p19a]
    exact ⟨rfl, rfl, ⟨fun _ _ => rfl, trivial⟩, rfl, rfl, rfl⟩
  rintro e vals B ⟨rfl, rfl, rfl⟩
  refine CodeOK.seq (CodeOK.seq (CodeOK.at (C := C16) ec gs16 mixed (u := 0) (len := 51) (L := L19) (M := [false]) (vals := v19 n .nilSlice (-1) (ni 0)) (B := h19 n R) (show 1 ≤ 1 by decide) .normal ?_ (CodeOK.block ?_)))
  · show evalC C16 0 1 c19_3 (tplF 51 L19 (v19 n .nilSlice (-1) .top)) ((h19 n R).map mkB) _
    rw [p19b]
    exact ⟨rfl, rfl, ⟨fun _ _ => rfl, trivial⟩, rfl, rfl, rfl⟩
  refine loop19 n R q hq ?_
  refine CodeOK.eval (C := C16) ec gs16 mixed 0 ?_
  show evalC C16 0 1 c19_5 (tplF 51 L19 (v19 n (.slice 1 0 6 (q + 1)) (nmR R (q + 1)) .top)) ((h19 n R ++ [lO (q + 1) (pkR R)]).map mkB) (endK Try.prog Try.f19.results.toList fun v hp => (fun v o => v = .slice 1 0 6 (q + 1) ∧ ∃ A, o = some A ∧ IsL A (pkR R) (q + 1)) v (hget hp 1))
  rw [p19ds n R (nmR R (q + 1)) q (pkR R) (fun v o => v = .slice 1 0 6 (q + 1) ∧ ∃ A, o = some A ∧ IsL A (pkR R) (q + 1))]
  exact ⟨rfl, _, rfl, rfl, rfl, rfl, rfl, fun r _ => rfl⟩
def rowR (l : List SV) : Rw := match l with
  | [.int _ s, .int _ t, .int _ z] => ⟨s, t, z⟩
  | _ => ⟨0, 0, 0⟩
structure IsRs (b : Blk) (n : Nat) : Prop where
  sz : b.sz = 3
  le : n ≤ b.n
  rd : ∀ r, r < n → ∃ p : Rw, b.rd r = rwC p
theorem IsRs.wb {b : Blk} {n : Nat} (h : IsRs b n) (ρ : Ren) : WB ρ (bR n (fun r => rowR (b.rd r))) b :=
  WB.of_rows h.sz.symm h.le (fun q => nomatch (show (false : Bool) = true from q)) (fun q => nomatch (show (false : Bool) = true from q)) fun r hr => by
    obtain ⟨p, e⟩ := h.rd r hr
    refine ⟨?_, rfl⟩
    show rwC (rowR (b.rd r)) = b.rd r
    rw [e]
    rfl
/-- Packets out of rows. -/
def s19 : Spec := fun args h base k => match args with
  | [.nilSlice] => k .nilSlice [] []
  | [.eslice] => k .nilSlice [] []
  | [.slice id 0 3 n] => match h id with
    | some b => IsRs b n ∧ (0 < n ∧ ∀ q : Nat, q + 1 = min n 60 → k (.slice base 0 6 (q + 1)) [] [bPw (q + 1) (pkR fun r => rowR (b.rd r))])
    | none => False
  | _ => False
theorem ok19 : SpecOK Try.prog 19 s19 := by
  intro args h base k hk
  unfold s19 at hk
  have hc := cal (f := 19) Try.func19 (by kernel_rfl) (by kernel_rfl)
  split at hk
  · refine ⟨_, [], [], hk, plainOK gs16 Try.func19 (by kernel_rfl) (by kernel_rfl) ?_ rfl rfl h base⟩
    show evalF C16 64 Try.f19 _ [] _
    rw [t19n (fun v => v = _)]
  · refine ⟨_, [], [], hk, plainOK gs16 Try.func19 (by kernel_rfl) (by kernel_rfl) ?_ rfl rfl h base⟩
    show evalF C16 64 Try.f19 _ [] _
    rw [t19e (fun v => v = _)]
  · rename_i id n
    split at hk
    · rename_i b hb
      obtain ⟨hP, hn, hk⟩ := hk
      obtain ⟨q, hq⟩ : ∃ q, q + 1 = min n 60 := ⟨min n 60 - 1, by omega⟩
      refine ⟨_, _, _, hk q hq, find1 (ψ := [id]) (hp1 := [some (bR n fun r => rowR (b.rd r))]) (args1 := [.slice 0 0 3 n]) (x := 1) (V1 := .slice 1 0 6 (q + 1)) hc rfl inj1 rfl (fun i b1 e => ?_) (Nat.le_refl _) (by simp only [ren, back_one]) (canon19 n _ q hq)⟩
      match i, e with
      | 0, e =>
        obtain rfl := Option.some.inj (show some (bR n fun r => rowR (b.rd r)) = some b1 from e)
        exact ⟨rfl, id, b, rfl, hb, hP.wb _⟩
      | i + 1, e => exact nomatch (show (none : Option Blk) = some b1 from e)
    · cases hk
  · cases hk
def G17 : Gam := addGam G16 19 s19
noncomputable def C17 : Ctx := ⟨Try.prog, G17, fun t => memN t eqs⟩
theorem gs17 : GSound C17 := gs16.add ok19
end
end Go.Proofs.Ytcjfmkkfcbelpaa
