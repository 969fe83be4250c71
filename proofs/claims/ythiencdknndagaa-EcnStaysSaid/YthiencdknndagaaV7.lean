/-
  EcnKnown: its three loops, by rules.
-/
import Derived.Test.YthiencdknndagaaT7
import Derived.Test.YthiencdknndagaaV6
import Derived.Test.YthiencdknndagaaE16
namespace Go.Proofs.Ythiencdknndagaa
open Go.RowKit

theorem topW_append {m : Nat} : ∀ {l r : List SV}, ltAll m (svIdsL l) = true → TopW m (l ++ List.replicate r.length .top) (l ++ r)
  | [], [], _ => trivial
  | [], _ :: r, _ => ⟨.inl rfl, topW_append (l := []) (r := r) rfl⟩
  | s :: l, r, h => by
    simp only [svIdsL, ltAll_append, Bool.and_eq_true] at h
    exact ⟨.inr ⟨h.1, rfl⟩, topW_append h.2⟩
def rows7 (e : Nat → Int) : List (List SV) := (List.range 9).map fun r => [.int .i64 (e r)]
theorem weak7 {fr : List SV} {hp : LHeap} {l : List SV} {e : Nat → Int} (h1 : fr.length = 75) (h2 : fr.take l.length = l) (hl : ltAll 1 (svIdsL l) = true) (h3 : (hp.take 1).map rowsB = [(1, 9, true, 3, rows7 e)]) :
    Weak 0 fr hp (l ++ List.replicate (75 - l.length) .top) (hp7 e) := by
  match hp, h3 with
  | [], h3 => simp at h3
  | none :: _, h3 => simp [rowsB] at h3
  | some b :: rest, h3 =>
    simp only [List.take_succ_cons, List.take_zero, List.map_cons, List.map_nil, rowsB, List.cons.injEq, Prod.mk.injEq, and_true] at h3
    obtain ⟨b1, b2, b3, b4, b5⟩ := h3
    have hf : TopW 1 (l ++ List.replicate (75 - l.length) .top) fr := by
      have e1 : fr = l ++ fr.drop l.length := by
        have := List.take_append_drop l.length fr
        rw [h2] at this
        exact this.symm
      have e2 : (fr.drop l.length).length = 75 - l.length := by simp [h1]
      have e3 := topW_append (m := 1) (r := fr.drop l.length) hl
      rw [e2, ← e1] at e3
      exact e3
    refine ⟨List.range 1, rfl, Nat.zero_le _, fun i hi => by omega, hf.wl, fun id b0 hb => ?_, fun i j x hi hj _ _ => by simp [hp7] at hi hj; omega⟩
    cases id with
    | succ id => simp [hp7, hget] at hb
    | zero =>
      simp [hp7, hget] at hb
      subst hb
      refine ⟨0, b, rfl, rfl, ⟨b1.symm, by rw [b2]; exact Nat.le_refl _, fun _ => b3, fun _ => b4.symm, fun r hr => ?_⟩⟩
      have hr : r < 9 := hr
      have : b.rd r = [.int .i64 (e r)] := by
        have h := congrArg (fun L => L[r]?) b5
        simp [rows7, b2, hr] at h
        exact h
      rw [this]
      exact ⟨.inr rfl, trivial⟩
def Kat (x0 : Ex) (l : List SV) (e : Nat → Int) : KT := fun x n l' _ rows => x = x0 ∧ n = 75 ∧ l' = l ∧ rows = [(1, 9, true, 3, rows7 e)]
def At (x0 : Ex) (fr0 : List SV) (hp0 : LHeap) : KC := fun x fr hp => x = x0 ∧ fr = fr0 ∧ hp = hp0
theorem step7 {c : Code} {fr : List SV} {hp : LHeap} {x0 : Ex} {l : List SV} {e : Nat → Int} {n : Nat} (h : evalC C7 0 0 c fr hp (keepK (Kat x0 l e) n 1)) (hn : l.length = n) (hl : ltAll 1 (svIdsL l) = true) {fr0 : List SV} (hf : l ++ List.replicate (75 - l.length) .top = fr0) :
    CodeOK Try.prog 0 c fr hp (At x0 fr0 (hp7 e)) :=
  (CodeOK.eval (C := C7) ec gs7 mixed 0 h).monoW fun x fr1 hp1 h => by
    subst hn
    obtain ⟨h1, h2, h3, h4⟩ := h
    exact ⟨_, _, weak7 h2 h3 hl h4, h1, hf, rfl⟩
theorem CodeOK.to {P : Program} {m0 : Nat} {c : Code} {fr : List SV} {hp : LHeap} {x0 : Ex} {fr0 : List SV} {hp0 : LHeap} {K : KC} (h : CodeOK P m0 c fr hp (At x0 fr0 hp0)) (hK : K x0 fr0 hp0) : CodeOK P m0 c fr hp K :=
  h.mono fun x fr hp h => by obtain ⟨rfl, rfl, rfl⟩ := h; exact hK

theorem hp7_ids {e : Nat → Int} : ∀ id b, hget (hp7 e) id = some b → ∀ r, r < b.n → ltAll 1 (svIdsL (b.rd r)) = true := by
  intro id b hb r _
  cases id with
  | succ id => simp [hp7, hget] at hb
  | zero => simp [hp7, hget] at hb; subst hb; rfl
theorem jloop (e : Nat → Int) (i k : Nat) (hi : i < 9) (hk : k < 9) : CodeOK Try.prog 0 (.loop c7_7) (fJ i k 0) (hp7 e) (At (.exit 4) (fJ i k 3) (hp7 e)) := by
  have e1 : (decide ((0 : Int) ≤ (↑i : Int)) && decide ((↑i : Int) < (9 : Int))) = true := by simp; omega
  have e2 : (decide ((0 : Nat) + (↑i : Int).toNat < (9 : Nat)) && true) = true := by simp; omega
  have e3 : (decide ((0 : Int) ≤ (↑k : Int)) && decide ((↑k : Int) < (9 : Int))) = true := by simp; omega
  have e4 : (decide ((0 : Nat) + (↑k : Int).toNat < (9 : Nat)) && true) = true := by simp; omega
  refine CodeOK.loop (fun m fr hp => ((m = 3 ∧ fr = fJ i k 0) ∨ (m = 2 ∧ fr = fJ i k 1) ∨ (m = 1 ∧ fr = fJ i k 2) ∨ (m = 0 ∧ fr = fJ i k 3)) ∧ hp = hp7 e) ?_ (n := 3) ⟨.inl ⟨rfl, rfl⟩, rfl⟩
  have hw : ∀ j : Int, Weak 0 (fJ i k j) (hp7 e) (fJ i k j) (hp7 e) := fun j => Weak.keep (m := 1) rfl (Nat.zero_le _) (Nat.le_refl _) (by simp [fJ, fr7, TopW, svIds, ltAll, List.replicate]) hp7_ids
  rintro m fr hp ⟨h, rfl⟩
  rcases h with ⟨rfl, rfl⟩ | ⟨rfl, rfl⟩ | ⟨rfl, rfl⟩ | ⟨rfl, rfl⟩
  · have h : CodeOK Try.prog 0 c7_7 (fJ i k 0) (hp7 e) (At .normal (fJ i k 1) (hp7 e)) := step7 (n := 5) (l := [.bool false, .slice 0 0 1 9, .int .i64 i, .int .i64 k, .int .i64 1]) (by
      rw [p7_7a, e1, e2, e3, e4]
      exact ⟨rfl, rfl, rfl, rfl⟩) rfl rfl (by simp [fJ, fr7])
    exact h.to ⟨2, fJ i k 1, hp7 e, by omega, hw _, .inr (.inl ⟨rfl, rfl⟩), rfl⟩
  · have h : CodeOK Try.prog 0 c7_7 (fJ i k 1) (hp7 e) (At .normal (fJ i k 2) (hp7 e)) := step7 (n := 5) (l := [.bool false, .slice 0 0 1 9, .int .i64 i, .int .i64 k, .int .i64 2]) (by
      rw [p7_7b, e1, e2, e3, e4]
      exact ⟨rfl, rfl, rfl, rfl⟩) rfl rfl (by simp [fJ, fr7])
    exact h.to ⟨1, fJ i k 2, hp7 e, by omega, hw _, .inr (.inr (.inl ⟨rfl, rfl⟩)), rfl⟩
  · have h : CodeOK Try.prog 0 c7_7 (fJ i k 2) (hp7 e) (At .normal (fJ i k 3) (hp7 e)) := step7 (n := 5) (l := [.bool false, .slice 0 0 1 9, .int .i64 i, .int .i64 k, .int .i64 3]) (by
      rw [p7_7c, e1, e2, e3, e4]
      exact ⟨rfl, rfl, rfl, rfl⟩) rfl rfl (by simp [fJ, fr7])
    exact h.to ⟨0, fJ i k 3, hp7 e, by omega, hw _, .inr (.inr (.inr ⟨rfl, rfl⟩)), rfl⟩
  · have h : CodeOK Try.prog 0 c7_7 (fJ i k 3) (hp7 e) (At (.exit 4) (fJ i k 3) (hp7 e)) := step7 (n := 5) (l := [.bool false, .slice 0 0 1 9, .int .i64 i, .int .i64 k, .int .i64 3]) (by
      rw [p7_7d]
      exact ⟨rfl, rfl, rfl, rfl⟩) rfl rfl (by simp [fJ, fr7])
    exact h.to ⟨rfl, rfl, rfl⟩

theorem kloop (e : Nat → Int) (i : Nat) (hi : i < 9) : CodeOK Try.prog 0 (.loop (.seq c7_5 (.seq (.block 3 (.seq c7_6 (.block 4 (.loop c7_7)))) c7_8))) (fK i 0) (hp7 e) (At (.exit 2) (fI i) (hp7 e)) := by
  refine CodeOK.loop (fun m fr hp => ∃ k : Nat, k + m = 9 ∧ fr = fK i k ∧ hp = hp7 e) ?_ (n := 9) ⟨0, rfl, rfl, rfl⟩
  rintro m fr hp ⟨k, hk, rfl, rfl⟩
  refine CodeOK.seq ?_
  by_cases hlt : k < 9
  · have h5 : CodeOK Try.prog 0 c7_5 (fK i k) (hp7 e) (At .normal (fK i k) (hp7 e)) := step7 (n := 4) (l := [.bool false, .slice 0 0 1 9, .int .i64 i, .int .i64 k]) (by
      rw [p7_5, show decide ((k : Int) < 9) = true by simp; omega]
      exact ⟨rfl, rfl, rfl, rfl⟩) rfl rfl (by simp [fK, fr7])
    refine h5.to ?_
    refine CodeOK.seq (CodeOK.block (CodeOK.seq ?_))
    have h6 : CodeOK Try.prog 0 c7_6 (fK i k) (hp7 e) (At .normal (fJ i k 0) (hp7 e)) := step7 (n := 5) (l := [.bool false, .slice 0 0 1 9, .int .i64 i, .int .i64 k, .int .i64 0]) (by
      rw [p7_6]
      exact ⟨rfl, rfl, rfl, rfl⟩) rfl rfl (by simp [fJ, fr7])
    refine h6.to ?_
    refine CodeOK.block ((jloop e i k hi hlt).to ?_)
    show CodeOK Try.prog 0 c7_8 (fJ i k 3) (hp7 e) _
    refine CodeOK.pre (fr1 := fK i k) (hp1 := hp7 e) (Weak.keep (m := 1) rfl (Nat.zero_le _) (Nat.le_refl _) (by simp [fJ, fK, fr7, TopW, svIds, ltAll, List.replicate]) hp7_ids) ?_
    have h8 : CodeOK Try.prog 0 c7_8 (fK i k) (hp7 e) (At .normal (fK i (k + 1)) (hp7 e)) := step7 (n := 4) (l := [.bool false, .slice 0 0 1 9, .int .i64 i, .int .i64 ((k + 1 : Nat) : Int)]) (by
      rw [p7_8, i64_nat k (by omega)]
      exact ⟨rfl, rfl, rfl, rfl⟩) rfl rfl (by simp [fK, fr7])
    exact h8.to ⟨m - 1, fK i (k + 1), hp7 e, by omega, Weak.keep (m := 1) rfl (Nat.zero_le _) (Nat.le_refl _) (by simp [fK, fr7, TopW, svIds, ltAll, List.replicate]) hp7_ids, ⟨k + 1, by omega, rfl, rfl⟩⟩
  · have h5 : CodeOK Try.prog 0 c7_5 (fK i k) (hp7 e) (At (.exit 2) (fI i) (hp7 e)) := by
      refine CodeOK.monoW (step7 (n := 4) (l := [.bool false, .slice 0 0 1 9, .int .i64 i, .int .i64 k]) (fr0 := fK i k) (e := e) (x0 := .exit 2) (by
        rw [p7_5, show decide ((k : Int) < 9) = false by simp; omega]
        exact ⟨rfl, rfl, rfl, rfl⟩) rfl rfl (by simp [fK, fr7])) ?_
      rintro x fr hp ⟨rfl, rfl, rfl⟩
      exact ⟨fI i, hp7 e, Weak.keep (m := 1) rfl (Nat.zero_le _) (Nat.le_refl _) (by simp [fI, fK, fr7, TopW, svIds, ltAll, List.replicate]) hp7_ids, rfl, rfl, rfl⟩
    exact h5.to ⟨rfl, rfl, rfl⟩
theorem iloop (e : Nat → Int) : CodeOK Try.prog 0 (.loop (.seq c7_3 (.seq (.block 1 (.seq c7_4 (.block 2 (.loop (.seq c7_5 (.seq (.block 3 (.seq c7_6 (.block 4 (.loop c7_7)))) c7_8)))))) c7_9))) (fI 0) (hp7 e) (At (.exit 0) (fr7 []) (hp7 e)) := by
  refine CodeOK.loop (fun m fr hp => ∃ i : Nat, i + m = 9 ∧ fr = fI i ∧ hp = hp7 e) ?_ (n := 9) ⟨0, rfl, rfl, rfl⟩
  rintro m fr hp ⟨i, hi, rfl, rfl⟩
  refine CodeOK.seq ?_
  by_cases hlt : i < 9
  · have h3 : CodeOK Try.prog 0 c7_3 (fI i) (hp7 e) (At .normal (fI i) (hp7 e)) := step7 (n := 3) (l := [.bool false, .slice 0 0 1 9, .int .i64 i]) (by
      rw [p7_3, show decide ((i : Int) < 9) = true by simp; omega]
      exact ⟨rfl, rfl, rfl, rfl⟩) rfl rfl (by simp [fI, fr7])
    refine h3.to ?_
    refine CodeOK.seq (CodeOK.block (CodeOK.seq ?_))
    have h4 : CodeOK Try.prog 0 c7_4 (fI i) (hp7 e) (At .normal (fK i 0) (hp7 e)) := step7 (n := 4) (l := [.bool false, .slice 0 0 1 9, .int .i64 i, .int .i64 0]) (by
      rw [p7_4]
      exact ⟨rfl, rfl, rfl, rfl⟩) rfl rfl (by simp [fK, fr7])
    refine h4.to ?_
    refine CodeOK.block ((kloop e i hlt).to ?_)
    show CodeOK Try.prog 0 c7_9 (fI i) (hp7 e) _
    have h9 : CodeOK Try.prog 0 c7_9 (fI i) (hp7 e) (At .normal (fI (i + 1)) (hp7 e)) := step7 (n := 3) (l := [.bool false, .slice 0 0 1 9, .int .i64 ((i + 1 : Nat) : Int)]) (by
      rw [p7_9, i64_nat i (by omega)]
      exact ⟨rfl, rfl, rfl, rfl⟩) rfl rfl (by simp [fI, fr7])
    exact h9.to ⟨m - 1, fI (i + 1), hp7 e, by omega, Weak.keep (m := 1) rfl (Nat.zero_le _) (Nat.le_refl _) (by simp [fI, fr7, TopW, svIds, ltAll, List.replicate]) hp7_ids, ⟨i + 1, by omega, rfl, rfl⟩⟩
  · have h3 : CodeOK Try.prog 0 c7_3 (fI i) (hp7 e) (At (.exit 0) (fr7 []) (hp7 e)) := by
      refine CodeOK.monoW (step7 (n := 3) (l := [.bool false, .slice 0 0 1 9, .int .i64 i]) (fr0 := fI i) (e := e) (x0 := .exit 0) (by
        rw [p7_3, show decide ((i : Int) < 9) = false by simp; omega]
        exact ⟨rfl, rfl, rfl, rfl⟩) rfl rfl (by simp [fI, fr7])) ?_
      rintro x fr hp ⟨rfl, rfl, rfl⟩
      exact ⟨fr7 [], hp7 e, Weak.keep (m := 1) rfl (Nat.zero_le _) (Nat.le_refl _) (by simp [fI, fr7, TopW, svIds, ltAll, List.replicate]) hp7_ids, rfl, rfl, rfl⟩
    exact h3.to ⟨rfl, rfl, rfl⟩
def ends7 : Nat → Int
  | 0 => -9223372036854775808
  | 1 => -1
  | 2 => 0
  | 3 => 1
  | 4 => 2
  | 5 => 9007199254740990
  | 6 => 9007199254740991
  | 7 => 9007199254740992
  | _ => 9223372036854775807
theorem p7_0 (K : KC) : evalC C7 0 0 c7_0 (enterS 75 []) [] K = K .normal (.bool false :: List.replicate 74 .top) [] := by kernel_rfl
theorem endStep {c : Code} {fr : List SV} {hp : LHeap} (h : evalC C7 0 0 c fr hp (keepK (fun x _ l _ _ => x = .ret ∧ l = [.bool true]) 1 0)) : CodeOK Try.prog 0 c fr hp (endK Try.prog [.tmp 0] fun v _ => v = .bool true) :=
  (CodeOK.eval (C := C7) ec gs7 mixed 0 h).mono fun x fr hp h => by
    obtain ⟨rfl, h⟩ := h
    match fr, h with
    | t :: fr, h =>
      simp only [List.take_succ_cons, List.take_zero, List.cons.injEq, and_true] at h
      subst h
      rfl
theorem canon7 : Canon Try.prog 7 [] [] fun v _ => v = .bool true := by
  refine CodeOK.body Try.func7 (by kernel_rfl) ?_
  rw [code7]
  refine CodeOK.seq (CodeOK.eval (C := C7) ec gs7 mixed 0 ((p7_0 _).mpr ?_))
  show CodeOK Try.prog 0 _ (.bool false :: List.replicate 74 .top) [] _
  have h1 : CodeOK Try.prog 0 c7_1 (.bool false :: List.replicate 74 .top) [] (At .normal (fr7 []) (hp7 ends7)) := step7 (n := 2) (l := [.bool false, .slice 0 0 1 9]) (by
    rw [p7_1]
    exact ⟨rfl, rfl, rfl, rfl⟩) rfl rfl (by simp [fr7])
  refine CodeOK.seq (h1.to ?_)
  show CodeOK Try.prog 0 _ (fr7 []) (hp7 ends7) _
  refine CodeOK.seq (CodeOK.seq ?_)
  have h2 : CodeOK Try.prog 0 c7_2 (fr7 []) (hp7 ends7) (At .normal (fI 0) (hp7 ends7)) := step7 (n := 3) (l := [.bool false, .slice 0 0 1 9, .int .i64 0]) (by
    rw [p7_2]
    exact ⟨rfl, rfl, rfl, rfl⟩) rfl rfl (by simp [fI, fr7])
  refine h2.to ?_
  refine CodeOK.block ((iloop ends7).to ?_)
  show CodeOK Try.prog 0 c7_10 (fr7 []) (hp7 ends7) _
  exact endStep (by
    rw [p7_10]
    exact ⟨rfl, rfl⟩)
theorem known_any (w : World) : Calls Try.prog 7 #[] w fun e w' => e = .returned (.bool true) ∧ Below w.heap.size w w' :=
  lawOf canon7 (vs := []) RL.nil w
end Go.Proofs.Ythiencdknndagaa
