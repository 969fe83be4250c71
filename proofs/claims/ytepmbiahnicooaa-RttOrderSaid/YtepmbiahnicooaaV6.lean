/-
  Chapter 7 by the engine: samples brought to be ones.
-/
import Derived.Test.YtepmbiahnicooaaV4
namespace Go.Proofs.Ytepmbiahnicooaa
open Go.RowKit

def brG (g : Nat → Nat → Int) (t : Bool) (r j : Nat) : Int := if j = 1 then (if t then g r 1 % 9007199254740992 else 0) else g r j % 9007199254740992
theorem brG_ok (g : Nat → Nat → Int) (t : Bool) (r j : Nat) : Tp (brG g t r j) := by
  have h1 := Int.emod_nonneg (g r j) (show (9007199254740992 : Int) ≠ 0 by omega)
  have h2 := Int.emod_lt_of_pos (g r j) (show (0 : Int) < 9007199254740992 by omega)
  have h3 := Int.emod_nonneg (g r 1) (show (9007199254740992 : Int) ≠ 0 by omega)
  have h4 := Int.emod_lt_of_pos (g r 1) (show (0 : Int) < 9007199254740992 by omega)
  unfold brG
  split
  · split <;> exact ⟨by omega, by omega⟩
  · exact ⟨by omega, by omega⟩
abbrev fN (n : Nat) (t : Bool) (i : SV) : List SV := tplF 51 L20 (v20 n t .nilSlice i)
abbrev hN (n : Nat) (g : Nat → Nat → Int) : LHeap := [some (bT n g)]
abbrev fS (n : Nat) (t : Bool) (N : Nat) (i : SV) : List SV := tplF 51 L20 (v20 n t (.slice 1 0 3 N) i)
abbrev hS (n : Nat) (g : Nat → Nat → Int) (N : Nat) (q : Nat → Nat → Int) : LHeap := [some (bT n g), some (bW N q)]
/-- What stands behind so many rounds. -/
def I20 (n : Nat) (g : Nat → Nat → Int) (t : Bool) (i : Nat) (fr : List SV) (hp : LHeap) : Prop :=
  (i = 0 ∧ fr = fN n t (.int .i64 (0 : Nat)) ∧ hp = hN n g) ∨ (0 < i ∧ fr = fS n t i (.int .i64 i) ∧ hp = hS n g i (brG g t))
theorem bT_wb {n : Nat} {g : Nat → Nat → Int} (ρ : Ren) : WB ρ (bT n g) (bT n g) := WB.of_rows rfl (Nat.le_refl _) (fun h => h) (fun _ => rfl) fun _ _ => ⟨rfl, rfl⟩
/-- A list that has grown by a row is said anew. -/
theorem grown {n : Nat} {g : Nat → Nat → Int} {t : Bool} {k N : Nat} {q : Nat → Nat → Int} {i : SV} {hp : LHeap} {b : Blk} (hk : k ≠ 0) (hi : svIds i = []) (h0 : hget hp 0 = some (bT n g)) (hb : hget hp k = some b) (hs : b.sz = 3) (hn : b.n = N) (hrw : b.rw = true) (ht : b.ty = 32)
    (hr : ∀ r, r < N → b.rd r = [.int .i64 (q r 0), .int .i64 (q r 1), .int .i64 (q r 2)]) : Weak 1 (tplF 51 L20 (v20 n t (.slice k 0 3 N) i)) hp (fS n t N i) (hS n g N q) := by
  refine ren_weak (m0 := 1) [0, k] rfl (Nat.le_add_left 1 1) (fun j hj => by
    obtain rfl : j = 0 := by omega
    rfl) ⟨.inr rfl, .inr rfl, .inr rfl, .inr (ren_id_of hi _), trivial⟩ (fun id b1 hb1 => ?_) (inj2 (Ne.symm hk))
  match id, hb1 with
  | 0, hb1 =>
    obtain rfl : bT n g = b1 := by simpa [hget] using hb1
    exact ⟨0, _, rfl, h0, bT_wb _⟩
  | 1, hb1 =>
    obtain rfl : bW N q = b1 := by simpa [hget] using hb1
    exact ⟨k, b, rfl, hb, WB.of_rows hs.symm (by rw [hn]; exact Nat.le_refl _) (fun _ => hrw) (fun _ => ht.symm) fun r hr' => ⟨(hr r hr').symm, rfl⟩⟩
  | id + 2, hb1 => simp [hget] at hb1
theorem idsT (m n : Nat) (g : Nat → Nat → Int) : idsOkB m (.raw (some (bT n g))) := fun _ _ => rfl
set_option maxRecDepth 100000 in
theorem roundN (n : Nat) (g : Nat → Nat → Int) (t : Bool) (hn : 0 < n) (K : KC) (hK : ∀ fr hp, (∃ fr1 hp1, Weak 1 fr hp fr1 hp1 ∧ I20 n g t 1 fr1 hp1) → K .normal fr hp) : CodeOK Try.prog 1 c20_3 (fN n t (.int .i64 (0 : Nat))) (hN n g) K := by
  refine (CodeOK.lookN (C := C5) ec gs5 mixed (u := 0) (len := 51) (L := L20) (M := [false, true, true, true]) (Nat.le_add_left 1 3)
    (Q := fun x vals B => x = .normal ∧ ∃ B1 B2, vals = v20 n t (.slice 3 0 3 1) (.int .i64 ((1 : Nat) : Int)) ∧ B = [.raw (some (bT n g)), B1, B2, .rows 3 1 true 32 [[.int .i64 (brG g t 0 0), .int .i64 (brG g t 0 1), .int .i64 (brG g t 0 2)]]]) ?_).st ?_
  · rw [p20rn, cb (show ((0 : Nat) : Int) < n by omega), cb (show ((0 : Nat) : Int) < 60 by omega)]
    simp only [cond_true, show (0 : Nat) + ((0 : Nat) : Int).toNat = 0 from rfl, cb hn, i64n 0 (by omega)]
    rintro r ⟨-, -, rfl⟩ r1 ⟨-, -, rfl⟩
    cases t with
    | true =>
      rw [cond_true]
      rintro r2 ⟨-, -, rfl⟩
      exact ⟨rfl, rfl, ⟨idsT _ _ _, rfl, rfl, rfl, trivial⟩, rfl, _, _, rfl, rfl⟩
    | false =>
      exact ⟨rfl, rfl, ⟨idsT _ _ _, rfl, rfl, rfl, trivial⟩, rfl, _, _, rfl, rfl⟩
  · rintro x vals B ⟨rfl, B1, B2, rfl, rfl⟩
    refine hK _ _ ⟨fS n t 1 (.int .i64 (1 : Nat)), hS n g 1 (brG g t), ?_, .inr ⟨by omega, rfl, rfl⟩⟩
    refine grown (b := ⟨3, 1, fun r => [[.int .i64 (brG g t 0 0), .int .i64 (brG g t 0 1), .int .i64 (brG g t 0 2)]].getD r [], true, 32⟩) (by omega) rfl rfl rfl rfl rfl rfl rfl fun r hr => ?_
    obtain rfl : r = 0 := by omega
    rfl
set_option maxRecDepth 100000 in
theorem roundS (n : Nat) (g : Nat → Nat → Int) (t : Bool) (N : Nat) (hN : N + 1 < n) (h60 : N + 1 < 60) (K : KC) (hK : ∀ fr hp, (∃ fr1 hp1, Weak 1 fr hp fr1 hp1 ∧ I20 n g t (N + 2) fr1 hp1) → K .normal fr hp) : CodeOK Try.prog 1 c20_3 (fS n t (N + 1) (.int .i64 (N + 1 : Nat))) (hS n g (N + 1) (brG g t)) K := by
  refine (CodeOK.lookN (C := C5) ec gs5 mixed (u := 0) (len := 51) (L := L20) (M := [false, false, true, true, false]) (Nat.le_add_left 1 4)
    (Q := fun x vals B => x = .normal ∧ ∃ B1 B2 B3 b, vals = v20 n t (.slice 4 0 3 (N + 2)) (.int .i64 ((N + 2 : Nat) : Int)) ∧ B = [.raw (some (bT n g)), B1, B2, B3, .raw (some b)] ∧ b.sz = 3 ∧ b.n = N + 2 ∧ b.rw = true ∧ b.ty = 32 ∧
      ∀ r, r < N + 2 → b.rd r = [.int .i64 (brG g t r 0), .int .i64 (brG g t r 1), .int .i64 (brG g t r 2)]) ?_).st ?_
  · rw [p20rs, cb (show ((N + 1 : Nat) : Int) < n by omega), cb (show ((N + 1 : Nat) : Int) < 60 by omega)]
    simp only [cond_true, Nat.zero_add, Int.toNat_natCast, cb hN, i64n (N + 1) (by omega), Bool.and_true, cb (show N + 1 + 1 ≤ 9223372036854775807 by omega), cb (show (N + 1 + 1) * 24 ≤ 140737488355328 by omega), Bool.and_self]
    rintro r ⟨-, -, rfl⟩ r1 ⟨-, -, rfl⟩
    cases t with
    | true =>
      rw [cond_true]
      rintro r2 ⟨-, -, rfl⟩
      refine ⟨rfl, rfl, ⟨idsT _ _ _, trivial, rfl, rfl, fun r hr => ?_, trivial⟩, rfl, _, _, _, _, rfl, rfl, rfl, rfl, rfl, rfl, fun r hr => ?_⟩
      · dsimp only
        by_cases h : r < N + 1
        · rw [cb h]; rfl
        · obtain rfl : r = N + 1 := by have hr : r < N + 1 + 1 := hr; omega
          rw [cf h, cond_false, Nat.sub_self]; rfl
      · dsimp only
        by_cases h : r < N + 1
        · rw [cb h]; rfl
        · obtain rfl : r = N + 1 := by omega
          rw [cf h, cond_false, Nat.sub_self]; rfl
    | false =>
      refine ⟨rfl, rfl, ⟨idsT _ _ _, trivial, rfl, rfl, fun r hr => ?_, trivial⟩, rfl, _, _, _, _, rfl, rfl, rfl, rfl, rfl, rfl, fun r hr => ?_⟩
      · dsimp only
        by_cases h : r < N + 1
        · rw [cb h]; rfl
        · obtain rfl : r = N + 1 := by have hr : r < N + 1 + 1 := hr; omega
          rw [cf h, cond_false, Nat.sub_self]; rfl
      · dsimp only
        by_cases h : r < N + 1
        · rw [cb h]; rfl
        · obtain rfl : r = N + 1 := by omega
          rw [cf h, cond_false, Nat.sub_self]; rfl
  · rintro x vals B ⟨rfl, B1, B2, B3, b, rfl, rfl, h1, h2, h3, h4, h5⟩
    exact hK _ _ ⟨fS n t (N + 2) (.int .i64 (N + 2 : Nat)), hS n g (N + 2) (brG g t), grown (b := b) (by omega) rfl rfl rfl h1 h2 h3 h4 h5, .inr ⟨by omega, rfl, rfl⟩⟩
abbrev no3 : List BO := [.raw none, .raw none, .raw none]
def Nm (n : Nat) : Nat := if n < 60 then n else 60
def B20 (n : Nat) (g : Nat → Nat → Int) (N : Nat) (q : Nat → Nat → Int) : List BO := [.raw (some (bT n g)), .raw (some (bW N q))]
theorem ids20 (n : Nat) (g : Nat → Nat → Int) (N : Nat) (q : Nat → Nat → Int) : allIds 2 (B20 n g N q) := ⟨fun _ _ => rfl, fun _ _ => rfl, trivial⟩
set_option maxRecDepth 100000 in
theorem exitS (n : Nat) (g : Nat → Nat → Int) (t : Bool) (N : Nat) (h : ¬ (N + 1 < n ∧ N + 1 < 60)) (K : KC) (hK : K (.exit 0) (fS n t (N + 1) (.int .i64 (N + 1 : Nat))) ((B20 n g (N + 1) (brG g t) ++ no3).map mkB)) :
    CodeOK Try.prog 1 c20_3 (fS n t (N + 1) (.int .i64 (N + 1 : Nat))) (hS n g (N + 1) (brG g t)) K := by
  refine (CodeOK.lookN (C := C5) ec gs5 mixed (u := 0) (len := 51) (L := L20) (M := [false, false, true, true, false]) (Nat.le_add_left 1 4)
    (Q := fun x vals B => x = .exit 0 ∧ vals = v20 n t (.slice 1 0 3 (N + 1)) (.int .i64 ((N + 1 : Nat) : Int)) ∧ B = B20 n g (N + 1) (brG g t) ++ no3) ?_).st ?_
  · by_cases h1 : N + 1 < n
    · rw [p20rs, cb (show ((N + 1 : Nat) : Int) < n by omega), cf (show ¬ ((N + 1 : Nat) : Int) < 60 by omega)]
      exact ⟨rfl, rfl, ⟨fun _ _ => rfl, fun _ _ => rfl, trivial, trivial, trivial, trivial⟩, rfl, rfl, rfl⟩
    · rw [p20rs, cf (show ¬ ((N + 1 : Nat) : Int) < n by omega)]
      exact ⟨rfl, rfl, ⟨fun _ _ => rfl, fun _ _ => rfl, trivial, trivial, trivial, trivial⟩, rfl, rfl, rfl⟩
  · rintro x vals B ⟨rfl, rfl, rfl⟩
    exact hK
theorem loop20 (n : Nat) (g : Nat → Nat → Int) (t : Bool) (hn : 0 < n) : CodeOK Try.prog 1 (.loop c20_3) (fN n t (.int .i64 (0 : Nat))) (hN n g) (fun x fr hp => x = .exit 0 ∧ fr = fS n t (Nm n) (.int .i64 (Nm n)) ∧ hp = hS n g (Nm n) (brG g t)) := by
  refine CodeOK.monoW (K := fun x fr hp => x = .exit 0 ∧ fr = fS n t (Nm n) (.int .i64 (Nm n)) ∧ hp = (B20 n g (Nm n) (brG g t) ++ no3).map mkB) ?_ ?_
  · refine CodeOK.loop (fun k fr hp => ∃ i : Nat, i + k = 60 ∧ i ≤ n ∧ I20 n g t i fr hp) ?_ (n := 60) ⟨0, rfl, by omega, .inl ⟨rfl, rfl, rfl⟩⟩
    rintro k fr hp ⟨i, hik, hin, ⟨rfl, rfl, rfl⟩ | ⟨h0, rfl, rfl⟩⟩
    · refine roundN n g t hn _ ?_
      rintro fr hp ⟨fr1, hp1, hw, hI⟩
      exact ⟨k - 1, fr1, hp1, by omega, hw, 1, by omega, by omega, hI⟩
    · obtain ⟨N, rfl⟩ : ∃ N, i = N + 1 := ⟨i - 1, by omega⟩
      by_cases h : N + 1 < n ∧ N + 1 < 60
      · refine roundS n g t N h.1 h.2 _ ?_
        rintro fr hp ⟨fr1, hp1, hw, hI⟩
        exact ⟨k - 1, fr1, hp1, by omega, hw, N + 2, by omega, by omega, hI⟩
      · have e : N + 1 = Nm n := by unfold Nm; split <;> omega
        refine exitS n g t N h _ ?_
        rw [e]
        exact ⟨rfl, rfl, rfl⟩
  · rintro x fr hp ⟨rfl, rfl, rfl⟩
    exact ⟨fS n t (Nm n) (.int .i64 (Nm n)), hS n g (Nm n) (brG g t), tpl_weak (B := B20 n g (Nm n) (brG g t)) ⟨.inr rfl, .inr rfl, .inr rfl, .inr rfl, trivial⟩ rfl (ids20 n g _ _) (Nat.le_add_left 1 1), rfl, rfl, rfl⟩
theorem canon20 (n : Nat) (g : Nat → Nat → Int) (t : Bool) (hn : 0 < n) : Canon Try.prog 20 [.slice 0 0 3 n, .bool t] [some (bT n g)] fun v hp => v = .slice 1 0 3 (Nm n) ∧ hget hp 1 = some (bW (Nm n) (brG g t)) := by
  obtain ⟨N, hN⟩ : ∃ N, Nm n = N + 1 := ⟨Nm n - 1, by unfold Nm; split <;> omega⟩
  refine CodeOK.body Try.func20 (by kernel_rfl) ?_
  rw [code20]
  refine CodeOK.frontN (C := C5) ec gs5 mixed (u := 0) (len := 51) (L := L20) (M := [false]) [c20_0, c20_1] (Nat.le_refl 1) (Q := fun x vals B => x = .normal ∧ vals = v20 n t .nilSlice .top ∧ B = [.raw (some (bT n g))]) ?_ ?_
  · show evalC C5 0 1 _ (enterS 51 _) _ _
    simp only [List.foldr]
    rw [p20a]
    exact ⟨rfl, rfl, ⟨fun _ _ => rfl, trivial⟩, rfl, rfl, rfl⟩
  · rintro x vals B ⟨rfl, rfl, rfl⟩
    refine CodeOK.seq (CodeOK.seq ((CodeOK.lookN (C := C5) ec gs5 mixed (u := 0) (len := 51) (L := L20) (M := [false]) (Nat.le_refl 1) (Q := fun x vals B => x = .normal ∧ vals = v20 n t .nilSlice (.int .i64 (0 : Nat)) ∧ B = [.raw (some (bT n g))]) ?_).st ?_))
    · show evalC C5 0 1 c20_2 (tplF 51 L20 (v20 n t .nilSlice .top)) [some (bT n g)] _
      rw [p20s]
      exact ⟨rfl, rfl, ⟨fun _ _ => rfl, trivial⟩, rfl, rfl, rfl⟩
    rintro x vals B ⟨rfl, rfl, rfl⟩
    refine CodeOK.block ((loop20 n g t hn).mono ?_)
    rintro x fr hp ⟨rfl, rfl, rfl⟩
    rw [hN]
    show CodeOK Try.prog 1 c20_4 (fS n t (N + 1) (.int .i64 ((N + 1 : Nat) : Int))) (hS n g (N + 1) (brG g t)) (endK Try.prog ([4].map .tmp) _)
    refine CodeOK.fin (C := C5) ec gs5 mixed (u := 0) (M := [false, false]) (k := fun v B => v = .slice 1 0 3 (N + 1) ∧ B = B20 n g (N + 1) (brG g t)) ?_ fun v hp h => ⟨h.1, obsHs_raw (M := [false, false]) (by rw [h.2]; rfl)⟩
    rw [p20es]
    exact ⟨.inl rfl, rfl, rfl⟩
theorem t20e (t : Bool) (Kt : SV → List BO → Prop) : evalF C5 64 Try.f20 [.eslice, .bool t] [] (fun v hp => Kt v (obsHs [true, true] hp)) = Kt (.slice 1 0 3 1) [.rows 3 1 true 32 [[.int .i64 5, .int .i64 0, .int .i64 1]], .rows 3 1 true 32 [[.int .i64 5, .int .i64 0, .int .i64 1]]] := by kernel_rfl
theorem okl20 : SpecOK Try.prog 20 l20 := by
  intro args h base k hk
  unfold l20 at hk
  split at hk
  · rename_i id n t
    split at hk
    · rename_i b hb
      cases hs : Nat.beq b.sz 3 with
      | false => simp [hs] at hk
      | true =>
        simp only [hs, cond_true] at hk
        obtain ⟨⟨hp, hl, hr⟩, hk⟩ := hk
        have hs := Nat.eq_of_beq_eq_true hs
        obtain ⟨g, hg⟩ : ∃ g : Nat → Nat → Int, ∀ r, r < n → b.rd r = [.int .i64 (g r 0), .int .i64 (g r 1), .int .i64 (g r 2)] := by
          refine ⟨fun r j => match (b.rd r)[j]? with | some (.int _ x) => x | _ => 0, fun r hr' => ?_⟩
          obtain ⟨x, y, z, e⟩ := hr r hr'
          simp [e]
        refine ⟨_, [], [bW (Nm n) (brG g t)], hk (Nm n) (brG g t) ⟨by unfold Nm; split <;> omega, by unfold Nm; split <;> omega, fun r j => brG_ok g t r j, fun h r => by subst h; rfl⟩, ?_⟩
        refine CSim.list (cal Try.func20 (by kernel_rfl) (by kernel_rfl)) [.slice 0 0 3 n, .bool t] [some (bT n g)] [id] rfl rfl (fun r _ => rfl) inj1 (canon20 n g t hp) rfl (fun i b1 hb1 => ?_) fun v' hp2 hk => ⟨1, _, hk.1, Nat.le_refl 1, hk.2, rfl, rfl, rfl, rfl, fun _ _ => rfl⟩
        match i, hb1 with
        | 0, hb1 =>
          obtain rfl : bT n g = b1 := by simpa [hget] using hb1
          exact ⟨rfl, id, b, rfl, hb, WB.of_rows hs.symm hl (fun h => (nomatch h)) (fun h => (nomatch h)) fun r hr => ⟨(hg r hr).symm, rfl⟩⟩
        | i + 1, hb1 => simp [hget] at hb1
    · cases hk
  · rename_i t
    refine ⟨_, [], [bW 1 (litG [(5, 0, 1)])], hk 1 (litG [(5, 0, 1)]) ⟨by omega, by omega, fun r j => ?_, fun h r => ?_⟩, ?_⟩
    · match j, r with
      | 0, 0 => exact (⟨by decide, by decide⟩ : Tp 5)
      | 1, 0 => exact (⟨by decide, by decide⟩ : Tp 0)
      | j + 2, 0 => exact (⟨by decide, by decide⟩ : Tp 1)
      | 0, r + 1 => exact (⟨by decide, by decide⟩ : Tp 0)
      | 1, r + 1 => exact (⟨by decide, by decide⟩ : Tp 0)
      | j + 2, r + 1 => exact (⟨by decide, by decide⟩ : Tp 0)
    · cases r <;> rfl
    · refine CSim.list (cal Try.func20 (by kernel_rfl) (by kernel_rfl)) [.eslice, .bool t] [] [] rfl rfl (fun r _ => rfl) (fun i j x e => by simp at e) (evalF_ok (C := C5) ec gs5 mixed (u := 64) Try.func20 (by kernel_rfl) ?_) rfl (fun i b1 hb1 => by simp [hget] at hb1) (K := fun v hp => v = .slice 1 0 3 1 ∧ obsHs [true, true] hp = [.rows 3 1 true 32 [[.int .i64 5, .int .i64 0, .int .i64 1]], .rows 3 1 true 32 [[.int .i64 5, .int .i64 0, .int .i64 1]]]) fun v' hp2 hk => ?_
      · rw [t20e t (fun v B => v = _ ∧ B = _)]
        exact ⟨rfl, rfl⟩
      · obtain ⟨b, h1, h2, h3, h4, h5, h6⟩ := obsHs_rows (M := [true, true]) (hp := hp2) (i := 1) (by rw [hk.2]; rfl)
        refine ⟨1, b, hk.1, by simp, h1, h2, h3, h4, h5, fun r hr => ?_⟩
        have hr : r < 1 := hr
        obtain rfl : r = 0 := by omega
        have h6 : [b.rd 0] = [[.int .i64 5, .int .i64 0, .int .i64 1]] := h6
        simp only [List.cons.injEq, and_true] at h6
        rw [h6]; rfl
  · cases hk
theorem gs6 : GSound C6 := (((gs5.add okl19).add okl20).add ok21).add ok23
end Go.Proofs.Ytepmbiahnicooaa
