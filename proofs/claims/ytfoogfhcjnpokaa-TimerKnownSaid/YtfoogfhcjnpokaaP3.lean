/-
  Chapter 18: what is due, of facts that are made of rows, in plain words.
-/
import Derived.Test.YtfoogfhcjnpokaaV8
import Derived.Test.YtfoogfhcjnpokaaX9
namespace Go.Proofs.Ytfoogfhcjnpokaa
open Go.RowKit
structure Bd (F : Fc) : Prop where
  a0 : -1 ≤ F.a0 ∧ F.a0 ≤ 9007199254740991
  a1 : -1 ≤ F.a1 ∧ F.a1 ≤ 9007199254740991
  a2 : -1 ≤ F.a2 ∧ F.a2 ≤ 9007199254740991
  b0 : -1 ≤ F.b0 ∧ F.b0 ≤ 9007199254740991
  b1 : -1 ≤ F.b1 ∧ F.b1 ≤ 9007199254740991
  b2 : -1 ≤ F.b2 ∧ F.b2 ≤ 9007199254740991
  n0 : 0 ≤ F.n0 ∧ F.n0 ≤ 256
  n1 : 0 ≤ F.n1 ∧ F.n1 ≤ 256
  n2 : 0 ≤ F.n2 ∧ F.n2 ≤ 256
  w : 0 ≤ F.now ∧ F.now ≤ 9007199254740991
theorem never_of {n : Int} (h : -1 ≤ n ∧ n ≤ 9007199254740991) : isOrNever n = true := by
  unfold isOrNever
  by_cases e : n = -1
  · simp [e]
  · rw [isT_true (by omega) (by omega)]; simp
theorem Bd.may {F : Fc} (h : Bd F) : mayF F = true := by
  unfold mayF okS
  rw [never_of h.a0, never_of h.a1, never_of h.a2, never_of h.b0, never_of h.b1, never_of h.b2, isT_true h.w.1 h.w.2]
  have := h.n0; have := h.n1; have := h.n2
  simp; omega
theorem lossR_range (x : Rw) : -1 ≤ lossR x ∧ lossR x < 1125899906842624 := by unfold lossR; split <;> omega
theorem lastR_range (x : Rw) : -1 ≤ lastR x ∧ lastR x < 1125899906842624 := by unfold lastR; split <;> omega
theorem manyR_range (x : Rw) : 0 ≤ manyR x ∧ manyR x ≤ 256 := by unfold manyR; split <;> omega
/-- Facts of rows: all in bounds; when the last one was sent is told just if something is under way. -/
structure Md (F : Fc) : Prop where
  a0 : -1 ≤ F.a0 ∧ F.a0 < 1125899906842624
  a1 : -1 ≤ F.a1 ∧ F.a1 < 1125899906842624
  a2 : -1 ≤ F.a2 ∧ F.a2 < 1125899906842624
  b0 : (F.b0 = -1 ∧ F.n0 = 0) ∨ (0 ≤ F.b0 ∧ F.b0 < 1125899906842624 ∧ 1 ≤ F.n0 ∧ F.n0 ≤ 256)
  b1 : (F.b1 = -1 ∧ F.n1 = 0) ∨ (0 ≤ F.b1 ∧ F.b1 < 1125899906842624 ∧ 1 ≤ F.n1 ∧ F.n1 ≤ 256)
  b2 : (F.b2 = -1 ∧ F.n2 = 0) ∨ (0 ≤ F.b2 ∧ F.b2 < 1125899906842624 ∧ 1 ≤ F.n2 ∧ F.n2 ≤ 256)
  w : 0 ≤ F.now ∧ F.now < 1125899906842624
theorem rowB (x : Rw) : (lastR x = -1 ∧ manyR x = 0) ∨ (0 ≤ lastR x ∧ lastR x < 1125899906842624 ∧ 1 ≤ manyR x ∧ manyR x ≤ 256) := by
  unfold lastR manyR
  cases bt x.b 4 with
  | false => exact .inl ⟨rfl, rfl⟩
  | true => right; simp; omega
theorem made_ok (x0 x1 x2 : Rw) (b w : Int) : Md (madeF x0 x1 x2 b w) :=
  ⟨lossR_range x0, lossR_range x1, lossR_range x2, rowB x0, rowB x1, rowB x2, by show 0 ≤ w % 1125899906842624 ∧ w % 1125899906842624 < 1125899906842624; omega⟩
theorem Md.bd {F : Fc} (h : Md F) : Bd F := by
  obtain ⟨h0, h1, h2, h3, h4, h5, h6⟩ := h
  constructor <;> omega
theorem okM_chapter : okM 100 100 2000000 300000 0 = true := by decide
theorem pickV_eq (F : Fc) (d c mo : Int) : pickV F 100 100 2000000 300000 0 d c mo = pickD F true (waitV 100 100 2000000 300000 0 d c mo) := by
  rw [pickV, okM_chapter]
theorem pickD_eq {F : Fc} (h : mayF F = true) (W : Int → Int) : pickD F true W = if lossL F = [] then (if F.lm then noneD else if probL F W = [] then bestD (lastL F W) else bestD (probL F W)) else bestD (lossL F) := by
  rw [pickD, h]
  rfl
/-! ### Later -/
theorem timeV_mono {a b : Int} (h : a ≤ b) : timeV a ≤ timeV b := by
  unfold timeV; (repeat' split) <;> omega
theorem dueV_mono {a a' w w' : Int} (h : isT a = true) (h' : isT a' = true) (ha : a ≤ a') (hw : w ≤ w') : dueV a w ≤ dueV a' w' := by
  rw [dueV, dueV, if_pos h, if_pos h']
  have := timeV_mono hw
  exact timeV_mono (by omega)
def Lt (d d' : D3) : Prop := d = d' ∨ (d.1 = 2 ∧ d'.1 = 2 ∧ d.2.2 ≤ d'.2.2)
def Rl (d d' : D3) : Prop := (d = noneD ∧ d' = noneD) ∨ (d.1 = 2 ∧ d'.1 = 2 ∧ 0 ≤ d.2.2 ∧ d.2.2 ≤ d'.2.2)
theorem Rl.lt {d d' : D3} (h : Rl d d') : Lt d d' := by
  rcases h with ⟨rfl, rfl⟩ | ⟨h1, h2, h3, h4⟩
  · exact .inl rfl
  · exact .inr ⟨h1, h2, h4⟩
theorem Rl.step {d d' x x' : D3} (h : Rl d d') (h1 : x.1 = 2) (h2 : x'.1 = 2) (h3 : 0 ≤ x.2.2) (h4 : x.2.2 ≤ x'.2.2) : Rl (stepD d x) (stepD d' x') := by
  rcases h with ⟨rfl, rfl⟩ | ⟨g1, g2, g3, g4⟩
  · exact .inr ⟨h1, h2, h3, h4⟩
  · have e1 : (d.2.2 == -1) = false := by simp; omega
    have e2 : (d'.2.2 == -1) = false := by simp; omega
    simp only [stepD, e1, e2, Bool.false_or, decide_eq_true_eq]
    right
    split <;> split <;> refine ⟨?_, ?_, ?_, ?_⟩ <;> first | assumption | omega
theorem Rl.on {d d' x x' : D3} {c : Bool} (h : Rl d d') (hc : c = true → x.1 = 2 ∧ x'.1 = 2 ∧ 0 ≤ x.2.2 ∧ x.2.2 ≤ x'.2.2) : Rl (onD c d x) (onD c d' x') := by
  cases c with
  | false => exact h
  | true => obtain ⟨h1, h2, h3, h4⟩ := hc rfl; exact h.step h1 h2 h3 h4
theorem onL_nil {c0 c1 c2 : Bool} {x0 x1 x2 : D3} : (onL c0 x0 ++ (onL c1 x1 ++ onL c2 x2) = []) ↔ (c0 || (c1 || c2)) = false := by
  cases c0 <;> cases c1 <;> cases c2 <;> simp [onL]
/-- The same, but all was sent later. -/
structure Later (F G : Fc) : Prop where
  k0 : G.k0 = F.k0
  k1 : G.k1 = F.k1
  a0 : G.a0 = F.a0
  a1 : G.a1 = F.a1
  a2 : G.a2 = F.a2
  n0 : G.n0 = F.n0
  n1 : G.n1 = F.n1
  n2 : G.n2 = F.n2
  cf : G.cf = F.cf
  lm : G.lm = F.lm
  pr : G.pr = F.pr
  b0 : (F.b0 = -1 ∧ G.b0 = -1) ∨ (0 ≤ F.b0 ∧ F.b0 ≤ G.b0)
  b1 : (F.b1 = -1 ∧ G.b1 = -1) ∨ (0 ≤ F.b1 ∧ F.b1 ≤ G.b1)
  b2 : (F.b2 = -1 ∧ G.b2 = -1) ∨ (0 ≤ F.b2 ∧ F.b2 ≤ G.b2)
  w : F.now ≤ G.now
theorem neverEq {a b : Int} (h : (a = -1 ∧ b = -1) ∨ (0 ≤ a ∧ a ≤ b)) : (b != -1) = (a != -1) := by
  rcases h with ⟨rfl, rfl⟩ | h
  · rfl
  · rw [show (b != -1) = true by simp; omega, show (a != -1) = true by simp; omega]
theorem late {F G : Fc} (h : Later F G) (hF : Bd F) (hG : Bd G) {W W' : Int → Int} (w0 : W 0 ≤ W' 0) (w1 : W 1 ≤ W' 1) (w2 : W 2 ≤ W' 2) : Lt (pickD F true W) (pickD G true W') := by
  rw [pickD_eq hF.may, pickD_eq hG.may]
  have eL : lossL G = lossL F := by simp only [lossL, h.a0, h.a1, h.a2]
  have e0 : u0 G = u0 F := by simp only [u0, h.n0, neverEq h.b0]
  have e1 : u1 G = u1 F := by simp only [u1, h.n1, neverEq h.b1]
  have e2 : u2 G = u2 F := by simp only [u2, h.n2, neverEq h.b2, h.cf]
  rw [eL, h.lm]
  have bF := hF; have bG := hG
  obtain ⟨-, -, -, q0, q1, q2, -, -, -, qw⟩ := bF
  obtain ⟨-, -, -, r0, r1, r2, -, -, -, rw_⟩ := bG
  by_cases hl : lossL F = []
  · rw [if_pos hl, if_pos hl]
    cases F.lm with
    | true => exact .inl rfl
    | false =>
      have n1 : (probL F W = []) ↔ (u0 F || (u1 F || u2 F)) = false := onL_nil
      have n2 : (probL G W' = []) ↔ (u0 F || (u1 F || u2 F)) = false := by rw [← e0, ← e1, ← e2]; exact onL_nil
      simp only [Bool.false_eq_true, if_false]
      by_cases hp : (u0 F || (u1 F || u2 F)) = false
      · rw [if_pos (n1.2 hp), if_pos (n2.2 hp)]
        have key : ∀ i : Int, W i ≤ W' i → Lt (bestD [(2, i, dueV F.now (W i))]) (bestD [(2, i, dueV G.now (W' i))]) := fun i hi =>
          .inr ⟨rfl, rfl, dueV_mono (isT_true qw.1 qw.2) (isT_true rw_.1 rw_.2) h.w hi⟩
        simp only [lastL, h.n0, h.n1, h.n2, h.pr, h.k1, h.k0]
        by_cases g0 : 0 < F.n0
        · simp only [if_pos g0]; exact .inl rfl
        by_cases g1 : 0 < F.n1
        · simp only [if_neg g0, if_pos g1]; exact .inl rfl
        by_cases g2 : 0 < F.n2
        · simp only [if_neg g0, if_neg g1, if_pos g2]; exact .inl rfl
        simp only [if_neg g0, if_neg g1, if_neg g2]
        cases F.pr with
        | true => exact .inl rfl
        | false =>
          cases F.k1 with
          | true => exact key 1 w1
          | false =>
            cases F.k0 with
            | true => exact key 0 w0
            | false => exact .inl rfl
      · rw [if_neg (fun e => hp (n1.1 e)), if_neg (fun e => hp (n2.1 e))]
        rw [probL, probL, best_on, best_on, e0, e1, e2]
        have l0 : u0 F = true → F.b0 ≠ -1 := fun e => by simp [u0] at e; exact e.2
        have l1 : u1 F = true → F.b1 ≠ -1 := fun e => by simp [u1] at e; exact e.2
        have l2 : u2 F = true → F.b2 ≠ -1 := fun e => by simp [u2] at e; exact e.2.1
        have h0 := h.b0; have h1 := h.b1; have h2 := h.b2
        refine Rl.lt (Rl.on (Rl.on (Rl.on (.inl ⟨rfl, rfl⟩) fun e => ?_) fun e => ?_) fun e => ?_)
        · have := l0 e
          have i1 : isT F.b0 = true := isT_true (by omega) (by omega)
          exact ⟨rfl, rfl, dueV_low i1, dueV_mono i1 (isT_true (by omega) (by omega)) (by omega) w0⟩
        · have := l1 e
          have i1 : isT F.b1 = true := isT_true (by omega) (by omega)
          exact ⟨rfl, rfl, dueV_low i1, dueV_mono i1 (isT_true (by omega) (by omega)) (by omega) w1⟩
        · have := l2 e
          have i1 : isT F.b2 = true := isT_true (by omega) (by omega)
          exact ⟨rfl, rfl, dueV_low i1, dueV_mono i1 (isT_true (by omega) (by omega)) (by omega) w2⟩
  · rw [if_neg hl, if_neg hl]
    exact .inl rfl
theorem waits_grow : ∀ lo hi : Fin 12, lo ≤ hi → waitV 100 100 2000000 300000 0 1000000 lo.val 8 0 ≤ waitV 100 100 2000000 300000 0 9000000 hi.val 8 0 ∧ waitV 100 100 2000000 300000 0 1000000 lo.val 8 1 ≤ waitV 100 100 2000000 300000 0 9000000 hi.val 8 1 ∧ waitV 100 100 2000000 300000 0 1000000 lo.val 8 2 ≤ waitV 100 100 2000000 300000 0 9000000 hi.val 8 2 := by
  decide +kernel
theorem waits_grow' {lo hi : Int} (h0 : 0 ≤ lo) (h1 : lo ≤ hi) (h2 : hi < 12) : waitV 100 100 2000000 300000 0 1000000 lo 8 0 ≤ waitV 100 100 2000000 300000 0 9000000 hi 8 0 ∧ waitV 100 100 2000000 300000 0 1000000 lo 8 1 ≤ waitV 100 100 2000000 300000 0 9000000 hi 8 1 ∧ waitV 100 100 2000000 300000 0 1000000 lo 8 2 ≤ waitV 100 100 2000000 300000 0 9000000 hi 8 2 := by
  have := waits_grow ⟨lo.toNat, by omega⟩ ⟨hi.toNat, by omega⟩ (by show lo.toNat ≤ hi.toNat; omega)
  simp only [Int.toNat_of_nonneg h0, Int.toNat_of_nonneg (show 0 ≤ hi by omega)] at this
  exact this
/-! ### Alone -/
theorem bt_or (b : Int) : bt (bitI .or .i64 b 4) 4 = true := by
  have key : ∀ m : Nat, m < 18446744073709551616 → (m ||| 4) < 18446744073709551616 → bt (IntKind.i64.wrap ((m ||| 4 : Nat) : Int)) 4 = true := by
    intro m hm hm4
    have h8 : (m ||| 4) % 8 = m % 8 ||| 4 := by
      have := Nat.or_mod_two_pow (a := m) (b := 4) (n := 3)
      simpa using this
    have hw : IntKind.i64.wrap ((m ||| 4 : Nat) : Int) % 8 = (((m ||| 4) % 8 : Nat) : Int) := by
      have : IntKind.i64.wrap ((m ||| 4 : Nat) : Int) = ((m ||| 4 : Nat) : Int) ∨ IntKind.i64.wrap ((m ||| 4 : Nat) : Int) = ((m ||| 4 : Nat) : Int) - 18446744073709551616 := by
        by_cases h : ((m ||| 4 : Nat) : Int) < 9223372036854775808
        · left; exact wrap_id (by omega) (by omega)
        · right
          simp [IntKind.wrap, IntKind.signed, IntKind.bits]
          omega
      omega
    rw [bt, hw, h8]
    have : m % 8 < 8 := Nat.mod_lt _ (by omega)
    generalize m % 8 = r at this ⊢
    match r, this with
    | 0, _ => decide
    | 1, _ => decide
    | 2, _ => decide
    | 3, _ => decide
    | 4, _ => decide
    | 5, _ => decide
    | 6, _ => decide
    | 7, _ => decide
    | n + 8, h => omega
  have e : bitI .or .i64 b 4 = IntKind.i64.wrap (((BitVec.ofInt 64 b).toNat ||| 4 : Nat) : Int) := by
    show IntKind.i64.wrap ((BitVec.ofInt 64 b ||| BitVec.ofInt 64 4).toNat : Int) = _
    rw [BitVec.toNat_or]
    rfl
  rw [e]
  refine key _ (BitVec.ofInt 64 b).isLt ?_
  have := (BitVec.ofInt 64 b ||| BitVec.ofInt 64 4).isLt
  rw [BitVec.toNat_or] at this
  exact this
def aloneD (k a b w : Int) : D3 := if a = -1 then (2, k, dueV b w) else (1, k, a)
theorem aloneP (k a b w : Int) (L P : List D3) (hL : L = onL (a != -1) (1, k, a)) (hP : P = [(2, k, dueV b w)]) (N : D3) : (if L = [] then (if (false : Bool) = true then noneD else if P = [] then N else bestD P) else bestD L) = aloneD k a b w := by
  subst hL hP
  unfold aloneD
  by_cases h : a = -1
  · rw [if_pos h, show (a != -1) = false by simp [h]]
    rfl
  · rw [if_neg h, show (a != -1) = true by simp [h]]
    rfl
theorem alone0 {F : Fc} (h : Bd F) (hl : F.lm = false) (a1 : F.a1 = -1) (a2 : F.a2 = -1) (n0 : 0 < F.n0) (b0 : F.b0 ≠ -1) (n1 : F.n1 = 0) (n2 : F.n2 = 0) : dueC F = aloneD 0 F.a0 F.b0 6400000 := by
  rw [dueC, pickV_eq F, pickD_eq h.may, hl]
  exact aloneP 0 F.a0 F.b0 6400000 _ _ (by simp [lossL, a1, a2, onL]) (by simp [probL, u0, u1, u2, n0, b0, n1, n2, onL]; rfl) _
theorem alone1 {F : Fc} (h : Bd F) (hl : F.lm = false) (a1 : F.a0 = -1) (a2 : F.a2 = -1) (n0 : 0 < F.n1) (b0 : F.b1 ≠ -1) (n1 : F.n0 = 0) (n2 : F.n2 = 0) : dueC F = aloneD 1 F.a1 F.b1 6400000 := by
  rw [dueC, pickV_eq F, pickD_eq h.may, hl]
  exact aloneP 1 F.a1 F.b1 6400000 _ _ (by simp [lossL, a1, a2, onL]) (by simp [probL, u0, u1, u2, n0, b0, n1, n2, onL]; rfl) _
theorem alone2 {F : Fc} (h : Bd F) (hl : F.lm = false) (hc : F.cf = true) (a1 : F.a0 = -1) (a2 : F.a1 = -1) (n0 : 0 < F.n2) (b0 : F.b2 ≠ -1) (n1 : F.n0 = 0) (n2 : F.n1 = 0) : dueC F = aloneD 2 F.a2 F.b2 16400000 := by
  rw [dueC, pickV_eq F, pickD_eq h.may, hl]
  exact aloneP 2 F.a2 F.b2 16400000 _ _ (by simp [lossL, a1, a2, onL]) (by simp [probL, u0, u1, u2, n0, b0, n1, n2, onL, hc]; rfl) _
theorem aloneD_kind (k a b w : Int) : (aloneD k a b w).2.1 = k ∧ 0 < (aloneD k a b w).1 := by
  unfold aloneD; split
  · exact ⟨rfl, show (0 : Int) < 2 by decide⟩
  · exact ⟨rfl, show (0 : Int) < 1 by decide⟩
/-! ### The first one -/
theorem and6 (b : Int) : (bitI .and .i64 (b % 8) 6 == 0) = (!bt b 2 && !bt b 4) := by
  unfold bt
  have h : 0 ≤ b % 8 ∧ b % 8 < 8 := by omega
  generalize b % 8 = r at h
  obtain ⟨n, rfl⟩ := Int.eq_ofNat_of_zero_le h.1
  have h := h.2
  match n, h with
  | 0, _ => decide
  | 1, _ => decide
  | 2, _ => decide
  | 3, _ => decide
  | 4, _ => decide
  | 5, _ => decide
  | 6, _ => decide
  | 7, _ => decide
  | n + 8, h => omega
theorem first_none {x : Rw} {w : Int} (h2 : bt x.b 2 = false) (h4 : bt x.b 4 = false) : (dueC (madeF x x x 1 w)).1 = 0 ∨ (dueC (madeF x x x 1 w)).2.1 = 1 := by
  have h := (made_ok x x x 1 w).bd.may
  have ea : lossR x = -1 := by rw [lossR, h2]; rfl
  have en : manyR x = 0 := by rw [manyR, h4]; rfl
  rw [dueC, pickV_eq _, pickD_eq h]
  have eL : lossL (madeF x x x 1 w) = [] := by
    show onL (lossR x != -1) _ ++ (onL (lossR x != -1) _ ++ onL (lossR x != -1) _) = []
    rw [ea]; rfl
  have eP : probL (madeF x x x 1 w) (waitV 100 100 2000000 300000 0 5000000 1 10) = [] := by
    refine onL_nil.2 ?_
    show ((decide (0 < manyR x) && _) || ((decide (0 < manyR x) && _) || (decide (0 < manyR x) && _))) = false
    rw [en]; rfl
  rw [if_pos eL, if_pos eP]
  have e0 : (madeF x x x 1 w).lm = false := show bt 1 2 = false by decide
  rw [e0]
  simp only [Bool.false_eq_true, if_false, lastL]
  have m0 : (madeF x x x 1 w).n0 = 0 := en
  have m1 : (madeF x x x 1 w).n1 = 0 := en
  have m2 : (madeF x x x 1 w).n2 = 0 := en
  have mp : (madeF x x x 1 w).pr = false := show bt 1 4 = false by decide
  have k0 : (madeF x x x 1 w).k0 = bt x.b 1 := rfl
  have k1 : (madeF x x x 1 w).k1 = bt x.b 1 := rfl
  simp only [m0, m1, m2, mp, k0, k1, Int.lt_irrefl, if_false, Bool.false_eq_true]
  cases bt x.b 1 with
  | true => right; rfl
  | false => left; rfl
theorem first_some {x : Rw} {w : Int} (h : bt x.b 2 = true ∨ bt x.b 4 = true) : 0 < (dueC (madeF x x x 1 w)).1 ∧ (dueC (madeF x x x 1 w)).2.1 = 0 := by
  have hm := (made_ok x x x 1 w).bd.may
  rw [dueC, pickV_eq _, pickD_eq hm]
  have e0 : (madeF x x x 1 w).lm = false := show bt 1 2 = false by decide
  have ec : (madeF x x x 1 w).cf = true := show bt 1 1 = true by decide
  cases h2 : bt x.b 2 with
  | true =>
    have ea : 0 ≤ lossR x := by rw [lossR, if_pos h2]; omega
    have eL : lossL (madeF x x x 1 w) = [(1, 0, lossR x), (1, 1, lossR x), (1, 2, lossR x)] := by
      show onL (lossR x != -1) _ ++ (onL (lossR x != -1) _ ++ onL (lossR x != -1) _) = _
      rw [show (lossR x != -1) = true by simp; omega]; rfl
    rw [eL, if_neg (by simp)]
    have s1 : stepD (1, 0, lossR x) (1, 1, lossR x) = (1, 0, lossR x) := by
      rw [stepD, if_neg (by simp; omega)]
    have s2 : stepD (1, 0, lossR x) (1, 2, lossR x) = (1, 0, lossR x) := by
      rw [stepD, if_neg (by simp; omega)]
    have : bestD [(1, 0, lossR x), (1, 1, lossR x), (1, 2, lossR x)] = (1, 0, lossR x) := by
      show stepD (stepD (1, 0, lossR x) (1, 1, lossR x)) (1, 2, lossR x) = _
      rw [s1, s2]
    rw [this]
    exact ⟨show (0 : Int) < 1 by decide, rfl⟩
  | false =>
    have h4 : bt x.b 4 = true := h.resolve_left (by simp [h2])
    have ea : lossR x = -1 := by rw [lossR, h2]; rfl
    have eL : lossL (madeF x x x 1 w) = [] := by
      show onL (lossR x != -1) _ ++ (onL (lossR x != -1) _ ++ onL (lossR x != -1) _) = []
      rw [ea]; rfl
    have en : 0 < manyR x := by rw [manyR, if_pos h4]; omega
    have eb : 0 ≤ lastR x ∧ lastR x < 1125899906842624 := by rw [lastR, if_pos h4]; omega
    have un : (decide (0 < manyR x) && (lastR x != -1)) = true := by
      rw [show (lastR x != -1) = true by simp; omega]; simp [en]
    have eP : probL (madeF x x x 1 w) (waitV 100 100 2000000 300000 0 5000000 1 10) = [(2, 0, dueV (lastR x) 6400000), (2, 1, dueV (lastR x) 6400000), (2, 2, dueV (lastR x) 16400000)] := by
      show onL (decide (0 < manyR x) && (lastR x != -1)) _ ++ (onL (decide (0 < manyR x) && (lastR x != -1)) _ ++ onL (decide (0 < manyR x) && ((lastR x != -1) && (madeF x x x 1 w).cf)) _) = _
      rw [ec, Bool.and_true, un]
      rfl
    rw [if_pos eL, eP, e0]
    simp only [Bool.false_eq_true, if_false, if_neg (List.cons_ne_nil _ _)]
    have t := isT_true eb.1 (by omega)
    have d1 : dueV (lastR x) 6400000 = lastR x + 6400000 := by
      rw [dueV, if_pos t, timeV_in (n := 6400000) (by omega) (by omega), timeV_in (by omega) (by omega)]
    have d2 : dueV (lastR x) 16400000 = lastR x + 16400000 := by
      rw [dueV, if_pos t, timeV_in (n := 16400000) (by omega) (by omega), timeV_in (by omega) (by omega)]
    rw [d1, d2]
    have s1 : stepD (2, 0, lastR x + 6400000) (2, 1, lastR x + 6400000) = (2, 0, lastR x + 6400000) := by
      rw [stepD, if_neg (by simp; omega)]
    have s2 : stepD (2, 0, lastR x + 6400000) (2, 2, lastR x + 16400000) = (2, 0, lastR x + 6400000) := by
      rw [stepD, if_neg (by simp; omega)]
    have : bestD [(2, 0, lastR x + 6400000), (2, 1, lastR x + 6400000), (2, 2, lastR x + 16400000)] = (2, 0, lastR x + 6400000) := by
      show stepD (stepD (2, 0, lastR x + 6400000) (2, 1, lastR x + 6400000)) (2, 2, lastR x + 16400000) = _
      rw [s1, s2]
    rw [this]
    exact ⟨show (0 : Int) < 2 by decide, rfl⟩
end Go.Proofs.Ytfoogfhcjnpokaa
