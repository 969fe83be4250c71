/-
  Chapter 7 by the engine: the contracts by name are kept; RttHolds, RttTells; laws over a slice of triples.
-/
import Derived.Test.YtepmbiahnicooaaV2
import Derived.Test.YtepmbiahnicooaaT3
namespace Go.Proofs.Ytepmbiahnicooaa
open Go.RowKit

theorem weaken {f : FuncId} {s s' : Spec} (h : SpecOK Try.prog f s) (hw : ∀ args hp base k, s' args hp base k → s args hp base k) : SpecOK Try.prog f s' :=
  fun args hp base k hk => h args hp base k (hw args hp base k hk)
theorem l16_s16 : ∀ args hp base k, l16 args hp base k → s16 args hp base k := fun args hp base k hk => by
  unfold l16 at hk
  split at hk
  · exact hk _ _ _ _ _ _ ⟨rfl, rfl, rfl, rfl, rfl, rfl⟩
  · cases hk
theorem l18_s18 : ∀ args hp base k, l18 args hp base k → s18 args hp base k := fun args hp base k hk => by
  unfold l18 at hk
  split at hk
  · rename_i i n
    cases hc : decide (0 < n) && decide (n ≤ 9223372036854775807) with
    | false => simp [hc] at hk
    | true =>
      simp only [hc, cond_true] at hk
      show bif decide (0 < n) && decide (n ≤ 9223372036854775807) then k (.int .i64 (i % n)) [] [] else False
      rw [hc]
      simp only [Bool.and_eq_true, decide_eq_true_eq] at hc
      exact hk _ ⟨Int.emod_nonneg _ (by omega), Int.emod_lt_of_pos _ hc.1, rfl⟩
  · cases hk
theorem gs5 : GSound C5 := (((((GSound.none.add ok14).add ok15).add (weaken ok16 l16_s16)).add (weaken ok17 l16_s16)).add (weaken ok18 l18_s18)).add ok13
theorem holds_any (d m : Int) (b : Bool) (w : World) : Calls Try.prog 3 #[.int .i64 d, .int .i64 m, .bool b] w fun e w' => e = .returned (.bool true) ∧ Below w.heap.size w w' := by
  refine lawOf (args := [.int .i64 d, .int .i64 m, .bool b]) (evalF_ok (C := C4) ec gs4 mixed (u := 64) Try.func3 (by kernel_rfl) ?_) (vs := [.int .i64 d, .int .i64 m, .bool b]) ?_ w
  · rw [t3 d m b (fun v => v = .bool true)]
    simp
  · simp [RL, R]
theorem tells_any (l m s v f a x d n : Int) (w : World) : Calls Try.prog 8 #[.agg #[.int .i64 l, .int .i64 m, .int .i64 s, .int .i64 v, .int .i64 f], .int .i64 a, .agg #[.int .i64 x, .int .i64 d, .int .i64 n]] w fun e w' => e = .returned (.bool true) ∧ Below w.heap.size w w' := by
  refine lawOf (args := [rtt l m s v f, .int .i64 a, .agg [.int .i64 x, .int .i64 d, .int .i64 n]]) (evalF_ok (C := C4) ec gs4 mixed (u := 64) Try.func8 (by kernel_rfl) ?_)
    (vs := [.agg #[.int .i64 l, .int .i64 m, .int .i64 s, .int .i64 v, .int .i64 f], .int .i64 a, .agg #[.int .i64 x, .int .i64 d, .int .i64 n]]) ?_ w
  · show evalF C4 64 Try.f8 [.agg [.int .i64 l, .int .i64 m, .int .i64 s, .int .i64 v, .int .i64 f], .int .i64 a, .agg [.int .i64 x, .int .i64 d, .int .i64 n]] [] _
    rw [t8 l m s v f a x d n (fun v => v = .bool true)]
    simp
  · simp [RL, R, rtt]

theorem i64n (i : Nat) (h : i < 1000000) : IntKind.i64.wrap ((i : Int) + 1) = ((i + 1 : Nat) : Int) := by rw [wrap_id (by omega) (by omega)]; rfl
theorem ids4 (n : Nat) (g : Nat → Nat → Int) (l m s v f : Int) : allIds 3 (h4 n g l m s v f) := ⟨fun _ _ => rfl, rfl, rfl, trivial⟩
def Q4 (n : Nat) (g : Nat → Nat → Int) (e : Int) (i : SV) (x0 : Ex) : Ex → List SV → List BO → Prop := fun x vals B => x = x0 ∧ ∃ l m s v f : Int, vals = v4 n e i ∧ B = h4 n g l m s v f
abbrev f4 (n : Nat) (e : Int) (i : SV) : List SV := tplF 99 L4 (v4 n e i)
abbrev m4 (n : Nat) (g : Nat → Nat → Int) (l m s v f : Int) : LHeap := (h4 n g l m s v f).map mkB
theorem step4 {n : Nat} {g : Nat → Nat → Int} {e : Int} {i : SV} (x0 : Ex) {c : Code} {fr : List SV} {hp : LHeap} (h : evalC C5 0 1 c fr hp (obsN L4 [false, true, true] (seen 99 3 (Q4 n g e i x0)))) {K : KC} (hK : ∀ l m s v f, K x0 (f4 n e i) (m4 n g l m s v f)) : CodeOK Try.prog 1 c fr hp K :=
  (CodeOK.lookN (C := C5) ec gs5 mixed (u := 0) (Nat.le_add_left 1 2) h).st fun x vals B h => by
    obtain ⟨rfl, l, m, s, v, f, rfl, rfl⟩ := h
    exact hK l m s v f
set_option maxRecDepth 100000 in
theorem loop4 (n : Nat) (g : Nat → Nat → Int) (e l m s v f : Int) : CodeOK Try.prog 1 (.loop c4_5) (f4 n e (.int .i64 (0 : Nat))) (m4 n g l m s v f) (fun x fr hp => x = .exit 0 ∧ ∃ (i : Nat) (l m s v f : Int), fr = f4 n e (.int .i64 i) ∧ hp = m4 n g l m s v f) := by
  refine CodeOK.loop (fun k fr hp => ∃ (i : Nat) (l m s v f : Int), i + k = 60 ∧ fr = f4 n e (.int .i64 i) ∧ hp = m4 n g l m s v f) ?_ (n := 60) ⟨0, l, m, s, v, f, rfl, rfl, rfl⟩
  rintro k fr hp ⟨i, l, m, s, v, f, hik, rfl, rfl⟩
  by_cases h1 : i < n
  · by_cases h2 : i < 60
    · by_cases h3 : e = 0
      · refine step4 (n := n) (g := g) (e := e) (i := .int .i64 ((i + 1 : Nat) : Int)) .normal ?_ fun l m s v f => ⟨k - 1, f4 n e (.int .i64 ((i + 1 : Nat) : Int)), m4 n g l m s v f, by omega, tpl_weak (B := h4 n g l m s v f) (R := []) ⟨.inr rfl, .inr rfl, .inr rfl, .inr rfl, .inr rfl, .inr rfl, trivial⟩ rfl (ids4 n g l m s v f) (Nat.le_add_left 1 2), i + 1, l, m, s, v, f, by omega, rfl, rfl⟩
        have q2 : (decide ((0 : Nat) + (↑i : Int).toNat < n) && true) = true := by simp; omega
        rw [p4r, cb (show (i : Int) < n by omega), cb (show (i : Int) < 60 by omega), show (e == 0) = true by simpa using h3, i64n i (by omega)]
        simp only [q2, cond_true]
        rintro _ _ _ _ _ _ ⟨rfl, rfl, rfl, rfl, rfl, rfl⟩ _ _ _ _ _ _ ⟨rfl, rfl, rfl, rfl, rfl, rfl⟩
        simp only [beq_self_eq_true, bne_self_eq_false, cond_false, Bool.and_self, Bool.not_true]
        cases (smE l m s v f (g (0 + (i : Int).toNat) 0) (g (0 + (i : Int).toNat) 1) (g (0 + (i : Int).toNat) 2) == 0)
        · exact ⟨rfl, rfl, ids4 n g _ _ _ _ _, rfl, _, _, _, _, _, rfl, rfl⟩
        · exact ⟨rfl, rfl, ids4 n g _ _ _ _ _, rfl, _, _, _, _, _, rfl, rfl⟩
      · refine step4 (n := n) (g := g) (e := e) (i := .int .i64 i) (.exit 0) ?_ fun l m s v f => ⟨rfl, i, l, m, s, v, f, rfl, rfl⟩
        rw [p4r, cb (show (i : Int) < n by omega), cb (show (i : Int) < 60 by omega), show (e == 0) = false by simpa using h3]
        exact ⟨rfl, rfl, ids4 n g _ _ _ _ _, rfl, _, _, _, _, _, rfl, rfl⟩
    · refine step4 (n := n) (g := g) (e := e) (i := .int .i64 i) (.exit 0) ?_ fun l m s v f => ⟨rfl, i, l, m, s, v, f, rfl, rfl⟩
      rw [p4r, cb (show (i : Int) < n by omega), cf (show ¬ (i : Int) < 60 by omega)]
      exact ⟨rfl, rfl, ids4 n g _ _ _ _ _, rfl, _, _, _, _, _, rfl, rfl⟩
  · refine step4 (n := n) (g := g) (e := e) (i := .int .i64 i) (.exit 0) ?_ fun l m s v f => ⟨rfl, i, l, m, s, v, f, rfl, rfl⟩
    rw [p4r, cf (show ¬ (i : Int) < n by omega)]
    exact ⟨rfl, rfl, ids4 n g _ _ _ _ _, rfl, _, _, _, _, _, rfl, rfl⟩
set_option maxRecDepth 100000 in
theorem canon4 (a : Int) (n : Nat) (g : Nat → Nat → Int) : Canon Try.prog 4 [.int .i64 a, .slice 0 0 3 n] [some (bT n g)] fun v _ => v = .bool true := by
  refine CodeOK.body Try.func4 (by kernel_rfl) ?_
  rw [code4]
  refine CodeOK.frontN (C := C5) ec gs5 mixed (u := 0) (len := 99) (L := L4) (M := [false, true, true]) [c4_0, c4_1, c4_2, c4_3] (Nat.le_add_left 1 2) (Q := Q4 n g (newE a) .top .normal) ?_ ?_
  · show evalC C5 0 1 _ (enterS 99 _) _ _
    simp only [List.foldr]
    rw [p4a]
    simp only [beq_self_eq_true, bne_self_eq_false, cond_false, Bool.and_self, Bool.not_true]
    exact ⟨rfl, rfl, ids4 n g _ _ _ _ _, rfl, _, _, _, _, _, rfl, rfl⟩
  · rintro x vals B ⟨rfl, l, m, s, v, f, rfl, rfl⟩
    refine CodeOK.seq (CodeOK.seq (step4 (n := n) (g := g) (e := newE a) (i := .int .i64 (0 : Nat)) .normal ?_ fun l m s v f => ?_))
    · rw [p4s]
      exact ⟨rfl, rfl, ids4 n g _ _ _ _ _, rfl, _, _, _, _, _, rfl, rfl⟩
    · refine CodeOK.block ((loop4 n g (newE a) l m s v f).mono ?_)
      rintro x fr hp ⟨rfl, i, l, m, s, v, f, rfl, rfl⟩
      show CodeOK Try.prog 1 c4_6 (f4 n (newE a) (.int .i64 i)) (m4 n g l m s v f) (endK Try.prog ([4].map .tmp) _)
      refine CodeOK.fin (C := C5) ec gs5 mixed (u := 0) (M := []) (k := fun v _ => v = .bool true) ?_ fun v hp h => h
      rw [p4e]
      exact ⟨.inl rfl, rfl⟩

/-- A slice of triples of numbers that came in. -/
def IsTriples (w : World) (a : Option Addr) (len cap : Nat) : Prop :=
  len = 0 ∨ ∃ x : Addr, a = some x ∧ len ≤ cap ∧ ∀ r, r < len → ∀ j, j < 3 → ∃ n : Int, w.cell? (x.add (r * 3 + j)) = some (.int .i64 n)
def numAt : Option Value → Int
  | some (.int _ n) => n
  | _ => 0
theorem IsTriples.at {w : World} {a : Option Addr} {len cap : Nat} (h : IsTriples w a len cap) (hp : 0 < len) : ∃ (b off : Nat) (g : Nat → Nat → Int), a = some ⟨b, off, none⟩ ∧ len ≤ cap ∧ ∀ φ : Phi, BAt φ ⟨b, off, cap⟩ (bT len g) w := by
  rcases h with h | ⟨x, rfl, hl, hc⟩
  · omega
  · obtain ⟨n0, hn0⟩ := hc 0 hp 0 (by omega)
    have hn0 : w.cell? x = some (.int .i64 n0) := by simpa [Addr.add] using hn0
    obtain ⟨blk, off, spot⟩ := x
    have hs : spot = none := by simpa using World.cell?_spot hn0
    subst hs
    unfold World.cell? at hn0
    split at hn0
    · rename_i c ty fz hb
      have hcell : ∀ r, r < len → ∀ j, j < 3 → ∃ n : Int, c[off + (r * 3 + j)]? = some (.int .i64 n) := by
        intro r hr j hj
        obtain ⟨n, hn⟩ := hc r hr j hj
        refine ⟨n, ?_⟩
        have e : (⟨blk, off, none⟩ : Addr).add (r * 3 + j) = ⟨blk, off + (r * 3 + j), none⟩ := by
          unfold Addr.add
          split
          · rename_i h; rw [h]; rfl
          · rfl
        rw [e] at hn
        unfold World.cell? at hn
        rw [hb] at hn
        simpa using hn
      refine ⟨blk, off, fun r j => numAt c[off + (r * 3 + j)]?, rfl, hl, fun φ => ⟨c, ty, fz, hb, (fun h => nomatch h), fun r hr => ⟨?_, rfl⟩⟩⟩
      have hr : r < len := hr
      obtain ⟨a0, q0⟩ := hcell r hr 0 (by omega)
      obtain ⟨a1, q1⟩ := hcell r hr 1 (by omega)
      obtain ⟨a2, q2⟩ := hcell r hr 2 (by omega)
      have e : (c.toList.drop (off + r * 3)).take 3 = [.int .i64 a0, .int .i64 a1, .int .i64 a2] := by
        apply List.ext_getElem?
        intro j
        rw [List.getElem?_take]
        rcases j with _ | _ | _ | j
        · simpa [Nat.add_assoc] using q0
        · simpa [Nat.add_assoc] using q1
        · simpa [Nat.add_assoc] using q2
        · simp only [show ¬ (j + 1 + 1 + 1 < 3) by omega, if_false]
          rfl
      show RL φ [.int .i64 (numAt c[off + (r * 3 + 0)]?), .int .i64 (numAt c[off + (r * 3 + 1)]?), .int .i64 (numAt c[off + (r * 3 + 2)]?)] ((c.toList.drop (off + r * 3)).take 3)
      rw [e, q0, q1, q2]
      simp [RL, R, numAt]
    · cases hn0
/-- A law over a slice of triples. -/
theorem lawT {f : FuncId} {pre post : List SV} {vpre vpost : List Value} (h1 : ∀ φ, RL φ pre vpre) (h2 : ∀ φ, RL φ post vpost) (hcan : ∀ n g, 0 < n → Canon Try.prog f (pre ++ .slice 0 0 3 n :: post) [some (bT n g)] fun v _ => v = .bool true)
    (hnil : Canon Try.prog f (pre ++ .eslice :: post) [] fun v _ => v = .bool true) {a : Option Addr} {len cap : Nat} {w : World} (h : IsTriples w a len cap) :
    Calls Try.prog f (vpre ++ .slice a len cap :: vpost).toArray w fun e w' => e = .returned (.bool true) ∧ Below w.heap.size w w' := by
  rcases Nat.eq_zero_or_pos len with h0 | hp
  · subst h0
    exact lawOf hnil ((h1 _).append (RL.cons (by simp [R]) (h2 _))) w
  · obtain ⟨b, off, g, rfl, hl, hB⟩ := h.at hp
    refine lawOfR (hcan len g hp) (fun id b hb => ?_) (φ := fun id => if id = 0 then some ⟨b, off, cap⟩ else none) (w := w) (fun id hid => ?_) (fun id b' hb' => ?_) ?_
    · cases id with
      | zero => simp [hget] at hb; subst hb; rfl
      | succ id => simp [hget] at hb
    · have : id ≠ 0 := by simp at hid; omega
      simp [this]
    · cases id with
      | succ id => simp [hget] at hb'
      | zero =>
        simp [hget] at hb'
        subst hb'
        exact ⟨_, rfl, hB _⟩
    · refine (h1 _).append (RL.cons ?_ (h2 _))
      simp [R]
      omega
theorem runs_any (a : Int) (s : Option Addr) (len cap : Nat) (w : World) (h : IsTriples w s len cap) : Calls Try.prog 4 #[.int .i64 a, .slice s len cap] w fun e w' => e = .returned (.bool true) ∧ Below w.heap.size w w' := by
  refine lawT (pre := [.int .i64 a]) (post := []) (vpre := [.int .i64 a]) (vpost := []) (by simp [RL, R]) (by simp [RL]) (fun n g _ => canon4 a n g) (evalF_ok (C := C5) ec gs5 mixed (u := 64) Try.func4 (by kernel_rfl) ?_) h
  show evalF C5 64 Try.f4 [.int .i64 a, .eslice] [] _
  rw [t4e a (fun v => v = _)]
  simp
end Go.Proofs.Ytepmbiahnicooaa
