/-
  Chapter 16 by the engine: calls in a row, HandSure.
-/
import Derived.Test.YtllkhfabfcpieaaV3
import Derived.Test.YtllkhfabfcpieaaP3
namespace Go.Proofs.Ytllkhfabfcpieaa
open Go.RowKit
theorem i64n (i : Nat) (h : i < 1000000) : IntKind.i64.wrap ((i : Int) + 1) = ((i + 1 : Nat) : Int) := by rw [wrap_id (by omega) (by omega)]; rfl
theorem cb {p : Prop} [Decidable p] (h : p) : decide p = true := decide_eq_true h
theorem cf {p : Prop} [Decidable p] (h : ¬ p) : decide p = false := decide_eq_false h
theorem eta (h : Hd) : Hd.mk h.sv h.e0 h.e1 h.e2 h.va h.cf h.an = h := rfl
abbrev ni (n : Nat) : SV := .int .i64 n
section
attribute [local irreducible] evalC
set_option maxRecDepth 100000
abbrev f18 (n : Nat) (i : SV) : List SV := tplF 26 L18 (v18 n i)
abbrev m18 (n : Nat) (g : Nat → Nat → Int) (h : Hd) : LHeap := (h18 n g h).map mkB
theorem ids18 (n : Nat) (g : Nat → Nat → Int) (h : Hd) : allIds 2 (h18 n g h) := ⟨fun _ _ => rfl, rfl, trivial⟩
def at18 (n : Nat) (g : Nat → Nat → Int) (e : Ex) (i : SV) (h : Hd) : Ex → List SV → List BO → Prop := fun x vals B => x = e ∧ vals = v18 n i ∧ B = h18 n g h
theorem step18 {n : Nat} {g : Nat → Nat → Int} {i : SV} {h : Hd} (e : Ex) {c : Code} {fr : List SV} {hp : LHeap} (hh : evalC C4 0 1 c fr hp (obsN L18 M18 (seen 26 2 (at18 n g e i h)))) {K : KC} (hK : K e (f18 n i) (m18 n g h)) : CodeOK Try.prog 1 c fr hp K :=
  (CodeOK.lookN (C := C4) ec gs4 mixed (u := 0) (Nat.le_add_left 1 1) hh).st fun x vals B hh => by
    obtain ⟨rfl, rfl, rfl⟩ := hh
    exact hK
theorem wk18 (n : Nat) (g : Nat → Nat → Int) (h : Hd) {i i' : SV} (hv : ValW (v18 n i') (v18 n i)) (hi : ltAll 2 (svIdsL (v18 n i')) = true) : Weak 1 (f18 n i) (m18 n g h) (f18 n i') (m18 n g h) :=
  tpl_weak (B := h18 n g h) (R := []) hv hi (ids18 n g h) (Nat.le_add_left 1 1)
theorem loop18 (n : Nat) (g : Nat → Nat → Int) (b : Bool) {K : KC} (hK : K (.exit 0) (f18 n .top) (m18 n g (playN b g (min n 60)))) : CodeOK Try.prog 1 (.loop c18_3) (f18 n (ni 0)) (m18 n g (newH b)) K := by
  refine CodeOK.count (n := min n 60) (F := fun i => f18 n (ni i)) (H := fun i => m18 n g (playN b g i)) (fun i hi => ?_) ?_ hK
  · refine step18 (n := n) (g := g) (i := ni (i + 1 : Nat)) (h := playN b g (i + 1)) .normal ?_ ⟨rfl, wk18 n g _ ⟨.inr rfl, .inr rfl, .inr rfl, .inr rfl, trivial⟩ rfl⟩
    rw [p18c, eta]
    simp only [Nat.zero_add, Int.toNat_natCast, cb (show (i : Int) < n by omega), cb (show (i : Int) < 60 by omega), cb (show i < n by omega), cond_true, Bool.and_true, i64n i (by omega)]
    rintro h' e rfl -
    exact ⟨rfl, rfl, ids18 n g _, rfl, rfl, rfl⟩
  · refine step18 (n := n) (g := g) (i := ni (min n 60)) (h := playN b g (min n 60)) (.exit 0) ?_ ⟨rfl, wk18 n g _ ⟨.inr rfl, .inr rfl, .inr rfl, .inl rfl, trivial⟩ rfl⟩
    rw [p18c]
    by_cases h : n ≤ 60
    · rw [cf (show ¬ ((min n 60 : Nat) : Int) < n by omega)]
      exact ⟨rfl, rfl, ids18 n g _, rfl, rfl, rfl⟩
    · rw [cb (show ((min n 60 : Nat) : Int) < n by omega), cf (show ¬ ((min n 60 : Nat) : Int) < 60 by omega)]
      exact ⟨rfl, rfl, ids18 n g _, rfl, rfl, rfl⟩
theorem canon18 (b : Bool) (n : Nat) (g : Nat → Nat → Int) : Canon Try.prog 18 [.bool b, .slice 0 0 2 n] [some (bD n g)] fun v hp => NewP 1 (playN b g (min n 60)) v (obsP v hp) := by
  refine CodeOK.body Try.func18 (by kernel_rfl) ?_
  rw [code18]
  refine CodeOK.frontN (C := C4) ec gs4 mixed (u := 0) (len := 26) (L := L18) (M := M18) [c18_0, c18_1] (Nat.le_add_left 1 1) (Q := at18 n g .normal .top (newH b)) ?_ ?_
  · show evalC C4 0 1 (.seq c18_0 (.seq c18_1 .skip)) (enterS 26 _) _ _
    rw [p18a]
    exact ⟨rfl, rfl, ids18 n g (newH b), rfl, rfl, rfl⟩
  rintro x vals B ⟨rfl, rfl, rfl⟩
  refine CodeOK.seq (CodeOK.seq (step18 (n := n) (g := g) (i := ni 0) (h := newH b) .normal ?_ (CodeOK.block (loop18 n g b ?_))))
  · show evalC C4 0 1 c18_2 (f18 n .top) (m18 n g (newH b)) _
    rw [p18b]
    exact ⟨rfl, rfl, ids18 n g _, rfl, rfl, rfl⟩
  show CodeOK Try.prog 1 c18_4 (f18 n .top) (m18 n g (playN b g (min n 60))) (endK Try.prog Try.f18.results.toList _)
  refine CodeOK.eval (C := C4) ec gs4 mixed 0 ?_
  show evalC C4 0 1 c18_4 (f18 n .top) (m18 n g (playN b g (min n 60))) (endK Try.prog Try.f18.results.toList fun v hp => NewP 1 (playN b g (min n 60)) v (obsP v hp))
  rw [p18d n g _ (NewP 1 (playN b g (min n 60)))]
  exact ⟨1, Nat.le_refl _, rfl, rfl⟩
abbrev f3 (n : Nat) (b : Bool) (i : SV) : List SV := tplF 93 L3 (v3 n b i)
abbrev m3 (n : Nat) (g : Nat → Nat → Int) (h m : Hd) : LHeap := (h3 n g h m).map mkB
theorem ids3 (n : Nat) (g : Nat → Nat → Int) (h m : Hd) : allIds 3 (h3 n g h m) := ⟨fun _ _ => rfl, rfl, rfl, trivial⟩
def at3 (n : Nat) (g : Nat → Nat → Int) (e : Ex) (b : Bool) (i : SV) (h m : Hd) : Ex → List SV → List BO → Prop := fun x vals B => x = e ∧ vals = v3 n b i ∧ B = h3 n g h m
theorem wk3 (n : Nat) (g : Nat → Nat → Int) (h m : Hd) {b : Bool} {i i' : SV} (hv : ValW (v3 n b i') (v3 n b i)) (hi : ltAll 3 (svIdsL (v3 n b i')) = true) : Weak 1 (f3 n b i) (m3 n g h m) (f3 n b i') (m3 n g h m) :=
  tpl_weak (B := h3 n g h m) (R := []) hv hi (ids3 n g h m) (Nat.le_add_left 1 2)
theorem step3 {n : Nat} {g : Nat → Nat → Int} {b : Bool} {i : SV} {h m : Hd} (e : Ex) {c : Code} {fr : List SV} {hp : LHeap} (hh : evalC C6 0 1 c fr hp (obsN L3 M3 (seen 93 3 (at3 n g e b i h m)))) {K : KC} (hK : K e (f3 n b i) (m3 n g h m)) : CodeOK Try.prog 1 c fr hp K :=
  (CodeOK.lookN (C := C6) ec gs6 mixed (u := 0) (Nat.le_add_left 1 2) hh).st fun x vals B hh => by
    obtain ⟨rfl, rfl, rfl⟩ := hh
    exact hK
theorem endK_no {P : Program} {rs : List ResultVar} {fr : List SV} {hp : LHeap} (h : endK P rs (fun _ _ => False) .ret fr hp) : False := by
  simp only [endK] at h
  split at h
  · exact h
  · exact h
theorem loop3 (n : Nat) (g : Nat → Nat → Int) {K : KC} (hK : K (.exit 0) (f3 n (sureV (playN false g (min n 60))) .top) (m3 n g (playN false g (min n 60)) (playN true g (min n 60)))) : CodeOK Try.prog 1 (.loop c3_4) (f3 n false (ni 0)) (m3 n g (newH false) (newH true)) K := by
  refine CodeOK.count (n := min n 60) (F := fun i => f3 n (sureV (playN false g i)) (ni i)) (H := fun i => m3 n g (playN false g i) (playN true g i)) (fun i hi => ?_) ?_ hK
  · refine CodeOK.lookE (C := C6) ec gs6 mixed (u := 0) (len := 93) (rs := Try.f3.results.toList) (L := L3) (M := M3) (Nat.le_add_left 1 2) (Q := at3 n g .normal (sureV (playN false g (i + 1))) (ni (i + 1 : Nat)) (playN false g (i + 1)) (playN true g (i + 1))) (kr := fun _ => False) ?_ ?_ fun fr hp h => ?_
    · show evalC C6 0 1 c3_4 (f3 n (sureV (playN false g i)) (ni i)) (m3 n g (playN false g i) (playN true g i)) (obsE Try.prog Try.f3.results.toList L3 M3 _ _)
      rw [p3c]
      simp only [Nat.zero_add, Int.toNat_natCast, cb (show (i : Int) < n by omega), cb (show (i : Int) < 60 by omega), cb (show i < n by omega), cond_true, Bool.and_true, i64n i (by omega)]
      intro h' e hh _ m' e' hm _
      obtain ⟨-, su, sm, va, cfq⟩ := sure_play g i
      rw [eta] at hh hm
      rw [← hh] at su va cfq
      rw [← hm] at sm cfq
      rw [eta h', eta m', eta (playN false g i)]
      have e1 : playN false g (i + 1) = h' := hh.symm
      have e2 : playN true g (i + 1) = m' := hm.symm
      rw [sm, va, cfq, e1, e2]
      simp only [Bool.not_true, cond_false, bne_self_eq_false]
      unfold sureB at su
      repeat' (refine condSplit (fun q => ?_) fun q => ?_)
      all_goals first
        | (refine ⟨rfl, rfl, ids3 n g h' m', rfl, ?_, rfl⟩; simp_all [v3]; done)
        | (simp_all; done)
        | skip
    · rintro x vals B ⟨rfl, rfl, rfl⟩
      exact ⟨rfl, wk3 n g _ _ ⟨.inr rfl, .inr rfl, .inr rfl, .inr rfl, .inr rfl, .inr rfl, trivial⟩ rfl⟩
    · exact (endK_no h).elim
  · refine CodeOK.lookE (C := C6) ec gs6 mixed (u := 0) (len := 93) (rs := Try.f3.results.toList) (L := L3) (M := M3) (Nat.le_add_left 1 2) (Q := at3 n g (.exit 0) (sureV (playN false g (min n 60))) (ni (min n 60)) (playN false g (min n 60)) (playN true g (min n 60))) (kr := fun _ => False) ?_ ?_ fun fr hp h => (endK_no h).elim
    · show evalC C6 0 1 c3_4 (f3 n (sureV (playN false g (min n 60))) (ni (min n 60))) (m3 n g (playN false g (min n 60)) (playN true g (min n 60))) (obsE Try.prog Try.f3.results.toList L3 M3 _ _)
      rw [p3c]
      by_cases h : n ≤ 60
      · rw [cf (show ¬ ((min n 60 : Nat) : Int) < n by omega)]
        exact ⟨rfl, rfl, ids3 n g (playN false g (min n 60)) (playN true g (min n 60)), rfl, rfl, rfl⟩
      · rw [cb (show ((min n 60 : Nat) : Int) < n by omega), cf (show ¬ ((min n 60 : Nat) : Int) < 60 by omega)]
        exact ⟨rfl, rfl, ids3 n g (playN false g (min n 60)) (playN true g (min n 60)), rfl, rfl, rfl⟩
    · rintro x vals B ⟨rfl, rfl, rfl⟩
      exact ⟨rfl, wk3 n g _ _ ⟨.inr rfl, .inr rfl, .inr rfl, .inr rfl, .inr rfl, .inl rfl, trivial⟩ rfl⟩
theorem canon3 (n : Nat) (g : Nat → Nat → Int) : Canon Try.prog 3 [.slice 0 0 2 n] [some (bD n g)] fun v _ => v = .bool true := by
  refine CodeOK.body Try.func3 (by kernel_rfl) ?_
  rw [code3]
  refine CodeOK.frontN (C := C6) ec gs6 mixed (u := 0) (len := 93) (L := L3) (M := M3) [c3_0, c3_1, c3_2] (Nat.le_add_left 1 2) (Q := at3 n g .normal false .top (newH false) (newH true)) ?_ ?_
  · show evalC C6 0 1 (.seq c3_0 (.seq c3_1 (.seq c3_2 .skip))) (enterS 93 _) _ _
    rw [p3a]
    exact ⟨rfl, rfl, ids3 n g (newH false) (newH true), rfl, rfl, rfl⟩
  rintro x vals B ⟨rfl, rfl, rfl⟩
  refine CodeOK.seq (CodeOK.seq (step3 (n := n) (g := g) (b := false) (i := ni 0) (h := newH false) (m := newH true) .normal ?_ (CodeOK.block (loop3 n g ?_))))
  · show evalC C6 0 1 c3_3 (f3 n false .top) (m3 n g (newH false) (newH true)) _
    rw [p3b]
    exact ⟨rfl, rfl, ids3 n g (newH false) (newH true), rfl, rfl, rfl⟩
  show CodeOK Try.prog 1 c3_5 (f3 n (sureV (playN false g (min n 60))) .top) (m3 n g (playN false g (min n 60)) (playN true g (min n 60))) (endK Try.prog Try.f3.results.toList _)
  refine CodeOK.eval (C := C6) ec gs6 mixed 0 ?_
  show evalC C6 0 1 c3_5 (f3 n (sureV (playN false g (min n 60))) .top) (m3 n g (playN false g (min n 60)) (playN true g (min n 60))) (endK Try.prog Try.f3.results.toList fun v _ => v = .bool true)
  rw [p3d n g _ _ _ (fun v => v = .bool true)]
end
/-- A slice of pairs of numbers that came in. -/
def IsPairs (w : World) (a : Option Addr) (len cap : Nat) : Prop :=
  len = 0 ∨ ∃ x : Addr, a = some x ∧ len ≤ cap ∧ ∀ r, r < len → ∀ j, j < 2 → ∃ n : Int, w.cell? (x.add (r * 2 + j)) = some (.int .i64 n)
def numAt : Option Value → Int
  | some (.int _ n) => n
  | _ => 0
theorem IsPairs.at {w : World} {a : Option Addr} {len cap : Nat} (h : IsPairs w a len cap) (hp : 0 < len) : ∃ (b off : Nat) (g : Nat → Nat → Int), a = some ⟨b, off, none⟩ ∧ len ≤ cap ∧ ∀ φ : Phi, BAt φ ⟨b, off, cap⟩ (bD len g) w := by
  rcases h with h | ⟨x, rfl, hl, hc⟩
  · omega
  · obtain ⟨n0, hn0⟩ := hc 0 hp 0 (by omega)
    have hn0 : w.cell? x = some (.int .i64 n0) := by simpa [Addr.add] using hn0
    obtain ⟨blk, off, spot⟩ := x
    have hs : spot = none := by simpa using World.cell?_spot hn0
    subst hs
    unfold World.cell? at hn0
    split at hn0
    · rename_i c ty fz hb
      have hcell : ∀ r, r < len → ∀ j, j < 2 → ∃ n : Int, c[off + (r * 2 + j)]? = some (.int .i64 n) := by
        intro r hr j hj
        obtain ⟨n, hn⟩ := hc r hr j hj
        refine ⟨n, ?_⟩
        have e : (⟨blk, off, none⟩ : Addr).add (r * 2 + j) = ⟨blk, off + (r * 2 + j), none⟩ := by
          unfold Addr.add
          split
          · rename_i h; rw [h]; rfl
          · rfl
        rw [e] at hn
        unfold World.cell? at hn
        rw [hb] at hn
        simpa using hn
      refine ⟨blk, off, fun r j => numAt c[off + (r * 2 + j)]?, rfl, hl, fun φ => ⟨c, ty, fz, hb, (fun h => nomatch h), fun r hr => ⟨?_, rfl⟩⟩⟩
      have hr : r < len := hr
      obtain ⟨a0, q0⟩ := hcell r hr 0 (by omega)
      obtain ⟨a1, q1⟩ := hcell r hr 1 (by omega)
      have e : (c.toList.drop (off + r * 2)).take 2 = [.int .i64 a0, .int .i64 a1] := by
        apply List.ext_getElem?
        intro j
        rw [List.getElem?_take]
        rcases j with _ | _ | j
        · simpa [Nat.add_assoc] using q0
        · simpa [Nat.add_assoc] using q1
        · simp only [show ¬ (j + 1 + 1 < 2) by omega, if_false]
          rfl
      show RL φ [.int .i64 (numAt c[off + (r * 2 + 0)]?), .int .i64 (numAt c[off + (r * 2 + 1)]?)] ((c.toList.drop (off + r * 2)).take 2)
      rw [e, q0, q1]
      simp [RL, R, numAt]
    · cases hn0
/-- A law over a slice of pairs. -/
theorem lawP {f : FuncId} {pre post : List SV} {vpre vpost : List Value} (h1 : ∀ φ, RL φ pre vpre) (h2 : ∀ φ, RL φ post vpost) (hcan : ∀ n g, 0 < n → Canon Try.prog f (pre ++ .slice 0 0 2 n :: post) [some (bD n g)] fun v _ => v = .bool true)
    (hnil : Canon Try.prog f (pre ++ .eslice :: post) [] fun v _ => v = .bool true) {a : Option Addr} {len cap : Nat} {w : World} (h : IsPairs w a len cap) :
    Calls Try.prog f (vpre ++ .slice a len cap :: vpost).toArray w fun e w' => e = .returned (.bool true) ∧ Below w.heap.size w w' := by
  rcases Nat.eq_zero_or_pos len with h0 | hp
  · subst h0
    exact lawOf hnil ((h1 _).append (RL.cons (by simp [R]) (h2 _))) w
  · obtain ⟨b, off, g, rfl, hl, hB⟩ := h.at hp
    refine lawOfR (hcan len g hp) (fun id b hb => ?_) (φ := fun id => if id = 0 then some ⟨b, off, cap⟩ else none) (w := w) (fun id hid => ?_) (fun id b' hb' => ?_) ?_
    · cases id with
      | zero => simp [hget] at hb; subst hb; rfl
      | succ id => simp [hget] at hb
    · have : id ≠ 0 := by simp at hid; omega
      simp [this]
    · cases id with
      | succ id => simp [hget] at hb'
      | zero =>
        simp [hget] at hb'
        subst hb'
        exact ⟨_, rfl, hB _⟩
    · refine (h1 _).append (RL.cons ?_ (h2 _))
      simp [R]
      omega
theorem sure_any (s : Option Addr) (len cap : Nat) (w : World) (h : IsPairs w s len cap) : Calls Try.prog 3 #[.slice s len cap] w fun e w' => e = .returned (.bool true) ∧ Below w.heap.size w w' := by
  refine lawP (pre := []) (post := []) (vpre := []) (vpost := []) (by simp [RL]) (by simp [RL]) (fun n g _ => canon3 n g) (CodeOK.body Try.func3 (by kernel_rfl) (CodeOK.eval (C := C6) ec gs6 mixed 64 ?_)) h
  show evalC C6 64 0 (bodF Try.f3) (enterS 93 [.eslice]) [] (endK Try.prog Try.f3.results.toList fun v _ => v = .bool true)
  rw [e3 (fun v => v = .bool true)]
end Go.Proofs.Ytllkhfabfcpieaa
