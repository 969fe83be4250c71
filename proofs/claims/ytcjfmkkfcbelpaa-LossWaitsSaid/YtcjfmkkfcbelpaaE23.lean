/-
  A small engine for walks, part 23: contracts of functions that also let blocks go (lists that grow).
-/
import Derived.Test.YtcjfmkkfcbelpaaE22
namespace Go.Proofs.Ytcjfmkkfcbelpaa
open Go.RowKit

/-- What a function leaves, by the caller's names. -/
structure FinOK2 (ψ : List Nat) (hp1 : LHeap) (base : Nat) (v : SV) (wr : Wr) (news : List Blk) (v' : SV) (hp2 : LHeap) (τ : List Nat) : Prop where
  len : τ.length = news.length
  lo : ∀ t ∈ τ, hp1.length ≤ t
  inj : ∀ (i j x : Nat), τ[i]? = some x → τ[j]? = some x → i = j
  val : ren (back ψ τ base) v = some v'
  nw : ∀ (j : Nat) (b : Blk), news[j]? = some b → b.rw = true ∧ ∃ i b2, τ[j]? = some i ∧ hget hp2 i = some b2 ∧ WB (back ψ τ base) b b2
  wrs : ∀ (id : Nat) (b : Blk), lk wr id = some (some b) → ∃ i b2 b1, ψ[i]? = some id ∧ b.rw = true ∧ hget hp1 i = some b1 ∧ b1.rw = true ∧ hget hp2 i = some b2 ∧ WB (back ψ τ base) b b2
  all : ∀ (i : Nat) (b1 : Blk), hget hp1 i = some b1 → b1.rw = true → ∃ x, ψ[i]? = some x ∧ (lk wr x = some none ∨ ∃ b b2, lk wr x = some (some b) ∧ hget hp2 i = some b2 ∧ b2.rw = true)

theorem CSim.gen2 {P : Program} {f : FuncId} {args : List SV} {h : Heap} {v : SV} {wr : Wr} {news : List Blk} (hcall : ∀ vs w, (callFunc f vs).run P w = .ok (.enter f vs) w) (args1 : List SV) (hp1 : LHeap) (ψ : List Nat) (hl : ψ.length = hp1.length)
    {base : Nat} (hinj : ∀ (i j x : Nat), ψ[i]? = some x → ψ[j]? = some x → i = j) {K : KV}
    (hcan : Canon P f args1 hp1 K) (ha : renL (fun i => ψ[i]?) args1 = some args) (hb : ∀ (i : Nat) (b1 : Blk), hget hp1 i = some b1 → ∃ x b, ψ[i]? = some x ∧ h x = some b ∧ WB (fun i => ψ[i]?) b1 b)
    (hfin : ∀ v' hp2, K v' hp2 → ∃ τ, FinOK2 ψ hp1 base v wr news v' hp2 τ) : CSim P f args h base v wr news := by
  refine ⟨hcall, fun g φ w vs hr has hf hm0 => ?_⟩
  have hr1 : HRep (liftG (φ.via fun i => ψ[i]?) (hget hp1) w hp1.length) (φ.via fun i => ψ[i]?) (hget hp1) w := by
    refine ⟨fun id b e => ?_, fun i j bi bj li lj hi hj hne hrw pi pj => ?_, fun id b l e hrw hp => .inl ⟨id, b, l, e, hrw, hp, rfl⟩, rfl, rfl, rfl, Nat.le_refl _, fun _ _ _ => rfl, fun _ _ => rfl⟩
    · obtain ⟨x, b', q1, q2, q3⟩ := hb id b e
      obtain ⟨l, p1, p2⟩ := hr.blk x b' q2
      exact ⟨l, by simp [Phi.via, q1, p1], p2.via q3⟩
    · obtain ⟨x, bx, q1, q2, q3⟩ := hb i bi hi
      obtain ⟨y, by', p1, p2, p3⟩ := hb j bj hj
      simp only [Phi.via, q1] at pi
      simp only [Phi.via, p1] at pj
      refine hr.sep x y bx by' li lj q2 p2 ?_ (q3.rw hrw) pi pj
      rintro rfl
      exact hne (hinj i j x q1 p1)
  refine (hcan (φ.via fun i => ψ[i]?) w vs hr1 (RL.via ha has) fun id hid => ?_).mono ?_
  · have : ψ[id]? = none := List.getElem?_eq_none (by omega)
    simp [Phi.via, this]
  rintro e w' ⟨u, φ', v', hp2, rfl, hK, hv, q4⟩
  obtain ⟨τ, F⟩ := hfin v' hp2 hK
  -- the names behind the call
  let φ2 : Phi := fun id => if base ≤ id ∧ id < base + news.length then (τ[id - base]?).bind φ' else φ id
  have φ2old : ∀ id, ¬ (base ≤ id ∧ id < base + news.length) → φ2 id = φ id := fun id h => if_neg h
  have φ2new : ∀ id, base ≤ id → id < base + news.length → φ2 id = (τ[id - base]?).bind φ' := fun id h1 h2 => if_pos ⟨h1, h2⟩
  have hidx : ∀ i x, ψ[i]? = some x → i < hp1.length := fun i x e => by
    rw [← hl]; exact (List.getElem?_eq_some_iff.1 e).1
  have hφ' : ∀ i x, ψ[i]? = some x → φ' i = φ x := fun i x e => by
    have := q4.ids i (hidx i x e)
    rw [this]
    simp [liftG, Phi.via, e]
  have hle : φ.le φ2 := fun id l e => by
    by_cases hc : base ≤ id ∧ id < base + news.length
    · have := hf (id - base) (by omega)
      rw [show base + (id - base) = id by omega] at this
      rw [this] at e; cases e
    · rw [φ2old id hc]; exact e
  have hvia : (φ'.via (back ψ τ base)).le φ2 := fun id l e => by
    simp only [Phi.via] at e
    split at e
    · rename_i i hi
      rcases back_cases hi with ⟨h1, h2, h3⟩ | ⟨h1, h2⟩
      · rw [F.len] at h2
        rw [φ2new id h1 h2, h3]; exact e
      · rw [F.len] at h1
        rw [φ2old id h1, ← hφ' i id h2]; exact e
    · cases e
  have hold : ∀ k, k < w.heap.size → (∀ i b1 l x, hget hp1 i = some b1 → b1.rw = true → ψ[i]? = some x → φ x = some l → l.blk ≠ k) → w'.heap[k]? = w.heap[k]? := fun k hk hn => q4.old k hk (by
    rintro ⟨i, b1, l, e1, e2, e3, e4⟩
    obtain ⟨x, b, p1, _, _⟩ := hb i b1 e1
    simp only [Phi.via, p1] at e3
    exact hn i b1 l x e1 e2 p1 e3 e4)
  have hnewloc : ∀ t b2 l, hp1.length ≤ t → hget hp2 t = some b2 → b2.rw = true → φ' t = some l → w.heap.size ≤ l.blk ∨ ∃ i b1 x d l0, hget hp1 i = some b1 ∧ b1.rw = true ∧ ψ[i]? = some x ∧ h x = some d ∧ d.rw = true ∧ φ x = some l0 ∧ l.blk = l0.blk := fun t b2 l ht e1 e2 e3 => by
    rcases q4.own t b2 l e1 e2 e3 with ⟨i, b1, l0, p1, p2, p3, p4⟩ | h1
    · obtain ⟨x, r1, hor⟩ := F.all i b1 p1 p2
      have hi := hidx i x r1
      rcases hor with hn | ⟨b, b2', _, r2, r3⟩
      · obtain ⟨x', d, s1, s2, s3⟩ := hb i b1 p1
        rw [r1] at s1; cases s1
        have p3' : φ x = some l0 := (hφ' i x r1).symm.trans ((q4.ids i hi).trans p3)
        exact .inr ⟨i, b1, x, d, l0, p1, p2, r1, s2, s3.rw p2, p3', p4.symm⟩
      · exfalso
        have p3' : φ' i = some l0 := (q4.ids i hi).trans p3
        exact q4.sep i t b2' b2 l0 l r2 e1 (by omega) r3 p3' e3 p4
    · exact .inl h1
  -- each block behind the call is the function's, or as it was
  have cls : ∀ id b, updH h base wr news id = some b →
      (b.rw = true ∧ ∃ c b2, hget hp2 c = some b2 ∧ b2.rw = true ∧ WB (back ψ τ base) b b2 ∧ φ2 id = φ' c ∧
        ((base ≤ id ∧ τ[id - base]? = some c ∧ hp1.length ≤ c) ∨ (ψ[c]? = some id ∧ c < hp1.length ∧ φ2 id = φ id ∧ ∃ d, h id = some d ∧ d.rw = true))) ∨
      (φ2 id = φ id ∧ h id = some b ∧ (∀ i b1, hget hp1 i = some b1 → b1.rw = true → ψ[i]? = some id → False)) := by
    intro id b e
    unfold updH at e
    by_cases hc : base ≤ id ∧ id < base + news.length
    · rw [if_pos hc] at e
      obtain ⟨h1, i, b2, h2, h3, h4⟩ := F.nw _ _ e
      refine .inl ⟨h1, i, b2, h3, h4.rw h1, h4, ?_, .inl ⟨hc.1, h2, F.lo i (List.mem_of_getElem? h2)⟩⟩
      rw [φ2new id hc.1 hc.2, h2]; rfl
    · rw [if_neg hc] at e
      cases hk : lk wr id with
      | some ob =>
        rw [hk, Option.getD_some] at e
        subst e
        obtain ⟨i, b2, b1, h1, h3, h4, h5, h6, h7⟩ := F.wrs id b hk
        obtain ⟨x, d, p1, p2, p3⟩ := hb i b1 h4
        rw [h1] at p1; cases p1
        exact .inl ⟨h3, i, b2, h6, h7.rw h3, h7, (φ2old id hc).trans (hφ' i id h1).symm, .inr ⟨h1, hidx i id h1, φ2old id hc, d, p2, p3.rw h5⟩⟩
      | none =>
        rw [hk, Option.getD_none] at e
        refine .inr ⟨φ2old id hc, e, fun i b1 e1 e2 e3 => ?_⟩
        obtain ⟨x, p1, p2⟩ := F.all i b1 e1 e2
        rw [e3] at p1; cases p1
        rcases p2 with p2 | ⟨_, _, p2, _⟩ <;> (rw [hk] at p2; cases p2)
  have sep1 : ∀ i j bi bj li lj, updH h base wr news i = some bi → updH h base wr news j = some bj → i ≠ j → (bi.rw = true ∨ bj.rw = true) → φ2 i = some li → φ2 j = some lj → li.blk ≠ lj.blk := by
    have mixed : ∀ i j bj li lj c b2, hget hp2 c = some b2 → b2.rw = true → φ2 i = φ' c → ((base ≤ i ∧ τ[i - base]? = some c ∧ hp1.length ≤ c) ∨ (ψ[c]? = some i ∧ c < hp1.length ∧ φ2 i = φ i ∧ ∃ d, h i = some d ∧ d.rw = true)) →
        h j = some bj → φ2 j = φ j → (∀ i b1, hget hp1 i = some b1 → b1.rw = true → ψ[i]? = some j → False) → i ≠ j → φ2 i = some li → φ2 j = some lj → li.blk ≠ lj.blk := by
      intro i j bj li lj c b2 h1 h2 h3 h4 h5 h6 h7 hne pi pj
      rw [h6] at pj
      rcases h4 with ⟨_, _, q3⟩ | ⟨_, _, q5, d, q6, q7⟩
      · rw [h3] at pi
        rcases hnewloc c b2 li q3 h1 h2 pi with hw | ⟨i0, b1, x, d, l0, s1, s2, s3, s4, s5, s6, s7⟩
        · obtain ⟨l, r1, r2⟩ := hr.blk j bj h5
          rw [pj] at r1; cases r1
          have := r2.lt
          omega
        · rw [s7]
          exact hr.sep x j d bj l0 lj s4 h5 (by rintro rfl; exact h7 i0 b1 s1 s2 s3) s5 s6 pj
      · rw [q5] at pi
        exact hr.sep i j d bj li lj q6 h5 hne q7 pi pj
    intro i j bi bj li lj hi hj hne hrw pi pj
    rcases cls i bi hi with ⟨a1, c, b2, a2, a3, a4, a5, a6⟩ | ⟨a1, a2, a3⟩ <;> rcases cls j bj hj with ⟨d1, c', b2', d2, d3, d4, d5, d6⟩ | ⟨d1, d2, d3⟩
    · have hcc : c ≠ c' := by
        rintro rfl
        rcases a6 with ⟨a7, a8, a9⟩ | ⟨a8, a9, _⟩ <;> rcases d6 with ⟨d7, d8, d9⟩ | ⟨d8, d9, _⟩
        · have := F.inj _ _ _ a8 d8
          omega
        · omega
        · omega
        · rw [a8] at d8; cases d8; exact hne rfl
      rw [a5] at pi
      rw [d5] at pj
      exact q4.sep c c' b2 b2' li lj a2 d2 hcc a3 pi pj
    · exact mixed i j bj li lj c b2 a2 a3 a5 a6 d2 d1 d3 hne pi pj
    · exact fun e => mixed j i bi lj li c' b2' d2 d3 d5 d6 a2 a1 a3 (Ne.symm hne) pj pi e.symm
    · rw [a1] at pi
      rw [d1] at pj
      rcases hrw with hrw | hrw
      · exact hr.sep i j bi bj li lj a2 d2 hne hrw pi pj
      · exact fun e => hr.sep j i bj bi lj li d2 a2 (Ne.symm hne) hrw pj pi e.symm
  refine ⟨u, φ2, rfl, hle, fun id => ?_, (R.via F.val hv).mono hvia, fun id b e => ?_, fun i j bi bj li lj hi hj hne hrw pi pj => sep1 i j bi bj li lj hi hj hne (.inl hrw) pi pj, fun id b l e hrw hp => ?_, q4.os.trans hr.os, q4.tape.trans hr.tape, q4.output.trans hr.output, Nat.le_trans hr.size q4.size, fun k hk hS => ?_, fun id hid => ?_⟩
  · by_cases hc : base ≤ id ∧ id < base + news.length
    · exact .inr hc
    · exact .inl (φ2old id hc)
  · rcases cls id b e with ⟨a1, c, b2, a2, a3, a4, a5, a6⟩ | ⟨a1, a2, a3⟩
    · obtain ⟨l, p1, p2⟩ := q4.blk c b2 a2
      exact ⟨l, a5.trans p1, (p2.via a4).mono hvia⟩
    · obtain ⟨l, p1, p2⟩ := hr.blk id b a2
      refine ⟨l, a1.trans p1, (p2.mono hle).same (hold l.blk p2.lt fun i b1 l' x e1 e2 e3 e4 => ?_)⟩
      obtain ⟨x', d, r1, r2, r3⟩ := hb i b1 e1
      rw [e3] at r1; cases r1
      exact hr.sep x id d b l' l r2 a2 (by rintro rfl; exact a3 i b1 e1 e2 e3) (r3.rw e2) e4 p1
  · rcases cls id b e with ⟨a1, c, b2, a2, a3, a4, a5, a6⟩ | ⟨a1, a2, a3⟩
    · rcases a6 with ⟨_, _, q3⟩ | ⟨_, _, q5, d, q6, q7⟩
      · rcases hnewloc c b2 l q3 a2 a3 (a5.symm.trans hp) with hw | ⟨i0, b1, x, d, l0, s1, s2, s3, s4, s5, s6, s7⟩
        · exact .inr (Nat.le_trans hr.size hw)
        · rw [s7]
          exact hr.own x d l0 s4 s5 s6
      · exact hr.own id d l q6 q7 (q5.symm.trans hp)
    · exact hr.own id b l a2 hrw (a1.symm.trans hp)
  · refine (hold k (Nat.lt_of_lt_of_le hk hr.size) fun i b1 l x e1 e2 e3 e4 => ?_).trans (hr.old k hk hS)
    rintro rfl
    obtain ⟨x', d, r1, r2, r3⟩ := hb i b1 e1
    rw [e3] at r1; cases r1
    rcases hr.own x d l r2 (r3.rw e2) e4 with h1 | h1
    · exact hS h1
    · omega
  · rw [φ2old id (by omega)]
    exact hr.ids id hid
end Go.Proofs.Ytcjfmkkfcbelpaa
