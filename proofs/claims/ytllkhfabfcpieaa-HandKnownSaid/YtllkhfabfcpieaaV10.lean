/-
  Chapter 16 by the engine: the document's handshake: contracts of its functions that write.
-/
import Derived.Test.YtllkhfabfcpieaaV9
namespace Go.Proofs.Ytllkhfabfcpieaa
open Go.RowKit
theorem zipW_nil : ∀ l : List Nat, zipW l [] = []
  | [] => rfl
  | _ :: _ => rfl
theorem zip2 (a b : Nat) (l : List Nat) (x y : Option Blk) : [(a, x), (b, y)] = zipW (a :: b :: l) [x, y] := by simp only [zipW, zipW_nil]
theorem ren_sl {ρ : Ren} {id i r s n : Nat} (h : ρ id = some i) : ren ρ (.slice id r s n) = some (.slice i r s n) := by simp only [ren, h]
theorem inj3 {a b c : Nat} (h1 : a ≠ b) (h2 : a ≠ c) (h3 : b ≠ c) : ∀ (i j x : Nat), [a, b, c][i]? = some x → [a, b, c][j]? = some x → i = j := by
  intro i j x e1 e2
  match i, j with
  | 0, 0 => rfl
  | 1, 1 => rfl
  | 2, 2 => rfl
  | 0, 1 => simp at e1 e2; omega
  | 0, 2 => simp at e1 e2; omega
  | 1, 0 => simp at e1 e2; omega
  | 1, 2 => simp at e1 e2; omega
  | 2, 0 => simp at e1 e2; omega
  | 2, 1 => simp at e1 e2; omega
  | i + 3, _ => simp at e1
  | 0, j + 3 => simp at e2
  | 1, j + 3 => simp at e2
  | 2, j + 3 => simp at e2
/-- The other list: none, or in a block of its own. -/
structure GV (h : Heap) (id ix base : Nat) (o o1 : SV) (ids : List Nat) (ro : LHeap) : Prop where
  len : ids.length = ro.length
  inj : ∀ (i j x : Nat), (id :: ix :: ids)[i]? = some x → (id :: ix :: ids)[j]? = some x → i = j
  fw : ren (fun i => (id :: ix :: ids)[i]?) o1 = some o
  bk : ∀ τ, ren (back (id :: ix :: ids) τ base) o = some o1
  wb : ∀ (i : Nat) (b1 : Blk), hget ro i = some b1 → b1.rw = false ∧ ∃ x b, ids[i]? = some x ∧ h x = some b ∧ WB (fun i => (id :: ix :: ids)[i]?) b1 b
theorem gv_n {h : Heap} {id ix base : Nat} (hne : id ≠ ix) : GV h id ix base .nilSlice .nilSlice [] [] :=
  ⟨rfl, inj2 hne, rfl, fun _ => rfl, fun i b1 e => by rw [nob] at e; cases e⟩
theorem gv_s {h : Heap} {id ix io no base : Nat} {b : Blk} (h1 : id ≠ ix) (h2 : id ≠ io) (h3 : ix ≠ io) (hb : h io = some b) (hi : IsI b no) (hlt : io < base) : GV h id ix base (.slice io 0 1 no) (.slice 2 0 1 no) [io] [some (bF (fun r => rI (b.rd r)) no)] :=
  ⟨rfl, inj3 h1 h2 h3, rfl, fun τ => ren_sl (back_old (inj3 h1 h2 h3) (i := 2) rfl hlt), fun i b1 e => by
    match i, e with
    | 0, e =>
      obtain rfl := Option.some.inj (show some (bF (fun r => rI (b.rd r)) no) = some b1 from e)
      exact ⟨rfl, io, b, rfl, hb, hi.wb _⟩
    | i + 1, e => exact nomatch (show (none : Option Blk) = some b1 from e)⟩
/-- A struct of two lists. -/
structure Cl (cells : SV → SV → List SV) : Prop where
  wl : ∀ (ρ : Ren) (x x1 o o1 : SV), ren ρ x = some x1 → ren ρ o = some o1 → WL ρ (cells x o) (cells x1 o1)
  len : ∀ x o, (cells x o).length = 6
theorem cl_k (sv va cf an : Bool) : Cl fun x o => mC sv x o va cf an := ⟨fun _ _ _ _ _ h1 h2 => ⟨.inr rfl, .inr h1, .inr h2, .inr rfl, .inr rfl, .inr rfl, trivial⟩, fun _ _ => rfl⟩
theorem cl_g (sv va cf an : Bool) : Cl fun x o => mC sv o x va cf an := ⟨fun _ _ _ _ _ h1 h2 => ⟨.inr rfl, .inr h2, .inr h1, .inr rfl, .inr rfl, .inr rfl, trivial⟩, fun _ _ => rfl⟩
theorem wb_one {ρ : Ren} {c c2 : List SV} {b2 : Blk} (hl : c.length = b2.sz) (h2 : b2.n = 1) (h3 : b2.rw = true) (h4 : b2.ty = 57) (h5 : b2.rd 0 = c2) (hw : WL ρ c c2) : WB ρ (oneB c true 57) b2 :=
  ⟨hl, by rw [h2]; exact Nat.le_refl _, fun _ => h3, fun _ => h4.symm, fun r hr => by
    obtain rfl : r = 0 := by have : r < 1 := hr; omega
    rw [h5]; exact hw⟩
section
variable {f : FuncId} {rest : List SV} {h : Heap} {id ix n base : Nat} {o o1 : SV} {ids : List Nat} {ro : LHeap} {cells cells' : SV → SV → List SV} {b bx : Blk} {V : SV}
/-- The struct is written, its lists are read. -/
theorem mwrite (hcall : ∀ vs w, (callFunc f vs).run Try.prog w = .ok (.enter f vs) w) (hcl : Cl cells) (hcl' : Cl cells') (hb : h id = some b) (h1 : b.sz = 6) (h2 : b.n = 1) (h3 : b.rw = true) (h4 : b.ty = 57) (h5 : b.rd 0 = cells (.slice ix 0 1 n) o) (hx : h ix = some bx) (hi : IsI bx n) (hlt : ix < base) (g : GV h id ix base o o1 ids ro)
    (hcan : Canon Try.prog f (.ptr 0 0 6 0 :: rest) (some (oneB (cells (.slice 1 0 1 n) o1) true 57) :: some (bF (fun r => rI (bx.rd r)) n) :: ro) fun v' hp => v' = V ∧ obsB true (hget hp 0) = .rows 6 1 true 57 [cells' (.slice 1 0 1 n) o1])
    (hr : svIdsL rest = []) (hv : svIds V = []) : CSim Try.prog f (.ptr id 0 6 0 :: rest) h base V [(id, some (oneB (cells' (.slice ix 0 1 n) o) true 57))] [] := by
  refine CSim.zip (outs := [some (oneB (cells' (.slice ix 0 1 n) o) true 57)]) hcall _ _ (id :: ix :: ids) (by simp [g.len]) g.inj hcan ?_ (fun i b1 e => ?_) (fun i b1 e hrw => ?_) (fun i hi => ?_) fun v' hp2 hk => ?_
  · simp only [renL, ren, renL_id_of hr]
    rfl
  · match i, e with
    | 0, e =>
      obtain rfl := Option.some.inj (show some (oneB (cells (.slice 1 0 1 n) o1) true 57) = some b1 from e)
      exact ⟨id, b, rfl, hb, wb_one ((hcl.len _ _).trans h1.symm) h2 h3 h4 h5 (hcl.wl _ _ _ _ _ rfl g.fw)⟩
    | 1, e =>
      obtain rfl := Option.some.inj (show some (bF (fun r => rI (bx.rd r)) n) = some b1 from e)
      exact ⟨ix, bx, rfl, hx, hi.wb _⟩
    | i + 2, e =>
      obtain ⟨_, x, b, q1, q2, q3⟩ := g.wb i b1 e
      exact ⟨x, b, q1, q2, q3⟩
  · match i, e with
    | 0, _ => exact ⟨id, rfl, by simp⟩
    | 1, e =>
      obtain rfl := Option.some.inj (show some (bF (fun r => rI (bx.rd r)) n) = some b1 from e)
      exact nomatch (show (false : Bool) = true from hrw)
    | i + 2, e => rw [(g.wb i b1 e).1] at hrw; exact nomatch hrw
  · match i, hi with
    | 0, _ => exact ⟨_, rfl, rfl⟩
  · obtain ⟨rfl, ho⟩ := hk
    obtain ⟨b2, e1, e2, e3, e4, e5, e6⟩ := obsB_rows ho
    refine ⟨[], rfl, by simp, fun i j x q => by simp at q, ren_id_of hv _, fun j b q => by simp at q, fun i b q => ?_⟩
    match i, q with
    | 0, q =>
      obtain rfl := Option.some.inj (Option.some.inj (show some (some (oneB (cells' (.slice ix 0 1 n) o) true 57)) = some (some b) from q))
      exact ⟨rfl, b2, e1, wb_one ((hcl'.len _ _).trans e2.symm) e3 e4 e5 e6 (hcl'.wl _ _ _ _ _ (ren_sl (back_old g.inj (i := 1) rfl hlt)) (g.bk _))⟩
    | i + 1, q => simp at q
/-- Both stay as they were, the list may be written. -/
theorem mkeep (hcall : ∀ vs w, (callFunc f vs).run Try.prog w = .ok (.enter f vs) w) (hcl : Cl cells) (hb : h id = some b) (h1 : b.sz = 6) (h2 : b.n = 1) (h3 : b.rw = true) (h4 : b.ty = 57) (h5 : b.rd 0 = cells (.slice ix 0 1 n) o) (hx : h ix = some bx) (hxw : bx.rw = true) (hxt : bx.ty = 3) (hi : IsI bx n) (hlt : ix < base) (g : GV h id ix base o o1 ids ro)
    (hcan : Canon Try.prog f (.ptr 0 0 6 0 :: rest) (some (oneB (cells (.slice 1 0 1 n) o1) true 57) :: some (bFw (fun r => rI (bx.rd r)) n) :: ro) fun v' hp => v' = V ∧ obsB true (hget hp 0) = .rows 6 1 true 57 [cells (.slice 1 0 1 n) o1] ∧ hget hp 1 = some (bFw (fun r => rI (bx.rd r)) n))
    (hr : svIdsL rest = []) (hv : svIds V = []) : CSim Try.prog f (.ptr id 0 6 0 :: rest) h base V [(id, some (oneB (cells (.slice ix 0 1 n) o) true 57)), (ix, some (bFw (fun r => rI (bx.rd r)) n))] [] := by
  rw [zip2 id ix ids]
  refine CSim.zip (outs := [some (oneB (cells (.slice ix 0 1 n) o) true 57), some (bFw (fun r => rI (bx.rd r)) n)]) hcall _ _ (id :: ix :: ids) (by simp [g.len]) g.inj hcan ?_ (fun i b1 e => ?_) (fun i b1 e hrw => ?_) (fun i hi => ?_) fun v' hp2 hk => ?_
  · simp only [renL, ren, renL_id_of hr]
    rfl
  · match i, e with
    | 0, e =>
      obtain rfl := Option.some.inj (show some (oneB (cells (.slice 1 0 1 n) o1) true 57) = some b1 from e)
      exact ⟨id, b, rfl, hb, wb_one ((hcl.len _ _).trans h1.symm) h2 h3 h4 h5 (hcl.wl _ _ _ _ _ rfl g.fw)⟩
    | 1, e =>
      obtain rfl := Option.some.inj (show some (bFw (fun r => rI (bx.rd r)) n) = some b1 from e)
      exact ⟨ix, bx, rfl, hx, hi.wbw hxw hxt _⟩
    | i + 2, e =>
      obtain ⟨_, x, b, q1, q2, q3⟩ := g.wb i b1 e
      exact ⟨x, b, q1, q2, q3⟩
  · match i, e with
    | 0, _ => exact ⟨id, rfl, by simp⟩
    | 1, _ => exact ⟨ix, rfl, by simp⟩
    | i + 2, e => rw [(g.wb i b1 e).1] at hrw; exact nomatch hrw
  · match i, hi with
    | 0, _ => exact ⟨_, rfl, rfl⟩
    | 1, _ => exact ⟨_, rfl, rfl⟩
  · obtain ⟨rfl, ho, hg⟩ := hk
    obtain ⟨b2, e1, e2, e3, e4, e5, e6⟩ := obsB_rows ho
    refine ⟨[], rfl, by simp, fun i j x q => by simp at q, ren_id_of hv _, fun j b q => by simp at q, fun i b q => ?_⟩
    match i, q with
    | 0, q =>
      obtain rfl := Option.some.inj (Option.some.inj (show some (some (oneB (cells (.slice ix 0 1 n) o) true 57)) = some (some b) from q))
      exact ⟨rfl, b2, e1, wb_one ((hcl.len _ _).trans e2.symm) e3 e4 e5 e6 (hcl.wl _ _ _ _ _ (ren_sl (back_old g.inj (i := 1) rfl hlt)) (g.bk _))⟩
    | 1, q =>
      obtain rfl := Option.some.inj (Option.some.inj (show some (some (bFw (fun r => rI (bx.rd r)) n)) = some (some b) from q))
      exact ⟨rfl, _, hg, WB.of_rows rfl (Nat.le_refl _) (fun _ => rfl) (fun _ => rfl) fun _ _ => ⟨rfl, rfl⟩⟩
    | i + 2, q => simp at q
/-- A list in a block of its own. -/
structure IsA (A : Blk) (f : Nat → Int) (n : Nat) : Prop where
  sz : A.sz = 1
  len : A.n = n
  rw : A.rw = true
  ty : A.ty = 3
  rd : ∀ r, r < n → A.rd r = [.int .i64 (f r)]
theorem IsA.wb {A : Blk} {f : Nat → Int} {n : Nat} (hA : IsA A f n) (ρ : Ren) : WB ρ (bFw f n) A :=
  WB.of_rows hA.sz.symm (by rw [hA.len]; exact Nat.le_refl _) (fun _ => hA.rw) (fun _ => hA.ty.symm) fun r hr => ⟨(hA.rd r hr).symm, rfl⟩
/-- The list grows. -/
theorem mgrow (hcall : ∀ vs w, (callFunc f vs).run Try.prog w = .ok (.enter f vs) w) (hcl : Cl cells) (hb : h id = some b) (h1 : b.sz = 6) (h2 : b.n = 1) (h3 : b.rw = true) (h4 : b.ty = 57) (h5 : b.rd 0 = cells (.slice ix 0 1 n) o) (hx : h ix = some bx) (hxw : bx.rw = true) (hxt : bx.ty = 3) (hi : IsI bx n) (g : GV h id ix base o o1 ids ro) {t n' : Nat} {ff : Nat → Int} (ht : ro.length + 2 ≤ t)
    (hcan : Canon Try.prog f (.ptr 0 0 6 0 :: rest) (some (oneB (cells (.slice 1 0 1 n) o1) true 57) :: some (bFw (fun r => rI (bx.rd r)) n) :: ro) fun v' hp => v' = V ∧ obsB true (hget hp 0) = .rows 6 1 true 57 [cells (.slice t 0 1 n') o1] ∧ ∃ A, hget hp t = some A ∧ IsA A ff n')
    (hr : svIdsL rest = []) (hv : svIds V = []) : CSim Try.prog f (.ptr id 0 6 0 :: rest) h base V [(id, some (oneB (cells (.slice base 0 1 n') o) true 57)), (ix, none)] [bFw ff n'] := by
  rw [zip2 id ix ids]
  refine CSim.zip (outs := [some (oneB (cells (.slice base 0 1 n') o) true 57), none]) hcall _ _ (id :: ix :: ids) (by simp [g.len]) g.inj hcan ?_ (fun i b1 e => ?_) (fun i b1 e hrw => ?_) (fun i hi => ?_) fun v' hp2 hk => ?_
  · simp only [renL, ren, renL_id_of hr]
    rfl
  · match i, e with
    | 0, e =>
      obtain rfl := Option.some.inj (show some (oneB (cells (.slice 1 0 1 n) o1) true 57) = some b1 from e)
      exact ⟨id, b, rfl, hb, wb_one ((hcl.len _ _).trans h1.symm) h2 h3 h4 h5 (hcl.wl _ _ _ _ _ rfl g.fw)⟩
    | 1, e =>
      obtain rfl := Option.some.inj (show some (bFw (fun r => rI (bx.rd r)) n) = some b1 from e)
      exact ⟨ix, bx, rfl, hx, hi.wbw hxw hxt _⟩
    | i + 2, e =>
      obtain ⟨_, x, b, q1, q2, q3⟩ := g.wb i b1 e
      exact ⟨x, b, q1, q2, q3⟩
  · match i, e with
    | 0, _ => exact ⟨id, rfl, by simp⟩
    | 1, _ => exact ⟨ix, rfl, by simp⟩
    | i + 2, e => rw [(g.wb i b1 e).1] at hrw; exact nomatch hrw
  · match i, hi with
    | 0, _ => exact ⟨_, rfl, rfl⟩
    | 1, _ => exact ⟨_, rfl, rfl⟩
  · obtain ⟨rfl, ho, A, hg, hA⟩ := hk
    obtain ⟨b2, e1, e2, e3, e4, e5, e6⟩ := obsB_rows ho
    refine ⟨[t], rfl, by simpa using ht, inj1, ren_id_of hv _, fun j c q => ?_, fun i b q => ?_⟩
    · match j, q with
      | 0, q =>
        obtain rfl := Option.some.inj (show some (bFw ff n') = some c from q)
        exact ⟨rfl, t, A, rfl, hg, hA.wb _⟩
      | j + 1, q => simp at q
    · match i, q with
      | 0, q =>
        obtain rfl := Option.some.inj (Option.some.inj (show some (some (oneB (cells (.slice base 0 1 n') o) true 57)) = some (some b) from q))
        exact ⟨rfl, b2, e1, wb_one ((hcl.len _ _).trans e2.symm) e3 e4 e5 e6 (hcl.wl _ _ _ _ _ (ren_sl back_one) (g.bk _))⟩
      | 1, q => simp at q
      | i + 2, q => simp at q
/-- The other list begins. -/
theorem mbegin (hcall : ∀ vs w, (callFunc f vs).run Try.prog w = .ok (.enter f vs) w) (hcl : Cl cells) (hb : h id = some b) (h1 : b.sz = 6) (h2 : b.n = 1) (h3 : b.rw = true) (h4 : b.ty = 57) (h5 : b.rd 0 = cells (.slice ix 0 1 n) .nilSlice) (hx : h ix = some bx) (hi : IsI bx n) (hlt : ix < base) (hne : id ≠ ix) {t n' : Nat} {ff : Nat → Int} (ht : 2 ≤ t)
    (hcan : Canon Try.prog f (.ptr 0 0 6 0 :: rest) (some (oneB (cells (.slice 1 0 1 n) .nilSlice) true 57) :: some (bF (fun r => rI (bx.rd r)) n) :: []) fun v' hp => v' = V ∧ obsB true (hget hp 0) = .rows 6 1 true 57 [cells (.slice 1 0 1 n) (.slice t 0 1 n')] ∧ ∃ A, hget hp t = some A ∧ IsA A ff n')
    (hr : svIdsL rest = []) (hv : svIds V = []) (hb1 : ix + 1 ≤ base) : CSim Try.prog f (.ptr id 0 6 0 :: rest) h base V [(id, some (oneB (cells (.slice ix 0 1 n) (.slice base 0 1 n')) true 57))] [bFw ff n'] := by
  have g : GV h id ix base .nilSlice .nilSlice [] [] := gv_n hne
  refine CSim.zip (outs := [some (oneB (cells (.slice ix 0 1 n) (.slice base 0 1 n')) true 57)]) hcall _ _ [id, ix] rfl g.inj hcan ?_ (fun i b1 e => ?_) (fun i b1 e hrw => ?_) (fun i hi => ?_) fun v' hp2 hk => ?_
  · simp only [renL, ren, renL_id_of hr]
    rfl
  · match i, e with
    | 0, e =>
      obtain rfl := Option.some.inj (show some (oneB (cells (.slice 1 0 1 n) .nilSlice) true 57) = some b1 from e)
      exact ⟨id, b, rfl, hb, wb_one ((hcl.len _ _).trans h1.symm) h2 h3 h4 h5 (hcl.wl _ _ _ _ _ rfl rfl)⟩
    | 1, e =>
      obtain rfl := Option.some.inj (show some (bF (fun r => rI (bx.rd r)) n) = some b1 from e)
      exact ⟨ix, bx, rfl, hx, hi.wb _⟩
    | i + 2, e => exact nomatch (show (none : Option Blk) = some b1 from e)
  · match i, e with
    | 0, _ => exact ⟨id, rfl, by simp⟩
    | 1, e =>
      obtain rfl := Option.some.inj (show some (bF (fun r => rI (bx.rd r)) n) = some b1 from e)
      exact nomatch (show (false : Bool) = true from hrw)
    | i + 2, e => exact nomatch (show (none : Option Blk) = some b1 from e)
  · match i, hi with
    | 0, _ => exact ⟨_, rfl, rfl⟩
  · obtain ⟨rfl, ho, A, hg, hA⟩ := hk
    obtain ⟨b2, e1, e2, e3, e4, e5, e6⟩ := obsB_rows ho
    refine ⟨[t], rfl, by simpa using ht, inj1, ren_id_of hv _, fun j c q => ?_, fun i b q => ?_⟩
    · match j, q with
      | 0, q =>
        obtain rfl := Option.some.inj (show some (bFw ff n') = some c from q)
        exact ⟨rfl, t, A, rfl, hg, hA.wb _⟩
      | j + 1, q => simp at q
    · match i, q with
      | 0, q =>
        obtain rfl := Option.some.inj (Option.some.inj (show some (some (oneB (cells (.slice ix 0 1 n) (.slice base 0 1 n')) true 57)) = some (some b) from q))
        exact ⟨rfl, b2, e1, wb_one ((hcl.len _ _).trans e2.symm) e3 e4 e5 e6 (hcl.wl _ _ _ _ _ (ren_sl (back_old g.inj (i := 1) rfl hlt)) (ren_sl back_one))⟩
      | i + 1, q => simp at q
end
end Go.Proofs.Ytllkhfabfcpieaa
