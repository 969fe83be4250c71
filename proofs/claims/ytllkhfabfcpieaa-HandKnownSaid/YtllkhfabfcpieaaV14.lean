/-
  Chapter 16 by the engine: one call of both handshakes, by its contract.
-/
import Derived.Test.YtllkhfabfcpieaaV12
import Derived.Test.YtllkhfabfcpieaaV13
namespace Go.Proofs.Ytllkhfabfcpieaa
open Go.RowKit
set_option linter.unusedVariables false
/-- Both handshakes, to be written. -/
structure W0 (h : Heap) (hid id : Nat) (bh b : Blk) (hd : Hd) (sv : Bool) (ks gs : SV) (va cf an : Bool) : Prop where
  a1 : h hid = some bh
  a2 : bh.sz = 7
  a3 : bh.n = 1
  a4 : bh.rw = true
  a5 : bh.ty = 54
  a6 : bh.rd 0 = hC hd
  b1 : h id = some b
  b2 : b.sz = 6
  b3 : b.n = 1
  b4 : b.rw = true
  b5 : b.ty = 57
  b6 : b.rd 0 = mC sv ks gs va cf an
/-- A list of its own, to be written. -/
structure L0 (h : Heap) (id i base : Nat) (b : Blk) (n : Nat) : Prop where
  at_ : h i = some b
  w : b.rw = true
  t : b.ty = 3
  isI : IsI b n
  ne : id ≠ i
  lt : i < base
theorem only1 {A : Blk} {f : Nat → Int} {n : Nat} {hp : LHeap} {ρ : Ren} (e : hget hp 2 = some A) (hA : IsA A f n) : ∀ (i : Nat) (c : Blk), [some (bFw f n)][i]? = some (some c) → c.rw = true ∧ ∃ d, hget hp (i + 2) = some d ∧ WB ρ c d := fun i c q => by
  match i, q with
  | 0, q =>
    obtain rfl := Option.some.inj (Option.some.inj (show some (some (bFw f n)) = some (some c) from q))
    exact ⟨rfl, A, e, hA.wb _⟩
  | i + 1, q => simp at q
theorem only2 {o1 o2 : Option Blk} {hp : LHeap} {ρ : Ren} (h1 : ∀ c, o1 = some c → c.rw = true ∧ ∃ d, hget hp 2 = some d ∧ WB ρ c d) (h2 : ∀ c, o2 = some c → c.rw = true ∧ ∃ d, hget hp 3 = some d ∧ WB ρ c d) : ∀ (i : Nat) (c : Blk), [o1, o2][i]? = some (some c) → c.rw = true ∧ ∃ d, hget hp (i + 2) = some d ∧ WB ρ c d := fun i c q => by
  match i, q with
  | 0, q => exact h1 c (Option.some.inj (show some o1 = some (some c) from q))
  | 1, q => exact h2 c (Option.some.inj (show some o2 = some (some c) from q))
  | i + 2, q => simp at q
theorem isOne {A : Blk} {f : Nat → Int} {n i : Nat} {hp : LHeap} {ρ : Ren} (e : hget hp i = some A) (hA : IsA A f n) : ∀ c, some (bFw f n) = some c → c.rw = true ∧ ∃ d, hget hp i = some d ∧ WB ρ c d := fun c q => by
  obtain rfl := Option.some.inj q
  exact ⟨rfl, A, e, hA.wb _⟩
theorem isNone {i : Nat} {hp : LHeap} {ρ : Ren} : ∀ c, (none : Option Blk) = some c → c.rw = true ∧ ∃ d, hget hp i = some d ∧ WB ρ c d := fun c q => nomatch q
theorem new1 {A : Blk} {f : Nat → Int} {n t : Nat} {hp : LHeap} {ρ : Ren} (e : hget hp t = some A) (hA : IsA A f n) : ∀ (j : Nat) (c : Blk), [bFw f n][j]? = some c → c.rw = true ∧ ∃ i d, [t][j]? = some i ∧ hget hp i = some d ∧ WB ρ c d := fun j c q => by
  match j, q with
  | 0, q =>
    obtain rfl := Option.some.inj (show some (bFw f n) = some c from q)
    exact ⟨rfl, t, A, rfl, e, hA.wb _⟩
  | j + 1, q => simp at q
section
variable {h : Heap} {hid id ik ig base n m n' : Nat} {bh b bk bg : Blk} {hd h' : Hd} {sv va cf an va' cf' an' : Bool} {x s E : Int} {ff : Nat → Int}
theorem hT1 (K : L0 h id ik base bk n) (ρ : Ren) : ∀ (i : Nat) (c : Blk), hget [some (bFw (fun r => rI (bk.rd r)) n)] i = some c → ∃ y d, [ik][i]? = some y ∧ h y = some d ∧ WB ρ c d := fun i c e => by
  match i, e with
  | 0, e =>
    obtain rfl := Option.some.inj (show some (bFw (fun r => rI (bk.rd r)) n) = some c from e)
    exact ⟨ik, bk, rfl, K.at_, K.isI.wbw K.w K.t _⟩
  | i + 1, e => exact nomatch (show (none : Option Blk) = some c from e)
theorem hT2 (K : L0 h id ik base bk n) (G : L0 h id ig base bg m) (ρ : Ren) : ∀ (i : Nat) (c : Blk), hget [some (bFw (fun r => rI (bk.rd r)) n), some (bFw (fun r => rI (bg.rd r)) m)] i = some c → ∃ y d, [ik, ig][i]? = some y ∧ h y = some d ∧ WB ρ c d := fun i c e => by
  match i, e with
  | 0, e =>
    obtain rfl := Option.some.inj (show some (bFw (fun r => rI (bk.rd r)) n) = some c from e)
    exact ⟨ik, bk, rfl, K.at_, K.isI.wbw K.w K.t _⟩
  | 1, e =>
    obtain rfl := Option.some.inj (show some (bFw (fun r => rI (bg.rd r)) m) = some c from e)
    exact ⟨ig, bg, rfl, G.at_, G.isI.wbw G.w G.t _⟩
  | i + 2, e => exact nomatch (show (none : Option Blk) = some c from e)
theorem hA1 {o : Blk} (ho : o.rw = true) : ∀ i, i < [some o].length → ∃ c, hget [some o] i = some c ∧ c.rw = true := fun i hi => by
  match i, hi with
  | 0, _ => exact ⟨_, rfl, ho⟩
theorem hA2 {o p : Blk} (ho : o.rw = true) (hp : p.rw = true) : ∀ i, i < [some o, some p].length → ∃ c, hget [some o, some p] i = some c ∧ c.rw = true := fun i hi => by
  match i, hi with
  | 0, _ => exact ⟨_, rfl, ho⟩
  | 1, _ => exact ⟨_, rfl, hp⟩
theorem zNk (W : W0 h hid id bh b hd sv (.slice ik 0 1 n) .nilSlice va cf an) (K : L0 h id ik base bk n)
    (hcan : Canon Try.prog 28 [.ptr 0 0 7 0, .ptr 1 0 6 0, .agg [.int .i64 x, .int .i64 s]] [some (oneB (hC hd) true 54), some (mB sv (.slice 2 0 1 n) .nilSlice va cf an), some (bFw (fun r => rI (bk.rd r)) n)] fun v hp => v = .tuple [.int .i64 E, .int .i64 E] ∧ obsB true (hget hp 0) = .rows 7 1 true 54 [hC h'] ∧ obsB true (hget hp 1) = .rows 6 1 true 57 [mC sv (.slice 2 0 1 n) .nilSlice va' cf' an'] ∧ (∃ A, hget hp 2 = some A ∧ IsA A (fun r => rI (bk.rd r)) n)) :
    CSim Try.prog 28 [.ptr hid 0 7 0, .ptr id 0 6 0, .agg [.int .i64 x, .int .i64 s]] h base (.tuple [.int .i64 E, .int .i64 E]) [(hid, some (hB h')), (id, some (mB sv (.slice ik 0 1 n) .nilSlice va' cf' an')), (ik, some (bFw (fun r => rI (bk.rd r)) n))] [] := by
  have ij : ∀ (i j x : Nat), [hid, id, ik][i]? = some x → [hid, id, ik][j]? = some x → i = j := inj3 (sz_ne' W.a1 W.b1 W.a2 W.b2 (by decide)) (sz_ne' W.a1 K.at_ W.a2 K.isI.sz (by decide)) K.ne
  exact pz (tl := [ik]) (τ := []) (outsT := [some (bFw (fun r => rI (bk.rd r)) n)]) (news := []) (F := fun hp => (∃ A, hget hp 2 = some A ∧ IsA A (fun r => rI (bk.rd r)) n)) (ksN := (.slice ik 0 1 n)) (gsN := .nilSlice) (hpT := [some (bFw (fun r => rI (bk.rd r)) n)])
    W.a1 W.a2 W.a3 W.a4 W.a5 W.a6 W.b1 W.b2 W.b3 W.b4 W.b5 W.b6 rfl ij rfl rfl (hT1 K _) rfl (hA1 rfl) rfl (fun t ht => by simp at ht) inj0 (ren_sl (back_old ij (i := 2) rfl K.lt)) rfl hcan fun hp hf => by
    obtain ⟨A, e, hA⟩ := hf
    exact ⟨fun j c q => by simp at q, only1 e hA⟩
theorem zNg (W : W0 h hid id bh b hd sv (.slice ik 0 1 n) .nilSlice va cf an) (K : L0 h id ik base bk n)
    (hcan : Canon Try.prog 28 [.ptr 0 0 7 0, .ptr 1 0 6 0, .agg [.int .i64 x, .int .i64 s]] [some (oneB (hC hd) true 54), some (mB sv (.slice 2 0 1 n) .nilSlice va cf an), some (bFw (fun r => rI (bk.rd r)) n)] fun v hp => v = .tuple [.int .i64 E, .int .i64 E] ∧ obsB true (hget hp 0) = .rows 7 1 true 54 [hC h'] ∧ obsB true (hget hp 1) = .rows 6 1 true 57 [mC sv (.slice 4 0 1 n') .nilSlice va' cf' an'] ∧ (∃ A, hget hp 4 = some A ∧ IsA A ff n')) :
    CSim Try.prog 28 [.ptr hid 0 7 0, .ptr id 0 6 0, .agg [.int .i64 x, .int .i64 s]] h base (.tuple [.int .i64 E, .int .i64 E]) [(hid, some (hB h')), (id, some (mB sv (.slice base 0 1 n') .nilSlice va' cf' an')), (ik, none)] [bFw ff n'] := by
  have ij : ∀ (i j x : Nat), [hid, id, ik][i]? = some x → [hid, id, ik][j]? = some x → i = j := inj3 (sz_ne' W.a1 W.b1 W.a2 W.b2 (by decide)) (sz_ne' W.a1 K.at_ W.a2 K.isI.sz (by decide)) K.ne
  exact pz (tl := [ik]) (τ := [4]) (outsT := [none]) (news := [bFw ff n']) (F := fun hp => (∃ A, hget hp 4 = some A ∧ IsA A ff n')) (ksN := (.slice base 0 1 n')) (gsN := .nilSlice) (hpT := [some (bFw (fun r => rI (bk.rd r)) n)])
    W.a1 W.a2 W.a3 W.a4 W.a5 W.a6 W.b1 W.b2 W.b3 W.b4 W.b5 W.b6 rfl ij rfl rfl (hT1 K _) rfl (hA1 rfl) rfl (fun t ht => by obtain rfl := List.mem_singleton.1 ht; exact (show 3 ≤ 4 by decide)) inj1 (ren_sl back_one) rfl hcan fun hp hf => by
    obtain ⟨A, e, hA⟩ := hf
    exact ⟨new1 e hA, fun i c q => by match i, q with | 0, q => simp at q | i + 1, q => simp at q⟩
theorem zNb (W : W0 h hid id bh b hd sv (.slice ik 0 1 n) .nilSlice va cf an) (K : L0 h id ik base bk n)
    (hcan : Canon Try.prog 28 [.ptr 0 0 7 0, .ptr 1 0 6 0, .agg [.int .i64 x, .int .i64 s]] [some (oneB (hC hd) true 54), some (mB sv (.slice 2 0 1 n) .nilSlice va cf an), some (bFw (fun r => rI (bk.rd r)) n)] fun v hp => v = .tuple [.int .i64 E, .int .i64 E] ∧ obsB true (hget hp 0) = .rows 7 1 true 54 [hC h'] ∧ obsB true (hget hp 1) = .rows 6 1 true 57 [mC sv (.slice 2 0 1 n) (.slice 4 0 1 n') va' cf' an'] ∧ (∃ A, hget hp 2 = some A ∧ IsA A (fun r => rI (bk.rd r)) n) ∧ (∃ A, hget hp 4 = some A ∧ IsA A ff n')) :
    CSim Try.prog 28 [.ptr hid 0 7 0, .ptr id 0 6 0, .agg [.int .i64 x, .int .i64 s]] h base (.tuple [.int .i64 E, .int .i64 E]) [(hid, some (hB h')), (id, some (mB sv (.slice ik 0 1 n) (.slice base 0 1 n') va' cf' an')), (ik, some (bFw (fun r => rI (bk.rd r)) n))] [bFw ff n'] := by
  have ij : ∀ (i j x : Nat), [hid, id, ik][i]? = some x → [hid, id, ik][j]? = some x → i = j := inj3 (sz_ne' W.a1 W.b1 W.a2 W.b2 (by decide)) (sz_ne' W.a1 K.at_ W.a2 K.isI.sz (by decide)) K.ne
  exact pz (tl := [ik]) (τ := [4]) (outsT := [some (bFw (fun r => rI (bk.rd r)) n)]) (news := [bFw ff n']) (F := fun hp => (∃ A, hget hp 2 = some A ∧ IsA A (fun r => rI (bk.rd r)) n) ∧ (∃ A, hget hp 4 = some A ∧ IsA A ff n')) (ksN := (.slice ik 0 1 n)) (gsN := (.slice base 0 1 n')) (hpT := [some (bFw (fun r => rI (bk.rd r)) n)])
    W.a1 W.a2 W.a3 W.a4 W.a5 W.a6 W.b1 W.b2 W.b3 W.b4 W.b5 W.b6 rfl ij rfl rfl (hT1 K _) rfl (hA1 rfl) rfl (fun t ht => by obtain rfl := List.mem_singleton.1 ht; exact (show 3 ≤ 4 by decide)) inj1 (ren_sl (back_old ij (i := 2) rfl K.lt)) (ren_sl back_one) hcan fun hp hf => by
    obtain ⟨⟨A, e, hA⟩, B, e2, hB⟩ := hf
    exact ⟨new1 e2 hB, only1 e hA⟩
theorem zSk (W : W0 h hid id bh b hd sv (.slice ik 0 1 n) (.slice ig 0 1 m) va cf an) (K : L0 h id ik base bk n) (G : L0 h id ig base bg m) (hne : ik ≠ ig)
    (hcan : Canon Try.prog 28 [.ptr 0 0 7 0, .ptr 1 0 6 0, .agg [.int .i64 x, .int .i64 s]] [some (oneB (hC hd) true 54), some (mB sv (.slice 2 0 1 n) (.slice 3 0 1 m) va cf an), some (bFw (fun r => rI (bk.rd r)) n), some (bFw (fun r => rI (bg.rd r)) m)] fun v hp => v = .tuple [.int .i64 E, .int .i64 E] ∧ obsB true (hget hp 0) = .rows 7 1 true 54 [hC h'] ∧ obsB true (hget hp 1) = .rows 6 1 true 57 [mC sv (.slice 2 0 1 n) (.slice 3 0 1 m) va' cf' an'] ∧ (∃ A, hget hp 2 = some A ∧ IsA A (fun r => rI (bk.rd r)) n) ∧ (∃ A, hget hp 3 = some A ∧ IsA A (fun r => rI (bg.rd r)) m)) :
    CSim Try.prog 28 [.ptr hid 0 7 0, .ptr id 0 6 0, .agg [.int .i64 x, .int .i64 s]] h base (.tuple [.int .i64 E, .int .i64 E]) [(hid, some (hB h')), (id, some (mB sv (.slice ik 0 1 n) (.slice ig 0 1 m) va' cf' an')), (ik, some (bFw (fun r => rI (bk.rd r)) n)), (ig, some (bFw (fun r => rI (bg.rd r)) m))] [] := by
  have ij : ∀ (i j x : Nat), [hid, id, ik, ig][i]? = some x → [hid, id, ik, ig][j]? = some x → i = j := inj4s (sz_ne' W.a1 W.b1 W.a2 W.b2 (by decide)) (sz_ne' W.a1 K.at_ W.a2 K.isI.sz (by decide)) (sz_ne' W.a1 G.at_ W.a2 G.isI.sz (by decide)) K.ne G.ne hne
  exact pz (tl := [ik, ig]) (τ := []) (outsT := [some (bFw (fun r => rI (bk.rd r)) n), some (bFw (fun r => rI (bg.rd r)) m)]) (news := []) (F := fun hp => (∃ A, hget hp 2 = some A ∧ IsA A (fun r => rI (bk.rd r)) n) ∧ (∃ A, hget hp 3 = some A ∧ IsA A (fun r => rI (bg.rd r)) m)) (ksN := (.slice ik 0 1 n)) (gsN := (.slice ig 0 1 m)) (hpT := [some (bFw (fun r => rI (bk.rd r)) n), some (bFw (fun r => rI (bg.rd r)) m)])
    W.a1 W.a2 W.a3 W.a4 W.a5 W.a6 W.b1 W.b2 W.b3 W.b4 W.b5 W.b6 rfl ij rfl rfl (hT2 K G _) rfl (hA2 rfl rfl) rfl (fun t ht => by simp at ht) inj0 (ren_sl (back_old ij (i := 2) rfl K.lt)) (ren_sl (back_old ij (i := 3) rfl G.lt)) hcan fun hp hf => by
    obtain ⟨⟨A, e, hA⟩, B, e2, hB⟩ := hf
    exact ⟨fun j c q => by simp at q, only2 (isOne e hA) (isOne e2 hB)⟩
theorem zSg (W : W0 h hid id bh b hd sv (.slice ik 0 1 n) (.slice ig 0 1 m) va cf an) (K : L0 h id ik base bk n) (G : L0 h id ig base bg m) (hne : ik ≠ ig)
    (hcan : Canon Try.prog 28 [.ptr 0 0 7 0, .ptr 1 0 6 0, .agg [.int .i64 x, .int .i64 s]] [some (oneB (hC hd) true 54), some (mB sv (.slice 2 0 1 n) (.slice 3 0 1 m) va cf an), some (bFw (fun r => rI (bk.rd r)) n), some (bFw (fun r => rI (bg.rd r)) m)] fun v hp => v = .tuple [.int .i64 E, .int .i64 E] ∧ obsB true (hget hp 0) = .rows 7 1 true 54 [hC h'] ∧ obsB true (hget hp 1) = .rows 6 1 true 57 [mC sv (.slice 5 0 1 n') (.slice 3 0 1 m) va' cf' an'] ∧ (∃ A, hget hp 5 = some A ∧ IsA A ff n') ∧ (∃ A, hget hp 3 = some A ∧ IsA A (fun r => rI (bg.rd r)) m)) :
    CSim Try.prog 28 [.ptr hid 0 7 0, .ptr id 0 6 0, .agg [.int .i64 x, .int .i64 s]] h base (.tuple [.int .i64 E, .int .i64 E]) [(hid, some (hB h')), (id, some (mB sv (.slice base 0 1 n') (.slice ig 0 1 m) va' cf' an')), (ik, none), (ig, some (bFw (fun r => rI (bg.rd r)) m))] [bFw ff n'] := by
  have ij : ∀ (i j x : Nat), [hid, id, ik, ig][i]? = some x → [hid, id, ik, ig][j]? = some x → i = j := inj4s (sz_ne' W.a1 W.b1 W.a2 W.b2 (by decide)) (sz_ne' W.a1 K.at_ W.a2 K.isI.sz (by decide)) (sz_ne' W.a1 G.at_ W.a2 G.isI.sz (by decide)) K.ne G.ne hne
  exact pz (tl := [ik, ig]) (τ := [5]) (outsT := [none, some (bFw (fun r => rI (bg.rd r)) m)]) (news := [bFw ff n']) (F := fun hp => (∃ A, hget hp 5 = some A ∧ IsA A ff n') ∧ (∃ A, hget hp 3 = some A ∧ IsA A (fun r => rI (bg.rd r)) m)) (ksN := (.slice base 0 1 n')) (gsN := (.slice ig 0 1 m)) (hpT := [some (bFw (fun r => rI (bk.rd r)) n), some (bFw (fun r => rI (bg.rd r)) m)])
    W.a1 W.a2 W.a3 W.a4 W.a5 W.a6 W.b1 W.b2 W.b3 W.b4 W.b5 W.b6 rfl ij rfl rfl (hT2 K G _) rfl (hA2 rfl rfl) rfl (fun t ht => by obtain rfl := List.mem_singleton.1 ht; exact (show 4 ≤ 5 by decide)) inj1 (ren_sl back_one) (ren_sl (back_old ij (i := 3) rfl G.lt)) hcan fun hp hf => by
    obtain ⟨⟨A, e, hA⟩, B, e2, hB⟩ := hf
    exact ⟨new1 e hA, only2 isNone (isOne e2 hB)⟩
theorem zSb (W : W0 h hid id bh b hd sv (.slice ik 0 1 n) (.slice ig 0 1 m) va cf an) (K : L0 h id ik base bk n) (G : L0 h id ig base bg m) (hne : ik ≠ ig)
    (hcan : Canon Try.prog 28 [.ptr 0 0 7 0, .ptr 1 0 6 0, .agg [.int .i64 x, .int .i64 s]] [some (oneB (hC hd) true 54), some (mB sv (.slice 2 0 1 n) (.slice 3 0 1 m) va cf an), some (bFw (fun r => rI (bk.rd r)) n), some (bFw (fun r => rI (bg.rd r)) m)] fun v hp => v = .tuple [.int .i64 E, .int .i64 E] ∧ obsB true (hget hp 0) = .rows 7 1 true 54 [hC h'] ∧ obsB true (hget hp 1) = .rows 6 1 true 57 [mC sv (.slice 2 0 1 n) (.slice 5 0 1 n') va' cf' an'] ∧ (∃ A, hget hp 2 = some A ∧ IsA A (fun r => rI (bk.rd r)) n) ∧ (∃ A, hget hp 5 = some A ∧ IsA A ff n')) :
    CSim Try.prog 28 [.ptr hid 0 7 0, .ptr id 0 6 0, .agg [.int .i64 x, .int .i64 s]] h base (.tuple [.int .i64 E, .int .i64 E]) [(hid, some (hB h')), (id, some (mB sv (.slice ik 0 1 n) (.slice base 0 1 n') va' cf' an')), (ik, some (bFw (fun r => rI (bk.rd r)) n)), (ig, none)] [bFw ff n'] := by
  have ij : ∀ (i j x : Nat), [hid, id, ik, ig][i]? = some x → [hid, id, ik, ig][j]? = some x → i = j := inj4s (sz_ne' W.a1 W.b1 W.a2 W.b2 (by decide)) (sz_ne' W.a1 K.at_ W.a2 K.isI.sz (by decide)) (sz_ne' W.a1 G.at_ W.a2 G.isI.sz (by decide)) K.ne G.ne hne
  exact pz (tl := [ik, ig]) (τ := [5]) (outsT := [some (bFw (fun r => rI (bk.rd r)) n), none]) (news := [bFw ff n']) (F := fun hp => (∃ A, hget hp 2 = some A ∧ IsA A (fun r => rI (bk.rd r)) n) ∧ (∃ A, hget hp 5 = some A ∧ IsA A ff n')) (ksN := (.slice ik 0 1 n)) (gsN := (.slice base 0 1 n')) (hpT := [some (bFw (fun r => rI (bk.rd r)) n), some (bFw (fun r => rI (bg.rd r)) m)])
    W.a1 W.a2 W.a3 W.a4 W.a5 W.a6 W.b1 W.b2 W.b3 W.b4 W.b5 W.b6 rfl ij rfl rfl (hT2 K G _) rfl (hA2 rfl rfl) rfl (fun t ht => by obtain rfl := List.mem_singleton.1 ht; exact (show 4 ≤ 5 by decide)) inj1 (ren_sl (back_old ij (i := 2) rfl K.lt)) (ren_sl back_one) hcan fun hp hf => by
    obtain ⟨⟨A, e, hA⟩, B, e2, hB⟩ := hf
    exact ⟨new1 e2 hB, only2 (isOne e hA) isNone⟩
end
theorem ok28 : SpecOK Try.prog 28 s28 := by
  intro args h base k hk
  unfold s28 at hk
  split at hk
  · rename_i hid id x s
    obtain ⟨bh, hd, a1, a2, a3, a4, a5, a6, hk⟩ := handW_ok hk
    obtain ⟨b, sv, ik, nk, gs, va, cf, an, h1, h2, h3, h4, h5, h6, hk⟩ := mW_ok hk
    obtain ⟨bk, k1, k2, k3, k4, k5, hk⟩ := lstW_ok hk
    cases ho : mOk id ik gs base with
    | false => rw [ho] at hk; exact hk.elim
    | true =>
    rw [ho, cond_true] at hk
    have ok := mOk_k ho
    have W : W0 h hid id bh b hd sv (.slice ik 0 1 nk) gs va cf an := ⟨a1, a2, a3, a4, a5, a6, h1, h2, h3, h4, h5, h6⟩
    have K : L0 h id ik base bk nk := ⟨k1, k2, k3, k5, ok.1, ok.2⟩
    split at hk
    · obtain ⟨R, kK, kA, kB⟩ := hk
      obtain ⟨m, rfl⟩ : ∃ m, nk = m + 1 := ⟨nk - 1, by have := R.rnk; have := cK_pos R.wf; omega⟩
      cases q0 : x % 7 == 0 with
      | true =>
        cases q : !inS s with
        | true => exact ⟨_, _, _, kK _ _ _ _ _ (by rw [keysH_out R.wf q]; exact R), zNk W K (c28nA0o R q0 q)⟩
        | false =>
        have p : inF (fun _ => 0) 0 s = false := rfl
        cases p2 : !inF (fun r => rI (bk.rd r)) (m + 1) s with
        | true => exact ⟨_, _, _, kA _ _ (R.keysK q p2), zNg W K (c28nA0n R q0 q p p2)⟩
        | false => exact ⟨_, _, _, kK _ _ _ _ _ (R.keysS q p2), zNk W K (c28nA0h R q0 q p p2)⟩
      | false =>
      cases q1 : x % 7 == 1 with
      | true =>
        cases q : !inS s with
        | true => exact ⟨_, _, _, kK _ _ _ _ _ (by rw [keysH_out R.wf q]; exact R), zNk W K (c28nA1o R q0 q1 q)⟩
        | false =>
        have p : inF (fun _ => 0) 0 s = false := rfl
        cases p2 : !inF (fun r => rI (bk.rd r)) (m + 1) s with
        | true => exact ⟨_, _, _, kA _ _ (R.keysK q p2), zNg W K (c28nA1n R q0 q1 q p p2)⟩
        | false => exact ⟨_, _, _, kK _ _ _ _ _ (R.keysS q p2), zNk W K (c28nA1h R q0 q1 q p p2)⟩
      | false =>
      cases q2 : x % 7 == 2 with
      | true =>
        cases q : !inS s with
        | true => exact ⟨_, _, _, kK _ _ _ _ _ (by rw [discH_out R.wf q]; exact R), zNk W K (c28nBo R q0 q1 q2 q)⟩
        | false =>
        cases p : s == 2 with
        | true => exact ⟨_, _, _, kK _ _ _ _ _ (R.disc_two p), zNk W K (c28nBt R q0 q1 q2 q p)⟩
        | false =>
        cases p2 : !livM (fun r => rI (bk.rd r)) (fun _ => 0) (m + 1) 0 s with
        | true => exact ⟨_, _, _, kK _ _ _ _ _ (R.disc_no q p2), zNk W K (c28nBn R q0 q1 q2 q p p2)⟩
        | false => exact ⟨_, _, _, kB _ _ (R.disc_yes q p p2), zNb W K (c28nBy R q0 q1 q2 q p p2)⟩
      | false =>
      cases q3 : x % 7 == 3 with
      | true => exact ⟨_, _, _, kK _ _ _ _ _ (R.valR), zNk W K (c28nC R q0 q1 q2 q3)⟩
      | false =>
      cases q4 : x % 7 == 4 with
      | true =>
        cases p : livM (fun r => rI (bk.rd r)) (fun _ => 0) (m + 1) 0 2 with
        | true => exact ⟨_, _, _, kK _ _ _ _ _ (R.conf_yes p), zNk W K (c28nDy R q0 q1 q2 q3 q4 p)⟩
        | false => exact ⟨_, _, _, kK _ _ _ _ _ (R.conf_no p), zNk W K (c28nDn R q0 q1 q2 q3 q4 p)⟩
      | false =>
      cases q : !inS s with
      | true => exact ⟨_, _, _, kK _ _ _ _ _ (by rw [ansH_out R.wf q]; exact R), zNk W K (c28nEo R q0 q1 q2 q3 q4 q)⟩
      | false =>
      cases p : livM (fun r => rI (bk.rd r)) (fun _ => 0) (m + 1) 0 s with
      | true => exact ⟨_, _, _, kK _ _ _ _ _ (R.ans_yes q p), zNk W K (c28nEy R q0 q1 q2 q3 q4 q p)⟩
      | false => exact ⟨_, _, _, kK _ _ _ _ _ (R.ans_no q p), zNk W K (c28nEn R q0 q1 q2 q3 q4 q p)⟩
    · rename_i ig ng hk0
      clear hk0
      obtain ⟨bg, g1, g2, g3, g4, g5, hl, R, kK, kA, kB⟩ := lstW_ok hk
      obtain ⟨m, rfl⟩ : ∃ m, nk = m + 1 := ⟨nk - 1, by have := R.rnk; have := cK_pos R.wf; omega⟩
      obtain ⟨l, rfl⟩ : ∃ l, ng = l + 1 := ⟨ng - 1, by omega⟩
      have og := mOk_g ho
      have hne := og.2.1
      have G : L0 h id ig base bg (l + 1) := ⟨g1, g2, g3, g5, og.1, og.2.2⟩
      cases q0 : x % 7 == 0 with
      | true =>
        cases q : !inS s with
        | true => exact ⟨_, _, _, kK _ _ _ _ _ (by rw [keysH_out R.wf q]; exact R), zSk W K G hne (c28sA0o R q0 q)⟩
        | false =>
        cases p : inF (fun r => rI (bg.rd r)) (l + 1) s with
        | true => exact ⟨_, _, _, kK _ _ _ _ _ (R.keysS q (R.goneHas p)), zSk W K G hne (c28sA0g R q0 q p)⟩
        | false =>
        cases p2 : !inF (fun r => rI (bk.rd r)) (m + 1) s with
        | true => exact ⟨_, _, _, kA _ _ (R.keysK q p2), zSg W K G hne (c28sA0n R q0 q p p2)⟩
        | false => exact ⟨_, _, _, kK _ _ _ _ _ (R.keysS q p2), zSk W K G hne (c28sA0h R q0 q p p2)⟩
      | false =>
      cases q1 : x % 7 == 1 with
      | true =>
        cases q : !inS s with
        | true => exact ⟨_, _, _, kK _ _ _ _ _ (by rw [keysH_out R.wf q]; exact R), zSk W K G hne (c28sA1o R q0 q1 q)⟩
        | false =>
        cases p : inF (fun r => rI (bg.rd r)) (l + 1) s with
        | true => exact ⟨_, _, _, kK _ _ _ _ _ (R.keysS q (R.goneHas p)), zSk W K G hne (c28sA1g R q0 q1 q p)⟩
        | false =>
        cases p2 : !inF (fun r => rI (bk.rd r)) (m + 1) s with
        | true => exact ⟨_, _, _, kA _ _ (R.keysK q p2), zSg W K G hne (c28sA1n R q0 q1 q p p2)⟩
        | false => exact ⟨_, _, _, kK _ _ _ _ _ (R.keysS q p2), zSk W K G hne (c28sA1h R q0 q1 q p p2)⟩
      | false =>
      cases q2 : x % 7 == 2 with
      | true =>
        cases q : !inS s with
        | true => exact ⟨_, _, _, kK _ _ _ _ _ (by rw [discH_out R.wf q]; exact R), zSk W K G hne (c28sBo R q0 q1 q2 q)⟩
        | false =>
        cases p : s == 2 with
        | true => exact ⟨_, _, _, kK _ _ _ _ _ (R.disc_two p), zSk W K G hne (c28sBt R q0 q1 q2 q p)⟩
        | false =>
        cases p2 : !livM (fun r => rI (bk.rd r)) (fun r => rI (bg.rd r)) (m + 1) (l + 1) s with
        | true => exact ⟨_, _, _, kK _ _ _ _ _ (R.disc_no q p2), zSk W K G hne (c28sBn R q0 q1 q2 q p p2)⟩
        | false => exact ⟨_, _, _, kB _ _ (R.disc_yes q p p2), zSb W K G hne (c28sBy R q0 q1 q2 q p p2)⟩
      | false =>
      cases q3 : x % 7 == 3 with
      | true => exact ⟨_, _, _, kK _ _ _ _ _ (R.valR), zSk W K G hne (c28sC R q0 q1 q2 q3)⟩
      | false =>
      cases q4 : x % 7 == 4 with
      | true =>
        cases p : livM (fun r => rI (bk.rd r)) (fun r => rI (bg.rd r)) (m + 1) (l + 1) 2 with
        | true => exact ⟨_, _, _, kK _ _ _ _ _ (R.conf_yes p), zSk W K G hne (c28sDy R q0 q1 q2 q3 q4 p)⟩
        | false => exact ⟨_, _, _, kK _ _ _ _ _ (R.conf_no p), zSk W K G hne (c28sDn R q0 q1 q2 q3 q4 p)⟩
      | false =>
      cases q : !inS s with
      | true => exact ⟨_, _, _, kK _ _ _ _ _ (by rw [ansH_out R.wf q]; exact R), zSk W K G hne (c28sEo R q0 q1 q2 q3 q4 q)⟩
      | false =>
      cases p : livM (fun r => rI (bk.rd r)) (fun r => rI (bg.rd r)) (m + 1) (l + 1) s with
      | true => exact ⟨_, _, _, kK _ _ _ _ _ (R.ans_yes q p), zSk W K G hne (c28sEy R q0 q1 q2 q3 q4 q p)⟩
      | false => exact ⟨_, _, _, kK _ _ _ _ _ (R.ans_no q p), zSk W K G hne (c28sEn R q0 q1 q2 q3 q4 q p)⟩
    · cases hk
  · cases hk
theorem ok25m : SpecOK Try.prog 25 s25m := by
  intro args h base k hk
  unfold s25m at hk
  split at hk
  · rename_i id
    have hc := cal (f := 25) Try.func25 (by kernel_rfl) (by kernel_rfl)
    obtain ⟨b, sv, ik, nk, gs, va, cf, an, h1, h2, h3, h4, hk⟩ := mR_ok hk
    obtain ⟨bk, k1, k2, hk⟩ := lst_sl hk
    obtain ⟨⟨p1, p2⟩, hk⟩ := hk
    obtain ⟨nk, rfl⟩ : ∃ m, nk = m + 1 := ⟨nk - 1, by omega⟩
    have hn : nk ≤ 1000 := by omega
    have n1 := sz_ne h1 k1 h2 k2.sz
    split at hk
    · exact ⟨_, [], _, hk, newN (t := 2) (u := 3) (ψ := [id, ik]) (args1 := [.ptr 0 0 6 0]) hc rfl (inj2 n1) rfl (fun i b1 e => ⟨ro_n rfl i b1 e, wb_n h1 h2 h3 h4 k1 k2.wb ⟨rfl, rfl, (fun q => nomatch (show (false : Bool) = true from q)), (fun q => nomatch (show (false : Bool) = true from q)), rfl⟩ i b1 e⟩) (Nat.le_refl _) (show 2 ≤ 3 by decide) (by decide) (canon25n sv va cf an _ nk hn)⟩
    · rename_i ig ng hk0
      clear hk0
      obtain ⟨⟨p3, p4⟩, hk⟩ := hk
      obtain ⟨ng, rfl⟩ : ∃ m, ng = m + 1 := ⟨ng - 1, by omega⟩
      have hg : ng ≤ 1000 := by omega
      cases ho : neN ik ig with
      | false => rw [ho] at hk; exact hk.elim
      | true =>
      rw [ho, cond_true] at hk
      obtain ⟨bg, g1, g2, hk⟩ := lst_sl hk
      have n2 := sz_ne h1 g1 h2 g2.sz
      exact ⟨_, [], _, hk, newS (t := 3) (u := 4) (w := 5) (ψ := [id, ik, ig]) (args1 := [.ptr 0 0 6 0]) hc rfl (inj3 n1 n2 (neN_iff ho)) rfl (fun i b1 e => ⟨ro_s rfl i b1 e, wb_s h1 h2 h3 h4 k1 k2.wb g1 g2.wb ⟨rfl, rfl, (fun q => nomatch (show (false : Bool) = true from q)), (fun q => nomatch (show (false : Bool) = true from q)), rfl⟩ i b1 e⟩) (Nat.le_refl _) (show 3 ≤ 4 by decide) (show 3 ≤ 5 by decide) (by decide) (by decide) (by decide) (canon25s sv va cf an _ nk _ ng hn hg)⟩
    · cases hk
  · cases hk
def G13 : Gam := addGam (addGam (addGam G11 23 s23) 28 s28) 25 s25m
noncomputable def C13 : Ctx := ⟨Try.prog, G13, fun t => memN t eqs⟩
theorem gs13 : GSound C13 := ((gs11.add ok23).add ok28).add ok25m
end Go.Proofs.Ytllkhfabfcpieaa
