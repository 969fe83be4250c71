/-
  Chapter 9 by the engine: LossGrows. (Printed by genv21.py.)
-/
import Derived.Test.YtcjfmkkfcbelpaaT21
import Derived.Test.YtcjfmkkfcbelpaaX22
import Derived.Test.YtcjfmkkfcbelpaaV20
namespace Go.Proofs.Ytcjfmkkfcbelpaa
open Go.RowKit
set_option linter.unusedVariables false
theorem wkA6 {k n : Nat} {R : Nat → Rw} {P : Nat → Pk} {g t l m s v x0 x1 x2 x3 : Int} {B : List BO} {A : Blk} (h0 : hget (B.map mkB) 0 = some (bR k R)) (h1 : hget (B.map mkB) 1 = mkB (.rows 4 1 true 43 [[.int .i64 x0, .int .i64 x1, .int .i64 x2, .int .i64 x3]])) (h3 : hget (B.map mkB) 3 = some A) (lA : IsL A P n) (h4 : hget (B.map mkB) 4 = mkB (mO l m s v)) :
    Weak 1 (tplF 97 LA6 [.ptr 1 0 4 0, .slice 3 0 6 n, .ptr 4 0 5 0, .int .i64 g, .int .i64 t]) (B.map mkB) (tplF 97 LA6 (vA6 n g t)) ((hA6 k R n P l m s v x0 x1 x2 x3).map mkB) := by
  refine ren_weak (m0 := 1) (vals' := vA6 n g t) [0, 3, 4, 1] rfl (show 1 ≤ 4 by decide) (fun j hj => by obtain rfl : j = 0 := (by omega); rfl) ⟨.inr rfl, .inr rfl, .inr rfl, .inr rfl, .inr rfl, trivial⟩ (fun id b1 hb1 => ?_) (inj_nodup (by decide))
  match id, hb1 with
  | 0, hb1 =>
    obtain rfl := Option.some.inj (show some (bR k R) = some b1 from hb1)
    exact ⟨0, _, rfl, h0, wb_bR⟩
  | 1, hb1 =>
    obtain rfl := Option.some.inj (show some (bPw n P) = some b1 from hb1)
    exact ⟨3, _, rfl, h3, lA.wb _⟩
  | 2, hb1 =>
    have h := h4.trans hb1
    obtain rfl := Option.some.inj (show some _ = some b1 from hb1)
    exact ⟨4, _, rfl, h, wb_one rfl⟩
  | 3, hb1 =>
    have h := h1.trans hb1
    obtain rfl := Option.some.inj (show some _ = some b1 from hb1)
    exact ⟨1, _, rfl, h, wb_one rfl⟩
  | id + 4, hb1 => exact nomatch (show (none : Option Blk) = some b1 from hb1)
theorem wkB6 {k n c : Nat} {R : Nat → Rw} {P PL : Nat → Pk} {l m s v x0 x1 x2 x3 : Int} {fr : List SV} {hp : LHeap} (h0 : hget hp 0 = some (bR k R)) (h1 : hget hp 1 = some (bPw n P)) (h2 : hget hp 2 = mkB (mO l m s v)) (h3 : hget hp 3 = mkB (.rows 4 1 true 43 [[.int .i64 x0, .int .i64 x1, .int .i64 x2, .int .i64 x3]])) (h4 : ∀ b1, gB PL c = some b1 → ∃ b, hget hp 4 = some b ∧ WB (upTo 5) b1 b) (hv : ltAll 5 (svIdsL fr) = true) :
    Weak 1 fr hp fr ((hA6 k R n P l m s v x0 x1 x2 x3 ++ [BO.raw (gB PL c)]).map mkB) := by
  refine heap_weak (m := 5) rfl (by decide) hv fun id b1 hb1 => ?_
  match id, hb1 with
  | 0, hb1 =>
    obtain rfl := Option.some.inj (show some (bR k R) = some b1 from hb1)
    exact ⟨_, h0, wb_bR⟩
  | 1, hb1 =>
    obtain rfl := Option.some.inj (show some (bPw n P) = some b1 from hb1)
    exact ⟨_, h1, (isL_self P n).wb _⟩
  | 2, hb1 =>
    have h := h2.trans hb1
    obtain rfl := Option.some.inj (show some _ = some b1 from hb1)
    exact ⟨_, h, wb_one rfl⟩
  | 3, hb1 =>
    have h := h3.trans hb1
    obtain rfl := Option.some.inj (show some _ = some b1 from hb1)
    exact ⟨_, h, wb_one rfl⟩
  | 4, hb1 => exact h4 b1 hb1
  | id + 5, hb1 => exact nomatch (show (none : Option Blk) = some b1 from hb1)
theorem wkC6 {k c e : Nat} {R : Nat → Rw} {PL PM : Nat → Pk} {hp : LHeap} (h0 : hget hp 0 = some (bR k R)) (h1 : ∀ b1, gB PL c = some b1 → ∃ b, hget hp 4 = some b ∧ WB (fun i => [0, 4, 5][i]?) b1 b) (h2 : ∀ b1, gB PM e = some b1 → ∃ b, hget hp 5 = some b ∧ WB (fun i => [0, 4, 5][i]?) b1 b) :
    Weak 1 (tplF 97 LC6 [gV 4 c, .int .i64 0, gV 5 e, .int .i64 0]) hp (tplF 97 LC6 (vC6 (gV 1 c) (gV 2 e))) ((hC6 k R (gB PL c) (gB PM e)).map mkB) := by
  refine ren_weak (m0 := 1) (vals' := vC6 (gV 1 c) (gV 2 e)) [0, 4, 5] rfl (show 1 ≤ 3 by decide) (fun j hj => by obtain rfl : j = 0 := (by omega); rfl) ⟨.inr ?_, .inr rfl, .inr ?_, .inr rfl, trivial⟩ (fun id b1 hb1 => ?_) (inj_nodup (by decide))
  · cases c <;> rfl
  · cases e <;> rfl
  match id, hb1 with
  | 0, hb1 =>
    obtain rfl := Option.some.inj (show some (bR k R) = some b1 from hb1)
    exact ⟨0, _, rfl, h0, wb_bR⟩
  | 1, hb1 =>
    obtain ⟨b, q1, q2⟩ := h1 b1 hb1
    exact ⟨4, b, rfl, q1, q2⟩
  | 2, hb1 =>
    obtain ⟨b, q1, q2⟩ := h2 b1 hb1
    exact ⟨5, b, rfl, q1, q2⟩
  | id + 3, hb1 => exact nomatch (show (none : Option Blk) = some b1 from hb1)
section
attribute [local irreducible] evalC
set_option maxRecDepth 100000
set_option maxHeartbeats 2000000
theorem findB6 {k n : Nat} {R : Nat → Rw} {P : Nat → Pk} {g t l m s v : Int} (x0 x1 x2 x3 : Int) (h : Law n P g t l m s v) : evalC C18 0 1 c6_3 (tplF 97 LA6 (vA6 (n + 1) g t)) ((hA6 k R (n + 1) P l m s v x0 x1 x2 x3).map mkB) (obsN LB6 M6b (seen 97 M6b.length fun x vals B => x = .normal ∧ ∃ c Q, Cut (lostB g t (waitV l m s v 0) P) P (n + 1) c Q ∧ Weak 1 (tplF 97 LB6 vals) (B.map mkB) (tplF 97 LB6 (vB6 (n + 1) g t (gV 4 c))) ((hA6 k R (n + 1) P l m s v x0 x1 x2 x3 ++ [BO.raw (gB Q c)]).map mkB))) := by
  rw [p6b k R n P g t l m s v x0 x1 x2 x3]
  refine ⟨⟨rfl, Nat.le_refl _, by have := h.hn; omega, fun r _ => ⟨P r, rfl⟩⟩, Nat.succ_le_succ (Nat.zero_le _), fun P1 e1 g' t' w e2 e3 e4 => ?_⟩
  obtain rfl : P1 = P := e1
  subst e2 e3 e4
  refine ⟨h.late, fun tm ht => ?_⟩
  have i0 : ∀ Q : Nat → Pk, ∀ c : Nat, ∀ r, r < c → ltAll 6 (svIdsL (pkC (Q r))) = true := fun _ _ _ _ => rfl
  have i1 : ∀ Q : Nat → Pk, ∀ c : Nat, ∀ r, r < c → ltAll 6 (svIdsL (bif r.beq 0 then pkC (Q 0) else pkC (Q r))) = true := fun Q c r _ => by cases r <;> rfl
  refine ⟨fun a PL p q => condSplit (fun _ => ?_) fun _ => ?_, fun b PR p q => condSplit (fun _ => ?_) fun _ => ?_, fun a PL b PR p q => condSplit (fun _ => condSplit (fun _ => ?_) fun _ => ?_) fun _ => condSplit (fun _ => ?_) fun _ => ?_⟩
  · exact ⟨rfl, rfl, ⟨fun _ _ => rfl, i0 P1 _, rfl, rfl, i1 PL _, trivial, trivial⟩, rfl, _, PL, p.cut, wkB6 rfl rfl rfl rfl (gB_wb (hp := _ :: _ :: _ :: _ :: some _ :: _) rfl (isL_one' PL _)) (by kernel_rfl)⟩
  · exact ⟨rfl, rfl, ⟨fun _ _ => rfl, i0 P1 _, rfl, rfl, i0 PL _, trivial, trivial⟩, rfl, _, PL, p.cut, wkB6 rfl rfl rfl rfl (gB_wb (hp := _ :: _ :: _ :: _ :: some _ :: _) rfl (isL_self PL _)) (by kernel_rfl)⟩
  · exact ⟨rfl, rfl, ⟨fun _ _ => rfl, i0 P1 _, rfl, rfl, i1 PR _, trivial, trivial⟩, rfl, _, _, Cut.none p, wkB6 (c := 0) (PL := P1) rfl rfl rfl rfl (fun b1 q => nomatch (show (none : Option Blk) = some b1 from q)) (by kernel_rfl)⟩
  · exact ⟨rfl, rfl, ⟨fun _ _ => rfl, i0 P1 _, rfl, rfl, i0 PR _, trivial, trivial⟩, rfl, _, _, Cut.none p, wkB6 (c := 0) (PL := P1) rfl rfl rfl rfl (fun b1 q => nomatch (show (none : Option Blk) = some b1 from q)) (by kernel_rfl)⟩
  · exact ⟨rfl, rfl, ⟨fun _ _ => rfl, i0 P1 _, rfl, rfl, i1 PL _, i1 PR _, trivial⟩, rfl, _, PL, p.cut, wkB6 rfl rfl rfl rfl (gB_wb (hp := _ :: _ :: _ :: _ :: some _ :: _) rfl (isL_one' PL _)) (by kernel_rfl)⟩
  · exact ⟨rfl, rfl, ⟨fun _ _ => rfl, i0 P1 _, rfl, rfl, i1 PL _, i0 PR _, trivial⟩, rfl, _, PL, p.cut, wkB6 rfl rfl rfl rfl (gB_wb (hp := _ :: _ :: _ :: _ :: some _ :: _) rfl (isL_one' PL _)) (by kernel_rfl)⟩
  · exact ⟨rfl, rfl, ⟨fun _ _ => rfl, i0 P1 _, rfl, rfl, i0 PL _, i1 PR _, trivial⟩, rfl, _, PL, p.cut, wkB6 rfl rfl rfl rfl (gB_wb (hp := _ :: _ :: _ :: _ :: some _ :: _) rfl (isL_self PL _)) (by kernel_rfl)⟩
  · exact ⟨rfl, rfl, ⟨fun _ _ => rfl, i0 P1 _, rfl, rfl, i0 PL _, i0 PR _, trivial⟩, rfl, _, PL, p.cut, wkB6 rfl rfl rfl rfl (gB_wb (hp := _ :: _ :: _ :: _ :: some _ :: _) rfl (isL_self PL _)) (by kernel_rfl)⟩
theorem findC6z {k n : Nat} {R : Nat → Rw} {P Q : Nat → Pk} {g t l m s v : Int} (x0 x1 x2 x3 : Int) (h : Law n P (IntKind.i64.wrap (g + x2 % 20)) (IntKind.i64.wrap (t + x3 % 2251799813685248)) l m s v) : evalC C18 0 1 c6_4 (tplF 97 LB6 (vB6 (n + 1) g t (gV 4 0))) ((hA6 k R (n + 1) P l m s v x0 x1 x2 x3 ++ [BO.raw (gB Q 0)]).map mkB) (obsN LC6 M6c (seen 97 M6c.length fun x vals B => x = .normal ∧ ∃ e QM, Cut (lostB (IntKind.i64.wrap (g + x2 % 20)) (IntKind.i64.wrap (t + x3 % 2251799813685248)) (waitV l m s v 0) P) P (n + 1) e QM ∧ Weak 1 (tplF 97 LC6 vals) (B.map mkB) (tplF 97 LC6 (vC6 (gV 1 0) (gV 2 e))) ((hC6 k R (gB Q 0) (gB QM e)).map mkB))) := by
  rw [p6c k R n P g t l m s v x0 x1 x2 x3 (gV 4 0) (gB Q 0)]
  generalize IntKind.i64.wrap (g + x2 % 20) = g2 at h ⊢
  generalize IntKind.i64.wrap (t + x3 % 2251799813685248) = t2 at h ⊢
  refine ⟨⟨rfl, Nat.le_refl _, by have := h.hn; omega, fun r _ => ⟨P r, rfl⟩⟩, Nat.succ_le_succ (Nat.zero_le _), fun P1 e1 g' t' w e2 e3 e4 => ?_⟩
  obtain rfl : P1 = P := e1
  subst e2 e3 e4
  refine ⟨h.late, fun tm ht => ?_⟩
  have i0 : ∀ Q : Nat → Pk, ∀ c : Nat, ∀ r, r < c → ltAll 7 (svIdsL (pkC (Q r))) = true := fun _ _ _ _ => rfl
  have i1 : ∀ Q : Nat → Pk, ∀ c : Nat, ∀ r, r < c → ltAll 7 (svIdsL (bif r.beq 0 then pkC (Q 0) else pkC (Q r))) = true := fun Q c r _ => by cases r <;> rfl
  refine ⟨fun a PL p q => condSplit (fun _ => ?_) fun _ => ?_, fun b PR p q => condSplit (fun _ => ?_) fun _ => ?_, fun a PL b PR p q => condSplit (fun _ => condSplit (fun _ => ?_) fun _ => ?_) fun _ => condSplit (fun _ => ?_) fun _ => ?_⟩
  · exact ⟨rfl, rfl, ⟨fun _ _ => rfl, i0 P1 _, rfl, rfl, gB_ids _ Q 0, i1 PL _, trivial, trivial⟩, rfl, _, PL, p.cut, wkC6 (c := 0) (e := a + 1) rfl (fun b1 q => nomatch (show (none : Option Blk) = some b1 from q)) (gB_wb rfl (isL_one' PL _))⟩
  · exact ⟨rfl, rfl, ⟨fun _ _ => rfl, i0 P1 _, rfl, rfl, gB_ids _ Q 0, i0 PL _, trivial, trivial⟩, rfl, _, PL, p.cut, wkC6 (c := 0) (e := a + 1) rfl (fun b1 q => nomatch (show (none : Option Blk) = some b1 from q)) (gB_wb rfl (isL_self PL _))⟩
  · exact ⟨rfl, rfl, ⟨fun _ _ => rfl, i0 P1 _, rfl, rfl, gB_ids _ Q 0, i1 PR _, trivial, trivial⟩, rfl, _, _, Cut.none p, wkC6 (c := 0) (e := 0) rfl (fun b1 q => nomatch (show (none : Option Blk) = some b1 from q)) (fun b1 q => nomatch (show (none : Option Blk) = some b1 from q))⟩
  · exact ⟨rfl, rfl, ⟨fun _ _ => rfl, i0 P1 _, rfl, rfl, gB_ids _ Q 0, i0 PR _, trivial, trivial⟩, rfl, _, _, Cut.none p, wkC6 (c := 0) (e := 0) rfl (fun b1 q => nomatch (show (none : Option Blk) = some b1 from q)) (fun b1 q => nomatch (show (none : Option Blk) = some b1 from q))⟩
  · exact ⟨rfl, rfl, ⟨fun _ _ => rfl, i0 P1 _, rfl, rfl, gB_ids _ Q 0, i1 PL _, i1 PR _, trivial⟩, rfl, _, PL, p.cut, wkC6 (c := 0) (e := a + 1) rfl (fun b1 q => nomatch (show (none : Option Blk) = some b1 from q)) (gB_wb rfl (isL_one' PL _))⟩
  · exact ⟨rfl, rfl, ⟨fun _ _ => rfl, i0 P1 _, rfl, rfl, gB_ids _ Q 0, i1 PL _, i0 PR _, trivial⟩, rfl, _, PL, p.cut, wkC6 (c := 0) (e := a + 1) rfl (fun b1 q => nomatch (show (none : Option Blk) = some b1 from q)) (gB_wb rfl (isL_one' PL _))⟩
  · exact ⟨rfl, rfl, ⟨fun _ _ => rfl, i0 P1 _, rfl, rfl, gB_ids _ Q 0, i0 PL _, i1 PR _, trivial⟩, rfl, _, PL, p.cut, wkC6 (c := 0) (e := a + 1) rfl (fun b1 q => nomatch (show (none : Option Blk) = some b1 from q)) (gB_wb rfl (isL_self PL _))⟩
  · exact ⟨rfl, rfl, ⟨fun _ _ => rfl, i0 P1 _, rfl, rfl, gB_ids _ Q 0, i0 PL _, i0 PR _, trivial⟩, rfl, _, PL, p.cut, wkC6 (c := 0) (e := a + 1) rfl (fun b1 q => nomatch (show (none : Option Blk) = some b1 from q)) (gB_wb rfl (isL_self PL _))⟩
theorem findC6s {k n c : Nat} {R : Nat → Rw} {P Q : Nat → Pk} {g t l m s v : Int} (x0 x1 x2 x3 : Int) (h : Law n P (IntKind.i64.wrap (g + x2 % 20)) (IntKind.i64.wrap (t + x3 % 2251799813685248)) l m s v) : evalC C18 0 1 c6_4 (tplF 97 LB6 (vB6 (n + 1) g t (gV 4 (c + 1)))) ((hA6 k R (n + 1) P l m s v x0 x1 x2 x3 ++ [BO.raw (gB Q (c + 1))]).map mkB) (obsN LC6 M6c (seen 97 M6c.length fun x vals B => x = .normal ∧ ∃ e QM, Cut (lostB (IntKind.i64.wrap (g + x2 % 20)) (IntKind.i64.wrap (t + x3 % 2251799813685248)) (waitV l m s v 0) P) P (n + 1) e QM ∧ Weak 1 (tplF 97 LC6 vals) (B.map mkB) (tplF 97 LC6 (vC6 (gV 1 (c + 1)) (gV 2 e))) ((hC6 k R (gB Q (c + 1)) (gB QM e)).map mkB))) := by
  rw [p6c k R n P g t l m s v x0 x1 x2 x3 (gV 4 (c + 1)) (gB Q (c + 1))]
  generalize IntKind.i64.wrap (g + x2 % 20) = g2 at h ⊢
  generalize IntKind.i64.wrap (t + x3 % 2251799813685248) = t2 at h ⊢
  refine ⟨⟨rfl, Nat.le_refl _, by have := h.hn; omega, fun r _ => ⟨P r, rfl⟩⟩, Nat.succ_le_succ (Nat.zero_le _), fun P1 e1 g' t' w e2 e3 e4 => ?_⟩
  obtain rfl : P1 = P := e1
  subst e2 e3 e4
  refine ⟨h.late, fun tm ht => ?_⟩
  have i0 : ∀ Q : Nat → Pk, ∀ c : Nat, ∀ r, r < c → ltAll 7 (svIdsL (pkC (Q r))) = true := fun _ _ _ _ => rfl
  have i1 : ∀ Q : Nat → Pk, ∀ c : Nat, ∀ r, r < c → ltAll 7 (svIdsL (bif r.beq 0 then pkC (Q 0) else pkC (Q r))) = true := fun Q c r _ => by cases r <;> rfl
  refine ⟨fun a PL p q => condSplit (fun _ => ?_) fun _ => ?_, fun b PR p q => condSplit (fun _ => ?_) fun _ => ?_, fun a PL b PR p q => condSplit (fun _ => condSplit (fun _ => ?_) fun _ => ?_) fun _ => condSplit (fun _ => ?_) fun _ => ?_⟩
  · exact ⟨rfl, rfl, ⟨fun _ _ => rfl, i0 P1 _, rfl, rfl, gB_ids _ Q (c + 1), i1 PL _, trivial, trivial⟩, rfl, _, PL, p.cut, wkC6 (c := (c + 1)) (e := a + 1) rfl (gB_self rfl) (gB_wb rfl (isL_one' PL _))⟩
  · exact ⟨rfl, rfl, ⟨fun _ _ => rfl, i0 P1 _, rfl, rfl, gB_ids _ Q (c + 1), i0 PL _, trivial, trivial⟩, rfl, _, PL, p.cut, wkC6 (c := (c + 1)) (e := a + 1) rfl (gB_self rfl) (gB_wb rfl (isL_self PL _))⟩
  · exact ⟨rfl, rfl, ⟨fun _ _ => rfl, i0 P1 _, rfl, rfl, gB_ids _ Q (c + 1), i1 PR _, trivial, trivial⟩, rfl, _, _, Cut.none p, wkC6 (c := (c + 1)) (e := 0) rfl (gB_self rfl) (fun b1 q => nomatch (show (none : Option Blk) = some b1 from q))⟩
  · exact ⟨rfl, rfl, ⟨fun _ _ => rfl, i0 P1 _, rfl, rfl, gB_ids _ Q (c + 1), i0 PR _, trivial, trivial⟩, rfl, _, _, Cut.none p, wkC6 (c := (c + 1)) (e := 0) rfl (gB_self rfl) (fun b1 q => nomatch (show (none : Option Blk) = some b1 from q))⟩
  · exact ⟨rfl, rfl, ⟨fun _ _ => rfl, i0 P1 _, rfl, rfl, gB_ids _ Q (c + 1), i1 PL _, i1 PR _, trivial⟩, rfl, _, PL, p.cut, wkC6 (c := (c + 1)) (e := a + 1) rfl (gB_self rfl) (gB_wb rfl (isL_one' PL _))⟩
  · exact ⟨rfl, rfl, ⟨fun _ _ => rfl, i0 P1 _, rfl, rfl, gB_ids _ Q (c + 1), i1 PL _, i0 PR _, trivial⟩, rfl, _, PL, p.cut, wkC6 (c := (c + 1)) (e := a + 1) rfl (gB_self rfl) (gB_wb rfl (isL_one' PL _))⟩
  · exact ⟨rfl, rfl, ⟨fun _ _ => rfl, i0 P1 _, rfl, rfl, gB_ids _ Q (c + 1), i0 PL _, i1 PR _, trivial⟩, rfl, _, PL, p.cut, wkC6 (c := (c + 1)) (e := a + 1) rfl (gB_self rfl) (gB_wb rfl (isL_self PL _))⟩
  · exact ⟨rfl, rfl, ⟨fun _ _ => rfl, i0 P1 _, rfl, rfl, gB_ids _ Q (c + 1), i0 PL _, i0 PR _, trivial⟩, rfl, _, PL, p.cut, wkC6 (c := (c + 1)) (e := a + 1) rfl (gB_self rfl) (gB_wb rfl (isL_self PL _))⟩
theorem ids6 (k : Nat) (R : Nat → Rw) (c e : Nat) (Q QM : Nat → Pk) : allIds 3 (hC6 k R (gB Q c) (gB QM e)) := ⟨fun _ _ => rfl, gB_ids _ Q c, gB_ids _ QM e, trivial⟩
theorem end6 (k : Nat) (R : Nat → Rw) (fw mv : SV) (o1 o2 : Option Blk) : CodeOK Try.prog 1 c6_12 (tplF 97 L6 [fw, mv, .top, .top]) ((hC6 k R o1 o2).map mkB) (endK Try.prog Try.f6.results.toList fun v _ => v = .bool true) := by
  refine CodeOK.eval (C := C18) ec gs18 mixed 0 ?_
  show evalC C18 0 1 c6_12 (tplF 97 L6 [fw, mv, .top, .top]) ((hC6 k R o1 o2).map mkB) (endK Try.prog Try.f6.results.toList fun v _ => v = .bool true)
  rw [p6z k R fw mv o1 o2 (fun v => v = .bool true)]
abbrev f6L (a b q i : Nat) : List SV := [.slice 1 0 6 (a + 1), .slice 2 0 6 (b + 1), ni q, ni i]
theorem wk6 {k a b : Nat} {R : Nat → Rw} {PL PM : Nat → Pk} {vals vals' : List SV} (hv : ValW vals' vals) (hi : ltAll 3 (svIdsL vals') = true) : Weak 1 (tplF 97 L6 vals) ((hL6 k R a b PL PM).map mkB) (tplF 97 L6 vals') ((hL6 k R a b PL PM).map mkB) :=
  tpl_weak (B := hL6 k R a b PL PM) (R := []) hv hi ⟨fun _ _ => rfl, fun _ _ => rfl, fun _ _ => rfl, trivial⟩ (show 1 ≤ 3 by decide)
/-- The inner loop: the next one that is the same. -/
theorem inner6 {k a b i : Nat} {R : Nat → Rw} {PL PM : Nat → Pk} (ha : a + 1 ≤ 100) (hb : b + 1 ≤ 100) (hi : i < a + 1) (r : Nat) (hr : r < b + 1) (he : PM r = PL i) {K : KC} (hK : ∀ q, q ≤ r → K (.exit 2) (tplF 97 L6 (f6L a b q i)) ((hL6 k R a b PL PM).map mkB)) {q : Nat} (hq : q ≤ r) : CodeOK Try.prog 1 (.loop c6_9) (tplF 97 L6 (f6L a b q i)) ((hL6 k R a b PL PM).map mkB) K := by
  refine CodeOK.loop (fun N fr hp => ∃ q : Nat, q + N = r ∧ fr = tplF 97 L6 (f6L a b q i) ∧ hp = (hL6 k R a b PL PM).map mkB) ?_ (n := r - q) ⟨q, by omega, rfl, rfl⟩
  rintro N fr hp ⟨q, hN, rfl, rfl⟩
  refine (CodeOK.lookN (C := C18) ec gs18 mixed (u := 0) (len := 97) (L := L6) (M := M6d) (show 1 ≤ 3 by decide) (Q := fun x vals B => (x = .normal ∧ q < r ∧ vals = f6L a b (q + 1) i ∧ B = hL6 k R a b PL PM) ∨ (x = .exit 2 ∧ vals = f6L a b q i ∧ B = hL6 k R a b PL PM)) ?_).st ?_
  · rw [p6g k R a b PL PM q i]
    refine condT' (cb (by omega)) (condT' (cb (by omega)) (condT' (by rw [Bool.and_true]; exact cb (by omega)) (condT' (cb (by omega)) (condT' (by rw [Bool.and_true]; exact cb (by omega)) ?_))))
    simp only [Nat.zero_add, Int.toNat_natCast]
    refine condSplit (fun h => ?_) fun h => ?_
    · rw [i64n q (by omega)]
      refine ⟨rfl, rfl, ⟨fun _ _ => rfl, fun _ _ => rfl, fun _ _ => rfl, trivial⟩, .inl ⟨rfl, ?_, rfl, rfl⟩⟩
      have h : eqP (PM q) (PL i) = false := bnF h
      have hne : q ≠ r := fun e => by
        subst e
        rw [eqP_iff.2 he] at h
        cases h
      omega
    · exact ⟨rfl, rfl, ⟨fun _ _ => rfl, fun _ _ => rfl, fun _ _ => rfl, trivial⟩, .inr ⟨rfl, rfl, rfl⟩⟩
  · rintro x vals B (⟨rfl, hlt, rfl, rfl⟩ | ⟨rfl, rfl, rfl⟩)
    · exact ⟨N - 1, _, _, by omega, wk6 (vals' := f6L a b (q + 1) i) ⟨.inr rfl, .inr rfl, .inr rfl, .inr rfl, trivial⟩ rfl, q + 1, by omega, rfl, rfl⟩
    · exact hK q (by omega)
/-- All few ones are among the many. -/
theorem outer6 {k a b : Nat} {R : Nat → Rw} {PL PM : Nat → Pk} (ha : a + 1 ≤ 100) (hb : b + 1 ≤ 100) (rk : Nat → Nat) (hr : ∀ i, i < a + 1 → rk i < b + 1 ∧ PM (rk i) = PL i) (hm : ∀ i, i + 1 < a + 1 → rk i ≤ rk (i + 1)) {K : KC} (hK : K (.exit 0) (tplF 97 L6 [.slice 1 0 6 (a + 1), .slice 2 0 6 (b + 1), .top, .top]) ((hL6 k R a b PL PM).map mkB)) : CodeOK Try.prog 1 (.loop (.seq c6_8 (.seq (.block 1 (.seq (.block 2 (.loop c6_9)) c6_10)) c6_11))) (tplF 97 L6 (f6L a b 0 0)) ((hL6 k R a b PL PM).map mkB) K := by
  have ids : allIds 3 (hL6 k R a b PL PM) := ⟨fun _ _ => rfl, fun _ _ => rfl, fun _ _ => rfl, trivial⟩
  refine CodeOK.monoW (K := fun x fr hp => x = .exit 0 ∧ ∃ q i, fr = tplF 97 L6 (f6L a b q i) ∧ hp = (hL6 k R a b PL PM).map mkB) ?_ ?_
  · refine CodeOK.loop (fun N fr hp => ∃ i q : Nat, i + N = a + 1 ∧ (i < a + 1 → q ≤ rk i) ∧ fr = tplF 97 L6 (f6L a b q i) ∧ hp = (hL6 k R a b PL PM).map mkB) ?_ (n := a + 1) ⟨0, 0, by omega, fun _ => Nat.zero_le _, rfl, rfl⟩
    rintro N fr hp ⟨i, q, hN, hq, rfl, rfl⟩
    refine CodeOK.seq ?_
    by_cases hi : i < a + 1
    · refine CodeOK.at (C := C18) ec gs18 mixed (u := 0) (len := 97) (L := L6) (M := M6d) (vals := f6L a b q i) (B := hL6 k R a b PL PM) (show 1 ≤ 3 by decide) .normal ?_ ?_
      · rw [p6f k R a b PL PM q i]
        exact condT' (cb (by omega)) ⟨rfl, rfl, ids, rfl, rfl, rfl⟩
      · obtain ⟨r1, r2⟩ := hr i hi
        refine CodeOK.seq (CodeOK.block (CodeOK.seq (CodeOK.block (inner6 ha hb hi (rk i) r1 r2 (fun q' hq' => ?_) (hq hi)))))
        refine CodeOK.lookE (C := C18) ec gs18 mixed (u := 0) (len := 97) (rs := Try.f6.results.toList) (L := L6) (M := M6d) (show 1 ≤ 3 by decide) (Q := atS .normal (f6L a b q' i) (hL6 k R a b PL PM)) (kr := fun _ => False) ?_ ?_ fun fr hp h => (endK_no' h).elim
        · show evalC C18 0 1 c6_10 (tplF 97 L6 (f6L a b q' i)) _ (obsE Try.prog Try.f6.results.toList L6 M6d _ _)
          rw [p6h k R a b PL PM q' i]
          exact condF' (beq_eq_false_iff_ne.2 (by omega)) ⟨rfl, rfl, ids, rfl, rfl, rfl⟩
        · rintro x vals B ⟨rfl, rfl, rfl⟩
          refine CodeOK.at (C := C18) ec gs18 mixed (u := 0) (len := 97) (L := L6) (M := M6d) (vals := f6L a b q' (i + 1)) (B := hL6 k R a b PL PM) (show 1 ≤ 3 by decide) .normal ?_ ?_
          · rw [p6i k R a b PL PM q' i, i64n i (by omega)]
            exact ⟨rfl, rfl, ids, rfl, rfl, rfl⟩
          · exact ⟨N - 1, _, _, by omega, wk6 (vals' := f6L a b q' (i + 1)) ⟨.inr rfl, .inr rfl, .inr rfl, .inr rfl, trivial⟩ rfl, i + 1, q', by omega, fun h => by have := hm i h; omega, rfl, rfl⟩
    · refine CodeOK.at (C := C18) ec gs18 mixed (u := 0) (len := 97) (L := L6) (M := M6d) (vals := f6L a b q i) (B := hL6 k R a b PL PM) (show 1 ≤ 3 by decide) (.exit 0) ?_ ⟨rfl, q, i, rfl, rfl⟩
      rw [p6f k R a b PL PM q i]
      exact condF' (cf (by omega)) ⟨rfl, rfl, ids, rfl, rfl, rfl⟩
  · rintro x fr hp ⟨rfl, q, i, rfl, rfl⟩
    exact ⟨_, _, wk6 (vals' := [.slice 1 0 6 (a + 1), .slice 2 0 6 (b + 1), .top, .top]) ⟨.inr rfl, .inr rfl, .inl rfl, .inl rfl, trivial⟩ rfl, hK⟩
theorem tail6 {k n c e : Nat} {R : Nat → Rw} {P Q QM : Nat → Pk} {g t g2 t2 l m s v : Int} (h : Law n P g t l m s v) (h2 : Law n P g2 t2 l m s v) (hg : g ≤ g2) (ht : t ≤ t2) (c1 : Cut (lostB g t (waitV l m s v 0) P) P (n + 1) c Q) (c2 : Cut (lostB g2 t2 (waitV l m s v 0) P) P (n + 1) e QM) : CodeOK Try.prog 1 (.seq c6_5 (.seq c6_6 (.seq (.seq c6_7 (.block 0 (.loop (.seq c6_8 (.seq (.block 1 (.seq (.block 2 (.loop c6_9)) c6_10)) c6_11))))) c6_12))) (tplF 97 LC6 (vC6 (gV 1 c) (gV 2 e))) ((hC6 k R (gB Q c) (gB QM e)).map mkB) (endK Try.prog Try.f6.results.toList fun v _ => v = .bool true) := by
  have hn := h.hn
  have hvs : ∀ i : SV, svIds i = [] → ltAll 3 (svIdsL [gV 1 c, gV 2 e, ni 0, i]) = true := fun i hi => by
    show ltAll 3 (svIds (gV 1 c) ++ (svIds (gV 2 e) ++ ([] ++ (svIds i ++ [])))) = true
    rw [hi]
    cases c <;> cases e <;> rfl
  refine CodeOK.frontE (C := C18) ec gs18 mixed (u := 0) (len := 97) (rs := Try.f6.results.toList) (L := L6) (M := M6d) [c6_5, c6_6] (show 1 ≤ 3 by decide) (Q := atS .normal [gV 1 c, gV 2 e, ni 0, .top] (hC6 k R (gB Q c) (gB QM e))) (kr := fun _ => False) ?_ ?_ fun fr hp h => (endK_no' h).elim
  · show evalC C18 0 1 (.seq c6_5 (.seq c6_6 .skip)) _ _ (obsE Try.prog Try.f6.results.toList L6 M6d _ _)
    rw [p6d]
    exact ⟨rfl, hvs .top rfl, ids6 k R c e Q QM, rfl, rfl, rfl⟩
  rintro x vals B ⟨rfl, rfl, rfl⟩
  refine CodeOK.seq (CodeOK.seq (CodeOK.at (C := C18) ec gs18 mixed (u := 0) (len := 97) (L := L6) (M := M6d) (vals := [gV 1 c, gV 2 e, ni 0, ni 0]) (B := hC6 k R (gB Q c) (gB QM e)) (show 1 ≤ 3 by decide) .normal ?_ (CodeOK.block ?_)))
  · show evalC C18 0 1 c6_7 (tplF 97 L6 [gV 1 c, gV 2 e, .int .i64 (0 : Nat), .top]) ((hC6 k R (gB Q c) (gB QM e)).map mkB) _
    rw [p6e]
    exact ⟨rfl, hvs (ni 0) rfl, ids6 k R c e Q QM, rfl, rfl, rfl⟩
  cases c with
  | zero =>
    refine CodeOK.monoW (K := fun x fr hp => x = .exit 0 ∧ fr = tplF 97 L6 [.nilSlice, gV 2 e, ni 0, ni 0] ∧ hp = (hC6 k R none (gB QM e)).map mkB) ?_ ?_
    · refine CodeOK.loop (fun N fr hp => fr = tplF 97 L6 [.nilSlice, gV 2 e, ni 0, ni 0] ∧ hp = (hC6 k R none (gB QM e)).map mkB) ?_ (n := 0) ⟨rfl, rfl⟩
      rintro N fr hp ⟨rfl, rfl⟩
      refine CodeOK.seq (CodeOK.at (C := C18) ec gs18 mixed (u := 0) (len := 97) (L := L6) (M := M6d) (vals := [.nilSlice, gV 2 e, ni 0, ni 0]) (B := hC6 k R none (gB QM e)) (show 1 ≤ 3 by decide) (.exit 0) ?_ ⟨rfl, rfl, rfl⟩)
      rw [p6fn k R (gV 2 e) none (gB QM e)]
      exact ⟨rfl, hvs (ni 0) rfl, ids6 k R 0 e Q QM, rfl, rfl, rfl⟩
    · rintro x fr hp ⟨rfl, rfl, rfl⟩
      refine ⟨_, _, tpl_weak (B := hC6 k R none (gB QM e)) (R := []) (vals' := [.nilSlice, gV 2 e, .top, .top]) ⟨.inr rfl, .inr rfl, .inl rfl, .inl rfl, trivial⟩ ?_ (ids6 k R 0 e Q QM) (show 1 ≤ 3 by decide), end6 k R _ _ _ _⟩
      cases e <;> rfl
  | succ a =>
    cases e with
    | zero =>
      obtain ⟨h3, h4⟩ := ixS_lt (lostB g t (waitV l m s v 0) P) (i := n + 1) (r := 0) (by rw [c1.cnt]; omega)
      have h5 := h.grow h2 hg ht h3 h4
      rw [cnt0_no h3 c2.cnt] at h5
      cases h5
    | succ b =>
      have hc : a + 1 ≤ n + 1 := by rw [← c1.cnt]; exact cntS_le _ _
      have he : b + 1 ≤ n + 1 := by rw [← c2.cnt]; exact cntS_le _ _
      have key : ∀ i, i < a + 1 → ixS (lostB g t (waitV l m s v 0) P) (n + 1) i < n + 1 ∧ lostB g2 t2 (waitV l m s v 0) P (ixS (lostB g t (waitV l m s v 0) P) (n + 1) i) = true := fun i hi => by
        obtain ⟨h3, h4⟩ := ixS_lt (lostB g t (waitV l m s v 0) P) (i := n + 1) (r := i) (by rw [c1.cnt]; exact hi)
        exact ⟨h3, h.grow h2 hg ht h3 h4⟩
      refine outer6 (by omega) (by omega) (fun i => cntS (lostB g2 t2 (waitV l m s v 0) P) (ixS (lostB g t (waitV l m s v 0) P) (n + 1) i)) (fun i hi => ?_) (fun i hi => ?_) (end6 k R _ _ _ _)
      · obtain ⟨h3, h4⟩ := key i hi
        obtain ⟨h5, h6⟩ := pick_at h3 h4
        rw [c2.cnt] at h5
        exact ⟨h5, by rw [c2.row _ h5, h6, c1.row i hi]⟩
      · obtain ⟨h3, h4⟩ := key i (by omega)
        obtain ⟨h5, h6⟩ := key (i + 1) hi
        have h7 := ixS_mono (lostB g t (waitV l m s v 0) P) (i := n + 1) (r := i) (s := i + 1) (by omega) (by rw [c1.cnt]; exact hi)
        exact Nat.le_of_lt (pick_at h7 h4).1
theorem canon6 (k : Nat) (R : Nat → Rw) (x0 x1 x2 x3 a b : Int) (hk : 0 < k) : Canon Try.prog 6 [.slice 0 0 3 k, .agg [.int .i64 x0, .int .i64 x1, .int .i64 x2, .int .i64 x3], .agg [.int .i64 a, .int .i64 b]] [some (bR k R)] fun v _ => v = .bool true := by
  refine CodeOK.body Try.func6 (by kernel_rfl) ?_
  rw [code6]
  have hg : IntKind.i64.wrap (x0 % 260 - 1) = x0 % 260 - 1 := wrap_id (by omega) (by omega)
  refine CodeOK.frontN (C := C18) ec gs18 mixed (u := 0) (len := 97) (L := LA6) (M := M6a) [c6_0, c6_1, c6_2] (show 1 ≤ 5 by decide) (Q := fun e vals B => e = .normal ∧ ∃ n P l m s v, Law n P (x0 % 260 - 1) (x1 % 2251799813685248) l m s v ∧ Weak 1 (tplF 97 LA6 vals) (B.map mkB) (tplF 97 LA6 (vA6 (n + 1) (x0 % 260 - 1) (x1 % 2251799813685248))) ((hA6 k R (n + 1) P l m s v x0 x1 x2 x3).map mkB)) ?_ ?_
  · show evalC C18 0 1 (.seq c6_0 (.seq c6_1 (.seq c6_2 .skip))) (enterS 97 _) _ (obsN LA6 M6a _)
    rw [p6a, hg]
    refine ⟨⟨rfl, Nat.le_refl _, fun r _ => ⟨R r, rfl⟩⟩, hk, fun n hn P hP => condSplit (fun _ l m s v h1 h2 h3 h4 => ?_) fun _ l m s v h1 h2 h3 h4 => ?_⟩
    · refine ⟨rfl, rfl, ⟨fun _ _ => rfl, rfl, rfl, fun r _ => by cases r <;> rfl, rfl, trivial⟩, rfl, n, P, l, m, s, v, ⟨by omega, Ms.of h1 h2 h3 h4, by omega, by omega, _, hP⟩, ?_⟩
      exact wkA6 rfl rfl rfl (isL_one' P (n + 1)) rfl
    · refine ⟨rfl, rfl, ⟨fun _ _ => rfl, rfl, rfl, fun r _ => rfl, rfl, trivial⟩, rfl, n, P, l, m, s, v, ⟨by omega, Ms.of h1 h2 h3 h4, by omega, by omega, _, hP⟩, ?_⟩
      exact wkA6 rfl rfl rfl (isL_self P (n + 1)) rfl
  rintro e vals B ⟨rfl, n, P, l, m, s, v, h, hw⟩
  have hg2 : -1 ≤ x0 % 260 - 1 ∧ x0 % 260 - 1 ≤ 258 := by omega
  have ht2 : 0 ≤ x1 % 2251799813685248 ∧ x1 % 2251799813685248 ≤ 2251799813685247 := by omega
  generalize x0 % 260 - 1 = g at h hw hg2
  generalize x1 % 2251799813685248 = t at h hw ht2
  have w1 : IntKind.i64.wrap (g + x2 % 20) = g + x2 % 20 := wrap_id (by omega) (by omega)
  have w2 : IntKind.i64.wrap (t + x3 % 2251799813685248) = t + x3 % 2251799813685248 := wrap_id (by omega) (by omega)
  have h2 : Law n P (IntKind.i64.wrap (g + x2 % 20)) (IntKind.i64.wrap (t + x3 % 2251799813685248)) l m s v := ⟨h.hn, h.ms, by rw [w1]; omega, by rw [w2]; omega, h.pk⟩
  refine CodeOK.pre hw ?_
  refine CodeOK.seq ((CodeOK.lookN (C := C18) ec gs18 mixed (u := 0) (len := 97) (L := LB6) (M := M6b) (show 1 ≤ 6 by decide) (findB6 x0 x1 x2 x3 h)).st ?_)
  rintro e vals B ⟨rfl, c, Q, c1, hw⟩
  refine CodeOK.pre hw ?_
  cases c with
  | zero =>
    refine CodeOK.seq ((CodeOK.lookN (C := C18) ec gs18 mixed (u := 0) (len := 97) (L := LC6) (M := M6c) (show 1 ≤ 7 by decide) (findC6z (Q := Q) x0 x1 x2 x3 h2)).st ?_)
    rintro e vals B ⟨rfl, e, QM, c2, hw⟩
    exact CodeOK.pre hw (tail6 h h2 (by omega) (by omega) c1 c2)
  | succ c =>
    refine CodeOK.seq ((CodeOK.lookN (C := C18) ec gs18 mixed (u := 0) (len := 97) (L := LC6) (M := M6c) (show 1 ≤ 7 by decide) (findC6s (Q := Q) (c := c) x0 x1 x2 x3 h2)).st ?_)
    rintro e vals B ⟨rfl, e, QM, c2, hw⟩
    exact CodeOK.pre hw (tail6 h h2 (by omega) (by omega) c1 c2)
theorem canon6z (x0 x1 x2 x3 a b : Int) : Canon Try.prog 6 [.eslice, .agg [.int .i64 x0, .int .i64 x1, .int .i64 x2, .int .i64 x3], .agg [.int .i64 a, .int .i64 b]] [] fun v _ => v = .bool true := by
  have hg : IntKind.i64.wrap (x0 % 260 - 1) = x0 % 260 - 1 := wrap_id (by omega) (by omega)
  have w1 : IntKind.i64.wrap (x0 % 260 - 1 + x2 % 20) = x0 % 260 - 1 + x2 % 20 := wrap_id (by omega) (by omega)
  have w2 : IntKind.i64.wrap (x1 % 2251799813685248 + x3 % 2251799813685248) = x1 % 2251799813685248 + x3 % 2251799813685248 := wrap_id (by omega) (by omega)
  refine evalF_ok (C := C18) ec gs18 mixed (u := 64) Try.func6 (by kernel_rfl) ?_
  show evalF C18 64 Try.f6 [.eslice, .agg [.int .i64 x0, .int .i64 x1, .int .i64 x2, .int .i64 x3], .agg [.int .i64 a, .int .i64 b]] [] _
  rw [t6e x0 x1 x2 x3 a b (fun v => v = .bool true), hg, w1, w2]
  exact fun l m s v h1 h2 h3 h4 => ⟨late_0 (by omega) (by omega) (Ms.of h1 h2 h3 h4), late_0 (by omega) (by omega) (Ms.of h1 h2 h3 h4), rfl⟩
end
theorem grows_any (s : Option Addr) (len cap : Nat) (x0 x1 x2 x3 a b : Int) (W : World) (h : IsRws W s len cap) : Calls Try.prog 6 #[.slice s len cap, .agg #[.int .i64 x0, .int .i64 x1, .int .i64 x2, .int .i64 x3], .agg #[.int .i64 a, .int .i64 b]] W fun e w' => e = .returned (.bool true) ∧ Below W.heap.size W w' := by
  rcases h.cases with rfl | ⟨hn, b1, off1, g, rfl, hc1, hB1⟩
  · exact lawOf (canon6z x0 x1 x2 x3 a b) (RL.cons (by simp [R]) (RL.cons (by simp [R, RL]) (RL.cons (by simp [R, RL]) RL.nil))) W
  · exact law1 rfl (canon6 len g x0 x1 x2 x3 a b hn) hB1 (RL.cons (by simp [R]; omega) (RL.cons (by simp [R, RL]) (RL.cons (by simp [R, RL]) RL.nil)))
end Go.Proofs.Ytcjfmkkfcbelpaa
