/-
  Contracts of Whole at any slice, and of the chapter's examples.
-/
import Derived.Test.YtpkbbbfgabfcgaaW2
import Derived.Test.YtpkbbbfgabfcgaaW3
import Derived.Test.YtpkbbbfgabfcgaaW4
namespace Go.Proofs.Ytpkbbbfgabfcgaa
open Go.RowKit

theorem wholeN_bad {g : Int} {xs : List Int} (h : g < -1 ∨ 9007199254740991 < g ∨ xs.length < 1 ∨ 4 < xs.length) : wholeN g xs = 0 := by
  rw [wholeN, if_pos h]
theorem wholeN_ok {g : Int} {xs : List Int} (h0 : -1 ≤ g) (h1 : g ≤ 9007199254740991) (h2 : 1 ≤ xs.length) (h4 : xs.length ≤ 4) : wholeN g xs = nearV (g + 1) (allV xs.length) (cutV xs) := by
  rw [wholeN, if_neg (by omega)]
theorem wholeE_ok {g : Int} {xs : List Int} (h0 : -1 ≤ g) (h1 : g ≤ 9007199254740991) (h2 : 1 ≤ xs.length) (h4 : xs.length ≤ 4) : wholeE g xs = 0 := by
  rw [wholeE, if_neg (by omega), if_neg (by omega)]
theorem wholeE_len {g : Int} {xs : List Int} (h0 : -1 ≤ g) (h1 : g ≤ 9007199254740991) (h : xs.length < 1 ∨ 4 < xs.length) : wholeE g xs = 2 := by
  rw [wholeE, if_neg (by omega), if_pos (by omega)]

/-- What Whole leaves. -/
def Wholed (w : World) (g : Int) (xs : List Int) (e : Ending) (w' : World) : Prop :=
  e = .returned (.tuple #[.int .i64 (wholeN g xs), .int .i64 (wholeE g xs)]) ∧ Below w.heap.size w w'

set_option maxHeartbeats 1000000 in
theorem whole_any (g : Int) (A : Option Addr) (n c : Nat) (xs : List Int) (w : World) (hn : xs.length = n) (h : BS w A xs) :
    Calls Try.prog 15 #[.int .i64 g, .slice A n c] w (Wholed w g xs) := by
  by_cases hg : g < -1 ∨ 9007199254740991 < g
  · have hN : isN g = false := isN_false (by omega)
    have hne : (g != -1) = true := by rw [bne_iff_ne]; omega
    have k1 := wholeN_bad (xs := xs) (show g < -1 ∨ 9007199254740991 < g ∨ xs.length < 1 ∨ 4 < xs.length by omega)
    have k2 : wholeE g xs = 9 := by rw [wholeE, if_pos hg]
    have K1 := Lib.hid k1
    have K2 := Lib.hid k2
    clear k1 k2 hn h hg
    go_enter Try.func15, Try.ntmps15
    go_wp2_with (go_at_call 19; refine (is_any _ _).mono ?_; rintro e w' ⟨rfl, rfl⟩)
    go_ret2
    exact ⟨ret2_int K1.out.symm K2.out.symm, Below.refl _ _⟩
  by_cases hl : n < 1 ∨ 4 < n
  · have k1 := wholeN_bad (g := g) (xs := xs) (by omega)
    have k2 := wholeE_len (g := g) (xs := xs) (by omega) (by omega) (by omega)
    have K1 := Lib.hid k1
    have K2 := Lib.hid k2
    clear k1 k2
    clear h
    by_cases hm : g = -1
    · clear hn
      subst hm
      rcases hl with hl | hl
      all_goals
        go_enter Try.func15, Try.ntmps15
        go_wp2_with (go_at_call 19; refine (is_any _ _).mono ?_; rintro e w' ⟨rfl, rfl⟩)
        go_ret2
        exact ⟨ret2_int K1.out.symm K2.out.symm, Below.refl _ _⟩
    · clear hn
      have hN : isN g = true := isN_true (by omega) (by omega)
      have hne : (g != -1) = true := by rw [bne_iff_ne]; omega
      clear hm hg
      rcases hl with hl | hl
      all_goals
        go_enter Try.func15, Try.ntmps15
        go_wp2_with (go_at_call 19; refine (is_any _ _).mono ?_; rintro e w' ⟨rfl, rfl⟩)
        go_ret2
        exact ⟨ret2_int K1.out.symm K2.out.symm, Below.refl _ _⟩
  · have k1 := wholeN_ok (g := g) (xs := xs) (by omega) (by omega) (by omega) (by omega)
    have k2 := wholeE_ok (g := g) (xs := xs) (by omega) (by omega) (by omega) (by omega)
    unfold Wholed
    rw [k1, k2]
    obtain ⟨hc, hb⟩ := h
    rcases hc with h0 | ⟨b, off, rfl, _, hc⟩
    · subst h0; simp at hn; omega
    match xs, hn, hb, hc with
    | [], hn, _, _ => simp at hn; omega
    | [x0], hn, hb, hc =>
      subst hn
      have b0 := hb x0 (by simp)
      have c0 := hc 0 (by simp)
      have e : cutV [x0] = x0 := by simp [cutV]
      rw [e]
      by_cases hm : g = -1
      · subst hm; exact whole1_never x0 b off c w b0.1 b0.2 (by simpa using c0)
      · exact whole1 g x0 b off c w (by omega) (by omega) b0.1 b0.2 (by simpa using c0)
    | [x0, x1], hn, hb, hc =>
      subst hn
      have b0 := hb x0 (by simp)
      have b1 := hb x1 (by simp)
      have c0 := hc 0 (by simp)
      have c1 := hc 1 (by simp)
      have e : cutV [x0, x1] = x0 * 256 + x1 := by simp [cutV]
      rw [e]
      by_cases hm : g = -1
      · subst hm; exact whole2_never x0 x1 b off c w b0.1 b0.2 b1.1 b1.2 (by simpa using c0) (by simpa using c1)
      · exact whole2 g x0 x1 b off c w (by omega) (by omega) b0.1 b0.2 b1.1 b1.2 (by simpa using c0) (by simpa using c1)
    | [x0, x1, x2], hn, hb, hc =>
      subst hn
      have b0 := hb x0 (by simp)
      have b1 := hb x1 (by simp)
      have b2 := hb x2 (by simp)
      have c0 := hc 0 (by simp)
      have c1 := hc 1 (by simp)
      have c2 := hc 2 (by simp)
      have e : cutV [x0, x1, x2] = (x0 * 256 + x1) * 256 + x2 := by simp [cutV]
      rw [e]
      by_cases hm : g = -1
      · subst hm; exact whole3_never x0 x1 x2 b off c w b0.1 b0.2 b1.1 b1.2 b2.1 b2.2 (by simpa using c0) (by simpa using c1) (by simpa using c2)
      · exact whole3 g x0 x1 x2 b off c w (by omega) (by omega) b0.1 b0.2 b1.1 b1.2 b2.1 b2.2 (by simpa using c0) (by simpa using c1) (by simpa using c2)
    | [x0, x1, x2, x3], hn, hb, hc =>
      subst hn
      have b0 := hb x0 (by simp)
      have b1 := hb x1 (by simp)
      have b2 := hb x2 (by simp)
      have b3 := hb x3 (by simp)
      have c0 := hc 0 (by simp)
      have c1 := hc 1 (by simp)
      have c2 := hc 2 (by simp)
      have c3 := hc 3 (by simp)
      have e : cutV [x0, x1, x2, x3] = ((x0 * 256 + x1) * 256 + x2) * 256 + x3 := by simp [cutV]
      rw [e]
      by_cases hm : g = -1
      · subst hm; exact whole4_never x0 x1 x2 x3 b off c w b0.1 b0.2 b1.1 b1.2 b2.1 b2.2 b3.1 b3.2 (by simpa using c0) (by simpa using c1) (by simpa using c2) (by simpa using c3)
      · exact whole4 g x0 x1 x2 x3 b off c w (by omega) (by omega) b0.1 b0.2 b1.1 b1.2 b2.1 b2.2 b3.1 b3.2 (by simpa using c0) (by simpa using c1) (by simpa using c2) (by simpa using c3)
    | _ :: _ :: _ :: _ :: _ :: _, hn, _, _ => simp at hn; omega

set_option maxHeartbeats 1000000 in
theorem rwhole_any (g : Int) (A : Option Addr) (n c : Nat) (xs : List Int) (w : World) (hn : xs.length = n) (h : BS w A xs) :
    Calls Try.prog 16 #[.int .i64 g, .slice A n c] w (Wholed w g xs) := by
  by_cases hg : g < -1 ∨ 9007199254740991 < g
  · have hN : isN g = false := isN_false (by omega)
    have hne : (g != -1) = true := by rw [bne_iff_ne]; omega
    have k1 := wholeN_bad (xs := xs) (show g < -1 ∨ 9007199254740991 < g ∨ xs.length < 1 ∨ 4 < xs.length by omega)
    have k2 : wholeE g xs = 9 := by rw [wholeE, if_pos hg]
    have K1 := Lib.hid k1
    have K2 := Lib.hid k2
    clear k1 k2 hn h hg
    go_enter Try.func16, Try.ntmps16
    go_wp2_with (go_at_call 20; refine (ris_any _ _).mono ?_; rintro e w' ⟨rfl, rfl⟩)
    go_ret2
    exact ⟨ret2_int K1.out.symm K2.out.symm, Below.refl _ _⟩
  by_cases hl : n < 1 ∨ 4 < n
  · have k1 := wholeN_bad (g := g) (xs := xs) (by omega)
    have k2 := wholeE_len (g := g) (xs := xs) (by omega) (by omega) (by omega)
    have K1 := Lib.hid k1
    have K2 := Lib.hid k2
    clear k1 k2
    clear h
    by_cases hm : g = -1
    · clear hn
      subst hm
      rcases hl with hl | hl
      all_goals
        go_enter Try.func16, Try.ntmps16
        go_wp2_with (go_at_call 20; refine (ris_any _ _).mono ?_; rintro e w' ⟨rfl, rfl⟩)
        go_ret2
        exact ⟨ret2_int K1.out.symm K2.out.symm, Below.refl _ _⟩
    · clear hn
      have hN : isN g = true := isN_true (by omega) (by omega)
      have hne : (g != -1) = true := by rw [bne_iff_ne]; omega
      clear hm hg
      rcases hl with hl | hl
      all_goals
        go_enter Try.func16, Try.ntmps16
        go_wp2_with (go_at_call 20; refine (ris_any _ _).mono ?_; rintro e w' ⟨rfl, rfl⟩)
        go_ret2
        exact ⟨ret2_int K1.out.symm K2.out.symm, Below.refl _ _⟩
  · have k1 := wholeN_ok (g := g) (xs := xs) (by omega) (by omega) (by omega) (by omega)
    have k2 := wholeE_ok (g := g) (xs := xs) (by omega) (by omega) (by omega) (by omega)
    unfold Wholed
    rw [k1, k2]
    obtain ⟨hc, hb⟩ := h
    rcases hc with h0 | ⟨b, off, rfl, _, hc⟩
    · subst h0; simp at hn; omega
    match xs, hn, hb, hc with
    | [], hn, _, _ => simp at hn; omega
    | [x0], hn, hb, hc =>
      subst hn
      have b0 := hb x0 (by simp)
      have c0 := hc 0 (by simp)
      have e : cutV [x0] = x0 := by simp [cutV]
      rw [e]
      by_cases hm : g = -1
      · subst hm; exact rwhole1_never x0 b off c w b0.1 b0.2 (by simpa using c0)
      · exact rwhole1 g x0 b off c w (by omega) (by omega) b0.1 b0.2 (by simpa using c0)
    | [x0, x1], hn, hb, hc =>
      subst hn
      have b0 := hb x0 (by simp)
      have b1 := hb x1 (by simp)
      have c0 := hc 0 (by simp)
      have c1 := hc 1 (by simp)
      have e : cutV [x0, x1] = x0 * 256 + x1 := by simp [cutV]
      rw [e]
      by_cases hm : g = -1
      · subst hm; exact rwhole2_never x0 x1 b off c w b0.1 b0.2 b1.1 b1.2 (by simpa using c0) (by simpa using c1)
      · exact rwhole2 g x0 x1 b off c w (by omega) (by omega) b0.1 b0.2 b1.1 b1.2 (by simpa using c0) (by simpa using c1)
    | [x0, x1, x2], hn, hb, hc =>
      subst hn
      have b0 := hb x0 (by simp)
      have b1 := hb x1 (by simp)
      have b2 := hb x2 (by simp)
      have c0 := hc 0 (by simp)
      have c1 := hc 1 (by simp)
      have c2 := hc 2 (by simp)
      have e : cutV [x0, x1, x2] = (x0 * 256 + x1) * 256 + x2 := by simp [cutV]
      rw [e]
      by_cases hm : g = -1
      · subst hm; exact rwhole3_never x0 x1 x2 b off c w b0.1 b0.2 b1.1 b1.2 b2.1 b2.2 (by simpa using c0) (by simpa using c1) (by simpa using c2)
      · exact rwhole3 g x0 x1 x2 b off c w (by omega) (by omega) b0.1 b0.2 b1.1 b1.2 b2.1 b2.2 (by simpa using c0) (by simpa using c1) (by simpa using c2)
    | [x0, x1, x2, x3], hn, hb, hc =>
      subst hn
      have b0 := hb x0 (by simp)
      have b1 := hb x1 (by simp)
      have b2 := hb x2 (by simp)
      have b3 := hb x3 (by simp)
      have c0 := hc 0 (by simp)
      have c1 := hc 1 (by simp)
      have c2 := hc 2 (by simp)
      have c3 := hc 3 (by simp)
      have e : cutV [x0, x1, x2, x3] = ((x0 * 256 + x1) * 256 + x2) * 256 + x3 := by simp [cutV]
      rw [e]
      by_cases hm : g = -1
      · subst hm; exact rwhole4_never x0 x1 x2 x3 b off c w b0.1 b0.2 b1.1 b1.2 b2.1 b2.2 b3.1 b3.2 (by simpa using c0) (by simpa using c1) (by simpa using c2) (by simpa using c3)
      · exact rwhole4 g x0 x1 x2 x3 b off c w (by omega) (by omega) b0.1 b0.2 b1.1 b1.2 b2.1 b2.2 b3.1 b3.2 (by simpa using c0) (by simpa using c1) (by simpa using c2) (by simpa using c3)
    | _ :: _ :: _ :: _ :: _ :: _, hn, _, _ => simp at hn; omega


/-! ### The chapter's examples -/
theorem length_any (full acked want : Int) (w : World) (h1 : lenN full acked = want) (h2 : lenE full acked = 0) :
    Calls Try.prog 23 #[.int .i64 full, .int .i64 acked, .int .i64 want] w fun e w' => e = .returned (.bool true) ∧ w = w' := by
  subst h1
  go_enter Try.func23, Try.ntmps23
  go_wp2_with (go_at_call 9; refine (len_any _ _ _).mono ?_; rintro e w' ⟨rfl, rfl⟩)
  go_ret
  exact ⟨by simp, rfl⟩

theorem lcut_any (full : Int) (A : Option Addr) (n c : Nat) (ys : List Int) (w : World) (h0 : 0 ≤ full) (h1 : full ≤ 9007199254740991) (hn1 : 1 ≤ n) (hn2 : n ≤ 4) (hA : BS w A ys) (hy : ys = cutL full n) :
    Calls Try.prog 24 #[.int .i64 full, .slice A n c] w fun e w' => e = .returned (.bool true) ∧ Below w.heap.size w w' := by
  subst hy
  have hl := cutL_length (full := full) (n := n) (by omega) (by omega)
  go_enter Try.func24, Try.ntmps24
  go_wp2_with (first
    | (go_at_call 11; refine (cut_yes _ _ _ h0 h1 (by omega) (by omega)).mono ?_; rintro e w' ⟨A', c', rfl, hA', hb⟩)
    | (go_at_call 13; refine (eqb_any _ _ _ _ _ _ (cutL full n) (cutL full n) _ (by omega) (by omega) hA' (hA.below hb)).mono ?_; rintro e w' ⟨rfl, rfl⟩))
  go_ret
  exact ⟨rfl, hb⟩

theorem lwhole_any (g want : Int) (A : Option Addr) (n c : Nat) (xs : List Int) (w : World) (hn : xs.length = n) (hA : BS w A xs) (h1 : wholeN g xs = want) (h2 : wholeE g xs = 0) :
    Calls Try.prog 25 #[.int .i64 g, .int .i64 want, .slice A n c] w fun e w' => e = .returned (.bool true) ∧ Below w.heap.size w w' := by
  subst h1
  have HN := Lib.hid hn
  clear hn
  go_enter Try.func25, Try.ntmps25
  go_wp2_with (go_at_call 15; refine (whole_any g A n c xs _ HN.out hA).mono ?_; rintro e w' ⟨rfl, hb⟩)
  go_ret
  exact ⟨by simp, hb⟩

/-- A slice that was just built, behind calls that left all below w0 as it was. -/
theorem lcut_at {w0 : World} (full : Int) (cs : Array Value) (T : TypeId) (n c : Nat) (ys : List Int) (w1 : World) (hb : Below w0.heap.size w0 w1) (h0 : 0 ≤ full) (h1 : full ≤ 9007199254740991) (hn1 : 1 ≤ n) (hn2 : n ≤ 4)
    (hc : cs.toList = ys.map (Value.int .u8)) (hy : ys = cutL full n) :
    Calls Try.prog 24 #[.int .i64 full, .slice (some ⟨w1.heap.size, 0, none⟩) n c] (w1.alloc (.cells cs T)) fun e w' => e = .returned (.bool true) ∧ Below w0.heap.size w0 w' :=
  (lcut_any full _ n c ys _ h0 h1 hn1 hn2 (BS.new (by simpa using hc) (by rw [hy]; exact cutL_byte _ _)) hy).mono fun _ _ ⟨he, h⟩ => ⟨he, (hb.alloc hb.size _).trans (h.mono (by simp; have := hb.size; omega))⟩
theorem lwhole_at {w0 : World} (g want : Int) (cs : Array Value) (T : TypeId) (n c : Nat) (xs : List Int) (w1 : World) (hb : Below w0.heap.size w0 w1) (hn : xs.length = n) (hc : cs.toList = xs.map (Value.int .u8)) (hx : ∀ x ∈ xs, 0 ≤ x ∧ x ≤ 255)
    (h1 : wholeN g xs = want) (h2 : wholeE g xs = 0) :
    Calls Try.prog 25 #[.int .i64 g, .int .i64 want, .slice (some ⟨w1.heap.size, 0, none⟩) n c] (w1.alloc (.cells cs T)) fun e w' => e = .returned (.bool true) ∧ Below w0.heap.size w0 w' :=
  (lwhole_any g want _ n c xs _ hn (BS.new (by simpa using hc) hx) h1 h2).mono fun _ _ ⟨he, h⟩ => ⟨he, (hb.alloc hb.size _).trans (h.mono (by simp; have := hb.size; omega))⟩


end Go.Proofs.Ytpkbbbfgabfcgaa
