/-
  The chapter's examples: works.
-/
import Derived.Test.YtpkbbbfgabfcgaaW5
namespace Go.Proofs.Ytpkbbbfgabfcgaa
open Go.RowKit

set_option maxHeartbeats 1000000 in
theorem works_any (w : World) : Calls Try.prog 17 #[] w fun e w' => e = .returned (.bool true) ∧ Below w.heap.size w w' := by
  have hb0 := Below.refl w.heap.size w
  go_enter Try.func17, Try.ntmps17
  go_wp2_with (go_at_call 23; refine (length_any _ _ _ _ (by decide) (by decide)).mono ?_; rintro e w' ⟨rfl, rfl⟩)
  refine (lcut_at (w0 := w) 11295746 #[.int .u8 92, .int .u8 2] 5 2 2 [92, 2] w hb0 (by decide) (by decide) (by decide) (by decide) (by rfl) (by decide)).mono ?_
  rintro e w1 ⟨rfl, hb1⟩
  go_wp2_with (fail)
  refine (lcut_at (w0 := w) 11331838 #[.int .u8 172, .int .u8 232, .int .u8 254] 5 3 3 [172, 232, 254] w1 hb1 (by decide) (by decide) (by decide) (by decide) (by rfl) (by decide)).mono ?_
  rintro e w2 ⟨rfl, hb2⟩
  go_wp2_with (fail)
  refine (lwhole_at (w0 := w) (2821665002) 2821692210 #[.int .u8 155, .int .u8 50] 5 2 2 [155, 50] w2 hb2 (by decide) (by rfl) (by decide) (by decide) (by decide)).mono ?_
  rintro e w3 ⟨rfl, hb3⟩
  go_wp2_with (fail)
  refine (lwhole_at (w0 := w) (-1) 0 #[.int .u8 0] 5 1 1 [0] w3 hb3 (by decide) (by rfl) (by decide) (by decide) (by decide)).mono ?_
  rintro e w4 ⟨rfl, hb4⟩
  go_wp2_with (fail)
  refine (lwhole_at (w0 := w) (-1) 255 #[.int .u8 255] 5 1 1 [255] w4 hb4 (by decide) (by rfl) (by decide) (by decide) (by decide)).mono ?_
  rintro e w5 ⟨rfl, hb5⟩
  go_wp2_with (fail)
  refine (lwhole_at (w0 := w) (128) 256 #[.int .u8 0] 5 1 1 [0] w5 hb5 (by decide) (by rfl) (by decide) (by decide) (by decide)).mono ?_
  rintro e w6 ⟨rfl, hb6⟩
  go_wp2_with (fail)
  refine (lwhole_at (w0 := w) (127) 256 #[.int .u8 0] 5 1 1 [0] w6 hb6 (by decide) (by rfl) (by decide) (by decide) (by decide)).mono ?_
  rintro e w7 ⟨rfl, hb7⟩
  go_wp2_with (fail)
  refine (lwhole_at (w0 := w) (511) 640 #[.int .u8 128] 5 1 1 [128] w7 hb7 (by decide) (by rfl) (by decide) (by decide) (by decide)).mono ?_
  rintro e w8 ⟨rfl, hb8⟩
  go_wp2_with (fail)
  refine (len_any 5 5 _).mono ?_
  rintro e w' ⟨rfl, rfl⟩
  go_wp2_with (fail)
  refine (cut_arg 1 5 _ (by decide) (by decide)).mono ?_
  rintro e w' ⟨rfl, rfl⟩
  go_wp2_with (fail)
  refine (whole_any 0 none 0 0 [] _ rfl ⟨.inl rfl, by simp⟩).mono ?_
  rintro e w9 ⟨rfl, hb9⟩
  go_wp2_with (fail)
  refine (len_any 2147483649 0 _).mono ?_
  rintro e w' ⟨rfl, rfl⟩
  have e1 : lenE 5 5 = 9 := by decide
  have e2 : wholeE 0 [] = 2 := by decide
  have e3 : lenE 2147483649 0 = 5 := by decide
  go_wp2_with (fail)
  go_ret
  exact ⟨rfl, hb8.trans (hb9.mono hb8.size)⟩

end Go.Proofs.Ytpkbbbfgabfcgaa
