/-
  Plain functions and lemmas of layer 3 (packet numbers): no program in sight.
-/
namespace Go.Proofs.Ytpkbbbfgabfcgaa

/-- Is that a number? -/
def isN (n : Int) : Bool := decide (0 ≤ n) && decide (n ≤ 9007199254740991)
theorem isN_true {n : Int} (h0 : 0 ≤ n) (h1 : n ≤ 9007199254740991) : isN n = true := by simp [isN, h0, h1]
theorem isN_false {n : Int} (h : n < 0 ∨ 9007199254740991 < n) : isN n = false := by
  simp only [isN, Bool.and_eq_false_iff, decide_eq_false_iff_not]; omega

/-- How many bytes a number needs (0: none does), and the error. -/
def lenN (full acked : Int) : Int :=
  if full < 0 ∨ 9007199254740991 < full ∨ acked < -1 ∨ full ≤ acked then 0
  else if full - acked ≤ 128 then 1 else if full - acked ≤ 32768 then 2 else if full - acked ≤ 8388608 then 3 else if full - acked ≤ 2147483648 then 4 else 0
def lenE (full acked : Int) : Int :=
  if full < 0 ∨ 9007199254740991 < full ∨ acked < -1 ∨ full ≤ acked then 9
  else if full - acked ≤ 2147483648 then 0 else 5

/-- The last n bytes of a number. -/
def cutL (full n : Int) : List Int :=
  if n = 1 then [full % 256] else if n = 2 then [full / 256 % 256, full % 256] else if n = 3 then [full / 65536 % 256, full / 256 % 256, full % 256]
  else if n = 4 then [full / 16777216 % 256, full / 65536 % 256, full / 256 % 256, full % 256] else []
theorem cutL_length {full n : Int} (h : 1 ≤ n) (h4 : n ≤ 4) : ((cutL full n).length : Int) = n := by
  have hn : n = 1 ∨ n = 2 ∨ n = 3 ∨ n = 4 := by omega
  rcases hn with rfl | rfl | rfl | rfl <;> rfl
theorem cutL_byte (full n : Int) : ∀ x ∈ cutL full n, 0 ≤ x ∧ x ≤ 255 := by
  intro x hx
  unfold cutL at hx
  (repeat' split at hx) <;> simp at hx <;> omega

/-- The number that some bytes are; 2^(8n); the number that is found. -/
def cutV (xs : List Int) : Int := xs.foldl (fun a x => a * 256 + x) 0
def allV (n : Nat) : Int := if n = 1 then 256 else if n = 2 then 65536 else if n = 3 then 16777216 else 4294967296
def nearV (want all cut : Int) : Int :=
  if want - want % all + cut ≤ want - all / 2 ∧ want - want % all + cut + all ≤ 9007199254740991 then want - want % all + cut + all
  else if (want + all / 2 < want - want % all + cut ∨ 9007199254740991 < want - want % all + cut) ∧ all ≤ want - want % all + cut then want - want % all + cut - all
  else want - want % all + cut
def wholeN (g : Int) (xs : List Int) : Int :=
  if g < -1 ∨ 9007199254740991 < g ∨ xs.length < 1 ∨ 4 < xs.length then 0 else nearV (g + 1) (allV xs.length) (cutV xs)
def wholeE (g : Int) (xs : List Int) : Int :=
  if g < -1 ∨ 9007199254740991 < g then 9 else if xs.length < 1 ∨ 4 < xs.length then 2 else 0

end Go.Proofs.Ytpkbbbfgabfcgaa
