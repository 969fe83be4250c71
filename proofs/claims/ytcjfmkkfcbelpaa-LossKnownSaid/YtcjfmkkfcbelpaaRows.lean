/-
  No cell of these rows narrows 'for every input' (looked for: loops, veiled, ifaces, maps, wideKeys, modest, calm, conditions, laid).
  DERIVED. THE GIVEN ROWS OF THIS SEAT. 7 by the template 'for every input the law returns true; each argument reads behind the call as it read before'; 0 by the template 'total and deterministic' (their statements: YtcjfmkkfcbelpaaTotals.lean).
  GIVEN WITH THE SEED: the statements are not yours to turn. If you find one false, say at which input.
  Laid BY PROGRAM, IN A SANDBOX (cutbox-rows.mjs): the forced cells as the released guide's own fill.sh prints them over the translation e29511131b22a415… (all of the seat's roots in one cut). By AI agents, Wed Nov 11 2026. No macro, syntax, notation, axiom, sorry.
-/
import Derived.Test.YtcjfmkkfcbelpaaChecked
import GoSem.Claim
import GoSem.ClaimJoined
import GoSem.ClaimMapViews
import Derived.JoinedTies
import Derived.KernelRfl
namespace Go.Proofs.Ytcjfmkkfcbelpaa
/- THE CELL 'sum', in the pinned program and in every row, IS THE sha256 OF THE DUMP (.gsa) THAT YtcjfmkkfcbelpaaProg.lean LOADS. Nothing in Lean hashes anything: it is a label: what it is worth is what the hold of that sum in a sandbox is worth. -/
noncomputable def Try.pinned : Pinned := { name := "ytcjfmkkfcbelpaa", sum := "e29511131b22a415b4a48a3232d844f0cd84799627c89811c56e5ed5b436416a", checked := Try.checked }
namespace Rows
def none {H : Type} : Left H := { results := [], args := [] }

/-- 'sounderlaw09.LossTells': WHATEVER THE INPUT: true; the input reads as it did. -/
def lossTellsSpec : ChangeSpec := { name := "lossTells", fn := fun _ => fun
  | [d1, d2, d3] => { results := [.lit (.bool true)], args := [d1, d2, d3] }
  | _ => none }
def lossTellsRow : OpenClaim := { program := "ytcjfmkkfcbelpaa", sum := "e29511131b22a415b4a48a3232d844f0cd84799627c89811c56e5ed5b436416a", func := "sounder/sounderlaw09.LossTells", spec := "lossTells", unfollowed := true, recurses := true, apart := false }
def LossTellsSaid : Prop := lossTellsRow.holds Try.pinned (OpenSpec.ofChange lossTellsSpec)

/-- ITS FALSE NEIGHBOUR: 'it returns false'. Refute it at one input. -/
def lossTellsWrong : ChangeSpec := { name := "lossTells", fn := fun _ => fun
  | [d1, d2, d3] => { results := [.lit (.bool false)], args := [d1, d2, d3] }
  | _ => none }
def LossTellsWrongFalsely : Prop := lossTellsRow.holds Try.pinned (OpenSpec.ofChange lossTellsWrong)

/-- 'sounderlaw09.LossWaits': WHATEVER THE INPUT: true; the input reads as it did. -/
def lossWaitsSpec : ChangeSpec := { name := "lossWaits", fn := fun _ => fun
  | [d] => { results := [.lit (.bool true)], args := [d] }
  | _ => none }
def lossWaitsRow : OpenClaim := { program := "ytcjfmkkfcbelpaa", sum := "e29511131b22a415b4a48a3232d844f0cd84799627c89811c56e5ed5b436416a", func := "sounder/sounderlaw09.LossWaits", spec := "lossWaits", unfollowed := true, recurses := true, apart := false }
def LossWaitsSaid : Prop := lossWaitsRow.holds Try.pinned (OpenSpec.ofChange lossWaitsSpec)

/-- ITS FALSE NEIGHBOUR: 'it returns false'. Refute it at one input. -/
def lossWaitsWrong : ChangeSpec := { name := "lossWaits", fn := fun _ => fun
  | [d] => { results := [.lit (.bool false)], args := [d] }
  | _ => none }
def LossWaitsWrongFalsely : Prop := lossWaitsRow.holds Try.pinned (OpenSpec.ofChange lossWaitsWrong)

/-- 'sounderlaw09.LossParts': WHATEVER THE INPUT: true; the input reads as it did. -/
def lossPartsSpec : ChangeSpec := { name := "lossParts", fn := fun _ => fun
  | [d1, d2, d3] => { results := [.lit (.bool true)], args := [d1, d2, d3] }
  | _ => none }
def lossPartsRow : OpenClaim := { program := "ytcjfmkkfcbelpaa", sum := "e29511131b22a415b4a48a3232d844f0cd84799627c89811c56e5ed5b436416a", func := "sounder/sounderlaw09.LossParts", spec := "lossParts", unfollowed := true, recurses := true, apart := false }
def LossPartsSaid : Prop := lossPartsRow.holds Try.pinned (OpenSpec.ofChange lossPartsSpec)

/-- ITS FALSE NEIGHBOUR: 'it returns false'. Refute it at one input. -/
def lossPartsWrong : ChangeSpec := { name := "lossParts", fn := fun _ => fun
  | [d1, d2, d3] => { results := [.lit (.bool false)], args := [d1, d2, d3] }
  | _ => none }
def LossPartsWrongFalsely : Prop := lossPartsRow.holds Try.pinned (OpenSpec.ofChange lossPartsWrong)

/-- 'sounderlaw09.LossGrows': WHATEVER THE INPUT: true; the input reads as it did. -/
def lossGrowsSpec : ChangeSpec := { name := "lossGrows", fn := fun _ => fun
  | [d1, d2, d3] => { results := [.lit (.bool true)], args := [d1, d2, d3] }
  | _ => none }
def lossGrowsRow : OpenClaim := { program := "ytcjfmkkfcbelpaa", sum := "e29511131b22a415b4a48a3232d844f0cd84799627c89811c56e5ed5b436416a", func := "sounder/sounderlaw09.LossGrows", spec := "lossGrows", unfollowed := true, recurses := true, apart := false }
def LossGrowsSaid : Prop := lossGrowsRow.holds Try.pinned (OpenSpec.ofChange lossGrowsSpec)

/-- ITS FALSE NEIGHBOUR: 'it returns false'. Refute it at one input. -/
def lossGrowsWrong : ChangeSpec := { name := "lossGrows", fn := fun _ => fun
  | [d1, d2, d3] => { results := [.lit (.bool false)], args := [d1, d2, d3] }
  | _ => none }
def LossGrowsWrongFalsely : Prop := lossGrowsRow.holds Try.pinned (OpenSpec.ofChange lossGrowsWrong)

/-- 'sounderlaw09.LossTimer': WHATEVER THE INPUT: true; the input reads as it did. -/
def lossTimerSpec : ChangeSpec := { name := "lossTimer", fn := fun _ => fun
  | [d1, d2, d3] => { results := [.lit (.bool true)], args := [d1, d2, d3] }
  | _ => none }
def lossTimerRow : OpenClaim := { program := "ytcjfmkkfcbelpaa", sum := "e29511131b22a415b4a48a3232d844f0cd84799627c89811c56e5ed5b436416a", func := "sounder/sounderlaw09.LossTimer", spec := "lossTimer", unfollowed := true, recurses := true, apart := false }
def LossTimerSaid : Prop := lossTimerRow.holds Try.pinned (OpenSpec.ofChange lossTimerSpec)

/-- ITS FALSE NEIGHBOUR: 'it returns false'. Refute it at one input. -/
def lossTimerWrong : ChangeSpec := { name := "lossTimer", fn := fun _ => fun
  | [d1, d2, d3] => { results := [.lit (.bool false)], args := [d1, d2, d3] }
  | _ => none }
def LossTimerWrongFalsely : Prop := lossTimerRow.holds Try.pinned (OpenSpec.ofChange lossTimerWrong)

/-- 'sounderlaw09.LossThree': WHATEVER THE INPUT: true; the input reads as it did. -/
def lossThreeSpec : ChangeSpec := { name := "lossThree", fn := fun _ => fun
  | [d1, d2] => { results := [.lit (.bool true)], args := [d1, d2] }
  | _ => none }
def lossThreeRow : OpenClaim := { program := "ytcjfmkkfcbelpaa", sum := "e29511131b22a415b4a48a3232d844f0cd84799627c89811c56e5ed5b436416a", func := "sounder/sounderlaw09.LossThree", spec := "lossThree", unfollowed := true, recurses := true, apart := false }
def LossThreeSaid : Prop := lossThreeRow.holds Try.pinned (OpenSpec.ofChange lossThreeSpec)

/-- ITS FALSE NEIGHBOUR: 'it returns false'. Refute it at one input. -/
def lossThreeWrong : ChangeSpec := { name := "lossThree", fn := fun _ => fun
  | [d1, d2] => { results := [.lit (.bool false)], args := [d1, d2] }
  | _ => none }
def LossThreeWrongFalsely : Prop := lossThreeRow.holds Try.pinned (OpenSpec.ofChange lossThreeWrong)

/-- 'sounderlaw09.LossKnown': WHATEVER THE INPUT: true; the input reads as it did. -/
def lossKnownSpec : ChangeSpec := { name := "lossKnown", fn := fun _ => fun
  | [] => { results := [.lit (.bool true)], args := [] }
  | _ => none }
def lossKnownRow : OpenClaim := { program := "ytcjfmkkfcbelpaa", sum := "e29511131b22a415b4a48a3232d844f0cd84799627c89811c56e5ed5b436416a", func := "sounder/sounderlaw09.LossKnown", spec := "lossKnown", unfollowed := true, recurses := true, apart := false }
def LossKnownSaid : Prop := lossKnownRow.holds Try.pinned (OpenSpec.ofChange lossKnownSpec)

/-- ITS FALSE NEIGHBOUR: 'it returns false'. Refute it at one input. -/
def lossKnownWrong : ChangeSpec := { name := "lossKnown", fn := fun _ => fun
  | [] => { results := [.lit (.bool false)], args := [] }
  | _ => none }
def LossKnownWrongFalsely : Prop := lossKnownRow.holds Try.pinned (OpenSpec.ofChange lossKnownWrong)

/- THE SECOND FORM. 'bulk': how many values and letters a reading holds, each counted each time it is reached (what is shared counts as often as it is met; a slice's spare places count too). A statement '..UptoSaid' is the law's where the arguments, and the package variables that the reading takes, are together of bulk at most 1048576: NARROWER than '..Said'. Prove '..Said' where nothing that the law and all that it calls make is longer than what came in: it says more and counts as full. Else prove '..UptoSaid'. A law counts once. -/
mutual
def uptoBulk {H : Type} : DataW H → Nat
  | .lit (.string bytes) => bytes.length + 1
  | .lit _ => 1
  | .nil => 1
  | .ptr d => uptoBulk d + 1
  | .slice elems spare => uptoBulkAll elems + uptoBulkAll spare + 1
  | .agg parts => uptoBulkAll parts + 1
  | .iface _ d => uptoBulk d + 1
  | .map entries => uptoBulkEntries entries + 1
  | .held _ => 1
def uptoBulkAll {H : Type} : List (DataW H) → Nat
  | [] => 0
  | d :: r => uptoBulk d + uptoBulkAll r
def uptoBulkEntries {H : Type} : List (Lit × DataW H) → Nat
  | [] => 0
  | x :: r => uptoBulkEntry x + uptoBulkEntries r
def uptoBulkEntry {H : Type} : Lit × DataW H → Nat
  | (.string bytes, d) => bytes.length + uptoBulk d + 1
  | (_, d) => uptoBulk d + 1
 end
def uptoSmall : (H : Type) → List (DataW H) → Bool := fun _ ds => decide (uptoBulkAll ds ≤ 1048576)
def OpenSpec.upto (s : _root_.Go.ChangeSpec) : _root_.Go.OpenSpec := { _root_.Go.OpenSpec.ofChange s with cond := some uptoSmall }

/-- 'sounderlaw09.LossTells', WHERE WHAT IT READS IS OF BULK AT MOST 1048576: true; the input reads as it did. -/
def lossTellsUptoRow : OpenClaim := { program := "ytcjfmkkfcbelpaa", sum := "e29511131b22a415b4a48a3232d844f0cd84799627c89811c56e5ed5b436416a", func := "sounder/sounderlaw09.LossTells", spec := "lossTells", unfollowed := true, recurses := true, apart := false, narrowed := true }
def LossTellsUptoSaid : Prop := lossTellsUptoRow.holds Try.pinned (OpenSpec.upto lossTellsSpec)

/-- 'sounderlaw09.LossWaits', WHERE WHAT IT READS IS OF BULK AT MOST 1048576: true; the input reads as it did. -/
def lossWaitsUptoRow : OpenClaim := { program := "ytcjfmkkfcbelpaa", sum := "e29511131b22a415b4a48a3232d844f0cd84799627c89811c56e5ed5b436416a", func := "sounder/sounderlaw09.LossWaits", spec := "lossWaits", unfollowed := true, recurses := true, apart := false, narrowed := true }
def LossWaitsUptoSaid : Prop := lossWaitsUptoRow.holds Try.pinned (OpenSpec.upto lossWaitsSpec)

/-- 'sounderlaw09.LossParts', WHERE WHAT IT READS IS OF BULK AT MOST 1048576: true; the input reads as it did. -/
def lossPartsUptoRow : OpenClaim := { program := "ytcjfmkkfcbelpaa", sum := "e29511131b22a415b4a48a3232d844f0cd84799627c89811c56e5ed5b436416a", func := "sounder/sounderlaw09.LossParts", spec := "lossParts", unfollowed := true, recurses := true, apart := false, narrowed := true }
def LossPartsUptoSaid : Prop := lossPartsUptoRow.holds Try.pinned (OpenSpec.upto lossPartsSpec)

/-- 'sounderlaw09.LossGrows', WHERE WHAT IT READS IS OF BULK AT MOST 1048576: true; the input reads as it did. -/
def lossGrowsUptoRow : OpenClaim := { program := "ytcjfmkkfcbelpaa", sum := "e29511131b22a415b4a48a3232d844f0cd84799627c89811c56e5ed5b436416a", func := "sounder/sounderlaw09.LossGrows", spec := "lossGrows", unfollowed := true, recurses := true, apart := false, narrowed := true }
def LossGrowsUptoSaid : Prop := lossGrowsUptoRow.holds Try.pinned (OpenSpec.upto lossGrowsSpec)

/-- 'sounderlaw09.LossTimer', WHERE WHAT IT READS IS OF BULK AT MOST 1048576: true; the input reads as it did. -/
def lossTimerUptoRow : OpenClaim := { program := "ytcjfmkkfcbelpaa", sum := "e29511131b22a415b4a48a3232d844f0cd84799627c89811c56e5ed5b436416a", func := "sounder/sounderlaw09.LossTimer", spec := "lossTimer", unfollowed := true, recurses := true, apart := false, narrowed := true }
def LossTimerUptoSaid : Prop := lossTimerUptoRow.holds Try.pinned (OpenSpec.upto lossTimerSpec)

/-- 'sounderlaw09.LossThree', WHERE WHAT IT READS IS OF BULK AT MOST 1048576: true; the input reads as it did. -/
def lossThreeUptoRow : OpenClaim := { program := "ytcjfmkkfcbelpaa", sum := "e29511131b22a415b4a48a3232d844f0cd84799627c89811c56e5ed5b436416a", func := "sounder/sounderlaw09.LossThree", spec := "lossThree", unfollowed := true, recurses := true, apart := false, narrowed := true }
def LossThreeUptoSaid : Prop := lossThreeUptoRow.holds Try.pinned (OpenSpec.upto lossThreeSpec)

/-- 'sounderlaw09.LossKnown', WHERE WHAT IT READS IS OF BULK AT MOST 1048576: true; the input reads as it did. -/
def lossKnownUptoRow : OpenClaim := { program := "ytcjfmkkfcbelpaa", sum := "e29511131b22a415b4a48a3232d844f0cd84799627c89811c56e5ed5b436416a", func := "sounder/sounderlaw09.LossKnown", spec := "lossKnown", unfollowed := true, recurses := true, apart := false, narrowed := true }
def LossKnownUptoSaid : Prop := lossKnownUptoRow.holds Try.pinned (OpenSpec.upto lossKnownSpec)

end Rows
end Go.Proofs.Ytcjfmkkfcbelpaa
