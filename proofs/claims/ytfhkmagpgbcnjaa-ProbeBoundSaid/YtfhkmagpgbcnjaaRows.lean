/-
  No cell of these rows narrows 'for every input' (looked for: loops, veiled, ifaces, maps, wideKeys, modest, calm, conditions, laid).
  DERIVED. THE GIVEN ROWS OF THIS SEAT. 6 by the template 'for every input the law returns true; each argument reads behind the call as it read before'; 0 by the template 'total and deterministic' (their statements: YtfhkmagpgbcnjaaTotals.lean).
  GIVEN WITH THE SEED: the statements are not yours to turn. If you find one false, say at which input.
  Laid BY PROGRAM, IN A SANDBOX (cutbox-rows.mjs): the forced cells as the released guide's own fill.sh prints them over the translation bbf694d19ec449a1… (all of the seat's roots in one cut). By AI agents, Wed Nov 11 2026. No macro, syntax, notation, axiom, sorry.
-/
import Derived.Test.YtfhkmagpgbcnjaaChecked
import GoSem.Claim
import GoSem.ClaimJoined
import GoSem.ClaimMapViews
import Derived.JoinedTies
import Derived.KernelRfl
namespace Go.Proofs.Ytfhkmagpgbcnjaa
/- THE CELL 'sum', in the pinned program and in every row, IS THE sha256 OF THE DUMP (.gsa) THAT YtfhkmagpgbcnjaaProg.lean LOADS. Nothing in Lean hashes anything: it is a label: what it is worth is what the hold of that sum in a sandbox is worth. -/
noncomputable def Try.pinned : Pinned := { name := "ytfhkmagpgbcnjaa", sum := "bbf694d19ec449a1a4c3594dddaaecd82ce63cee98719480716f62b1d5c14200", checked := Try.checked }
namespace Rows
def none {H : Type} : Left H := { results := [], args := [] }

/-- 'sounderlaw19.ProbeTells': WHATEVER THE INPUT: true; the input reads as it did. -/
def probeTellsSpec : ChangeSpec := { name := "probeTells", fn := fun _ => fun
  | [d1, d2, d3] => { results := [.lit (.bool true)], args := [d1, d2, d3] }
  | _ => none }
def probeTellsRow : OpenClaim := { program := "ytfhkmagpgbcnjaa", sum := "bbf694d19ec449a1a4c3594dddaaecd82ce63cee98719480716f62b1d5c14200", func := "sounder/sounderlaw19.ProbeTells", spec := "probeTells", apart := false }
def ProbeTellsSaid : Prop := probeTellsRow.holds Try.pinned (OpenSpec.ofChange probeTellsSpec)

/-- ITS FALSE NEIGHBOUR: 'it returns false'. Refute it at one input. -/
def probeTellsWrong : ChangeSpec := { name := "probeTells", fn := fun _ => fun
  | [d1, d2, d3] => { results := [.lit (.bool false)], args := [d1, d2, d3] }
  | _ => none }
def ProbeTellsWrongFalsely : Prop := probeTellsRow.holds Try.pinned (OpenSpec.ofChange probeTellsWrong)

/-- 'sounderlaw19.ProbeBound': WHATEVER THE INPUT: true; the input reads as it did. -/
def probeBoundSpec : ChangeSpec := { name := "probeBound", fn := fun _ => fun
  | [d] => { results := [.lit (.bool true)], args := [d] }
  | _ => none }
def probeBoundRow : OpenClaim := { program := "ytfhkmagpgbcnjaa", sum := "bbf694d19ec449a1a4c3594dddaaecd82ce63cee98719480716f62b1d5c14200", func := "sounder/sounderlaw19.ProbeBound", spec := "probeBound", apart := false }
def ProbeBoundSaid : Prop := probeBoundRow.holds Try.pinned (OpenSpec.ofChange probeBoundSpec)

/-- ITS FALSE NEIGHBOUR: 'it returns false'. Refute it at one input. -/
def probeBoundWrong : ChangeSpec := { name := "probeBound", fn := fun _ => fun
  | [d] => { results := [.lit (.bool false)], args := [d] }
  | _ => none }
def ProbeBoundWrongFalsely : Prop := probeBoundRow.holds Try.pinned (OpenSpec.ofChange probeBoundWrong)

/-- 'sounderlaw19.ProbeAlone': WHATEVER THE INPUT: true; the input reads as it did. -/
def probeAloneSpec : ChangeSpec := { name := "probeAlone", fn := fun _ => fun
  | [d1, d2, d3] => { results := [.lit (.bool true)], args := [d1, d2, d3] }
  | _ => none }
def probeAloneRow : OpenClaim := { program := "ytfhkmagpgbcnjaa", sum := "bbf694d19ec449a1a4c3594dddaaecd82ce63cee98719480716f62b1d5c14200", func := "sounder/sounderlaw19.ProbeAlone", spec := "probeAlone", apart := false }
def ProbeAloneSaid : Prop := probeAloneRow.holds Try.pinned (OpenSpec.ofChange probeAloneSpec)

/-- ITS FALSE NEIGHBOUR: 'it returns false'. Refute it at one input. -/
def probeAloneWrong : ChangeSpec := { name := "probeAlone", fn := fun _ => fun
  | [d1, d2, d3] => { results := [.lit (.bool false)], args := [d1, d2, d3] }
  | _ => none }
def ProbeAloneWrongFalsely : Prop := probeAloneRow.holds Try.pinned (OpenSpec.ofChange probeAloneWrong)

/-- 'sounderlaw19.ProbeTwice': WHATEVER THE INPUT: true; the input reads as it did. -/
def probeTwiceSpec : ChangeSpec := { name := "probeTwice", fn := fun _ => fun
  | [d1, d2] => { results := [.lit (.bool true)], args := [d1, d2] }
  | _ => none }
def probeTwiceRow : OpenClaim := { program := "ytfhkmagpgbcnjaa", sum := "bbf694d19ec449a1a4c3594dddaaecd82ce63cee98719480716f62b1d5c14200", func := "sounder/sounderlaw19.ProbeTwice", spec := "probeTwice", apart := false }
def ProbeTwiceSaid : Prop := probeTwiceRow.holds Try.pinned (OpenSpec.ofChange probeTwiceSpec)

/-- ITS FALSE NEIGHBOUR: 'it returns false'. Refute it at one input. -/
def probeTwiceWrong : ChangeSpec := { name := "probeTwice", fn := fun _ => fun
  | [d1, d2] => { results := [.lit (.bool false)], args := [d1, d2] }
  | _ => none }
def ProbeTwiceWrongFalsely : Prop := probeTwiceRow.holds Try.pinned (OpenSpec.ofChange probeTwiceWrong)

/-- 'sounderlaw19.ProbeFirst': WHATEVER THE INPUT: true; the input reads as it did. -/
def probeFirstSpec : ChangeSpec := { name := "probeFirst", fn := fun _ => fun
  | [d] => { results := [.lit (.bool true)], args := [d] }
  | _ => none }
def probeFirstRow : OpenClaim := { program := "ytfhkmagpgbcnjaa", sum := "bbf694d19ec449a1a4c3594dddaaecd82ce63cee98719480716f62b1d5c14200", func := "sounder/sounderlaw19.ProbeFirst", spec := "probeFirst", apart := false }
def ProbeFirstSaid : Prop := probeFirstRow.holds Try.pinned (OpenSpec.ofChange probeFirstSpec)

/-- ITS FALSE NEIGHBOUR: 'it returns false'. Refute it at one input. -/
def probeFirstWrong : ChangeSpec := { name := "probeFirst", fn := fun _ => fun
  | [d] => { results := [.lit (.bool false)], args := [d] }
  | _ => none }
def ProbeFirstWrongFalsely : Prop := probeFirstRow.holds Try.pinned (OpenSpec.ofChange probeFirstWrong)

/-- 'sounderlaw19.ProbeKnown': WHATEVER THE INPUT: true; the input reads as it did. -/
def probeKnownSpec : ChangeSpec := { name := "probeKnown", fn := fun _ => fun
  | [] => { results := [.lit (.bool true)], args := [] }
  | _ => none }
def probeKnownRow : OpenClaim := { program := "ytfhkmagpgbcnjaa", sum := "bbf694d19ec449a1a4c3594dddaaecd82ce63cee98719480716f62b1d5c14200", func := "sounder/sounderlaw19.ProbeKnown", spec := "probeKnown", apart := false }
def ProbeKnownSaid : Prop := probeKnownRow.holds Try.pinned (OpenSpec.ofChange probeKnownSpec)

/-- ITS FALSE NEIGHBOUR: 'it returns false'. Refute it at one input. -/
def probeKnownWrong : ChangeSpec := { name := "probeKnown", fn := fun _ => fun
  | [] => { results := [.lit (.bool false)], args := [] }
  | _ => none }
def ProbeKnownWrongFalsely : Prop := probeKnownRow.holds Try.pinned (OpenSpec.ofChange probeKnownWrong)

/- THE SECOND FORM. 'bulk': how many values and letters a reading holds, each counted each time it is reached (what is shared counts as often as it is met; a slice's spare places count too). A statement '..UptoSaid' is the law's where the arguments, and the package variables that the reading takes, are together of bulk at most 1048576: NARROWER than '..Said'. Prove '..Said' where nothing that the law and all that it calls make is longer than what came in: it says more and counts as full. Else prove '..UptoSaid'. A law counts once. -/
mutual
def uptoBulk {H : Type} : DataW H → Nat
  | .lit (.string bytes) => bytes.length + 1
  | .lit _ => 1
  | .nil => 1
  | .ptr d => uptoBulk d + 1
  | .slice elems spare => uptoBulkAll elems + uptoBulkAll spare + 1
  | .agg parts => uptoBulkAll parts + 1
  | .iface _ d => uptoBulk d + 1
  | .map entries => uptoBulkEntries entries + 1
  | .held _ => 1
def uptoBulkAll {H : Type} : List (DataW H) → Nat
  | [] => 0
  | d :: r => uptoBulk d + uptoBulkAll r
def uptoBulkEntries {H : Type} : List (Lit × DataW H) → Nat
  | [] => 0
  | x :: r => uptoBulkEntry x + uptoBulkEntries r
def uptoBulkEntry {H : Type} : Lit × DataW H → Nat
  | (.string bytes, d) => bytes.length + uptoBulk d + 1
  | (_, d) => uptoBulk d + 1
 end
def uptoSmall : (H : Type) → List (DataW H) → Bool := fun _ ds => decide (uptoBulkAll ds ≤ 1048576)
def OpenSpec.upto (s : _root_.Go.ChangeSpec) : _root_.Go.OpenSpec := { _root_.Go.OpenSpec.ofChange s with cond := some uptoSmall }

/-- 'sounderlaw19.ProbeTells', WHERE WHAT IT READS IS OF BULK AT MOST 1048576: true; the input reads as it did. -/
def probeTellsUptoRow : OpenClaim := { program := "ytfhkmagpgbcnjaa", sum := "bbf694d19ec449a1a4c3594dddaaecd82ce63cee98719480716f62b1d5c14200", func := "sounder/sounderlaw19.ProbeTells", spec := "probeTells", apart := false, narrowed := true }
def ProbeTellsUptoSaid : Prop := probeTellsUptoRow.holds Try.pinned (OpenSpec.upto probeTellsSpec)

/-- 'sounderlaw19.ProbeBound', WHERE WHAT IT READS IS OF BULK AT MOST 1048576: true; the input reads as it did. -/
def probeBoundUptoRow : OpenClaim := { program := "ytfhkmagpgbcnjaa", sum := "bbf694d19ec449a1a4c3594dddaaecd82ce63cee98719480716f62b1d5c14200", func := "sounder/sounderlaw19.ProbeBound", spec := "probeBound", apart := false, narrowed := true }
def ProbeBoundUptoSaid : Prop := probeBoundUptoRow.holds Try.pinned (OpenSpec.upto probeBoundSpec)

/-- 'sounderlaw19.ProbeAlone', WHERE WHAT IT READS IS OF BULK AT MOST 1048576: true; the input reads as it did. -/
def probeAloneUptoRow : OpenClaim := { program := "ytfhkmagpgbcnjaa", sum := "bbf694d19ec449a1a4c3594dddaaecd82ce63cee98719480716f62b1d5c14200", func := "sounder/sounderlaw19.ProbeAlone", spec := "probeAlone", apart := false, narrowed := true }
def ProbeAloneUptoSaid : Prop := probeAloneUptoRow.holds Try.pinned (OpenSpec.upto probeAloneSpec)

/-- 'sounderlaw19.ProbeTwice', WHERE WHAT IT READS IS OF BULK AT MOST 1048576: true; the input reads as it did. -/
def probeTwiceUptoRow : OpenClaim := { program := "ytfhkmagpgbcnjaa", sum := "bbf694d19ec449a1a4c3594dddaaecd82ce63cee98719480716f62b1d5c14200", func := "sounder/sounderlaw19.ProbeTwice", spec := "probeTwice", apart := false, narrowed := true }
def ProbeTwiceUptoSaid : Prop := probeTwiceUptoRow.holds Try.pinned (OpenSpec.upto probeTwiceSpec)

/-- 'sounderlaw19.ProbeFirst', WHERE WHAT IT READS IS OF BULK AT MOST 1048576: true; the input reads as it did. -/
def probeFirstUptoRow : OpenClaim := { program := "ytfhkmagpgbcnjaa", sum := "bbf694d19ec449a1a4c3594dddaaecd82ce63cee98719480716f62b1d5c14200", func := "sounder/sounderlaw19.ProbeFirst", spec := "probeFirst", apart := false, narrowed := true }
def ProbeFirstUptoSaid : Prop := probeFirstUptoRow.holds Try.pinned (OpenSpec.upto probeFirstSpec)

/-- 'sounderlaw19.ProbeKnown', WHERE WHAT IT READS IS OF BULK AT MOST 1048576: true; the input reads as it did. -/
def probeKnownUptoRow : OpenClaim := { program := "ytfhkmagpgbcnjaa", sum := "bbf694d19ec449a1a4c3594dddaaecd82ce63cee98719480716f62b1d5c14200", func := "sounder/sounderlaw19.ProbeKnown", spec := "probeKnown", apart := false, narrowed := true }
def ProbeKnownUptoSaid : Prop := probeKnownUptoRow.holds Try.pinned (OpenSpec.upto probeKnownSpec)

end Rows
end Go.Proofs.Ytfhkmagpgbcnjaa
