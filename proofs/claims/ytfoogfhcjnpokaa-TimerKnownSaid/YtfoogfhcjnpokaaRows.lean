/-
  No cell of these rows narrows 'for every input' (looked for: loops, veiled, ifaces, maps, wideKeys, modest, calm, conditions, laid).
  DERIVED. THE GIVEN ROWS OF THIS SEAT. 6 by the template 'for every input the law returns true; each argument reads behind the call as it read before'; 0 by the template 'total and deterministic' (their statements: YtfoogfhcjnpokaaTotals.lean).
  GIVEN WITH THE SEED: the statements are not yours to turn. If you find one false, say at which input.
  Laid BY PROGRAM, IN A SANDBOX (cutbox-rows.mjs): the forced cells as the released guide's own fill.sh prints them over the translation 21869ad48bbbab67… (all of the seat's roots in one cut). By AI agents, Wed Nov 11 2026. No macro, syntax, notation, axiom, sorry.
-/
import Derived.Test.YtfoogfhcjnpokaaChecked
import GoSem.Claim
import GoSem.ClaimJoined
import GoSem.ClaimMapViews
import Derived.JoinedTies
import Derived.KernelRfl
namespace Go.Proofs.Ytfoogfhcjnpokaa
/- THE CELL 'sum', in the pinned program and in every row, IS THE sha256 OF THE DUMP (.gsa) THAT YtfoogfhcjnpokaaProg.lean LOADS. Nothing in Lean hashes anything: it is a label: what it is worth is what the hold of that sum in a sandbox is worth. -/
noncomputable def Try.pinned : Pinned := { name := "ytfoogfhcjnpokaa", sum := "21869ad48bbbab671c1017d403a8ec0a40964facac6a099ca4638bda7dd8fb14", checked := Try.checked }
namespace Rows
def none {H : Type} : Left H := { results := [], args := [] }

/-- 'sounderlaw18.TimerFirst': WHATEVER THE INPUT: true; the input reads as it did. -/
def timerFirstSpec : ChangeSpec := { name := "timerFirst", fn := fun _ => fun
  | [d1, d2] => { results := [.lit (.bool true)], args := [d1, d2] }
  | _ => none }
def timerFirstRow : OpenClaim := { program := "ytfoogfhcjnpokaa", sum := "21869ad48bbbab671c1017d403a8ec0a40964facac6a099ca4638bda7dd8fb14", func := "sounder/sounderlaw18.TimerFirst", spec := "timerFirst", unfollowed := true, recurses := true, apart := false }
def TimerFirstSaid : Prop := timerFirstRow.holds Try.pinned (OpenSpec.ofChange timerFirstSpec)

/-- ITS FALSE NEIGHBOUR: 'it returns false'. Refute it at one input. -/
def timerFirstWrong : ChangeSpec := { name := "timerFirst", fn := fun _ => fun
  | [d1, d2] => { results := [.lit (.bool false)], args := [d1, d2] }
  | _ => none }
def TimerFirstWrongFalsely : Prop := timerFirstRow.holds Try.pinned (OpenSpec.ofChange timerFirstWrong)

/-- 'sounderlaw18.TimerKnown': WHATEVER THE INPUT: true; the input reads as it did. -/
def timerKnownSpec : ChangeSpec := { name := "timerKnown", fn := fun _ => fun
  | [] => { results := [.lit (.bool true)], args := [] }
  | _ => none }
def timerKnownRow : OpenClaim := { program := "ytfoogfhcjnpokaa", sum := "21869ad48bbbab671c1017d403a8ec0a40964facac6a099ca4638bda7dd8fb14", func := "sounder/sounderlaw18.TimerKnown", spec := "timerKnown", unfollowed := true, recurses := true, apart := false }
def TimerKnownSaid : Prop := timerKnownRow.holds Try.pinned (OpenSpec.ofChange timerKnownSpec)

/-- ITS FALSE NEIGHBOUR: 'it returns false'. Refute it at one input. -/
def timerKnownWrong : ChangeSpec := { name := "timerKnown", fn := fun _ => fun
  | [] => { results := [.lit (.bool false)], args := [] }
  | _ => none }
def TimerKnownWrongFalsely : Prop := timerKnownRow.holds Try.pinned (OpenSpec.ofChange timerKnownWrong)

/-- 'sounderlaw18.TimerTells': WHATEVER THE INPUT: true; the input reads as it did. -/
def timerTellsSpec : ChangeSpec := { name := "timerTells", fn := fun _ => fun
  | [d1, d2] => { results := [.lit (.bool true)], args := [d1, d2] }
  | _ => none }
def timerTellsRow : OpenClaim := { program := "ytfoogfhcjnpokaa", sum := "21869ad48bbbab671c1017d403a8ec0a40964facac6a099ca4638bda7dd8fb14", func := "sounder/sounderlaw18.TimerTells", spec := "timerTells", unfollowed := true, recurses := true, apart := false }
def TimerTellsSaid : Prop := timerTellsRow.holds Try.pinned (OpenSpec.ofChange timerTellsSpec)

/-- ITS FALSE NEIGHBOUR: 'it returns false'. Refute it at one input. -/
def timerTellsWrong : ChangeSpec := { name := "timerTells", fn := fun _ => fun
  | [d1, d2] => { results := [.lit (.bool false)], args := [d1, d2] }
  | _ => none }
def TimerTellsWrongFalsely : Prop := timerTellsRow.holds Try.pinned (OpenSpec.ofChange timerTellsWrong)

/-- 'sounderlaw18.TimerArmed': WHATEVER THE INPUT: true; the input reads as it did. -/
def timerArmedSpec : ChangeSpec := { name := "timerArmed", fn := fun _ => fun
  | [d1, d2, d3] => { results := [.lit (.bool true)], args := [d1, d2, d3] }
  | _ => none }
def timerArmedRow : OpenClaim := { program := "ytfoogfhcjnpokaa", sum := "21869ad48bbbab671c1017d403a8ec0a40964facac6a099ca4638bda7dd8fb14", func := "sounder/sounderlaw18.TimerArmed", spec := "timerArmed", unfollowed := true, recurses := true, apart := false }
def TimerArmedSaid : Prop := timerArmedRow.holds Try.pinned (OpenSpec.ofChange timerArmedSpec)

/-- ITS FALSE NEIGHBOUR: 'it returns false'. Refute it at one input. -/
def timerArmedWrong : ChangeSpec := { name := "timerArmed", fn := fun _ => fun
  | [d1, d2, d3] => { results := [.lit (.bool false)], args := [d1, d2, d3] }
  | _ => none }
def TimerArmedWrongFalsely : Prop := timerArmedRow.holds Try.pinned (OpenSpec.ofChange timerArmedWrong)

/-- 'sounderlaw18.TimerLate': WHATEVER THE INPUT: true; the input reads as it did. -/
def timerLateSpec : ChangeSpec := { name := "timerLate", fn := fun _ => fun
  | [d1, d2, d3] => { results := [.lit (.bool true)], args := [d1, d2, d3] }
  | _ => none }
def timerLateRow : OpenClaim := { program := "ytfoogfhcjnpokaa", sum := "21869ad48bbbab671c1017d403a8ec0a40964facac6a099ca4638bda7dd8fb14", func := "sounder/sounderlaw18.TimerLate", spec := "timerLate", unfollowed := true, recurses := true, apart := false }
def TimerLateSaid : Prop := timerLateRow.holds Try.pinned (OpenSpec.ofChange timerLateSpec)

/-- ITS FALSE NEIGHBOUR: 'it returns false'. Refute it at one input. -/
def timerLateWrong : ChangeSpec := { name := "timerLate", fn := fun _ => fun
  | [d1, d2, d3] => { results := [.lit (.bool false)], args := [d1, d2, d3] }
  | _ => none }
def TimerLateWrongFalsely : Prop := timerLateRow.holds Try.pinned (OpenSpec.ofChange timerLateWrong)

/-- 'sounderlaw18.TimerAlone': WHATEVER THE INPUT: true; the input reads as it did. -/
def timerAloneSpec : ChangeSpec := { name := "timerAlone", fn := fun _ => fun
  | [d1, d2, d3] => { results := [.lit (.bool true)], args := [d1, d2, d3] }
  | _ => none }
def timerAloneRow : OpenClaim := { program := "ytfoogfhcjnpokaa", sum := "21869ad48bbbab671c1017d403a8ec0a40964facac6a099ca4638bda7dd8fb14", func := "sounder/sounderlaw18.TimerAlone", spec := "timerAlone", unfollowed := true, recurses := true, apart := false }
def TimerAloneSaid : Prop := timerAloneRow.holds Try.pinned (OpenSpec.ofChange timerAloneSpec)

/-- ITS FALSE NEIGHBOUR: 'it returns false'. Refute it at one input. -/
def timerAloneWrong : ChangeSpec := { name := "timerAlone", fn := fun _ => fun
  | [d1, d2, d3] => { results := [.lit (.bool false)], args := [d1, d2, d3] }
  | _ => none }
def TimerAloneWrongFalsely : Prop := timerAloneRow.holds Try.pinned (OpenSpec.ofChange timerAloneWrong)

/- THE SECOND FORM. 'bulk': how many values and letters a reading holds, each counted each time it is reached (what is shared counts as often as it is met; a slice's spare places count too). A statement '..UptoSaid' is the law's where the arguments, and the package variables that the reading takes, are together of bulk at most 1048576: NARROWER than '..Said'. Prove '..Said' where nothing that the law and all that it calls make is longer than what came in: it says more and counts as full. Else prove '..UptoSaid'. A law counts once. -/
mutual
def uptoBulk {H : Type} : DataW H → Nat
  | .lit (.string bytes) => bytes.length + 1
  | .lit _ => 1
  | .nil => 1
  | .ptr d => uptoBulk d + 1
  | .slice elems spare => uptoBulkAll elems + uptoBulkAll spare + 1
  | .agg parts => uptoBulkAll parts + 1
  | .iface _ d => uptoBulk d + 1
  | .map entries => uptoBulkEntries entries + 1
  | .held _ => 1
def uptoBulkAll {H : Type} : List (DataW H) → Nat
  | [] => 0
  | d :: r => uptoBulk d + uptoBulkAll r
def uptoBulkEntries {H : Type} : List (Lit × DataW H) → Nat
  | [] => 0
  | x :: r => uptoBulkEntry x + uptoBulkEntries r
def uptoBulkEntry {H : Type} : Lit × DataW H → Nat
  | (.string bytes, d) => bytes.length + uptoBulk d + 1
  | (_, d) => uptoBulk d + 1
 end
def uptoSmall : (H : Type) → List (DataW H) → Bool := fun _ ds => decide (uptoBulkAll ds ≤ 1048576)
def OpenSpec.upto (s : _root_.Go.ChangeSpec) : _root_.Go.OpenSpec := { _root_.Go.OpenSpec.ofChange s with cond := some uptoSmall }

/-- 'sounderlaw18.TimerFirst', WHERE WHAT IT READS IS OF BULK AT MOST 1048576: true; the input reads as it did. -/
def timerFirstUptoRow : OpenClaim := { program := "ytfoogfhcjnpokaa", sum := "21869ad48bbbab671c1017d403a8ec0a40964facac6a099ca4638bda7dd8fb14", func := "sounder/sounderlaw18.TimerFirst", spec := "timerFirst", unfollowed := true, recurses := true, apart := false, narrowed := true }
def TimerFirstUptoSaid : Prop := timerFirstUptoRow.holds Try.pinned (OpenSpec.upto timerFirstSpec)

/-- 'sounderlaw18.TimerKnown', WHERE WHAT IT READS IS OF BULK AT MOST 1048576: true; the input reads as it did. -/
def timerKnownUptoRow : OpenClaim := { program := "ytfoogfhcjnpokaa", sum := "21869ad48bbbab671c1017d403a8ec0a40964facac6a099ca4638bda7dd8fb14", func := "sounder/sounderlaw18.TimerKnown", spec := "timerKnown", unfollowed := true, recurses := true, apart := false, narrowed := true }
def TimerKnownUptoSaid : Prop := timerKnownUptoRow.holds Try.pinned (OpenSpec.upto timerKnownSpec)

/-- 'sounderlaw18.TimerTells', WHERE WHAT IT READS IS OF BULK AT MOST 1048576: true; the input reads as it did. -/
def timerTellsUptoRow : OpenClaim := { program := "ytfoogfhcjnpokaa", sum := "21869ad48bbbab671c1017d403a8ec0a40964facac6a099ca4638bda7dd8fb14", func := "sounder/sounderlaw18.TimerTells", spec := "timerTells", unfollowed := true, recurses := true, apart := false, narrowed := true }
def TimerTellsUptoSaid : Prop := timerTellsUptoRow.holds Try.pinned (OpenSpec.upto timerTellsSpec)

/-- 'sounderlaw18.TimerArmed', WHERE WHAT IT READS IS OF BULK AT MOST 1048576: true; the input reads as it did. -/
def timerArmedUptoRow : OpenClaim := { program := "ytfoogfhcjnpokaa", sum := "21869ad48bbbab671c1017d403a8ec0a40964facac6a099ca4638bda7dd8fb14", func := "sounder/sounderlaw18.TimerArmed", spec := "timerArmed", unfollowed := true, recurses := true, apart := false, narrowed := true }
def TimerArmedUptoSaid : Prop := timerArmedUptoRow.holds Try.pinned (OpenSpec.upto timerArmedSpec)

/-- 'sounderlaw18.TimerLate', WHERE WHAT IT READS IS OF BULK AT MOST 1048576: true; the input reads as it did. -/
def timerLateUptoRow : OpenClaim := { program := "ytfoogfhcjnpokaa", sum := "21869ad48bbbab671c1017d403a8ec0a40964facac6a099ca4638bda7dd8fb14", func := "sounder/sounderlaw18.TimerLate", spec := "timerLate", unfollowed := true, recurses := true, apart := false, narrowed := true }
def TimerLateUptoSaid : Prop := timerLateUptoRow.holds Try.pinned (OpenSpec.upto timerLateSpec)

/-- 'sounderlaw18.TimerAlone', WHERE WHAT IT READS IS OF BULK AT MOST 1048576: true; the input reads as it did. -/
def timerAloneUptoRow : OpenClaim := { program := "ytfoogfhcjnpokaa", sum := "21869ad48bbbab671c1017d403a8ec0a40964facac6a099ca4638bda7dd8fb14", func := "sounder/sounderlaw18.TimerAlone", spec := "timerAlone", unfollowed := true, recurses := true, apart := false, narrowed := true }
def TimerAloneUptoSaid : Prop := timerAloneUptoRow.holds Try.pinned (OpenSpec.upto timerAloneSpec)

end Rows
end Go.Proofs.Ytfoogfhcjnpokaa
