/-
  No cell of these rows narrows 'for every input' (looked for: loops, veiled, ifaces, maps, wideKeys, modest, calm, conditions, laid).
  DERIVED. THE GIVEN ROWS OF THIS SEAT. 8 by the template 'for every input the law returns true; each argument reads behind the call as it read before'; 0 by the template 'total and deterministic' (their statements: YtinlfoblpgpikaaTotals.lean).
  GIVEN WITH THE SEED: the statements are not yours to turn. If you find one false, say at which input.
  Laid BY PROGRAM, IN A SANDBOX (cutbox-rows.mjs): the forced cells as the released guide's own fill.sh prints them over the translation 21099afbecd41e3f… (all of the seat's roots in one cut). By AI agents, Wed Nov 11 2026. No macro, syntax, notation, axiom, sorry.
-/
import Derived.Test.YtinlfoblpgpikaaChecked
import GoSem.Claim
import GoSem.ClaimJoined
import GoSem.ClaimMapViews
import Derived.JoinedTies
import Derived.KernelRfl
namespace Go.Proofs.Ytinlfoblpgpikaa
/- THE CELL 'sum', in the pinned program and in every row, IS THE sha256 OF THE DUMP (.gsa) THAT YtinlfoblpgpikaaProg.lean LOADS. Nothing in Lean hashes anything: it is a label: what it is worth is what the hold of that sum in a sandbox is worth. -/
noncomputable def Try.pinned : Pinned := { name := "ytinlfoblpgpikaa", sum := "21099afbecd41e3f6e2f1c01abd1c18f82418595eed2e185d788a6b2c76d46ae", checked := Try.checked }
namespace Rows
def none {H : Type} : Left H := { results := [], args := [] }

/-- 'sapperlaw17.CutterNames': WHATEVER THE INPUT: true; the input reads as it did. -/
def cutterNamesSpec : ChangeSpec := { name := "cutterNames", fn := fun _ => fun
  | [] => { results := [.lit (.bool true)], args := [] }
  | _ => none }
def cutterNamesRow : OpenClaim := { program := "ytinlfoblpgpikaa", sum := "21099afbecd41e3f6e2f1c01abd1c18f82418595eed2e185d788a6b2c76d46ae", func := "sapper/sapperlaw17.CutterNames", spec := "cutterNames", unfollowed := true, recurses := true, apart := false }
def CutterNamesSaid : Prop := cutterNamesRow.holds Try.pinned (OpenSpec.ofChange cutterNamesSpec)

/-- ITS FALSE NEIGHBOUR: 'it returns false'. Refute it at one input. -/
def cutterNamesWrong : ChangeSpec := { name := "cutterNames", fn := fun _ => fun
  | [] => { results := [.lit (.bool false)], args := [] }
  | _ => none }
def CutterNamesWrongFalsely : Prop := cutterNamesRow.holds Try.pinned (OpenSpec.ofChange cutterNamesWrong)

/-- 'sapperlaw17.CutterCuts': WHATEVER THE INPUT: true; the input reads as it did. -/
def cutterCutsSpec : ChangeSpec := { name := "cutterCuts", fn := fun _ => fun
  | [d1, d2] => { results := [.lit (.bool true)], args := [d1, d2] }
  | _ => none }
def cutterCutsRow : OpenClaim := { program := "ytinlfoblpgpikaa", sum := "21099afbecd41e3f6e2f1c01abd1c18f82418595eed2e185d788a6b2c76d46ae", func := "sapper/sapperlaw17.CutterCuts", spec := "cutterCuts", unfollowed := true, recurses := true, apart := false }
def CutterCutsSaid : Prop := cutterCutsRow.holds Try.pinned (OpenSpec.ofChange cutterCutsSpec)

/-- ITS FALSE NEIGHBOUR: 'it returns false'. Refute it at one input. -/
def cutterCutsWrong : ChangeSpec := { name := "cutterCuts", fn := fun _ => fun
  | [d1, d2] => { results := [.lit (.bool false)], args := [d1, d2] }
  | _ => none }
def CutterCutsWrongFalsely : Prop := cutterCutsRow.holds Try.pinned (OpenSpec.ofChange cutterCutsWrong)

/-- 'sapperlaw17.CutterChecks': WHATEVER THE INPUT: true; the input reads as it did. -/
def cutterChecksSpec : ChangeSpec := { name := "cutterChecks", fn := fun _ => fun
  | [d1, d2, d3] => { results := [.lit (.bool true)], args := [d1, d2, d3] }
  | _ => none }
def cutterChecksRow : OpenClaim := { program := "ytinlfoblpgpikaa", sum := "21099afbecd41e3f6e2f1c01abd1c18f82418595eed2e185d788a6b2c76d46ae", func := "sapper/sapperlaw17.CutterChecks", spec := "cutterChecks", unfollowed := true, recurses := true, apart := false }
def CutterChecksSaid : Prop := cutterChecksRow.holds Try.pinned (OpenSpec.ofChange cutterChecksSpec)

/-- ITS FALSE NEIGHBOUR: 'it returns false'. Refute it at one input. -/
def cutterChecksWrong : ChangeSpec := { name := "cutterChecks", fn := fun _ => fun
  | [d1, d2, d3] => { results := [.lit (.bool false)], args := [d1, d2, d3] }
  | _ => none }
def CutterChecksWrongFalsely : Prop := cutterChecksRow.holds Try.pinned (OpenSpec.ofChange cutterChecksWrong)

/-- 'sapperlaw17.CutterApplies': WHATEVER THE INPUT: true; the input reads as it did. -/
def cutterAppliesSpec : ChangeSpec := { name := "cutterApplies", fn := fun _ => fun
  | [d1, d2, d3] => { results := [.lit (.bool true)], args := [d1, d2, d3] }
  | _ => none }
def cutterAppliesRow : OpenClaim := { program := "ytinlfoblpgpikaa", sum := "21099afbecd41e3f6e2f1c01abd1c18f82418595eed2e185d788a6b2c76d46ae", func := "sapper/sapperlaw17.CutterApplies", spec := "cutterApplies", unfollowed := true, recurses := true, apart := false }
def CutterAppliesSaid : Prop := cutterAppliesRow.holds Try.pinned (OpenSpec.ofChange cutterAppliesSpec)

/-- ITS FALSE NEIGHBOUR: 'it returns false'. Refute it at one input. -/
def cutterAppliesWrong : ChangeSpec := { name := "cutterApplies", fn := fun _ => fun
  | [d1, d2, d3] => { results := [.lit (.bool false)], args := [d1, d2, d3] }
  | _ => none }
def CutterAppliesWrongFalsely : Prop := cutterAppliesRow.holds Try.pinned (OpenSpec.ofChange cutterAppliesWrong)

/-- 'sapperlaw17.CutterJoins': WHATEVER THE INPUT: true; the input reads as it did. -/
def cutterJoinsSpec : ChangeSpec := { name := "cutterJoins", fn := fun _ => fun
  | [d1, d2] => { results := [.lit (.bool true)], args := [d1, d2] }
  | _ => none }
def cutterJoinsRow : OpenClaim := { program := "ytinlfoblpgpikaa", sum := "21099afbecd41e3f6e2f1c01abd1c18f82418595eed2e185d788a6b2c76d46ae", func := "sapper/sapperlaw17.CutterJoins", spec := "cutterJoins", unfollowed := true, recurses := true, apart := false }
def CutterJoinsSaid : Prop := cutterJoinsRow.holds Try.pinned (OpenSpec.ofChange cutterJoinsSpec)

/-- ITS FALSE NEIGHBOUR: 'it returns false'. Refute it at one input. -/
def cutterJoinsWrong : ChangeSpec := { name := "cutterJoins", fn := fun _ => fun
  | [d1, d2] => { results := [.lit (.bool false)], args := [d1, d2] }
  | _ => none }
def CutterJoinsWrongFalsely : Prop := cutterJoinsRow.holds Try.pinned (OpenSpec.ofChange cutterJoinsWrong)

/-- 'sapperlaw17.CutterControls': WHATEVER THE INPUT: true; the input reads as it did. -/
def cutterControlsSpec : ChangeSpec := { name := "cutterControls", fn := fun _ => fun
  | [d1, d2] => { results := [.lit (.bool true)], args := [d1, d2] }
  | _ => none }
def cutterControlsRow : OpenClaim := { program := "ytinlfoblpgpikaa", sum := "21099afbecd41e3f6e2f1c01abd1c18f82418595eed2e185d788a6b2c76d46ae", func := "sapper/sapperlaw17.CutterControls", spec := "cutterControls", unfollowed := true, recurses := true, apart := false }
def CutterControlsSaid : Prop := cutterControlsRow.holds Try.pinned (OpenSpec.ofChange cutterControlsSpec)

/-- ITS FALSE NEIGHBOUR: 'it returns false'. Refute it at one input. -/
def cutterControlsWrong : ChangeSpec := { name := "cutterControls", fn := fun _ => fun
  | [d1, d2] => { results := [.lit (.bool false)], args := [d1, d2] }
  | _ => none }
def CutterControlsWrongFalsely : Prop := cutterControlsRow.holds Try.pinned (OpenSpec.ofChange cutterControlsWrong)

/-- 'sapperlaw17.CutterBack': WHATEVER THE INPUT: true; the input reads as it did. -/
def cutterBackSpec : ChangeSpec := { name := "cutterBack", fn := fun _ => fun
  | [d1, d2, d3] => { results := [.lit (.bool true)], args := [d1, d2, d3] }
  | _ => none }
def cutterBackRow : OpenClaim := { program := "ytinlfoblpgpikaa", sum := "21099afbecd41e3f6e2f1c01abd1c18f82418595eed2e185d788a6b2c76d46ae", func := "sapper/sapperlaw17.CutterBack", spec := "cutterBack", unfollowed := true, recurses := true, apart := false }
def CutterBackSaid : Prop := cutterBackRow.holds Try.pinned (OpenSpec.ofChange cutterBackSpec)

/-- ITS FALSE NEIGHBOUR: 'it returns false'. Refute it at one input. -/
def cutterBackWrong : ChangeSpec := { name := "cutterBack", fn := fun _ => fun
  | [d1, d2, d3] => { results := [.lit (.bool false)], args := [d1, d2, d3] }
  | _ => none }
def CutterBackWrongFalsely : Prop := cutterBackRow.holds Try.pinned (OpenSpec.ofChange cutterBackWrong)

/-- 'sapperlaw17.CutterOne': WHATEVER THE INPUT: true; the input reads as it did. -/
def cutterOneSpec : ChangeSpec := { name := "cutterOne", fn := fun _ => fun
  | [d1, d2, d3] => { results := [.lit (.bool true)], args := [d1, d2, d3] }
  | _ => none }
def cutterOneRow : OpenClaim := { program := "ytinlfoblpgpikaa", sum := "21099afbecd41e3f6e2f1c01abd1c18f82418595eed2e185d788a6b2c76d46ae", func := "sapper/sapperlaw17.CutterOne", spec := "cutterOne", unfollowed := true, recurses := true, apart := false }
def CutterOneSaid : Prop := cutterOneRow.holds Try.pinned (OpenSpec.ofChange cutterOneSpec)

/-- ITS FALSE NEIGHBOUR: 'it returns false'. Refute it at one input. -/
def cutterOneWrong : ChangeSpec := { name := "cutterOne", fn := fun _ => fun
  | [d1, d2, d3] => { results := [.lit (.bool false)], args := [d1, d2, d3] }
  | _ => none }
def CutterOneWrongFalsely : Prop := cutterOneRow.holds Try.pinned (OpenSpec.ofChange cutterOneWrong)

/- THE SECOND FORM. 'bulk': how many values and letters a reading holds, each counted each time it is reached (what is shared counts as often as it is met; a slice's spare places count too). A statement '..UptoSaid' is the law's where the arguments, and the package variables that the reading takes, are together of bulk at most 1048576: NARROWER than '..Said'. Prove '..Said' where nothing that the law and all that it calls make is longer than what came in: it says more and counts as full. Else prove '..UptoSaid'. A law counts once. -/
mutual
def uptoBulk {H : Type} : DataW H → Nat
  | .lit (.string bytes) => bytes.length + 1
  | .lit _ => 1
  | .nil => 1
  | .ptr d => uptoBulk d + 1
  | .slice elems spare => uptoBulkAll elems + uptoBulkAll spare + 1
  | .agg parts => uptoBulkAll parts + 1
  | .iface _ d => uptoBulk d + 1
  | .map entries => uptoBulkEntries entries + 1
  | .held _ => 1
def uptoBulkAll {H : Type} : List (DataW H) → Nat
  | [] => 0
  | d :: r => uptoBulk d + uptoBulkAll r
def uptoBulkEntries {H : Type} : List (Lit × DataW H) → Nat
  | [] => 0
  | x :: r => uptoBulkEntry x + uptoBulkEntries r
def uptoBulkEntry {H : Type} : Lit × DataW H → Nat
  | (.string bytes, d) => bytes.length + uptoBulk d + 1
  | (_, d) => uptoBulk d + 1
 end
def uptoSmall : (H : Type) → List (DataW H) → Bool := fun _ ds => decide (uptoBulkAll ds ≤ 1048576)
def OpenSpec.upto (s : _root_.Go.ChangeSpec) : _root_.Go.OpenSpec := { _root_.Go.OpenSpec.ofChange s with cond := some uptoSmall }

/-- 'sapperlaw17.CutterNames', WHERE WHAT IT READS IS OF BULK AT MOST 1048576: true; the input reads as it did. -/
def cutterNamesUptoRow : OpenClaim := { program := "ytinlfoblpgpikaa", sum := "21099afbecd41e3f6e2f1c01abd1c18f82418595eed2e185d788a6b2c76d46ae", func := "sapper/sapperlaw17.CutterNames", spec := "cutterNames", unfollowed := true, recurses := true, apart := false, narrowed := true }
def CutterNamesUptoSaid : Prop := cutterNamesUptoRow.holds Try.pinned (OpenSpec.upto cutterNamesSpec)

/-- 'sapperlaw17.CutterCuts', WHERE WHAT IT READS IS OF BULK AT MOST 1048576: true; the input reads as it did. -/
def cutterCutsUptoRow : OpenClaim := { program := "ytinlfoblpgpikaa", sum := "21099afbecd41e3f6e2f1c01abd1c18f82418595eed2e185d788a6b2c76d46ae", func := "sapper/sapperlaw17.CutterCuts", spec := "cutterCuts", unfollowed := true, recurses := true, apart := false, narrowed := true }
def CutterCutsUptoSaid : Prop := cutterCutsUptoRow.holds Try.pinned (OpenSpec.upto cutterCutsSpec)

/-- 'sapperlaw17.CutterChecks', WHERE WHAT IT READS IS OF BULK AT MOST 1048576: true; the input reads as it did. -/
def cutterChecksUptoRow : OpenClaim := { program := "ytinlfoblpgpikaa", sum := "21099afbecd41e3f6e2f1c01abd1c18f82418595eed2e185d788a6b2c76d46ae", func := "sapper/sapperlaw17.CutterChecks", spec := "cutterChecks", unfollowed := true, recurses := true, apart := false, narrowed := true }
def CutterChecksUptoSaid : Prop := cutterChecksUptoRow.holds Try.pinned (OpenSpec.upto cutterChecksSpec)

/-- 'sapperlaw17.CutterApplies', WHERE WHAT IT READS IS OF BULK AT MOST 1048576: true; the input reads as it did. -/
def cutterAppliesUptoRow : OpenClaim := { program := "ytinlfoblpgpikaa", sum := "21099afbecd41e3f6e2f1c01abd1c18f82418595eed2e185d788a6b2c76d46ae", func := "sapper/sapperlaw17.CutterApplies", spec := "cutterApplies", unfollowed := true, recurses := true, apart := false, narrowed := true }
def CutterAppliesUptoSaid : Prop := cutterAppliesUptoRow.holds Try.pinned (OpenSpec.upto cutterAppliesSpec)

/-- 'sapperlaw17.CutterJoins', WHERE WHAT IT READS IS OF BULK AT MOST 1048576: true; the input reads as it did. -/
def cutterJoinsUptoRow : OpenClaim := { program := "ytinlfoblpgpikaa", sum := "21099afbecd41e3f6e2f1c01abd1c18f82418595eed2e185d788a6b2c76d46ae", func := "sapper/sapperlaw17.CutterJoins", spec := "cutterJoins", unfollowed := true, recurses := true, apart := false, narrowed := true }
def CutterJoinsUptoSaid : Prop := cutterJoinsUptoRow.holds Try.pinned (OpenSpec.upto cutterJoinsSpec)

/-- 'sapperlaw17.CutterControls', WHERE WHAT IT READS IS OF BULK AT MOST 1048576: true; the input reads as it did. -/
def cutterControlsUptoRow : OpenClaim := { program := "ytinlfoblpgpikaa", sum := "21099afbecd41e3f6e2f1c01abd1c18f82418595eed2e185d788a6b2c76d46ae", func := "sapper/sapperlaw17.CutterControls", spec := "cutterControls", unfollowed := true, recurses := true, apart := false, narrowed := true }
def CutterControlsUptoSaid : Prop := cutterControlsUptoRow.holds Try.pinned (OpenSpec.upto cutterControlsSpec)

/-- 'sapperlaw17.CutterBack', WHERE WHAT IT READS IS OF BULK AT MOST 1048576: true; the input reads as it did. -/
def cutterBackUptoRow : OpenClaim := { program := "ytinlfoblpgpikaa", sum := "21099afbecd41e3f6e2f1c01abd1c18f82418595eed2e185d788a6b2c76d46ae", func := "sapper/sapperlaw17.CutterBack", spec := "cutterBack", unfollowed := true, recurses := true, apart := false, narrowed := true }
def CutterBackUptoSaid : Prop := cutterBackUptoRow.holds Try.pinned (OpenSpec.upto cutterBackSpec)

/-- 'sapperlaw17.CutterOne', WHERE WHAT IT READS IS OF BULK AT MOST 1048576: true; the input reads as it did. -/
def cutterOneUptoRow : OpenClaim := { program := "ytinlfoblpgpikaa", sum := "21099afbecd41e3f6e2f1c01abd1c18f82418595eed2e185d788a6b2c76d46ae", func := "sapper/sapperlaw17.CutterOne", spec := "cutterOne", unfollowed := true, recurses := true, apart := false, narrowed := true }
def CutterOneUptoSaid : Prop := cutterOneUptoRow.holds Try.pinned (OpenSpec.upto cutterOneSpec)

end Rows
end Go.Proofs.Ytinlfoblpgpikaa
