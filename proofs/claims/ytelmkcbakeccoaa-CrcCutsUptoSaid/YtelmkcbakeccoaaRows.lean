/-
  No cell of these rows narrows 'for every input' (looked for: loops, veiled, ifaces, maps, wideKeys, modest, calm, conditions, laid).
  DERIVED. THE GIVEN ROWS OF THIS SEAT. 14 by the template 'for every input the law returns true; each argument reads behind the call as it read before'; 0 by the template 'total and deterministic' (their statements: YtelmkcbakeccoaaTotals.lean).
  GIVEN WITH THE SEED: the statements are not yours to turn. If you find one false, say at which input.
  Laid BY PROGRAM, IN A SANDBOX (cutbox-rows.mjs): the forced cells as the released guide's own fill.sh prints them over the translation c95f3ac43c376048… (all of the seat's roots in one cut). By AI agents, Wed Nov 11 2026. No macro, syntax, notation, axiom, sorry.
-/
import Derived.Test.YtelmkcbakeccoaaChecked
import GoSem.Claim
import GoSem.ClaimJoined
import GoSem.ClaimMapViews
import Derived.JoinedTies
import Derived.KernelRfl
namespace Go.Proofs.Ytelmkcbakeccoaa
/- THE CELL 'sum', in the pinned program and in every row, IS THE sha256 OF THE DUMP (.gsa) THAT YtelmkcbakeccoaaProg.lean LOADS. Nothing in Lean hashes anything: it is a label: what it is worth is what the hold of that sum in a sandbox is worth. -/
noncomputable def Try.pinned : Pinned := { name := "ytelmkcbakeccoaa", sum := "c95f3ac43c376048bf1d3bc2628b08780b18c4275e1b6c949251c6b7cf3dbc63", checked := Try.checked }
namespace Rows
def none {H : Type} : Left H := { results := [], args := [] }

/-- 'sapperlaw02.CrcMores': WHATEVER THE INPUT: true; the input reads as it did. -/
def crcMoresSpec : ChangeSpec := { name := "crcMores", fn := fun _ => fun
  | [d1, d2] => { results := [.lit (.bool true)], args := [d1, d2] }
  | _ => none }
def crcMoresRow : OpenClaim := { program := "ytelmkcbakeccoaa", sum := "c95f3ac43c376048bf1d3bc2628b08780b18c4275e1b6c949251c6b7cf3dbc63", func := "sapper/sapperlaw02.CrcMores", spec := "crcMores", apart := false }
def CrcMoresSaid : Prop := crcMoresRow.holds Try.pinned (OpenSpec.ofChange crcMoresSpec)

/-- ITS FALSE NEIGHBOUR: 'it returns false'. Refute it at one input. -/
def crcMoresWrong : ChangeSpec := { name := "crcMores", fn := fun _ => fun
  | [d1, d2] => { results := [.lit (.bool false)], args := [d1, d2] }
  | _ => none }
def CrcMoresWrongFalsely : Prop := crcMoresRow.holds Try.pinned (OpenSpec.ofChange crcMoresWrong)

/-- 'sapperlaw02.CrcNames': WHATEVER THE INPUT: true; the input reads as it did. -/
def crcNamesSpec : ChangeSpec := { name := "crcNames", fn := fun _ => fun
  | [] => { results := [.lit (.bool true)], args := [] }
  | _ => none }
def crcNamesRow : OpenClaim := { program := "ytelmkcbakeccoaa", sum := "c95f3ac43c376048bf1d3bc2628b08780b18c4275e1b6c949251c6b7cf3dbc63", func := "sapper/sapperlaw02.CrcNames", spec := "crcNames", apart := false }
def CrcNamesSaid : Prop := crcNamesRow.holds Try.pinned (OpenSpec.ofChange crcNamesSpec)

/-- ITS FALSE NEIGHBOUR: 'it returns false'. Refute it at one input. -/
def crcNamesWrong : ChangeSpec := { name := "crcNames", fn := fun _ => fun
  | [] => { results := [.lit (.bool false)], args := [] }
  | _ => none }
def CrcNamesWrongFalsely : Prop := crcNamesRow.holds Try.pinned (OpenSpec.ofChange crcNamesWrong)

/-- 'sapperlaw02.CrcSums': WHATEVER THE INPUT: true; the input reads as it did. -/
def crcSumsSpec : ChangeSpec := { name := "crcSums", fn := fun _ => fun
  | [d] => { results := [.lit (.bool true)], args := [d] }
  | _ => none }
def crcSumsRow : OpenClaim := { program := "ytelmkcbakeccoaa", sum := "c95f3ac43c376048bf1d3bc2628b08780b18c4275e1b6c949251c6b7cf3dbc63", func := "sapper/sapperlaw02.CrcSums", spec := "crcSums", apart := false }
def CrcSumsSaid : Prop := crcSumsRow.holds Try.pinned (OpenSpec.ofChange crcSumsSpec)

/-- ITS FALSE NEIGHBOUR: 'it returns false'. Refute it at one input. -/
def crcSumsWrong : ChangeSpec := { name := "crcSums", fn := fun _ => fun
  | [d] => { results := [.lit (.bool false)], args := [d] }
  | _ => none }
def CrcSumsWrongFalsely : Prop := crcSumsRow.holds Try.pinned (OpenSpec.ofChange crcSumsWrong)

/-- 'sapperlaw02.CrcFlips': WHATEVER THE INPUT: true; the input reads as it did. -/
def crcFlipsSpec : ChangeSpec := { name := "crcFlips", fn := fun _ => fun
  | [d1, d2] => { results := [.lit (.bool true)], args := [d1, d2] }
  | _ => none }
def crcFlipsRow : OpenClaim := { program := "ytelmkcbakeccoaa", sum := "c95f3ac43c376048bf1d3bc2628b08780b18c4275e1b6c949251c6b7cf3dbc63", func := "sapper/sapperlaw02.CrcFlips", spec := "crcFlips", apart := false }
def CrcFlipsSaid : Prop := crcFlipsRow.holds Try.pinned (OpenSpec.ofChange crcFlipsSpec)

/-- ITS FALSE NEIGHBOUR: 'it returns false'. Refute it at one input. -/
def crcFlipsWrong : ChangeSpec := { name := "crcFlips", fn := fun _ => fun
  | [d1, d2] => { results := [.lit (.bool false)], args := [d1, d2] }
  | _ => none }
def CrcFlipsWrongFalsely : Prop := crcFlipsRow.holds Try.pinned (OpenSpec.ofChange crcFlipsWrong)

/-- 'sapperlaw02.CrcThird': WHATEVER THE INPUT: true; the input reads as it did. -/
def crcThirdSpec : ChangeSpec := { name := "crcThird", fn := fun _ => fun
  | [d] => { results := [.lit (.bool true)], args := [d] }
  | _ => none }
def crcThirdRow : OpenClaim := { program := "ytelmkcbakeccoaa", sum := "c95f3ac43c376048bf1d3bc2628b08780b18c4275e1b6c949251c6b7cf3dbc63", func := "sapper/sapperlaw02.CrcThird", spec := "crcThird", apart := false }
def CrcThirdSaid : Prop := crcThirdRow.holds Try.pinned (OpenSpec.ofChange crcThirdSpec)

/-- ITS FALSE NEIGHBOUR: 'it returns false'. Refute it at one input. -/
def crcThirdWrong : ChangeSpec := { name := "crcThird", fn := fun _ => fun
  | [d] => { results := [.lit (.bool false)], args := [d] }
  | _ => none }
def CrcThirdWrongFalsely : Prop := crcThirdRow.holds Try.pinned (OpenSpec.ofChange crcThirdWrong)

/-- 'sapperlaw02.CrcRuns': WHATEVER THE INPUT: true; the input reads as it did. -/
def crcRunsSpec : ChangeSpec := { name := "crcRuns", fn := fun _ => fun
  | [d1, d2, d3] => { results := [.lit (.bool true)], args := [d1, d2, d3] }
  | _ => none }
def crcRunsRow : OpenClaim := { program := "ytelmkcbakeccoaa", sum := "c95f3ac43c376048bf1d3bc2628b08780b18c4275e1b6c949251c6b7cf3dbc63", func := "sapper/sapperlaw02.CrcRuns", spec := "crcRuns", apart := false }
def CrcRunsSaid : Prop := crcRunsRow.holds Try.pinned (OpenSpec.ofChange crcRunsSpec)

/-- ITS FALSE NEIGHBOUR: 'it returns false'. Refute it at one input. -/
def crcRunsWrong : ChangeSpec := { name := "crcRuns", fn := fun _ => fun
  | [d1, d2, d3] => { results := [.lit (.bool false)], args := [d1, d2, d3] }
  | _ => none }
def CrcRunsWrongFalsely : Prop := crcRunsRow.holds Try.pinned (OpenSpec.ofChange crcRunsWrong)

/-- 'sapperlaw02.CrcResidue': WHATEVER THE INPUT: true; the input reads as it did. -/
def crcResidueSpec : ChangeSpec := { name := "crcResidue", fn := fun _ => fun
  | [d] => { results := [.lit (.bool true)], args := [d] }
  | _ => none }
def crcResidueRow : OpenClaim := { program := "ytelmkcbakeccoaa", sum := "c95f3ac43c376048bf1d3bc2628b08780b18c4275e1b6c949251c6b7cf3dbc63", func := "sapper/sapperlaw02.CrcResidue", spec := "crcResidue", apart := false }
def CrcResidueSaid : Prop := crcResidueRow.holds Try.pinned (OpenSpec.ofChange crcResidueSpec)

/-- ITS FALSE NEIGHBOUR: 'it returns false'. Refute it at one input. -/
def crcResidueWrong : ChangeSpec := { name := "crcResidue", fn := fun _ => fun
  | [d] => { results := [.lit (.bool false)], args := [d] }
  | _ => none }
def CrcResidueWrongFalsely : Prop := crcResidueRow.holds Try.pinned (OpenSpec.ofChange crcResidueWrong)

/-- 'sapperlaw02.CrcTails': WHATEVER THE INPUT: true; the input reads as it did. -/
def crcTailsSpec : ChangeSpec := { name := "crcTails", fn := fun _ => fun
  | [d1, d2] => { results := [.lit (.bool true)], args := [d1, d2] }
  | _ => none }
def crcTailsRow : OpenClaim := { program := "ytelmkcbakeccoaa", sum := "c95f3ac43c376048bf1d3bc2628b08780b18c4275e1b6c949251c6b7cf3dbc63", func := "sapper/sapperlaw02.CrcTails", spec := "crcTails", apart := false }
def CrcTailsSaid : Prop := crcTailsRow.holds Try.pinned (OpenSpec.ofChange crcTailsSpec)

/-- ITS FALSE NEIGHBOUR: 'it returns false'. Refute it at one input. -/
def crcTailsWrong : ChangeSpec := { name := "crcTails", fn := fun _ => fun
  | [d1, d2] => { results := [.lit (.bool false)], args := [d1, d2] }
  | _ => none }
def CrcTailsWrongFalsely : Prop := crcTailsRow.holds Try.pinned (OpenSpec.ofChange crcTailsWrong)

/-- 'sapperlaw02.CrcJoins': WHATEVER THE INPUT: true; the input reads as it did. -/
def crcJoinsSpec : ChangeSpec := { name := "crcJoins", fn := fun _ => fun
  | [d1, d2, d3] => { results := [.lit (.bool true)], args := [d1, d2, d3] }
  | _ => none }
def crcJoinsRow : OpenClaim := { program := "ytelmkcbakeccoaa", sum := "c95f3ac43c376048bf1d3bc2628b08780b18c4275e1b6c949251c6b7cf3dbc63", func := "sapper/sapperlaw02.CrcJoins", spec := "crcJoins", apart := false }
def CrcJoinsSaid : Prop := crcJoinsRow.holds Try.pinned (OpenSpec.ofChange crcJoinsSpec)

/-- ITS FALSE NEIGHBOUR: 'it returns false'. Refute it at one input. -/
def crcJoinsWrong : ChangeSpec := { name := "crcJoins", fn := fun _ => fun
  | [d1, d2, d3] => { results := [.lit (.bool false)], args := [d1, d2, d3] }
  | _ => none }
def CrcJoinsWrongFalsely : Prop := crcJoinsRow.holds Try.pinned (OpenSpec.ofChange crcJoinsWrong)

/-- 'sapperlaw02.CrcZeros': WHATEVER THE INPUT: true; the input reads as it did. -/
def crcZerosSpec : ChangeSpec := { name := "crcZeros", fn := fun _ => fun
  | [d1, d2] => { results := [.lit (.bool true)], args := [d1, d2] }
  | _ => none }
def crcZerosRow : OpenClaim := { program := "ytelmkcbakeccoaa", sum := "c95f3ac43c376048bf1d3bc2628b08780b18c4275e1b6c949251c6b7cf3dbc63", func := "sapper/sapperlaw02.CrcZeros", spec := "crcZeros", apart := false }
def CrcZerosSaid : Prop := crcZerosRow.holds Try.pinned (OpenSpec.ofChange crcZerosSpec)

/-- ITS FALSE NEIGHBOUR: 'it returns false'. Refute it at one input. -/
def crcZerosWrong : ChangeSpec := { name := "crcZeros", fn := fun _ => fun
  | [d1, d2] => { results := [.lit (.bool false)], args := [d1, d2] }
  | _ => none }
def CrcZerosWrongFalsely : Prop := crcZerosRow.holds Try.pinned (OpenSpec.ofChange crcZerosWrong)

/-- 'sapperlaw02.CrcTurns': WHATEVER THE INPUT: true; the input reads as it did. -/
def crcTurnsSpec : ChangeSpec := { name := "crcTurns", fn := fun _ => fun
  | [d] => { results := [.lit (.bool true)], args := [d] }
  | _ => none }
def crcTurnsRow : OpenClaim := { program := "ytelmkcbakeccoaa", sum := "c95f3ac43c376048bf1d3bc2628b08780b18c4275e1b6c949251c6b7cf3dbc63", func := "sapper/sapperlaw02.CrcTurns", spec := "crcTurns", apart := false }
def CrcTurnsSaid : Prop := crcTurnsRow.holds Try.pinned (OpenSpec.ofChange crcTurnsSpec)

/-- ITS FALSE NEIGHBOUR: 'it returns false'. Refute it at one input. -/
def crcTurnsWrong : ChangeSpec := { name := "crcTurns", fn := fun _ => fun
  | [d] => { results := [.lit (.bool false)], args := [d] }
  | _ => none }
def CrcTurnsWrongFalsely : Prop := crcTurnsRow.holds Try.pinned (OpenSpec.ofChange crcTurnsWrong)

/-- 'sapperlaw02.CrcAdds': WHATEVER THE INPUT: true; the input reads as it did. -/
def crcAddsSpec : ChangeSpec := { name := "crcAdds", fn := fun _ => fun
  | [d1, d2, d3] => { results := [.lit (.bool true)], args := [d1, d2, d3] }
  | _ => none }
def crcAddsRow : OpenClaim := { program := "ytelmkcbakeccoaa", sum := "c95f3ac43c376048bf1d3bc2628b08780b18c4275e1b6c949251c6b7cf3dbc63", func := "sapper/sapperlaw02.CrcAdds", spec := "crcAdds", apart := false }
def CrcAddsSaid : Prop := crcAddsRow.holds Try.pinned (OpenSpec.ofChange crcAddsSpec)

/-- ITS FALSE NEIGHBOUR: 'it returns false'. Refute it at one input. -/
def crcAddsWrong : ChangeSpec := { name := "crcAdds", fn := fun _ => fun
  | [d1, d2, d3] => { results := [.lit (.bool false)], args := [d1, d2, d3] }
  | _ => none }
def CrcAddsWrongFalsely : Prop := crcAddsRow.holds Try.pinned (OpenSpec.ofChange crcAddsWrong)

/-- 'sapperlaw02.CrcCuts': WHATEVER THE INPUT: true; the input reads as it did. -/
def crcCutsSpec : ChangeSpec := { name := "crcCuts", fn := fun _ => fun
  | [d] => { results := [.lit (.bool true)], args := [d] }
  | _ => none }
def crcCutsRow : OpenClaim := { program := "ytelmkcbakeccoaa", sum := "c95f3ac43c376048bf1d3bc2628b08780b18c4275e1b6c949251c6b7cf3dbc63", func := "sapper/sapperlaw02.CrcCuts", spec := "crcCuts", apart := false }
def CrcCutsSaid : Prop := crcCutsRow.holds Try.pinned (OpenSpec.ofChange crcCutsSpec)

/-- ITS FALSE NEIGHBOUR: 'it returns false'. Refute it at one input. -/
def crcCutsWrong : ChangeSpec := { name := "crcCuts", fn := fun _ => fun
  | [d] => { results := [.lit (.bool false)], args := [d] }
  | _ => none }
def CrcCutsWrongFalsely : Prop := crcCutsRow.holds Try.pinned (OpenSpec.ofChange crcCutsWrong)

/-- 'sapperlaw02.CrcTurnsBack': WHATEVER THE INPUT: true; the input reads as it did. -/
def crcTurnsBackSpec : ChangeSpec := { name := "crcTurnsBack", fn := fun _ => fun
  | [d1, d2, d3] => { results := [.lit (.bool true)], args := [d1, d2, d3] }
  | _ => none }
def crcTurnsBackRow : OpenClaim := { program := "ytelmkcbakeccoaa", sum := "c95f3ac43c376048bf1d3bc2628b08780b18c4275e1b6c949251c6b7cf3dbc63", func := "sapper/sapperlaw02.CrcTurnsBack", spec := "crcTurnsBack", apart := false }
def CrcTurnsBackSaid : Prop := crcTurnsBackRow.holds Try.pinned (OpenSpec.ofChange crcTurnsBackSpec)

/-- ITS FALSE NEIGHBOUR: 'it returns false'. Refute it at one input. -/
def crcTurnsBackWrong : ChangeSpec := { name := "crcTurnsBack", fn := fun _ => fun
  | [d1, d2, d3] => { results := [.lit (.bool false)], args := [d1, d2, d3] }
  | _ => none }
def CrcTurnsBackWrongFalsely : Prop := crcTurnsBackRow.holds Try.pinned (OpenSpec.ofChange crcTurnsBackWrong)

/- THE SECOND FORM. 'bulk': how many values and letters a reading holds, each counted each time it is reached (what is shared counts as often as it is met; a slice's spare places count too). A statement '..UptoSaid' is the law's where the arguments, and the package variables that the reading takes, are together of bulk at most 1048576: NARROWER than '..Said'. Prove '..Said' where nothing that the law and all that it calls make is longer than what came in: it says more and counts as full. Else prove '..UptoSaid'. A law counts once. -/
mutual
def uptoBulk {H : Type} : DataW H → Nat
  | .lit (.string bytes) => bytes.length + 1
  | .lit _ => 1
  | .nil => 1
  | .ptr d => uptoBulk d + 1
  | .slice elems spare => uptoBulkAll elems + uptoBulkAll spare + 1
  | .agg parts => uptoBulkAll parts + 1
  | .iface _ d => uptoBulk d + 1
  | .map entries => uptoBulkEntries entries + 1
  | .held _ => 1
def uptoBulkAll {H : Type} : List (DataW H) → Nat
  | [] => 0
  | d :: r => uptoBulk d + uptoBulkAll r
def uptoBulkEntries {H : Type} : List (Lit × DataW H) → Nat
  | [] => 0
  | x :: r => uptoBulkEntry x + uptoBulkEntries r
def uptoBulkEntry {H : Type} : Lit × DataW H → Nat
  | (.string bytes, d) => bytes.length + uptoBulk d + 1
  | (_, d) => uptoBulk d + 1
 end
def uptoSmall : (H : Type) → List (DataW H) → Bool := fun _ ds => decide (uptoBulkAll ds ≤ 1048576)
def OpenSpec.upto (s : _root_.Go.ChangeSpec) : _root_.Go.OpenSpec := { _root_.Go.OpenSpec.ofChange s with cond := some uptoSmall }

/-- 'sapperlaw02.CrcMores', WHERE WHAT IT READS IS OF BULK AT MOST 1048576: true; the input reads as it did. -/
def crcMoresUptoRow : OpenClaim := { program := "ytelmkcbakeccoaa", sum := "c95f3ac43c376048bf1d3bc2628b08780b18c4275e1b6c949251c6b7cf3dbc63", func := "sapper/sapperlaw02.CrcMores", spec := "crcMores", apart := false, narrowed := true }
def CrcMoresUptoSaid : Prop := crcMoresUptoRow.holds Try.pinned (OpenSpec.upto crcMoresSpec)

/-- 'sapperlaw02.CrcNames', WHERE WHAT IT READS IS OF BULK AT MOST 1048576: true; the input reads as it did. -/
def crcNamesUptoRow : OpenClaim := { program := "ytelmkcbakeccoaa", sum := "c95f3ac43c376048bf1d3bc2628b08780b18c4275e1b6c949251c6b7cf3dbc63", func := "sapper/sapperlaw02.CrcNames", spec := "crcNames", apart := false, narrowed := true }
def CrcNamesUptoSaid : Prop := crcNamesUptoRow.holds Try.pinned (OpenSpec.upto crcNamesSpec)

/-- 'sapperlaw02.CrcSums', WHERE WHAT IT READS IS OF BULK AT MOST 1048576: true; the input reads as it did. -/
def crcSumsUptoRow : OpenClaim := { program := "ytelmkcbakeccoaa", sum := "c95f3ac43c376048bf1d3bc2628b08780b18c4275e1b6c949251c6b7cf3dbc63", func := "sapper/sapperlaw02.CrcSums", spec := "crcSums", apart := false, narrowed := true }
def CrcSumsUptoSaid : Prop := crcSumsUptoRow.holds Try.pinned (OpenSpec.upto crcSumsSpec)

/-- 'sapperlaw02.CrcFlips', WHERE WHAT IT READS IS OF BULK AT MOST 1048576: true; the input reads as it did. -/
def crcFlipsUptoRow : OpenClaim := { program := "ytelmkcbakeccoaa", sum := "c95f3ac43c376048bf1d3bc2628b08780b18c4275e1b6c949251c6b7cf3dbc63", func := "sapper/sapperlaw02.CrcFlips", spec := "crcFlips", apart := false, narrowed := true }
def CrcFlipsUptoSaid : Prop := crcFlipsUptoRow.holds Try.pinned (OpenSpec.upto crcFlipsSpec)

/-- 'sapperlaw02.CrcThird', WHERE WHAT IT READS IS OF BULK AT MOST 1048576: true; the input reads as it did. -/
def crcThirdUptoRow : OpenClaim := { program := "ytelmkcbakeccoaa", sum := "c95f3ac43c376048bf1d3bc2628b08780b18c4275e1b6c949251c6b7cf3dbc63", func := "sapper/sapperlaw02.CrcThird", spec := "crcThird", apart := false, narrowed := true }
def CrcThirdUptoSaid : Prop := crcThirdUptoRow.holds Try.pinned (OpenSpec.upto crcThirdSpec)

/-- 'sapperlaw02.CrcRuns', WHERE WHAT IT READS IS OF BULK AT MOST 1048576: true; the input reads as it did. -/
def crcRunsUptoRow : OpenClaim := { program := "ytelmkcbakeccoaa", sum := "c95f3ac43c376048bf1d3bc2628b08780b18c4275e1b6c949251c6b7cf3dbc63", func := "sapper/sapperlaw02.CrcRuns", spec := "crcRuns", apart := false, narrowed := true }
def CrcRunsUptoSaid : Prop := crcRunsUptoRow.holds Try.pinned (OpenSpec.upto crcRunsSpec)

/-- 'sapperlaw02.CrcResidue', WHERE WHAT IT READS IS OF BULK AT MOST 1048576: true; the input reads as it did. -/
def crcResidueUptoRow : OpenClaim := { program := "ytelmkcbakeccoaa", sum := "c95f3ac43c376048bf1d3bc2628b08780b18c4275e1b6c949251c6b7cf3dbc63", func := "sapper/sapperlaw02.CrcResidue", spec := "crcResidue", apart := false, narrowed := true }
def CrcResidueUptoSaid : Prop := crcResidueUptoRow.holds Try.pinned (OpenSpec.upto crcResidueSpec)

/-- 'sapperlaw02.CrcTails', WHERE WHAT IT READS IS OF BULK AT MOST 1048576: true; the input reads as it did. -/
def crcTailsUptoRow : OpenClaim := { program := "ytelmkcbakeccoaa", sum := "c95f3ac43c376048bf1d3bc2628b08780b18c4275e1b6c949251c6b7cf3dbc63", func := "sapper/sapperlaw02.CrcTails", spec := "crcTails", apart := false, narrowed := true }
def CrcTailsUptoSaid : Prop := crcTailsUptoRow.holds Try.pinned (OpenSpec.upto crcTailsSpec)

/-- 'sapperlaw02.CrcJoins', WHERE WHAT IT READS IS OF BULK AT MOST 1048576: true; the input reads as it did. -/
def crcJoinsUptoRow : OpenClaim := { program := "ytelmkcbakeccoaa", sum := "c95f3ac43c376048bf1d3bc2628b08780b18c4275e1b6c949251c6b7cf3dbc63", func := "sapper/sapperlaw02.CrcJoins", spec := "crcJoins", apart := false, narrowed := true }
def CrcJoinsUptoSaid : Prop := crcJoinsUptoRow.holds Try.pinned (OpenSpec.upto crcJoinsSpec)

/-- 'sapperlaw02.CrcZeros', WHERE WHAT IT READS IS OF BULK AT MOST 1048576: true; the input reads as it did. -/
def crcZerosUptoRow : OpenClaim := { program := "ytelmkcbakeccoaa", sum := "c95f3ac43c376048bf1d3bc2628b08780b18c4275e1b6c949251c6b7cf3dbc63", func := "sapper/sapperlaw02.CrcZeros", spec := "crcZeros", apart := false, narrowed := true }
def CrcZerosUptoSaid : Prop := crcZerosUptoRow.holds Try.pinned (OpenSpec.upto crcZerosSpec)

/-- 'sapperlaw02.CrcTurns', WHERE WHAT IT READS IS OF BULK AT MOST 1048576: true; the input reads as it did. -/
def crcTurnsUptoRow : OpenClaim := { program := "ytelmkcbakeccoaa", sum := "c95f3ac43c376048bf1d3bc2628b08780b18c4275e1b6c949251c6b7cf3dbc63", func := "sapper/sapperlaw02.CrcTurns", spec := "crcTurns", apart := false, narrowed := true }
def CrcTurnsUptoSaid : Prop := crcTurnsUptoRow.holds Try.pinned (OpenSpec.upto crcTurnsSpec)

/-- 'sapperlaw02.CrcAdds', WHERE WHAT IT READS IS OF BULK AT MOST 1048576: true; the input reads as it did. -/
def crcAddsUptoRow : OpenClaim := { program := "ytelmkcbakeccoaa", sum := "c95f3ac43c376048bf1d3bc2628b08780b18c4275e1b6c949251c6b7cf3dbc63", func := "sapper/sapperlaw02.CrcAdds", spec := "crcAdds", apart := false, narrowed := true }
def CrcAddsUptoSaid : Prop := crcAddsUptoRow.holds Try.pinned (OpenSpec.upto crcAddsSpec)

/-- 'sapperlaw02.CrcCuts', WHERE WHAT IT READS IS OF BULK AT MOST 1048576: true; the input reads as it did. -/
def crcCutsUptoRow : OpenClaim := { program := "ytelmkcbakeccoaa", sum := "c95f3ac43c376048bf1d3bc2628b08780b18c4275e1b6c949251c6b7cf3dbc63", func := "sapper/sapperlaw02.CrcCuts", spec := "crcCuts", apart := false, narrowed := true }
def CrcCutsUptoSaid : Prop := crcCutsUptoRow.holds Try.pinned (OpenSpec.upto crcCutsSpec)

/-- 'sapperlaw02.CrcTurnsBack', WHERE WHAT IT READS IS OF BULK AT MOST 1048576: true; the input reads as it did. -/
def crcTurnsBackUptoRow : OpenClaim := { program := "ytelmkcbakeccoaa", sum := "c95f3ac43c376048bf1d3bc2628b08780b18c4275e1b6c949251c6b7cf3dbc63", func := "sapper/sapperlaw02.CrcTurnsBack", spec := "crcTurnsBack", apart := false, narrowed := true }
def CrcTurnsBackUptoSaid : Prop := crcTurnsBackUptoRow.holds Try.pinned (OpenSpec.upto crcTurnsBackSpec)

end Rows
end Go.Proofs.Ytelmkcbakeccoaa
