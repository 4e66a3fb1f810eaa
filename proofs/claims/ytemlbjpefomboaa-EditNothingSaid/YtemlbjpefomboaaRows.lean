/-
  No cell of these rows narrows 'for every input' (looked for: loops, veiled, ifaces, maps, wideKeys, modest, calm, conditions, laid).
  DERIVED. THE GIVEN ROWS OF THIS SEAT. 18 by the template 'for every input the law returns true; each argument reads behind the call as it read before'; 0 by the template 'total and deterministic' (their statements: YtemlbjpefomboaaTotals.lean).
  GIVEN WITH THE SEED: the statements are not yours to turn. If you find one false, say at which input.
  Laid BY PROGRAM, IN A SANDBOX (cutbox-rows.mjs): the forced cells as the released guide's own fill.sh prints them over the translation a6015122a8036c80… (all of the seat's roots in one cut). By AI agents, Wed Nov 11 2026. No macro, syntax, notation, axiom, sorry.
-/
import Derived.Test.YtemlbjpefomboaaChecked
import GoSem.Claim
import GoSem.ClaimJoined
import GoSem.ClaimMapViews
import Derived.JoinedTies
import Derived.KernelRfl
namespace Go.Proofs.Ytemlbjpefomboaa
/- THE CELL 'sum', in the pinned program and in every row, IS THE sha256 OF THE DUMP (.gsa) THAT YtemlbjpefomboaaProg.lean LOADS. Nothing in Lean hashes anything: it is a label: what it is worth is what the hold of that sum in a sandbox is worth. -/
noncomputable def Try.pinned : Pinned := { name := "ytemlbjpefomboaa", sum := "a6015122a8036c800b70a368026c1016aee905edfcc3fd951c476dc9bfab33f6", checked := Try.checked }
namespace Rows
def none {H : Type} : Left H := { results := [], args := [] }

/-- 'sapperlaw16.EditNames': WHATEVER THE INPUT: true; the input reads as it did. -/
def editNamesSpec : ChangeSpec := { name := "editNames", fn := fun _ => fun
  | [] => { results := [.lit (.bool true)], args := [] }
  | _ => none }
def editNamesRow : OpenClaim := { program := "ytemlbjpefomboaa", sum := "a6015122a8036c800b70a368026c1016aee905edfcc3fd951c476dc9bfab33f6", func := "sapper/sapperlaw16.EditNames", spec := "editNames", unfollowed := true, recurses := true, apart := false }
def EditNamesSaid : Prop := editNamesRow.holds Try.pinned (OpenSpec.ofChange editNamesSpec)

/-- ITS FALSE NEIGHBOUR: 'it returns false'. Refute it at one input. -/
def editNamesWrong : ChangeSpec := { name := "editNames", fn := fun _ => fun
  | [] => { results := [.lit (.bool false)], args := [] }
  | _ => none }
def EditNamesWrongFalsely : Prop := editNamesRow.holds Try.pinned (OpenSpec.ofChange editNamesWrong)

/-- 'sapperlaw16.EditApplies': WHATEVER THE INPUT: true; the input reads as it did. -/
def editAppliesSpec : ChangeSpec := { name := "editApplies", fn := fun _ => fun
  | [d1, d2] => { results := [.lit (.bool true)], args := [d1, d2] }
  | _ => none }
def editAppliesRow : OpenClaim := { program := "ytemlbjpefomboaa", sum := "a6015122a8036c800b70a368026c1016aee905edfcc3fd951c476dc9bfab33f6", func := "sapper/sapperlaw16.EditApplies", spec := "editApplies", unfollowed := true, recurses := true, apart := false }
def EditAppliesSaid : Prop := editAppliesRow.holds Try.pinned (OpenSpec.ofChange editAppliesSpec)

/-- ITS FALSE NEIGHBOUR: 'it returns false'. Refute it at one input. -/
def editAppliesWrong : ChangeSpec := { name := "editApplies", fn := fun _ => fun
  | [d1, d2] => { results := [.lit (.bool false)], args := [d1, d2] }
  | _ => none }
def EditAppliesWrongFalsely : Prop := editAppliesRow.holds Try.pinned (OpenSpec.ofChange editAppliesWrong)

/-- 'sapperlaw16.EditChecks': WHATEVER THE INPUT: true; the input reads as it did. -/
def editChecksSpec : ChangeSpec := { name := "editChecks", fn := fun _ => fun
  | [d] => { results := [.lit (.bool true)], args := [d] }
  | _ => none }
def editChecksRow : OpenClaim := { program := "ytemlbjpefomboaa", sum := "a6015122a8036c800b70a368026c1016aee905edfcc3fd951c476dc9bfab33f6", func := "sapper/sapperlaw16.EditChecks", spec := "editChecks", unfollowed := true, recurses := true, apart := false }
def EditChecksSaid : Prop := editChecksRow.holds Try.pinned (OpenSpec.ofChange editChecksSpec)

/-- ITS FALSE NEIGHBOUR: 'it returns false'. Refute it at one input. -/
def editChecksWrong : ChangeSpec := { name := "editChecks", fn := fun _ => fun
  | [d] => { results := [.lit (.bool false)], args := [d] }
  | _ => none }
def EditChecksWrongFalsely : Prop := editChecksRow.holds Try.pinned (OpenSpec.ofChange editChecksWrong)

/-- 'sapperlaw16.EditAlikes': WHATEVER THE INPUT: true; the input reads as it did. -/
def editAlikesSpec : ChangeSpec := { name := "editAlikes", fn := fun _ => fun
  | [d1, d2] => { results := [.lit (.bool true)], args := [d1, d2] }
  | _ => none }
def editAlikesRow : OpenClaim := { program := "ytemlbjpefomboaa", sum := "a6015122a8036c800b70a368026c1016aee905edfcc3fd951c476dc9bfab33f6", func := "sapper/sapperlaw16.EditAlikes", spec := "editAlikes", unfollowed := true, recurses := true, apart := false }
def EditAlikesSaid : Prop := editAlikesRow.holds Try.pinned (OpenSpec.ofChange editAlikesSpec)

/-- ITS FALSE NEIGHBOUR: 'it returns false'. Refute it at one input. -/
def editAlikesWrong : ChangeSpec := { name := "editAlikes", fn := fun _ => fun
  | [d1, d2] => { results := [.lit (.bool false)], args := [d1, d2] }
  | _ => none }
def EditAlikesWrongFalsely : Prop := editAlikesRow.holds Try.pinned (OpenSpec.ofChange editAlikesWrong)

/-- 'sapperlaw16.EditTells': WHATEVER THE INPUT: true; the input reads as it did. -/
def editTellsSpec : ChangeSpec := { name := "editTells", fn := fun _ => fun
  | [d] => { results := [.lit (.bool true)], args := [d] }
  | _ => none }
def editTellsRow : OpenClaim := { program := "ytemlbjpefomboaa", sum := "a6015122a8036c800b70a368026c1016aee905edfcc3fd951c476dc9bfab33f6", func := "sapper/sapperlaw16.EditTells", spec := "editTells", unfollowed := true, recurses := true, apart := false }
def EditTellsSaid : Prop := editTellsRow.holds Try.pinned (OpenSpec.ofChange editTellsSpec)

/-- ITS FALSE NEIGHBOUR: 'it returns false'. Refute it at one input. -/
def editTellsWrong : ChangeSpec := { name := "editTells", fn := fun _ => fun
  | [d] => { results := [.lit (.bool false)], args := [d] }
  | _ => none }
def EditTellsWrongFalsely : Prop := editTellsRow.holds Try.pinned (OpenSpec.ofChange editTellsWrong)

/-- 'sapperlaw16.EditReach': WHATEVER THE INPUT: true; the input reads as it did. -/
def editReachSpec : ChangeSpec := { name := "editReach", fn := fun _ => fun
  | [d] => { results := [.lit (.bool true)], args := [d] }
  | _ => none }
def editReachRow : OpenClaim := { program := "ytemlbjpefomboaa", sum := "a6015122a8036c800b70a368026c1016aee905edfcc3fd951c476dc9bfab33f6", func := "sapper/sapperlaw16.EditReach", spec := "editReach", unfollowed := true, recurses := true, apart := false }
def EditReachSaid : Prop := editReachRow.holds Try.pinned (OpenSpec.ofChange editReachSpec)

/-- ITS FALSE NEIGHBOUR: 'it returns false'. Refute it at one input. -/
def editReachWrong : ChangeSpec := { name := "editReach", fn := fun _ => fun
  | [d] => { results := [.lit (.bool false)], args := [d] }
  | _ => none }
def EditReachWrongFalsely : Prop := editReachRow.holds Try.pinned (OpenSpec.ofChange editReachWrong)

/-- 'sapperlaw16.EditMakes': WHATEVER THE INPUT: true; the input reads as it did. -/
def editMakesSpec : ChangeSpec := { name := "editMakes", fn := fun _ => fun
  | [d] => { results := [.lit (.bool true)], args := [d] }
  | _ => none }
def editMakesRow : OpenClaim := { program := "ytemlbjpefomboaa", sum := "a6015122a8036c800b70a368026c1016aee905edfcc3fd951c476dc9bfab33f6", func := "sapper/sapperlaw16.EditMakes", spec := "editMakes", unfollowed := true, recurses := true, apart := false }
def EditMakesSaid : Prop := editMakesRow.holds Try.pinned (OpenSpec.ofChange editMakesSpec)

/-- ITS FALSE NEIGHBOUR: 'it returns false'. Refute it at one input. -/
def editMakesWrong : ChangeSpec := { name := "editMakes", fn := fun _ => fun
  | [d] => { results := [.lit (.bool false)], args := [d] }
  | _ => none }
def EditMakesWrongFalsely : Prop := editMakesRow.holds Try.pinned (OpenSpec.ofChange editMakesWrong)

/-- 'sapperlaw16.EditNormals': WHATEVER THE INPUT: true; the input reads as it did. -/
def editNormalsSpec : ChangeSpec := { name := "editNormals", fn := fun _ => fun
  | [d] => { results := [.lit (.bool true)], args := [d] }
  | _ => none }
def editNormalsRow : OpenClaim := { program := "ytemlbjpefomboaa", sum := "a6015122a8036c800b70a368026c1016aee905edfcc3fd951c476dc9bfab33f6", func := "sapper/sapperlaw16.EditNormals", spec := "editNormals", unfollowed := true, recurses := true, apart := false }
def EditNormalsSaid : Prop := editNormalsRow.holds Try.pinned (OpenSpec.ofChange editNormalsSpec)

/-- ITS FALSE NEIGHBOUR: 'it returns false'. Refute it at one input. -/
def editNormalsWrong : ChangeSpec := { name := "editNormals", fn := fun _ => fun
  | [d] => { results := [.lit (.bool false)], args := [d] }
  | _ => none }
def EditNormalsWrongFalsely : Prop := editNormalsRow.holds Try.pinned (OpenSpec.ofChange editNormalsWrong)

/-- 'sapperlaw16.EditMeans': WHATEVER THE INPUT: true; the input reads as it did. -/
def editMeansSpec : ChangeSpec := { name := "editMeans", fn := fun _ => fun
  | [d] => { results := [.lit (.bool true)], args := [d] }
  | _ => none }
def editMeansRow : OpenClaim := { program := "ytemlbjpefomboaa", sum := "a6015122a8036c800b70a368026c1016aee905edfcc3fd951c476dc9bfab33f6", func := "sapper/sapperlaw16.EditMeans", spec := "editMeans", unfollowed := true, recurses := true, apart := false }
def EditMeansSaid : Prop := editMeansRow.holds Try.pinned (OpenSpec.ofChange editMeansSpec)

/-- ITS FALSE NEIGHBOUR: 'it returns false'. Refute it at one input. -/
def editMeansWrong : ChangeSpec := { name := "editMeans", fn := fun _ => fun
  | [d] => { results := [.lit (.bool false)], args := [d] }
  | _ => none }
def EditMeansWrongFalsely : Prop := editMeansRow.holds Try.pinned (OpenSpec.ofChange editMeansWrong)

/-- 'sapperlaw16.EditReverses': WHATEVER THE INPUT: true; the input reads as it did. -/
def editReversesSpec : ChangeSpec := { name := "editReverses", fn := fun _ => fun
  | [d1, d2] => { results := [.lit (.bool true)], args := [d1, d2] }
  | _ => none }
def editReversesRow : OpenClaim := { program := "ytemlbjpefomboaa", sum := "a6015122a8036c800b70a368026c1016aee905edfcc3fd951c476dc9bfab33f6", func := "sapper/sapperlaw16.EditReverses", spec := "editReverses", unfollowed := true, recurses := true, apart := false }
def EditReversesSaid : Prop := editReversesRow.holds Try.pinned (OpenSpec.ofChange editReversesSpec)

/-- ITS FALSE NEIGHBOUR: 'it returns false'. Refute it at one input. -/
def editReversesWrong : ChangeSpec := { name := "editReverses", fn := fun _ => fun
  | [d1, d2] => { results := [.lit (.bool false)], args := [d1, d2] }
  | _ => none }
def EditReversesWrongFalsely : Prop := editReversesRow.holds Try.pinned (OpenSpec.ofChange editReversesWrong)

/-- 'sapperlaw16.EditNormal': WHATEVER THE INPUT: true; the input reads as it did. -/
def editNormalSpec : ChangeSpec := { name := "editNormal", fn := fun _ => fun
  | [d1, d2] => { results := [.lit (.bool true)], args := [d1, d2] }
  | _ => none }
def editNormalRow : OpenClaim := { program := "ytemlbjpefomboaa", sum := "a6015122a8036c800b70a368026c1016aee905edfcc3fd951c476dc9bfab33f6", func := "sapper/sapperlaw16.EditNormal", spec := "editNormal", unfollowed := true, recurses := true, apart := false }
def EditNormalSaid : Prop := editNormalRow.holds Try.pinned (OpenSpec.ofChange editNormalSpec)

/-- ITS FALSE NEIGHBOUR: 'it returns false'. Refute it at one input. -/
def editNormalWrong : ChangeSpec := { name := "editNormal", fn := fun _ => fun
  | [d1, d2] => { results := [.lit (.bool false)], args := [d1, d2] }
  | _ => none }
def EditNormalWrongFalsely : Prop := editNormalRow.holds Try.pinned (OpenSpec.ofChange editNormalWrong)

/-- 'sapperlaw16.EditComposes': WHATEVER THE INPUT: true; the input reads as it did. -/
def editComposesSpec : ChangeSpec := { name := "editComposes", fn := fun _ => fun
  | [d1, d2] => { results := [.lit (.bool true)], args := [d1, d2] }
  | _ => none }
def editComposesRow : OpenClaim := { program := "ytemlbjpefomboaa", sum := "a6015122a8036c800b70a368026c1016aee905edfcc3fd951c476dc9bfab33f6", func := "sapper/sapperlaw16.EditComposes", spec := "editComposes", unfollowed := true, recurses := true, apart := false }
def EditComposesSaid : Prop := editComposesRow.holds Try.pinned (OpenSpec.ofChange editComposesSpec)

/-- ITS FALSE NEIGHBOUR: 'it returns false'. Refute it at one input. -/
def editComposesWrong : ChangeSpec := { name := "editComposes", fn := fun _ => fun
  | [d1, d2] => { results := [.lit (.bool false)], args := [d1, d2] }
  | _ => none }
def EditComposesWrongFalsely : Prop := editComposesRow.holds Try.pinned (OpenSpec.ofChange editComposesWrong)

/-- 'sapperlaw16.EditChain': WHATEVER THE INPUT: true; the input reads as it did. -/
def editChainSpec : ChangeSpec := { name := "editChain", fn := fun _ => fun
  | [d1, d2, d3] => { results := [.lit (.bool true)], args := [d1, d2, d3] }
  | _ => none }
def editChainRow : OpenClaim := { program := "ytemlbjpefomboaa", sum := "a6015122a8036c800b70a368026c1016aee905edfcc3fd951c476dc9bfab33f6", func := "sapper/sapperlaw16.EditChain", spec := "editChain", unfollowed := true, recurses := true, apart := false }
def EditChainSaid : Prop := editChainRow.holds Try.pinned (OpenSpec.ofChange editChainSpec)

/-- ITS FALSE NEIGHBOUR: 'it returns false'. Refute it at one input. -/
def editChainWrong : ChangeSpec := { name := "editChain", fn := fun _ => fun
  | [d1, d2, d3] => { results := [.lit (.bool false)], args := [d1, d2, d3] }
  | _ => none }
def EditChainWrongFalsely : Prop := editChainRow.holds Try.pinned (OpenSpec.ofChange editChainWrong)

/-- 'sapperlaw16.EditJoins': WHATEVER THE INPUT: true; the input reads as it did. -/
def editJoinsSpec : ChangeSpec := { name := "editJoins", fn := fun _ => fun
  | [d] => { results := [.lit (.bool true)], args := [d] }
  | _ => none }
def editJoinsRow : OpenClaim := { program := "ytemlbjpefomboaa", sum := "a6015122a8036c800b70a368026c1016aee905edfcc3fd951c476dc9bfab33f6", func := "sapper/sapperlaw16.EditJoins", spec := "editJoins", unfollowed := true, recurses := true, apart := false }
def EditJoinsSaid : Prop := editJoinsRow.holds Try.pinned (OpenSpec.ofChange editJoinsSpec)

/-- ITS FALSE NEIGHBOUR: 'it returns false'. Refute it at one input. -/
def editJoinsWrong : ChangeSpec := { name := "editJoins", fn := fun _ => fun
  | [d] => { results := [.lit (.bool false)], args := [d] }
  | _ => none }
def EditJoinsWrongFalsely : Prop := editJoinsRow.holds Try.pinned (OpenSpec.ofChange editJoinsWrong)

/-- 'sapperlaw16.EditGroups': WHATEVER THE INPUT: true; the input reads as it did. -/
def editGroupsSpec : ChangeSpec := { name := "editGroups", fn := fun _ => fun
  | [d] => { results := [.lit (.bool true)], args := [d] }
  | _ => none }
def editGroupsRow : OpenClaim := { program := "ytemlbjpefomboaa", sum := "a6015122a8036c800b70a368026c1016aee905edfcc3fd951c476dc9bfab33f6", func := "sapper/sapperlaw16.EditGroups", spec := "editGroups", unfollowed := true, recurses := true, apart := false }
def EditGroupsSaid : Prop := editGroupsRow.holds Try.pinned (OpenSpec.ofChange editGroupsSpec)

/-- ITS FALSE NEIGHBOUR: 'it returns false'. Refute it at one input. -/
def editGroupsWrong : ChangeSpec := { name := "editGroups", fn := fun _ => fun
  | [d] => { results := [.lit (.bool false)], args := [d] }
  | _ => none }
def EditGroupsWrongFalsely : Prop := editGroupsRow.holds Try.pinned (OpenSpec.ofChange editGroupsWrong)

/-- 'sapperlaw16.EditBack': WHATEVER THE INPUT: true; the input reads as it did. -/
def editBackSpec : ChangeSpec := { name := "editBack", fn := fun _ => fun
  | [d1, d2] => { results := [.lit (.bool true)], args := [d1, d2] }
  | _ => none }
def editBackRow : OpenClaim := { program := "ytemlbjpefomboaa", sum := "a6015122a8036c800b70a368026c1016aee905edfcc3fd951c476dc9bfab33f6", func := "sapper/sapperlaw16.EditBack", spec := "editBack", unfollowed := true, recurses := true, apart := false }
def EditBackSaid : Prop := editBackRow.holds Try.pinned (OpenSpec.ofChange editBackSpec)

/-- ITS FALSE NEIGHBOUR: 'it returns false'. Refute it at one input. -/
def editBackWrong : ChangeSpec := { name := "editBack", fn := fun _ => fun
  | [d1, d2] => { results := [.lit (.bool false)], args := [d1, d2] }
  | _ => none }
def EditBackWrongFalsely : Prop := editBackRow.holds Try.pinned (OpenSpec.ofChange editBackWrong)

/-- 'sapperlaw16.EditNothing': WHATEVER THE INPUT: true; the input reads as it did. -/
def editNothingSpec : ChangeSpec := { name := "editNothing", fn := fun _ => fun
  | [d1, d2] => { results := [.lit (.bool true)], args := [d1, d2] }
  | _ => none }
def editNothingRow : OpenClaim := { program := "ytemlbjpefomboaa", sum := "a6015122a8036c800b70a368026c1016aee905edfcc3fd951c476dc9bfab33f6", func := "sapper/sapperlaw16.EditNothing", spec := "editNothing", unfollowed := true, recurses := true, apart := false }
def EditNothingSaid : Prop := editNothingRow.holds Try.pinned (OpenSpec.ofChange editNothingSpec)

/-- ITS FALSE NEIGHBOUR: 'it returns false'. Refute it at one input. -/
def editNothingWrong : ChangeSpec := { name := "editNothing", fn := fun _ => fun
  | [d1, d2] => { results := [.lit (.bool false)], args := [d1, d2] }
  | _ => none }
def EditNothingWrongFalsely : Prop := editNothingRow.holds Try.pinned (OpenSpec.ofChange editNothingWrong)

/-- 'sapperlaw16.EditRows': WHATEVER THE INPUT: true; the input reads as it did. -/
def editRowsSpec : ChangeSpec := { name := "editRows", fn := fun _ => fun
  | [d1, d2] => { results := [.lit (.bool true)], args := [d1, d2] }
  | _ => none }
def editRowsRow : OpenClaim := { program := "ytemlbjpefomboaa", sum := "a6015122a8036c800b70a368026c1016aee905edfcc3fd951c476dc9bfab33f6", func := "sapper/sapperlaw16.EditRows", spec := "editRows", unfollowed := true, recurses := true, apart := false }
def EditRowsSaid : Prop := editRowsRow.holds Try.pinned (OpenSpec.ofChange editRowsSpec)

/-- ITS FALSE NEIGHBOUR: 'it returns false'. Refute it at one input. -/
def editRowsWrong : ChangeSpec := { name := "editRows", fn := fun _ => fun
  | [d1, d2] => { results := [.lit (.bool false)], args := [d1, d2] }
  | _ => none }
def EditRowsWrongFalsely : Prop := editRowsRow.holds Try.pinned (OpenSpec.ofChange editRowsWrong)

/- THE SECOND FORM. 'bulk': how many values and letters a reading holds, each counted each time it is reached (what is shared counts as often as it is met; a slice's spare places count too). A statement '..UptoSaid' is the law's where the arguments, and the package variables that the reading takes, are together of bulk at most 1048576: NARROWER than '..Said'. Prove '..Said' where nothing that the law and all that it calls make is longer than what came in: it says more and counts as full. Else prove '..UptoSaid'. A law counts once. -/
mutual
def uptoBulk {H : Type} : DataW H → Nat
  | .lit (.string bytes) => bytes.length + 1
  | .lit _ => 1
  | .nil => 1
  | .ptr d => uptoBulk d + 1
  | .slice elems spare => uptoBulkAll elems + uptoBulkAll spare + 1
  | .agg parts => uptoBulkAll parts + 1
  | .iface _ d => uptoBulk d + 1
  | .map entries => uptoBulkEntries entries + 1
  | .held _ => 1
def uptoBulkAll {H : Type} : List (DataW H) → Nat
  | [] => 0
  | d :: r => uptoBulk d + uptoBulkAll r
def uptoBulkEntries {H : Type} : List (Lit × DataW H) → Nat
  | [] => 0
  | x :: r => uptoBulkEntry x + uptoBulkEntries r
def uptoBulkEntry {H : Type} : Lit × DataW H → Nat
  | (.string bytes, d) => bytes.length + uptoBulk d + 1
  | (_, d) => uptoBulk d + 1
 end
def uptoSmall : (H : Type) → List (DataW H) → Bool := fun _ ds => decide (uptoBulkAll ds ≤ 1048576)
def OpenSpec.upto (s : _root_.Go.ChangeSpec) : _root_.Go.OpenSpec := { _root_.Go.OpenSpec.ofChange s with cond := some uptoSmall }

/-- 'sapperlaw16.EditNames', WHERE WHAT IT READS IS OF BULK AT MOST 1048576: true; the input reads as it did. -/
def editNamesUptoRow : OpenClaim := { program := "ytemlbjpefomboaa", sum := "a6015122a8036c800b70a368026c1016aee905edfcc3fd951c476dc9bfab33f6", func := "sapper/sapperlaw16.EditNames", spec := "editNames", unfollowed := true, recurses := true, apart := false, narrowed := true }
def EditNamesUptoSaid : Prop := editNamesUptoRow.holds Try.pinned (OpenSpec.upto editNamesSpec)

/-- 'sapperlaw16.EditApplies', WHERE WHAT IT READS IS OF BULK AT MOST 1048576: true; the input reads as it did. -/
def editAppliesUptoRow : OpenClaim := { program := "ytemlbjpefomboaa", sum := "a6015122a8036c800b70a368026c1016aee905edfcc3fd951c476dc9bfab33f6", func := "sapper/sapperlaw16.EditApplies", spec := "editApplies", unfollowed := true, recurses := true, apart := false, narrowed := true }
def EditAppliesUptoSaid : Prop := editAppliesUptoRow.holds Try.pinned (OpenSpec.upto editAppliesSpec)

/-- 'sapperlaw16.EditChecks', WHERE WHAT IT READS IS OF BULK AT MOST 1048576: true; the input reads as it did. -/
def editChecksUptoRow : OpenClaim := { program := "ytemlbjpefomboaa", sum := "a6015122a8036c800b70a368026c1016aee905edfcc3fd951c476dc9bfab33f6", func := "sapper/sapperlaw16.EditChecks", spec := "editChecks", unfollowed := true, recurses := true, apart := false, narrowed := true }
def EditChecksUptoSaid : Prop := editChecksUptoRow.holds Try.pinned (OpenSpec.upto editChecksSpec)

/-- 'sapperlaw16.EditAlikes', WHERE WHAT IT READS IS OF BULK AT MOST 1048576: true; the input reads as it did. -/
def editAlikesUptoRow : OpenClaim := { program := "ytemlbjpefomboaa", sum := "a6015122a8036c800b70a368026c1016aee905edfcc3fd951c476dc9bfab33f6", func := "sapper/sapperlaw16.EditAlikes", spec := "editAlikes", unfollowed := true, recurses := true, apart := false, narrowed := true }
def EditAlikesUptoSaid : Prop := editAlikesUptoRow.holds Try.pinned (OpenSpec.upto editAlikesSpec)

/-- 'sapperlaw16.EditTells', WHERE WHAT IT READS IS OF BULK AT MOST 1048576: true; the input reads as it did. -/
def editTellsUptoRow : OpenClaim := { program := "ytemlbjpefomboaa", sum := "a6015122a8036c800b70a368026c1016aee905edfcc3fd951c476dc9bfab33f6", func := "sapper/sapperlaw16.EditTells", spec := "editTells", unfollowed := true, recurses := true, apart := false, narrowed := true }
def EditTellsUptoSaid : Prop := editTellsUptoRow.holds Try.pinned (OpenSpec.upto editTellsSpec)

/-- 'sapperlaw16.EditReach', WHERE WHAT IT READS IS OF BULK AT MOST 1048576: true; the input reads as it did. -/
def editReachUptoRow : OpenClaim := { program := "ytemlbjpefomboaa", sum := "a6015122a8036c800b70a368026c1016aee905edfcc3fd951c476dc9bfab33f6", func := "sapper/sapperlaw16.EditReach", spec := "editReach", unfollowed := true, recurses := true, apart := false, narrowed := true }
def EditReachUptoSaid : Prop := editReachUptoRow.holds Try.pinned (OpenSpec.upto editReachSpec)

/-- 'sapperlaw16.EditMakes', WHERE WHAT IT READS IS OF BULK AT MOST 1048576: true; the input reads as it did. -/
def editMakesUptoRow : OpenClaim := { program := "ytemlbjpefomboaa", sum := "a6015122a8036c800b70a368026c1016aee905edfcc3fd951c476dc9bfab33f6", func := "sapper/sapperlaw16.EditMakes", spec := "editMakes", unfollowed := true, recurses := true, apart := false, narrowed := true }
def EditMakesUptoSaid : Prop := editMakesUptoRow.holds Try.pinned (OpenSpec.upto editMakesSpec)

/-- 'sapperlaw16.EditNormals', WHERE WHAT IT READS IS OF BULK AT MOST 1048576: true; the input reads as it did. -/
def editNormalsUptoRow : OpenClaim := { program := "ytemlbjpefomboaa", sum := "a6015122a8036c800b70a368026c1016aee905edfcc3fd951c476dc9bfab33f6", func := "sapper/sapperlaw16.EditNormals", spec := "editNormals", unfollowed := true, recurses := true, apart := false, narrowed := true }
def EditNormalsUptoSaid : Prop := editNormalsUptoRow.holds Try.pinned (OpenSpec.upto editNormalsSpec)

/-- 'sapperlaw16.EditMeans', WHERE WHAT IT READS IS OF BULK AT MOST 1048576: true; the input reads as it did. -/
def editMeansUptoRow : OpenClaim := { program := "ytemlbjpefomboaa", sum := "a6015122a8036c800b70a368026c1016aee905edfcc3fd951c476dc9bfab33f6", func := "sapper/sapperlaw16.EditMeans", spec := "editMeans", unfollowed := true, recurses := true, apart := false, narrowed := true }
def EditMeansUptoSaid : Prop := editMeansUptoRow.holds Try.pinned (OpenSpec.upto editMeansSpec)

/-- 'sapperlaw16.EditReverses', WHERE WHAT IT READS IS OF BULK AT MOST 1048576: true; the input reads as it did. -/
def editReversesUptoRow : OpenClaim := { program := "ytemlbjpefomboaa", sum := "a6015122a8036c800b70a368026c1016aee905edfcc3fd951c476dc9bfab33f6", func := "sapper/sapperlaw16.EditReverses", spec := "editReverses", unfollowed := true, recurses := true, apart := false, narrowed := true }
def EditReversesUptoSaid : Prop := editReversesUptoRow.holds Try.pinned (OpenSpec.upto editReversesSpec)

/-- 'sapperlaw16.EditNormal', WHERE WHAT IT READS IS OF BULK AT MOST 1048576: true; the input reads as it did. -/
def editNormalUptoRow : OpenClaim := { program := "ytemlbjpefomboaa", sum := "a6015122a8036c800b70a368026c1016aee905edfcc3fd951c476dc9bfab33f6", func := "sapper/sapperlaw16.EditNormal", spec := "editNormal", unfollowed := true, recurses := true, apart := false, narrowed := true }
def EditNormalUptoSaid : Prop := editNormalUptoRow.holds Try.pinned (OpenSpec.upto editNormalSpec)

/-- 'sapperlaw16.EditComposes', WHERE WHAT IT READS IS OF BULK AT MOST 1048576: true; the input reads as it did. -/
def editComposesUptoRow : OpenClaim := { program := "ytemlbjpefomboaa", sum := "a6015122a8036c800b70a368026c1016aee905edfcc3fd951c476dc9bfab33f6", func := "sapper/sapperlaw16.EditComposes", spec := "editComposes", unfollowed := true, recurses := true, apart := false, narrowed := true }
def EditComposesUptoSaid : Prop := editComposesUptoRow.holds Try.pinned (OpenSpec.upto editComposesSpec)

/-- 'sapperlaw16.EditChain', WHERE WHAT IT READS IS OF BULK AT MOST 1048576: true; the input reads as it did. -/
def editChainUptoRow : OpenClaim := { program := "ytemlbjpefomboaa", sum := "a6015122a8036c800b70a368026c1016aee905edfcc3fd951c476dc9bfab33f6", func := "sapper/sapperlaw16.EditChain", spec := "editChain", unfollowed := true, recurses := true, apart := false, narrowed := true }
def EditChainUptoSaid : Prop := editChainUptoRow.holds Try.pinned (OpenSpec.upto editChainSpec)

/-- 'sapperlaw16.EditJoins', WHERE WHAT IT READS IS OF BULK AT MOST 1048576: true; the input reads as it did. -/
def editJoinsUptoRow : OpenClaim := { program := "ytemlbjpefomboaa", sum := "a6015122a8036c800b70a368026c1016aee905edfcc3fd951c476dc9bfab33f6", func := "sapper/sapperlaw16.EditJoins", spec := "editJoins", unfollowed := true, recurses := true, apart := false, narrowed := true }
def EditJoinsUptoSaid : Prop := editJoinsUptoRow.holds Try.pinned (OpenSpec.upto editJoinsSpec)

/-- 'sapperlaw16.EditGroups', WHERE WHAT IT READS IS OF BULK AT MOST 1048576: true; the input reads as it did. -/
def editGroupsUptoRow : OpenClaim := { program := "ytemlbjpefomboaa", sum := "a6015122a8036c800b70a368026c1016aee905edfcc3fd951c476dc9bfab33f6", func := "sapper/sapperlaw16.EditGroups", spec := "editGroups", unfollowed := true, recurses := true, apart := false, narrowed := true }
def EditGroupsUptoSaid : Prop := editGroupsUptoRow.holds Try.pinned (OpenSpec.upto editGroupsSpec)

/-- 'sapperlaw16.EditBack', WHERE WHAT IT READS IS OF BULK AT MOST 1048576: true; the input reads as it did. -/
def editBackUptoRow : OpenClaim := { program := "ytemlbjpefomboaa", sum := "a6015122a8036c800b70a368026c1016aee905edfcc3fd951c476dc9bfab33f6", func := "sapper/sapperlaw16.EditBack", spec := "editBack", unfollowed := true, recurses := true, apart := false, narrowed := true }
def EditBackUptoSaid : Prop := editBackUptoRow.holds Try.pinned (OpenSpec.upto editBackSpec)

/-- 'sapperlaw16.EditNothing', WHERE WHAT IT READS IS OF BULK AT MOST 1048576: true; the input reads as it did. -/
def editNothingUptoRow : OpenClaim := { program := "ytemlbjpefomboaa", sum := "a6015122a8036c800b70a368026c1016aee905edfcc3fd951c476dc9bfab33f6", func := "sapper/sapperlaw16.EditNothing", spec := "editNothing", unfollowed := true, recurses := true, apart := false, narrowed := true }
def EditNothingUptoSaid : Prop := editNothingUptoRow.holds Try.pinned (OpenSpec.upto editNothingSpec)

/-- 'sapperlaw16.EditRows', WHERE WHAT IT READS IS OF BULK AT MOST 1048576: true; the input reads as it did. -/
def editRowsUptoRow : OpenClaim := { program := "ytemlbjpefomboaa", sum := "a6015122a8036c800b70a368026c1016aee905edfcc3fd951c476dc9bfab33f6", func := "sapper/sapperlaw16.EditRows", spec := "editRows", unfollowed := true, recurses := true, apart := false, narrowed := true }
def EditRowsUptoSaid : Prop := editRowsUptoRow.holds Try.pinned (OpenSpec.upto editRowsSpec)

end Rows
end Go.Proofs.Ytemlbjpefomboaa
