/-
  No cell of these rows narrows 'for every input' (looked for: loops, veiled, ifaces, maps, wideKeys, modest, calm, conditions, laid).
  DERIVED. THE GIVEN ROWS OF THIS SEAT. 12 by the template 'for every input the law returns true; each argument reads behind the call as it read before'; 0 by the template 'total and deterministic' (their statements: YtmfnjmecnhagmaaTotals.lean).
  GIVEN WITH THE SEED: the statements are not yours to turn. If you find one false, say at which input.
  Laid BY PROGRAM, IN A SANDBOX (cutbox-rows.mjs): the forced cells as the released guide's own fill.sh prints them over the translation 97d97ca042f476a9… (all of the seat's roots in one cut). By AI agents, Wed Nov 11 2026. No macro, syntax, notation, axiom, sorry.
-/
import Derived.Test.YtmfnjmecnhagmaaChecked
import GoSem.Claim
import GoSem.ClaimJoined
import GoSem.ClaimMapViews
import Derived.JoinedTies
import Derived.KernelRfl
namespace Go.Proofs.Ytmfnjmecnhagmaa
/- THE CELL 'sum', in the pinned program and in every row, IS THE sha256 OF THE DUMP (.gsa) THAT YtmfnjmecnhagmaaProg.lean LOADS. Nothing in Lean hashes anything: it is a label: what it is worth is what the hold of that sum in a sandbox is worth. -/
noncomputable def Try.pinned : Pinned := { name := "ytmfnjmecnhagmaa", sum := "97d97ca042f476a9ada0e2a101783b2093f27422e524e038b07e5937735bb0c9", checked := Try.checked }
namespace Rows
def none {H : Type} : Left H := { results := [], args := [] }

/-- 'sapperlaw30.VcdTable': WHATEVER THE INPUT: true; the input reads as it did. -/
def vcdTableSpec : ChangeSpec := { name := "vcdTable", fn := fun _ => fun
  | [] => { results := [.lit (.bool true)], args := [] }
  | _ => none }
def vcdTableRow : OpenClaim := { program := "ytmfnjmecnhagmaa", sum := "97d97ca042f476a9ada0e2a101783b2093f27422e524e038b07e5937735bb0c9", func := "sapper/sapperlaw30.VcdTable", spec := "vcdTable", unfollowed := true, recurses := true, plainKeys := false, apart := false }
def VcdTableSaid : Prop := vcdTableRow.holds Try.pinned (OpenSpec.ofChange vcdTableSpec)

/-- ITS FALSE NEIGHBOUR: 'it returns false'. Refute it at one input. -/
def vcdTableWrong : ChangeSpec := { name := "vcdTable", fn := fun _ => fun
  | [] => { results := [.lit (.bool false)], args := [] }
  | _ => none }
def VcdTableWrongFalsely : Prop := vcdTableRow.holds Try.pinned (OpenSpec.ofChange vcdTableWrong)

/-- 'sapperlaw30.VcdEncodes': WHATEVER THE INPUT: true; the input reads as it did. -/
def vcdEncodesSpec : ChangeSpec := { name := "vcdEncodes", fn := fun _ => fun
  | [d1, d2, d3] => { results := [.lit (.bool true)], args := [d1, d2, d3] }
  | _ => none }
def vcdEncodesRow : OpenClaim := { program := "ytmfnjmecnhagmaa", sum := "97d97ca042f476a9ada0e2a101783b2093f27422e524e038b07e5937735bb0c9", func := "sapper/sapperlaw30.VcdEncodes", spec := "vcdEncodes", unfollowed := true, recurses := true, plainKeys := false, apart := false }
def VcdEncodesSaid : Prop := vcdEncodesRow.holds Try.pinned (OpenSpec.ofChange vcdEncodesSpec)

/-- ITS FALSE NEIGHBOUR: 'it returns false'. Refute it at one input. -/
def vcdEncodesWrong : ChangeSpec := { name := "vcdEncodes", fn := fun _ => fun
  | [d1, d2, d3] => { results := [.lit (.bool false)], args := [d1, d2, d3] }
  | _ => none }
def VcdEncodesWrongFalsely : Prop := vcdEncodesRow.holds Try.pinned (OpenSpec.ofChange vcdEncodesWrong)

/-- 'sapperlaw30.VcdCodes': WHATEVER THE INPUT: true; the input reads as it did. -/
def vcdCodesSpec : ChangeSpec := { name := "vcdCodes", fn := fun _ => fun
  | [] => { results := [.lit (.bool true)], args := [] }
  | _ => none }
def vcdCodesRow : OpenClaim := { program := "ytmfnjmecnhagmaa", sum := "97d97ca042f476a9ada0e2a101783b2093f27422e524e038b07e5937735bb0c9", func := "sapper/sapperlaw30.VcdCodes", spec := "vcdCodes", unfollowed := true, recurses := true, plainKeys := false, apart := false }
def VcdCodesSaid : Prop := vcdCodesRow.holds Try.pinned (OpenSpec.ofChange vcdCodesSpec)

/-- ITS FALSE NEIGHBOUR: 'it returns false'. Refute it at one input. -/
def vcdCodesWrong : ChangeSpec := { name := "vcdCodes", fn := fun _ => fun
  | [] => { results := [.lit (.bool false)], args := [] }
  | _ => none }
def VcdCodesWrongFalsely : Prop := vcdCodesRow.holds Try.pinned (OpenSpec.ofChange vcdCodesWrong)

/-- 'sapperlaw30.VcdNames': WHATEVER THE INPUT: true; the input reads as it did. -/
def vcdNamesSpec : ChangeSpec := { name := "vcdNames", fn := fun _ => fun
  | [] => { results := [.lit (.bool true)], args := [] }
  | _ => none }
def vcdNamesRow : OpenClaim := { program := "ytmfnjmecnhagmaa", sum := "97d97ca042f476a9ada0e2a101783b2093f27422e524e038b07e5937735bb0c9", func := "sapper/sapperlaw30.VcdNames", spec := "vcdNames", unfollowed := true, recurses := true, plainKeys := false, apart := false }
def VcdNamesSaid : Prop := vcdNamesRow.holds Try.pinned (OpenSpec.ofChange vcdNamesSpec)

/-- ITS FALSE NEIGHBOUR: 'it returns false'. Refute it at one input. -/
def vcdNamesWrong : ChangeSpec := { name := "vcdNames", fn := fun _ => fun
  | [] => { results := [.lit (.bool false)], args := [] }
  | _ => none }
def VcdNamesWrongFalsely : Prop := vcdNamesRow.holds Try.pinned (OpenSpec.ofChange vcdNamesWrong)

/-- 'sapperlaw30.VcdInts': WHATEVER THE INPUT: true; the input reads as it did. -/
def vcdIntsSpec : ChangeSpec := { name := "vcdInts", fn := fun _ => fun
  | [d1, d2] => { results := [.lit (.bool true)], args := [d1, d2] }
  | _ => none }
def vcdIntsRow : OpenClaim := { program := "ytmfnjmecnhagmaa", sum := "97d97ca042f476a9ada0e2a101783b2093f27422e524e038b07e5937735bb0c9", func := "sapper/sapperlaw30.VcdInts", spec := "vcdInts", unfollowed := true, recurses := true, plainKeys := false, apart := false }
def VcdIntsSaid : Prop := vcdIntsRow.holds Try.pinned (OpenSpec.ofChange vcdIntsSpec)

/-- ITS FALSE NEIGHBOUR: 'it returns false'. Refute it at one input. -/
def vcdIntsWrong : ChangeSpec := { name := "vcdInts", fn := fun _ => fun
  | [d1, d2] => { results := [.lit (.bool false)], args := [d1, d2] }
  | _ => none }
def VcdIntsWrongFalsely : Prop := vcdIntsRow.holds Try.pinned (OpenSpec.ofChange vcdIntsWrong)

/-- 'sapperlaw30.VcdBack': WHATEVER THE INPUT: true; the input reads as it did. -/
def vcdBackSpec : ChangeSpec := { name := "vcdBack", fn := fun _ => fun
  | [d1, d2] => { results := [.lit (.bool true)], args := [d1, d2] }
  | _ => none }
def vcdBackRow : OpenClaim := { program := "ytmfnjmecnhagmaa", sum := "97d97ca042f476a9ada0e2a101783b2093f27422e524e038b07e5937735bb0c9", func := "sapper/sapperlaw30.VcdBack", spec := "vcdBack", unfollowed := true, recurses := true, plainKeys := false, apart := false }
def VcdBackSaid : Prop := vcdBackRow.holds Try.pinned (OpenSpec.ofChange vcdBackSpec)

/-- ITS FALSE NEIGHBOUR: 'it returns false'. Refute it at one input. -/
def vcdBackWrong : ChangeSpec := { name := "vcdBack", fn := fun _ => fun
  | [d1, d2] => { results := [.lit (.bool false)], args := [d1, d2] }
  | _ => none }
def VcdBackWrongFalsely : Prop := vcdBackRow.holds Try.pinned (OpenSpec.ofChange vcdBackWrong)

/-- 'sapperlaw30.VcdCaches': WHATEVER THE INPUT: true; the input reads as it did. -/
def vcdCachesSpec : ChangeSpec := { name := "vcdCaches", fn := fun _ => fun
  | [d] => { results := [.lit (.bool true)], args := [d] }
  | _ => none }
def vcdCachesRow : OpenClaim := { program := "ytmfnjmecnhagmaa", sum := "97d97ca042f476a9ada0e2a101783b2093f27422e524e038b07e5937735bb0c9", func := "sapper/sapperlaw30.VcdCaches", spec := "vcdCaches", unfollowed := true, recurses := true, plainKeys := false, apart := false }
def VcdCachesSaid : Prop := vcdCachesRow.holds Try.pinned (OpenSpec.ofChange vcdCachesSpec)

/-- ITS FALSE NEIGHBOUR: 'it returns false'. Refute it at one input. -/
def vcdCachesWrong : ChangeSpec := { name := "vcdCaches", fn := fun _ => fun
  | [d] => { results := [.lit (.bool false)], args := [d] }
  | _ => none }
def VcdCachesWrongFalsely : Prop := vcdCachesRow.holds Try.pinned (OpenSpec.ofChange vcdCachesWrong)

/-- 'sapperlaw30.VcdNone': WHATEVER THE INPUT: true; the input reads as it did. -/
def vcdNoneSpec : ChangeSpec := { name := "vcdNone", fn := fun _ => fun
  | [d] => { results := [.lit (.bool true)], args := [d] }
  | _ => none }
def vcdNoneRow : OpenClaim := { program := "ytmfnjmecnhagmaa", sum := "97d97ca042f476a9ada0e2a101783b2093f27422e524e038b07e5937735bb0c9", func := "sapper/sapperlaw30.VcdNone", spec := "vcdNone", unfollowed := true, recurses := true, plainKeys := false, apart := false }
def VcdNoneSaid : Prop := vcdNoneRow.holds Try.pinned (OpenSpec.ofChange vcdNoneSpec)

/-- ITS FALSE NEIGHBOUR: 'it returns false'. Refute it at one input. -/
def vcdNoneWrong : ChangeSpec := { name := "vcdNone", fn := fun _ => fun
  | [d] => { results := [.lit (.bool false)], args := [d] }
  | _ => none }
def VcdNoneWrongFalsely : Prop := vcdNoneRow.holds Try.pinned (OpenSpec.ofChange vcdNoneWrong)

/-- 'sapperlaw30.VcdParts': WHATEVER THE INPUT: true; the input reads as it did. -/
def vcdPartsSpec : ChangeSpec := { name := "vcdParts", fn := fun _ => fun
  | [d] => { results := [.lit (.bool true)], args := [d] }
  | _ => none }
def vcdPartsRow : OpenClaim := { program := "ytmfnjmecnhagmaa", sum := "97d97ca042f476a9ada0e2a101783b2093f27422e524e038b07e5937735bb0c9", func := "sapper/sapperlaw30.VcdParts", spec := "vcdParts", unfollowed := true, recurses := true, plainKeys := false, apart := false }
def VcdPartsSaid : Prop := vcdPartsRow.holds Try.pinned (OpenSpec.ofChange vcdPartsSpec)

/-- ITS FALSE NEIGHBOUR: 'it returns false'. Refute it at one input. -/
def vcdPartsWrong : ChangeSpec := { name := "vcdParts", fn := fun _ => fun
  | [d] => { results := [.lit (.bool false)], args := [d] }
  | _ => none }
def VcdPartsWrongFalsely : Prop := vcdPartsRow.holds Try.pinned (OpenSpec.ofChange vcdPartsWrong)

/-- 'sapperlaw30.VcdApplies': WHATEVER THE INPUT: true; the input reads as it did. -/
def vcdAppliesSpec : ChangeSpec := { name := "vcdApplies", fn := fun _ => fun
  | [d1, d2] => { results := [.lit (.bool true)], args := [d1, d2] }
  | _ => none }
def vcdAppliesRow : OpenClaim := { program := "ytmfnjmecnhagmaa", sum := "97d97ca042f476a9ada0e2a101783b2093f27422e524e038b07e5937735bb0c9", func := "sapper/sapperlaw30.VcdApplies", spec := "vcdApplies", unfollowed := true, recurses := true, plainKeys := false, apart := false }
def VcdAppliesSaid : Prop := vcdAppliesRow.holds Try.pinned (OpenSpec.ofChange vcdAppliesSpec)

/-- ITS FALSE NEIGHBOUR: 'it returns false'. Refute it at one input. -/
def vcdAppliesWrong : ChangeSpec := { name := "vcdApplies", fn := fun _ => fun
  | [d1, d2] => { results := [.lit (.bool false)], args := [d1, d2] }
  | _ => none }
def VcdAppliesWrongFalsely : Prop := vcdAppliesRow.holds Try.pinned (OpenSpec.ofChange vcdAppliesWrong)

/-- 'sapperlaw30.VcdSame': WHATEVER THE INPUT: true; the input reads as it did. -/
def vcdSameSpec : ChangeSpec := { name := "vcdSame", fn := fun _ => fun
  | [d1, d2, d3] => { results := [.lit (.bool true)], args := [d1, d2, d3] }
  | _ => none }
def vcdSameRow : OpenClaim := { program := "ytmfnjmecnhagmaa", sum := "97d97ca042f476a9ada0e2a101783b2093f27422e524e038b07e5937735bb0c9", func := "sapper/sapperlaw30.VcdSame", spec := "vcdSame", unfollowed := true, recurses := true, plainKeys := false, apart := false }
def VcdSameSaid : Prop := vcdSameRow.holds Try.pinned (OpenSpec.ofChange vcdSameSpec)

/-- ITS FALSE NEIGHBOUR: 'it returns false'. Refute it at one input. -/
def vcdSameWrong : ChangeSpec := { name := "vcdSame", fn := fun _ => fun
  | [d1, d2, d3] => { results := [.lit (.bool false)], args := [d1, d2, d3] }
  | _ => none }
def VcdSameWrongFalsely : Prop := vcdSameRow.holds Try.pinned (OpenSpec.ofChange vcdSameWrong)

/-- 'sapperlaw30.VcdSums': WHATEVER THE INPUT: true; the input reads as it did. -/
def vcdSumsSpec : ChangeSpec := { name := "vcdSums", fn := fun _ => fun
  | [d1, d2] => { results := [.lit (.bool true)], args := [d1, d2] }
  | _ => none }
def vcdSumsRow : OpenClaim := { program := "ytmfnjmecnhagmaa", sum := "97d97ca042f476a9ada0e2a101783b2093f27422e524e038b07e5937735bb0c9", func := "sapper/sapperlaw30.VcdSums", spec := "vcdSums", unfollowed := true, recurses := true, plainKeys := false, apart := false }
def VcdSumsSaid : Prop := vcdSumsRow.holds Try.pinned (OpenSpec.ofChange vcdSumsSpec)

/-- ITS FALSE NEIGHBOUR: 'it returns false'. Refute it at one input. -/
def vcdSumsWrong : ChangeSpec := { name := "vcdSums", fn := fun _ => fun
  | [d1, d2] => { results := [.lit (.bool false)], args := [d1, d2] }
  | _ => none }
def VcdSumsWrongFalsely : Prop := vcdSumsRow.holds Try.pinned (OpenSpec.ofChange vcdSumsWrong)

/- THE SECOND FORM. 'bulk': how many values and letters a reading holds, each counted each time it is reached (what is shared counts as often as it is met; a slice's spare places count too). A statement '..UptoSaid' is the law's where the arguments, and the package variables that the reading takes, are together of bulk at most 1048576: NARROWER than '..Said'. Prove '..Said' where nothing that the law and all that it calls make is longer than what came in: it says more and counts as full. Else prove '..UptoSaid'. A law counts once. -/
mutual
def uptoBulk {H : Type} : DataW H → Nat
  | .lit (.string bytes) => bytes.length + 1
  | .lit _ => 1
  | .nil => 1
  | .ptr d => uptoBulk d + 1
  | .slice elems spare => uptoBulkAll elems + uptoBulkAll spare + 1
  | .agg parts => uptoBulkAll parts + 1
  | .iface _ d => uptoBulk d + 1
  | .map entries => uptoBulkEntries entries + 1
  | .held _ => 1
def uptoBulkAll {H : Type} : List (DataW H) → Nat
  | [] => 0
  | d :: r => uptoBulk d + uptoBulkAll r
def uptoBulkEntries {H : Type} : List (Lit × DataW H) → Nat
  | [] => 0
  | x :: r => uptoBulkEntry x + uptoBulkEntries r
def uptoBulkEntry {H : Type} : Lit × DataW H → Nat
  | (.string bytes, d) => bytes.length + uptoBulk d + 1
  | (_, d) => uptoBulk d + 1
 end
def uptoSmall : (H : Type) → List (DataW H) → Bool := fun _ ds => decide (uptoBulkAll ds ≤ 1048576)
def OpenSpec.upto (s : _root_.Go.ChangeSpec) : _root_.Go.OpenSpec := { _root_.Go.OpenSpec.ofChange s with cond := some uptoSmall }

/-- 'sapperlaw30.VcdTable', WHERE WHAT IT READS IS OF BULK AT MOST 1048576: true; the input reads as it did. -/
def vcdTableUptoRow : OpenClaim := { program := "ytmfnjmecnhagmaa", sum := "97d97ca042f476a9ada0e2a101783b2093f27422e524e038b07e5937735bb0c9", func := "sapper/sapperlaw30.VcdTable", spec := "vcdTable", unfollowed := true, recurses := true, plainKeys := false, apart := false, narrowed := true }
def VcdTableUptoSaid : Prop := vcdTableUptoRow.holds Try.pinned (OpenSpec.upto vcdTableSpec)

/-- 'sapperlaw30.VcdEncodes', WHERE WHAT IT READS IS OF BULK AT MOST 1048576: true; the input reads as it did. -/
def vcdEncodesUptoRow : OpenClaim := { program := "ytmfnjmecnhagmaa", sum := "97d97ca042f476a9ada0e2a101783b2093f27422e524e038b07e5937735bb0c9", func := "sapper/sapperlaw30.VcdEncodes", spec := "vcdEncodes", unfollowed := true, recurses := true, plainKeys := false, apart := false, narrowed := true }
def VcdEncodesUptoSaid : Prop := vcdEncodesUptoRow.holds Try.pinned (OpenSpec.upto vcdEncodesSpec)

/-- 'sapperlaw30.VcdCodes', WHERE WHAT IT READS IS OF BULK AT MOST 1048576: true; the input reads as it did. -/
def vcdCodesUptoRow : OpenClaim := { program := "ytmfnjmecnhagmaa", sum := "97d97ca042f476a9ada0e2a101783b2093f27422e524e038b07e5937735bb0c9", func := "sapper/sapperlaw30.VcdCodes", spec := "vcdCodes", unfollowed := true, recurses := true, plainKeys := false, apart := false, narrowed := true }
def VcdCodesUptoSaid : Prop := vcdCodesUptoRow.holds Try.pinned (OpenSpec.upto vcdCodesSpec)

/-- 'sapperlaw30.VcdNames', WHERE WHAT IT READS IS OF BULK AT MOST 1048576: true; the input reads as it did. -/
def vcdNamesUptoRow : OpenClaim := { program := "ytmfnjmecnhagmaa", sum := "97d97ca042f476a9ada0e2a101783b2093f27422e524e038b07e5937735bb0c9", func := "sapper/sapperlaw30.VcdNames", spec := "vcdNames", unfollowed := true, recurses := true, plainKeys := false, apart := false, narrowed := true }
def VcdNamesUptoSaid : Prop := vcdNamesUptoRow.holds Try.pinned (OpenSpec.upto vcdNamesSpec)

/-- 'sapperlaw30.VcdInts', WHERE WHAT IT READS IS OF BULK AT MOST 1048576: true; the input reads as it did. -/
def vcdIntsUptoRow : OpenClaim := { program := "ytmfnjmecnhagmaa", sum := "97d97ca042f476a9ada0e2a101783b2093f27422e524e038b07e5937735bb0c9", func := "sapper/sapperlaw30.VcdInts", spec := "vcdInts", unfollowed := true, recurses := true, plainKeys := false, apart := false, narrowed := true }
def VcdIntsUptoSaid : Prop := vcdIntsUptoRow.holds Try.pinned (OpenSpec.upto vcdIntsSpec)

/-- 'sapperlaw30.VcdBack', WHERE WHAT IT READS IS OF BULK AT MOST 1048576: true; the input reads as it did. -/
def vcdBackUptoRow : OpenClaim := { program := "ytmfnjmecnhagmaa", sum := "97d97ca042f476a9ada0e2a101783b2093f27422e524e038b07e5937735bb0c9", func := "sapper/sapperlaw30.VcdBack", spec := "vcdBack", unfollowed := true, recurses := true, plainKeys := false, apart := false, narrowed := true }
def VcdBackUptoSaid : Prop := vcdBackUptoRow.holds Try.pinned (OpenSpec.upto vcdBackSpec)

/-- 'sapperlaw30.VcdCaches', WHERE WHAT IT READS IS OF BULK AT MOST 1048576: true; the input reads as it did. -/
def vcdCachesUptoRow : OpenClaim := { program := "ytmfnjmecnhagmaa", sum := "97d97ca042f476a9ada0e2a101783b2093f27422e524e038b07e5937735bb0c9", func := "sapper/sapperlaw30.VcdCaches", spec := "vcdCaches", unfollowed := true, recurses := true, plainKeys := false, apart := false, narrowed := true }
def VcdCachesUptoSaid : Prop := vcdCachesUptoRow.holds Try.pinned (OpenSpec.upto vcdCachesSpec)

/-- 'sapperlaw30.VcdNone', WHERE WHAT IT READS IS OF BULK AT MOST 1048576: true; the input reads as it did. -/
def vcdNoneUptoRow : OpenClaim := { program := "ytmfnjmecnhagmaa", sum := "97d97ca042f476a9ada0e2a101783b2093f27422e524e038b07e5937735bb0c9", func := "sapper/sapperlaw30.VcdNone", spec := "vcdNone", unfollowed := true, recurses := true, plainKeys := false, apart := false, narrowed := true }
def VcdNoneUptoSaid : Prop := vcdNoneUptoRow.holds Try.pinned (OpenSpec.upto vcdNoneSpec)

/-- 'sapperlaw30.VcdParts', WHERE WHAT IT READS IS OF BULK AT MOST 1048576: true; the input reads as it did. -/
def vcdPartsUptoRow : OpenClaim := { program := "ytmfnjmecnhagmaa", sum := "97d97ca042f476a9ada0e2a101783b2093f27422e524e038b07e5937735bb0c9", func := "sapper/sapperlaw30.VcdParts", spec := "vcdParts", unfollowed := true, recurses := true, plainKeys := false, apart := false, narrowed := true }
def VcdPartsUptoSaid : Prop := vcdPartsUptoRow.holds Try.pinned (OpenSpec.upto vcdPartsSpec)

/-- 'sapperlaw30.VcdApplies', WHERE WHAT IT READS IS OF BULK AT MOST 1048576: true; the input reads as it did. -/
def vcdAppliesUptoRow : OpenClaim := { program := "ytmfnjmecnhagmaa", sum := "97d97ca042f476a9ada0e2a101783b2093f27422e524e038b07e5937735bb0c9", func := "sapper/sapperlaw30.VcdApplies", spec := "vcdApplies", unfollowed := true, recurses := true, plainKeys := false, apart := false, narrowed := true }
def VcdAppliesUptoSaid : Prop := vcdAppliesUptoRow.holds Try.pinned (OpenSpec.upto vcdAppliesSpec)

/-- 'sapperlaw30.VcdSame', WHERE WHAT IT READS IS OF BULK AT MOST 1048576: true; the input reads as it did. -/
def vcdSameUptoRow : OpenClaim := { program := "ytmfnjmecnhagmaa", sum := "97d97ca042f476a9ada0e2a101783b2093f27422e524e038b07e5937735bb0c9", func := "sapper/sapperlaw30.VcdSame", spec := "vcdSame", unfollowed := true, recurses := true, plainKeys := false, apart := false, narrowed := true }
def VcdSameUptoSaid : Prop := vcdSameUptoRow.holds Try.pinned (OpenSpec.upto vcdSameSpec)

/-- 'sapperlaw30.VcdSums', WHERE WHAT IT READS IS OF BULK AT MOST 1048576: true; the input reads as it did. -/
def vcdSumsUptoRow : OpenClaim := { program := "ytmfnjmecnhagmaa", sum := "97d97ca042f476a9ada0e2a101783b2093f27422e524e038b07e5937735bb0c9", func := "sapper/sapperlaw30.VcdSums", spec := "vcdSums", unfollowed := true, recurses := true, plainKeys := false, apart := false, narrowed := true }
def VcdSumsUptoSaid : Prop := vcdSumsUptoRow.holds Try.pinned (OpenSpec.upto vcdSumsSpec)

end Rows
end Go.Proofs.Ytmfnjmecnhagmaa
