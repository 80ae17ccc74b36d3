/-
  No cell of these rows narrows 'for every input' (looked for: loops, veiled, ifaces, maps, wideKeys, modest, calm, conditions, laid).
  DERIVED. THE GIVEN ROWS OF THIS SEAT. 12 by the template 'for every input the law returns true; each argument reads behind the call as it read before'; 0 by the template 'total and deterministic' (their statements: YtpeinbibaceheaaTotals.lean).
  GIVEN WITH THE SEED: the statements are not yours to turn. If you find one false, say at which input.
  Laid BY PROGRAM, IN A SANDBOX (cutbox-rows.mjs): the forced cells as the released guide's own fill.sh prints them over the translation 34896b7681bc7713… (all of the seat's roots in one cut). By AI agents, Wed Nov 11 2026. No macro, syntax, notation, axiom, sorry.
-/
import Derived.Test.YtpeinbibaceheaaChecked
import GoSem.Claim
import GoSem.ClaimJoined
import GoSem.ClaimMapViews
import Derived.JoinedTies
import Derived.KernelRfl
namespace Go.Proofs.Ytpeinbibaceheaa
/- THE CELL 'sum', in the pinned program and in every row, IS THE sha256 OF THE DUMP (.gsa) THAT YtpeinbibaceheaaProg.lean LOADS. Nothing in Lean hashes anything: it is a label: what it is worth is what the hold of that sum in a sandbox is worth. -/
noncomputable def Try.pinned : Pinned := { name := "ytpeinbibaceheaa", sum := "34896b7681bc77138d6fa546bb3790de8486d520e51477d4a9232ea4406e653e", checked := Try.checked }
namespace Rows
def none {H : Type} : Left H := { results := [], args := [] }

/-- 'observatorylaw06.FieldMatchesReference': WHATEVER THE INPUT: true; the input reads as it did. -/
def fieldMatchesReferenceSpec : ChangeSpec := { name := "fieldMatchesReference", fn := fun _ => fun
  | [d1, d2, d3, d4, d5] => { results := [.lit (.bool true)], args := [d1, d2, d3, d4, d5] }
  | _ => none }
def fieldMatchesReferenceRow : OpenClaim := { program := "ytpeinbibaceheaa", sum := "34896b7681bc77138d6fa546bb3790de8486d520e51477d4a9232ea4406e653e", func := "observatory/observatorylaw06.FieldMatchesReference", spec := "fieldMatchesReference", unfollowed := true, recurses := true, apart := false }
def FieldMatchesReferenceSaid : Prop := fieldMatchesReferenceRow.holds Try.pinned (OpenSpec.ofChange fieldMatchesReferenceSpec)

/-- ITS FALSE NEIGHBOUR: 'it returns false'. Refute it at one input. -/
def fieldMatchesReferenceWrong : ChangeSpec := { name := "fieldMatchesReference", fn := fun _ => fun
  | [d1, d2, d3, d4, d5] => { results := [.lit (.bool false)], args := [d1, d2, d3, d4, d5] }
  | _ => none }
def FieldMatchesReferenceWrongFalsely : Prop := fieldMatchesReferenceRow.holds Try.pinned (OpenSpec.ofChange fieldMatchesReferenceWrong)

/-- 'observatorylaw06.FieldLaws': WHATEVER THE INPUT: true; the input reads as it did. -/
def fieldLawsSpec : ChangeSpec := { name := "fieldLaws", fn := fun _ => fun
  | [d1, d2, d3] => { results := [.lit (.bool true)], args := [d1, d2, d3] }
  | _ => none }
def fieldLawsRow : OpenClaim := { program := "ytpeinbibaceheaa", sum := "34896b7681bc77138d6fa546bb3790de8486d520e51477d4a9232ea4406e653e", func := "observatory/observatorylaw06.FieldLaws", spec := "fieldLaws", unfollowed := true, recurses := true, apart := false }
def FieldLawsSaid : Prop := fieldLawsRow.holds Try.pinned (OpenSpec.ofChange fieldLawsSpec)

/-- ITS FALSE NEIGHBOUR: 'it returns false'. Refute it at one input. -/
def fieldLawsWrong : ChangeSpec := { name := "fieldLaws", fn := fun _ => fun
  | [d1, d2, d3] => { results := [.lit (.bool false)], args := [d1, d2, d3] }
  | _ => none }
def FieldLawsWrongFalsely : Prop := fieldLawsRow.holds Try.pinned (OpenSpec.ofChange fieldLawsWrong)

/-- 'observatorylaw06.FieldInverts': WHATEVER THE INPUT: true; the input reads as it did. -/
def fieldInvertsSpec : ChangeSpec := { name := "fieldInverts", fn := fun _ => fun
  | [d1, d2] => { results := [.lit (.bool true)], args := [d1, d2] }
  | _ => none }
def fieldInvertsRow : OpenClaim := { program := "ytpeinbibaceheaa", sum := "34896b7681bc77138d6fa546bb3790de8486d520e51477d4a9232ea4406e653e", func := "observatory/observatorylaw06.FieldInverts", spec := "fieldInverts", unfollowed := true, recurses := true, apart := false }
def FieldInvertsSaid : Prop := fieldInvertsRow.holds Try.pinned (OpenSpec.ofChange fieldInvertsSpec)

/-- ITS FALSE NEIGHBOUR: 'it returns false'. Refute it at one input. -/
def fieldInvertsWrong : ChangeSpec := { name := "fieldInverts", fn := fun _ => fun
  | [d1, d2] => { results := [.lit (.bool false)], args := [d1, d2] }
  | _ => none }
def FieldInvertsWrongFalsely : Prop := fieldInvertsRow.holds Try.pinned (OpenSpec.ofChange fieldInvertsWrong)

/-- 'observatorylaw06.FieldValues': WHATEVER THE INPUT: true; the input reads as it did. -/
def fieldValuesSpec : ChangeSpec := { name := "fieldValues", fn := fun _ => fun
  | [d1, d2, d3, d4] => { results := [.lit (.bool true)], args := [d1, d2, d3, d4] }
  | _ => none }
def fieldValuesRow : OpenClaim := { program := "ytpeinbibaceheaa", sum := "34896b7681bc77138d6fa546bb3790de8486d520e51477d4a9232ea4406e653e", func := "observatory/observatorylaw06.FieldValues", spec := "fieldValues", unfollowed := true, recurses := true, apart := false }
def FieldValuesSaid : Prop := fieldValuesRow.holds Try.pinned (OpenSpec.ofChange fieldValuesSpec)

/-- ITS FALSE NEIGHBOUR: 'it returns false'. Refute it at one input. -/
def fieldValuesWrong : ChangeSpec := { name := "fieldValues", fn := fun _ => fun
  | [d1, d2, d3, d4] => { results := [.lit (.bool false)], args := [d1, d2, d3, d4] }
  | _ => none }
def FieldValuesWrongFalsely : Prop := fieldValuesRow.holds Try.pinned (OpenSpec.ofChange fieldValuesWrong)

/-- 'observatorylaw06.FieldInterpolates': WHATEVER THE INPUT: true; the input reads as it did. -/
def fieldInterpolatesSpec : ChangeSpec := { name := "fieldInterpolates", fn := fun _ => fun
  | [d1, d2, d3] => { results := [.lit (.bool true)], args := [d1, d2, d3] }
  | _ => none }
def fieldInterpolatesRow : OpenClaim := { program := "ytpeinbibaceheaa", sum := "34896b7681bc77138d6fa546bb3790de8486d520e51477d4a9232ea4406e653e", func := "observatory/observatorylaw06.FieldInterpolates", spec := "fieldInterpolates", unfollowed := true, recurses := true, apart := false }
def FieldInterpolatesSaid : Prop := fieldInterpolatesRow.holds Try.pinned (OpenSpec.ofChange fieldInterpolatesSpec)

/-- ITS FALSE NEIGHBOUR: 'it returns false'. Refute it at one input. -/
def fieldInterpolatesWrong : ChangeSpec := { name := "fieldInterpolates", fn := fun _ => fun
  | [d1, d2, d3] => { results := [.lit (.bool false)], args := [d1, d2, d3] }
  | _ => none }
def FieldInterpolatesWrongFalsely : Prop := fieldInterpolatesRow.holds Try.pinned (OpenSpec.ofChange fieldInterpolatesWrong)

/-- 'observatorylaw06.FieldThrough': WHATEVER THE INPUT: true; the input reads as it did. -/
def fieldThroughSpec : ChangeSpec := { name := "fieldThrough", fn := fun _ => fun
  | [d1, d2, d3] => { results := [.lit (.bool true)], args := [d1, d2, d3] }
  | _ => none }
def fieldThroughRow : OpenClaim := { program := "ytpeinbibaceheaa", sum := "34896b7681bc77138d6fa546bb3790de8486d520e51477d4a9232ea4406e653e", func := "observatory/observatorylaw06.FieldThrough", spec := "fieldThrough", unfollowed := true, recurses := true, apart := false }
def FieldThroughSaid : Prop := fieldThroughRow.holds Try.pinned (OpenSpec.ofChange fieldThroughSpec)

/-- ITS FALSE NEIGHBOUR: 'it returns false'. Refute it at one input. -/
def fieldThroughWrong : ChangeSpec := { name := "fieldThrough", fn := fun _ => fun
  | [d1, d2, d3] => { results := [.lit (.bool false)], args := [d1, d2, d3] }
  | _ => none }
def FieldThroughWrongFalsely : Prop := fieldThroughRow.holds Try.pinned (OpenSpec.ofChange fieldThroughWrong)

/-- 'observatorylaw06.FieldFurther': WHATEVER THE INPUT: true; the input reads as it did. -/
def fieldFurtherSpec : ChangeSpec := { name := "fieldFurther", fn := fun _ => fun
  | [d1, d2, d3] => { results := [.lit (.bool true)], args := [d1, d2, d3] }
  | _ => none }
def fieldFurtherRow : OpenClaim := { program := "ytpeinbibaceheaa", sum := "34896b7681bc77138d6fa546bb3790de8486d520e51477d4a9232ea4406e653e", func := "observatory/observatorylaw06.FieldFurther", spec := "fieldFurther", unfollowed := true, recurses := true, apart := false }
def FieldFurtherSaid : Prop := fieldFurtherRow.holds Try.pinned (OpenSpec.ofChange fieldFurtherSpec)

/-- ITS FALSE NEIGHBOUR: 'it returns false'. Refute it at one input. -/
def fieldFurtherWrong : ChangeSpec := { name := "fieldFurther", fn := fun _ => fun
  | [d1, d2, d3] => { results := [.lit (.bool false)], args := [d1, d2, d3] }
  | _ => none }
def FieldFurtherWrongFalsely : Prop := fieldFurtherRow.holds Try.pinned (OpenSpec.ofChange fieldFurtherWrong)

/-- 'observatorylaw07.SharesRecover': WHATEVER THE INPUT: true; the input reads as it did. -/
def sharesRecoverSpec : ChangeSpec := { name := "sharesRecover", fn := fun _ => fun
  | [d1, d2, d3, d4, d5] => { results := [.lit (.bool true)], args := [d1, d2, d3, d4, d5] }
  | _ => none }
def sharesRecoverRow : OpenClaim := { program := "ytpeinbibaceheaa", sum := "34896b7681bc77138d6fa546bb3790de8486d520e51477d4a9232ea4406e653e", func := "observatory/observatorylaw07.SharesRecover", spec := "sharesRecover", unfollowed := true, recurses := true, apart := false }
def SharesRecoverSaid : Prop := sharesRecoverRow.holds Try.pinned (OpenSpec.ofChange sharesRecoverSpec)

/-- ITS FALSE NEIGHBOUR: 'it returns false'. Refute it at one input. -/
def sharesRecoverWrong : ChangeSpec := { name := "sharesRecover", fn := fun _ => fun
  | [d1, d2, d3, d4, d5] => { results := [.lit (.bool false)], args := [d1, d2, d3, d4, d5] }
  | _ => none }
def SharesRecoverWrongFalsely : Prop := sharesRecoverRow.holds Try.pinned (OpenSpec.ofChange sharesRecoverWrong)

/-- 'observatorylaw07.SharesDiffer': WHATEVER THE INPUT: true; the input reads as it did. -/
def sharesDifferSpec : ChangeSpec := { name := "sharesDiffer", fn := fun _ => fun
  | [d1, d2, d3, d4, d5, d6] => { results := [.lit (.bool true)], args := [d1, d2, d3, d4, d5, d6] }
  | _ => none }
def sharesDifferRow : OpenClaim := { program := "ytpeinbibaceheaa", sum := "34896b7681bc77138d6fa546bb3790de8486d520e51477d4a9232ea4406e653e", func := "observatory/observatorylaw07.SharesDiffer", spec := "sharesDiffer", unfollowed := true, recurses := true, apart := false }
def SharesDifferSaid : Prop := sharesDifferRow.holds Try.pinned (OpenSpec.ofChange sharesDifferSpec)

/-- ITS FALSE NEIGHBOUR: 'it returns false'. Refute it at one input. -/
def sharesDifferWrong : ChangeSpec := { name := "sharesDiffer", fn := fun _ => fun
  | [d1, d2, d3, d4, d5, d6] => { results := [.lit (.bool false)], args := [d1, d2, d3, d4, d5, d6] }
  | _ => none }
def SharesDifferWrongFalsely : Prop := sharesDifferRow.holds Try.pinned (OpenSpec.ofChange sharesDifferWrong)

/-- 'observatorylaw07.SharesWrong': WHATEVER THE INPUT: true; the input reads as it did. -/
def sharesWrongSpec : ChangeSpec := { name := "sharesWrong", fn := fun _ => fun
  | [d1, d2, d3, d4, d5, d6, d7] => { results := [.lit (.bool true)], args := [d1, d2, d3, d4, d5, d6, d7] }
  | _ => none }
def sharesWrongRow : OpenClaim := { program := "ytpeinbibaceheaa", sum := "34896b7681bc77138d6fa546bb3790de8486d520e51477d4a9232ea4406e653e", func := "observatory/observatorylaw07.SharesWrong", spec := "sharesWrong", unfollowed := true, recurses := true, apart := false }
def SharesWrongSaid : Prop := sharesWrongRow.holds Try.pinned (OpenSpec.ofChange sharesWrongSpec)

/-- ITS FALSE NEIGHBOUR: 'it returns false'. Refute it at one input. -/
def sharesWrongWrong : ChangeSpec := { name := "sharesWrong", fn := fun _ => fun
  | [d1, d2, d3, d4, d5, d6, d7] => { results := [.lit (.bool false)], args := [d1, d2, d3, d4, d5, d6, d7] }
  | _ => none }
def SharesWrongWrongFalsely : Prop := sharesWrongRow.holds Try.pinned (OpenSpec.ofChange sharesWrongWrong)

/-- 'observatorylaw07.SharesAdd': WHATEVER THE INPUT: true; the input reads as it did. -/
def sharesAddSpec : ChangeSpec := { name := "sharesAdd", fn := fun _ => fun
  | [d1, d2, d3, d4, d5, d6] => { results := [.lit (.bool true)], args := [d1, d2, d3, d4, d5, d6] }
  | _ => none }
def sharesAddRow : OpenClaim := { program := "ytpeinbibaceheaa", sum := "34896b7681bc77138d6fa546bb3790de8486d520e51477d4a9232ea4406e653e", func := "observatory/observatorylaw07.SharesAdd", spec := "sharesAdd", unfollowed := true, recurses := true, apart := false }
def SharesAddSaid : Prop := sharesAddRow.holds Try.pinned (OpenSpec.ofChange sharesAddSpec)

/-- ITS FALSE NEIGHBOUR: 'it returns false'. Refute it at one input. -/
def sharesAddWrong : ChangeSpec := { name := "sharesAdd", fn := fun _ => fun
  | [d1, d2, d3, d4, d5, d6] => { results := [.lit (.bool false)], args := [d1, d2, d3, d4, d5, d6] }
  | _ => none }
def SharesAddWrongFalsely : Prop := sharesAddRow.holds Try.pinned (OpenSpec.ofChange sharesAddWrong)

/-- 'observatorylaw07.SharesHide': WHATEVER THE INPUT: true; the input reads as it did. -/
def sharesHideSpec : ChangeSpec := { name := "sharesHide", fn := fun _ => fun
  | [d1, d2, d3, d4, d5, d6] => { results := [.lit (.bool true)], args := [d1, d2, d3, d4, d5, d6] }
  | _ => none }
def sharesHideRow : OpenClaim := { program := "ytpeinbibaceheaa", sum := "34896b7681bc77138d6fa546bb3790de8486d520e51477d4a9232ea4406e653e", func := "observatory/observatorylaw07.SharesHide", spec := "sharesHide", unfollowed := true, recurses := true, apart := false }
def SharesHideSaid : Prop := sharesHideRow.holds Try.pinned (OpenSpec.ofChange sharesHideSpec)

/-- ITS FALSE NEIGHBOUR: 'it returns false'. Refute it at one input. -/
def sharesHideWrong : ChangeSpec := { name := "sharesHide", fn := fun _ => fun
  | [d1, d2, d3, d4, d5, d6] => { results := [.lit (.bool false)], args := [d1, d2, d3, d4, d5, d6] }
  | _ => none }
def SharesHideWrongFalsely : Prop := sharesHideRow.holds Try.pinned (OpenSpec.ofChange sharesHideWrong)

/- THE SECOND FORM. 'bulk': how many values and letters a reading holds, each counted each time it is reached (what is shared counts as often as it is met; a slice's spare places count too). A statement '..UptoSaid' is the law's where the arguments, and the package variables that the reading takes, are together of bulk at most 1048576: NARROWER than '..Said'. Prove '..Said' where nothing that the law and all that it calls make is longer than what came in: it says more and counts as full. Else prove '..UptoSaid'. A law counts once. -/
mutual
def uptoBulk {H : Type} : DataW H → Nat
  | .lit (.string bytes) => bytes.length + 1
  | .lit _ => 1
  | .nil => 1
  | .ptr d => uptoBulk d + 1
  | .slice elems spare => uptoBulkAll elems + uptoBulkAll spare + 1
  | .agg parts => uptoBulkAll parts + 1
  | .iface _ d => uptoBulk d + 1
  | .map entries => uptoBulkEntries entries + 1
  | .held _ => 1
def uptoBulkAll {H : Type} : List (DataW H) → Nat
  | [] => 0
  | d :: r => uptoBulk d + uptoBulkAll r
def uptoBulkEntries {H : Type} : List (Lit × DataW H) → Nat
  | [] => 0
  | x :: r => uptoBulkEntry x + uptoBulkEntries r
def uptoBulkEntry {H : Type} : Lit × DataW H → Nat
  | (.string bytes, d) => bytes.length + uptoBulk d + 1
  | (_, d) => uptoBulk d + 1
 end
def uptoSmall : (H : Type) → List (DataW H) → Bool := fun _ ds => decide (uptoBulkAll ds ≤ 1048576)
def OpenSpec.upto (s : _root_.Go.ChangeSpec) : _root_.Go.OpenSpec := { _root_.Go.OpenSpec.ofChange s with cond := some uptoSmall }

/-- 'observatorylaw06.FieldMatchesReference', WHERE WHAT IT READS IS OF BULK AT MOST 1048576: true; the input reads as it did. -/
def fieldMatchesReferenceUptoRow : OpenClaim := { program := "ytpeinbibaceheaa", sum := "34896b7681bc77138d6fa546bb3790de8486d520e51477d4a9232ea4406e653e", func := "observatory/observatorylaw06.FieldMatchesReference", spec := "fieldMatchesReference", unfollowed := true, recurses := true, apart := false, narrowed := true }
def FieldMatchesReferenceUptoSaid : Prop := fieldMatchesReferenceUptoRow.holds Try.pinned (OpenSpec.upto fieldMatchesReferenceSpec)

/-- 'observatorylaw06.FieldLaws', WHERE WHAT IT READS IS OF BULK AT MOST 1048576: true; the input reads as it did. -/
def fieldLawsUptoRow : OpenClaim := { program := "ytpeinbibaceheaa", sum := "34896b7681bc77138d6fa546bb3790de8486d520e51477d4a9232ea4406e653e", func := "observatory/observatorylaw06.FieldLaws", spec := "fieldLaws", unfollowed := true, recurses := true, apart := false, narrowed := true }
def FieldLawsUptoSaid : Prop := fieldLawsUptoRow.holds Try.pinned (OpenSpec.upto fieldLawsSpec)

/-- 'observatorylaw06.FieldInverts', WHERE WHAT IT READS IS OF BULK AT MOST 1048576: true; the input reads as it did. -/
def fieldInvertsUptoRow : OpenClaim := { program := "ytpeinbibaceheaa", sum := "34896b7681bc77138d6fa546bb3790de8486d520e51477d4a9232ea4406e653e", func := "observatory/observatorylaw06.FieldInverts", spec := "fieldInverts", unfollowed := true, recurses := true, apart := false, narrowed := true }
def FieldInvertsUptoSaid : Prop := fieldInvertsUptoRow.holds Try.pinned (OpenSpec.upto fieldInvertsSpec)

/-- 'observatorylaw06.FieldValues', WHERE WHAT IT READS IS OF BULK AT MOST 1048576: true; the input reads as it did. -/
def fieldValuesUptoRow : OpenClaim := { program := "ytpeinbibaceheaa", sum := "34896b7681bc77138d6fa546bb3790de8486d520e51477d4a9232ea4406e653e", func := "observatory/observatorylaw06.FieldValues", spec := "fieldValues", unfollowed := true, recurses := true, apart := false, narrowed := true }
def FieldValuesUptoSaid : Prop := fieldValuesUptoRow.holds Try.pinned (OpenSpec.upto fieldValuesSpec)

/-- 'observatorylaw06.FieldInterpolates', WHERE WHAT IT READS IS OF BULK AT MOST 1048576: true; the input reads as it did. -/
def fieldInterpolatesUptoRow : OpenClaim := { program := "ytpeinbibaceheaa", sum := "34896b7681bc77138d6fa546bb3790de8486d520e51477d4a9232ea4406e653e", func := "observatory/observatorylaw06.FieldInterpolates", spec := "fieldInterpolates", unfollowed := true, recurses := true, apart := false, narrowed := true }
def FieldInterpolatesUptoSaid : Prop := fieldInterpolatesUptoRow.holds Try.pinned (OpenSpec.upto fieldInterpolatesSpec)

/-- 'observatorylaw06.FieldThrough', WHERE WHAT IT READS IS OF BULK AT MOST 1048576: true; the input reads as it did. -/
def fieldThroughUptoRow : OpenClaim := { program := "ytpeinbibaceheaa", sum := "34896b7681bc77138d6fa546bb3790de8486d520e51477d4a9232ea4406e653e", func := "observatory/observatorylaw06.FieldThrough", spec := "fieldThrough", unfollowed := true, recurses := true, apart := false, narrowed := true }
def FieldThroughUptoSaid : Prop := fieldThroughUptoRow.holds Try.pinned (OpenSpec.upto fieldThroughSpec)

/-- 'observatorylaw06.FieldFurther', WHERE WHAT IT READS IS OF BULK AT MOST 1048576: true; the input reads as it did. -/
def fieldFurtherUptoRow : OpenClaim := { program := "ytpeinbibaceheaa", sum := "34896b7681bc77138d6fa546bb3790de8486d520e51477d4a9232ea4406e653e", func := "observatory/observatorylaw06.FieldFurther", spec := "fieldFurther", unfollowed := true, recurses := true, apart := false, narrowed := true }
def FieldFurtherUptoSaid : Prop := fieldFurtherUptoRow.holds Try.pinned (OpenSpec.upto fieldFurtherSpec)

/-- 'observatorylaw07.SharesRecover', WHERE WHAT IT READS IS OF BULK AT MOST 1048576: true; the input reads as it did. -/
def sharesRecoverUptoRow : OpenClaim := { program := "ytpeinbibaceheaa", sum := "34896b7681bc77138d6fa546bb3790de8486d520e51477d4a9232ea4406e653e", func := "observatory/observatorylaw07.SharesRecover", spec := "sharesRecover", unfollowed := true, recurses := true, apart := false, narrowed := true }
def SharesRecoverUptoSaid : Prop := sharesRecoverUptoRow.holds Try.pinned (OpenSpec.upto sharesRecoverSpec)

/-- 'observatorylaw07.SharesDiffer', WHERE WHAT IT READS IS OF BULK AT MOST 1048576: true; the input reads as it did. -/
def sharesDifferUptoRow : OpenClaim := { program := "ytpeinbibaceheaa", sum := "34896b7681bc77138d6fa546bb3790de8486d520e51477d4a9232ea4406e653e", func := "observatory/observatorylaw07.SharesDiffer", spec := "sharesDiffer", unfollowed := true, recurses := true, apart := false, narrowed := true }
def SharesDifferUptoSaid : Prop := sharesDifferUptoRow.holds Try.pinned (OpenSpec.upto sharesDifferSpec)

/-- 'observatorylaw07.SharesWrong', WHERE WHAT IT READS IS OF BULK AT MOST 1048576: true; the input reads as it did. -/
def sharesWrongUptoRow : OpenClaim := { program := "ytpeinbibaceheaa", sum := "34896b7681bc77138d6fa546bb3790de8486d520e51477d4a9232ea4406e653e", func := "observatory/observatorylaw07.SharesWrong", spec := "sharesWrong", unfollowed := true, recurses := true, apart := false, narrowed := true }
def SharesWrongUptoSaid : Prop := sharesWrongUptoRow.holds Try.pinned (OpenSpec.upto sharesWrongSpec)

/-- 'observatorylaw07.SharesAdd', WHERE WHAT IT READS IS OF BULK AT MOST 1048576: true; the input reads as it did. -/
def sharesAddUptoRow : OpenClaim := { program := "ytpeinbibaceheaa", sum := "34896b7681bc77138d6fa546bb3790de8486d520e51477d4a9232ea4406e653e", func := "observatory/observatorylaw07.SharesAdd", spec := "sharesAdd", unfollowed := true, recurses := true, apart := false, narrowed := true }
def SharesAddUptoSaid : Prop := sharesAddUptoRow.holds Try.pinned (OpenSpec.upto sharesAddSpec)

/-- 'observatorylaw07.SharesHide', WHERE WHAT IT READS IS OF BULK AT MOST 1048576: true; the input reads as it did. -/
def sharesHideUptoRow : OpenClaim := { program := "ytpeinbibaceheaa", sum := "34896b7681bc77138d6fa546bb3790de8486d520e51477d4a9232ea4406e653e", func := "observatory/observatorylaw07.SharesHide", spec := "sharesHide", unfollowed := true, recurses := true, apart := false, narrowed := true }
def SharesHideUptoSaid : Prop := sharesHideUptoRow.holds Try.pinned (OpenSpec.upto sharesHideSpec)

end Rows
end Go.Proofs.Ytpeinbibaceheaa
