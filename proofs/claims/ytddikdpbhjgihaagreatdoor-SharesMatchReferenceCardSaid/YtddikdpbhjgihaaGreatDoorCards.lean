/-
  DERIVED. GIVEN WITH THE SEED: THE CARDS: each row of YtddikdpbhjgihaaGreatDoorRows.lean that lists a variable, with what it lists TIED to the program's text (the seventh form; the later family's looks); each row that meets fmt, with fmt's text TOLD by the authors' own Lean function (tested against real Go, not proved from fmt's source: count such statements apart). THE CARD IS WHAT COUNTS. Prove the row's statement (the work); the ties are given (YtddikdpbhjgihaaGreatDoorTie.lean); close each card by the builder's one call (the guide's Derived/Test/ToyasCard.lean, 'card_holds'). Laid BY PROGRAM, IN A SANDBOX (cutbox-door.mjs). By AI agents, Wed Nov 11 2026. No macro, syntax, notation, axiom, sorry.
-/
import Derived.Test.YtddikdpbhjgihaaGreatDoorRows
import GoSem.ClaimSeven
namespace Go.Proofs.YtddikdpbhjgihaaGreatDoor
namespace Rows

/-- THE TIED CARD OF 'observatorylaw07.SharesMatchReference'. -/
def sharesMatchReferenceCard : Claim7 := { stood := { row := sharesMatchReferenceRow, standIns := [], harness := (true, "0c1b901c0190a54daee567ec3807b73b4924a9984f8a01ed92febe3a55e90134"), looks := true }, kinds := [], alts := [], laidByText := true, laidKinds := [.data, .data, .data, .data, .pinned], laidTests := true, laidLooks := .later }
def SharesMatchReferenceCardSaid : Prop := Claim7.holds Tryz.pinned (.plain (OpenSpec.ofChange sharesMatchReferenceSpec)) sharesMatchReferenceCard

/-- THE TIED CARD OF 'observatorylaw07.SharesCommit'. -/
def sharesCommitCard : Claim7 := { stood := { row := sharesCommitRow, standIns := [], harness := (true, "0c1b901c0190a54daee567ec3807b73b4924a9984f8a01ed92febe3a55e90134"), looks := true }, kinds := [], alts := [], laidByText := true, laidKinds := [.data, .data, .data, .data, .pinned], laidTests := true, laidLooks := .later }
def SharesCommitCardSaid : Prop := Claim7.holds Tryz.pinned (.plain (OpenSpec.ofChange sharesCommitSpec)) sharesCommitCard

/-- THE TIED CARD OF 'observatorylaw30.KeeperMatchesReference'. -/
def keeperMatchesReferenceCard : Claim7 := { stood := { row := keeperMatchesReferenceRow, standIns := [], harness := (true, "0c1b901c0190a54daee567ec3807b73b4924a9984f8a01ed92febe3a55e90134"), looks := true }, kinds := [], alts := [], laidByText := true, laidKinds := [.data, .data, .data, .data, .pinned], laidTests := true, laidLooks := .later }
def KeeperMatchesReferenceCardSaid : Prop := Claim7.holds Tryz.pinned (.plain (OpenSpec.ofChange keeperMatchesReferenceSpec)) keeperMatchesReferenceCard

/-- THE TIED CARD OF 'observatorylaw30.KeeperDrawsAsReference'. -/
def keeperDrawsAsReferenceCard : Claim7 := { stood := { row := keeperDrawsAsReferenceRow, standIns := [], harness := (true, "0c1b901c0190a54daee567ec3807b73b4924a9984f8a01ed92febe3a55e90134"), looks := true }, kinds := [], alts := [], laidByText := true, laidKinds := [.data, .data, .data, .data, .pinned], laidTests := true, laidLooks := .later }
def KeeperDrawsAsReferenceCardSaid : Prop := Claim7.holds Tryz.pinned (.plain (OpenSpec.ofChange keeperDrawsAsReferenceSpec)) keeperDrawsAsReferenceCard

/-- THE TIED CARD OF 'observatorylaw30.KeeperBinds'. -/
def keeperBindsCard : Claim7 := { stood := { row := keeperBindsRow, standIns := [], harness := (true, "0c1b901c0190a54daee567ec3807b73b4924a9984f8a01ed92febe3a55e90134"), looks := true }, kinds := [], alts := [], laidByText := true, laidKinds := [.data, .data, .data, .data, .pinned], laidTests := true, laidLooks := .later }
def KeeperBindsCardSaid : Prop := Claim7.holds Tryz.pinned (.plain (OpenSpec.ofChange keeperBindsSpec)) keeperBindsCard

/-- THE TIED CARD OF 'observatorylaw30.KeeperDraws'. -/
def keeperDrawsCard : Claim7 := { stood := { row := keeperDrawsRow, standIns := [], harness := (true, "0c1b901c0190a54daee567ec3807b73b4924a9984f8a01ed92febe3a55e90134"), looks := true }, kinds := [], alts := [], laidByText := true, laidKinds := [.data, .data, .data, .data, .pinned], laidTests := true, laidLooks := .later }
def KeeperDrawsCardSaid : Prop := Claim7.holds Tryz.pinned (.plain (OpenSpec.ofChange keeperDrawsSpec)) keeperDrawsCard

/-- THE TIED CARD OF 'observatorylaw30.KeeperRecovers'. -/
def keeperRecoversCard : Claim7 := { stood := { row := keeperRecoversRow, standIns := [], harness := (true, "0c1b901c0190a54daee567ec3807b73b4924a9984f8a01ed92febe3a55e90134"), looks := true }, kinds := [], alts := [], laidByText := true, laidKinds := [.data, .data, .data, .data, .pinned], laidTests := true, laidLooks := .later }
def KeeperRecoversCardSaid : Prop := Claim7.holds Tryz.pinned (.plain (OpenSpec.ofChange keeperRecoversSpec)) keeperRecoversCard

/-- THE TIED CARD OF 'observatorylaw30.KeeperIgnores'. -/
def keeperIgnoresCard : Claim7 := { stood := { row := keeperIgnoresRow, standIns := [], harness := (true, "0c1b901c0190a54daee567ec3807b73b4924a9984f8a01ed92febe3a55e90134"), looks := true }, kinds := [], alts := [], laidByText := true, laidKinds := [.data, .data, .data, .data, .pinned], laidTests := true, laidLooks := .later }
def KeeperIgnoresCardSaid : Prop := Claim7.holds Tryz.pinned (.plain (OpenSpec.ofChange keeperIgnoresSpec)) keeperIgnoresCard

/-- THE TIED CARD OF 'observatorylaw52.BlindingMatchesReference'. -/
def blindingMatchesReferenceCard : Claim7 := { stood := { row := blindingMatchesReferenceRow, standIns := [], harness := (true, "0c1b901c0190a54daee567ec3807b73b4924a9984f8a01ed92febe3a55e90134"), looks := true }, kinds := [], alts := [], laidByText := true, laidKinds := [.data, .data, .data, .data, .sentinel, .sentinel, .pinned], laidTests := true, laidLooks := .later }
def BlindingMatchesReferenceCardSaid : Prop := Claim7.holds Tryz.pinned (.plain (OpenSpec.ofChange blindingMatchesReferenceSpec)) blindingMatchesReferenceCard

/-- THE TIED CARD OF 'observatorylaw52.BlindingBack'. -/
def blindingBackCard : Claim7 := { stood := { row := blindingBackRow, standIns := [], harness := (true, "0c1b901c0190a54daee567ec3807b73b4924a9984f8a01ed92febe3a55e90134"), looks := true }, kinds := [], alts := [], laidByText := true, laidKinds := [.data, .data, .data, .data, .sentinel, .sentinel, .pinned], laidTests := true, laidLooks := .later }
def BlindingBackCardSaid : Prop := Claim7.holds Tryz.pinned (.plain (OpenSpec.ofChange blindingBackSpec)) blindingBackCard

/-- THE TIED CARD OF 'observatorylaw52.BlindingQuorum'. -/
def blindingQuorumCard : Claim7 := { stood := { row := blindingQuorumRow, standIns := [], harness := (true, "0c1b901c0190a54daee567ec3807b73b4924a9984f8a01ed92febe3a55e90134"), looks := true }, kinds := [], alts := [], laidByText := true, laidKinds := [.data, .data, .data, .data, .sentinel, .sentinel, .pinned], laidTests := true, laidLooks := .later }
def BlindingQuorumCardSaid : Prop := Claim7.holds Tryz.pinned (.plain (OpenSpec.ofChange blindingQuorumSpec)) blindingQuorumCard

/-- THE TIED CARD OF 'observatorylaw52.BlindingFalse'. -/
def blindingFalseCard : Claim7 := { stood := { row := blindingFalseRow, standIns := [], harness := (true, "0c1b901c0190a54daee567ec3807b73b4924a9984f8a01ed92febe3a55e90134"), looks := true }, kinds := [], alts := [], laidByText := true, laidKinds := [.data, .data, .data, .data, .sentinel, .sentinel, .pinned], laidTests := true, laidLooks := .later }
def BlindingFalseCardSaid : Prop := Claim7.holds Tryz.pinned (.plain (OpenSpec.ofChange blindingFalseSpec)) blindingFalseCard

/-- THE SECOND FORM's CARD OF 'observatorylaw07.SharesMatchReference'. -/
def sharesMatchReferenceUptoCard : Claim7 := { stood := { row := sharesMatchReferenceUptoRow, standIns := [], harness := (true, "0c1b901c0190a54daee567ec3807b73b4924a9984f8a01ed92febe3a55e90134"), looks := true }, kinds := [], alts := [], laidByText := true, laidKinds := [.data, .data, .data, .data, .pinned], laidTests := true, laidLooks := .later }
def SharesMatchReferenceUptoCardSaid : Prop := Claim7.holds Tryz.pinned (.plain (OpenSpec.upto sharesMatchReferenceSpec)) sharesMatchReferenceUptoCard

/-- THE SECOND FORM's CARD OF 'observatorylaw07.SharesCommit'. -/
def sharesCommitUptoCard : Claim7 := { stood := { row := sharesCommitUptoRow, standIns := [], harness := (true, "0c1b901c0190a54daee567ec3807b73b4924a9984f8a01ed92febe3a55e90134"), looks := true }, kinds := [], alts := [], laidByText := true, laidKinds := [.data, .data, .data, .data, .pinned], laidTests := true, laidLooks := .later }
def SharesCommitUptoCardSaid : Prop := Claim7.holds Tryz.pinned (.plain (OpenSpec.upto sharesCommitSpec)) sharesCommitUptoCard

/-- THE SECOND FORM's CARD OF 'observatorylaw30.KeeperMatchesReference'. -/
def keeperMatchesReferenceUptoCard : Claim7 := { stood := { row := keeperMatchesReferenceUptoRow, standIns := [], harness := (true, "0c1b901c0190a54daee567ec3807b73b4924a9984f8a01ed92febe3a55e90134"), looks := true }, kinds := [], alts := [], laidByText := true, laidKinds := [.data, .data, .data, .data, .pinned], laidTests := true, laidLooks := .later }
def KeeperMatchesReferenceUptoCardSaid : Prop := Claim7.holds Tryz.pinned (.plain (OpenSpec.upto keeperMatchesReferenceSpec)) keeperMatchesReferenceUptoCard

/-- THE SECOND FORM's CARD OF 'observatorylaw30.KeeperDrawsAsReference'. -/
def keeperDrawsAsReferenceUptoCard : Claim7 := { stood := { row := keeperDrawsAsReferenceUptoRow, standIns := [], harness := (true, "0c1b901c0190a54daee567ec3807b73b4924a9984f8a01ed92febe3a55e90134"), looks := true }, kinds := [], alts := [], laidByText := true, laidKinds := [.data, .data, .data, .data, .pinned], laidTests := true, laidLooks := .later }
def KeeperDrawsAsReferenceUptoCardSaid : Prop := Claim7.holds Tryz.pinned (.plain (OpenSpec.upto keeperDrawsAsReferenceSpec)) keeperDrawsAsReferenceUptoCard

/-- THE SECOND FORM's CARD OF 'observatorylaw30.KeeperBinds'. -/
def keeperBindsUptoCard : Claim7 := { stood := { row := keeperBindsUptoRow, standIns := [], harness := (true, "0c1b901c0190a54daee567ec3807b73b4924a9984f8a01ed92febe3a55e90134"), looks := true }, kinds := [], alts := [], laidByText := true, laidKinds := [.data, .data, .data, .data, .pinned], laidTests := true, laidLooks := .later }
def KeeperBindsUptoCardSaid : Prop := Claim7.holds Tryz.pinned (.plain (OpenSpec.upto keeperBindsSpec)) keeperBindsUptoCard

/-- THE SECOND FORM's CARD OF 'observatorylaw30.KeeperDraws'. -/
def keeperDrawsUptoCard : Claim7 := { stood := { row := keeperDrawsUptoRow, standIns := [], harness := (true, "0c1b901c0190a54daee567ec3807b73b4924a9984f8a01ed92febe3a55e90134"), looks := true }, kinds := [], alts := [], laidByText := true, laidKinds := [.data, .data, .data, .data, .pinned], laidTests := true, laidLooks := .later }
def KeeperDrawsUptoCardSaid : Prop := Claim7.holds Tryz.pinned (.plain (OpenSpec.upto keeperDrawsSpec)) keeperDrawsUptoCard

/-- THE SECOND FORM's CARD OF 'observatorylaw30.KeeperRecovers'. -/
def keeperRecoversUptoCard : Claim7 := { stood := { row := keeperRecoversUptoRow, standIns := [], harness := (true, "0c1b901c0190a54daee567ec3807b73b4924a9984f8a01ed92febe3a55e90134"), looks := true }, kinds := [], alts := [], laidByText := true, laidKinds := [.data, .data, .data, .data, .pinned], laidTests := true, laidLooks := .later }
def KeeperRecoversUptoCardSaid : Prop := Claim7.holds Tryz.pinned (.plain (OpenSpec.upto keeperRecoversSpec)) keeperRecoversUptoCard

/-- THE SECOND FORM's CARD OF 'observatorylaw30.KeeperIgnores'. -/
def keeperIgnoresUptoCard : Claim7 := { stood := { row := keeperIgnoresUptoRow, standIns := [], harness := (true, "0c1b901c0190a54daee567ec3807b73b4924a9984f8a01ed92febe3a55e90134"), looks := true }, kinds := [], alts := [], laidByText := true, laidKinds := [.data, .data, .data, .data, .pinned], laidTests := true, laidLooks := .later }
def KeeperIgnoresUptoCardSaid : Prop := Claim7.holds Tryz.pinned (.plain (OpenSpec.upto keeperIgnoresSpec)) keeperIgnoresUptoCard

/-- THE SECOND FORM's CARD OF 'observatorylaw52.BlindingMatchesReference'. -/
def blindingMatchesReferenceUptoCard : Claim7 := { stood := { row := blindingMatchesReferenceUptoRow, standIns := [], harness := (true, "0c1b901c0190a54daee567ec3807b73b4924a9984f8a01ed92febe3a55e90134"), looks := true }, kinds := [], alts := [], laidByText := true, laidKinds := [.data, .data, .data, .data, .sentinel, .sentinel, .pinned], laidTests := true, laidLooks := .later }
def BlindingMatchesReferenceUptoCardSaid : Prop := Claim7.holds Tryz.pinned (.plain (OpenSpec.upto blindingMatchesReferenceSpec)) blindingMatchesReferenceUptoCard

/-- THE SECOND FORM's CARD OF 'observatorylaw52.BlindingBack'. -/
def blindingBackUptoCard : Claim7 := { stood := { row := blindingBackUptoRow, standIns := [], harness := (true, "0c1b901c0190a54daee567ec3807b73b4924a9984f8a01ed92febe3a55e90134"), looks := true }, kinds := [], alts := [], laidByText := true, laidKinds := [.data, .data, .data, .data, .sentinel, .sentinel, .pinned], laidTests := true, laidLooks := .later }
def BlindingBackUptoCardSaid : Prop := Claim7.holds Tryz.pinned (.plain (OpenSpec.upto blindingBackSpec)) blindingBackUptoCard

/-- THE SECOND FORM's CARD OF 'observatorylaw52.BlindingQuorum'. -/
def blindingQuorumUptoCard : Claim7 := { stood := { row := blindingQuorumUptoRow, standIns := [], harness := (true, "0c1b901c0190a54daee567ec3807b73b4924a9984f8a01ed92febe3a55e90134"), looks := true }, kinds := [], alts := [], laidByText := true, laidKinds := [.data, .data, .data, .data, .sentinel, .sentinel, .pinned], laidTests := true, laidLooks := .later }
def BlindingQuorumUptoCardSaid : Prop := Claim7.holds Tryz.pinned (.plain (OpenSpec.upto blindingQuorumSpec)) blindingQuorumUptoCard

/-- THE SECOND FORM's CARD OF 'observatorylaw52.BlindingFalse'. -/
def blindingFalseUptoCard : Claim7 := { stood := { row := blindingFalseUptoRow, standIns := [], harness := (true, "0c1b901c0190a54daee567ec3807b73b4924a9984f8a01ed92febe3a55e90134"), looks := true }, kinds := [], alts := [], laidByText := true, laidKinds := [.data, .data, .data, .data, .sentinel, .sentinel, .pinned], laidTests := true, laidLooks := .later }
def BlindingFalseUptoCardSaid : Prop := Claim7.holds Tryz.pinned (.plain (OpenSpec.upto blindingFalseSpec)) blindingFalseUptoCard
end Rows
end Go.Proofs.YtddikdpbhjgihaaGreatDoor
