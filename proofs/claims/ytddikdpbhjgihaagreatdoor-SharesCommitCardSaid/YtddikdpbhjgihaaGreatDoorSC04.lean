import Derived.Test.YtddikdpbhjgihaaGreatDoorRows
import Derived.Test.YtddikdpbhjgihaaGreatDoorCards
import Derived.Test.YtddikdpbhjgihaaGreatDoorTie
import Derived.SevenTiedAt
import Derived.KernelRfl
namespace Go.Proofs.YtddikdpbhjgihaaGreatDoor.sharesCommit
open Go
theorem k1 : Rows.sharesCommitRow.wfByText (OpenSpec.ofChange Rows.sharesCommitSpec) = true := by kernel_rfl
theorem k2 : Tryz.pinned.checked.prog.mainIs = some (true, "0c1b901c0190a54daee567ec3807b73b4924a9984f8a01ed92febe3a55e90134".toList) := by kernel_rfl
theorem k3 : true = Tryz.pinned.checked.prog.looks [] := by kernel_rfl
theorem k4 : false = Rows.sharesCommitRow.goesBy Tryz.pinned.checked.prog := by kernel_rfl
theorem k5 : ([3, 22, 5, 5, 5, 25].all fun u => !Tryz.prog.wantsStandIn u) = true := by kernel_rfl
theorem k6 : Tryz.prog.funcNamed "observatory/observatorylaw07.SharesCommit" = some 4 := by kernel_rfl
theorem card_of (h : Rows.SharesCommitSaid) : Rows.SharesCommitCardSaid :=
  Claim7.holds_tied_plain_at .later [] [.data, .data, .data, .data, .pinned] true (true, "0c1b901c0190a54daee567ec3807b73b4924a9984f8a01ed92febe3a55e90134") true h (fun _ h => by cases h) k1 (fun _ h => by cases h) sharesCommit_row_tie rfl ⟨rfl, rfl⟩ k2 rfl
    (fun f fn hf hfn => by
      obtain rfl : f = 4 := Option.some.inj (k6.symm.trans hf) |>.symm
      obtain rfl : fn = Tryz.f4 := (Option.some.inj (Tryz.func4.symm.trans hfn)).symm
      exact ⟨k3, fun j t ht => by
        rw [Tryz.params4] at ht
        have hm : t ∈ [3, 22, 5, 5, 5, 25] := by simpa using Array.mem_of_getElem? ht
        exact (show Tryz.prog.wantsStandIn t = false by simpa using List.all_eq_true.1 k5 t hm)⟩)
    k4
end Go.Proofs.YtddikdpbhjgihaaGreatDoor.sharesCommit
