import Derived.Test.YtddikdpbhjgihaaGreatDoorRows
import Derived.Test.YtddikdpbhjgihaaGreatDoorCards
import Derived.Test.YtddikdpbhjgihaaGreatDoorTie
import Derived.SevenTiedAt
import Derived.KernelRfl
namespace Go.Proofs.YtddikdpbhjgihaaGreatDoor.sharesMatchReference
open Go
theorem k1 : Rows.sharesMatchReferenceRow.wfByText (OpenSpec.ofChange Rows.sharesMatchReferenceSpec) = true := by kernel_rfl
theorem k2 : Tryz.pinned.checked.prog.mainIs = some (true, "0c1b901c0190a54daee567ec3807b73b4924a9984f8a01ed92febe3a55e90134".toList) := by kernel_rfl
theorem k3 : true = Tryz.pinned.checked.prog.looks [] := by kernel_rfl
theorem k4 : false = Rows.sharesMatchReferenceRow.goesBy Tryz.pinned.checked.prog := by kernel_rfl
theorem k5 : ([3, 3, 3, 22, 23, 9, 25, 26].all fun u => !Tryz.prog.wantsStandIn u) = true := by kernel_rfl
theorem k6 : Tryz.prog.funcNamed "observatory/observatorylaw07.SharesMatchReference" = some 3 := by kernel_rfl
theorem card_of (h : Rows.SharesMatchReferenceSaid) : Rows.SharesMatchReferenceCardSaid :=
  Claim7.holds_tied_plain_at .later [] [.data, .data, .data, .data, .pinned] true (true, "0c1b901c0190a54daee567ec3807b73b4924a9984f8a01ed92febe3a55e90134") true h (fun _ h => by cases h) k1 (fun _ h => by cases h) sharesMatchReference_row_tie rfl ⟨rfl, rfl⟩ k2 rfl
    (fun f fn hf hfn => by
      obtain rfl : f = 3 := Option.some.inj (k6.symm.trans hf) |>.symm
      obtain rfl : fn = Tryz.f3 := (Option.some.inj (Tryz.func3.symm.trans hfn)).symm
      exact ⟨k3, fun j t ht => by
        rw [Tryz.params3] at ht
        have hm : t ∈ [3, 3, 3, 22, 23, 9, 25, 26] := by simpa using Array.mem_of_getElem? ht
        exact (show Tryz.prog.wantsStandIn t = false by simpa using List.all_eq_true.1 k5 t hm)⟩)
    k4
end Go.Proofs.YtddikdpbhjgihaaGreatDoor.sharesMatchReference
