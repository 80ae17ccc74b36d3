import Derived.Test.YtddikdpbhjgihaaGreatDoorRows
import Derived.JoinedOf
import Derived.KernelRfl
namespace Go.Proofs.YtddikdpbhjgihaaGreatDoor.sharesMatchReference
open Go
theorem f1 : (Rows.sharesMatchReferenceRow.inPlace == Tryz.pinned.checked.prog.inPlace 3) = true := by kernel_rfl
theorem f2 : (Rows.sharesMatchReferenceRow.unfollowed == Tryz.pinned.checked.prog.unfollowed 3) = true := by kernel_rfl
theorem f3 : (Rows.sharesMatchReferenceRow.recurses == Tryz.pinned.checked.prog.recurses 3) = true := by kernel_rfl
theorem f4 : (Rows.sharesMatchReferenceRow.named == Tryz.pinned.checked.prog.varsNamed 3) = true := by kernel_rfl
theorem f5 : Rows.sharesMatchReferenceRow.wf (OpenSpec.ofChange Rows.sharesMatchReferenceSpec) = true := by kernel_rfl
theorem f6 : laidOutB Tryz.pinned.checked.prog = true := by kernel_rfl
theorem f7 : mapsRowed Tryz.pinned.checked.prog = true := by kernel_rfl
theorem f8 : namedTie Tryz.pinned.checked.prog Rows.sharesMatchReferenceRow.named Rows.sharesMatchReferenceSpec.vars = true := by kernel_rfl
theorem closed_ : joinedFacts Tryz.pinned.checked.prog 3 Tryz.f3 Rows.sharesMatchReferenceSpec Rows.sharesMatchReferenceRow = true := by
  unfold joinedFacts
  rw [f1, f2, f3, f4, f5, f6, f7, f8]
  kernel_rfl
end Go.Proofs.YtddikdpbhjgihaaGreatDoor.sharesMatchReference
