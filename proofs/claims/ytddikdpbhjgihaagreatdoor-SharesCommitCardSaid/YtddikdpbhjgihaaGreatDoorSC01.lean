import Derived.Test.YtddikdpbhjgihaaGreatDoorRows
import Derived.JoinedOf
import Derived.KernelRfl
namespace Go.Proofs.YtddikdpbhjgihaaGreatDoor.sharesCommit
open Go
theorem f1 : (Rows.sharesCommitRow.inPlace == Tryz.pinned.checked.prog.inPlace 4) = true := by kernel_rfl
theorem f2 : (Rows.sharesCommitRow.unfollowed == Tryz.pinned.checked.prog.unfollowed 4) = true := by kernel_rfl
theorem f3 : (Rows.sharesCommitRow.recurses == Tryz.pinned.checked.prog.recurses 4) = true := by kernel_rfl
theorem f4 : (Rows.sharesCommitRow.named == Tryz.pinned.checked.prog.varsNamed 4) = true := by kernel_rfl
theorem f5 : Rows.sharesCommitRow.wf (OpenSpec.ofChange Rows.sharesCommitSpec) = true := by kernel_rfl
theorem f6 : laidOutB Tryz.pinned.checked.prog = true := by kernel_rfl
theorem f7 : mapsRowed Tryz.pinned.checked.prog = true := by kernel_rfl
theorem f8 : namedTie Tryz.pinned.checked.prog Rows.sharesCommitRow.named Rows.sharesCommitSpec.vars = true := by kernel_rfl
theorem closed_ : joinedFacts Tryz.pinned.checked.prog 4 Tryz.f4 Rows.sharesCommitSpec Rows.sharesCommitRow = true := by
  unfold joinedFacts
  rw [f1, f2, f3, f4, f5, f6, f7, f8]
  kernel_rfl
end Go.Proofs.YtddikdpbhjgihaaGreatDoor.sharesCommit
