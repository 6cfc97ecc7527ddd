import Derived.Test.YtfjjoaihhafenaaGreatDoorCWN
import Derived.Test.YtfjjoaihhafenaaGreatDoorRows
import Derived.WideRow
import Derived.WalkKit
import Derived.ProofKit
import Derived.OpenShut
import Derived.ChangeOld
import Derived.Below
import Derived.MakeChecks
namespace Go.Ai
open Go.Proofs Go.Proofs.YtfjjoaihhafenaaGreatDoor Go.RowKit
set_option profiler true
theorem j1 : (Rows.walkNoneRow.inPlace == Tryz.prog.inPlace 3) = true := by kernel_rfl
theorem j2 : (Rows.walkNoneRow.unfollowed == Tryz.prog.unfollowed 3) = true := by kernel_rfl
theorem j3 : (Rows.walkNoneRow.recurses == Tryz.prog.recurses 3) = true := by kernel_rfl
theorem j4 : (Rows.walkNoneRow.named == Tryz.prog.varsNamed 3) = true := by kernel_rfl
theorem j5 : Rows.walkNoneRow.wf (OpenSpec.ofChange Rows.walkNoneSpec) = true := by kernel_rfl
theorem j6 : laidOutB Tryz.prog = true := by kernel_rfl
theorem j7 : mapsRowed Tryz.prog = true := by kernel_rfl
theorem j8 : namedTie Tryz.prog Rows.walkNoneRow.named Rows.walkNoneSpec.vars = true := by kernel_rfl
theorem j9 : (Rows.walkNoneRow.lifted == Tryz.prog.liftsFinal) = true := by kernel_rfl
theorem joined : joinedFacts Tryz.prog 3 Tryz.f3 Rows.walkNoneSpec Rows.walkNoneRow = true := by
  unfold joinedFacts
  rw [j1, j2, j3, j4, j5, j6, j7, j8, j9]
  kernel_rfl
end Go.Ai
