/- The closed facts of the row, one by one. -/
import Derived.Test.YtfmngaligboglaaGreatDoorXST
import Derived.Test.YtfmngaligboglaaGreatDoorRows
import Derived.WideRow
import Derived.WalkKit
import Derived.ProofKit
import Derived.OpenShut
import Derived.ChangeOld
import Derived.Below
import Derived.MakeChecks
namespace Go.Ai
open Go.Proofs Go.Proofs.YtfmngaligboglaaGreatDoor Go.RowKit
theorem j1 : (Rows.storeNoneRow.inPlace == Tryz.prog.inPlace 3) = true := by kernel_rfl
theorem j2 : (Rows.storeNoneRow.unfollowed == Tryz.prog.unfollowed 3) = true := by kernel_rfl
theorem j3 : (Rows.storeNoneRow.recurses == Tryz.prog.recurses 3) = true := by kernel_rfl
theorem j4 : (Rows.storeNoneRow.named == Tryz.prog.varsNamed 3) = true := by kernel_rfl
theorem j5 : Rows.storeNoneRow.wf (OpenSpec.ofChange Rows.storeNoneSpec) = true := by kernel_rfl
theorem j6 : laidOutB Tryz.prog = true := by kernel_rfl
theorem j7 : mapsRowed Tryz.prog = true := by kernel_rfl
theorem j8 : namedTie Tryz.prog Rows.storeNoneRow.named Rows.storeNoneSpec.vars = true := by kernel_rfl
theorem j9 : (Rows.storeNoneRow.lifted == Tryz.prog.liftsFinal) = true := by kernel_rfl
theorem joined : joinedFacts Tryz.prog 3 Tryz.f3 Rows.storeNoneSpec Rows.storeNoneRow = true := by
  unfold joinedFacts
  rw [j1, j2, j3, j4, j5, j6, j7, j8, j9]
  kernel_rfl
end Go.Ai
