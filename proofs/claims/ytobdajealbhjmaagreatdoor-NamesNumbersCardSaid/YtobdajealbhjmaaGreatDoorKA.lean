/- A call within a piece of a run, remembered: 30. -/
import Derived.Test.YtobdajealbhjmaaGreatDoorAg
import Derived.Test.YtobdajealbhjmaaGreatDoorKS1
namespace Go.Ai
open Go.Proofs Go.Proofs.YtobdajealbhjmaaGreatDoor Go.RowKit
set_option maxRecDepth 100000
theorem mk30 : chkT (Fk.ca 117 [.p 151 0, i6 5, i6 1, .ag [.sl 136491 0 69 69 true, .sl 136493 0 8 8 true, i6 0]] ⟨hk30a, 136558⟩) (.tu [.p 136764 0, i6 0]) hk30b 141733 = true := by kernel_rfl
noncomputable def gk30 : List AV → Heap → Option (AV × Heap) := memoT [.p 151 0, i6 5, i6 1, .ag [.sl 136491 0 69 69 true, .sl 136493 0 8 8 true, i6 0]] hk30a 136558 (.tu [.p 136764 0, i6 0]) hk30b 141733
noncomputable def Fk30 : Fns := fnsQ Tryz.prog 4 20 1000000 (sumsOf ((117, gk30) :: listE 4 20)) 3000
end Go.Ai
/- A piece of a run: 30. -/
namespace Go.Ai
open Go.Proofs Go.Proofs.YtobdajealbhjmaaGreatDoor Go.RowKit
set_option maxRecDepth 100000
theorem rk30 : chkK (runK 4 Fk30 Tryz.f3.ntmps c0k 146511 100000 sk30.K (frOf sk30.T) ⟨sk30.H, sk30.nx⟩) sk31 = true := by kernel_rfl
end Go.Ai
