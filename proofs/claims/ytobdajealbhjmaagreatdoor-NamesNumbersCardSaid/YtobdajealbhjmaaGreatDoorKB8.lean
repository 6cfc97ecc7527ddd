/- A piece of a run: 21. -/
import Derived.Test.YtobdajealbhjmaaGreatDoorKS1
namespace Go.Ai
open Go.Proofs Go.Proofs.YtobdajealbhjmaaGreatDoor Go.RowKit
set_option maxRecDepth 100000
theorem rk21 : chkK (runK 4 Fk Tryz.f3.ntmps c0k 101878 100000 sk21.K (frOf sk21.T) ⟨sk21.H, sk21.nx⟩) sk22 = true := by kernel_rfl
end Go.Ai
/- A piece of a run: 22. -/
namespace Go.Ai
open Go.Proofs Go.Proofs.YtobdajealbhjmaaGreatDoor Go.RowKit
set_option maxRecDepth 100000
theorem rk22 : chkK (runK 4 Fk Tryz.f3.ntmps c0k 108789 100000 sk22.K (frOf sk22.T) ⟨sk22.H, sk22.nx⟩) sk23 = true := by kernel_rfl
end Go.Ai
/- A piece of a run: 23. -/
namespace Go.Ai
open Go.Proofs Go.Proofs.YtobdajealbhjmaaGreatDoor Go.RowKit
set_option maxRecDepth 100000
theorem rk23 : chkK (runK 4 Fk Tryz.f3.ntmps c0k 111987 100000 sk23.K (frOf sk23.T) ⟨sk23.H, sk23.nx⟩) sk24 = true := by kernel_rfl
end Go.Ai
