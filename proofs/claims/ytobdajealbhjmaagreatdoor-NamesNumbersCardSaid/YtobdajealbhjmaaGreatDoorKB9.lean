/- A piece of a run: 24. -/
import Derived.Test.YtobdajealbhjmaaGreatDoorKS1
namespace Go.Ai
open Go.Proofs Go.Proofs.YtobdajealbhjmaaGreatDoor Go.RowKit
set_option maxRecDepth 100000
theorem rk24 : chkK (runK 4 Fk Tryz.f3.ntmps c0k 115523 100000 sk24.K (frOf sk24.T) ⟨sk24.H, sk24.nx⟩) sk25 = true := by kernel_rfl
end Go.Ai
/- A piece of a run: 25. -/
namespace Go.Ai
open Go.Proofs Go.Proofs.YtobdajealbhjmaaGreatDoor Go.RowKit
set_option maxRecDepth 100000
theorem rk25 : chkK (runK 4 Fk Tryz.f3.ntmps c0k 116617 100000 sk25.K (frOf sk25.T) ⟨sk25.H, sk25.nx⟩) sk26 = true := by kernel_rfl
end Go.Ai
/- A piece of a run: 26. -/
namespace Go.Ai
open Go.Proofs Go.Proofs.YtobdajealbhjmaaGreatDoor Go.RowKit
set_option maxRecDepth 100000
theorem rk26 : chkK (runK 4 Fk Tryz.f3.ntmps c0k 123217 100000 sk26.K (frOf sk26.T) ⟨sk26.H, sk26.nx⟩) sk27 = true := by kernel_rfl
end Go.Ai
