/- A piece of a run: 52. -/
import Derived.Test.YtobdajealbhjmaaGreatDoorKS2
namespace Go.Ai
open Go.Proofs Go.Proofs.YtobdajealbhjmaaGreatDoor Go.RowKit
set_option maxRecDepth 100000
theorem rk52 : chkK (runK 4 Fk Tryz.f3.ntmps c0k 238114 100000 sk52.K (frOf sk52.T) ⟨sk52.H, sk52.nx⟩) sk53 = true := by kernel_rfl
end Go.Ai
/- A piece of a run: 53. -/
namespace Go.Ai
open Go.Proofs Go.Proofs.YtobdajealbhjmaaGreatDoor Go.RowKit
set_option maxRecDepth 100000
theorem rk53 : chkK (runK 4 Fk Tryz.f3.ntmps c0k 243757 100000 sk53.K (frOf sk53.T) ⟨sk53.H, sk53.nx⟩) sk54 = true := by kernel_rfl
end Go.Ai
/- A piece of a run: 54. -/
namespace Go.Ai
open Go.Proofs Go.Proofs.YtobdajealbhjmaaGreatDoor Go.RowKit
set_option maxRecDepth 100000
theorem rk54 : chkK (runK 4 Fk Tryz.f3.ntmps c0k 249404 100000 sk54.K (frOf sk54.T) ⟨sk54.H, sk54.nx⟩) sk55 = true := by kernel_rfl
end Go.Ai
