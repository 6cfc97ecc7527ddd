/- A piece of a run: 46. -/
import Derived.Test.YtobdajealbhjmaaGreatDoorKS2
namespace Go.Ai
open Go.Proofs Go.Proofs.YtobdajealbhjmaaGreatDoor Go.RowKit
set_option maxRecDepth 100000
theorem rk46 : chkK (runK 4 Fk Tryz.f3.ntmps c0k 209593 100000 sk46.K (frOf sk46.T) ⟨sk46.H, sk46.nx⟩) sk47 = true := by kernel_rfl
end Go.Ai
/- A piece of a run: 47. -/
namespace Go.Ai
open Go.Proofs Go.Proofs.YtobdajealbhjmaaGreatDoor Go.RowKit
set_option maxRecDepth 100000
theorem rk47 : chkK (runK 4 Fk Tryz.f3.ntmps c0k 214093 100000 sk47.K (frOf sk47.T) ⟨sk47.H, sk47.nx⟩) sk48 = true := by kernel_rfl
end Go.Ai
/- A piece of a run: 48. -/
namespace Go.Ai
open Go.Proofs Go.Proofs.YtobdajealbhjmaaGreatDoor Go.RowKit
set_option maxRecDepth 100000
theorem rk48 : chkK (runK 4 Fk Tryz.f3.ntmps c0k 215788 100000 sk48.K (frOf sk48.T) ⟨sk48.H, sk48.nx⟩) sk49 = true := by kernel_rfl
end Go.Ai
