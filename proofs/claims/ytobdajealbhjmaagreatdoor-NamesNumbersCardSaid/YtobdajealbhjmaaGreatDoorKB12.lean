/- A piece of a run: 34. -/
import Derived.Test.YtobdajealbhjmaaGreatDoorKS1
namespace Go.Ai
open Go.Proofs Go.Proofs.YtobdajealbhjmaaGreatDoor Go.RowKit
set_option maxRecDepth 100000
theorem rk34 : chkK (runK 4 Fk Tryz.f3.ntmps c0k 159128 100000 sk34.K (frOf sk34.T) ⟨sk34.H, sk34.nx⟩) sk35 = true := by kernel_rfl
end Go.Ai
/- A piece of a run: 35. -/
namespace Go.Ai
open Go.Proofs Go.Proofs.YtobdajealbhjmaaGreatDoor Go.RowKit
set_option maxRecDepth 100000
theorem rk35 : chkK (runK 4 Fk Tryz.f3.ntmps c0k 164561 100000 sk35.K (frOf sk35.T) ⟨sk35.H, sk35.nx⟩) sk36 = true := by kernel_rfl
end Go.Ai
/- A piece of a run: 36. -/
namespace Go.Ai
open Go.Proofs Go.Proofs.YtobdajealbhjmaaGreatDoor Go.RowKit
set_option maxRecDepth 100000
theorem rk36 : chkK (runK 4 Fk Tryz.f3.ntmps c0k 167572 100000 sk36.K (frOf sk36.T) ⟨sk36.H, sk36.nx⟩) sk37 = true := by kernel_rfl
end Go.Ai
