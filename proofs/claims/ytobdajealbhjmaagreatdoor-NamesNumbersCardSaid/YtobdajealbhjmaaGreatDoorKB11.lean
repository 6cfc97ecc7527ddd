/- A piece of a run: 31. -/
import Derived.Test.YtobdajealbhjmaaGreatDoorKS1
namespace Go.Ai
open Go.Proofs Go.Proofs.YtobdajealbhjmaaGreatDoor Go.RowKit
set_option maxRecDepth 100000
theorem rk31 : chkK (runK 4 Fk Tryz.f3.ntmps c0k 148619 100000 sk31.K (frOf sk31.T) ⟨sk31.H, sk31.nx⟩) sk32 = true := by kernel_rfl
end Go.Ai
/- A piece of a run: 32. -/
namespace Go.Ai
open Go.Proofs Go.Proofs.YtobdajealbhjmaaGreatDoor Go.RowKit
set_option maxRecDepth 100000
theorem rk32 : chkK (runK 4 Fk Tryz.f3.ntmps c0k 153505 100000 sk32.K (frOf sk32.T) ⟨sk32.H, sk32.nx⟩) sk33 = true := by kernel_rfl
end Go.Ai
/- A piece of a run: 33. -/
namespace Go.Ai
open Go.Proofs Go.Proofs.YtobdajealbhjmaaGreatDoor Go.RowKit
set_option maxRecDepth 100000
theorem rk33 : chkK (runK 4 Fk Tryz.f3.ntmps c0k 157456 100000 sk33.K (frOf sk33.T) ⟨sk33.H, sk33.nx⟩) sk34 = true := by kernel_rfl
end Go.Ai
