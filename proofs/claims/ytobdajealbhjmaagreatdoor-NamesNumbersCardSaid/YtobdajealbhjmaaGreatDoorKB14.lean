/- A piece of a run: 40. -/
import Derived.Test.YtobdajealbhjmaaGreatDoorKS2
namespace Go.Ai
open Go.Proofs Go.Proofs.YtobdajealbhjmaaGreatDoor Go.RowKit
set_option maxRecDepth 100000
theorem rk40 : chkK (runK 4 Fk Tryz.f3.ntmps c0k 184802 100000 sk40.K (frOf sk40.T) ⟨sk40.H, sk40.nx⟩) sk41 = true := by kernel_rfl
end Go.Ai
/- A piece of a run: 41. -/
namespace Go.Ai
open Go.Proofs Go.Proofs.YtobdajealbhjmaaGreatDoor Go.RowKit
set_option maxRecDepth 100000
theorem rk41 : chkK (runK 4 Fk Tryz.f3.ntmps c0k 189828 100000 sk41.K (frOf sk41.T) ⟨sk41.H, sk41.nx⟩) sk42 = true := by kernel_rfl
end Go.Ai
/- A piece of a run: 42. -/
namespace Go.Ai
open Go.Proofs Go.Proofs.YtobdajealbhjmaaGreatDoor Go.RowKit
set_option maxRecDepth 100000
theorem rk42 : chkK (runK 4 Fk Tryz.f3.ntmps c0k 193003 100000 sk42.K (frOf sk42.T) ⟨sk42.H, sk42.nx⟩) sk43 = true := by kernel_rfl
end Go.Ai
