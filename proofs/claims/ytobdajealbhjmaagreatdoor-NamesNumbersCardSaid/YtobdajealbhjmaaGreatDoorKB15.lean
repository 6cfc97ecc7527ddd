/- A piece of a run: 43. -/
import Derived.Test.YtobdajealbhjmaaGreatDoorKS2
namespace Go.Ai
open Go.Proofs Go.Proofs.YtobdajealbhjmaaGreatDoor Go.RowKit
set_option maxRecDepth 100000
theorem rk43 : chkK (runK 4 Fk Tryz.f3.ntmps c0k 197022 100000 sk43.K (frOf sk43.T) ⟨sk43.H, sk43.nx⟩) sk44 = true := by kernel_rfl
end Go.Ai
/- A piece of a run: 44. -/
namespace Go.Ai
open Go.Proofs Go.Proofs.YtobdajealbhjmaaGreatDoor Go.RowKit
set_option maxRecDepth 100000
theorem rk44 : chkK (runK 4 Fk Tryz.f3.ntmps c0k 201959 100000 sk44.K (frOf sk44.T) ⟨sk44.H, sk44.nx⟩) sk45 = true := by kernel_rfl
end Go.Ai
/- A piece of a run: 45. -/
namespace Go.Ai
open Go.Proofs Go.Proofs.YtobdajealbhjmaaGreatDoor Go.RowKit
set_option maxRecDepth 100000
theorem rk45 : chkK (runK 4 Fk Tryz.f3.ntmps c0k 205846 100000 sk45.K (frOf sk45.T) ⟨sk45.H, sk45.nx⟩) sk46 = true := by kernel_rfl
end Go.Ai
