/- A piece of a run: 49. -/
import Derived.Test.YtobdajealbhjmaaGreatDoorKS2
namespace Go.Ai
open Go.Proofs Go.Proofs.YtobdajealbhjmaaGreatDoor Go.RowKit
set_option maxRecDepth 100000
theorem rk49 : chkK (runK 4 Fk Tryz.f3.ntmps c0k 221498 100000 sk49.K (frOf sk49.T) ⟨sk49.H, sk49.nx⟩) sk50 = true := by kernel_rfl
end Go.Ai
/- A piece of a run: 50. -/
namespace Go.Ai
open Go.Proofs Go.Proofs.YtobdajealbhjmaaGreatDoor Go.RowKit
set_option maxRecDepth 100000
theorem rk50 : chkK (runK 4 Fk Tryz.f3.ntmps c0k 227016 100000 sk50.K (frOf sk50.T) ⟨sk50.H, sk50.nx⟩) sk51 = true := by kernel_rfl
end Go.Ai
/- A piece of a run: 51. -/
namespace Go.Ai
open Go.Proofs Go.Proofs.YtobdajealbhjmaaGreatDoor Go.RowKit
set_option maxRecDepth 100000
theorem rk51 : chkK (runK 4 Fk Tryz.f3.ntmps c0k 231926 100000 sk51.K (frOf sk51.T) ⟨sk51.H, sk51.nx⟩) sk52 = true := by kernel_rfl
end Go.Ai
