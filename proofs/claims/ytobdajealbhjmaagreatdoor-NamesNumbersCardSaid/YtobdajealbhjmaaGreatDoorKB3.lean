/- A piece of a run: 6. -/
import Derived.Test.YtobdajealbhjmaaGreatDoorKS1
namespace Go.Ai
open Go.Proofs Go.Proofs.YtobdajealbhjmaaGreatDoor Go.RowKit
set_option maxRecDepth 100000
theorem rk6 : chkK (runK 4 Fk Tryz.f3.ntmps c0k 35001 100000 sk6.K (frOf sk6.T) ⟨sk6.H, sk6.nx⟩) sk7 = true := by kernel_rfl
end Go.Ai
/- A piece of a run: 7. -/
namespace Go.Ai
open Go.Proofs Go.Proofs.YtobdajealbhjmaaGreatDoor Go.RowKit
set_option maxRecDepth 100000
theorem rk7 : chkK (runK 4 Fk Tryz.f3.ntmps c0k 39335 100000 sk7.K (frOf sk7.T) ⟨sk7.H, sk7.nx⟩) sk8 = true := by kernel_rfl
end Go.Ai
/- A piece of a run: 8. -/
namespace Go.Ai
open Go.Proofs Go.Proofs.YtobdajealbhjmaaGreatDoor Go.RowKit
set_option maxRecDepth 100000
theorem rk8 : chkK (runK 4 Fk Tryz.f3.ntmps c0k 47752 100000 sk8.K (frOf sk8.T) ⟨sk8.H, sk8.nx⟩) sk9 = true := by kernel_rfl
end Go.Ai
