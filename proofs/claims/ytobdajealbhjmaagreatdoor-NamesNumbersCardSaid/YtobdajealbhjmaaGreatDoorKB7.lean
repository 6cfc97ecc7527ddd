/- A piece of a run: 18. -/
import Derived.Test.YtobdajealbhjmaaGreatDoorKS1
namespace Go.Ai
open Go.Proofs Go.Proofs.YtobdajealbhjmaaGreatDoor Go.RowKit
set_option maxRecDepth 100000
theorem rk18 : chkK (runK 4 Fk Tryz.f3.ntmps c0k 90951 100000 sk18.K (frOf sk18.T) ⟨sk18.H, sk18.nx⟩) sk19 = true := by kernel_rfl
end Go.Ai
/- A piece of a run: 19. -/
namespace Go.Ai
open Go.Proofs Go.Proofs.YtobdajealbhjmaaGreatDoor Go.RowKit
set_option maxRecDepth 100000
theorem rk19 : chkK (runK 4 Fk Tryz.f3.ntmps c0k 92053 100000 sk19.K (frOf sk19.T) ⟨sk19.H, sk19.nx⟩) sk20 = true := by kernel_rfl
end Go.Ai
/- A piece of a run: 20. -/
namespace Go.Ai
open Go.Proofs Go.Proofs.YtobdajealbhjmaaGreatDoor Go.RowKit
set_option maxRecDepth 100000
theorem rk20 : chkK (runK 4 Fk Tryz.f3.ntmps c0k 98713 100000 sk20.K (frOf sk20.T) ⟨sk20.H, sk20.nx⟩) sk21 = true := by kernel_rfl
end Go.Ai
