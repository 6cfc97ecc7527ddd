/- A piece of a run: 27. -/
import Derived.Test.YtobdajealbhjmaaGreatDoorKS1
namespace Go.Ai
open Go.Proofs Go.Proofs.YtobdajealbhjmaaGreatDoor Go.RowKit
set_option maxRecDepth 100000
theorem rk27 : chkK (runK 4 Fk Tryz.f3.ntmps c0k 129317 100000 sk27.K (frOf sk27.T) ⟨sk27.H, sk27.nx⟩) sk28 = true := by kernel_rfl
end Go.Ai
/- A piece of a run: 28. -/
namespace Go.Ai
open Go.Proofs Go.Proofs.YtobdajealbhjmaaGreatDoor Go.RowKit
set_option maxRecDepth 100000
theorem rk28 : chkK (runK 4 Fk Tryz.f3.ntmps c0k 132905 100000 sk28.K (frOf sk28.T) ⟨sk28.H, sk28.nx⟩) sk29 = true := by kernel_rfl
end Go.Ai
/- A piece of a run: 29. -/
namespace Go.Ai
open Go.Proofs Go.Proofs.YtobdajealbhjmaaGreatDoor Go.RowKit
set_option maxRecDepth 100000
theorem rk29 : chkK (runK 4 Fk Tryz.f3.ntmps c0k 136230 100000 sk29.K (frOf sk29.T) ⟨sk29.H, sk29.nx⟩) sk30 = true := by kernel_rfl
end Go.Ai
