/- A piece of a run: 0. -/
import Derived.Test.YtobdajealbhjmaaGreatDoorKS1
namespace Go.Ai
open Go.Proofs Go.Proofs.YtobdajealbhjmaaGreatDoor Go.RowKit
set_option maxRecDepth 100000
theorem rk0 : chkK (runK 4 Fk Tryz.f3.ntmps c0k 5787 100000 sk0.K (frOf sk0.T) ⟨sk0.H, sk0.nx⟩) sk1 = true := by kernel_rfl
end Go.Ai
/- A piece of a run: 1. -/
namespace Go.Ai
open Go.Proofs Go.Proofs.YtobdajealbhjmaaGreatDoor Go.RowKit
set_option maxRecDepth 100000
theorem rk1 : chkK (runK 4 Fk Tryz.f3.ntmps c0k 12114 100000 sk1.K (frOf sk1.T) ⟨sk1.H, sk1.nx⟩) sk2 = true := by kernel_rfl
end Go.Ai
/- A piece of a run: 2. -/
namespace Go.Ai
open Go.Proofs Go.Proofs.YtobdajealbhjmaaGreatDoor Go.RowKit
set_option maxRecDepth 100000
theorem rk2 : chkK (runK 4 Fk Tryz.f3.ntmps c0k 16330 100000 sk2.K (frOf sk2.T) ⟨sk2.H, sk2.nx⟩) sk3 = true := by kernel_rfl
end Go.Ai
