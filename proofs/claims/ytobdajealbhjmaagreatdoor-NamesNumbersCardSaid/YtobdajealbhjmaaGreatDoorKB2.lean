/- A piece of a run: 3. -/
import Derived.Test.YtobdajealbhjmaaGreatDoorKS1
namespace Go.Ai
open Go.Proofs Go.Proofs.YtobdajealbhjmaaGreatDoor Go.RowKit
set_option maxRecDepth 100000
theorem rk3 : chkK (runK 4 Fk Tryz.f3.ntmps c0k 19870 100000 sk3.K (frOf sk3.T) ⟨sk3.H, sk3.nx⟩) sk4 = true := by kernel_rfl
end Go.Ai
/- A piece of a run: 4. -/
namespace Go.Ai
open Go.Proofs Go.Proofs.YtobdajealbhjmaaGreatDoor Go.RowKit
set_option maxRecDepth 100000
theorem rk4 : chkK (runK 4 Fk Tryz.f3.ntmps c0k 26173 100000 sk4.K (frOf sk4.T) ⟨sk4.H, sk4.nx⟩) sk5 = true := by kernel_rfl
end Go.Ai
/- A piece of a run: 5. -/
namespace Go.Ai
open Go.Proofs Go.Proofs.YtobdajealbhjmaaGreatDoor Go.RowKit
set_option maxRecDepth 100000
theorem rk5 : chkK (runK 4 Fk Tryz.f3.ntmps c0k 30238 100000 sk5.K (frOf sk5.T) ⟨sk5.H, sk5.nx⟩) sk6 = true := by kernel_rfl
end Go.Ai
