/- A piece of a run: 37. -/
import Derived.Test.YtobdajealbhjmaaGreatDoorKS2
namespace Go.Ai
open Go.Proofs Go.Proofs.YtobdajealbhjmaaGreatDoor Go.RowKit
set_option maxRecDepth 100000
theorem rk37 : chkK (runK 4 Fk Tryz.f3.ntmps c0k 173203 100000 sk37.K (frOf sk37.T) ⟨sk37.H, sk37.nx⟩) sk38 = true := by kernel_rfl
end Go.Ai
/- A piece of a run: 38. -/
namespace Go.Ai
open Go.Proofs Go.Proofs.YtobdajealbhjmaaGreatDoor Go.RowKit
set_option maxRecDepth 100000
theorem rk38 : chkK (runK 4 Fk Tryz.f3.ntmps c0k 178308 100000 sk38.K (frOf sk38.T) ⟨sk38.H, sk38.nx⟩) sk39 = true := by kernel_rfl
end Go.Ai
/- A piece of a run: 39. -/
namespace Go.Ai
open Go.Proofs Go.Proofs.YtobdajealbhjmaaGreatDoor Go.RowKit
set_option maxRecDepth 100000
theorem rk39 : chkK (runK 4 Fk Tryz.f3.ntmps c0k 181250 100000 sk39.K (frOf sk39.T) ⟨sk39.H, sk39.nx⟩) sk40 = true := by kernel_rfl
end Go.Ai
