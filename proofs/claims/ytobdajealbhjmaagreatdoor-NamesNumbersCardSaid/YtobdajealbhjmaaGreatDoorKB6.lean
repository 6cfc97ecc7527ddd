/- A piece of a run: 15. -/
import Derived.Test.YtobdajealbhjmaaGreatDoorKS1
namespace Go.Ai
open Go.Proofs Go.Proofs.YtobdajealbhjmaaGreatDoor Go.RowKit
set_option maxRecDepth 100000
theorem rk15 : chkK (runK 4 Fk Tryz.f3.ntmps c0k 76024 100000 sk15.K (frOf sk15.T) ⟨sk15.H, sk15.nx⟩) sk16 = true := by kernel_rfl
end Go.Ai
/- A piece of a run: 16. -/
namespace Go.Ai
open Go.Proofs Go.Proofs.YtobdajealbhjmaaGreatDoor Go.RowKit
set_option maxRecDepth 100000
theorem rk16 : chkK (runK 4 Fk Tryz.f3.ntmps c0k 78143 100000 sk16.K (frOf sk16.T) ⟨sk16.H, sk16.nx⟩) sk17 = true := by kernel_rfl
end Go.Ai
/- A piece of a run: 17. -/
namespace Go.Ai
open Go.Proofs Go.Proofs.YtobdajealbhjmaaGreatDoor Go.RowKit
set_option maxRecDepth 100000
theorem rk17 : chkK (runK 4 Fk Tryz.f3.ntmps c0k 87112 100000 sk17.K (frOf sk17.T) ⟨sk17.H, sk17.nx⟩) sk18 = true := by kernel_rfl
end Go.Ai
