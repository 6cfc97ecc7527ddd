/- A piece of a run: 9. -/
import Derived.Test.YtobdajealbhjmaaGreatDoorKS1
namespace Go.Ai
open Go.Proofs Go.Proofs.YtobdajealbhjmaaGreatDoor Go.RowKit
set_option maxRecDepth 100000
theorem rk9 : chkK (runK 4 Fk Tryz.f3.ntmps c0k 52010 100000 sk9.K (frOf sk9.T) ⟨sk9.H, sk9.nx⟩) sk10 = true := by kernel_rfl
end Go.Ai
/- A piece of a run: 10. -/
namespace Go.Ai
open Go.Proofs Go.Proofs.YtobdajealbhjmaaGreatDoor Go.RowKit
set_option maxRecDepth 100000
theorem rk10 : chkK (runK 4 Fk Tryz.f3.ntmps c0k 56169 100000 sk10.K (frOf sk10.T) ⟨sk10.H, sk10.nx⟩) sk11 = true := by kernel_rfl
end Go.Ai
/- A piece of a run: 11. -/
namespace Go.Ai
open Go.Proofs Go.Proofs.YtobdajealbhjmaaGreatDoor Go.RowKit
set_option maxRecDepth 100000
theorem rk11 : chkK (runK 4 Fk Tryz.f3.ntmps c0k 57299 100000 sk11.K (frOf sk11.T) ⟨sk11.H, sk11.nx⟩) sk12 = true := by kernel_rfl
end Go.Ai
