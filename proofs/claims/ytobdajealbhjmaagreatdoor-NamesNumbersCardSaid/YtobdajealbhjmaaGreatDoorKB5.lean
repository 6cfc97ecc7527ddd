/- A piece of a run: 12. -/
import Derived.Test.YtobdajealbhjmaaGreatDoorKS1
namespace Go.Ai
open Go.Proofs Go.Proofs.YtobdajealbhjmaaGreatDoor Go.RowKit
set_option maxRecDepth 100000
theorem rk12 : chkK (runK 4 Fk Tryz.f3.ntmps c0k 64922 100000 sk12.K (frOf sk12.T) ⟨sk12.H, sk12.nx⟩) sk13 = true := by kernel_rfl
end Go.Ai
/- A piece of a run: 13. -/
namespace Go.Ai
open Go.Proofs Go.Proofs.YtobdajealbhjmaaGreatDoor Go.RowKit
set_option maxRecDepth 100000
theorem rk13 : chkK (runK 4 Fk Tryz.f3.ntmps c0k 70182 100000 sk13.K (frOf sk13.T) ⟨sk13.H, sk13.nx⟩) sk14 = true := by kernel_rfl
end Go.Ai
/- A piece of a run: 14. -/
namespace Go.Ai
open Go.Proofs Go.Proofs.YtobdajealbhjmaaGreatDoor Go.RowKit
set_option maxRecDepth 100000
theorem rk14 : chkK (runK 4 Fk Tryz.f3.ntmps c0k 72386 100000 sk14.K (frOf sk14.T) ⟨sk14.H, sk14.nx⟩) sk15 = true := by kernel_rfl
end Go.Ai
