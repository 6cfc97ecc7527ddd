/- A piece of a run: 55. -/
import Derived.Test.YtobdajealbhjmaaGreatDoorKS2
namespace Go.Ai
open Go.Proofs Go.Proofs.YtobdajealbhjmaaGreatDoor Go.RowKit
set_option maxRecDepth 100000
theorem rk55 : endK Tryz.prog Tryz.f3.results.toList (.b true) (runK 4 Fk Tryz.f3.ntmps c0k 1000000000 100000 sk55.K (frOf sk55.T) ⟨sk55.H, sk55.nx⟩) = true := by kernel_rfl
end Go.Ai
