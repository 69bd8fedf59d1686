/- The example of chapter 20, by the kernel. -/
import Derived.Test.YtpdoioeckiiegaaGreatDoorWlX
set_option linter.unusedSimpArgs false
set_option linter.unusedVariables false
set_option maxRecDepth 10000
namespace Go.Proofs.YtpdoioeckiiegaaGreatDoor.Wl
open Go.RowKit Go.Proofs
theorem alive20 : law20_alive = some true := by kernel_rfl
end Go.Proofs.YtpdoioeckiiegaaGreatDoor.Wl
