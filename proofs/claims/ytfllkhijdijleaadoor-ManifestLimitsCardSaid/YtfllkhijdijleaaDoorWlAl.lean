import Derived.Test.YtfllkhijdijleaaDoorWlX
namespace Go.Proofs.YtfllkhijdijleaaDoor.Wl
set_option maxRecDepth 100000
theorem alive12 : law12_alive = some true := by kernel_rfl
end Go.Proofs.YtfllkhijdijleaaDoor.Wl
