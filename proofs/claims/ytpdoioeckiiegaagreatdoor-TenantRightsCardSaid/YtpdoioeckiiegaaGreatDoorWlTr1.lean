/- TenantRights: the flash behind the setting up, by the kernel. -/
import Derived.Test.YtpdoioeckiiegaaGreatDoorWlTr0
set_option linter.unusedSimpArgs false
set_option linter.unusedVariables false
set_option maxRecDepth 10000
namespace Go.Proofs.YtpdoioeckiiegaaGreatDoor.Wl
open Go.RowKit Go.Proofs
theorem new20 : nor_New 8 = some f20 := by kernel_rfl
theorem prog19 : progS f20 1280 img20 = (0, F19) := by
  rw [progS_ok f20 1280 img20 rfl (by decide) (Nat.le_of_ble_eq_true (by kernel_rfl)) (by kernel_rfl)]
  kernel_rfl
theorem prog20 : progS F19 0 (dl cell20) = (0, F20) := by
  rw [progS_ok F19 0 (dl cell20) rfl (by decide) (Nat.le_of_ble_eq_true (by kernel_rfl)) (by kernel_rfl)]
  kernel_rfl
theorem smay20 : slot_May ⟨0, 8, 5⟩ 0 0 2 f20 = some true := by kernel_rfl
theorem blank20 : area_Area_Blank ⟨0, 8, 5⟩ 4 f20 = some true := by kernel_rfl
theorem find19 : ring_find ⟨0, 8, 5⟩ F19 = some (0, 0, [], false) := by kernel_rfl
theorem rmay19 : ring_May ⟨0, 8, 5⟩ F19 = some true := by kernel_rfl
theorem next19 : ring_Next ⟨0, 8, 5⟩ F19 = some 0 := by kernel_rfl
theorem blank19 : area_Area_Blank ⟨0, 8, 5⟩ 0 F19 = some true := by kernel_rfl
theorem last20 : ring_Last ⟨0, 8, 5⟩ F20 = some (1, [0] ++ ([0, 0, 0, 1, 0, 0, 0, 11] ++ (sum20.l ++ List.replicate 115 0)), true) := by kernel_rfl
end Go.Proofs.YtpdoioeckiiegaaGreatDoor.Wl
