/- TenantRights: what each request comes to, by the kernel. -/
import Derived.Test.YtpdoioeckiiegaaGreatDoorWlTr0
set_option linter.unusedSimpArgs false
set_option linter.unusedVariables false
set_option maxRecDepth 10000
namespace Go.Proofs.YtpdoioeckiiegaaGreatDoor.Wl
open Go.RowKit Go.Proofs
def fa20 : FactS := ⟨false, false, Arr.zero 0 32, false⟩
def fb20 : FactS := ⟨false, false, ⟨[227, 176, 196, 66, 152, 252, 28, 20, 154, 251, 244, 200, 153, 111, 185, 36, 39, 174, 65, 228, 100, 155, 147, 76, 164, 149, 153, 27, 120, 82, 184, 85], rfl⟩, false⟩
theorem fact20_1 (rights : Int) : tenant_Tenant_fact (T20 rights) ⟨1, 0, []⟩ F20 = some fa20 := by kernel_rfl
theorem upd20_1 : update_Do M20 ⟨1, 0, []⟩ fa20 2 = some (M20, ⟨6, 0, 0⟩) := by kernel_rfl
theorem fact20_2 (rights : Int) : tenant_Tenant_fact (T20 rights) ⟨2, 0, []⟩ F20 = some fa20 := by kernel_rfl
theorem upd20_2 : update_Do M20 ⟨2, 0, []⟩ fa20 2 = some (M20, ⟨11, 0, 0⟩) := by kernel_rfl
theorem fact20_3 (rights : Int) : tenant_Tenant_fact (T20 rights) ⟨3, 0, []⟩ F20 = some fb20 := by kernel_rfl
theorem upd20_3 : update_Do M20 ⟨3, 0, []⟩ fb20 2 = some (M20, ⟨11, 0, 0⟩) := by kernel_rfl
theorem fact20_4 (rights : Int) : tenant_Tenant_fact (T20 rights) ⟨4, 0, []⟩ F20 = some fa20 := by kernel_rfl
theorem upd20_4 : update_Do M20 ⟨4, 0, []⟩ fa20 2 = some (M20, ⟨11, 0, 0⟩) := by kernel_rfl
theorem fact20_5 (rights : Int) : tenant_Tenant_fact (T20 rights) ⟨5, 0, []⟩ F20 = some fa20 := by kernel_rfl
theorem upd20_5 : update_Do M20 ⟨5, 0, []⟩ fa20 2 = some (M20, ⟨0, 0, 0⟩) := by kernel_rfl
theorem fact20_6 (rights : Int) : tenant_Tenant_fact (T20 rights) ⟨6, 0, []⟩ F20 = some fa20 := by kernel_rfl
theorem upd20_6 : update_Do M20 ⟨6, 0, []⟩ fa20 2 = some (M20, ⟨11, 0, 0⟩) := by kernel_rfl
theorem fact20_7 (rights : Int) : tenant_Tenant_fact (T20 rights) ⟨7, 0, []⟩ F20 = some fa20 := by kernel_rfl
theorem upd20_7 : update_Do M20 ⟨7, 0, []⟩ fa20 2 = some (M20, ⟨11, 0, 0⟩) := by kernel_rfl
theorem fact20_8 (rights : Int) : tenant_Tenant_fact (T20 rights) ⟨8, 0, []⟩ F20 = some fa20 := by kernel_rfl
theorem upd20_8 : update_Do M20 ⟨8, 0, []⟩ fa20 2 = some (M20, ⟨11, 0, 0⟩) := by kernel_rfl
theorem fact20_9 (rights : Int) : tenant_Tenant_fact (T20 rights) ⟨9, 0, []⟩ F20 = some fa20 := by kernel_rfl
theorem upd20_9 : update_Do M20 ⟨9, 0, []⟩ fa20 2 = some (M20, ⟨0, 0, 0⟩) := by kernel_rfl
end Go.Proofs.YtpdoioeckiiegaaGreatDoor.Wl
