/- TenantRights: what lies on the flash. -/
import Derived.Test.YtpdoioeckiiegaaGreatDoorWlPl
import Derived.Test.YtpdoioeckiiegaaGreatDoorWlPf
import Derived.Test.YtpdoioeckiiegaaGreatDoorWlX
set_option linter.unusedSimpArgs false
set_option linter.unusedVariables false
set_option maxRecDepth 10000
namespace Go.Proofs.YtpdoioeckiiegaaGreatDoor.Wl
open Go.RowKit Go.Proofs
theorem may_eq (c : CapS) (k : Int) : caps_May c k = some (decide (k ≥ 1) && decide (k ≤ 9) && (iand (ishr c.Rights k) 1 == 1)) := by
  unfold caps_May
  simp only [bnd_def, jn_def, and_def]
  by_cases h1 : k ≥ 1 <;> by_cases h2 : k ≤ 9
  · rw [chk_t (by simp; omega)]
    simp only [and_def]
  all_goals simp [h1, h2]
/-- What lies on the flash behind the setting up. -/
def dl (l : List UInt8) : List UInt8 := l.flatMap fun x => [x, x ^^^ 255]
def sum20 : Arr UInt8 32 := ⟨[251, 69, 22, 181, 9, 70, 8, 91, 209, 93, 104, 7, 209, 82, 108, 150, 122, 253, 250, 229, 9, 166, 8, 139, 120, 23, 133, 59, 172, 155, 237, 12], rfl⟩
def cell20 : List UInt8 := [0, 0, 0, 1, 0, 0, 0, 0, 1, 0, 0, 0, 11] ++ (sum20.l ++ List.replicate 115 0)
def img20 : List UInt8 := [102, 105, 114, 115, 116, 32, 105, 109, 97, 103, 101]
def f20 : FlashS := ⟨List.replicate 2560 255, List.replicate 8 0, -1, [], false, 0⟩
def F19 : FlashS := ⟨List.replicate 1280 255 ++ (img20 ++ List.replicate 1269 255), List.replicate 8 0, -1, [], false, 1⟩
def F20 : FlashS := ⟨dl cell20 ++ (List.replicate 960 255 ++ (img20 ++ List.replicate 1269 255)), List.replicate 8 0, -1, [], false, 2⟩
def M20 : MetaS := { (MetaS.zero : MetaS) with Have := (Arr.set MetaS.zero.Have 0 (⟨1, 11, sum20⟩ : Img)) }
def c20 (rights : Int) : Config := ⟨[206, 177, 98], [107, 101, 121], 2, 5, 2, rights, img20⟩
theorem config20 : law20_config 5 = some (c20 1022) := rfl
theorem valid20 : names_Valid [206, 177, 98] = some true := by kernel_rfl
theorem right20 (rights : Int) (h0 : 0 ≤ rights) (h1 : rights ≤ 1023) : caps_Right (c20 rights) = some true := by
  unfold caps_Right c20
  simp only [bnd_def, jn_def, and_def, valid20, Option.bind_some]
  have e1 : decide (rights ≥ 0) = true := by simpa using h0
  have e2 : decide (rights ≤ 1023) = true := by simpa using h1
  rw [e1, e2]
  simp [wrap64, img20]
theorem wf20 : WfF f20 := ⟨by kernel_rfl, by decide, by decide⟩
theorem wf19 : WfF F19 := ⟨by kernel_rfl, by decide, by decide⟩
def meta20 : List UInt8 := [0] ++ ([0, 0, 0, 1, 0, 0, 0, 11] ++ (sum20.l ++ List.replicate 87 0))
def T20 (rights : Int) : TenantS := ⟨⟨0, 8, 5⟩, ⟨rights, 0, 8⟩, c20 rights, M20⟩
end Go.Proofs.YtpdoioeckiiegaaGreatDoor.Wl
