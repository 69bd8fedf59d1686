/- Plain law: ManifestLimits. -/
import Derived.Test.YtfllkhijdijleaaDoorWlL3
set_option linter.unusedSimpArgs false
set_option linter.unusedVariables false
namespace Go.Proofs.YtfllkhijdijleaaDoor.Wl
open Go.RowKit Go.Proofs
set_option maxRecDepth 100000
theorem lim0 : law12_ManifestLimits 0 = some true := by
  unfold law12_ManifestLimits
  rw [alive12, Option.bind_some]
  kernel_rfl
theorem lim1 : law12_ManifestLimits 1 = some true := by
  unfold law12_ManifestLimits
  rw [alive12, Option.bind_some]
  kernel_rfl
theorem lim2 : law12_ManifestLimits 2 = some true := by
  unfold law12_ManifestLimits
  rw [alive12, Option.bind_some]
  kernel_rfl
theorem lim3 : law12_ManifestLimits 3 = some true := by
  unfold law12_ManifestLimits
  rw [alive12, Option.bind_some]
  kernel_rfl
theorem lim4 : law12_ManifestLimits 4 = some true := by
  unfold law12_ManifestLimits
  rw [alive12, Option.bind_some]
  kernel_rfl
theorem lim5 : law12_ManifestLimits 5 = some true := by
  unfold law12_ManifestLimits
  rw [alive12, Option.bind_some]
  kernel_rfl
theorem lim6 : law12_ManifestLimits 6 = some true := by
  unfold law12_ManifestLimits
  rw [alive12, Option.bind_some]
  kernel_rfl
theorem lim7 : law12_ManifestLimits 7 = some true := by
  unfold law12_ManifestLimits
  rw [alive12, Option.bind_some]
  kernel_rfl
theorem lim8 : law12_ManifestLimits 8 = some true := by
  unfold law12_ManifestLimits
  rw [alive12, Option.bind_some]
  kernel_rfl
theorem lim9 : law12_ManifestLimits 9 = some true := by
  unfold law12_ManifestLimits
  rw [alive12, Option.bind_some]
  kernel_rfl
theorem lim_plain (n : Int) : law12_ManifestLimits n = some true := by
  by_cases h : 0 ≤ n ∧ n < 10
  · have : n = 0 ∨ n = 1 ∨ n = 2 ∨ n = 3 ∨ n = 4 ∨ n = 5 ∨ n = 6 ∨ n = 7 ∨ n = 8 ∨ n = 9 := by omega
    rcases this with rfl | rfl | rfl | rfl | rfl | rfl | rfl | rfl | rfl | rfl
    · exact lim0
    · exact lim1
    · exact lim2
    · exact lim3
    · exact lim4
    · exact lim5
    · exact lim6
    · exact lim7
    · exact lim8
    · exact lim9
  · unfold law12_ManifestLimits
    rw [alive12, Option.bind_some]
    simp only [bnd, jn, Bool.not_true, cond_false]
    by_cases h1 : n < 0
    · rw [dec_t h1, cond_true, cond_true]
    · rw [dec_f h1, cond_false, dec_t (by simp only [List.length_cons, List.length_nil]; omega), cond_true]
end Go.Proofs.YtfllkhijdijleaaDoor.Wl
