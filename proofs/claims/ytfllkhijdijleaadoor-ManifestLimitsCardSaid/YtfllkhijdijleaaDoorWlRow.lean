/- What the rows of this seat share. -/
import Derived.Test.YtfllkhijdijleaaDoorWlX
import Derived.Test.YtfllkhijdijleaaDoorWlZ
import Derived.Test.YtfllkhijdijleaaDoorTie
import Derived.Test.YtfllkhijdijleaaDoorCards
import Derived.SevenTiedAt
import Derived.Handy
import Derived.Lay
set_option linter.unusedSimpArgs false
set_option linter.unusedVariables false
namespace Go.Proofs.YtfllkhijdijleaaDoor.Wl
open Go.RowKit Go.ChangeShapes Go.WideShapes Go.ChangeAt Go.Proofs Go.Proofs.YtfllkhijdijleaaDoor
theorem own : ownKnob Tryd.prog.godebug = none := by kernel_rfl
theorem laidOut : laidOutB Tryd.prog = true := by kernel_rfl
theorem dec_Img {W : World} {r : Reach} {base : Nat} : Dec (Cell.okWide Tryd.prog W r base) ([3] ++ ([3] ++ (List.replicate 32 [5]).flatten)) Img.cells := fun vs h => by
  obtain ⟨u, v, rfl, h1, h2⟩ := h.app
  obtain ⟨x, rfl⟩ := dec_i Tryd.underlying3 _ h1
  obtain ⟨y, z, rfl⟩ := dec_app (dec_i Tryd.underlying3) (dec_arr (dec_8 Tryd.underlying5) 32) h2
  exact ⟨⟨x, y, z⟩, rfl⟩
theorem dec_Mani {W : World} {r : Reach} {base : Nat} : Dec (Cell.okWide Tryd.prog W r base) ([9] ++ ([3] ++ ([3] ++ (List.replicate 32 [5]).flatten))) Mani.cells := fun vs h => by
  obtain ⟨y, z, rfl⟩ := dec_app (dec_s Tryd.underlying9) dec_Img h
  exact ⟨⟨y, z⟩, rfl⟩
end Go.Proofs.YtfllkhijdijleaaDoor.Wl
