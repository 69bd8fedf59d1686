/-
  DERIVED. GIVEN WITH THE SEED: THE CARDS: each row of YtfllkhijdijleaaDoorRows.lean that lists a variable, with what it lists TIED to the program's text (the seventh form; the later family's looks); each row that meets fmt, with fmt's text TOLD by the authors' own Lean function (tested against real Go, not proved from fmt's source: count such statements apart). THE CARD IS WHAT COUNTS. Prove the row's statement (the work); the ties are given (YtfllkhijdijleaaDoorTie.lean); close each card by the builder's one call (the guide's Derived/Test/ToyasCard.lean, 'card_holds'). Laid BY PROGRAM, IN A SANDBOX (cutbox-door.mjs). By AI agents, Wed Nov 11 2026. No macro, syntax, notation, axiom, sorry.
-/
import Derived.Test.YtfllkhijdijleaaDoorRows
import GoSem.ClaimSeven
namespace Go.Proofs.YtfllkhijdijleaaDoor
namespace Rows

/-- THE TIED CARD OF 'waterlinelaw12.ManifestTorn'. -/
def manifestTornCard : Claim7 := { stood := { row := manifestTornRow, standIns := [], harness := (true, "3459a46e84fb0d2166cfb2cb7a87000e57598342fe5bcca441310f8f8c1f6d95"), looks := false }, kinds := [], alts := [], laidByText := true, laidKinds := [.data, .pinned], laidTests := true, laidLooks := .later }
def ManifestTornCardSaid : Prop := Claim7.holds Tryd.pinned (.plain (OpenSpec.ofChange manifestTornSpec)) manifestTornCard

/-- THE TIED CARD OF 'waterlinelaw12.ManifestLimits'. -/
def manifestLimitsCard : Claim7 := { stood := { row := manifestLimitsRow, standIns := [], harness := (true, "3459a46e84fb0d2166cfb2cb7a87000e57598342fe5bcca441310f8f8c1f6d95"), looks := false }, kinds := [], alts := [], laidByText := true, laidKinds := [.data, .pinned], laidTests := true, laidLooks := .later }
def ManifestLimitsCardSaid : Prop := Claim7.holds Tryd.pinned (.plain (OpenSpec.ofChange manifestLimitsSpec)) manifestLimitsCard

/-- THE TIED CARD OF 'waterlinelaw26.ScriptReads'. -/
def scriptReadsCard : Claim7 := { stood := { row := scriptReadsRow, standIns := [], harness := (true, "3459a46e84fb0d2166cfb2cb7a87000e57598342fe5bcca441310f8f8c1f6d95"), looks := false }, kinds := [], alts := [], laidByText := true, laidKinds := [.data, .data, .data], laidTests := true, laidLooks := .later }
def ScriptReadsCardSaid : Prop := Claim7.holds Tryd.pinned (.plain (OpenSpec.ofChange scriptReadsSpec)) scriptReadsCard

/-- THE TIED CARD OF 'waterlinelaw26.ScriptShows'. -/
def scriptShowsCard : Claim7 := { stood := { row := scriptShowsRow, standIns := [], harness := (true, "3459a46e84fb0d2166cfb2cb7a87000e57598342fe5bcca441310f8f8c1f6d95"), looks := false }, kinds := [], alts := [], laidByText := true, laidKinds := [.data, .data, .data], laidTests := true, laidLooks := .later }
def ScriptShowsCardSaid : Prop := Claim7.holds Tryd.pinned (.plain (OpenSpec.ofChange scriptShowsSpec)) scriptShowsCard

/-- THE TIED CARD OF 'waterlinelaw26.ScriptWrong'. -/
def scriptWrongCard : Claim7 := { stood := { row := scriptWrongRow, standIns := [], harness := (true, "3459a46e84fb0d2166cfb2cb7a87000e57598342fe5bcca441310f8f8c1f6d95"), looks := false }, kinds := [], alts := [], laidByText := true, laidKinds := [.data, .data, .data], laidTests := true, laidLooks := .later }
def ScriptWrongCardSaid : Prop := Claim7.holds Tryd.pinned (.plain (OpenSpec.ofChange scriptWrongSpec)) scriptWrongCard

/-- THE TIED CARD OF 'waterlinelaw24.ModelRights'. -/
def modelRightsCard : Claim7 := { stood := { row := modelRightsRow, standIns := [], harness := (true, "3459a46e84fb0d2166cfb2cb7a87000e57598342fe5bcca441310f8f8c1f6d95"), looks := false }, kinds := [], alts := [], laidByText := true, laidKinds := [.data, .pinned], laidTests := true, laidLooks := .later }
def ModelRightsCardSaid : Prop := Claim7.holds Tryd.pinned (.plain (OpenSpec.ofChange modelRightsSpec)) modelRightsCard

/-- THE SECOND FORM's CARD OF 'waterlinelaw12.ManifestTorn'. -/
def manifestTornUptoCard : Claim7 := { stood := { row := manifestTornUptoRow, standIns := [], harness := (true, "3459a46e84fb0d2166cfb2cb7a87000e57598342fe5bcca441310f8f8c1f6d95"), looks := false }, kinds := [], alts := [], laidByText := true, laidKinds := [.data, .pinned], laidTests := true, laidLooks := .later }
def ManifestTornUptoCardSaid : Prop := Claim7.holds Tryd.pinned (.plain (OpenSpec.upto manifestTornSpec)) manifestTornUptoCard

/-- THE SECOND FORM's CARD OF 'waterlinelaw12.ManifestLimits'. -/
def manifestLimitsUptoCard : Claim7 := { stood := { row := manifestLimitsUptoRow, standIns := [], harness := (true, "3459a46e84fb0d2166cfb2cb7a87000e57598342fe5bcca441310f8f8c1f6d95"), looks := false }, kinds := [], alts := [], laidByText := true, laidKinds := [.data, .pinned], laidTests := true, laidLooks := .later }
def ManifestLimitsUptoCardSaid : Prop := Claim7.holds Tryd.pinned (.plain (OpenSpec.upto manifestLimitsSpec)) manifestLimitsUptoCard

/-- THE SECOND FORM's CARD OF 'waterlinelaw26.ScriptReads'. -/
def scriptReadsUptoCard : Claim7 := { stood := { row := scriptReadsUptoRow, standIns := [], harness := (true, "3459a46e84fb0d2166cfb2cb7a87000e57598342fe5bcca441310f8f8c1f6d95"), looks := false }, kinds := [], alts := [], laidByText := true, laidKinds := [.data, .data, .data], laidTests := true, laidLooks := .later }
def ScriptReadsUptoCardSaid : Prop := Claim7.holds Tryd.pinned (.plain (OpenSpec.upto scriptReadsSpec)) scriptReadsUptoCard

/-- THE SECOND FORM's CARD OF 'waterlinelaw26.ScriptShows'. -/
def scriptShowsUptoCard : Claim7 := { stood := { row := scriptShowsUptoRow, standIns := [], harness := (true, "3459a46e84fb0d2166cfb2cb7a87000e57598342fe5bcca441310f8f8c1f6d95"), looks := false }, kinds := [], alts := [], laidByText := true, laidKinds := [.data, .data, .data], laidTests := true, laidLooks := .later }
def ScriptShowsUptoCardSaid : Prop := Claim7.holds Tryd.pinned (.plain (OpenSpec.upto scriptShowsSpec)) scriptShowsUptoCard

/-- THE SECOND FORM's CARD OF 'waterlinelaw26.ScriptWrong'. -/
def scriptWrongUptoCard : Claim7 := { stood := { row := scriptWrongUptoRow, standIns := [], harness := (true, "3459a46e84fb0d2166cfb2cb7a87000e57598342fe5bcca441310f8f8c1f6d95"), looks := false }, kinds := [], alts := [], laidByText := true, laidKinds := [.data, .data, .data], laidTests := true, laidLooks := .later }
def ScriptWrongUptoCardSaid : Prop := Claim7.holds Tryd.pinned (.plain (OpenSpec.upto scriptWrongSpec)) scriptWrongUptoCard

/-- THE SECOND FORM's CARD OF 'waterlinelaw24.ModelRights'. -/
def modelRightsUptoCard : Claim7 := { stood := { row := modelRightsUptoRow, standIns := [], harness := (true, "3459a46e84fb0d2166cfb2cb7a87000e57598342fe5bcca441310f8f8c1f6d95"), looks := false }, kinds := [], alts := [], laidByText := true, laidKinds := [.data, .pinned], laidTests := true, laidLooks := .later }
def ModelRightsUptoCardSaid : Prop := Claim7.holds Tryd.pinned (.plain (OpenSpec.upto modelRightsSpec)) modelRightsUptoCard
end Rows
end Go.Proofs.YtfllkhijdijleaaDoor
