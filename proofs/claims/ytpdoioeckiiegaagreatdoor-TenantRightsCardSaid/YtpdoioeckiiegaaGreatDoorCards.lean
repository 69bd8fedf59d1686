/-
  DERIVED. GIVEN WITH THE SEED: THE CARDS: each row of YtpdoioeckiiegaaGreatDoorRows.lean that lists a variable, with what it lists TIED to the program's text (the seventh form; the later family's looks); each row that meets fmt, with fmt's text TOLD by the authors' own Lean function (tested against real Go, not proved from fmt's source: count such statements apart). THE CARD IS WHAT COUNTS. Prove the row's statement (the work); the ties are given (YtpdoioeckiiegaaGreatDoorTie.lean); close each card by the builder's one call (the guide's Derived/Test/ToyasCard.lean, 'card_holds'). Laid BY PROGRAM, IN A SANDBOX (cutbox-door.mjs). By AI agents, Wed Nov 11 2026. No macro, syntax, notation, axiom, sorry.
-/
import Derived.Test.YtpdoioeckiiegaaGreatDoorRows
import GoSem.ClaimSeven
namespace Go.Proofs.YtpdoioeckiiegaaGreatDoor
namespace Rows

/-- THE TIED CARD OF 'waterlinelaw20.TenantWho'. -/
def tenantWhoCard : Claim7 := { stood := { row := tenantWhoRow, standIns := [], harness := (true, "7f8f7fa61420791d4599736534cdffa30f5c3b24a4f489b2d68554151ed73a4c"), looks := true }, kinds := [], alts := [], laidByText := true, laidKinds := [.data, .pinned], laidTests := true, laidLooks := .later }
def TenantWhoCardSaid : Prop := Claim7.holds Tryz.pinned (.plain (OpenSpec.ofChange tenantWhoSpec)) tenantWhoCard

/-- THE TIED CARD OF 'waterlinelaw20.TenantRights'. -/
def tenantRightsCard : Claim7 := { stood := { row := tenantRightsRow, standIns := [], harness := (true, "7f8f7fa61420791d4599736534cdffa30f5c3b24a4f489b2d68554151ed73a4c"), looks := true }, kinds := [], alts := [], laidByText := true, laidKinds := [.data, .pinned], laidTests := true, laidLooks := .later }
def TenantRightsCardSaid : Prop := Claim7.holds Tryz.pinned (.plain (OpenSpec.ofChange tenantRightsSpec)) tenantRightsCard

/-- THE TIED CARD OF 'waterlinelaw20.TenantTrial'. -/
def tenantTrialCard : Claim7 := { stood := { row := tenantTrialRow, standIns := [], harness := (true, "7f8f7fa61420791d4599736534cdffa30f5c3b24a4f489b2d68554151ed73a4c"), looks := true }, kinds := [], alts := [], laidByText := true, laidKinds := [.data, .pinned], laidTests := true, laidLooks := .later }
def TenantTrialCardSaid : Prop := Claim7.holds Tryz.pinned (.plain (OpenSpec.ofChange tenantTrialSpec)) tenantTrialCard

/-- THE TIED CARD OF 'waterlinelaw20.TenantCuts'. -/
def tenantCutsCard : Claim7 := { stood := { row := tenantCutsRow, standIns := [], harness := (true, "7f8f7fa61420791d4599736534cdffa30f5c3b24a4f489b2d68554151ed73a4c"), looks := true }, kinds := [], alts := [], laidByText := true, laidKinds := [.data, .pinned], laidTests := true, laidLooks := .later }
def TenantCutsCardSaid : Prop := Claim7.holds Tryz.pinned (.plain (OpenSpec.ofChange tenantCutsSpec)) tenantCutsCard

/-- THE TIED CARD OF 'waterlinelaw20.TenantResumes'. -/
def tenantResumesCard : Claim7 := { stood := { row := tenantResumesRow, standIns := [], harness := (true, "7f8f7fa61420791d4599736534cdffa30f5c3b24a4f489b2d68554151ed73a4c"), looks := true }, kinds := [], alts := [], laidByText := true, laidKinds := [.data, .pinned], laidTests := true, laidLooks := .later }
def TenantResumesCardSaid : Prop := Claim7.holds Tryz.pinned (.plain (OpenSpec.ofChange tenantResumesSpec)) tenantResumesCard

/-- THE TIED CARD OF 'waterlinelaw20.TenantPlays'. -/
def tenantPlaysCard : Claim7 := { stood := { row := tenantPlaysRow, standIns := [], harness := (true, "7f8f7fa61420791d4599736534cdffa30f5c3b24a4f489b2d68554151ed73a4c"), looks := true }, kinds := [], alts := [], laidByText := true, laidKinds := [.data, .pinned], laidTests := true, laidLooks := .later }
def TenantPlaysCardSaid : Prop := Claim7.holds Tryz.pinned (.plain (OpenSpec.ofChange tenantPlaysSpec)) tenantPlaysCard

/-- THE SECOND FORM's CARD OF 'waterlinelaw20.TenantWho'. -/
def tenantWhoUptoCard : Claim7 := { stood := { row := tenantWhoUptoRow, standIns := [], harness := (true, "7f8f7fa61420791d4599736534cdffa30f5c3b24a4f489b2d68554151ed73a4c"), looks := true }, kinds := [], alts := [], laidByText := true, laidKinds := [.data, .pinned], laidTests := true, laidLooks := .later }
def TenantWhoUptoCardSaid : Prop := Claim7.holds Tryz.pinned (.plain (OpenSpec.upto tenantWhoSpec)) tenantWhoUptoCard

/-- THE SECOND FORM's CARD OF 'waterlinelaw20.TenantRights'. -/
def tenantRightsUptoCard : Claim7 := { stood := { row := tenantRightsUptoRow, standIns := [], harness := (true, "7f8f7fa61420791d4599736534cdffa30f5c3b24a4f489b2d68554151ed73a4c"), looks := true }, kinds := [], alts := [], laidByText := true, laidKinds := [.data, .pinned], laidTests := true, laidLooks := .later }
def TenantRightsUptoCardSaid : Prop := Claim7.holds Tryz.pinned (.plain (OpenSpec.upto tenantRightsSpec)) tenantRightsUptoCard

/-- THE SECOND FORM's CARD OF 'waterlinelaw20.TenantTrial'. -/
def tenantTrialUptoCard : Claim7 := { stood := { row := tenantTrialUptoRow, standIns := [], harness := (true, "7f8f7fa61420791d4599736534cdffa30f5c3b24a4f489b2d68554151ed73a4c"), looks := true }, kinds := [], alts := [], laidByText := true, laidKinds := [.data, .pinned], laidTests := true, laidLooks := .later }
def TenantTrialUptoCardSaid : Prop := Claim7.holds Tryz.pinned (.plain (OpenSpec.upto tenantTrialSpec)) tenantTrialUptoCard

/-- THE SECOND FORM's CARD OF 'waterlinelaw20.TenantCuts'. -/
def tenantCutsUptoCard : Claim7 := { stood := { row := tenantCutsUptoRow, standIns := [], harness := (true, "7f8f7fa61420791d4599736534cdffa30f5c3b24a4f489b2d68554151ed73a4c"), looks := true }, kinds := [], alts := [], laidByText := true, laidKinds := [.data, .pinned], laidTests := true, laidLooks := .later }
def TenantCutsUptoCardSaid : Prop := Claim7.holds Tryz.pinned (.plain (OpenSpec.upto tenantCutsSpec)) tenantCutsUptoCard

/-- THE SECOND FORM's CARD OF 'waterlinelaw20.TenantResumes'. -/
def tenantResumesUptoCard : Claim7 := { stood := { row := tenantResumesUptoRow, standIns := [], harness := (true, "7f8f7fa61420791d4599736534cdffa30f5c3b24a4f489b2d68554151ed73a4c"), looks := true }, kinds := [], alts := [], laidByText := true, laidKinds := [.data, .pinned], laidTests := true, laidLooks := .later }
def TenantResumesUptoCardSaid : Prop := Claim7.holds Tryz.pinned (.plain (OpenSpec.upto tenantResumesSpec)) tenantResumesUptoCard

/-- THE SECOND FORM's CARD OF 'waterlinelaw20.TenantPlays'. -/
def tenantPlaysUptoCard : Claim7 := { stood := { row := tenantPlaysUptoRow, standIns := [], harness := (true, "7f8f7fa61420791d4599736534cdffa30f5c3b24a4f489b2d68554151ed73a4c"), looks := true }, kinds := [], alts := [], laidByText := true, laidKinds := [.data, .pinned], laidTests := true, laidLooks := .later }
def TenantPlaysUptoCardSaid : Prop := Claim7.holds Tryz.pinned (.plain (OpenSpec.upto tenantPlaysSpec)) tenantPlaysUptoCard
end Rows
end Go.Proofs.YtpdoioeckiiegaaGreatDoor
