/-
  NARROWER THAN 'FOR EVERY INPUT', by the rows' own cells (each row's printed sentence says how): TenantWho: laid · TenantRights: laid · TenantTrial: laid · TenantCuts: laid · TenantResumes: laid · TenantPlays: laid.
  DERIVED. THE GIVEN ROWS OF THIS SEAT. 6 by the template 'for every input the law returns true; each argument reads behind the call as it read before'; 0 by the template 'total and deterministic' (their statements: YtpdoioeckiiegaaGreatDoorTotals.lean).
  GIVEN WITH THE SEED: the statements are not yours to turn. If you find one false, say at which input.
  Laid BY PROGRAM, IN A SANDBOX (cutbox-rows.mjs): the forced cells as the released guide's own fill.sh prints them over the translation c20ca667f53b71b8… (all of the seat's roots in one cut). By AI agents, Wed Nov 11 2026. No macro, syntax, notation, axiom, sorry.
-/
import Derived.Test.YtpdoioeckiiegaaGreatDoorChecked
import GoSem.PinnedTables
import GoSem.Claim
import GoSem.ClaimJoined
import GoSem.ClaimMapViews
import Derived.JoinedTies
import Derived.KernelRfl
namespace Go.Proofs.YtpdoioeckiiegaaGreatDoor
/- THE CELL 'sum', in the pinned program and in every row, IS THE sha256 OF THE DUMP (.gsa) THAT YtpdoioeckiiegaaGreatDoorProg.lean LOADS. Nothing in Lean hashes anything: it is a label: what it is worth is what the hold of that sum in a sandbox is worth. -/
noncomputable def Tryz.pinned : Pinned := { name := "ytpdoioeckiiegaagreatdoor", sum := "c20ca667f53b71b898063d7c90fcb84e2ff334f59f93063f2f74327aa993d813", checked := Tryz.checked }
namespace Rows
def none {H : Type} : Left H := { results := [], args := [] }

/- WHAT THE LISTED PACKAGE-LEVEL VARIABLES READ AS WHEN THE CALL BEGINS. Each datum BY PROGRAM (the guide's laid-datum.mjs) off the statement by which the dump's own 'gosem.cut.vars' lays the variable. In a bare row this is a premise. The card (YtpdoioeckiiegaaGreatDoorCards.lean) ties it to the program's text. -/
def laid_unicode_utf8_acceptRanges {H : Type} : DataW H := .agg [.agg [.lit (.int .u8 128), .lit (.int .u8 191)], .agg [.lit (.int .u8 160), .lit (.int .u8 191)], .agg [.lit (.int .u8 128), .lit (.int .u8 159)], .agg [.lit (.int .u8 144), .lit (.int .u8 191)], .agg [.lit (.int .u8 128), .lit (.int .u8 143)], .agg [.lit (.int .u8 0), .lit (.int .u8 0)], .agg [.lit (.int .u8 0), .lit (.int .u8 0)], .agg [.lit (.int .u8 0), .lit (.int .u8 0)], .agg [.lit (.int .u8 0), .lit (.int .u8 0)], .agg [.lit (.int .u8 0), .lit (.int .u8 0)], .agg [.lit (.int .u8 0), .lit (.int .u8 0)], .agg [.lit (.int .u8 0), .lit (.int .u8 0)], .agg [.lit (.int .u8 0), .lit (.int .u8 0)], .agg [.lit (.int .u8 0), .lit (.int .u8 0)], .agg [.lit (.int .u8 0), .lit (.int .u8 0)], .agg [.lit (.int .u8 0), .lit (.int .u8 0)]]
/-- One of Go's own tables, pinned by name: the form's constant. -/
def laid_unicode_utf8_first : DataW Unit := Go.Pinned.utf8First

/-- 'waterlinelaw20.TenantWho': WHATEVER THE INPUT: true; the input reads as it did. -/
def tenantWhoSpec : ChangeSpec := { name := "tenantWho", fn := fun _ => fun
  | [d1, d2, d3] => { results := [.lit (.bool true)], args := [d1, d2, d3] }
  | _ => none }
def tenantWhoRow : OpenClaim := { program := "ytpdoioeckiiegaagreatdoor", sum := "c20ca667f53b71b898063d7c90fcb84e2ff334f59f93063f2f74327aa993d813", func := "waterline/waterlinelaw20.TenantWho", spec := "tenantWho", inPlace := ["internal/bytealg.IndexByteString", "internal/bytealg.IndexString"], unfollowed := true, recurses := true, named := ["unicode/utf8.first", "unicode/utf8.acceptRanges", "internal/bytealg.MaxLen"], apart := false, laid := [("unicode/utf8.acceptRanges", laid_unicode_utf8_acceptRanges), ("unicode/utf8.first", laid_unicode_utf8_first)] }
def TenantWhoSaid : Prop := tenantWhoRow.holds Tryz.pinned (OpenSpec.ofChange tenantWhoSpec)

/-- ITS FALSE NEIGHBOUR: 'it returns false'. Refute it at one input. -/
def tenantWhoWrong : ChangeSpec := { name := "tenantWho", fn := fun _ => fun
  | [d1, d2, d3] => { results := [.lit (.bool false)], args := [d1, d2, d3] }
  | _ => none }
def TenantWhoWrongFalsely : Prop := tenantWhoRow.holds Tryz.pinned (OpenSpec.ofChange tenantWhoWrong)

/-- 'waterlinelaw20.TenantRights': WHATEVER THE INPUT: true; the input reads as it did. -/
def tenantRightsSpec : ChangeSpec := { name := "tenantRights", fn := fun _ => fun
  | [d1, d2] => { results := [.lit (.bool true)], args := [d1, d2] }
  | _ => none }
def tenantRightsRow : OpenClaim := { program := "ytpdoioeckiiegaagreatdoor", sum := "c20ca667f53b71b898063d7c90fcb84e2ff334f59f93063f2f74327aa993d813", func := "waterline/waterlinelaw20.TenantRights", spec := "tenantRights", inPlace := ["internal/bytealg.IndexByteString", "internal/bytealg.IndexString"], unfollowed := true, recurses := true, named := ["unicode/utf8.first", "unicode/utf8.acceptRanges", "internal/bytealg.MaxLen"], apart := false, laid := [("unicode/utf8.acceptRanges", laid_unicode_utf8_acceptRanges), ("unicode/utf8.first", laid_unicode_utf8_first)] }
def TenantRightsSaid : Prop := tenantRightsRow.holds Tryz.pinned (OpenSpec.ofChange tenantRightsSpec)

/-- ITS FALSE NEIGHBOUR: 'it returns false'. Refute it at one input. -/
def tenantRightsWrong : ChangeSpec := { name := "tenantRights", fn := fun _ => fun
  | [d1, d2] => { results := [.lit (.bool false)], args := [d1, d2] }
  | _ => none }
def TenantRightsWrongFalsely : Prop := tenantRightsRow.holds Tryz.pinned (OpenSpec.ofChange tenantRightsWrong)

/-- 'waterlinelaw20.TenantTrial': WHATEVER THE INPUT: true; the input reads as it did. -/
def tenantTrialSpec : ChangeSpec := { name := "tenantTrial", fn := fun _ => fun
  | [d1, d2, d3, d4] => { results := [.lit (.bool true)], args := [d1, d2, d3, d4] }
  | _ => none }
def tenantTrialRow : OpenClaim := { program := "ytpdoioeckiiegaagreatdoor", sum := "c20ca667f53b71b898063d7c90fcb84e2ff334f59f93063f2f74327aa993d813", func := "waterline/waterlinelaw20.TenantTrial", spec := "tenantTrial", inPlace := ["internal/bytealg.IndexByteString", "internal/bytealg.IndexString"], unfollowed := true, recurses := true, named := ["unicode/utf8.first", "unicode/utf8.acceptRanges", "internal/bytealg.MaxLen"], apart := false, laid := [("unicode/utf8.acceptRanges", laid_unicode_utf8_acceptRanges), ("unicode/utf8.first", laid_unicode_utf8_first)] }
def TenantTrialSaid : Prop := tenantTrialRow.holds Tryz.pinned (OpenSpec.ofChange tenantTrialSpec)

/-- ITS FALSE NEIGHBOUR: 'it returns false'. Refute it at one input. -/
def tenantTrialWrong : ChangeSpec := { name := "tenantTrial", fn := fun _ => fun
  | [d1, d2, d3, d4] => { results := [.lit (.bool false)], args := [d1, d2, d3, d4] }
  | _ => none }
def TenantTrialWrongFalsely : Prop := tenantTrialRow.holds Tryz.pinned (OpenSpec.ofChange tenantTrialWrong)

/-- 'waterlinelaw20.TenantCuts': WHATEVER THE INPUT: true; the input reads as it did. -/
def tenantCutsSpec : ChangeSpec := { name := "tenantCuts", fn := fun _ => fun
  | [d1, d2, d3, d4, d5] => { results := [.lit (.bool true)], args := [d1, d2, d3, d4, d5] }
  | _ => none }
def tenantCutsRow : OpenClaim := { program := "ytpdoioeckiiegaagreatdoor", sum := "c20ca667f53b71b898063d7c90fcb84e2ff334f59f93063f2f74327aa993d813", func := "waterline/waterlinelaw20.TenantCuts", spec := "tenantCuts", inPlace := ["internal/bytealg.IndexByteString", "internal/bytealg.IndexString"], unfollowed := true, recurses := true, named := ["unicode/utf8.first", "unicode/utf8.acceptRanges", "internal/bytealg.MaxLen"], apart := false, laid := [("unicode/utf8.acceptRanges", laid_unicode_utf8_acceptRanges), ("unicode/utf8.first", laid_unicode_utf8_first)] }
def TenantCutsSaid : Prop := tenantCutsRow.holds Tryz.pinned (OpenSpec.ofChange tenantCutsSpec)

/-- ITS FALSE NEIGHBOUR: 'it returns false'. Refute it at one input. -/
def tenantCutsWrong : ChangeSpec := { name := "tenantCuts", fn := fun _ => fun
  | [d1, d2, d3, d4, d5] => { results := [.lit (.bool false)], args := [d1, d2, d3, d4, d5] }
  | _ => none }
def TenantCutsWrongFalsely : Prop := tenantCutsRow.holds Tryz.pinned (OpenSpec.ofChange tenantCutsWrong)

/-- 'waterlinelaw20.TenantResumes': WHATEVER THE INPUT: true; the input reads as it did. -/
def tenantResumesSpec : ChangeSpec := { name := "tenantResumes", fn := fun _ => fun
  | [d1, d2, d3, d4] => { results := [.lit (.bool true)], args := [d1, d2, d3, d4] }
  | _ => none }
def tenantResumesRow : OpenClaim := { program := "ytpdoioeckiiegaagreatdoor", sum := "c20ca667f53b71b898063d7c90fcb84e2ff334f59f93063f2f74327aa993d813", func := "waterline/waterlinelaw20.TenantResumes", spec := "tenantResumes", inPlace := ["internal/bytealg.IndexByteString", "internal/bytealg.IndexString"], unfollowed := true, recurses := true, named := ["unicode/utf8.first", "unicode/utf8.acceptRanges", "internal/bytealg.MaxLen"], apart := false, laid := [("unicode/utf8.acceptRanges", laid_unicode_utf8_acceptRanges), ("unicode/utf8.first", laid_unicode_utf8_first)] }
def TenantResumesSaid : Prop := tenantResumesRow.holds Tryz.pinned (OpenSpec.ofChange tenantResumesSpec)

/-- ITS FALSE NEIGHBOUR: 'it returns false'. Refute it at one input. -/
def tenantResumesWrong : ChangeSpec := { name := "tenantResumes", fn := fun _ => fun
  | [d1, d2, d3, d4] => { results := [.lit (.bool false)], args := [d1, d2, d3, d4] }
  | _ => none }
def TenantResumesWrongFalsely : Prop := tenantResumesRow.holds Tryz.pinned (OpenSpec.ofChange tenantResumesWrong)

/-- 'waterlinelaw20.TenantPlays': WHATEVER THE INPUT: true; the input reads as it did. -/
def tenantPlaysSpec : ChangeSpec := { name := "tenantPlays", fn := fun _ => fun
  | [d1, d2] => { results := [.lit (.bool true)], args := [d1, d2] }
  | _ => none }
def tenantPlaysRow : OpenClaim := { program := "ytpdoioeckiiegaagreatdoor", sum := "c20ca667f53b71b898063d7c90fcb84e2ff334f59f93063f2f74327aa993d813", func := "waterline/waterlinelaw20.TenantPlays", spec := "tenantPlays", inPlace := ["internal/bytealg.IndexByteString", "internal/bytealg.IndexString"], unfollowed := true, recurses := true, named := ["unicode/utf8.first", "unicode/utf8.acceptRanges", "internal/bytealg.MaxLen"], apart := false, laid := [("unicode/utf8.acceptRanges", laid_unicode_utf8_acceptRanges), ("unicode/utf8.first", laid_unicode_utf8_first)] }
def TenantPlaysSaid : Prop := tenantPlaysRow.holds Tryz.pinned (OpenSpec.ofChange tenantPlaysSpec)

/-- ITS FALSE NEIGHBOUR: 'it returns false'. Refute it at one input. -/
def tenantPlaysWrong : ChangeSpec := { name := "tenantPlays", fn := fun _ => fun
  | [d1, d2] => { results := [.lit (.bool false)], args := [d1, d2] }
  | _ => none }
def TenantPlaysWrongFalsely : Prop := tenantPlaysRow.holds Tryz.pinned (OpenSpec.ofChange tenantPlaysWrong)

/- THE SECOND FORM. 'bulk': how many values and letters a reading holds, each counted each time it is reached (what is shared counts as often as it is met; a slice's spare places count too). A statement '..UptoSaid' is the law's where the arguments, and the package variables that the reading takes, are together of bulk at most 1048576: NARROWER than '..Said'. Prove '..Said' where nothing that the law and all that it calls make is longer than what came in: it says more and counts as full. Else prove '..UptoSaid'. A law counts once. -/
mutual
def uptoBulk {H : Type} : DataW H → Nat
  | .lit (.string bytes) => bytes.length + 1
  | .lit _ => 1
  | .nil => 1
  | .ptr d => uptoBulk d + 1
  | .slice elems spare => uptoBulkAll elems + uptoBulkAll spare + 1
  | .agg parts => uptoBulkAll parts + 1
  | .iface _ d => uptoBulk d + 1
  | .map entries => uptoBulkEntries entries + 1
  | .held _ => 1
def uptoBulkAll {H : Type} : List (DataW H) → Nat
  | [] => 0
  | d :: r => uptoBulk d + uptoBulkAll r
def uptoBulkEntries {H : Type} : List (Lit × DataW H) → Nat
  | [] => 0
  | x :: r => uptoBulkEntry x + uptoBulkEntries r
def uptoBulkEntry {H : Type} : Lit × DataW H → Nat
  | (.string bytes, d) => bytes.length + uptoBulk d + 1
  | (_, d) => uptoBulk d + 1
 end
def uptoSmall : (H : Type) → List (DataW H) → Bool := fun _ ds => decide (uptoBulkAll ds ≤ 1048576)
def OpenSpec.upto (s : _root_.Go.ChangeSpec) : _root_.Go.OpenSpec := { _root_.Go.OpenSpec.ofChange s with cond := some uptoSmall }

/-- 'waterlinelaw20.TenantWho', WHERE WHAT IT READS IS OF BULK AT MOST 1048576: true; the input reads as it did. -/
def tenantWhoUptoRow : OpenClaim := { program := "ytpdoioeckiiegaagreatdoor", sum := "c20ca667f53b71b898063d7c90fcb84e2ff334f59f93063f2f74327aa993d813", func := "waterline/waterlinelaw20.TenantWho", spec := "tenantWho", inPlace := ["internal/bytealg.IndexByteString", "internal/bytealg.IndexString"], unfollowed := true, recurses := true, named := ["unicode/utf8.first", "unicode/utf8.acceptRanges", "internal/bytealg.MaxLen"], apart := false, laid := [("unicode/utf8.acceptRanges", laid_unicode_utf8_acceptRanges), ("unicode/utf8.first", laid_unicode_utf8_first)], narrowed := true }
def TenantWhoUptoSaid : Prop := tenantWhoUptoRow.holds Tryz.pinned (OpenSpec.upto tenantWhoSpec)

/-- 'waterlinelaw20.TenantRights', WHERE WHAT IT READS IS OF BULK AT MOST 1048576: true; the input reads as it did. -/
def tenantRightsUptoRow : OpenClaim := { program := "ytpdoioeckiiegaagreatdoor", sum := "c20ca667f53b71b898063d7c90fcb84e2ff334f59f93063f2f74327aa993d813", func := "waterline/waterlinelaw20.TenantRights", spec := "tenantRights", inPlace := ["internal/bytealg.IndexByteString", "internal/bytealg.IndexString"], unfollowed := true, recurses := true, named := ["unicode/utf8.first", "unicode/utf8.acceptRanges", "internal/bytealg.MaxLen"], apart := false, laid := [("unicode/utf8.acceptRanges", laid_unicode_utf8_acceptRanges), ("unicode/utf8.first", laid_unicode_utf8_first)], narrowed := true }
def TenantRightsUptoSaid : Prop := tenantRightsUptoRow.holds Tryz.pinned (OpenSpec.upto tenantRightsSpec)

/-- 'waterlinelaw20.TenantTrial', WHERE WHAT IT READS IS OF BULK AT MOST 1048576: true; the input reads as it did. -/
def tenantTrialUptoRow : OpenClaim := { program := "ytpdoioeckiiegaagreatdoor", sum := "c20ca667f53b71b898063d7c90fcb84e2ff334f59f93063f2f74327aa993d813", func := "waterline/waterlinelaw20.TenantTrial", spec := "tenantTrial", inPlace := ["internal/bytealg.IndexByteString", "internal/bytealg.IndexString"], unfollowed := true, recurses := true, named := ["unicode/utf8.first", "unicode/utf8.acceptRanges", "internal/bytealg.MaxLen"], apart := false, laid := [("unicode/utf8.acceptRanges", laid_unicode_utf8_acceptRanges), ("unicode/utf8.first", laid_unicode_utf8_first)], narrowed := true }
def TenantTrialUptoSaid : Prop := tenantTrialUptoRow.holds Tryz.pinned (OpenSpec.upto tenantTrialSpec)

/-- 'waterlinelaw20.TenantCuts', WHERE WHAT IT READS IS OF BULK AT MOST 1048576: true; the input reads as it did. -/
def tenantCutsUptoRow : OpenClaim := { program := "ytpdoioeckiiegaagreatdoor", sum := "c20ca667f53b71b898063d7c90fcb84e2ff334f59f93063f2f74327aa993d813", func := "waterline/waterlinelaw20.TenantCuts", spec := "tenantCuts", inPlace := ["internal/bytealg.IndexByteString", "internal/bytealg.IndexString"], unfollowed := true, recurses := true, named := ["unicode/utf8.first", "unicode/utf8.acceptRanges", "internal/bytealg.MaxLen"], apart := false, laid := [("unicode/utf8.acceptRanges", laid_unicode_utf8_acceptRanges), ("unicode/utf8.first", laid_unicode_utf8_first)], narrowed := true }
def TenantCutsUptoSaid : Prop := tenantCutsUptoRow.holds Tryz.pinned (OpenSpec.upto tenantCutsSpec)

/-- 'waterlinelaw20.TenantResumes', WHERE WHAT IT READS IS OF BULK AT MOST 1048576: true; the input reads as it did. -/
def tenantResumesUptoRow : OpenClaim := { program := "ytpdoioeckiiegaagreatdoor", sum := "c20ca667f53b71b898063d7c90fcb84e2ff334f59f93063f2f74327aa993d813", func := "waterline/waterlinelaw20.TenantResumes", spec := "tenantResumes", inPlace := ["internal/bytealg.IndexByteString", "internal/bytealg.IndexString"], unfollowed := true, recurses := true, named := ["unicode/utf8.first", "unicode/utf8.acceptRanges", "internal/bytealg.MaxLen"], apart := false, laid := [("unicode/utf8.acceptRanges", laid_unicode_utf8_acceptRanges), ("unicode/utf8.first", laid_unicode_utf8_first)], narrowed := true }
def TenantResumesUptoSaid : Prop := tenantResumesUptoRow.holds Tryz.pinned (OpenSpec.upto tenantResumesSpec)

/-- 'waterlinelaw20.TenantPlays', WHERE WHAT IT READS IS OF BULK AT MOST 1048576: true; the input reads as it did. -/
def tenantPlaysUptoRow : OpenClaim := { program := "ytpdoioeckiiegaagreatdoor", sum := "c20ca667f53b71b898063d7c90fcb84e2ff334f59f93063f2f74327aa993d813", func := "waterline/waterlinelaw20.TenantPlays", spec := "tenantPlays", inPlace := ["internal/bytealg.IndexByteString", "internal/bytealg.IndexString"], unfollowed := true, recurses := true, named := ["unicode/utf8.first", "unicode/utf8.acceptRanges", "internal/bytealg.MaxLen"], apart := false, laid := [("unicode/utf8.acceptRanges", laid_unicode_utf8_acceptRanges), ("unicode/utf8.first", laid_unicode_utf8_first)], narrowed := true }
def TenantPlaysUptoSaid : Prop := tenantPlaysUptoRow.holds Tryz.pinned (OpenSpec.upto tenantPlaysSpec)

end Rows
end Go.Proofs.YtpdoioeckiiegaaGreatDoor
