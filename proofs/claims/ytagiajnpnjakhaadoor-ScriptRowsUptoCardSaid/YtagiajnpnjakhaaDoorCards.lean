/-
  DERIVED. GIVEN WITH THE SEED: THE CARDS: each row of YtagiajnpnjakhaaDoorRows.lean that lists a variable, with what it lists TIED to the program's text (the seventh form; the later family's looks); each row that meets fmt, with fmt's text TOLD by the authors' own Lean function (tested against real Go, not proved from fmt's source: count such statements apart). THE CARD IS WHAT COUNTS. Prove the row's statement (the work); the ties are given (YtagiajnpnjakhaaDoorTie.lean); close each card by the builder's one call (the guide's Derived/Test/ToyasCard.lean, 'card_holds'). Laid BY PROGRAM, IN A SANDBOX (cutbox-door.mjs). By AI agents, Wed Nov 11 2026. No macro, syntax, notation, axiom, sorry.
-/
import Derived.Test.YtagiajnpnjakhaaDoorRows
import GoSem.ClaimSeven
namespace Go.Proofs.YtagiajnpnjakhaaDoor
namespace Rows

/-- THE TIED CARD OF 'pinfoldlaw20.Zones'. -/
def zonesCard : Claim7 := { stood := { row := zonesRow, standIns := [], harness := (true, "8084cd99cda26a4062955084c430549321e1ddde16c16e782aa1d817fa1f8716"), looks := true }, kinds := [], alts := [], laidByText := true, laidKinds := [.data, .data, .data, .data, .pinned], laidTests := true, laidLooks := .later }
def ZonesCardSaid : Prop := Claim7.holds Tryd.pinned (.plain (OpenSpec.ofChange zonesSpec)) zonesCard

/-- THE TIED CARD OF 'pinfoldlaw20.ZoneOwns'. -/
def zoneOwnsCard : Claim7 := { stood := { row := zoneOwnsRow, standIns := [], harness := (true, "8084cd99cda26a4062955084c430549321e1ddde16c16e782aa1d817fa1f8716"), looks := true }, kinds := [], alts := [], laidByText := true, laidKinds := [.data, .data, .data, .data, .pinned], laidTests := true, laidLooks := .later }
def ZoneOwnsCardSaid : Prop := Claim7.holds Tryd.pinned (.plain (OpenSpec.ofChange zoneOwnsSpec)) zoneOwnsCard

/-- THE TIED CARD OF 'pinfoldlaw20.ZoneForms'. -/
def zoneFormsCard : Claim7 := { stood := { row := zoneFormsRow, standIns := [], harness := (true, "8084cd99cda26a4062955084c430549321e1ddde16c16e782aa1d817fa1f8716"), looks := true }, kinds := [], alts := [], laidByText := true, laidKinds := [.data, .data, .data, .data, .pinned], laidTests := true, laidLooks := .later }
def ZoneFormsCardSaid : Prop := Claim7.holds Tryd.pinned (.plain (OpenSpec.ofChange zoneFormsSpec)) zoneFormsCard

/-- THE TIED CARD OF 'pinfoldlaw20.ZoneChanges'. -/
def zoneChangesCard : Claim7 := { stood := { row := zoneChangesRow, standIns := [], harness := (true, "8084cd99cda26a4062955084c430549321e1ddde16c16e782aa1d817fa1f8716"), looks := true }, kinds := [], alts := [], laidByText := true, laidKinds := [.data, .data, .data, .data, .pinned], laidTests := true, laidLooks := .later }
def ZoneChangesCardSaid : Prop := Claim7.holds Tryd.pinned (.plain (OpenSpec.ofChange zoneChangesSpec)) zoneChangesCard

/-- THE TIED CARD OF 'pinfoldlaw20.ZoneSwept'. -/
def zoneSweptCard : Claim7 := { stood := { row := zoneSweptRow, standIns := [], harness := (true, "8084cd99cda26a4062955084c430549321e1ddde16c16e782aa1d817fa1f8716"), looks := true }, kinds := [], alts := [], laidByText := true, laidKinds := [.data, .data, .data, .data, .pinned], laidTests := true, laidLooks := .later }
def ZoneSweptCardSaid : Prop := Claim7.holds Tryd.pinned (.plain (OpenSpec.ofChange zoneSweptSpec)) zoneSweptCard

/-- THE TIED CARD OF 'pinfoldlaw24.Scripts'. -/
def scriptsCard : Claim7 := { stood := { row := scriptsRow, standIns := [], harness := (true, "8084cd99cda26a4062955084c430549321e1ddde16c16e782aa1d817fa1f8716"), looks := true }, kinds := [], alts := [], laidByText := true, laidKinds := [.data, .data, .data, .data, .sentinel, .sentinel, .pinned], laidTests := true, laidLooks := .later }
def ScriptsCardSaid : Prop := Claim7.holds Tryd.pinned (.plain (OpenSpec.ofChange scriptsSpec)) scriptsCard

/-- THE TIED CARD OF 'pinfoldlaw24.ScriptBack'. -/
def scriptBackCard : Claim7 := { stood := { row := scriptBackRow, standIns := [], harness := (true, "8084cd99cda26a4062955084c430549321e1ddde16c16e782aa1d817fa1f8716"), looks := true }, kinds := [], alts := [], laidByText := true, laidKinds := [.data, .data, .data, .data, .sentinel, .sentinel, .pinned], laidTests := true, laidLooks := .later }
def ScriptBackCardSaid : Prop := Claim7.holds Tryd.pinned (.plain (OpenSpec.ofChange scriptBackSpec)) scriptBackCard

/-- THE TIED CARD OF 'pinfoldlaw24.ScriptForms'. -/
def scriptFormsCard : Claim7 := { stood := { row := scriptFormsRow, standIns := [], harness := (true, "8084cd99cda26a4062955084c430549321e1ddde16c16e782aa1d817fa1f8716"), looks := true }, kinds := [], alts := [], laidByText := true, laidKinds := [.data, .data, .data, .data, .sentinel, .sentinel, .pinned], laidTests := true, laidLooks := .later }
def ScriptFormsCardSaid : Prop := Claim7.holds Tryd.pinned (.plain (OpenSpec.ofChange scriptFormsSpec)) scriptFormsCard

/-- THE TIED CARD OF 'pinfoldlaw24.ScriptRows'. -/
def scriptRowsCard : Claim7 := { stood := { row := scriptRowsRow, standIns := [], harness := (true, "8084cd99cda26a4062955084c430549321e1ddde16c16e782aa1d817fa1f8716"), looks := true }, kinds := [], alts := [], laidByText := true, laidKinds := [.data, .data, .data, .data, .sentinel, .sentinel, .pinned], laidTests := true, laidLooks := .later }
def ScriptRowsCardSaid : Prop := Claim7.holds Tryd.pinned (.plain (OpenSpec.ofChange scriptRowsSpec)) scriptRowsCard

/-- THE SECOND FORM's CARD OF 'pinfoldlaw20.Zones'. -/
def zonesUptoCard : Claim7 := { stood := { row := zonesUptoRow, standIns := [], harness := (true, "8084cd99cda26a4062955084c430549321e1ddde16c16e782aa1d817fa1f8716"), looks := true }, kinds := [], alts := [], laidByText := true, laidKinds := [.data, .data, .data, .data, .pinned], laidTests := true, laidLooks := .later }
def ZonesUptoCardSaid : Prop := Claim7.holds Tryd.pinned (.plain (OpenSpec.upto zonesSpec)) zonesUptoCard

/-- THE SECOND FORM's CARD OF 'pinfoldlaw20.ZoneOwns'. -/
def zoneOwnsUptoCard : Claim7 := { stood := { row := zoneOwnsUptoRow, standIns := [], harness := (true, "8084cd99cda26a4062955084c430549321e1ddde16c16e782aa1d817fa1f8716"), looks := true }, kinds := [], alts := [], laidByText := true, laidKinds := [.data, .data, .data, .data, .pinned], laidTests := true, laidLooks := .later }
def ZoneOwnsUptoCardSaid : Prop := Claim7.holds Tryd.pinned (.plain (OpenSpec.upto zoneOwnsSpec)) zoneOwnsUptoCard

/-- THE SECOND FORM's CARD OF 'pinfoldlaw20.ZoneForms'. -/
def zoneFormsUptoCard : Claim7 := { stood := { row := zoneFormsUptoRow, standIns := [], harness := (true, "8084cd99cda26a4062955084c430549321e1ddde16c16e782aa1d817fa1f8716"), looks := true }, kinds := [], alts := [], laidByText := true, laidKinds := [.data, .data, .data, .data, .pinned], laidTests := true, laidLooks := .later }
def ZoneFormsUptoCardSaid : Prop := Claim7.holds Tryd.pinned (.plain (OpenSpec.upto zoneFormsSpec)) zoneFormsUptoCard

/-- THE SECOND FORM's CARD OF 'pinfoldlaw20.ZoneChanges'. -/
def zoneChangesUptoCard : Claim7 := { stood := { row := zoneChangesUptoRow, standIns := [], harness := (true, "8084cd99cda26a4062955084c430549321e1ddde16c16e782aa1d817fa1f8716"), looks := true }, kinds := [], alts := [], laidByText := true, laidKinds := [.data, .data, .data, .data, .pinned], laidTests := true, laidLooks := .later }
def ZoneChangesUptoCardSaid : Prop := Claim7.holds Tryd.pinned (.plain (OpenSpec.upto zoneChangesSpec)) zoneChangesUptoCard

/-- THE SECOND FORM's CARD OF 'pinfoldlaw20.ZoneSwept'. -/
def zoneSweptUptoCard : Claim7 := { stood := { row := zoneSweptUptoRow, standIns := [], harness := (true, "8084cd99cda26a4062955084c430549321e1ddde16c16e782aa1d817fa1f8716"), looks := true }, kinds := [], alts := [], laidByText := true, laidKinds := [.data, .data, .data, .data, .pinned], laidTests := true, laidLooks := .later }
def ZoneSweptUptoCardSaid : Prop := Claim7.holds Tryd.pinned (.plain (OpenSpec.upto zoneSweptSpec)) zoneSweptUptoCard

/-- THE SECOND FORM's CARD OF 'pinfoldlaw24.Scripts'. -/
def scriptsUptoCard : Claim7 := { stood := { row := scriptsUptoRow, standIns := [], harness := (true, "8084cd99cda26a4062955084c430549321e1ddde16c16e782aa1d817fa1f8716"), looks := true }, kinds := [], alts := [], laidByText := true, laidKinds := [.data, .data, .data, .data, .sentinel, .sentinel, .pinned], laidTests := true, laidLooks := .later }
def ScriptsUptoCardSaid : Prop := Claim7.holds Tryd.pinned (.plain (OpenSpec.upto scriptsSpec)) scriptsUptoCard

/-- THE SECOND FORM's CARD OF 'pinfoldlaw24.ScriptBack'. -/
def scriptBackUptoCard : Claim7 := { stood := { row := scriptBackUptoRow, standIns := [], harness := (true, "8084cd99cda26a4062955084c430549321e1ddde16c16e782aa1d817fa1f8716"), looks := true }, kinds := [], alts := [], laidByText := true, laidKinds := [.data, .data, .data, .data, .sentinel, .sentinel, .pinned], laidTests := true, laidLooks := .later }
def ScriptBackUptoCardSaid : Prop := Claim7.holds Tryd.pinned (.plain (OpenSpec.upto scriptBackSpec)) scriptBackUptoCard

/-- THE SECOND FORM's CARD OF 'pinfoldlaw24.ScriptForms'. -/
def scriptFormsUptoCard : Claim7 := { stood := { row := scriptFormsUptoRow, standIns := [], harness := (true, "8084cd99cda26a4062955084c430549321e1ddde16c16e782aa1d817fa1f8716"), looks := true }, kinds := [], alts := [], laidByText := true, laidKinds := [.data, .data, .data, .data, .sentinel, .sentinel, .pinned], laidTests := true, laidLooks := .later }
def ScriptFormsUptoCardSaid : Prop := Claim7.holds Tryd.pinned (.plain (OpenSpec.upto scriptFormsSpec)) scriptFormsUptoCard

/-- THE SECOND FORM's CARD OF 'pinfoldlaw24.ScriptRows'. -/
def scriptRowsUptoCard : Claim7 := { stood := { row := scriptRowsUptoRow, standIns := [], harness := (true, "8084cd99cda26a4062955084c430549321e1ddde16c16e782aa1d817fa1f8716"), looks := true }, kinds := [], alts := [], laidByText := true, laidKinds := [.data, .data, .data, .data, .sentinel, .sentinel, .pinned], laidTests := true, laidLooks := .later }
def ScriptRowsUptoCardSaid : Prop := Claim7.holds Tryd.pinned (.plain (OpenSpec.upto scriptRowsSpec)) scriptRowsUptoCard
end Rows
end Go.Proofs.YtagiajnpnjakhaaDoor
