/-
  DERIVED. GIVEN WITH THE SEED: THE CARDS: each row of YtlfpejnpjpmejaaGreatDoorRows.lean that lists a variable, with what it lists TIED to the program's text (the seventh form; the later family's looks); each row that meets fmt, with fmt's text TOLD by the authors' own Lean function (tested against real Go, not proved from fmt's source: count such statements apart). THE CARD IS WHAT COUNTS. Prove the row's statement (the work); the ties are given (YtlfpejnpjpmejaaGreatDoorTie.lean); close each card by the builder's one call (the guide's Derived/Test/ToyasCard.lean, 'card_holds'). Laid BY PROGRAM, IN A SANDBOX (cutbox-door.mjs). By AI agents, Wed Nov 11 2026. No macro, syntax, notation, axiom, sorry.
-/
import Derived.Test.YtlfpejnpjpmejaaGreatDoorRows
import GoSem.ClaimSeven
namespace Go.Proofs.YtlfpejnpjpmejaaGreatDoor
namespace Rows

/-- THE TIED CARD OF 'laws.FnExactIsPrimal'. -/
def fnExactIsPrimalCard : Claim7 := { stood := { row := fnExactIsPrimalRow, standIns := [], harness := (true, "3a4c442088b5cda630f127d9edae90c0c619b6f8d585e6b5bf716be15a3ac789"), looks := false }, kinds := [], alts := [], laidByText := true, laidKinds := [.data, .pinned], laidTests := true, laidLooks := .later }
def FnExactIsPrimalCardSaid : Prop := Claim7.holds Tryz.pinned (.plain (OpenSpec.ofChange fnExactIsPrimalSpec)) fnExactIsPrimalCard

/-- THE TIED CARD OF 'laws.FnExactIsQuasiprimal'. -/
def fnExactIsQuasiprimalCard : Claim7 := { stood := { row := fnExactIsQuasiprimalRow, standIns := [], harness := (true, "3a4c442088b5cda630f127d9edae90c0c619b6f8d585e6b5bf716be15a3ac789"), looks := false }, kinds := [], alts := [], laidByText := true, laidKinds := [.data, .pinned], laidTests := true, laidLooks := .later }
def FnExactIsQuasiprimalCardSaid : Prop := Claim7.holds Tryz.pinned (.plain (OpenSpec.ofChange fnExactIsQuasiprimalSpec)) fnExactIsQuasiprimalCard

/-- THE TIED CARD OF 'laws.FnExactIsCompleteWithConstants'. -/
def fnExactIsCompleteWithConstantsCard : Claim7 := { stood := { row := fnExactIsCompleteWithConstantsRow, standIns := [], harness := (true, "3a4c442088b5cda630f127d9edae90c0c619b6f8d585e6b5bf716be15a3ac789"), looks := false }, kinds := [], alts := [], laidByText := true, laidKinds := [.data, .pinned], laidTests := true, laidLooks := .later }
def FnExactIsCompleteWithConstantsCardSaid : Prop := Claim7.holds Tryz.pinned (.plain (OpenSpec.ofChange fnExactIsCompleteWithConstantsSpec)) fnExactIsCompleteWithConstantsCard

/-- THE SECOND FORM's CARD OF 'laws.FnExactIsPrimal'. -/
def fnExactIsPrimalUptoCard : Claim7 := { stood := { row := fnExactIsPrimalUptoRow, standIns := [], harness := (true, "3a4c442088b5cda630f127d9edae90c0c619b6f8d585e6b5bf716be15a3ac789"), looks := false }, kinds := [], alts := [], laidByText := true, laidKinds := [.data, .pinned], laidTests := true, laidLooks := .later }
def FnExactIsPrimalUptoCardSaid : Prop := Claim7.holds Tryz.pinned (.plain (OpenSpec.upto fnExactIsPrimalSpec)) fnExactIsPrimalUptoCard

/-- THE SECOND FORM's CARD OF 'laws.FnExactIsQuasiprimal'. -/
def fnExactIsQuasiprimalUptoCard : Claim7 := { stood := { row := fnExactIsQuasiprimalUptoRow, standIns := [], harness := (true, "3a4c442088b5cda630f127d9edae90c0c619b6f8d585e6b5bf716be15a3ac789"), looks := false }, kinds := [], alts := [], laidByText := true, laidKinds := [.data, .pinned], laidTests := true, laidLooks := .later }
def FnExactIsQuasiprimalUptoCardSaid : Prop := Claim7.holds Tryz.pinned (.plain (OpenSpec.upto fnExactIsQuasiprimalSpec)) fnExactIsQuasiprimalUptoCard

/-- THE SECOND FORM's CARD OF 'laws.FnExactIsCompleteWithConstants'. -/
def fnExactIsCompleteWithConstantsUptoCard : Claim7 := { stood := { row := fnExactIsCompleteWithConstantsUptoRow, standIns := [], harness := (true, "3a4c442088b5cda630f127d9edae90c0c619b6f8d585e6b5bf716be15a3ac789"), looks := false }, kinds := [], alts := [], laidByText := true, laidKinds := [.data, .pinned], laidTests := true, laidLooks := .later }
def FnExactIsCompleteWithConstantsUptoCardSaid : Prop := Claim7.holds Tryz.pinned (.plain (OpenSpec.upto fnExactIsCompleteWithConstantsSpec)) fnExactIsCompleteWithConstantsUptoCard
end Rows
end Go.Proofs.YtlfpejnpjpmejaaGreatDoor
