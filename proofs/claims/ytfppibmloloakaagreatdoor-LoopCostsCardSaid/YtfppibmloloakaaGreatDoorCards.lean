/-
  DERIVED. GIVEN WITH THE SEED: THE CARDS: each row of YtfppibmloloakaaGreatDoorRows.lean that lists a variable, with what it lists TIED to the program's text (the seventh form; the later family's looks); each row that meets fmt, with fmt's text TOLD by the authors' own Lean function (tested against real Go, not proved from fmt's source: count such statements apart). THE CARD IS WHAT COUNTS. Prove the row's statement (the work); the ties are given (YtfppibmloloakaaGreatDoorTie.lean); close each card by the builder's one call (the guide's Derived/Test/ToyasCard.lean, 'card_holds'). Laid BY PROGRAM, IN A SANDBOX (cutbox-door.mjs). By AI agents, Wed Nov 11 2026. No macro, syntax, notation, axiom, sorry.
-/
import Derived.Test.YtfppibmloloakaaGreatDoorRows
import GoSem.ClaimSeven
namespace Go.Proofs.YtfppibmloloakaaGreatDoor
namespace Rows

/-- THE TIED CARD OF 'weftlaw2.LoopLimits'. -/
def loopLimitsCard : Claim7 := { stood := { row := loopLimitsRow, standIns := [], harness := (true, "a6251ad28f138a37813f277ad9e3eff936edd3b1f560ba09b82ece8b504ab376"), looks := true }, kinds := [], alts := [], laidByText := true, laidKinds := [.data, .pinned], laidTests := true, laidLooks := .later }
def LoopLimitsCardSaid : Prop := Claim7.holds Tryz.pinned (.plain (OpenSpec.ofChange loopLimitsSpec)) loopLimitsCard

/-- THE TIED CARD OF 'weftlaw2.LoopChecks'. -/
def loopChecksCard : Claim7 := { stood := { row := loopChecksRow, standIns := [], harness := (true, "a6251ad28f138a37813f277ad9e3eff936edd3b1f560ba09b82ece8b504ab376"), looks := true }, kinds := [], alts := [], laidByText := true, laidKinds := [.data, .pinned], laidTests := true, laidLooks := .later }
def LoopChecksCardSaid : Prop := Claim7.holds Tryz.pinned (.plain (OpenSpec.ofChange loopChecksSpec)) loopChecksCard

/-- THE TIED CARD OF 'weftlaw2.LoopInstances'. -/
def loopInstancesCard : Claim7 := { stood := { row := loopInstancesRow, standIns := [], harness := (true, "a6251ad28f138a37813f277ad9e3eff936edd3b1f560ba09b82ece8b504ab376"), looks := true }, kinds := [], alts := [], laidByText := true, laidKinds := [.data, .pinned], laidTests := true, laidLooks := .later }
def LoopInstancesCardSaid : Prop := Claim7.holds Tryz.pinned (.plain (OpenSpec.ofChange loopInstancesSpec)) loopInstancesCard

/-- THE TIED CARD OF 'weftlaw2.LoopCosts'. -/
def loopCostsCard : Claim7 := { stood := { row := loopCostsRow, standIns := [], harness := (true, "a6251ad28f138a37813f277ad9e3eff936edd3b1f560ba09b82ece8b504ab376"), looks := true }, kinds := [], alts := [], laidByText := true, laidKinds := [.data, .pinned], laidTests := true, laidLooks := .later }
def LoopCostsCardSaid : Prop := Claim7.holds Tryz.pinned (.plain (OpenSpec.ofChange loopCostsSpec)) loopCostsCard

/-- THE TIED CARD OF 'weftlaw2.LoopParallels'. -/
def loopParallelsCard : Claim7 := { stood := { row := loopParallelsRow, standIns := [], harness := (true, "a6251ad28f138a37813f277ad9e3eff936edd3b1f560ba09b82ece8b504ab376"), looks := true }, kinds := [], alts := [], laidByText := true, laidKinds := [.data, .pinned], laidTests := true, laidLooks := .later }
def LoopParallelsCardSaid : Prop := Claim7.holds Tryz.pinned (.plain (OpenSpec.ofChange loopParallelsSpec)) loopParallelsCard

/-- THE TIED CARD OF 'weftlaw2.LoopDepends'. -/
def loopDependsCard : Claim7 := { stood := { row := loopDependsRow, standIns := [], harness := (true, "a6251ad28f138a37813f277ad9e3eff936edd3b1f560ba09b82ece8b504ab376"), looks := true }, kinds := [], alts := [], laidByText := true, laidKinds := [.data, .pinned], laidTests := true, laidLooks := .later }
def LoopDependsCardSaid : Prop := Claim7.holds Tryz.pinned (.plain (OpenSpec.ofChange loopDependsSpec)) loopDependsCard

/-- THE SECOND FORM's CARD OF 'weftlaw2.LoopLimits'. -/
def loopLimitsUptoCard : Claim7 := { stood := { row := loopLimitsUptoRow, standIns := [], harness := (true, "a6251ad28f138a37813f277ad9e3eff936edd3b1f560ba09b82ece8b504ab376"), looks := true }, kinds := [], alts := [], laidByText := true, laidKinds := [.data, .pinned], laidTests := true, laidLooks := .later }
def LoopLimitsUptoCardSaid : Prop := Claim7.holds Tryz.pinned (.plain (OpenSpec.upto loopLimitsSpec)) loopLimitsUptoCard

/-- THE SECOND FORM's CARD OF 'weftlaw2.LoopChecks'. -/
def loopChecksUptoCard : Claim7 := { stood := { row := loopChecksUptoRow, standIns := [], harness := (true, "a6251ad28f138a37813f277ad9e3eff936edd3b1f560ba09b82ece8b504ab376"), looks := true }, kinds := [], alts := [], laidByText := true, laidKinds := [.data, .pinned], laidTests := true, laidLooks := .later }
def LoopChecksUptoCardSaid : Prop := Claim7.holds Tryz.pinned (.plain (OpenSpec.upto loopChecksSpec)) loopChecksUptoCard

/-- THE SECOND FORM's CARD OF 'weftlaw2.LoopInstances'. -/
def loopInstancesUptoCard : Claim7 := { stood := { row := loopInstancesUptoRow, standIns := [], harness := (true, "a6251ad28f138a37813f277ad9e3eff936edd3b1f560ba09b82ece8b504ab376"), looks := true }, kinds := [], alts := [], laidByText := true, laidKinds := [.data, .pinned], laidTests := true, laidLooks := .later }
def LoopInstancesUptoCardSaid : Prop := Claim7.holds Tryz.pinned (.plain (OpenSpec.upto loopInstancesSpec)) loopInstancesUptoCard

/-- THE SECOND FORM's CARD OF 'weftlaw2.LoopCosts'. -/
def loopCostsUptoCard : Claim7 := { stood := { row := loopCostsUptoRow, standIns := [], harness := (true, "a6251ad28f138a37813f277ad9e3eff936edd3b1f560ba09b82ece8b504ab376"), looks := true }, kinds := [], alts := [], laidByText := true, laidKinds := [.data, .pinned], laidTests := true, laidLooks := .later }
def LoopCostsUptoCardSaid : Prop := Claim7.holds Tryz.pinned (.plain (OpenSpec.upto loopCostsSpec)) loopCostsUptoCard

/-- THE SECOND FORM's CARD OF 'weftlaw2.LoopParallels'. -/
def loopParallelsUptoCard : Claim7 := { stood := { row := loopParallelsUptoRow, standIns := [], harness := (true, "a6251ad28f138a37813f277ad9e3eff936edd3b1f560ba09b82ece8b504ab376"), looks := true }, kinds := [], alts := [], laidByText := true, laidKinds := [.data, .pinned], laidTests := true, laidLooks := .later }
def LoopParallelsUptoCardSaid : Prop := Claim7.holds Tryz.pinned (.plain (OpenSpec.upto loopParallelsSpec)) loopParallelsUptoCard

/-- THE SECOND FORM's CARD OF 'weftlaw2.LoopDepends'. -/
def loopDependsUptoCard : Claim7 := { stood := { row := loopDependsUptoRow, standIns := [], harness := (true, "a6251ad28f138a37813f277ad9e3eff936edd3b1f560ba09b82ece8b504ab376"), looks := true }, kinds := [], alts := [], laidByText := true, laidKinds := [.data, .pinned], laidTests := true, laidLooks := .later }
def LoopDependsUptoCardSaid : Prop := Claim7.holds Tryz.pinned (.plain (OpenSpec.upto loopDependsSpec)) loopDependsUptoCard
end Rows
end Go.Proofs.YtfppibmloloakaaGreatDoor
