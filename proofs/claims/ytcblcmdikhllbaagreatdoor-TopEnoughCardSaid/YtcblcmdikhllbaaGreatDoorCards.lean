/-
  DERIVED. GIVEN WITH THE SEED: THE CARDS: each row of YtcblcmdikhllbaaGreatDoorRows.lean that lists a variable, with what it lists TIED to the program's text (the seventh form; the later family's looks); each row that meets fmt, with fmt's text TOLD by the authors' own Lean function (tested against real Go, not proved from fmt's source: count such statements apart). THE CARD IS WHAT COUNTS. Prove the row's statement (the work); the ties are given (YtcblcmdikhllbaaGreatDoorTie.lean); close each card by the builder's one call (the guide's Derived/Test/ToyasCard.lean, 'card_holds'). Laid BY PROGRAM, IN A SANDBOX (cutbox-door.mjs). By AI agents, Wed Nov 11 2026. No macro, syntax, notation, axiom, sorry.
-/
import Derived.Test.YtcblcmdikhllbaaGreatDoorRows
import GoSem.ClaimSeven
namespace Go.Proofs.YtcblcmdikhllbaaGreatDoor
namespace Rows

/-- THE TIED CARD OF 'downpourtop.TopSwitch'. -/
def topSwitchCard : Claim7 := { stood := { row := topSwitchRow, standIns := [], harness := (true, "95ee6cf86de66eec2179caafc07f2e60140ca96dbebcb3b75b5a62695a820bbd"), looks := false }, kinds := [], alts := [], laidByText := true, laidKinds := [.data], laidTests := true, laidLooks := .later }
def TopSwitchCardSaid : Prop := Claim7.holds Tryz.pinned (.plain (OpenSpec.ofChange topSwitchSpec)) topSwitchCard

/-- THE TIED CARD OF 'downpourtop.TopFallen'. -/
def topFallenCard : Claim7 := { stood := { row := topFallenRow, standIns := [], harness := (true, "95ee6cf86de66eec2179caafc07f2e60140ca96dbebcb3b75b5a62695a820bbd"), looks := false }, kinds := [], alts := [], laidByText := true, laidKinds := [.data], laidTests := true, laidLooks := .later }
def TopFallenCardSaid : Prop := Claim7.holds Tryz.pinned (.plain (OpenSpec.ofChange topFallenSpec)) topFallenCard

/-- THE TIED CARD OF 'downpourtop.TopTrial'. -/
def topTrialCard : Claim7 := { stood := { row := topTrialRow, standIns := [], harness := (true, "95ee6cf86de66eec2179caafc07f2e60140ca96dbebcb3b75b5a62695a820bbd"), looks := false }, kinds := [], alts := [], laidByText := true, laidKinds := [.data], laidTests := true, laidLooks := .later }
def TopTrialCardSaid : Prop := Claim7.holds Tryz.pinned (.plain (OpenSpec.ofChange topTrialSpec)) topTrialCard

/-- THE TIED CARD OF 'downpourtop.TopEnough'. -/
def topEnoughCard : Claim7 := { stood := { row := topEnoughRow, standIns := [], harness := (true, "95ee6cf86de66eec2179caafc07f2e60140ca96dbebcb3b75b5a62695a820bbd"), looks := false }, kinds := [], alts := [], laidByText := true, laidKinds := [.data], laidTests := true, laidLooks := .later }
def TopEnoughCardSaid : Prop := Claim7.holds Tryz.pinned (.plain (OpenSpec.ofChange topEnoughSpec)) topEnoughCard

/-- THE SECOND FORM's CARD OF 'downpourtop.TopSwitch'. -/
def topSwitchUptoCard : Claim7 := { stood := { row := topSwitchUptoRow, standIns := [], harness := (true, "95ee6cf86de66eec2179caafc07f2e60140ca96dbebcb3b75b5a62695a820bbd"), looks := false }, kinds := [], alts := [], laidByText := true, laidKinds := [.data], laidTests := true, laidLooks := .later }
def TopSwitchUptoCardSaid : Prop := Claim7.holds Tryz.pinned (.plain (OpenSpec.upto topSwitchSpec)) topSwitchUptoCard

/-- THE SECOND FORM's CARD OF 'downpourtop.TopFallen'. -/
def topFallenUptoCard : Claim7 := { stood := { row := topFallenUptoRow, standIns := [], harness := (true, "95ee6cf86de66eec2179caafc07f2e60140ca96dbebcb3b75b5a62695a820bbd"), looks := false }, kinds := [], alts := [], laidByText := true, laidKinds := [.data], laidTests := true, laidLooks := .later }
def TopFallenUptoCardSaid : Prop := Claim7.holds Tryz.pinned (.plain (OpenSpec.upto topFallenSpec)) topFallenUptoCard

/-- THE SECOND FORM's CARD OF 'downpourtop.TopTrial'. -/
def topTrialUptoCard : Claim7 := { stood := { row := topTrialUptoRow, standIns := [], harness := (true, "95ee6cf86de66eec2179caafc07f2e60140ca96dbebcb3b75b5a62695a820bbd"), looks := false }, kinds := [], alts := [], laidByText := true, laidKinds := [.data], laidTests := true, laidLooks := .later }
def TopTrialUptoCardSaid : Prop := Claim7.holds Tryz.pinned (.plain (OpenSpec.upto topTrialSpec)) topTrialUptoCard

/-- THE SECOND FORM's CARD OF 'downpourtop.TopEnough'. -/
def topEnoughUptoCard : Claim7 := { stood := { row := topEnoughUptoRow, standIns := [], harness := (true, "95ee6cf86de66eec2179caafc07f2e60140ca96dbebcb3b75b5a62695a820bbd"), looks := false }, kinds := [], alts := [], laidByText := true, laidKinds := [.data], laidTests := true, laidLooks := .later }
def TopEnoughUptoCardSaid : Prop := Claim7.holds Tryz.pinned (.plain (OpenSpec.upto topEnoughSpec)) topEnoughUptoCard
end Rows
end Go.Proofs.YtcblcmdikhllbaaGreatDoor
