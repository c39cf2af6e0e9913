/-
  DERIVED. GIVEN WITH THE SEED: THE CARDS: each row of YtibopcmgjmhcjaaDoorRows.lean that lists a variable, with what it lists TIED to the program's text (the seventh form; the later family's looks); each row that meets fmt, with fmt's text TOLD by the authors' own Lean function (tested against real Go, not proved from fmt's source: count such statements apart). THE CARD IS WHAT COUNTS. Prove the row's statement (the work); the ties are given (YtibopcmgjmhcjaaDoorTie.lean); close each card by the builder's one call (the guide's Derived/Test/ToyasCard.lean, 'card_holds'). Laid BY PROGRAM, IN A SANDBOX (cutbox-door.mjs). By AI agents, Wed Nov 11 2026. No macro, syntax, notation, axiom, sorry.
-/
import Derived.Test.YtibopcmgjmhcjaaDoorRows
import GoSem.ClaimSeven
namespace Go.Proofs.YtibopcmgjmhcjaaDoor
namespace Rows

/-- THE TIED CARD OF 'downpourlaw9.PrecodeForms'. -/
def precodeFormsCard : Claim7 := { stood := { row := precodeFormsRow, standIns := [], harness := (true, "cacca3ff79083743c0700df7074042c4f76944709df197992fbd80b223c1cc00"), looks := false }, kinds := [], alts := [], laidByText := true, laidKinds := [.data], laidTests := true, laidLooks := .later }
def PrecodeFormsCardSaid : Prop := Claim7.holds Tryd.pinned (.plain (OpenSpec.ofChange precodeFormsSpec)) precodeFormsCard

/-- THE SECOND FORM's CARD OF 'downpourlaw9.PrecodeForms'. -/
def precodeFormsUptoCard : Claim7 := { stood := { row := precodeFormsUptoRow, standIns := [], harness := (true, "cacca3ff79083743c0700df7074042c4f76944709df197992fbd80b223c1cc00"), looks := false }, kinds := [], alts := [], laidByText := true, laidKinds := [.data], laidTests := true, laidLooks := .later }
def PrecodeFormsUptoCardSaid : Prop := Claim7.holds Tryd.pinned (.plain (OpenSpec.upto precodeFormsSpec)) precodeFormsUptoCard
end Rows
end Go.Proofs.YtibopcmgjmhcjaaDoor
