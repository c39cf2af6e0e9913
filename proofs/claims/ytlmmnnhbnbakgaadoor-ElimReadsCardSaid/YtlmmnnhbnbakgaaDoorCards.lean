/-
  DERIVED. GIVEN WITH THE SEED: THE CARDS: each row of YtlmmnnhbnbakgaaDoorRows.lean that lists a variable, with what it lists TIED to the program's text (the seventh form; the later family's looks); each row that meets fmt, with fmt's text TOLD by the authors' own Lean function (tested against real Go, not proved from fmt's source: count such statements apart). THE CARD IS WHAT COUNTS. Prove the row's statement (the work); the ties are given (YtlmmnnhbnbakgaaDoorTie.lean); close each card by the builder's one call (the guide's Derived/Test/ToyasCard.lean, 'card_holds'). Laid BY PROGRAM, IN A SANDBOX (cutbox-door.mjs). By AI agents, Wed Nov 11 2026. No macro, syntax, notation, axiom, sorry.
-/
import Derived.Test.YtlmmnnhbnbakgaaDoorRows
import GoSem.ClaimSeven
namespace Go.Proofs.YtlmmnnhbnbakgaaDoor
namespace Rows

/-- THE TIED CARD OF 'downpourlaw5.VecSets'. -/
def vecSetsCard : Claim7 := { stood := { row := vecSetsRow, standIns := [], harness := (true, "a86f970cdf3d31d5711ff54bc331b97b3681b14cac6e1d5beabc3c4aa9308179"), looks := false }, kinds := [], alts := [], laidByText := true, laidKinds := [.data], laidTests := true, laidLooks := .later }
def VecSetsCardSaid : Prop := Claim7.holds Tryd.pinned (.plain (OpenSpec.ofChange vecSetsSpec)) vecSetsCard

/-- THE TIED CARD OF 'downpourlaw5.VecOrder'. -/
def vecOrderCard : Claim7 := { stood := { row := vecOrderRow, standIns := [], harness := (true, "a86f970cdf3d31d5711ff54bc331b97b3681b14cac6e1d5beabc3c4aa9308179"), looks := false }, kinds := [], alts := [], laidByText := true, laidKinds := [.data], laidTests := true, laidLooks := .later }
def VecOrderCardSaid : Prop := Claim7.holds Tryd.pinned (.plain (OpenSpec.ofChange vecOrderSpec)) vecOrderCard

/-- THE TIED CARD OF 'downpourlaw6.ElimUnits'. -/
def elimUnitsCard : Claim7 := { stood := { row := elimUnitsRow, standIns := [], harness := (true, "a86f970cdf3d31d5711ff54bc331b97b3681b14cac6e1d5beabc3c4aa9308179"), looks := false }, kinds := [], alts := [], laidByText := true, laidKinds := [.data], laidTests := true, laidLooks := .later }
def ElimUnitsCardSaid : Prop := Claim7.holds Tryd.pinned (.plain (OpenSpec.ofChange elimUnitsSpec)) elimUnitsCard

/-- THE TIED CARD OF 'downpourlaw5.VecForms'. -/
def vecFormsCard : Claim7 := { stood := { row := vecFormsRow, standIns := [], harness := (true, "a86f970cdf3d31d5711ff54bc331b97b3681b14cac6e1d5beabc3c4aa9308179"), looks := false }, kinds := [], alts := [], laidByText := true, laidKinds := [.data], laidTests := true, laidLooks := .later }
def VecFormsCardSaid : Prop := Claim7.holds Tryd.pinned (.plain (OpenSpec.ofChange vecFormsSpec)) vecFormsCard

/-- THE TIED CARD OF 'downpourlaw5.VecNil'. -/
def vecNilCard : Claim7 := { stood := { row := vecNilRow, standIns := [], harness := (true, "a86f970cdf3d31d5711ff54bc331b97b3681b14cac6e1d5beabc3c4aa9308179"), looks := false }, kinds := [], alts := [], laidByText := true, laidKinds := [.data], laidTests := true, laidLooks := .later }
def VecNilCardSaid : Prop := Claim7.holds Tryd.pinned (.plain (OpenSpec.ofChange vecNilSpec)) vecNilCard

/-- THE TIED CARD OF 'downpourlaw5.VecTwice'. -/
def vecTwiceCard : Claim7 := { stood := { row := vecTwiceRow, standIns := [], harness := (true, "a86f970cdf3d31d5711ff54bc331b97b3681b14cac6e1d5beabc3c4aa9308179"), looks := false }, kinds := [], alts := [], laidByText := true, laidKinds := [.data], laidTests := true, laidLooks := .later }
def VecTwiceCardSaid : Prop := Claim7.holds Tryd.pinned (.plain (OpenSpec.ofChange vecTwiceSpec)) vecTwiceCard

/-- THE TIED CARD OF 'downpourlaw6.ElimNil'. -/
def elimNilCard : Claim7 := { stood := { row := elimNilRow, standIns := [], harness := (true, "a86f970cdf3d31d5711ff54bc331b97b3681b14cac6e1d5beabc3c4aa9308179"), looks := false }, kinds := [], alts := [], laidByText := true, laidKinds := [.data], laidTests := true, laidLooks := .later }
def ElimNilCardSaid : Prop := Claim7.holds Tryd.pinned (.plain (OpenSpec.ofChange elimNilSpec)) elimNilCard

/-- THE TIED CARD OF 'downpourlaw6.ElimSpans'. -/
def elimSpansCard : Claim7 := { stood := { row := elimSpansRow, standIns := [], harness := (true, "a86f970cdf3d31d5711ff54bc331b97b3681b14cac6e1d5beabc3c4aa9308179"), looks := false }, kinds := [], alts := [], laidByText := true, laidKinds := [.data], laidTests := true, laidLooks := .later }
def ElimSpansCardSaid : Prop := Claim7.holds Tryd.pinned (.plain (OpenSpec.ofChange elimSpansSpec)) elimSpansCard

/-- THE TIED CARD OF 'downpourlaw6.ElimBytes'. -/
def elimBytesCard : Claim7 := { stood := { row := elimBytesRow, standIns := [], harness := (true, "a86f970cdf3d31d5711ff54bc331b97b3681b14cac6e1d5beabc3c4aa9308179"), looks := false }, kinds := [], alts := [], laidByText := true, laidKinds := [.data], laidTests := true, laidLooks := .later }
def ElimBytesCardSaid : Prop := Claim7.holds Tryd.pinned (.plain (OpenSpec.ofChange elimBytesSpec)) elimBytesCard

/-- THE TIED CARD OF 'downpourlaw6.ElimPlays'. -/
def elimPlaysCard : Claim7 := { stood := { row := elimPlaysRow, standIns := [], harness := (true, "a86f970cdf3d31d5711ff54bc331b97b3681b14cac6e1d5beabc3c4aa9308179"), looks := false }, kinds := [], alts := [], laidByText := true, laidKinds := [.data], laidTests := true, laidLooks := .later }
def ElimPlaysCardSaid : Prop := Claim7.holds Tryd.pinned (.plain (OpenSpec.ofChange elimPlaysSpec)) elimPlaysCard

/-- THE TIED CARD OF 'downpourlaw6.ElimReads'. -/
def elimReadsCard : Claim7 := { stood := { row := elimReadsRow, standIns := [], harness := (true, "a86f970cdf3d31d5711ff54bc331b97b3681b14cac6e1d5beabc3c4aa9308179"), looks := false }, kinds := [], alts := [], laidByText := true, laidKinds := [.data], laidTests := true, laidLooks := .later }
def ElimReadsCardSaid : Prop := Claim7.holds Tryd.pinned (.plain (OpenSpec.ofChange elimReadsSpec)) elimReadsCard

/-- THE SECOND FORM's CARD OF 'downpourlaw5.VecSets'. -/
def vecSetsUptoCard : Claim7 := { stood := { row := vecSetsUptoRow, standIns := [], harness := (true, "a86f970cdf3d31d5711ff54bc331b97b3681b14cac6e1d5beabc3c4aa9308179"), looks := false }, kinds := [], alts := [], laidByText := true, laidKinds := [.data], laidTests := true, laidLooks := .later }
def VecSetsUptoCardSaid : Prop := Claim7.holds Tryd.pinned (.plain (OpenSpec.upto vecSetsSpec)) vecSetsUptoCard

/-- THE SECOND FORM's CARD OF 'downpourlaw5.VecOrder'. -/
def vecOrderUptoCard : Claim7 := { stood := { row := vecOrderUptoRow, standIns := [], harness := (true, "a86f970cdf3d31d5711ff54bc331b97b3681b14cac6e1d5beabc3c4aa9308179"), looks := false }, kinds := [], alts := [], laidByText := true, laidKinds := [.data], laidTests := true, laidLooks := .later }
def VecOrderUptoCardSaid : Prop := Claim7.holds Tryd.pinned (.plain (OpenSpec.upto vecOrderSpec)) vecOrderUptoCard

/-- THE SECOND FORM's CARD OF 'downpourlaw6.ElimUnits'. -/
def elimUnitsUptoCard : Claim7 := { stood := { row := elimUnitsUptoRow, standIns := [], harness := (true, "a86f970cdf3d31d5711ff54bc331b97b3681b14cac6e1d5beabc3c4aa9308179"), looks := false }, kinds := [], alts := [], laidByText := true, laidKinds := [.data], laidTests := true, laidLooks := .later }
def ElimUnitsUptoCardSaid : Prop := Claim7.holds Tryd.pinned (.plain (OpenSpec.upto elimUnitsSpec)) elimUnitsUptoCard

/-- THE SECOND FORM's CARD OF 'downpourlaw5.VecForms'. -/
def vecFormsUptoCard : Claim7 := { stood := { row := vecFormsUptoRow, standIns := [], harness := (true, "a86f970cdf3d31d5711ff54bc331b97b3681b14cac6e1d5beabc3c4aa9308179"), looks := false }, kinds := [], alts := [], laidByText := true, laidKinds := [.data], laidTests := true, laidLooks := .later }
def VecFormsUptoCardSaid : Prop := Claim7.holds Tryd.pinned (.plain (OpenSpec.upto vecFormsSpec)) vecFormsUptoCard

/-- THE SECOND FORM's CARD OF 'downpourlaw5.VecNil'. -/
def vecNilUptoCard : Claim7 := { stood := { row := vecNilUptoRow, standIns := [], harness := (true, "a86f970cdf3d31d5711ff54bc331b97b3681b14cac6e1d5beabc3c4aa9308179"), looks := false }, kinds := [], alts := [], laidByText := true, laidKinds := [.data], laidTests := true, laidLooks := .later }
def VecNilUptoCardSaid : Prop := Claim7.holds Tryd.pinned (.plain (OpenSpec.upto vecNilSpec)) vecNilUptoCard

/-- THE SECOND FORM's CARD OF 'downpourlaw5.VecTwice'. -/
def vecTwiceUptoCard : Claim7 := { stood := { row := vecTwiceUptoRow, standIns := [], harness := (true, "a86f970cdf3d31d5711ff54bc331b97b3681b14cac6e1d5beabc3c4aa9308179"), looks := false }, kinds := [], alts := [], laidByText := true, laidKinds := [.data], laidTests := true, laidLooks := .later }
def VecTwiceUptoCardSaid : Prop := Claim7.holds Tryd.pinned (.plain (OpenSpec.upto vecTwiceSpec)) vecTwiceUptoCard

/-- THE SECOND FORM's CARD OF 'downpourlaw6.ElimNil'. -/
def elimNilUptoCard : Claim7 := { stood := { row := elimNilUptoRow, standIns := [], harness := (true, "a86f970cdf3d31d5711ff54bc331b97b3681b14cac6e1d5beabc3c4aa9308179"), looks := false }, kinds := [], alts := [], laidByText := true, laidKinds := [.data], laidTests := true, laidLooks := .later }
def ElimNilUptoCardSaid : Prop := Claim7.holds Tryd.pinned (.plain (OpenSpec.upto elimNilSpec)) elimNilUptoCard

/-- THE SECOND FORM's CARD OF 'downpourlaw6.ElimSpans'. -/
def elimSpansUptoCard : Claim7 := { stood := { row := elimSpansUptoRow, standIns := [], harness := (true, "a86f970cdf3d31d5711ff54bc331b97b3681b14cac6e1d5beabc3c4aa9308179"), looks := false }, kinds := [], alts := [], laidByText := true, laidKinds := [.data], laidTests := true, laidLooks := .later }
def ElimSpansUptoCardSaid : Prop := Claim7.holds Tryd.pinned (.plain (OpenSpec.upto elimSpansSpec)) elimSpansUptoCard

/-- THE SECOND FORM's CARD OF 'downpourlaw6.ElimBytes'. -/
def elimBytesUptoCard : Claim7 := { stood := { row := elimBytesUptoRow, standIns := [], harness := (true, "a86f970cdf3d31d5711ff54bc331b97b3681b14cac6e1d5beabc3c4aa9308179"), looks := false }, kinds := [], alts := [], laidByText := true, laidKinds := [.data], laidTests := true, laidLooks := .later }
def ElimBytesUptoCardSaid : Prop := Claim7.holds Tryd.pinned (.plain (OpenSpec.upto elimBytesSpec)) elimBytesUptoCard

/-- THE SECOND FORM's CARD OF 'downpourlaw6.ElimPlays'. -/
def elimPlaysUptoCard : Claim7 := { stood := { row := elimPlaysUptoRow, standIns := [], harness := (true, "a86f970cdf3d31d5711ff54bc331b97b3681b14cac6e1d5beabc3c4aa9308179"), looks := false }, kinds := [], alts := [], laidByText := true, laidKinds := [.data], laidTests := true, laidLooks := .later }
def ElimPlaysUptoCardSaid : Prop := Claim7.holds Tryd.pinned (.plain (OpenSpec.upto elimPlaysSpec)) elimPlaysUptoCard

/-- THE SECOND FORM's CARD OF 'downpourlaw6.ElimReads'. -/
def elimReadsUptoCard : Claim7 := { stood := { row := elimReadsUptoRow, standIns := [], harness := (true, "a86f970cdf3d31d5711ff54bc331b97b3681b14cac6e1d5beabc3c4aa9308179"), looks := false }, kinds := [], alts := [], laidByText := true, laidKinds := [.data], laidTests := true, laidLooks := .later }
def ElimReadsUptoCardSaid : Prop := Claim7.holds Tryd.pinned (.plain (OpenSpec.upto elimReadsSpec)) elimReadsUptoCard
end Rows
end Go.Proofs.YtlmmnnhbnbakgaaDoor
