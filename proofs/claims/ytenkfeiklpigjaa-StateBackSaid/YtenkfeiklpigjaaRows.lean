/-
  No cell of these rows narrows 'for every input' (looked for: loops, veiled, ifaces, maps, wideKeys, modest, calm, conditions, laid).
  DERIVED. THE GIVEN ROWS OF THIS SEAT. 10 by the template 'for every input the law returns true; each argument reads behind the call as it read before'; 0 by the template 'total and deterministic' (their statements: YtenkfeiklpigjaaTotals.lean).
  GIVEN WITH THE SEED: the statements are not yours to turn. If you find one false, say at which input.
  Laid BY PROGRAM, IN A SANDBOX (cutbox-rows.mjs): the forced cells as the released guide's own fill.sh prints them over the translation d2817026a595f040… (all of the seat's roots in one cut). By AI agents, Wed Nov 11 2026. No macro, syntax, notation, axiom, sorry.
-/
import Derived.Test.YtenkfeiklpigjaaChecked
import GoSem.Claim
import GoSem.ClaimJoined
import GoSem.ClaimMapViews
import Derived.JoinedTies
import Derived.KernelRfl
namespace Go.Proofs.Ytenkfeiklpigjaa
/- THE CELL 'sum', in the pinned program and in every row, IS THE sha256 OF THE DUMP (.gsa) THAT YtenkfeiklpigjaaProg.lean LOADS. Nothing in Lean hashes anything: it is a label: what it is worth is what the hold of that sum in a sandbox is worth. -/
noncomputable def Try.pinned : Pinned := { name := "ytenkfeiklpigjaa", sum := "d2817026a595f040ac6ff538a26144edd3b137db3c2a18b68c76a4c1b78f4032", checked := Try.checked }
namespace Rows
def none {H : Type} : Left H := { results := [], args := [] }

/-- 'downpourlaw22.SessionForms': WHATEVER THE INPUT: true; the input reads as it did. -/
def sessionFormsSpec : ChangeSpec := { name := "sessionForms", fn := fun _ => fun
  | [d1, d2, d3] => { results := [.lit (.bool true)], args := [d1, d2, d3] }
  | _ => none }
def sessionFormsRow : OpenClaim := { program := "ytenkfeiklpigjaa", sum := "d2817026a595f040ac6ff538a26144edd3b137db3c2a18b68c76a4c1b78f4032", func := "downpour/downpourlaw22.SessionForms", spec := "sessionForms", apart := false }
def SessionFormsSaid : Prop := sessionFormsRow.holds Try.pinned (OpenSpec.ofChange sessionFormsSpec)

/-- ITS FALSE NEIGHBOUR: 'it returns false'. Refute it at one input. -/
def sessionFormsWrong : ChangeSpec := { name := "sessionForms", fn := fun _ => fun
  | [d1, d2, d3] => { results := [.lit (.bool false)], args := [d1, d2, d3] }
  | _ => none }
def SessionFormsWrongFalsely : Prop := sessionFormsRow.holds Try.pinned (OpenSpec.ofChange sessionFormsWrong)

/-- 'downpourlaw22.SessionRow': WHATEVER THE INPUT: true; the input reads as it did. -/
def sessionRowSpec : ChangeSpec := { name := "sessionRow", fn := fun _ => fun
  | [d1, d2] => { results := [.lit (.bool true)], args := [d1, d2] }
  | _ => none }
def sessionRowRow : OpenClaim := { program := "ytenkfeiklpigjaa", sum := "d2817026a595f040ac6ff538a26144edd3b137db3c2a18b68c76a4c1b78f4032", func := "downpour/downpourlaw22.SessionRow", spec := "sessionRow", apart := false }
def SessionRowSaid : Prop := sessionRowRow.holds Try.pinned (OpenSpec.ofChange sessionRowSpec)

/-- ITS FALSE NEIGHBOUR: 'it returns false'. Refute it at one input. -/
def sessionRowWrong : ChangeSpec := { name := "sessionRow", fn := fun _ => fun
  | [d1, d2] => { results := [.lit (.bool false)], args := [d1, d2] }
  | _ => none }
def SessionRowWrongFalsely : Prop := sessionRowRow.holds Try.pinned (OpenSpec.ofChange sessionRowWrong)

/-- 'downpourlaw22.SessionRises': WHATEVER THE INPUT: true; the input reads as it did. -/
def sessionRisesSpec : ChangeSpec := { name := "sessionRises", fn := fun _ => fun
  | [d1, d2, d3] => { results := [.lit (.bool true)], args := [d1, d2, d3] }
  | _ => none }
def sessionRisesRow : OpenClaim := { program := "ytenkfeiklpigjaa", sum := "d2817026a595f040ac6ff538a26144edd3b137db3c2a18b68c76a4c1b78f4032", func := "downpour/downpourlaw22.SessionRises", spec := "sessionRises", apart := false }
def SessionRisesSaid : Prop := sessionRisesRow.holds Try.pinned (OpenSpec.ofChange sessionRisesSpec)

/-- ITS FALSE NEIGHBOUR: 'it returns false'. Refute it at one input. -/
def sessionRisesWrong : ChangeSpec := { name := "sessionRises", fn := fun _ => fun
  | [d1, d2, d3] => { results := [.lit (.bool false)], args := [d1, d2, d3] }
  | _ => none }
def SessionRisesWrongFalsely : Prop := sessionRisesRow.holds Try.pinned (OpenSpec.ofChange sessionRisesWrong)

/-- 'downpourlaw22.SessionNewer': WHATEVER THE INPUT: true; the input reads as it did. -/
def sessionNewerSpec : ChangeSpec := { name := "sessionNewer", fn := fun _ => fun
  | [d1, d2] => { results := [.lit (.bool true)], args := [d1, d2] }
  | _ => none }
def sessionNewerRow : OpenClaim := { program := "ytenkfeiklpigjaa", sum := "d2817026a595f040ac6ff538a26144edd3b137db3c2a18b68c76a4c1b78f4032", func := "downpour/downpourlaw22.SessionNewer", spec := "sessionNewer", apart := false }
def SessionNewerSaid : Prop := sessionNewerRow.holds Try.pinned (OpenSpec.ofChange sessionNewerSpec)

/-- ITS FALSE NEIGHBOUR: 'it returns false'. Refute it at one input. -/
def sessionNewerWrong : ChangeSpec := { name := "sessionNewer", fn := fun _ => fun
  | [d1, d2] => { results := [.lit (.bool false)], args := [d1, d2] }
  | _ => none }
def SessionNewerWrongFalsely : Prop := sessionNewerRow.holds Try.pinned (OpenSpec.ofChange sessionNewerWrong)

/-- 'downpourlaw22.SessionAgain': WHATEVER THE INPUT: true; the input reads as it did. -/
def sessionAgainSpec : ChangeSpec := { name := "sessionAgain", fn := fun _ => fun
  | [d1, d2] => { results := [.lit (.bool true)], args := [d1, d2] }
  | _ => none }
def sessionAgainRow : OpenClaim := { program := "ytenkfeiklpigjaa", sum := "d2817026a595f040ac6ff538a26144edd3b137db3c2a18b68c76a4c1b78f4032", func := "downpour/downpourlaw22.SessionAgain", spec := "sessionAgain", apart := false }
def SessionAgainSaid : Prop := sessionAgainRow.holds Try.pinned (OpenSpec.ofChange sessionAgainSpec)

/-- ITS FALSE NEIGHBOUR: 'it returns false'. Refute it at one input. -/
def sessionAgainWrong : ChangeSpec := { name := "sessionAgain", fn := fun _ => fun
  | [d1, d2] => { results := [.lit (.bool false)], args := [d1, d2] }
  | _ => none }
def SessionAgainWrongFalsely : Prop := sessionAgainRow.holds Try.pinned (OpenSpec.ofChange sessionAgainWrong)

/-- 'downpourlaw19.StateForms': WHATEVER THE INPUT: true; the input reads as it did. -/
def stateFormsSpec : ChangeSpec := { name := "stateForms", fn := fun _ => fun
  | [d1, d2, d3, d4, d5, d6] => { results := [.lit (.bool true)], args := [d1, d2, d3, d4, d5, d6] }
  | _ => none }
def stateFormsRow : OpenClaim := { program := "ytenkfeiklpigjaa", sum := "d2817026a595f040ac6ff538a26144edd3b137db3c2a18b68c76a4c1b78f4032", func := "downpour/downpourlaw19.StateForms", spec := "stateForms", apart := false }
def StateFormsSaid : Prop := stateFormsRow.holds Try.pinned (OpenSpec.ofChange stateFormsSpec)

/-- ITS FALSE NEIGHBOUR: 'it returns false'. Refute it at one input. -/
def stateFormsWrong : ChangeSpec := { name := "stateForms", fn := fun _ => fun
  | [d1, d2, d3, d4, d5, d6] => { results := [.lit (.bool false)], args := [d1, d2, d3, d4, d5, d6] }
  | _ => none }
def StateFormsWrongFalsely : Prop := stateFormsRow.holds Try.pinned (OpenSpec.ofChange stateFormsWrong)

/-- 'downpourlaw19.StateBack': WHATEVER THE INPUT: true; the input reads as it did. -/
def stateBackSpec : ChangeSpec := { name := "stateBack", fn := fun _ => fun
  | [d1, d2, d3] => { results := [.lit (.bool true)], args := [d1, d2, d3] }
  | _ => none }
def stateBackRow : OpenClaim := { program := "ytenkfeiklpigjaa", sum := "d2817026a595f040ac6ff538a26144edd3b137db3c2a18b68c76a4c1b78f4032", func := "downpour/downpourlaw19.StateBack", spec := "stateBack", apart := false }
def StateBackSaid : Prop := stateBackRow.holds Try.pinned (OpenSpec.ofChange stateBackSpec)

/-- ITS FALSE NEIGHBOUR: 'it returns false'. Refute it at one input. -/
def stateBackWrong : ChangeSpec := { name := "stateBack", fn := fun _ => fun
  | [d1, d2, d3] => { results := [.lit (.bool false)], args := [d1, d2, d3] }
  | _ => none }
def StateBackWrongFalsely : Prop := stateBackRow.holds Try.pinned (OpenSpec.ofChange stateBackWrong)

/-- 'downpourlaw19.StateSpoilt': WHATEVER THE INPUT: true; the input reads as it did. -/
def stateSpoiltSpec : ChangeSpec := { name := "stateSpoilt", fn := fun _ => fun
  | [d1, d2] => { results := [.lit (.bool true)], args := [d1, d2] }
  | _ => none }
def stateSpoiltRow : OpenClaim := { program := "ytenkfeiklpigjaa", sum := "d2817026a595f040ac6ff538a26144edd3b137db3c2a18b68c76a4c1b78f4032", func := "downpour/downpourlaw19.StateSpoilt", spec := "stateSpoilt", apart := false }
def StateSpoiltSaid : Prop := stateSpoiltRow.holds Try.pinned (OpenSpec.ofChange stateSpoiltSpec)

/-- ITS FALSE NEIGHBOUR: 'it returns false'. Refute it at one input. -/
def stateSpoiltWrong : ChangeSpec := { name := "stateSpoilt", fn := fun _ => fun
  | [d1, d2] => { results := [.lit (.bool false)], args := [d1, d2] }
  | _ => none }
def StateSpoiltWrongFalsely : Prop := stateSpoiltRow.holds Try.pinned (OpenSpec.ofChange stateSpoiltWrong)

/-- 'downpourlaw19.StateLengths': WHATEVER THE INPUT: true; the input reads as it did. -/
def stateLengthsSpec : ChangeSpec := { name := "stateLengths", fn := fun _ => fun
  | [d] => { results := [.lit (.bool true)], args := [d] }
  | _ => none }
def stateLengthsRow : OpenClaim := { program := "ytenkfeiklpigjaa", sum := "d2817026a595f040ac6ff538a26144edd3b137db3c2a18b68c76a4c1b78f4032", func := "downpour/downpourlaw19.StateLengths", spec := "stateLengths", apart := false }
def StateLengthsSaid : Prop := stateLengthsRow.holds Try.pinned (OpenSpec.ofChange stateLengthsSpec)

/-- ITS FALSE NEIGHBOUR: 'it returns false'. Refute it at one input. -/
def stateLengthsWrong : ChangeSpec := { name := "stateLengths", fn := fun _ => fun
  | [d] => { results := [.lit (.bool false)], args := [d] }
  | _ => none }
def StateLengthsWrongFalsely : Prop := stateLengthsRow.holds Try.pinned (OpenSpec.ofChange stateLengthsWrong)

/-- 'downpourlaw19.StateTorn': WHATEVER THE INPUT: true; the input reads as it did. -/
def stateTornSpec : ChangeSpec := { name := "stateTorn", fn := fun _ => fun
  | [d1, d2, d3] => { results := [.lit (.bool true)], args := [d1, d2, d3] }
  | _ => none }
def stateTornRow : OpenClaim := { program := "ytenkfeiklpigjaa", sum := "d2817026a595f040ac6ff538a26144edd3b137db3c2a18b68c76a4c1b78f4032", func := "downpour/downpourlaw19.StateTorn", spec := "stateTorn", apart := false }
def StateTornSaid : Prop := stateTornRow.holds Try.pinned (OpenSpec.ofChange stateTornSpec)

/-- ITS FALSE NEIGHBOUR: 'it returns false'. Refute it at one input. -/
def stateTornWrong : ChangeSpec := { name := "stateTorn", fn := fun _ => fun
  | [d1, d2, d3] => { results := [.lit (.bool false)], args := [d1, d2, d3] }
  | _ => none }
def StateTornWrongFalsely : Prop := stateTornRow.holds Try.pinned (OpenSpec.ofChange stateTornWrong)

/- THE SECOND FORM. 'bulk': how many values and letters a reading holds, each counted each time it is reached (what is shared counts as often as it is met; a slice's spare places count too). A statement '..UptoSaid' is the law's where the arguments, and the package variables that the reading takes, are together of bulk at most 1048576: NARROWER than '..Said'. Prove '..Said' where nothing that the law and all that it calls make is longer than what came in: it says more and counts as full. Else prove '..UptoSaid'. A law counts once. -/
mutual
def uptoBulk {H : Type} : DataW H → Nat
  | .lit (.string bytes) => bytes.length + 1
  | .lit _ => 1
  | .nil => 1
  | .ptr d => uptoBulk d + 1
  | .slice elems spare => uptoBulkAll elems + uptoBulkAll spare + 1
  | .agg parts => uptoBulkAll parts + 1
  | .iface _ d => uptoBulk d + 1
  | .map entries => uptoBulkEntries entries + 1
  | .held _ => 1
def uptoBulkAll {H : Type} : List (DataW H) → Nat
  | [] => 0
  | d :: r => uptoBulk d + uptoBulkAll r
def uptoBulkEntries {H : Type} : List (Lit × DataW H) → Nat
  | [] => 0
  | x :: r => uptoBulkEntry x + uptoBulkEntries r
def uptoBulkEntry {H : Type} : Lit × DataW H → Nat
  | (.string bytes, d) => bytes.length + uptoBulk d + 1
  | (_, d) => uptoBulk d + 1
 end
def uptoSmall : (H : Type) → List (DataW H) → Bool := fun _ ds => decide (uptoBulkAll ds ≤ 1048576)
def OpenSpec.upto (s : _root_.Go.ChangeSpec) : _root_.Go.OpenSpec := { _root_.Go.OpenSpec.ofChange s with cond := some uptoSmall }

/-- 'downpourlaw22.SessionForms', WHERE WHAT IT READS IS OF BULK AT MOST 1048576: true; the input reads as it did. -/
def sessionFormsUptoRow : OpenClaim := { program := "ytenkfeiklpigjaa", sum := "d2817026a595f040ac6ff538a26144edd3b137db3c2a18b68c76a4c1b78f4032", func := "downpour/downpourlaw22.SessionForms", spec := "sessionForms", apart := false, narrowed := true }
def SessionFormsUptoSaid : Prop := sessionFormsUptoRow.holds Try.pinned (OpenSpec.upto sessionFormsSpec)

/-- 'downpourlaw22.SessionRow', WHERE WHAT IT READS IS OF BULK AT MOST 1048576: true; the input reads as it did. -/
def sessionRowUptoRow : OpenClaim := { program := "ytenkfeiklpigjaa", sum := "d2817026a595f040ac6ff538a26144edd3b137db3c2a18b68c76a4c1b78f4032", func := "downpour/downpourlaw22.SessionRow", spec := "sessionRow", apart := false, narrowed := true }
def SessionRowUptoSaid : Prop := sessionRowUptoRow.holds Try.pinned (OpenSpec.upto sessionRowSpec)

/-- 'downpourlaw22.SessionRises', WHERE WHAT IT READS IS OF BULK AT MOST 1048576: true; the input reads as it did. -/
def sessionRisesUptoRow : OpenClaim := { program := "ytenkfeiklpigjaa", sum := "d2817026a595f040ac6ff538a26144edd3b137db3c2a18b68c76a4c1b78f4032", func := "downpour/downpourlaw22.SessionRises", spec := "sessionRises", apart := false, narrowed := true }
def SessionRisesUptoSaid : Prop := sessionRisesUptoRow.holds Try.pinned (OpenSpec.upto sessionRisesSpec)

/-- 'downpourlaw22.SessionNewer', WHERE WHAT IT READS IS OF BULK AT MOST 1048576: true; the input reads as it did. -/
def sessionNewerUptoRow : OpenClaim := { program := "ytenkfeiklpigjaa", sum := "d2817026a595f040ac6ff538a26144edd3b137db3c2a18b68c76a4c1b78f4032", func := "downpour/downpourlaw22.SessionNewer", spec := "sessionNewer", apart := false, narrowed := true }
def SessionNewerUptoSaid : Prop := sessionNewerUptoRow.holds Try.pinned (OpenSpec.upto sessionNewerSpec)

/-- 'downpourlaw22.SessionAgain', WHERE WHAT IT READS IS OF BULK AT MOST 1048576: true; the input reads as it did. -/
def sessionAgainUptoRow : OpenClaim := { program := "ytenkfeiklpigjaa", sum := "d2817026a595f040ac6ff538a26144edd3b137db3c2a18b68c76a4c1b78f4032", func := "downpour/downpourlaw22.SessionAgain", spec := "sessionAgain", apart := false, narrowed := true }
def SessionAgainUptoSaid : Prop := sessionAgainUptoRow.holds Try.pinned (OpenSpec.upto sessionAgainSpec)

/-- 'downpourlaw19.StateForms', WHERE WHAT IT READS IS OF BULK AT MOST 1048576: true; the input reads as it did. -/
def stateFormsUptoRow : OpenClaim := { program := "ytenkfeiklpigjaa", sum := "d2817026a595f040ac6ff538a26144edd3b137db3c2a18b68c76a4c1b78f4032", func := "downpour/downpourlaw19.StateForms", spec := "stateForms", apart := false, narrowed := true }
def StateFormsUptoSaid : Prop := stateFormsUptoRow.holds Try.pinned (OpenSpec.upto stateFormsSpec)

/-- 'downpourlaw19.StateBack', WHERE WHAT IT READS IS OF BULK AT MOST 1048576: true; the input reads as it did. -/
def stateBackUptoRow : OpenClaim := { program := "ytenkfeiklpigjaa", sum := "d2817026a595f040ac6ff538a26144edd3b137db3c2a18b68c76a4c1b78f4032", func := "downpour/downpourlaw19.StateBack", spec := "stateBack", apart := false, narrowed := true }
def StateBackUptoSaid : Prop := stateBackUptoRow.holds Try.pinned (OpenSpec.upto stateBackSpec)

/-- 'downpourlaw19.StateSpoilt', WHERE WHAT IT READS IS OF BULK AT MOST 1048576: true; the input reads as it did. -/
def stateSpoiltUptoRow : OpenClaim := { program := "ytenkfeiklpigjaa", sum := "d2817026a595f040ac6ff538a26144edd3b137db3c2a18b68c76a4c1b78f4032", func := "downpour/downpourlaw19.StateSpoilt", spec := "stateSpoilt", apart := false, narrowed := true }
def StateSpoiltUptoSaid : Prop := stateSpoiltUptoRow.holds Try.pinned (OpenSpec.upto stateSpoiltSpec)

/-- 'downpourlaw19.StateLengths', WHERE WHAT IT READS IS OF BULK AT MOST 1048576: true; the input reads as it did. -/
def stateLengthsUptoRow : OpenClaim := { program := "ytenkfeiklpigjaa", sum := "d2817026a595f040ac6ff538a26144edd3b137db3c2a18b68c76a4c1b78f4032", func := "downpour/downpourlaw19.StateLengths", spec := "stateLengths", apart := false, narrowed := true }
def StateLengthsUptoSaid : Prop := stateLengthsUptoRow.holds Try.pinned (OpenSpec.upto stateLengthsSpec)

/-- 'downpourlaw19.StateTorn', WHERE WHAT IT READS IS OF BULK AT MOST 1048576: true; the input reads as it did. -/
def stateTornUptoRow : OpenClaim := { program := "ytenkfeiklpigjaa", sum := "d2817026a595f040ac6ff538a26144edd3b137db3c2a18b68c76a4c1b78f4032", func := "downpour/downpourlaw19.StateTorn", spec := "stateTorn", apart := false, narrowed := true }
def StateTornUptoSaid : Prop := stateTornUptoRow.holds Try.pinned (OpenSpec.upto stateTornSpec)

end Rows
end Go.Proofs.Ytenkfeiklpigjaa
