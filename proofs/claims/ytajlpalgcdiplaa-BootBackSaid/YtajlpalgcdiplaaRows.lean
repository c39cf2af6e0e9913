/-
  No cell of these rows narrows 'for every input' (looked for: loops, veiled, ifaces, maps, wideKeys, modest, calm, conditions, laid).
  DERIVED. THE GIVEN ROWS OF THIS SEAT. 10 by the template 'for every input the law returns true; each argument reads behind the call as it read before'; 0 by the template 'total and deterministic' (their statements: YtajlpalgcdiplaaTotals.lean).
  GIVEN WITH THE SEED: the statements are not yours to turn. If you find one false, say at which input.
  Laid BY PROGRAM, IN A SANDBOX (cutbox-rows.mjs): the forced cells as the released guide's own fill.sh prints them over the translation f5fd286fb1f75d7d… (all of the seat's roots in one cut). By AI agents, Wed Nov 11 2026. No macro, syntax, notation, axiom, sorry.
-/
import Derived.Test.YtajlpalgcdiplaaChecked
import GoSem.Claim
import GoSem.ClaimJoined
import GoSem.ClaimMapViews
import Derived.JoinedTies
import Derived.KernelRfl
namespace Go.Proofs.Ytajlpalgcdiplaa
/- THE CELL 'sum', in the pinned program and in every row, IS THE sha256 OF THE DUMP (.gsa) THAT YtajlpalgcdiplaaProg.lean LOADS. Nothing in Lean hashes anything: it is a label: what it is worth is what the hold of that sum in a sandbox is worth. -/
noncomputable def Try.pinned : Pinned := { name := "ytajlpalgcdiplaa", sum := "f5fd286fb1f75d7deaa575c5d5c37a13fef3b7e6927df694f6b2ce66c40180f5", checked := Try.checked }
namespace Rows
def none {H : Type} : Left H := { results := [], args := [] }

/-- 'downpourlaw21.BootEnds': WHATEVER THE INPUT: true; the input reads as it did. -/
def bootEndsSpec : ChangeSpec := { name := "bootEnds", fn := fun _ => fun
  | [d1, d2] => { results := [.lit (.bool true)], args := [d1, d2] }
  | _ => none }
def bootEndsRow : OpenClaim := { program := "ytajlpalgcdiplaa", sum := "f5fd286fb1f75d7deaa575c5d5c37a13fef3b7e6927df694f6b2ce66c40180f5", func := "downpour/downpourlaw21.BootEnds", spec := "bootEnds", apart := false }
def BootEndsSaid : Prop := bootEndsRow.holds Try.pinned (OpenSpec.ofChange bootEndsSpec)

/-- ITS FALSE NEIGHBOUR: 'it returns false'. Refute it at one input. -/
def bootEndsWrong : ChangeSpec := { name := "bootEnds", fn := fun _ => fun
  | [d1, d2] => { results := [.lit (.bool false)], args := [d1, d2] }
  | _ => none }
def BootEndsWrongFalsely : Prop := bootEndsRow.holds Try.pinned (OpenSpec.ofChange bootEndsWrong)

/-- 'downpourlaw21.BootConfirms': WHATEVER THE INPUT: true; the input reads as it did. -/
def bootConfirmsSpec : ChangeSpec := { name := "bootConfirms", fn := fun _ => fun
  | [d] => { results := [.lit (.bool true)], args := [d] }
  | _ => none }
def bootConfirmsRow : OpenClaim := { program := "ytajlpalgcdiplaa", sum := "f5fd286fb1f75d7deaa575c5d5c37a13fef3b7e6927df694f6b2ce66c40180f5", func := "downpour/downpourlaw21.BootConfirms", spec := "bootConfirms", apart := false }
def BootConfirmsSaid : Prop := bootConfirmsRow.holds Try.pinned (OpenSpec.ofChange bootConfirmsSpec)

/-- ITS FALSE NEIGHBOUR: 'it returns false'. Refute it at one input. -/
def bootConfirmsWrong : ChangeSpec := { name := "bootConfirms", fn := fun _ => fun
  | [d] => { results := [.lit (.bool false)], args := [d] }
  | _ => none }
def BootConfirmsWrongFalsely : Prop := bootConfirmsRow.holds Try.pinned (OpenSpec.ofChange bootConfirmsWrong)

/-- 'downpourlaw21.BootKeeps': WHATEVER THE INPUT: true; the input reads as it did. -/
def bootKeepsSpec : ChangeSpec := { name := "bootKeeps", fn := fun _ => fun
  | [d] => { results := [.lit (.bool true)], args := [d] }
  | _ => none }
def bootKeepsRow : OpenClaim := { program := "ytajlpalgcdiplaa", sum := "f5fd286fb1f75d7deaa575c5d5c37a13fef3b7e6927df694f6b2ce66c40180f5", func := "downpour/downpourlaw21.BootKeeps", spec := "bootKeeps", apart := false }
def BootKeepsSaid : Prop := bootKeepsRow.holds Try.pinned (OpenSpec.ofChange bootKeepsSpec)

/-- ITS FALSE NEIGHBOUR: 'it returns false'. Refute it at one input. -/
def bootKeepsWrong : ChangeSpec := { name := "bootKeeps", fn := fun _ => fun
  | [d] => { results := [.lit (.bool false)], args := [d] }
  | _ => none }
def BootKeepsWrongFalsely : Prop := bootKeepsRow.holds Try.pinned (OpenSpec.ofChange bootKeepsWrong)

/-- 'downpourlaw14.ManifestKeys': WHATEVER THE INPUT: true; the input reads as it did. -/
def manifestKeysSpec : ChangeSpec := { name := "manifestKeys", fn := fun _ => fun
  | [d1, d2, d3] => { results := [.lit (.bool true)], args := [d1, d2, d3] }
  | _ => none }
def manifestKeysRow : OpenClaim := { program := "ytajlpalgcdiplaa", sum := "f5fd286fb1f75d7deaa575c5d5c37a13fef3b7e6927df694f6b2ce66c40180f5", func := "downpour/downpourlaw14.ManifestKeys", spec := "manifestKeys", apart := false }
def ManifestKeysSaid : Prop := manifestKeysRow.holds Try.pinned (OpenSpec.ofChange manifestKeysSpec)

/-- ITS FALSE NEIGHBOUR: 'it returns false'. Refute it at one input. -/
def manifestKeysWrong : ChangeSpec := { name := "manifestKeys", fn := fun _ => fun
  | [d1, d2, d3] => { results := [.lit (.bool false)], args := [d1, d2, d3] }
  | _ => none }
def ManifestKeysWrongFalsely : Prop := manifestKeysRow.holds Try.pinned (OpenSpec.ofChange manifestKeysWrong)

/-- 'downpourlaw14.ManifestForms': WHATEVER THE INPUT: true; the input reads as it did. -/
def manifestFormsSpec : ChangeSpec := { name := "manifestForms", fn := fun _ => fun
  | [d1, d2, d3, d4, d5, d6] => { results := [.lit (.bool true)], args := [d1, d2, d3, d4, d5, d6] }
  | _ => none }
def manifestFormsRow : OpenClaim := { program := "ytajlpalgcdiplaa", sum := "f5fd286fb1f75d7deaa575c5d5c37a13fef3b7e6927df694f6b2ce66c40180f5", func := "downpour/downpourlaw14.ManifestForms", spec := "manifestForms", apart := false }
def ManifestFormsSaid : Prop := manifestFormsRow.holds Try.pinned (OpenSpec.ofChange manifestFormsSpec)

/-- ITS FALSE NEIGHBOUR: 'it returns false'. Refute it at one input. -/
def manifestFormsWrong : ChangeSpec := { name := "manifestForms", fn := fun _ => fun
  | [d1, d2, d3, d4, d5, d6] => { results := [.lit (.bool false)], args := [d1, d2, d3, d4, d5, d6] }
  | _ => none }
def ManifestFormsWrongFalsely : Prop := manifestFormsRow.holds Try.pinned (OpenSpec.ofChange manifestFormsWrong)

/-- 'downpourlaw14.ManifestBack': WHATEVER THE INPUT: true; the input reads as it did. -/
def manifestBackSpec : ChangeSpec := { name := "manifestBack", fn := fun _ => fun
  | [d1, d2, d3] => { results := [.lit (.bool true)], args := [d1, d2, d3] }
  | _ => none }
def manifestBackRow : OpenClaim := { program := "ytajlpalgcdiplaa", sum := "f5fd286fb1f75d7deaa575c5d5c37a13fef3b7e6927df694f6b2ce66c40180f5", func := "downpour/downpourlaw14.ManifestBack", spec := "manifestBack", apart := false }
def ManifestBackSaid : Prop := manifestBackRow.holds Try.pinned (OpenSpec.ofChange manifestBackSpec)

/-- ITS FALSE NEIGHBOUR: 'it returns false'. Refute it at one input. -/
def manifestBackWrong : ChangeSpec := { name := "manifestBack", fn := fun _ => fun
  | [d1, d2, d3] => { results := [.lit (.bool false)], args := [d1, d2, d3] }
  | _ => none }
def ManifestBackWrongFalsely : Prop := manifestBackRow.holds Try.pinned (OpenSpec.ofChange manifestBackWrong)

/-- 'downpourlaw14.ManifestSpoilt': WHATEVER THE INPUT: true; the input reads as it did. -/
def manifestSpoiltSpec : ChangeSpec := { name := "manifestSpoilt", fn := fun _ => fun
  | [d1, d2] => { results := [.lit (.bool true)], args := [d1, d2] }
  | _ => none }
def manifestSpoiltRow : OpenClaim := { program := "ytajlpalgcdiplaa", sum := "f5fd286fb1f75d7deaa575c5d5c37a13fef3b7e6927df694f6b2ce66c40180f5", func := "downpour/downpourlaw14.ManifestSpoilt", spec := "manifestSpoilt", apart := false }
def ManifestSpoiltSaid : Prop := manifestSpoiltRow.holds Try.pinned (OpenSpec.ofChange manifestSpoiltSpec)

/-- ITS FALSE NEIGHBOUR: 'it returns false'. Refute it at one input. -/
def manifestSpoiltWrong : ChangeSpec := { name := "manifestSpoilt", fn := fun _ => fun
  | [d1, d2] => { results := [.lit (.bool false)], args := [d1, d2] }
  | _ => none }
def ManifestSpoiltWrongFalsely : Prop := manifestSpoiltRow.holds Try.pinned (OpenSpec.ofChange manifestSpoiltWrong)

/-- 'downpourlaw14.ManifestNumbers': WHATEVER THE INPUT: true; the input reads as it did. -/
def manifestNumbersSpec : ChangeSpec := { name := "manifestNumbers", fn := fun _ => fun
  | [d] => { results := [.lit (.bool true)], args := [d] }
  | _ => none }
def manifestNumbersRow : OpenClaim := { program := "ytajlpalgcdiplaa", sum := "f5fd286fb1f75d7deaa575c5d5c37a13fef3b7e6927df694f6b2ce66c40180f5", func := "downpour/downpourlaw14.ManifestNumbers", spec := "manifestNumbers", apart := false }
def ManifestNumbersSaid : Prop := manifestNumbersRow.holds Try.pinned (OpenSpec.ofChange manifestNumbersSpec)

/-- ITS FALSE NEIGHBOUR: 'it returns false'. Refute it at one input. -/
def manifestNumbersWrong : ChangeSpec := { name := "manifestNumbers", fn := fun _ => fun
  | [d] => { results := [.lit (.bool false)], args := [d] }
  | _ => none }
def ManifestNumbersWrongFalsely : Prop := manifestNumbersRow.holds Try.pinned (OpenSpec.ofChange manifestNumbersWrong)

/-- 'downpourlaw21.BootForms': WHATEVER THE INPUT: true; the input reads as it did. -/
def bootFormsSpec : ChangeSpec := { name := "bootForms", fn := fun _ => fun
  | [d1, d2, d3] => { results := [.lit (.bool true)], args := [d1, d2, d3] }
  | _ => none }
def bootFormsRow : OpenClaim := { program := "ytajlpalgcdiplaa", sum := "f5fd286fb1f75d7deaa575c5d5c37a13fef3b7e6927df694f6b2ce66c40180f5", func := "downpour/downpourlaw21.BootForms", spec := "bootForms", apart := false }
def BootFormsSaid : Prop := bootFormsRow.holds Try.pinned (OpenSpec.ofChange bootFormsSpec)

/-- ITS FALSE NEIGHBOUR: 'it returns false'. Refute it at one input. -/
def bootFormsWrong : ChangeSpec := { name := "bootForms", fn := fun _ => fun
  | [d1, d2, d3] => { results := [.lit (.bool false)], args := [d1, d2, d3] }
  | _ => none }
def BootFormsWrongFalsely : Prop := bootFormsRow.holds Try.pinned (OpenSpec.ofChange bootFormsWrong)

/-- 'downpourlaw21.BootBack': WHATEVER THE INPUT: true; the input reads as it did. -/
def bootBackSpec : ChangeSpec := { name := "bootBack", fn := fun _ => fun
  | [d1, d2] => { results := [.lit (.bool true)], args := [d1, d2] }
  | _ => none }
def bootBackRow : OpenClaim := { program := "ytajlpalgcdiplaa", sum := "f5fd286fb1f75d7deaa575c5d5c37a13fef3b7e6927df694f6b2ce66c40180f5", func := "downpour/downpourlaw21.BootBack", spec := "bootBack", apart := false }
def BootBackSaid : Prop := bootBackRow.holds Try.pinned (OpenSpec.ofChange bootBackSpec)

/-- ITS FALSE NEIGHBOUR: 'it returns false'. Refute it at one input. -/
def bootBackWrong : ChangeSpec := { name := "bootBack", fn := fun _ => fun
  | [d1, d2] => { results := [.lit (.bool false)], args := [d1, d2] }
  | _ => none }
def BootBackWrongFalsely : Prop := bootBackRow.holds Try.pinned (OpenSpec.ofChange bootBackWrong)

/- THE SECOND FORM. 'bulk': how many values and letters a reading holds, each counted each time it is reached (what is shared counts as often as it is met; a slice's spare places count too). A statement '..UptoSaid' is the law's where the arguments, and the package variables that the reading takes, are together of bulk at most 1048576: NARROWER than '..Said'. Prove '..Said' where nothing that the law and all that it calls make is longer than what came in: it says more and counts as full. Else prove '..UptoSaid'. A law counts once. -/
mutual
def uptoBulk {H : Type} : DataW H → Nat
  | .lit (.string bytes) => bytes.length + 1
  | .lit _ => 1
  | .nil => 1
  | .ptr d => uptoBulk d + 1
  | .slice elems spare => uptoBulkAll elems + uptoBulkAll spare + 1
  | .agg parts => uptoBulkAll parts + 1
  | .iface _ d => uptoBulk d + 1
  | .map entries => uptoBulkEntries entries + 1
  | .held _ => 1
def uptoBulkAll {H : Type} : List (DataW H) → Nat
  | [] => 0
  | d :: r => uptoBulk d + uptoBulkAll r
def uptoBulkEntries {H : Type} : List (Lit × DataW H) → Nat
  | [] => 0
  | x :: r => uptoBulkEntry x + uptoBulkEntries r
def uptoBulkEntry {H : Type} : Lit × DataW H → Nat
  | (.string bytes, d) => bytes.length + uptoBulk d + 1
  | (_, d) => uptoBulk d + 1
 end
def uptoSmall : (H : Type) → List (DataW H) → Bool := fun _ ds => decide (uptoBulkAll ds ≤ 1048576)
def OpenSpec.upto (s : _root_.Go.ChangeSpec) : _root_.Go.OpenSpec := { _root_.Go.OpenSpec.ofChange s with cond := some uptoSmall }

/-- 'downpourlaw21.BootEnds', WHERE WHAT IT READS IS OF BULK AT MOST 1048576: true; the input reads as it did. -/
def bootEndsUptoRow : OpenClaim := { program := "ytajlpalgcdiplaa", sum := "f5fd286fb1f75d7deaa575c5d5c37a13fef3b7e6927df694f6b2ce66c40180f5", func := "downpour/downpourlaw21.BootEnds", spec := "bootEnds", apart := false, narrowed := true }
def BootEndsUptoSaid : Prop := bootEndsUptoRow.holds Try.pinned (OpenSpec.upto bootEndsSpec)

/-- 'downpourlaw21.BootConfirms', WHERE WHAT IT READS IS OF BULK AT MOST 1048576: true; the input reads as it did. -/
def bootConfirmsUptoRow : OpenClaim := { program := "ytajlpalgcdiplaa", sum := "f5fd286fb1f75d7deaa575c5d5c37a13fef3b7e6927df694f6b2ce66c40180f5", func := "downpour/downpourlaw21.BootConfirms", spec := "bootConfirms", apart := false, narrowed := true }
def BootConfirmsUptoSaid : Prop := bootConfirmsUptoRow.holds Try.pinned (OpenSpec.upto bootConfirmsSpec)

/-- 'downpourlaw21.BootKeeps', WHERE WHAT IT READS IS OF BULK AT MOST 1048576: true; the input reads as it did. -/
def bootKeepsUptoRow : OpenClaim := { program := "ytajlpalgcdiplaa", sum := "f5fd286fb1f75d7deaa575c5d5c37a13fef3b7e6927df694f6b2ce66c40180f5", func := "downpour/downpourlaw21.BootKeeps", spec := "bootKeeps", apart := false, narrowed := true }
def BootKeepsUptoSaid : Prop := bootKeepsUptoRow.holds Try.pinned (OpenSpec.upto bootKeepsSpec)

/-- 'downpourlaw14.ManifestKeys', WHERE WHAT IT READS IS OF BULK AT MOST 1048576: true; the input reads as it did. -/
def manifestKeysUptoRow : OpenClaim := { program := "ytajlpalgcdiplaa", sum := "f5fd286fb1f75d7deaa575c5d5c37a13fef3b7e6927df694f6b2ce66c40180f5", func := "downpour/downpourlaw14.ManifestKeys", spec := "manifestKeys", apart := false, narrowed := true }
def ManifestKeysUptoSaid : Prop := manifestKeysUptoRow.holds Try.pinned (OpenSpec.upto manifestKeysSpec)

/-- 'downpourlaw14.ManifestForms', WHERE WHAT IT READS IS OF BULK AT MOST 1048576: true; the input reads as it did. -/
def manifestFormsUptoRow : OpenClaim := { program := "ytajlpalgcdiplaa", sum := "f5fd286fb1f75d7deaa575c5d5c37a13fef3b7e6927df694f6b2ce66c40180f5", func := "downpour/downpourlaw14.ManifestForms", spec := "manifestForms", apart := false, narrowed := true }
def ManifestFormsUptoSaid : Prop := manifestFormsUptoRow.holds Try.pinned (OpenSpec.upto manifestFormsSpec)

/-- 'downpourlaw14.ManifestBack', WHERE WHAT IT READS IS OF BULK AT MOST 1048576: true; the input reads as it did. -/
def manifestBackUptoRow : OpenClaim := { program := "ytajlpalgcdiplaa", sum := "f5fd286fb1f75d7deaa575c5d5c37a13fef3b7e6927df694f6b2ce66c40180f5", func := "downpour/downpourlaw14.ManifestBack", spec := "manifestBack", apart := false, narrowed := true }
def ManifestBackUptoSaid : Prop := manifestBackUptoRow.holds Try.pinned (OpenSpec.upto manifestBackSpec)

/-- 'downpourlaw14.ManifestSpoilt', WHERE WHAT IT READS IS OF BULK AT MOST 1048576: true; the input reads as it did. -/
def manifestSpoiltUptoRow : OpenClaim := { program := "ytajlpalgcdiplaa", sum := "f5fd286fb1f75d7deaa575c5d5c37a13fef3b7e6927df694f6b2ce66c40180f5", func := "downpour/downpourlaw14.ManifestSpoilt", spec := "manifestSpoilt", apart := false, narrowed := true }
def ManifestSpoiltUptoSaid : Prop := manifestSpoiltUptoRow.holds Try.pinned (OpenSpec.upto manifestSpoiltSpec)

/-- 'downpourlaw14.ManifestNumbers', WHERE WHAT IT READS IS OF BULK AT MOST 1048576: true; the input reads as it did. -/
def manifestNumbersUptoRow : OpenClaim := { program := "ytajlpalgcdiplaa", sum := "f5fd286fb1f75d7deaa575c5d5c37a13fef3b7e6927df694f6b2ce66c40180f5", func := "downpour/downpourlaw14.ManifestNumbers", spec := "manifestNumbers", apart := false, narrowed := true }
def ManifestNumbersUptoSaid : Prop := manifestNumbersUptoRow.holds Try.pinned (OpenSpec.upto manifestNumbersSpec)

/-- 'downpourlaw21.BootForms', WHERE WHAT IT READS IS OF BULK AT MOST 1048576: true; the input reads as it did. -/
def bootFormsUptoRow : OpenClaim := { program := "ytajlpalgcdiplaa", sum := "f5fd286fb1f75d7deaa575c5d5c37a13fef3b7e6927df694f6b2ce66c40180f5", func := "downpour/downpourlaw21.BootForms", spec := "bootForms", apart := false, narrowed := true }
def BootFormsUptoSaid : Prop := bootFormsUptoRow.holds Try.pinned (OpenSpec.upto bootFormsSpec)

/-- 'downpourlaw21.BootBack', WHERE WHAT IT READS IS OF BULK AT MOST 1048576: true; the input reads as it did. -/
def bootBackUptoRow : OpenClaim := { program := "ytajlpalgcdiplaa", sum := "f5fd286fb1f75d7deaa575c5d5c37a13fef3b7e6927df694f6b2ce66c40180f5", func := "downpour/downpourlaw21.BootBack", spec := "bootBack", apart := false, narrowed := true }
def BootBackUptoSaid : Prop := bootBackUptoRow.holds Try.pinned (OpenSpec.upto bootBackSpec)

end Rows
end Go.Proofs.Ytajlpalgcdiplaa
