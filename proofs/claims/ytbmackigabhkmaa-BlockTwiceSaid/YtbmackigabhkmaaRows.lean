/-
  No cell of these rows narrows 'for every input' (looked for: loops, veiled, ifaces, maps, wideKeys, modest, calm, conditions, laid).
  DERIVED. THE GIVEN ROWS OF THIS SEAT. 10 by the template 'for every input the law returns true; each argument reads behind the call as it read before'; 0 by the template 'total and deterministic' (their statements: YtbmackigabhkmaaTotals.lean).
  GIVEN WITH THE SEED: the statements are not yours to turn. If you find one false, say at which input.
  Laid BY PROGRAM, IN A SANDBOX (cutbox-rows.mjs): the forced cells as the released guide's own fill.sh prints them over the translation ea72cc0572cf32c3… (all of the seat's roots in one cut). By AI agents, Wed Nov 11 2026. No macro, syntax, notation, axiom, sorry.
-/
import Derived.Test.YtbmackigabhkmaaChecked
import GoSem.Claim
import GoSem.ClaimJoined
import GoSem.ClaimMapViews
import Derived.JoinedTies
import Derived.KernelRfl
namespace Go.Proofs.Ytbmackigabhkmaa
/- THE CELL 'sum', in the pinned program and in every row, IS THE sha256 OF THE DUMP (.gsa) THAT YtbmackigabhkmaaProg.lean LOADS. Nothing in Lean hashes anything: it is a label: what it is worth is what the hold of that sum in a sandbox is worth. -/
noncomputable def Try.pinned : Pinned := { name := "ytbmackigabhkmaa", sum := "ea72cc0572cf32c39e10cf148aa761e19ebe29baa23f3937c5ab258121993024", checked := Try.checked }
namespace Rows
def none {H : Type} : Left H := { results := [], args := [] }

/-- 'downpourlaw15.PacketFits': WHATEVER THE INPUT: true; the input reads as it did. -/
def packetFitsSpec : ChangeSpec := { name := "packetFits", fn := fun _ => fun
  | [d1, d2, d3] => { results := [.lit (.bool true)], args := [d1, d2, d3] }
  | _ => none }
def packetFitsRow : OpenClaim := { program := "ytbmackigabhkmaa", sum := "ea72cc0572cf32c39e10cf148aa761e19ebe29baa23f3937c5ab258121993024", func := "downpour/downpourlaw15.PacketFits", spec := "packetFits", apart := false }
def PacketFitsSaid : Prop := packetFitsRow.holds Try.pinned (OpenSpec.ofChange packetFitsSpec)

/-- ITS FALSE NEIGHBOUR: 'it returns false'. Refute it at one input. -/
def packetFitsWrong : ChangeSpec := { name := "packetFits", fn := fun _ => fun
  | [d1, d2, d3] => { results := [.lit (.bool false)], args := [d1, d2, d3] }
  | _ => none }
def PacketFitsWrongFalsely : Prop := packetFitsRow.holds Try.pinned (OpenSpec.ofChange packetFitsWrong)

/-- 'downpourlaw15.PacketOne': WHATEVER THE INPUT: true; the input reads as it did. -/
def packetOneSpec : ChangeSpec := { name := "packetOne", fn := fun _ => fun
  | [d1, d2] => { results := [.lit (.bool true)], args := [d1, d2] }
  | _ => none }
def packetOneRow : OpenClaim := { program := "ytbmackigabhkmaa", sum := "ea72cc0572cf32c39e10cf148aa761e19ebe29baa23f3937c5ab258121993024", func := "downpour/downpourlaw15.PacketOne", spec := "packetOne", apart := false }
def PacketOneSaid : Prop := packetOneRow.holds Try.pinned (OpenSpec.ofChange packetOneSpec)

/-- ITS FALSE NEIGHBOUR: 'it returns false'. Refute it at one input. -/
def packetOneWrong : ChangeSpec := { name := "packetOne", fn := fun _ => fun
  | [d1, d2] => { results := [.lit (.bool false)], args := [d1, d2] }
  | _ => none }
def PacketOneWrongFalsely : Prop := packetOneRow.holds Try.pinned (OpenSpec.ofChange packetOneWrong)

/-- 'downpourlaw10.BlockForms': WHATEVER THE INPUT: true; the input reads as it did. -/
def blockFormsSpec : ChangeSpec := { name := "blockForms", fn := fun _ => fun
  | [d1, d2, d3, d4] => { results := [.lit (.bool true)], args := [d1, d2, d3, d4] }
  | _ => none }
def blockFormsRow : OpenClaim := { program := "ytbmackigabhkmaa", sum := "ea72cc0572cf32c39e10cf148aa761e19ebe29baa23f3937c5ab258121993024", func := "downpour/downpourlaw10.BlockForms", spec := "blockForms", apart := false }
def BlockFormsSaid : Prop := blockFormsRow.holds Try.pinned (OpenSpec.ofChange blockFormsSpec)

/-- ITS FALSE NEIGHBOUR: 'it returns false'. Refute it at one input. -/
def blockFormsWrong : ChangeSpec := { name := "blockForms", fn := fun _ => fun
  | [d1, d2, d3, d4] => { results := [.lit (.bool false)], args := [d1, d2, d3, d4] }
  | _ => none }
def BlockFormsWrongFalsely : Prop := blockFormsRow.holds Try.pinned (OpenSpec.ofChange blockFormsWrong)

/-- 'downpourlaw10.BlockBack': WHATEVER THE INPUT: true; the input reads as it did. -/
def blockBackSpec : ChangeSpec := { name := "blockBack", fn := fun _ => fun
  | [d1, d2] => { results := [.lit (.bool true)], args := [d1, d2] }
  | _ => none }
def blockBackRow : OpenClaim := { program := "ytbmackigabhkmaa", sum := "ea72cc0572cf32c39e10cf148aa761e19ebe29baa23f3937c5ab258121993024", func := "downpour/downpourlaw10.BlockBack", spec := "blockBack", apart := false }
def BlockBackSaid : Prop := blockBackRow.holds Try.pinned (OpenSpec.ofChange blockBackSpec)

/-- ITS FALSE NEIGHBOUR: 'it returns false'. Refute it at one input. -/
def blockBackWrong : ChangeSpec := { name := "blockBack", fn := fun _ => fun
  | [d1, d2] => { results := [.lit (.bool false)], args := [d1, d2] }
  | _ => none }
def BlockBackWrongFalsely : Prop := blockBackRow.holds Try.pinned (OpenSpec.ofChange blockBackWrong)

/-- 'downpourlaw10.BlockCounts': WHATEVER THE INPUT: true; the input reads as it did. -/
def blockCountsSpec : ChangeSpec := { name := "blockCounts", fn := fun _ => fun
  | [d1, d2] => { results := [.lit (.bool true)], args := [d1, d2] }
  | _ => none }
def blockCountsRow : OpenClaim := { program := "ytbmackigabhkmaa", sum := "ea72cc0572cf32c39e10cf148aa761e19ebe29baa23f3937c5ab258121993024", func := "downpour/downpourlaw10.BlockCounts", spec := "blockCounts", apart := false }
def BlockCountsSaid : Prop := blockCountsRow.holds Try.pinned (OpenSpec.ofChange blockCountsSpec)

/-- ITS FALSE NEIGHBOUR: 'it returns false'. Refute it at one input. -/
def blockCountsWrong : ChangeSpec := { name := "blockCounts", fn := fun _ => fun
  | [d1, d2] => { results := [.lit (.bool false)], args := [d1, d2] }
  | _ => none }
def BlockCountsWrongFalsely : Prop := blockCountsRow.holds Try.pinned (OpenSpec.ofChange blockCountsWrong)

/-- 'downpourlaw10.BlockPieces': WHATEVER THE INPUT: true; the input reads as it did. -/
def blockPiecesSpec : ChangeSpec := { name := "blockPieces", fn := fun _ => fun
  | [d1, d2] => { results := [.lit (.bool true)], args := [d1, d2] }
  | _ => none }
def blockPiecesRow : OpenClaim := { program := "ytbmackigabhkmaa", sum := "ea72cc0572cf32c39e10cf148aa761e19ebe29baa23f3937c5ab258121993024", func := "downpour/downpourlaw10.BlockPieces", spec := "blockPieces", apart := false }
def BlockPiecesSaid : Prop := blockPiecesRow.holds Try.pinned (OpenSpec.ofChange blockPiecesSpec)

/-- ITS FALSE NEIGHBOUR: 'it returns false'. Refute it at one input. -/
def blockPiecesWrong : ChangeSpec := { name := "blockPieces", fn := fun _ => fun
  | [d1, d2] => { results := [.lit (.bool false)], args := [d1, d2] }
  | _ => none }
def BlockPiecesWrongFalsely : Prop := blockPiecesRow.holds Try.pinned (OpenSpec.ofChange blockPiecesWrong)

/-- 'downpourlaw15.PacketBack': WHATEVER THE INPUT: true; the input reads as it did. -/
def packetBackSpec : ChangeSpec := { name := "packetBack", fn := fun _ => fun
  | [d1, d2] => { results := [.lit (.bool true)], args := [d1, d2] }
  | _ => none }
def packetBackRow : OpenClaim := { program := "ytbmackigabhkmaa", sum := "ea72cc0572cf32c39e10cf148aa761e19ebe29baa23f3937c5ab258121993024", func := "downpour/downpourlaw15.PacketBack", spec := "packetBack", apart := false }
def PacketBackSaid : Prop := packetBackRow.holds Try.pinned (OpenSpec.ofChange packetBackSpec)

/-- ITS FALSE NEIGHBOUR: 'it returns false'. Refute it at one input. -/
def packetBackWrong : ChangeSpec := { name := "packetBack", fn := fun _ => fun
  | [d1, d2] => { results := [.lit (.bool false)], args := [d1, d2] }
  | _ => none }
def PacketBackWrongFalsely : Prop := packetBackRow.holds Try.pinned (OpenSpec.ofChange packetBackWrong)

/-- 'downpourlaw10.BlockSums': WHATEVER THE INPUT: true; the input reads as it did. -/
def blockSumsSpec : ChangeSpec := { name := "blockSums", fn := fun _ => fun
  | [d] => { results := [.lit (.bool true)], args := [d] }
  | _ => none }
def blockSumsRow : OpenClaim := { program := "ytbmackigabhkmaa", sum := "ea72cc0572cf32c39e10cf148aa761e19ebe29baa23f3937c5ab258121993024", func := "downpour/downpourlaw10.BlockSums", spec := "blockSums", apart := false }
def BlockSumsSaid : Prop := blockSumsRow.holds Try.pinned (OpenSpec.ofChange blockSumsSpec)

/-- ITS FALSE NEIGHBOUR: 'it returns false'. Refute it at one input. -/
def blockSumsWrong : ChangeSpec := { name := "blockSums", fn := fun _ => fun
  | [d] => { results := [.lit (.bool false)], args := [d] }
  | _ => none }
def BlockSumsWrongFalsely : Prop := blockSumsRow.holds Try.pinned (OpenSpec.ofChange blockSumsWrong)

/-- 'downpourlaw10.BlockTwice': WHATEVER THE INPUT: true; the input reads as it did. -/
def blockTwiceSpec : ChangeSpec := { name := "blockTwice", fn := fun _ => fun
  | [d1, d2, d3, d4] => { results := [.lit (.bool true)], args := [d1, d2, d3, d4] }
  | _ => none }
def blockTwiceRow : OpenClaim := { program := "ytbmackigabhkmaa", sum := "ea72cc0572cf32c39e10cf148aa761e19ebe29baa23f3937c5ab258121993024", func := "downpour/downpourlaw10.BlockTwice", spec := "blockTwice", apart := false }
def BlockTwiceSaid : Prop := blockTwiceRow.holds Try.pinned (OpenSpec.ofChange blockTwiceSpec)

/-- ITS FALSE NEIGHBOUR: 'it returns false'. Refute it at one input. -/
def blockTwiceWrong : ChangeSpec := { name := "blockTwice", fn := fun _ => fun
  | [d1, d2, d3, d4] => { results := [.lit (.bool false)], args := [d1, d2, d3, d4] }
  | _ => none }
def BlockTwiceWrongFalsely : Prop := blockTwiceRow.holds Try.pinned (OpenSpec.ofChange blockTwiceWrong)

/-- 'downpourlaw15.PacketForms': WHATEVER THE INPUT: true; the input reads as it did. -/
def packetFormsSpec : ChangeSpec := { name := "packetForms", fn := fun _ => fun
  | [d1, d2, d3, d4] => { results := [.lit (.bool true)], args := [d1, d2, d3, d4] }
  | _ => none }
def packetFormsRow : OpenClaim := { program := "ytbmackigabhkmaa", sum := "ea72cc0572cf32c39e10cf148aa761e19ebe29baa23f3937c5ab258121993024", func := "downpour/downpourlaw15.PacketForms", spec := "packetForms", apart := false }
def PacketFormsSaid : Prop := packetFormsRow.holds Try.pinned (OpenSpec.ofChange packetFormsSpec)

/-- ITS FALSE NEIGHBOUR: 'it returns false'. Refute it at one input. -/
def packetFormsWrong : ChangeSpec := { name := "packetForms", fn := fun _ => fun
  | [d1, d2, d3, d4] => { results := [.lit (.bool false)], args := [d1, d2, d3, d4] }
  | _ => none }
def PacketFormsWrongFalsely : Prop := packetFormsRow.holds Try.pinned (OpenSpec.ofChange packetFormsWrong)

/- THE SECOND FORM. 'bulk': how many values and letters a reading holds, each counted each time it is reached (what is shared counts as often as it is met; a slice's spare places count too). A statement '..UptoSaid' is the law's where the arguments, and the package variables that the reading takes, are together of bulk at most 1048576: NARROWER than '..Said'. Prove '..Said' where nothing that the law and all that it calls make is longer than what came in: it says more and counts as full. Else prove '..UptoSaid'. A law counts once. -/
mutual
def uptoBulk {H : Type} : DataW H → Nat
  | .lit (.string bytes) => bytes.length + 1
  | .lit _ => 1
  | .nil => 1
  | .ptr d => uptoBulk d + 1
  | .slice elems spare => uptoBulkAll elems + uptoBulkAll spare + 1
  | .agg parts => uptoBulkAll parts + 1
  | .iface _ d => uptoBulk d + 1
  | .map entries => uptoBulkEntries entries + 1
  | .held _ => 1
def uptoBulkAll {H : Type} : List (DataW H) → Nat
  | [] => 0
  | d :: r => uptoBulk d + uptoBulkAll r
def uptoBulkEntries {H : Type} : List (Lit × DataW H) → Nat
  | [] => 0
  | x :: r => uptoBulkEntry x + uptoBulkEntries r
def uptoBulkEntry {H : Type} : Lit × DataW H → Nat
  | (.string bytes, d) => bytes.length + uptoBulk d + 1
  | (_, d) => uptoBulk d + 1
 end
def uptoSmall : (H : Type) → List (DataW H) → Bool := fun _ ds => decide (uptoBulkAll ds ≤ 1048576)
def OpenSpec.upto (s : _root_.Go.ChangeSpec) : _root_.Go.OpenSpec := { _root_.Go.OpenSpec.ofChange s with cond := some uptoSmall }

/-- 'downpourlaw15.PacketFits', WHERE WHAT IT READS IS OF BULK AT MOST 1048576: true; the input reads as it did. -/
def packetFitsUptoRow : OpenClaim := { program := "ytbmackigabhkmaa", sum := "ea72cc0572cf32c39e10cf148aa761e19ebe29baa23f3937c5ab258121993024", func := "downpour/downpourlaw15.PacketFits", spec := "packetFits", apart := false, narrowed := true }
def PacketFitsUptoSaid : Prop := packetFitsUptoRow.holds Try.pinned (OpenSpec.upto packetFitsSpec)

/-- 'downpourlaw15.PacketOne', WHERE WHAT IT READS IS OF BULK AT MOST 1048576: true; the input reads as it did. -/
def packetOneUptoRow : OpenClaim := { program := "ytbmackigabhkmaa", sum := "ea72cc0572cf32c39e10cf148aa761e19ebe29baa23f3937c5ab258121993024", func := "downpour/downpourlaw15.PacketOne", spec := "packetOne", apart := false, narrowed := true }
def PacketOneUptoSaid : Prop := packetOneUptoRow.holds Try.pinned (OpenSpec.upto packetOneSpec)

/-- 'downpourlaw10.BlockForms', WHERE WHAT IT READS IS OF BULK AT MOST 1048576: true; the input reads as it did. -/
def blockFormsUptoRow : OpenClaim := { program := "ytbmackigabhkmaa", sum := "ea72cc0572cf32c39e10cf148aa761e19ebe29baa23f3937c5ab258121993024", func := "downpour/downpourlaw10.BlockForms", spec := "blockForms", apart := false, narrowed := true }
def BlockFormsUptoSaid : Prop := blockFormsUptoRow.holds Try.pinned (OpenSpec.upto blockFormsSpec)

/-- 'downpourlaw10.BlockBack', WHERE WHAT IT READS IS OF BULK AT MOST 1048576: true; the input reads as it did. -/
def blockBackUptoRow : OpenClaim := { program := "ytbmackigabhkmaa", sum := "ea72cc0572cf32c39e10cf148aa761e19ebe29baa23f3937c5ab258121993024", func := "downpour/downpourlaw10.BlockBack", spec := "blockBack", apart := false, narrowed := true }
def BlockBackUptoSaid : Prop := blockBackUptoRow.holds Try.pinned (OpenSpec.upto blockBackSpec)

/-- 'downpourlaw10.BlockCounts', WHERE WHAT IT READS IS OF BULK AT MOST 1048576: true; the input reads as it did. -/
def blockCountsUptoRow : OpenClaim := { program := "ytbmackigabhkmaa", sum := "ea72cc0572cf32c39e10cf148aa761e19ebe29baa23f3937c5ab258121993024", func := "downpour/downpourlaw10.BlockCounts", spec := "blockCounts", apart := false, narrowed := true }
def BlockCountsUptoSaid : Prop := blockCountsUptoRow.holds Try.pinned (OpenSpec.upto blockCountsSpec)

/-- 'downpourlaw10.BlockPieces', WHERE WHAT IT READS IS OF BULK AT MOST 1048576: true; the input reads as it did. -/
def blockPiecesUptoRow : OpenClaim := { program := "ytbmackigabhkmaa", sum := "ea72cc0572cf32c39e10cf148aa761e19ebe29baa23f3937c5ab258121993024", func := "downpour/downpourlaw10.BlockPieces", spec := "blockPieces", apart := false, narrowed := true }
def BlockPiecesUptoSaid : Prop := blockPiecesUptoRow.holds Try.pinned (OpenSpec.upto blockPiecesSpec)

/-- 'downpourlaw15.PacketBack', WHERE WHAT IT READS IS OF BULK AT MOST 1048576: true; the input reads as it did. -/
def packetBackUptoRow : OpenClaim := { program := "ytbmackigabhkmaa", sum := "ea72cc0572cf32c39e10cf148aa761e19ebe29baa23f3937c5ab258121993024", func := "downpour/downpourlaw15.PacketBack", spec := "packetBack", apart := false, narrowed := true }
def PacketBackUptoSaid : Prop := packetBackUptoRow.holds Try.pinned (OpenSpec.upto packetBackSpec)

/-- 'downpourlaw10.BlockSums', WHERE WHAT IT READS IS OF BULK AT MOST 1048576: true; the input reads as it did. -/
def blockSumsUptoRow : OpenClaim := { program := "ytbmackigabhkmaa", sum := "ea72cc0572cf32c39e10cf148aa761e19ebe29baa23f3937c5ab258121993024", func := "downpour/downpourlaw10.BlockSums", spec := "blockSums", apart := false, narrowed := true }
def BlockSumsUptoSaid : Prop := blockSumsUptoRow.holds Try.pinned (OpenSpec.upto blockSumsSpec)

/-- 'downpourlaw10.BlockTwice', WHERE WHAT IT READS IS OF BULK AT MOST 1048576: true; the input reads as it did. -/
def blockTwiceUptoRow : OpenClaim := { program := "ytbmackigabhkmaa", sum := "ea72cc0572cf32c39e10cf148aa761e19ebe29baa23f3937c5ab258121993024", func := "downpour/downpourlaw10.BlockTwice", spec := "blockTwice", apart := false, narrowed := true }
def BlockTwiceUptoSaid : Prop := blockTwiceUptoRow.holds Try.pinned (OpenSpec.upto blockTwiceSpec)

/-- 'downpourlaw15.PacketForms', WHERE WHAT IT READS IS OF BULK AT MOST 1048576: true; the input reads as it did. -/
def packetFormsUptoRow : OpenClaim := { program := "ytbmackigabhkmaa", sum := "ea72cc0572cf32c39e10cf148aa761e19ebe29baa23f3937c5ab258121993024", func := "downpour/downpourlaw15.PacketForms", spec := "packetForms", apart := false, narrowed := true }
def PacketFormsUptoSaid : Prop := packetFormsUptoRow.holds Try.pinned (OpenSpec.upto packetFormsSpec)

end Rows
end Go.Proofs.Ytbmackigabhkmaa
