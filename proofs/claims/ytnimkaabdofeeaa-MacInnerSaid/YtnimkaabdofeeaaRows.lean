/-
  No cell of these rows narrows 'for every input' (looked for: loops, veiled, ifaces, maps, wideKeys, modest, calm, conditions, laid).
  DERIVED. THE GIVEN ROWS OF THIS SEAT. 10 by the template 'for every input the law returns true; each argument reads behind the call as it read before'; 0 by the template 'total and deterministic' (their statements: YtnimkaabdofeeaaTotals.lean).
  GIVEN WITH THE SEED: the statements are not yours to turn. If you find one false, say at which input.
  Laid BY PROGRAM, IN A SANDBOX (cutbox-rows.mjs): the forced cells as the released guide's own fill.sh prints them over the translation 1f97445b558dea8e… (all of the seat's roots in one cut). By AI agents, Wed Nov 11 2026. No macro, syntax, notation, axiom, sorry.
-/
import Derived.Test.YtnimkaabdofeeaaChecked
import GoSem.Claim
import GoSem.ClaimJoined
import GoSem.ClaimMapViews
import Derived.JoinedTies
import Derived.KernelRfl
namespace Go.Proofs.Ytnimkaabdofeeaa
/- THE CELL 'sum', in the pinned program and in every row, IS THE sha256 OF THE DUMP (.gsa) THAT YtnimkaabdofeeaaProg.lean LOADS. Nothing in Lean hashes anything: it is a label: what it is worth is what the hold of that sum in a sandbox is worth. -/
noncomputable def Try.pinned : Pinned := { name := "ytnimkaabdofeeaa", sum := "1f97445b558dea8e4148fa67c8f7d0dcb36670a4c928554ade86ee6adc6e0342", checked := Try.checked }
namespace Rows
def none {H : Type} : Left H := { results := [], args := [] }

/-- 'downpourlaw2.DigestBorders': WHATEVER THE INPUT: true; the input reads as it did. -/
def digestBordersSpec : ChangeSpec := { name := "digestBorders", fn := fun _ => fun
  | [d1, d2] => { results := [.lit (.bool true)], args := [d1, d2] }
  | _ => none }
def digestBordersRow : OpenClaim := { program := "ytnimkaabdofeeaa", sum := "1f97445b558dea8e4148fa67c8f7d0dcb36670a4c928554ade86ee6adc6e0342", func := "downpour/downpourlaw2.DigestBorders", spec := "digestBorders", apart := false }
def DigestBordersSaid : Prop := digestBordersRow.holds Try.pinned (OpenSpec.ofChange digestBordersSpec)

/-- ITS FALSE NEIGHBOUR: 'it returns false'. Refute it at one input. -/
def digestBordersWrong : ChangeSpec := { name := "digestBorders", fn := fun _ => fun
  | [d1, d2] => { results := [.lit (.bool false)], args := [d1, d2] }
  | _ => none }
def DigestBordersWrongFalsely : Prop := digestBordersRow.holds Try.pinned (OpenSpec.ofChange digestBordersWrong)

/-- 'downpourlaw2.DigestForms': WHATEVER THE INPUT: true; the input reads as it did. -/
def digestFormsSpec : ChangeSpec := { name := "digestForms", fn := fun _ => fun
  | [d] => { results := [.lit (.bool true)], args := [d] }
  | _ => none }
def digestFormsRow : OpenClaim := { program := "ytnimkaabdofeeaa", sum := "1f97445b558dea8e4148fa67c8f7d0dcb36670a4c928554ade86ee6adc6e0342", func := "downpour/downpourlaw2.DigestForms", spec := "digestForms", apart := false }
def DigestFormsSaid : Prop := digestFormsRow.holds Try.pinned (OpenSpec.ofChange digestFormsSpec)

/-- ITS FALSE NEIGHBOUR: 'it returns false'. Refute it at one input. -/
def digestFormsWrong : ChangeSpec := { name := "digestForms", fn := fun _ => fun
  | [d] => { results := [.lit (.bool false)], args := [d] }
  | _ => none }
def DigestFormsWrongFalsely : Prop := digestFormsRow.holds Try.pinned (OpenSpec.ofChange digestFormsWrong)

/-- 'downpourlaw2.DigestCuts': WHATEVER THE INPUT: true; the input reads as it did. -/
def digestCutsSpec : ChangeSpec := { name := "digestCuts", fn := fun _ => fun
  | [d1, d2] => { results := [.lit (.bool true)], args := [d1, d2] }
  | _ => none }
def digestCutsRow : OpenClaim := { program := "ytnimkaabdofeeaa", sum := "1f97445b558dea8e4148fa67c8f7d0dcb36670a4c928554ade86ee6adc6e0342", func := "downpour/downpourlaw2.DigestCuts", spec := "digestCuts", apart := false }
def DigestCutsSaid : Prop := digestCutsRow.holds Try.pinned (OpenSpec.ofChange digestCutsSpec)

/-- ITS FALSE NEIGHBOUR: 'it returns false'. Refute it at one input. -/
def digestCutsWrong : ChangeSpec := { name := "digestCuts", fn := fun _ => fun
  | [d1, d2] => { results := [.lit (.bool false)], args := [d1, d2] }
  | _ => none }
def DigestCutsWrongFalsely : Prop := digestCutsRow.holds Try.pinned (OpenSpec.ofChange digestCutsWrong)

/-- 'downpourlaw2.DigestOnce': WHATEVER THE INPUT: true; the input reads as it did. -/
def digestOnceSpec : ChangeSpec := { name := "digestOnce", fn := fun _ => fun
  | [d1, d2] => { results := [.lit (.bool true)], args := [d1, d2] }
  | _ => none }
def digestOnceRow : OpenClaim := { program := "ytnimkaabdofeeaa", sum := "1f97445b558dea8e4148fa67c8f7d0dcb36670a4c928554ade86ee6adc6e0342", func := "downpour/downpourlaw2.DigestOnce", spec := "digestOnce", apart := false }
def DigestOnceSaid : Prop := digestOnceRow.holds Try.pinned (OpenSpec.ofChange digestOnceSpec)

/-- ITS FALSE NEIGHBOUR: 'it returns false'. Refute it at one input. -/
def digestOnceWrong : ChangeSpec := { name := "digestOnce", fn := fun _ => fun
  | [d1, d2] => { results := [.lit (.bool false)], args := [d1, d2] }
  | _ => none }
def DigestOnceWrongFalsely : Prop := digestOnceRow.holds Try.pinned (OpenSpec.ofChange digestOnceWrong)

/-- 'downpourlaw2.DigestLong': WHATEVER THE INPUT: true; the input reads as it did. -/
def digestLongSpec : ChangeSpec := { name := "digestLong", fn := fun _ => fun
  | [d1, d2] => { results := [.lit (.bool true)], args := [d1, d2] }
  | _ => none }
def digestLongRow : OpenClaim := { program := "ytnimkaabdofeeaa", sum := "1f97445b558dea8e4148fa67c8f7d0dcb36670a4c928554ade86ee6adc6e0342", func := "downpour/downpourlaw2.DigestLong", spec := "digestLong", apart := false }
def DigestLongSaid : Prop := digestLongRow.holds Try.pinned (OpenSpec.ofChange digestLongSpec)

/-- ITS FALSE NEIGHBOUR: 'it returns false'. Refute it at one input. -/
def digestLongWrong : ChangeSpec := { name := "digestLong", fn := fun _ => fun
  | [d1, d2] => { results := [.lit (.bool false)], args := [d1, d2] }
  | _ => none }
def DigestLongWrongFalsely : Prop := digestLongRow.holds Try.pinned (OpenSpec.ofChange digestLongWrong)

/-- 'downpourlaw3.MacInner': WHATEVER THE INPUT: true; the input reads as it did. -/
def macInnerSpec : ChangeSpec := { name := "macInner", fn := fun _ => fun
  | [d1, d2] => { results := [.lit (.bool true)], args := [d1, d2] }
  | _ => none }
def macInnerRow : OpenClaim := { program := "ytnimkaabdofeeaa", sum := "1f97445b558dea8e4148fa67c8f7d0dcb36670a4c928554ade86ee6adc6e0342", func := "downpour/downpourlaw3.MacInner", spec := "macInner", apart := false }
def MacInnerSaid : Prop := macInnerRow.holds Try.pinned (OpenSpec.ofChange macInnerSpec)

/-- ITS FALSE NEIGHBOUR: 'it returns false'. Refute it at one input. -/
def macInnerWrong : ChangeSpec := { name := "macInner", fn := fun _ => fun
  | [d1, d2] => { results := [.lit (.bool false)], args := [d1, d2] }
  | _ => none }
def MacInnerWrongFalsely : Prop := macInnerRow.holds Try.pinned (OpenSpec.ofChange macInnerWrong)

/-- 'downpourlaw3.MacForms': WHATEVER THE INPUT: true; the input reads as it did. -/
def macFormsSpec : ChangeSpec := { name := "macForms", fn := fun _ => fun
  | [d1, d2, d3] => { results := [.lit (.bool true)], args := [d1, d2, d3] }
  | _ => none }
def macFormsRow : OpenClaim := { program := "ytnimkaabdofeeaa", sum := "1f97445b558dea8e4148fa67c8f7d0dcb36670a4c928554ade86ee6adc6e0342", func := "downpour/downpourlaw3.MacForms", spec := "macForms", apart := false }
def MacFormsSaid : Prop := macFormsRow.holds Try.pinned (OpenSpec.ofChange macFormsSpec)

/-- ITS FALSE NEIGHBOUR: 'it returns false'. Refute it at one input. -/
def macFormsWrong : ChangeSpec := { name := "macForms", fn := fun _ => fun
  | [d1, d2, d3] => { results := [.lit (.bool false)], args := [d1, d2, d3] }
  | _ => none }
def MacFormsWrongFalsely : Prop := macFormsRow.holds Try.pinned (OpenSpec.ofChange macFormsWrong)

/-- 'downpourlaw3.MacRight': WHATEVER THE INPUT: true; the input reads as it did. -/
def macRightSpec : ChangeSpec := { name := "macRight", fn := fun _ => fun
  | [d1, d2, d3, d4] => { results := [.lit (.bool true)], args := [d1, d2, d3, d4] }
  | _ => none }
def macRightRow : OpenClaim := { program := "ytnimkaabdofeeaa", sum := "1f97445b558dea8e4148fa67c8f7d0dcb36670a4c928554ade86ee6adc6e0342", func := "downpour/downpourlaw3.MacRight", spec := "macRight", apart := false }
def MacRightSaid : Prop := macRightRow.holds Try.pinned (OpenSpec.ofChange macRightSpec)

/-- ITS FALSE NEIGHBOUR: 'it returns false'. Refute it at one input. -/
def macRightWrong : ChangeSpec := { name := "macRight", fn := fun _ => fun
  | [d1, d2, d3, d4] => { results := [.lit (.bool false)], args := [d1, d2, d3, d4] }
  | _ => none }
def MacRightWrongFalsely : Prop := macRightRow.holds Try.pinned (OpenSpec.ofChange macRightWrong)

/-- 'downpourlaw3.MacKeys': WHATEVER THE INPUT: true; the input reads as it did. -/
def macKeysSpec : ChangeSpec := { name := "macKeys", fn := fun _ => fun
  | [d1, d2, d3] => { results := [.lit (.bool true)], args := [d1, d2, d3] }
  | _ => none }
def macKeysRow : OpenClaim := { program := "ytnimkaabdofeeaa", sum := "1f97445b558dea8e4148fa67c8f7d0dcb36670a4c928554ade86ee6adc6e0342", func := "downpour/downpourlaw3.MacKeys", spec := "macKeys", apart := false }
def MacKeysSaid : Prop := macKeysRow.holds Try.pinned (OpenSpec.ofChange macKeysSpec)

/-- ITS FALSE NEIGHBOUR: 'it returns false'. Refute it at one input. -/
def macKeysWrong : ChangeSpec := { name := "macKeys", fn := fun _ => fun
  | [d1, d2, d3] => { results := [.lit (.bool false)], args := [d1, d2, d3] }
  | _ => none }
def MacKeysWrongFalsely : Prop := macKeysRow.holds Try.pinned (OpenSpec.ofChange macKeysWrong)

/-- 'downpourlaw3.MacLong': WHATEVER THE INPUT: true; the input reads as it did. -/
def macLongSpec : ChangeSpec := { name := "macLong", fn := fun _ => fun
  | [d1, d2] => { results := [.lit (.bool true)], args := [d1, d2] }
  | _ => none }
def macLongRow : OpenClaim := { program := "ytnimkaabdofeeaa", sum := "1f97445b558dea8e4148fa67c8f7d0dcb36670a4c928554ade86ee6adc6e0342", func := "downpour/downpourlaw3.MacLong", spec := "macLong", apart := false }
def MacLongSaid : Prop := macLongRow.holds Try.pinned (OpenSpec.ofChange macLongSpec)

/-- ITS FALSE NEIGHBOUR: 'it returns false'. Refute it at one input. -/
def macLongWrong : ChangeSpec := { name := "macLong", fn := fun _ => fun
  | [d1, d2] => { results := [.lit (.bool false)], args := [d1, d2] }
  | _ => none }
def MacLongWrongFalsely : Prop := macLongRow.holds Try.pinned (OpenSpec.ofChange macLongWrong)

/- THE SECOND FORM. 'bulk': how many values and letters a reading holds, each counted each time it is reached (what is shared counts as often as it is met; a slice's spare places count too). A statement '..UptoSaid' is the law's where the arguments, and the package variables that the reading takes, are together of bulk at most 1048576: NARROWER than '..Said'. Prove '..Said' where nothing that the law and all that it calls make is longer than what came in: it says more and counts as full. Else prove '..UptoSaid'. A law counts once. -/
mutual
def uptoBulk {H : Type} : DataW H → Nat
  | .lit (.string bytes) => bytes.length + 1
  | .lit _ => 1
  | .nil => 1
  | .ptr d => uptoBulk d + 1
  | .slice elems spare => uptoBulkAll elems + uptoBulkAll spare + 1
  | .agg parts => uptoBulkAll parts + 1
  | .iface _ d => uptoBulk d + 1
  | .map entries => uptoBulkEntries entries + 1
  | .held _ => 1
def uptoBulkAll {H : Type} : List (DataW H) → Nat
  | [] => 0
  | d :: r => uptoBulk d + uptoBulkAll r
def uptoBulkEntries {H : Type} : List (Lit × DataW H) → Nat
  | [] => 0
  | x :: r => uptoBulkEntry x + uptoBulkEntries r
def uptoBulkEntry {H : Type} : Lit × DataW H → Nat
  | (.string bytes, d) => bytes.length + uptoBulk d + 1
  | (_, d) => uptoBulk d + 1
 end
def uptoSmall : (H : Type) → List (DataW H) → Bool := fun _ ds => decide (uptoBulkAll ds ≤ 1048576)
def OpenSpec.upto (s : _root_.Go.ChangeSpec) : _root_.Go.OpenSpec := { _root_.Go.OpenSpec.ofChange s with cond := some uptoSmall }

/-- 'downpourlaw2.DigestBorders', WHERE WHAT IT READS IS OF BULK AT MOST 1048576: true; the input reads as it did. -/
def digestBordersUptoRow : OpenClaim := { program := "ytnimkaabdofeeaa", sum := "1f97445b558dea8e4148fa67c8f7d0dcb36670a4c928554ade86ee6adc6e0342", func := "downpour/downpourlaw2.DigestBorders", spec := "digestBorders", apart := false, narrowed := true }
def DigestBordersUptoSaid : Prop := digestBordersUptoRow.holds Try.pinned (OpenSpec.upto digestBordersSpec)

/-- 'downpourlaw2.DigestForms', WHERE WHAT IT READS IS OF BULK AT MOST 1048576: true; the input reads as it did. -/
def digestFormsUptoRow : OpenClaim := { program := "ytnimkaabdofeeaa", sum := "1f97445b558dea8e4148fa67c8f7d0dcb36670a4c928554ade86ee6adc6e0342", func := "downpour/downpourlaw2.DigestForms", spec := "digestForms", apart := false, narrowed := true }
def DigestFormsUptoSaid : Prop := digestFormsUptoRow.holds Try.pinned (OpenSpec.upto digestFormsSpec)

/-- 'downpourlaw2.DigestCuts', WHERE WHAT IT READS IS OF BULK AT MOST 1048576: true; the input reads as it did. -/
def digestCutsUptoRow : OpenClaim := { program := "ytnimkaabdofeeaa", sum := "1f97445b558dea8e4148fa67c8f7d0dcb36670a4c928554ade86ee6adc6e0342", func := "downpour/downpourlaw2.DigestCuts", spec := "digestCuts", apart := false, narrowed := true }
def DigestCutsUptoSaid : Prop := digestCutsUptoRow.holds Try.pinned (OpenSpec.upto digestCutsSpec)

/-- 'downpourlaw2.DigestOnce', WHERE WHAT IT READS IS OF BULK AT MOST 1048576: true; the input reads as it did. -/
def digestOnceUptoRow : OpenClaim := { program := "ytnimkaabdofeeaa", sum := "1f97445b558dea8e4148fa67c8f7d0dcb36670a4c928554ade86ee6adc6e0342", func := "downpour/downpourlaw2.DigestOnce", spec := "digestOnce", apart := false, narrowed := true }
def DigestOnceUptoSaid : Prop := digestOnceUptoRow.holds Try.pinned (OpenSpec.upto digestOnceSpec)

/-- 'downpourlaw2.DigestLong', WHERE WHAT IT READS IS OF BULK AT MOST 1048576: true; the input reads as it did. -/
def digestLongUptoRow : OpenClaim := { program := "ytnimkaabdofeeaa", sum := "1f97445b558dea8e4148fa67c8f7d0dcb36670a4c928554ade86ee6adc6e0342", func := "downpour/downpourlaw2.DigestLong", spec := "digestLong", apart := false, narrowed := true }
def DigestLongUptoSaid : Prop := digestLongUptoRow.holds Try.pinned (OpenSpec.upto digestLongSpec)

/-- 'downpourlaw3.MacInner', WHERE WHAT IT READS IS OF BULK AT MOST 1048576: true; the input reads as it did. -/
def macInnerUptoRow : OpenClaim := { program := "ytnimkaabdofeeaa", sum := "1f97445b558dea8e4148fa67c8f7d0dcb36670a4c928554ade86ee6adc6e0342", func := "downpour/downpourlaw3.MacInner", spec := "macInner", apart := false, narrowed := true }
def MacInnerUptoSaid : Prop := macInnerUptoRow.holds Try.pinned (OpenSpec.upto macInnerSpec)

/-- 'downpourlaw3.MacForms', WHERE WHAT IT READS IS OF BULK AT MOST 1048576: true; the input reads as it did. -/
def macFormsUptoRow : OpenClaim := { program := "ytnimkaabdofeeaa", sum := "1f97445b558dea8e4148fa67c8f7d0dcb36670a4c928554ade86ee6adc6e0342", func := "downpour/downpourlaw3.MacForms", spec := "macForms", apart := false, narrowed := true }
def MacFormsUptoSaid : Prop := macFormsUptoRow.holds Try.pinned (OpenSpec.upto macFormsSpec)

/-- 'downpourlaw3.MacRight', WHERE WHAT IT READS IS OF BULK AT MOST 1048576: true; the input reads as it did. -/
def macRightUptoRow : OpenClaim := { program := "ytnimkaabdofeeaa", sum := "1f97445b558dea8e4148fa67c8f7d0dcb36670a4c928554ade86ee6adc6e0342", func := "downpour/downpourlaw3.MacRight", spec := "macRight", apart := false, narrowed := true }
def MacRightUptoSaid : Prop := macRightUptoRow.holds Try.pinned (OpenSpec.upto macRightSpec)

/-- 'downpourlaw3.MacKeys', WHERE WHAT IT READS IS OF BULK AT MOST 1048576: true; the input reads as it did. -/
def macKeysUptoRow : OpenClaim := { program := "ytnimkaabdofeeaa", sum := "1f97445b558dea8e4148fa67c8f7d0dcb36670a4c928554ade86ee6adc6e0342", func := "downpour/downpourlaw3.MacKeys", spec := "macKeys", apart := false, narrowed := true }
def MacKeysUptoSaid : Prop := macKeysUptoRow.holds Try.pinned (OpenSpec.upto macKeysSpec)

/-- 'downpourlaw3.MacLong', WHERE WHAT IT READS IS OF BULK AT MOST 1048576: true; the input reads as it did. -/
def macLongUptoRow : OpenClaim := { program := "ytnimkaabdofeeaa", sum := "1f97445b558dea8e4148fa67c8f7d0dcb36670a4c928554ade86ee6adc6e0342", func := "downpour/downpourlaw3.MacLong", spec := "macLong", apart := false, narrowed := true }
def MacLongUptoSaid : Prop := macLongUptoRow.holds Try.pinned (OpenSpec.upto macLongSpec)

end Rows
end Go.Proofs.Ytnimkaabdofeeaa
