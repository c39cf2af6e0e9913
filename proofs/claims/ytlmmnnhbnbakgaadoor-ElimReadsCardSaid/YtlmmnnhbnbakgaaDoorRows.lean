/-
  NARROWER THAN 'FOR EVERY INPUT', by the rows' own cells (each row's printed sentence says how): VecSets: laid · VecOrder: laid · ElimUnits: laid · VecForms: laid · VecNil: laid · VecTwice: laid · ElimNil: laid · ElimSpans: laid · ElimBytes: laid · ElimPlays: laid · ElimReads: laid.
  DERIVED. THE GIVEN ROWS OF THIS SEAT. 11 by the template 'for every input the law returns true; each argument reads behind the call as it read before'; 0 by the template 'total and deterministic' (their statements: YtlmmnnhbnbakgaaDoorTotals.lean).
  GIVEN WITH THE SEED: the statements are not yours to turn. If you find one false, say at which input.
  Laid BY PROGRAM, IN A SANDBOX (cutbox-rows.mjs): the forced cells as the released guide's own fill.sh prints them over the translation d15512b3ff7f3f5c… (all of the seat's roots in one cut). By AI agents, Wed Nov 11 2026. No macro, syntax, notation, axiom, sorry.
-/
import Derived.Test.YtlmmnnhbnbakgaaDoorChecked
import GoSem.Claim
import GoSem.ClaimJoined
import GoSem.ClaimMapViews
import Derived.JoinedTies
import Derived.KernelRfl
namespace Go.Proofs.YtlmmnnhbnbakgaaDoor
/- THE CELL 'sum', in the pinned program and in every row, IS THE sha256 OF THE DUMP (.gsa) THAT YtlmmnnhbnbakgaaDoorProg.lean LOADS. Nothing in Lean hashes anything: it is a label: what it is worth is what the hold of that sum in a sandbox is worth. -/
noncomputable def Tryd.pinned : Pinned := { name := "ytlmmnnhbnbakgaadoor", sum := "d15512b3ff7f3f5c037bacdb24c5b53d445bc62e9816a3d42cf84d6bd5bd847e", checked := Tryd.checked }
namespace Rows
def none {H : Type} : Left H := { results := [], args := [] }

/- WHAT THE LISTED PACKAGE-LEVEL VARIABLES READ AS WHEN THE CALL BEGINS. Each datum BY PROGRAM (the guide's laid-datum.mjs) off the statement by which the dump's own 'gosem.cut.vars' lays the variable. In a bare row this is a premise. The card (YtlmmnnhbnbakgaaDoorCards.lean) ties it to the program's text. -/
def laid_math_bits_deBruijn64tab {H : Type} : DataW H := .agg [.lit (.int .u8 0), .lit (.int .u8 1), .lit (.int .u8 56), .lit (.int .u8 2), .lit (.int .u8 57), .lit (.int .u8 49), .lit (.int .u8 28), .lit (.int .u8 3), .lit (.int .u8 61), .lit (.int .u8 58), .lit (.int .u8 42), .lit (.int .u8 50), .lit (.int .u8 38), .lit (.int .u8 29), .lit (.int .u8 17), .lit (.int .u8 4), .lit (.int .u8 62), .lit (.int .u8 47), .lit (.int .u8 59), .lit (.int .u8 36), .lit (.int .u8 45), .lit (.int .u8 43), .lit (.int .u8 51), .lit (.int .u8 22), .lit (.int .u8 53), .lit (.int .u8 39), .lit (.int .u8 33), .lit (.int .u8 30), .lit (.int .u8 24), .lit (.int .u8 18), .lit (.int .u8 12), .lit (.int .u8 5), .lit (.int .u8 63), .lit (.int .u8 55), .lit (.int .u8 48), .lit (.int .u8 27), .lit (.int .u8 60), .lit (.int .u8 41), .lit (.int .u8 37), .lit (.int .u8 16), .lit (.int .u8 46), .lit (.int .u8 35), .lit (.int .u8 44), .lit (.int .u8 21), .lit (.int .u8 52), .lit (.int .u8 32), .lit (.int .u8 23), .lit (.int .u8 11), .lit (.int .u8 54), .lit (.int .u8 26), .lit (.int .u8 40), .lit (.int .u8 15), .lit (.int .u8 34), .lit (.int .u8 20), .lit (.int .u8 31), .lit (.int .u8 10), .lit (.int .u8 25), .lit (.int .u8 14), .lit (.int .u8 19), .lit (.int .u8 9), .lit (.int .u8 13), .lit (.int .u8 8), .lit (.int .u8 7), .lit (.int .u8 6)]

/-- 'downpourlaw5.VecSets': WHATEVER THE INPUT: true; the input reads as it did. -/
def vecSetsSpec : ChangeSpec := { name := "vecSets", fn := fun _ => fun
  | [d1, d2, d3] => { results := [.lit (.bool true)], args := [d1, d2, d3] }
  | _ => none }
def vecSetsRow : OpenClaim := { program := "ytlmmnnhbnbakgaadoor", sum := "d15512b3ff7f3f5c037bacdb24c5b53d445bc62e9816a3d42cf84d6bd5bd847e", func := "downpour/downpourlaw5.VecSets", spec := "vecSets", named := ["math/bits.deBruijn64tab"], apart := false, laid := [("math/bits.deBruijn64tab", laid_math_bits_deBruijn64tab)] }
def VecSetsSaid : Prop := vecSetsRow.holds Tryd.pinned (OpenSpec.ofChange vecSetsSpec)

/-- ITS FALSE NEIGHBOUR: 'it returns false'. Refute it at one input. -/
def vecSetsWrong : ChangeSpec := { name := "vecSets", fn := fun _ => fun
  | [d1, d2, d3] => { results := [.lit (.bool false)], args := [d1, d2, d3] }
  | _ => none }
def VecSetsWrongFalsely : Prop := vecSetsRow.holds Tryd.pinned (OpenSpec.ofChange vecSetsWrong)

/-- 'downpourlaw5.VecOrder': WHATEVER THE INPUT: true; the input reads as it did. -/
def vecOrderSpec : ChangeSpec := { name := "vecOrder", fn := fun _ => fun
  | [d1, d2, d3] => { results := [.lit (.bool true)], args := [d1, d2, d3] }
  | _ => none }
def vecOrderRow : OpenClaim := { program := "ytlmmnnhbnbakgaadoor", sum := "d15512b3ff7f3f5c037bacdb24c5b53d445bc62e9816a3d42cf84d6bd5bd847e", func := "downpour/downpourlaw5.VecOrder", spec := "vecOrder", named := ["math/bits.deBruijn64tab"], apart := false, laid := [("math/bits.deBruijn64tab", laid_math_bits_deBruijn64tab)] }
def VecOrderSaid : Prop := vecOrderRow.holds Tryd.pinned (OpenSpec.ofChange vecOrderSpec)

/-- ITS FALSE NEIGHBOUR: 'it returns false'. Refute it at one input. -/
def vecOrderWrong : ChangeSpec := { name := "vecOrder", fn := fun _ => fun
  | [d1, d2, d3] => { results := [.lit (.bool false)], args := [d1, d2, d3] }
  | _ => none }
def VecOrderWrongFalsely : Prop := vecOrderRow.holds Tryd.pinned (OpenSpec.ofChange vecOrderWrong)

/-- 'downpourlaw6.ElimUnits': WHATEVER THE INPUT: true; the input reads as it did. -/
def elimUnitsSpec : ChangeSpec := { name := "elimUnits", fn := fun _ => fun
  | [d1, d2, d3] => { results := [.lit (.bool true)], args := [d1, d2, d3] }
  | _ => none }
def elimUnitsRow : OpenClaim := { program := "ytlmmnnhbnbakgaadoor", sum := "d15512b3ff7f3f5c037bacdb24c5b53d445bc62e9816a3d42cf84d6bd5bd847e", func := "downpour/downpourlaw6.ElimUnits", spec := "elimUnits", inPlace := ["sync/atomic.AddInt64", "sync/atomic.LoadInt64"], named := ["math/bits.deBruijn64tab"], apart := false, laid := [("math/bits.deBruijn64tab", laid_math_bits_deBruijn64tab)] }
def ElimUnitsSaid : Prop := elimUnitsRow.holds Tryd.pinned (OpenSpec.ofChange elimUnitsSpec)

/-- ITS FALSE NEIGHBOUR: 'it returns false'. Refute it at one input. -/
def elimUnitsWrong : ChangeSpec := { name := "elimUnits", fn := fun _ => fun
  | [d1, d2, d3] => { results := [.lit (.bool false)], args := [d1, d2, d3] }
  | _ => none }
def ElimUnitsWrongFalsely : Prop := elimUnitsRow.holds Tryd.pinned (OpenSpec.ofChange elimUnitsWrong)

/-- 'downpourlaw5.VecForms': WHATEVER THE INPUT: true; the input reads as it did. -/
def vecFormsSpec : ChangeSpec := { name := "vecForms", fn := fun _ => fun
  | [d1, d2, d3, d4, d5, d6] => { results := [.lit (.bool true)], args := [d1, d2, d3, d4, d5, d6] }
  | _ => none }
def vecFormsRow : OpenClaim := { program := "ytlmmnnhbnbakgaadoor", sum := "d15512b3ff7f3f5c037bacdb24c5b53d445bc62e9816a3d42cf84d6bd5bd847e", func := "downpour/downpourlaw5.VecForms", spec := "vecForms", named := ["math/bits.deBruijn64tab"], apart := false, laid := [("math/bits.deBruijn64tab", laid_math_bits_deBruijn64tab)] }
def VecFormsSaid : Prop := vecFormsRow.holds Tryd.pinned (OpenSpec.ofChange vecFormsSpec)

/-- ITS FALSE NEIGHBOUR: 'it returns false'. Refute it at one input. -/
def vecFormsWrong : ChangeSpec := { name := "vecForms", fn := fun _ => fun
  | [d1, d2, d3, d4, d5, d6] => { results := [.lit (.bool false)], args := [d1, d2, d3, d4, d5, d6] }
  | _ => none }
def VecFormsWrongFalsely : Prop := vecFormsRow.holds Tryd.pinned (OpenSpec.ofChange vecFormsWrong)

/-- 'downpourlaw5.VecNil': WHATEVER THE INPUT: true; the input reads as it did. -/
def vecNilSpec : ChangeSpec := { name := "vecNil", fn := fun _ => fun
  | [d1, d2, d3] => { results := [.lit (.bool true)], args := [d1, d2, d3] }
  | _ => none }
def vecNilRow : OpenClaim := { program := "ytlmmnnhbnbakgaadoor", sum := "d15512b3ff7f3f5c037bacdb24c5b53d445bc62e9816a3d42cf84d6bd5bd847e", func := "downpour/downpourlaw5.VecNil", spec := "vecNil", named := ["math/bits.deBruijn64tab"], apart := false, laid := [("math/bits.deBruijn64tab", laid_math_bits_deBruijn64tab)] }
def VecNilSaid : Prop := vecNilRow.holds Tryd.pinned (OpenSpec.ofChange vecNilSpec)

/-- ITS FALSE NEIGHBOUR: 'it returns false'. Refute it at one input. -/
def vecNilWrong : ChangeSpec := { name := "vecNil", fn := fun _ => fun
  | [d1, d2, d3] => { results := [.lit (.bool false)], args := [d1, d2, d3] }
  | _ => none }
def VecNilWrongFalsely : Prop := vecNilRow.holds Tryd.pinned (OpenSpec.ofChange vecNilWrong)

/-- 'downpourlaw5.VecTwice': WHATEVER THE INPUT: true; the input reads as it did. -/
def vecTwiceSpec : ChangeSpec := { name := "vecTwice", fn := fun _ => fun
  | [d1, d2, d3] => { results := [.lit (.bool true)], args := [d1, d2, d3] }
  | _ => none }
def vecTwiceRow : OpenClaim := { program := "ytlmmnnhbnbakgaadoor", sum := "d15512b3ff7f3f5c037bacdb24c5b53d445bc62e9816a3d42cf84d6bd5bd847e", func := "downpour/downpourlaw5.VecTwice", spec := "vecTwice", named := ["math/bits.deBruijn64tab"], apart := false, laid := [("math/bits.deBruijn64tab", laid_math_bits_deBruijn64tab)] }
def VecTwiceSaid : Prop := vecTwiceRow.holds Tryd.pinned (OpenSpec.ofChange vecTwiceSpec)

/-- ITS FALSE NEIGHBOUR: 'it returns false'. Refute it at one input. -/
def vecTwiceWrong : ChangeSpec := { name := "vecTwice", fn := fun _ => fun
  | [d1, d2, d3] => { results := [.lit (.bool false)], args := [d1, d2, d3] }
  | _ => none }
def VecTwiceWrongFalsely : Prop := vecTwiceRow.holds Tryd.pinned (OpenSpec.ofChange vecTwiceWrong)

/-- 'downpourlaw6.ElimNil': WHATEVER THE INPUT: true; the input reads as it did. -/
def elimNilSpec : ChangeSpec := { name := "elimNil", fn := fun _ => fun
  | [d1, d2] => { results := [.lit (.bool true)], args := [d1, d2] }
  | _ => none }
def elimNilRow : OpenClaim := { program := "ytlmmnnhbnbakgaadoor", sum := "d15512b3ff7f3f5c037bacdb24c5b53d445bc62e9816a3d42cf84d6bd5bd847e", func := "downpour/downpourlaw6.ElimNil", spec := "elimNil", inPlace := ["sync/atomic.AddInt64", "sync/atomic.LoadInt64"], named := ["math/bits.deBruijn64tab"], apart := false, laid := [("math/bits.deBruijn64tab", laid_math_bits_deBruijn64tab)] }
def ElimNilSaid : Prop := elimNilRow.holds Tryd.pinned (OpenSpec.ofChange elimNilSpec)

/-- ITS FALSE NEIGHBOUR: 'it returns false'. Refute it at one input. -/
def elimNilWrong : ChangeSpec := { name := "elimNil", fn := fun _ => fun
  | [d1, d2] => { results := [.lit (.bool false)], args := [d1, d2] }
  | _ => none }
def ElimNilWrongFalsely : Prop := elimNilRow.holds Tryd.pinned (OpenSpec.ofChange elimNilWrong)

/-- 'downpourlaw6.ElimSpans': WHATEVER THE INPUT: true; the input reads as it did. -/
def elimSpansSpec : ChangeSpec := { name := "elimSpans", fn := fun _ => fun
  | [d1, d2, d3, d4] => { results := [.lit (.bool true)], args := [d1, d2, d3, d4] }
  | _ => none }
def elimSpansRow : OpenClaim := { program := "ytlmmnnhbnbakgaadoor", sum := "d15512b3ff7f3f5c037bacdb24c5b53d445bc62e9816a3d42cf84d6bd5bd847e", func := "downpour/downpourlaw6.ElimSpans", spec := "elimSpans", inPlace := ["sync/atomic.AddInt64", "sync/atomic.LoadInt64"], named := ["math/bits.deBruijn64tab"], apart := false, laid := [("math/bits.deBruijn64tab", laid_math_bits_deBruijn64tab)] }
def ElimSpansSaid : Prop := elimSpansRow.holds Tryd.pinned (OpenSpec.ofChange elimSpansSpec)

/-- ITS FALSE NEIGHBOUR: 'it returns false'. Refute it at one input. -/
def elimSpansWrong : ChangeSpec := { name := "elimSpans", fn := fun _ => fun
  | [d1, d2, d3, d4] => { results := [.lit (.bool false)], args := [d1, d2, d3, d4] }
  | _ => none }
def ElimSpansWrongFalsely : Prop := elimSpansRow.holds Tryd.pinned (OpenSpec.ofChange elimSpansWrong)

/-- 'downpourlaw6.ElimBytes': WHATEVER THE INPUT: true; the input reads as it did. -/
def elimBytesSpec : ChangeSpec := { name := "elimBytes", fn := fun _ => fun
  | [d1, d2, d3] => { results := [.lit (.bool true)], args := [d1, d2, d3] }
  | _ => none }
def elimBytesRow : OpenClaim := { program := "ytlmmnnhbnbakgaadoor", sum := "d15512b3ff7f3f5c037bacdb24c5b53d445bc62e9816a3d42cf84d6bd5bd847e", func := "downpour/downpourlaw6.ElimBytes", spec := "elimBytes", inPlace := ["sync/atomic.AddInt64", "sync/atomic.LoadInt64"], named := ["math/bits.deBruijn64tab"], apart := false, laid := [("math/bits.deBruijn64tab", laid_math_bits_deBruijn64tab)] }
def ElimBytesSaid : Prop := elimBytesRow.holds Tryd.pinned (OpenSpec.ofChange elimBytesSpec)

/-- ITS FALSE NEIGHBOUR: 'it returns false'. Refute it at one input. -/
def elimBytesWrong : ChangeSpec := { name := "elimBytes", fn := fun _ => fun
  | [d1, d2, d3] => { results := [.lit (.bool false)], args := [d1, d2, d3] }
  | _ => none }
def ElimBytesWrongFalsely : Prop := elimBytesRow.holds Tryd.pinned (OpenSpec.ofChange elimBytesWrong)

/-- 'downpourlaw6.ElimPlays': WHATEVER THE INPUT: true; the input reads as it did. -/
def elimPlaysSpec : ChangeSpec := { name := "elimPlays", fn := fun _ => fun
  | [d1, d2, d3] => { results := [.lit (.bool true)], args := [d1, d2, d3] }
  | _ => none }
def elimPlaysRow : OpenClaim := { program := "ytlmmnnhbnbakgaadoor", sum := "d15512b3ff7f3f5c037bacdb24c5b53d445bc62e9816a3d42cf84d6bd5bd847e", func := "downpour/downpourlaw6.ElimPlays", spec := "elimPlays", inPlace := ["sync/atomic.AddInt64", "sync/atomic.LoadInt64"], named := ["math/bits.deBruijn64tab"], apart := false, laid := [("math/bits.deBruijn64tab", laid_math_bits_deBruijn64tab)] }
def ElimPlaysSaid : Prop := elimPlaysRow.holds Tryd.pinned (OpenSpec.ofChange elimPlaysSpec)

/-- ITS FALSE NEIGHBOUR: 'it returns false'. Refute it at one input. -/
def elimPlaysWrong : ChangeSpec := { name := "elimPlays", fn := fun _ => fun
  | [d1, d2, d3] => { results := [.lit (.bool false)], args := [d1, d2, d3] }
  | _ => none }
def ElimPlaysWrongFalsely : Prop := elimPlaysRow.holds Tryd.pinned (OpenSpec.ofChange elimPlaysWrong)

/-- 'downpourlaw6.ElimReads': WHATEVER THE INPUT: true; the input reads as it did. -/
def elimReadsSpec : ChangeSpec := { name := "elimReads", fn := fun _ => fun
  | [d1, d2, d3, d4, d5, d6] => { results := [.lit (.bool true)], args := [d1, d2, d3, d4, d5, d6] }
  | _ => none }
def elimReadsRow : OpenClaim := { program := "ytlmmnnhbnbakgaadoor", sum := "d15512b3ff7f3f5c037bacdb24c5b53d445bc62e9816a3d42cf84d6bd5bd847e", func := "downpour/downpourlaw6.ElimReads", spec := "elimReads", inPlace := ["sync/atomic.AddInt64", "sync/atomic.LoadInt64"], named := ["math/bits.deBruijn64tab"], apart := false, laid := [("math/bits.deBruijn64tab", laid_math_bits_deBruijn64tab)] }
def ElimReadsSaid : Prop := elimReadsRow.holds Tryd.pinned (OpenSpec.ofChange elimReadsSpec)

/-- ITS FALSE NEIGHBOUR: 'it returns false'. Refute it at one input. -/
def elimReadsWrong : ChangeSpec := { name := "elimReads", fn := fun _ => fun
  | [d1, d2, d3, d4, d5, d6] => { results := [.lit (.bool false)], args := [d1, d2, d3, d4, d5, d6] }
  | _ => none }
def ElimReadsWrongFalsely : Prop := elimReadsRow.holds Tryd.pinned (OpenSpec.ofChange elimReadsWrong)

/- THE SECOND FORM. 'bulk': how many values and letters a reading holds, each counted each time it is reached (what is shared counts as often as it is met; a slice's spare places count too). A statement '..UptoSaid' is the law's where the arguments, and the package variables that the reading takes, are together of bulk at most 1048576: NARROWER than '..Said'. Prove '..Said' where nothing that the law and all that it calls make is longer than what came in: it says more and counts as full. Else prove '..UptoSaid'. A law counts once. -/
mutual
def uptoBulk {H : Type} : DataW H → Nat
  | .lit (.string bytes) => bytes.length + 1
  | .lit _ => 1
  | .nil => 1
  | .ptr d => uptoBulk d + 1
  | .slice elems spare => uptoBulkAll elems + uptoBulkAll spare + 1
  | .agg parts => uptoBulkAll parts + 1
  | .iface _ d => uptoBulk d + 1
  | .map entries => uptoBulkEntries entries + 1
  | .held _ => 1
def uptoBulkAll {H : Type} : List (DataW H) → Nat
  | [] => 0
  | d :: r => uptoBulk d + uptoBulkAll r
def uptoBulkEntries {H : Type} : List (Lit × DataW H) → Nat
  | [] => 0
  | x :: r => uptoBulkEntry x + uptoBulkEntries r
def uptoBulkEntry {H : Type} : Lit × DataW H → Nat
  | (.string bytes, d) => bytes.length + uptoBulk d + 1
  | (_, d) => uptoBulk d + 1
 end
def uptoSmall : (H : Type) → List (DataW H) → Bool := fun _ ds => decide (uptoBulkAll ds ≤ 1048576)
def OpenSpec.upto (s : _root_.Go.ChangeSpec) : _root_.Go.OpenSpec := { _root_.Go.OpenSpec.ofChange s with cond := some uptoSmall }

/-- 'downpourlaw5.VecSets', WHERE WHAT IT READS IS OF BULK AT MOST 1048576: true; the input reads as it did. -/
def vecSetsUptoRow : OpenClaim := { program := "ytlmmnnhbnbakgaadoor", sum := "d15512b3ff7f3f5c037bacdb24c5b53d445bc62e9816a3d42cf84d6bd5bd847e", func := "downpour/downpourlaw5.VecSets", spec := "vecSets", named := ["math/bits.deBruijn64tab"], apart := false, laid := [("math/bits.deBruijn64tab", laid_math_bits_deBruijn64tab)], narrowed := true }
def VecSetsUptoSaid : Prop := vecSetsUptoRow.holds Tryd.pinned (OpenSpec.upto vecSetsSpec)

/-- 'downpourlaw5.VecOrder', WHERE WHAT IT READS IS OF BULK AT MOST 1048576: true; the input reads as it did. -/
def vecOrderUptoRow : OpenClaim := { program := "ytlmmnnhbnbakgaadoor", sum := "d15512b3ff7f3f5c037bacdb24c5b53d445bc62e9816a3d42cf84d6bd5bd847e", func := "downpour/downpourlaw5.VecOrder", spec := "vecOrder", named := ["math/bits.deBruijn64tab"], apart := false, laid := [("math/bits.deBruijn64tab", laid_math_bits_deBruijn64tab)], narrowed := true }
def VecOrderUptoSaid : Prop := vecOrderUptoRow.holds Tryd.pinned (OpenSpec.upto vecOrderSpec)

/-- 'downpourlaw6.ElimUnits', WHERE WHAT IT READS IS OF BULK AT MOST 1048576: true; the input reads as it did. -/
def elimUnitsUptoRow : OpenClaim := { program := "ytlmmnnhbnbakgaadoor", sum := "d15512b3ff7f3f5c037bacdb24c5b53d445bc62e9816a3d42cf84d6bd5bd847e", func := "downpour/downpourlaw6.ElimUnits", spec := "elimUnits", inPlace := ["sync/atomic.AddInt64", "sync/atomic.LoadInt64"], named := ["math/bits.deBruijn64tab"], apart := false, laid := [("math/bits.deBruijn64tab", laid_math_bits_deBruijn64tab)], narrowed := true }
def ElimUnitsUptoSaid : Prop := elimUnitsUptoRow.holds Tryd.pinned (OpenSpec.upto elimUnitsSpec)

/-- 'downpourlaw5.VecForms', WHERE WHAT IT READS IS OF BULK AT MOST 1048576: true; the input reads as it did. -/
def vecFormsUptoRow : OpenClaim := { program := "ytlmmnnhbnbakgaadoor", sum := "d15512b3ff7f3f5c037bacdb24c5b53d445bc62e9816a3d42cf84d6bd5bd847e", func := "downpour/downpourlaw5.VecForms", spec := "vecForms", named := ["math/bits.deBruijn64tab"], apart := false, laid := [("math/bits.deBruijn64tab", laid_math_bits_deBruijn64tab)], narrowed := true }
def VecFormsUptoSaid : Prop := vecFormsUptoRow.holds Tryd.pinned (OpenSpec.upto vecFormsSpec)

/-- 'downpourlaw5.VecNil', WHERE WHAT IT READS IS OF BULK AT MOST 1048576: true; the input reads as it did. -/
def vecNilUptoRow : OpenClaim := { program := "ytlmmnnhbnbakgaadoor", sum := "d15512b3ff7f3f5c037bacdb24c5b53d445bc62e9816a3d42cf84d6bd5bd847e", func := "downpour/downpourlaw5.VecNil", spec := "vecNil", named := ["math/bits.deBruijn64tab"], apart := false, laid := [("math/bits.deBruijn64tab", laid_math_bits_deBruijn64tab)], narrowed := true }
def VecNilUptoSaid : Prop := vecNilUptoRow.holds Tryd.pinned (OpenSpec.upto vecNilSpec)

/-- 'downpourlaw5.VecTwice', WHERE WHAT IT READS IS OF BULK AT MOST 1048576: true; the input reads as it did. -/
def vecTwiceUptoRow : OpenClaim := { program := "ytlmmnnhbnbakgaadoor", sum := "d15512b3ff7f3f5c037bacdb24c5b53d445bc62e9816a3d42cf84d6bd5bd847e", func := "downpour/downpourlaw5.VecTwice", spec := "vecTwice", named := ["math/bits.deBruijn64tab"], apart := false, laid := [("math/bits.deBruijn64tab", laid_math_bits_deBruijn64tab)], narrowed := true }
def VecTwiceUptoSaid : Prop := vecTwiceUptoRow.holds Tryd.pinned (OpenSpec.upto vecTwiceSpec)

/-- 'downpourlaw6.ElimNil', WHERE WHAT IT READS IS OF BULK AT MOST 1048576: true; the input reads as it did. -/
def elimNilUptoRow : OpenClaim := { program := "ytlmmnnhbnbakgaadoor", sum := "d15512b3ff7f3f5c037bacdb24c5b53d445bc62e9816a3d42cf84d6bd5bd847e", func := "downpour/downpourlaw6.ElimNil", spec := "elimNil", inPlace := ["sync/atomic.AddInt64", "sync/atomic.LoadInt64"], named := ["math/bits.deBruijn64tab"], apart := false, laid := [("math/bits.deBruijn64tab", laid_math_bits_deBruijn64tab)], narrowed := true }
def ElimNilUptoSaid : Prop := elimNilUptoRow.holds Tryd.pinned (OpenSpec.upto elimNilSpec)

/-- 'downpourlaw6.ElimSpans', WHERE WHAT IT READS IS OF BULK AT MOST 1048576: true; the input reads as it did. -/
def elimSpansUptoRow : OpenClaim := { program := "ytlmmnnhbnbakgaadoor", sum := "d15512b3ff7f3f5c037bacdb24c5b53d445bc62e9816a3d42cf84d6bd5bd847e", func := "downpour/downpourlaw6.ElimSpans", spec := "elimSpans", inPlace := ["sync/atomic.AddInt64", "sync/atomic.LoadInt64"], named := ["math/bits.deBruijn64tab"], apart := false, laid := [("math/bits.deBruijn64tab", laid_math_bits_deBruijn64tab)], narrowed := true }
def ElimSpansUptoSaid : Prop := elimSpansUptoRow.holds Tryd.pinned (OpenSpec.upto elimSpansSpec)

/-- 'downpourlaw6.ElimBytes', WHERE WHAT IT READS IS OF BULK AT MOST 1048576: true; the input reads as it did. -/
def elimBytesUptoRow : OpenClaim := { program := "ytlmmnnhbnbakgaadoor", sum := "d15512b3ff7f3f5c037bacdb24c5b53d445bc62e9816a3d42cf84d6bd5bd847e", func := "downpour/downpourlaw6.ElimBytes", spec := "elimBytes", inPlace := ["sync/atomic.AddInt64", "sync/atomic.LoadInt64"], named := ["math/bits.deBruijn64tab"], apart := false, laid := [("math/bits.deBruijn64tab", laid_math_bits_deBruijn64tab)], narrowed := true }
def ElimBytesUptoSaid : Prop := elimBytesUptoRow.holds Tryd.pinned (OpenSpec.upto elimBytesSpec)

/-- 'downpourlaw6.ElimPlays', WHERE WHAT IT READS IS OF BULK AT MOST 1048576: true; the input reads as it did. -/
def elimPlaysUptoRow : OpenClaim := { program := "ytlmmnnhbnbakgaadoor", sum := "d15512b3ff7f3f5c037bacdb24c5b53d445bc62e9816a3d42cf84d6bd5bd847e", func := "downpour/downpourlaw6.ElimPlays", spec := "elimPlays", inPlace := ["sync/atomic.AddInt64", "sync/atomic.LoadInt64"], named := ["math/bits.deBruijn64tab"], apart := false, laid := [("math/bits.deBruijn64tab", laid_math_bits_deBruijn64tab)], narrowed := true }
def ElimPlaysUptoSaid : Prop := elimPlaysUptoRow.holds Tryd.pinned (OpenSpec.upto elimPlaysSpec)

/-- 'downpourlaw6.ElimReads', WHERE WHAT IT READS IS OF BULK AT MOST 1048576: true; the input reads as it did. -/
def elimReadsUptoRow : OpenClaim := { program := "ytlmmnnhbnbakgaadoor", sum := "d15512b3ff7f3f5c037bacdb24c5b53d445bc62e9816a3d42cf84d6bd5bd847e", func := "downpour/downpourlaw6.ElimReads", spec := "elimReads", inPlace := ["sync/atomic.AddInt64", "sync/atomic.LoadInt64"], named := ["math/bits.deBruijn64tab"], apart := false, laid := [("math/bits.deBruijn64tab", laid_math_bits_deBruijn64tab)], narrowed := true }
def ElimReadsUptoSaid : Prop := elimReadsUptoRow.holds Tryd.pinned (OpenSpec.upto elimReadsSpec)

end Rows
end Go.Proofs.YtlmmnnhbnbakgaaDoor
