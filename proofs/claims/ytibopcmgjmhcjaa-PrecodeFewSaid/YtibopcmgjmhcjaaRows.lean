/-
  No cell of these rows narrows 'for every input' (looked for: loops, veiled, ifaces, maps, wideKeys, modest, calm, conditions, laid).
  DERIVED. THE GIVEN ROWS OF THIS SEAT. 4 by the template 'for every input the law returns true; each argument reads behind the call as it read before'; 0 by the template 'total and deterministic' (their statements: YtibopcmgjmhcjaaTotals.lean).
  GIVEN WITH THE SEED: the statements are not yours to turn. If you find one false, say at which input.
  Laid BY PROGRAM, IN A SANDBOX (cutbox-rows.mjs): the forced cells as the released guide's own fill.sh prints them over the translation ea5b7b8cfb0cb255… (all of the seat's roots in one cut). By AI agents, Wed Nov 11 2026. No macro, syntax, notation, axiom, sorry.
-/
import Derived.Test.YtibopcmgjmhcjaaChecked
import GoSem.Claim
import GoSem.ClaimJoined
import GoSem.ClaimMapViews
import Derived.JoinedTies
import Derived.KernelRfl
namespace Go.Proofs.Ytibopcmgjmhcjaa
/- THE CELL 'sum', in the pinned program and in every row, IS THE sha256 OF THE DUMP (.gsa) THAT YtibopcmgjmhcjaaProg.lean LOADS. Nothing in Lean hashes anything: it is a label: what it is worth is what the hold of that sum in a sandbox is worth. -/
noncomputable def Try.pinned : Pinned := { name := "ytibopcmgjmhcjaa", sum := "ea5b7b8cfb0cb2554fc97115fa851fc7f2f9833a5caa90af387cef6bfd6a18be", checked := Try.checked }
namespace Rows
def none {H : Type} : Left H := { results := [], args := [] }

/-- 'downpourlaw9.PrecodeSums': WHATEVER THE INPUT: true; the input reads as it did. -/
def precodeSumsSpec : ChangeSpec := { name := "precodeSums", fn := fun _ => fun
  | [d1, d2, d3] => { results := [.lit (.bool true)], args := [d1, d2, d3] }
  | _ => none }
def precodeSumsRow : OpenClaim := { program := "ytibopcmgjmhcjaa", sum := "ea5b7b8cfb0cb2554fc97115fa851fc7f2f9833a5caa90af387cef6bfd6a18be", func := "downpour/downpourlaw9.PrecodeSums", spec := "precodeSums", inPlace := ["sync/atomic.StoreUint32", "sync/atomic.CompareAndSwapUint32", "sync/atomic.LoadUint32"], unfollowed := true, recurses := true, apart := false }
def PrecodeSumsSaid : Prop := precodeSumsRow.holds Try.pinned (OpenSpec.ofChange precodeSumsSpec)

/-- ITS FALSE NEIGHBOUR: 'it returns false'. Refute it at one input. -/
def precodeSumsWrong : ChangeSpec := { name := "precodeSums", fn := fun _ => fun
  | [d1, d2, d3] => { results := [.lit (.bool false)], args := [d1, d2, d3] }
  | _ => none }
def PrecodeSumsWrongFalsely : Prop := precodeSumsRow.holds Try.pinned (OpenSpec.ofChange precodeSumsWrong)

/-- 'downpourlaw9.PrecodeRefuses': WHATEVER THE INPUT: true; the input reads as it did. -/
def precodeRefusesSpec : ChangeSpec := { name := "precodeRefuses", fn := fun _ => fun
  | [d1, d2] => { results := [.lit (.bool true)], args := [d1, d2] }
  | _ => none }
def precodeRefusesRow : OpenClaim := { program := "ytibopcmgjmhcjaa", sum := "ea5b7b8cfb0cb2554fc97115fa851fc7f2f9833a5caa90af387cef6bfd6a18be", func := "downpour/downpourlaw9.PrecodeRefuses", spec := "precodeRefuses", inPlace := ["sync/atomic.StoreUint32", "sync/atomic.CompareAndSwapUint32", "sync/atomic.LoadUint32"], unfollowed := true, recurses := true, apart := false }
def PrecodeRefusesSaid : Prop := precodeRefusesRow.holds Try.pinned (OpenSpec.ofChange precodeRefusesSpec)

/-- ITS FALSE NEIGHBOUR: 'it returns false'. Refute it at one input. -/
def precodeRefusesWrong : ChangeSpec := { name := "precodeRefuses", fn := fun _ => fun
  | [d1, d2] => { results := [.lit (.bool false)], args := [d1, d2] }
  | _ => none }
def PrecodeRefusesWrongFalsely : Prop := precodeRefusesRow.holds Try.pinned (OpenSpec.ofChange precodeRefusesWrong)

/-- 'downpourlaw9.PrecodeNothing': WHATEVER THE INPUT: true; the input reads as it did. -/
def precodeNothingSpec : ChangeSpec := { name := "precodeNothing", fn := fun _ => fun
  | [d1, d2] => { results := [.lit (.bool true)], args := [d1, d2] }
  | _ => none }
def precodeNothingRow : OpenClaim := { program := "ytibopcmgjmhcjaa", sum := "ea5b7b8cfb0cb2554fc97115fa851fc7f2f9833a5caa90af387cef6bfd6a18be", func := "downpour/downpourlaw9.PrecodeNothing", spec := "precodeNothing", inPlace := ["sync/atomic.StoreUint32", "sync/atomic.CompareAndSwapUint32", "sync/atomic.LoadUint32"], unfollowed := true, recurses := true, apart := false }
def PrecodeNothingSaid : Prop := precodeNothingRow.holds Try.pinned (OpenSpec.ofChange precodeNothingSpec)

/-- ITS FALSE NEIGHBOUR: 'it returns false'. Refute it at one input. -/
def precodeNothingWrong : ChangeSpec := { name := "precodeNothing", fn := fun _ => fun
  | [d1, d2] => { results := [.lit (.bool false)], args := [d1, d2] }
  | _ => none }
def PrecodeNothingWrongFalsely : Prop := precodeNothingRow.holds Try.pinned (OpenSpec.ofChange precodeNothingWrong)

/-- 'downpourlaw9.PrecodeFew': WHATEVER THE INPUT: true; the input reads as it did. -/
def precodeFewSpec : ChangeSpec := { name := "precodeFew", fn := fun _ => fun
  | [d1, d2] => { results := [.lit (.bool true)], args := [d1, d2] }
  | _ => none }
def precodeFewRow : OpenClaim := { program := "ytibopcmgjmhcjaa", sum := "ea5b7b8cfb0cb2554fc97115fa851fc7f2f9833a5caa90af387cef6bfd6a18be", func := "downpour/downpourlaw9.PrecodeFew", spec := "precodeFew", inPlace := ["sync/atomic.StoreUint32", "sync/atomic.CompareAndSwapUint32", "sync/atomic.LoadUint32"], unfollowed := true, recurses := true, apart := false }
def PrecodeFewSaid : Prop := precodeFewRow.holds Try.pinned (OpenSpec.ofChange precodeFewSpec)

/-- ITS FALSE NEIGHBOUR: 'it returns false'. Refute it at one input. -/
def precodeFewWrong : ChangeSpec := { name := "precodeFew", fn := fun _ => fun
  | [d1, d2] => { results := [.lit (.bool false)], args := [d1, d2] }
  | _ => none }
def PrecodeFewWrongFalsely : Prop := precodeFewRow.holds Try.pinned (OpenSpec.ofChange precodeFewWrong)

/- THE SECOND FORM. 'bulk': how many values and letters a reading holds, each counted each time it is reached (what is shared counts as often as it is met; a slice's spare places count too). A statement '..UptoSaid' is the law's where the arguments, and the package variables that the reading takes, are together of bulk at most 1048576: NARROWER than '..Said'. Prove '..Said' where nothing that the law and all that it calls make is longer than what came in: it says more and counts as full. Else prove '..UptoSaid'. A law counts once. -/
mutual
def uptoBulk {H : Type} : DataW H → Nat
  | .lit (.string bytes) => bytes.length + 1
  | .lit _ => 1
  | .nil => 1
  | .ptr d => uptoBulk d + 1
  | .slice elems spare => uptoBulkAll elems + uptoBulkAll spare + 1
  | .agg parts => uptoBulkAll parts + 1
  | .iface _ d => uptoBulk d + 1
  | .map entries => uptoBulkEntries entries + 1
  | .held _ => 1
def uptoBulkAll {H : Type} : List (DataW H) → Nat
  | [] => 0
  | d :: r => uptoBulk d + uptoBulkAll r
def uptoBulkEntries {H : Type} : List (Lit × DataW H) → Nat
  | [] => 0
  | x :: r => uptoBulkEntry x + uptoBulkEntries r
def uptoBulkEntry {H : Type} : Lit × DataW H → Nat
  | (.string bytes, d) => bytes.length + uptoBulk d + 1
  | (_, d) => uptoBulk d + 1
 end
def uptoSmall : (H : Type) → List (DataW H) → Bool := fun _ ds => decide (uptoBulkAll ds ≤ 1048576)
def OpenSpec.upto (s : _root_.Go.ChangeSpec) : _root_.Go.OpenSpec := { _root_.Go.OpenSpec.ofChange s with cond := some uptoSmall }

/-- 'downpourlaw9.PrecodeSums', WHERE WHAT IT READS IS OF BULK AT MOST 1048576: true; the input reads as it did. -/
def precodeSumsUptoRow : OpenClaim := { program := "ytibopcmgjmhcjaa", sum := "ea5b7b8cfb0cb2554fc97115fa851fc7f2f9833a5caa90af387cef6bfd6a18be", func := "downpour/downpourlaw9.PrecodeSums", spec := "precodeSums", inPlace := ["sync/atomic.StoreUint32", "sync/atomic.CompareAndSwapUint32", "sync/atomic.LoadUint32"], unfollowed := true, recurses := true, apart := false, narrowed := true }
def PrecodeSumsUptoSaid : Prop := precodeSumsUptoRow.holds Try.pinned (OpenSpec.upto precodeSumsSpec)

/-- 'downpourlaw9.PrecodeRefuses', WHERE WHAT IT READS IS OF BULK AT MOST 1048576: true; the input reads as it did. -/
def precodeRefusesUptoRow : OpenClaim := { program := "ytibopcmgjmhcjaa", sum := "ea5b7b8cfb0cb2554fc97115fa851fc7f2f9833a5caa90af387cef6bfd6a18be", func := "downpour/downpourlaw9.PrecodeRefuses", spec := "precodeRefuses", inPlace := ["sync/atomic.StoreUint32", "sync/atomic.CompareAndSwapUint32", "sync/atomic.LoadUint32"], unfollowed := true, recurses := true, apart := false, narrowed := true }
def PrecodeRefusesUptoSaid : Prop := precodeRefusesUptoRow.holds Try.pinned (OpenSpec.upto precodeRefusesSpec)

/-- 'downpourlaw9.PrecodeNothing', WHERE WHAT IT READS IS OF BULK AT MOST 1048576: true; the input reads as it did. -/
def precodeNothingUptoRow : OpenClaim := { program := "ytibopcmgjmhcjaa", sum := "ea5b7b8cfb0cb2554fc97115fa851fc7f2f9833a5caa90af387cef6bfd6a18be", func := "downpour/downpourlaw9.PrecodeNothing", spec := "precodeNothing", inPlace := ["sync/atomic.StoreUint32", "sync/atomic.CompareAndSwapUint32", "sync/atomic.LoadUint32"], unfollowed := true, recurses := true, apart := false, narrowed := true }
def PrecodeNothingUptoSaid : Prop := precodeNothingUptoRow.holds Try.pinned (OpenSpec.upto precodeNothingSpec)

/-- 'downpourlaw9.PrecodeFew', WHERE WHAT IT READS IS OF BULK AT MOST 1048576: true; the input reads as it did. -/
def precodeFewUptoRow : OpenClaim := { program := "ytibopcmgjmhcjaa", sum := "ea5b7b8cfb0cb2554fc97115fa851fc7f2f9833a5caa90af387cef6bfd6a18be", func := "downpour/downpourlaw9.PrecodeFew", spec := "precodeFew", inPlace := ["sync/atomic.StoreUint32", "sync/atomic.CompareAndSwapUint32", "sync/atomic.LoadUint32"], unfollowed := true, recurses := true, apart := false, narrowed := true }
def PrecodeFewUptoSaid : Prop := precodeFewUptoRow.holds Try.pinned (OpenSpec.upto precodeFewSpec)

end Rows
end Go.Proofs.Ytibopcmgjmhcjaa
