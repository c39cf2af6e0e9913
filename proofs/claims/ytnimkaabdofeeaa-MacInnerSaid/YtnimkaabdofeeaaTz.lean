/-
  The structs and arrays of a row's input, laid open.
  Conditions: none.
-/
import Derived.Test.YtnimkaabdofeeaaBl
import Derived.Test.YtnimkaabdofeeaaTy
namespace Go.Dp
open Go.Proofs
instance : TSt Try.prog 7 [(0, 2), (1, 3), (2, 4), (3, 6)] := ⟨by kernel_rfl, by kernel_rfl⟩
instance : TSt Try.prog 13 [(0, 9), (1, 12)] := ⟨by kernel_rfl, by kernel_rfl⟩
instance : TSt Try.prog 38 [(0, 37), (1, 37), (2, 37), (3, 37), (4, 37), (5, 37), (6, 37), (7, 37)] := ⟨by kernel_rfl, by kernel_rfl⟩
instance : TSt Try.prog 39 [(0, 37), (1, 37), (2, 37), (3, 37), (4, 37), (5, 37), (6, 37), (7, 37)] := ⟨by kernel_rfl, by kernel_rfl⟩
instance : TSt Try.prog 53 [(0, 17), (1, 17), (2, 17), (3, 9)] := ⟨by kernel_rfl, by kernel_rfl⟩
instance : TSt Try.prog 56 [(0, 55)] := ⟨by kernel_rfl, by kernel_rfl⟩
instance : TSt Try.prog 65 [(0, 12), (1, 12), (2, 37), (3, 59), (4, 5), (5, 5), (6, 60), (7, 61), (8, 62), (9, 63), (10, 64)] := ⟨by kernel_rfl, by kernel_rfl⟩
end Go.Dp
