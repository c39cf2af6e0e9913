/-
  The structs and arrays of a row's input, laid open.
  Conditions: none.
-/
import Derived.Test.YtbmackigabhkmaaBl
import Derived.Test.YtbmackigabhkmaaTy
namespace Go.Dp
open Go.Proofs
instance : TSt Try.prog 7 [(0, 2), (1, 3), (2, 4), (3, 6)] := ⟨by kernel_rfl, by kernel_rfl⟩
instance : TSt Try.prog 13 [(0, 9), (1, 12)] := ⟨by kernel_rfl, by kernel_rfl⟩
instance : TSt Try.prog 24 [(0, 22), (1, 22), (2, 23)] := ⟨by kernel_rfl, by kernel_rfl⟩
instance : TSt Try.prog 25 [(0, 22), (1, 22), (2, 23)] := ⟨by kernel_rfl, by kernel_rfl⟩
instance : TSt Try.prog 26 [(0, 22), (1, 3), (2, 3), (3, 3)] := ⟨by kernel_rfl, by kernel_rfl⟩
instance : TSt Try.prog 27 [(0, 22), (1, 3), (2, 3), (3, 3)] := ⟨by kernel_rfl, by kernel_rfl⟩
instance : TSt Try.prog 53 [(0, 22), (1, 22)] := ⟨by kernel_rfl, by kernel_rfl⟩
instance : TSt Try.prog 61 [(0, 17), (1, 17), (2, 17), (3, 9)] := ⟨by kernel_rfl, by kernel_rfl⟩
instance : TSt Try.prog 64 [(0, 63)] := ⟨by kernel_rfl, by kernel_rfl⟩
instance : TSt Try.prog 73 [(0, 12), (1, 12), (2, 22), (3, 67), (4, 5), (5, 5), (6, 68), (7, 69), (8, 70), (9, 71), (10, 72)] := ⟨by kernel_rfl, by kernel_rfl⟩
end Go.Dp
