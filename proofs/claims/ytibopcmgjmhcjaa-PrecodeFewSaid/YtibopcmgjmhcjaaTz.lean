/-
  The structs and arrays of a row's input, laid open.
  Conditions: none.
-/
import Derived.Test.YtibopcmgjmhcjaaBl
import Derived.Test.YtibopcmgjmhcjaaTy
namespace Go.Dp
open Go.Proofs
instance : TSt Try.prog 7 [(0, 2), (1, 3), (2, 4), (3, 6)] := ⟨by kernel_rfl, by kernel_rfl⟩
instance : TSt Try.prog 13 [(0, 9), (1, 12)] := ⟨by kernel_rfl, by kernel_rfl⟩
instance : TSt Try.prog 23 [(0, 22), (1, 3), (2, 3), (3, 3)] := ⟨by kernel_rfl, by kernel_rfl⟩
instance : TSt Try.prog 24 [(0, 22), (1, 3), (2, 3), (3, 3)] := ⟨by kernel_rfl, by kernel_rfl⟩
instance : TSt Try.prog 55 [(0, 3), (1, 54)] := ⟨by kernel_rfl, by kernel_rfl⟩
instance : TSt Try.prog 56 [(0, 3), (1, 54)] := ⟨by kernel_rfl, by kernel_rfl⟩
instance : TSt Try.prog 63 [(0, 62), (0, 22)] := ⟨by kernel_rfl, by kernel_rfl⟩
instance : TSt Try.prog 64 [(0, 62), (0, 22)] := ⟨by kernel_rfl, by kernel_rfl⟩
instance : TSt Try.prog 65 [(0, 64)] := ⟨by kernel_rfl, by kernel_rfl⟩
instance : TSt Try.prog 66 [(0, 64)] := ⟨by kernel_rfl, by kernel_rfl⟩
instance : TSt Try.prog 77 [(0, 17), (1, 17), (2, 17), (3, 9)] := ⟨by kernel_rfl, by kernel_rfl⟩
instance : TSt Try.prog 80 [(0, 79)] := ⟨by kernel_rfl, by kernel_rfl⟩
instance : TSt Try.prog 88 [(0, 12), (1, 12), (2, 22), (3, 82), (4, 5), (5, 5), (6, 83), (7, 84), (8, 85), (9, 86), (10, 87)] := ⟨by kernel_rfl, by kernel_rfl⟩
end Go.Dp
