/-
  The structs and arrays of a row's input, laid open.
  Conditions: none.
-/
import Derived.Test.YtenkfeiklpigjaaBl
import Derived.Test.YtenkfeiklpigjaaTy
namespace Go.Dp
open Go.Proofs
instance : TSt Try.prog 7 [(0, 2), (1, 3), (2, 4), (3, 6)] := ⟨by kernel_rfl, by kernel_rfl⟩
instance : TSt Try.prog 13 [(0, 9), (1, 12)] := ⟨by kernel_rfl, by kernel_rfl⟩
instance : TSt Try.prog 24 [(0, 22), (1, 3), (2, 23)] := ⟨by kernel_rfl, by kernel_rfl⟩
instance : TSt Try.prog 25 [(0, 22), (1, 3), (2, 23)] := ⟨by kernel_rfl, by kernel_rfl⟩
instance : TSt Try.prog 26 [(0, 25), (3, 25)] := ⟨by kernel_rfl, by kernel_rfl⟩
instance : TSt Try.prog 27 [(0, 22), (1, 22), (2, 3), (3, 3), (4, 3), (5, 23)] := ⟨by kernel_rfl, by kernel_rfl⟩
instance : TSt Try.prog 28 [(0, 22), (1, 22), (2, 3), (3, 3), (4, 3), (5, 23)] := ⟨by kernel_rfl, by kernel_rfl⟩
instance : TSt Try.prog 29 [(0, 3), (1, 3), (2, 22), (3, 22), (4, 26), (10, 4), (11, 28)] := ⟨by kernel_rfl, by kernel_rfl⟩
instance : TSt Try.prog 30 [(0, 3), (1, 3), (2, 22), (3, 22), (4, 26), (10, 4), (11, 28)] := ⟨by kernel_rfl, by kernel_rfl⟩
instance : TSt Try.prog 51 [(0, 23), (1, 23)] := ⟨by kernel_rfl, by kernel_rfl⟩
instance : TSt Try.prog 61 [(0, 22), (1, 3), (2, 3), (3, 3)] := ⟨by kernel_rfl, by kernel_rfl⟩
instance : TSt Try.prog 62 [(0, 22), (1, 3), (2, 3), (3, 3)] := ⟨by kernel_rfl, by kernel_rfl⟩
instance : TSt Try.prog 70 [(0, 23), (1, 33)] := ⟨by kernel_rfl, by kernel_rfl⟩
instance : TSt Try.prog 71 [(0, 23), (1, 33)] := ⟨by kernel_rfl, by kernel_rfl⟩
instance : TSt Try.prog 77 [(0, 23), (1, 33)] := ⟨by kernel_rfl, by kernel_rfl⟩
instance : TSt Try.prog 78 [(0, 23), (1, 33)] := ⟨by kernel_rfl, by kernel_rfl⟩
instance : TSt Try.prog 86 [(0, 17), (1, 17), (2, 17), (3, 9)] := ⟨by kernel_rfl, by kernel_rfl⟩
instance : TSt Try.prog 89 [(0, 88)] := ⟨by kernel_rfl, by kernel_rfl⟩
instance : TSt Try.prog 98 [(0, 12), (1, 12), (2, 22), (3, 92), (4, 5), (5, 5), (6, 93), (7, 94), (8, 95), (9, 96), (10, 97)] := ⟨by kernel_rfl, by kernel_rfl⟩
end Go.Dp
