/-
  The structs and arrays of a row's input, laid open.
  Conditions: none.
-/
import Derived.Test.YtajlpalgcdiplaaBl
import Derived.Test.YtajlpalgcdiplaaTy
namespace Go.Dp
open Go.Proofs
instance : TSt Try.prog 7 [(0, 2), (1, 3), (2, 4), (3, 6)] := ⟨by kernel_rfl, by kernel_rfl⟩
instance : TSt Try.prog 13 [(0, 9), (1, 12)] := ⟨by kernel_rfl, by kernel_rfl⟩
instance : TSt Try.prog 24 [(0, 22), (1, 3), (2, 23)] := ⟨by kernel_rfl, by kernel_rfl⟩
instance : TSt Try.prog 25 [(0, 22), (1, 3), (2, 23)] := ⟨by kernel_rfl, by kernel_rfl⟩
instance : TSt Try.prog 26 [(0, 25), (3, 25)] := ⟨by kernel_rfl, by kernel_rfl⟩
instance : TSt Try.prog 27 [(0, 22), (1, 22), (2, 3), (3, 3), (4, 3), (5, 23)] := ⟨by kernel_rfl, by kernel_rfl⟩
instance : TSt Try.prog 28 [(0, 22), (1, 22), (2, 3), (3, 3), (4, 3), (5, 23)] := ⟨by kernel_rfl, by kernel_rfl⟩
instance : TSt Try.prog 29 [(0, 3), (1, 3), (2, 22), (3, 22), (4, 26), (10, 4), (11, 28)] := ⟨by kernel_rfl, by kernel_rfl⟩
instance : TSt Try.prog 30 [(0, 3), (1, 3), (2, 22), (3, 22), (4, 26), (10, 4), (11, 28)] := ⟨by kernel_rfl, by kernel_rfl⟩
instance : TSt Try.prog 40 [(0, 30), (17, 30), (34, 30)] := ⟨by kernel_rfl, by kernel_rfl⟩
instance : TSt Try.prog 53 [(0, 23), (1, 23), (2, 23), (3, 23)] := ⟨by kernel_rfl, by kernel_rfl⟩
instance : TSt Try.prog 64 [(0, 22), (1, 3), (2, 3), (3, 3)] := ⟨by kernel_rfl, by kernel_rfl⟩
instance : TSt Try.prog 65 [(0, 22), (1, 3), (2, 3), (3, 3)] := ⟨by kernel_rfl, by kernel_rfl⟩
instance : TSt Try.prog 83 [(0, 22), (1, 22), (2, 22), (3, 22), (4, 22), (5, 22), (6, 22), (7, 22)] := ⟨by kernel_rfl, by kernel_rfl⟩
instance : TSt Try.prog 88 [(0, 22), (1, 22), (2, 22), (3, 22), (4, 22), (5, 22), (6, 22), (7, 22)] := ⟨by kernel_rfl, by kernel_rfl⟩
instance : TSt Try.prog 94 [(0, 17), (1, 17), (2, 17), (3, 9)] := ⟨by kernel_rfl, by kernel_rfl⟩
instance : TSt Try.prog 97 [(0, 96)] := ⟨by kernel_rfl, by kernel_rfl⟩
instance : TSt Try.prog 106 [(0, 12), (1, 12), (2, 22), (3, 100), (4, 5), (5, 5), (6, 101), (7, 102), (8, 103), (9, 104), (10, 105)] := ⟨by kernel_rfl, by kernel_rfl⟩
end Go.Dp
