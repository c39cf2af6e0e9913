/-
  The structs and arrays of a row's input, laid open.
  Conditions: none.
-/
import Derived.Test.YtibopcmgjmhcjaaDoorBl
import Derived.Test.YtibopcmgjmhcjaaDoorTy
namespace Go.Dp
open Go.Proofs
instance : TSt Tryd.prog 7 [(0, 2), (1, 3), (2, 4), (3, 6)] := ⟨by kernel_rfl, by kernel_rfl⟩
instance : TSt Tryd.prog 13 [(0, 9), (1, 12)] := ⟨by kernel_rfl, by kernel_rfl⟩
instance : TSt Tryd.prog 23 [(0, 22), (1, 3), (2, 3), (3, 3)] := ⟨by kernel_rfl, by kernel_rfl⟩
instance : TSt Tryd.prog 24 [(0, 22), (1, 3), (2, 3), (3, 3)] := ⟨by kernel_rfl, by kernel_rfl⟩
instance : TSt Tryd.prog 66 [(0, 65), (0, 22)] := ⟨by kernel_rfl, by kernel_rfl⟩
instance : TSt Tryd.prog 67 [(0, 65), (0, 22)] := ⟨by kernel_rfl, by kernel_rfl⟩
instance : TSt Tryd.prog 68 [(0, 67)] := ⟨by kernel_rfl, by kernel_rfl⟩
instance : TSt Tryd.prog 69 [(0, 67)] := ⟨by kernel_rfl, by kernel_rfl⟩
instance : TSt Tryd.prog 74 [(0, 3), (1, 73)] := ⟨by kernel_rfl, by kernel_rfl⟩
instance : TSt Tryd.prog 75 [(0, 3), (1, 73)] := ⟨by kernel_rfl, by kernel_rfl⟩
instance : TSt Tryd.prog 78 [(0, 22)] := ⟨by kernel_rfl, by kernel_rfl⟩
instance : TSt Tryd.prog 79 [(0, 22)] := ⟨by kernel_rfl, by kernel_rfl⟩
instance : TSt Tryd.prog 90 [(0, 17), (1, 17), (2, 17), (3, 9)] := ⟨by kernel_rfl, by kernel_rfl⟩
instance : TSt Tryd.prog 93 [(0, 92)] := ⟨by kernel_rfl, by kernel_rfl⟩
instance : TSt Tryd.prog 101 [(0, 12), (1, 12), (2, 22), (3, 95), (4, 5), (5, 5), (6, 96), (7, 97), (8, 98), (9, 99), (10, 100)] := ⟨by kernel_rfl, by kernel_rfl⟩
end Go.Dp
