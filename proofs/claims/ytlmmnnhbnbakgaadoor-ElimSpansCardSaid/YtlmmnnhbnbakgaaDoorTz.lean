/-
  The structs and arrays of a row's input, laid open.
  Conditions: none.
-/
import Derived.Test.YtlmmnnhbnbakgaaDoorBl
import Derived.Test.YtlmmnnhbnbakgaaDoorTy
namespace Go.Dp
open Go.Proofs
instance : TSt Tryd.prog 7 [(0, 2), (1, 3), (2, 4), (3, 6)] := ⟨by kernel_rfl, by kernel_rfl⟩
instance : TSt Tryd.prog 13 [(0, 9), (1, 12)] := ⟨by kernel_rfl, by kernel_rfl⟩
instance : TSt Tryd.prog 60 [(0, 34), (1, 34)] := ⟨by kernel_rfl, by kernel_rfl⟩
instance : TSt Tryd.prog 69 [(0, 22), (1, 38)] := ⟨by kernel_rfl, by kernel_rfl⟩
instance : TSt Tryd.prog 70 [(0, 22), (1, 38)] := ⟨by kernel_rfl, by kernel_rfl⟩
instance : TSt Tryd.prog 75 [(0, 3), (1, 3), (2, 74)] := ⟨by kernel_rfl, by kernel_rfl⟩
instance : TSt Tryd.prog 76 [(0, 3), (1, 3), (2, 74)] := ⟨by kernel_rfl, by kernel_rfl⟩
instance : TSt Tryd.prog 77 [(0, 36), (1, 38)] := ⟨by kernel_rfl, by kernel_rfl⟩
instance : TSt Tryd.prog 78 [(0, 36), (1, 38)] := ⟨by kernel_rfl, by kernel_rfl⟩
instance : TSt Tryd.prog 80 [(0, 38), (1, 38)] := ⟨by kernel_rfl, by kernel_rfl⟩
instance : TSt Tryd.prog 85 [(0, 3), (1, 84)] := ⟨by kernel_rfl, by kernel_rfl⟩
instance : TSt Tryd.prog 86 [(0, 3), (1, 84)] := ⟨by kernel_rfl, by kernel_rfl⟩
instance : TSt Tryd.prog 94 [(0, 92), (0, 93), (0, 2)] := ⟨by kernel_rfl, by kernel_rfl⟩
instance : TSt Tryd.prog 95 [(0, 92), (0, 93), (0, 2)] := ⟨by kernel_rfl, by kernel_rfl⟩
instance : TSt Tryd.prog 96 [(0, 3), (1, 3), (2, 90), (3, 95)] := ⟨by kernel_rfl, by kernel_rfl⟩
instance : TSt Tryd.prog 97 [(0, 3), (1, 3), (2, 90), (3, 95)] := ⟨by kernel_rfl, by kernel_rfl⟩
instance : TSt Tryd.prog 100 [(0, 25), (1, 38)] := ⟨by kernel_rfl, by kernel_rfl⟩
instance : TSt Tryd.prog 101 [(0, 25), (1, 38)] := ⟨by kernel_rfl, by kernel_rfl⟩
instance : TSt Tryd.prog 124 [(0, 17), (1, 17), (2, 17), (3, 9)] := ⟨by kernel_rfl, by kernel_rfl⟩
instance : TSt Tryd.prog 127 [(0, 126)] := ⟨by kernel_rfl, by kernel_rfl⟩
instance : TSt Tryd.prog 135 [(0, 12), (1, 12), (2, 116), (3, 129), (4, 5), (5, 5), (6, 130), (7, 131), (8, 132), (9, 133), (10, 134)] := ⟨by kernel_rfl, by kernel_rfl⟩
end Go.Dp
