/-
  The rows of the types' table that the walks use.
  Conditions: none.
-/
import Derived.Test.YtnimkaabdofeeaaBk
import Derived.Test.YtnimkaabdofeeaaProg
import Derived.KernelRfl
namespace Go.Dp
open Go.Proofs
instance : TInt Try.prog 2 .i64 := ⟨by kernel_rfl⟩
instance : TInf Try.prog 2 (.int .i64 (0)) 1 8 := ⟨by kernel_rfl⟩
instance : TOne Try.prog 2 := ⟨by kernel_rfl⟩
instance : TInt Try.prog 3 .i64 := ⟨by kernel_rfl⟩
instance : TInf Try.prog 3 (.int .i64 (0)) 1 8 := ⟨by kernel_rfl⟩
instance : TOne Try.prog 3 := ⟨by kernel_rfl⟩
instance : TBool Try.prog 4 := ⟨by kernel_rfl⟩
instance : TInf Try.prog 4 (.bool false) 1 1 := ⟨by kernel_rfl⟩
instance : TOne Try.prog 4 := ⟨by kernel_rfl⟩
instance : TInt Try.prog 5 .u8 := ⟨by kernel_rfl⟩
instance : TInf Try.prog 5 (.int .u8 (0)) 1 1 := ⟨by kernel_rfl⟩
instance : TOne Try.prog 5 := ⟨by kernel_rfl⟩
instance : TFld Try.prog 7 0 0 2 := ⟨by kernel_rfl⟩
instance : TFld Try.prog 7 1 1 3 := ⟨by kernel_rfl⟩
instance : TFld Try.prog 7 2 2 4 := ⟨by kernel_rfl⟩
instance : TFld Try.prog 7 3 3 6 := ⟨by kernel_rfl⟩
instance : TPl Try.prog 7 [(0, 1), (1, 1), (2, 1), (3, 1)] := ⟨by kernel_rfl⟩
instance : TInf Try.prog 7 (.agg #[.int .i64 (0), .int .i64 (0), .bool false, .int .u8 (0)]) 4 24 := ⟨by kernel_rfl⟩
instance : TAgg Try.prog 7 := ⟨by kernel_rfl⟩
instance : TStr Try.prog 9 := ⟨by kernel_rfl⟩
instance : TInf Try.prog 9 (.string .empty) 1 16 := ⟨by kernel_rfl⟩
instance : TOne Try.prog 9 := ⟨by kernel_rfl⟩
instance : TInt Try.prog 12 .u64 := ⟨by kernel_rfl⟩
instance : TInf Try.prog 12 (.int .u64 (0)) 1 8 := ⟨by kernel_rfl⟩
instance : TOne Try.prog 12 := ⟨by kernel_rfl⟩
instance : TFld Try.prog 13 0 0 9 := ⟨by kernel_rfl⟩
instance : TFld Try.prog 13 1 1 12 := ⟨by kernel_rfl⟩
instance : TPl Try.prog 13 [(0, 1), (1, 1)] := ⟨by kernel_rfl⟩
instance : TInf Try.prog 13 (.agg #[.string .empty, .int .u64 (0)]) 2 24 := ⟨by kernel_rfl⟩
instance : TAgg Try.prog 13 := ⟨by kernel_rfl⟩
instance : TFld Try.prog 18 0 0 17 := ⟨by kernel_rfl⟩
instance : TPl Try.prog 18 [(0, 1)] := ⟨by kernel_rfl⟩
instance : TInf Try.prog 18 (.agg #[.pointer none]) 1 8 := ⟨by kernel_rfl⟩
instance : TAgg Try.prog 18 := ⟨by kernel_rfl⟩
instance : TInt Try.prog 21 .i32 := ⟨by kernel_rfl⟩
instance : TInf Try.prog 21 (.int .i32 (0)) 1 4 := ⟨by kernel_rfl⟩
instance : TOne Try.prog 21 := ⟨by kernel_rfl⟩
instance : TSl Try.prog 22 5 := ⟨by kernel_rfl⟩
instance : TInf Try.prog 22 (.slice none 0 0) 1 24 := ⟨by kernel_rfl⟩
instance : TOne Try.prog 22 := ⟨by kernel_rfl⟩
instance : TInt Try.prog 23 .u64 := ⟨by kernel_rfl⟩
instance : TInf Try.prog 23 (.int .u64 (0)) 1 8 := ⟨by kernel_rfl⟩
instance : TOne Try.prog 23 := ⟨by kernel_rfl⟩
instance : TSl Try.prog 28 22 := ⟨by kernel_rfl⟩
instance : TInf Try.prog 28 (.slice none 0 0) 1 24 := ⟨by kernel_rfl⟩
instance : TOne Try.prog 28 := ⟨by kernel_rfl⟩
instance : TSl Try.prog 31 3 := ⟨by kernel_rfl⟩
instance : TInf Try.prog 31 (.slice none 0 0) 1 24 := ⟨by kernel_rfl⟩
instance : TOne Try.prog 31 := ⟨by kernel_rfl⟩
instance : TInt Try.prog 37 .u32 := ⟨by kernel_rfl⟩
instance : TInf Try.prog 37 (.int .u32 (0)) 1 4 := ⟨by kernel_rfl⟩
instance : TOne Try.prog 37 := ⟨by kernel_rfl⟩
instance : TArr Try.prog 38 8 37 := ⟨by kernel_rfl⟩
instance : TPl Try.prog 38 [(0, 1), (1, 1), (2, 1), (3, 1), (4, 1), (5, 1), (6, 1), (7, 1)] := ⟨by kernel_rfl⟩
instance : TInf Try.prog 38 (.agg #[.int .u32 (0), .int .u32 (0), .int .u32 (0), .int .u32 (0), .int .u32 (0), .int .u32 (0), .int .u32 (0), .int .u32 (0)]) 8 32 := ⟨by kernel_rfl⟩
instance : TAgg Try.prog 38 := ⟨by kernel_rfl⟩
instance : TArr Try.prog 39 8 37 := ⟨by kernel_rfl⟩
instance : TPl Try.prog 39 [(0, 1), (1, 1), (2, 1), (3, 1), (4, 1), (5, 1), (6, 1), (7, 1)] := ⟨by kernel_rfl⟩
instance : TInf Try.prog 39 (.agg #[.int .u32 (0), .int .u32 (0), .int .u32 (0), .int .u32 (0), .int .u32 (0), .int .u32 (0), .int .u32 (0), .int .u32 (0)]) 8 32 := ⟨by kernel_rfl⟩
instance : TAgg Try.prog 39 := ⟨by kernel_rfl⟩
instance : TInt Try.prog 42 .u64 := ⟨by kernel_rfl⟩
instance : TInf Try.prog 42 (.int .u64 (0)) 1 8 := ⟨by kernel_rfl⟩
instance : TOne Try.prog 42 := ⟨by kernel_rfl⟩
instance : TArr Try.prog 43 64 37 := ⟨by kernel_rfl⟩
instance : TPl Try.prog 43 [(0, 1), (1, 1), (2, 1), (3, 1), (4, 1), (5, 1), (6, 1), (7, 1), (8, 1), (9, 1), (10, 1), (11, 1), (12, 1), (13, 1), (14, 1), (15, 1), (16, 1), (17, 1), (18, 1), (19, 1), (20, 1), (21, 1), (22, 1), (23, 1), (24, 1), (25, 1), (26, 1), (27, 1), (28, 1), (29, 1), (30, 1), (31, 1), (32, 1), (33, 1), (34, 1), (35, 1), (36, 1), (37, 1), (38, 1), (39, 1), (40, 1), (41, 1), (42, 1), (43, 1), (44, 1), (45, 1), (46, 1), (47, 1), (48, 1), (49, 1), (50, 1), (51, 1), (52, 1), (53, 1), (54, 1), (55, 1), (56, 1), (57, 1), (58, 1), (59, 1), (60, 1), (61, 1), (62, 1), (63, 1)] := ⟨by kernel_rfl⟩
instance : TInf Try.prog 43 (.agg #[.int .u32 (0), .int .u32 (0), .int .u32 (0), .int .u32 (0), .int .u32 (0), .int .u32 (0), .int .u32 (0), .int .u32 (0), .int .u32 (0), .int .u32 (0), .int .u32 (0), .int .u32 (0), .int .u32 (0), .int .u32 (0), .int .u32 (0), .int .u32 (0), .int .u32 (0), .int .u32 (0), .int .u32 (0), .int .u32 (0), .int .u32 (0), .int .u32 (0), .int .u32 (0), .int .u32 (0), .int .u32 (0), .int .u32 (0), .int .u32 (0), .int .u32 (0), .int .u32 (0), .int .u32 (0), .int .u32 (0), .int .u32 (0), .int .u32 (0), .int .u32 (0), .int .u32 (0), .int .u32 (0), .int .u32 (0), .int .u32 (0), .int .u32 (0), .int .u32 (0), .int .u32 (0), .int .u32 (0), .int .u32 (0), .int .u32 (0), .int .u32 (0), .int .u32 (0), .int .u32 (0), .int .u32 (0), .int .u32 (0), .int .u32 (0), .int .u32 (0), .int .u32 (0), .int .u32 (0), .int .u32 (0), .int .u32 (0), .int .u32 (0), .int .u32 (0), .int .u32 (0), .int .u32 (0), .int .u32 (0), .int .u32 (0), .int .u32 (0), .int .u32 (0), .int .u32 (0)]) 64 256 := ⟨by kernel_rfl⟩
instance : TAgg Try.prog 43 := ⟨by kernel_rfl⟩
instance : TFld Try.prog 53 0 0 17 := ⟨by kernel_rfl⟩
instance : TFld Try.prog 53 1 1 17 := ⟨by kernel_rfl⟩
instance : TFld Try.prog 53 2 2 17 := ⟨by kernel_rfl⟩
instance : TFld Try.prog 53 3 3 9 := ⟨by kernel_rfl⟩
instance : TPl Try.prog 53 [(0, 1), (1, 1), (2, 1), (3, 1)] := ⟨by kernel_rfl⟩
instance : TInf Try.prog 53 (.agg #[.pointer none, .pointer none, .pointer none, .string .empty]) 4 40 := ⟨by kernel_rfl⟩
instance : TAgg Try.prog 53 := ⟨by kernel_rfl⟩
instance : TPl Try.prog 56 [(0, 0)] := ⟨by kernel_rfl⟩
instance : TInf Try.prog 56 (.agg #[]) 0 0 := ⟨by kernel_rfl⟩
instance : TAgg Try.prog 56 := ⟨by kernel_rfl⟩
instance : TPtr Try.prog 62 5 := ⟨by kernel_rfl⟩
instance : TInf Try.prog 62 (.pointer none) 1 8 := ⟨by kernel_rfl⟩
instance : TOne Try.prog 62 := ⟨by kernel_rfl⟩
instance : TFld Try.prog 65 0 0 12 := ⟨by kernel_rfl⟩
instance : TFld Try.prog 65 1 1 12 := ⟨by kernel_rfl⟩
instance : TFld Try.prog 65 2 2 37 := ⟨by kernel_rfl⟩
instance : TFld Try.prog 65 3 3 59 := ⟨by kernel_rfl⟩
instance : TFld Try.prog 65 4 4 5 := ⟨by kernel_rfl⟩
instance : TFld Try.prog 65 5 5 5 := ⟨by kernel_rfl⟩
instance : TFld Try.prog 65 6 6 60 := ⟨by kernel_rfl⟩
instance : TFld Try.prog 65 7 7 61 := ⟨by kernel_rfl⟩
instance : TFld Try.prog 65 8 8 62 := ⟨by kernel_rfl⟩
instance : TFld Try.prog 65 9 9 63 := ⟨by kernel_rfl⟩
instance : TFld Try.prog 65 10 10 64 := ⟨by kernel_rfl⟩
instance : TPl Try.prog 65 [(0, 1), (1, 1), (2, 1), (3, 1), (4, 1), (5, 1), (6, 1), (7, 1), (8, 1), (9, 1), (10, 1)] := ⟨by kernel_rfl⟩
instance : TInf Try.prog 65 (.agg #[.int .u64 (0), .int .u64 (0), .int .u32 (0), .int .u8 (0), .int .u8 (0), .int .u8 (0), .int .u8 (0), .nilFunc, .pointer none, .int .i32 (0), .int .i32 (0)]) 11 48 := ⟨by kernel_rfl⟩
instance : TAgg Try.prog 65 := ⟨by kernel_rfl⟩
theorem mixed : Try.prog.follows .mixedOrders = true := by kernel_rfl
end Go.Dp
