/- The table of the types that the translation's operations name, as the executor wants it; checked by the kernel. -/
import Derived.Test.YtedlaominconaaaDoorProg
import Derived.Test.YtedlaominconaaaDoorEng2
namespace Go.Proofs.YtedlaominconaaaDoor
open Go.E
def T : TT := [
  (3, ⟨1, 8, false, [(.int .i64 0)], (.int .i64)⟩),
  (5, ⟨1, 1, false, [(.int .u8 0)], (.int .u8)⟩),
  (9, ⟨1, 16, false, [(.string ByteArray.empty)], .str⟩),
  (22, ⟨1, 1, false, [(.int .i8 0)], (.int .i8)⟩),
  (23, ⟨3, 3, true, [(.int .i8 0), (.int .i8 0), (.int .i8 0)], (.array 3 22 1 false)⟩),
  (24, ⟨9, 9, true, [(.int .i8 0), (.int .i8 0), (.int .i8 0), (.int .i8 0), (.int .i8 0), (.int .i8 0), (.int .i8 0), (.int .i8 0), (.int .i8 0)], (.array 3 23 3 true)⟩),
  (25, ⟨18, 18, true, [(.int .i8 0), (.int .i8 0), (.int .i8 0), (.int .i8 0), (.int .i8 0), (.int .i8 0), (.int .i8 0), (.int .i8 0), (.int .i8 0), (.int .i8 0), (.int .i8 0), (.int .i8 0), (.int .i8 0), (.int .i8 0), (.int .i8 0), (.int .i8 0), (.int .i8 0), (.int .i8 0)], (.array 2 24 9 true)⟩),
  (26, ⟨1, 24, false, [(.slice none 0 0)], (.slice 33 1)⟩),
  (28, ⟨4, 56, true, [(.string ByteArray.empty), (.int .i64 0), (.int .i64 0), (.slice none 0 0)], (.struct [(0, (1, false)), (1, (1, false)), (2, (1, false)), (3, (1, false))])⟩),
  (29, ⟨12, 168, true, [(.string ByteArray.empty), (.int .i64 0), (.int .i64 0), (.slice none 0 0), (.string ByteArray.empty), (.int .i64 0), (.int .i64 0), (.slice none 0 0), (.string ByteArray.empty), (.int .i64 0), (.int .i64 0), (.slice none 0 0)], (.array 3 28 4 true)⟩),
  (30, ⟨2, 2, true, [(.int .u8 0), (.int .u8 0)], (.array 2 5 1 false)⟩),
  (33, ⟨1, 4, false, [(.float .f32 0)], .other⟩),
  (34, ⟨3, 24, true, [(.int .i64 0), (.int .i64 0), (.int .i64 0)], (.array 3 3 1 false)⟩),
  (35, ⟨9, 72, true, [(.int .i64 0), (.int .i64 0), (.int .i64 0), (.int .i64 0), (.int .i64 0), (.int .i64 0), (.int .i64 0), (.int .i64 0), (.int .i64 0)], (.array 3 34 3 true)⟩),
  (37, ⟨10, 80, true, [(.int .i64 0), (.int .i64 0), (.int .i64 0), (.int .i64 0), (.int .i64 0), (.int .i64 0), (.int .i64 0), (.int .i64 0), (.int .i64 0), (.int .i64 0)], (.struct [(0, (9, true)), (9, (1, false))])⟩),
  (38, ⟨20, 160, true, [(.int .i64 0), (.int .i64 0), (.int .i64 0), (.int .i64 0), (.int .i64 0), (.int .i64 0), (.int .i64 0), (.int .i64 0), (.int .i64 0), (.int .i64 0), (.int .i64 0), (.int .i64 0), (.int .i64 0), (.int .i64 0), (.int .i64 0), (.int .i64 0), (.int .i64 0), (.int .i64 0), (.int .i64 0), (.int .i64 0)], (.array 2 37 10 true)⟩),
  (39, ⟨1, 8, false, [(.int .i64 0)], (.int .i64)⟩),
  (43, ⟨2, 16, true, [(.int .i64 0), (.int .i64 0)], (.struct [(0, (1, false)), (1, (1, false))])⟩),
  (44, ⟨6, 48, true, [(.int .i64 0), (.int .i64 0), (.int .i64 0), (.int .i64 0), (.int .i64 0), (.int .i64 0)], (.array 3 43 2 true)⟩),
  (45, ⟨18, 144, true, [(.int .i64 0), (.int .i64 0), (.int .i64 0), (.int .i64 0), (.int .i64 0), (.int .i64 0), (.int .i64 0), (.int .i64 0), (.int .i64 0), (.int .i64 0), (.int .i64 0), (.int .i64 0), (.int .i64 0), (.int .i64 0), (.int .i64 0), (.int .i64 0), (.int .i64 0), (.int .i64 0)], (.array 3 44 6 true)⟩),
  (49, ⟨10, 80, true, [(.int .i64 0), (.int .i64 0), (.int .i64 0), (.int .i64 0), (.int .i64 0), (.int .i64 0), (.int .i64 0), (.int .i64 0), (.int .i64 0), (.int .i64 0)], (.struct [(0, (9, true)), (9, (1, false))])⟩),
  (50, ⟨4, 56, true, [(.string ByteArray.empty), (.int .i64 0), (.int .i64 0), (.slice none 0 0)], (.struct [(0, (1, false)), (1, (1, false)), (2, (1, false)), (3, (1, false))])⟩),
  (54, ⟨12, 168, true, [(.string ByteArray.empty), (.int .i64 0), (.int .i64 0), (.slice none 0 0), (.string ByteArray.empty), (.int .i64 0), (.int .i64 0), (.slice none 0 0), (.string ByteArray.empty), (.int .i64 0), (.int .i64 0), (.slice none 0 0)], (.array 3 50 4 true)⟩),
  (63, ⟨1, 24, false, [(.slice none 0 0)], (.slice 3 1)⟩),
  (64, ⟨8, 112, true, [(.string ByteArray.empty), (.int .i64 0), (.int .i64 0), (.slice none 0 0), (.string ByteArray.empty), (.int .i64 0), (.int .i64 0), (.slice none 0 0)], (.array 2 50 4 true)⟩),
  (67, ⟨1, 24, false, [(.slice none 0 0)], (.slice 5 1)⟩),
  (72, ⟨2, 16, true, [(.int .i64 0), (.int .i64 0)], (.struct [(0, (1, false)), (1, (1, false))])⟩),
  (74, ⟨1, 24, false, [(.slice none 0 0)], (.slice 72 2)⟩),
  (84, ⟨1, 24, false, [(.slice none 0 0)], (.slice 39 1)⟩),
  (97, ⟨1, 8, false, [.nilFunc], .other⟩),
  (100, ⟨1, 24, false, [(.slice none 0 0)], (.slice 26 1)⟩),
  (103, ⟨1, 4, false, [(.int .u32 0)], (.int .u32)⟩),
  (108, ⟨2, 16, true, [(.int .i64 0), (.int .i64 0)], (.array 2 3 1 false)⟩),
  (109, ⟨6, 48, true, [(.int .i64 0), (.int .i64 0), (.int .i64 0), (.int .i64 0), (.int .i64 0), (.int .i64 0)], (.array 3 108 2 true)⟩),
  (112, ⟨1, 24, false, [(.slice none 0 0)], (.slice 50 4)⟩),
  (125, ⟨1, 8, false, [(.float .f64 0)], .other⟩)
  ]
theorem T_ok : TOk Tryd.prog T := by unfold TOk; kernel_rfl
theorem mixed : Tryd.prog.follows .mixedOrders = true := by kernel_rfl
end Go.Proofs.YtedlaominconaaaDoor
