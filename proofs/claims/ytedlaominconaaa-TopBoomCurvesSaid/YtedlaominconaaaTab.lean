/- The table of the types that the translation's operations name, as the executor wants it; checked by the kernel. -/
import Derived.Test.YtedlaominconaaaProg
import Derived.Test.YtedlaominconaaaEng2
namespace Go.Proofs.Ytedlaominconaaa
open Go.E
def T : TT := [
  (3, ⟨1, 8, false, [(.int .i64 0)], (.int .i64)⟩),
  (5, ⟨1, 1, false, [(.int .u8 0)], (.int .u8)⟩),
  (9, ⟨1, 16, false, [(.string ByteArray.empty)], .str⟩),
  (22, ⟨1, 24, false, [(.slice none 0 0)], (.slice 29 3)⟩),
  (23, ⟨1, 2, false, [(.int .i16 0)], (.int .i16)⟩),
  (24, ⟨2, 4, true, [(.int .i16 0), (.int .i16 0)], (.array 2 23 1 false)⟩),
  (26, ⟨1, 24, false, [(.slice none 0 0)], (.slice 30 3)⟩),
  (27, ⟨1, 24, false, [(.slice none 0 0)], (.slice 3 1)⟩),
  (28, ⟨1, 1, false, [(.int .i8 0)], (.int .i8)⟩),
  (29, ⟨3, 3, true, [(.int .i8 0), (.int .i8 0), (.int .i8 0)], (.array 3 28 1 false)⟩),
  (30, ⟨3, 24, true, [(.int .i64 0), (.int .i64 0), (.int .i64 0)], (.array 3 3 1 false)⟩),
  (31, ⟨1, 24, false, [(.slice none 0 0)], (.slice 47 1)⟩),
  (32, ⟨1, 8, false, [(.int .i64 0)], (.int .i64)⟩),
  (36, ⟨3, 72, true, [(.slice none 0 0), (.slice none 0 0), (.slice none 0 0)], (.struct [(0, (1, false)), (1, (1, false)), (2, (1, false))])⟩),
  (38, ⟨1, 24, false, [(.slice none 0 0)], (.slice 49 2)⟩),
  (41, ⟨1, 24, false, [(.slice none 0 0)], (.slice 97 4)⟩),
  (44, ⟨4, 56, true, [(.string ByteArray.empty), (.int .i64 0), (.int .i64 0), (.slice none 0 0)], (.struct [(0, (1, false)), (1, (1, false)), (2, (1, false)), (3, (1, false))])⟩),
  (46, ⟨12, 168, true, [(.string ByteArray.empty), (.int .i64 0), (.int .i64 0), (.slice none 0 0), (.string ByteArray.empty), (.int .i64 0), (.int .i64 0), (.slice none 0 0), (.string ByteArray.empty), (.int .i64 0), (.int .i64 0), (.slice none 0 0)], (.array 3 44 4 true)⟩),
  (47, ⟨1, 4, false, [(.float .f32 0)], .other⟩),
  (49, ⟨2, 16, true, [(.int .i64 0), (.int .i64 0)], (.struct [(0, (1, false)), (1, (1, false))])⟩),
  (52, ⟨3, 72, true, [(.slice none 0 0), (.slice none 0 0), (.slice none 0 0)], (.struct [(0, (1, false)), (1, (1, false)), (2, (1, false))])⟩),
  (55, ⟨1, 24, false, [(.slice none 0 0)], (.slice 74 2)⟩),
  (56, ⟨4, 56, true, [(.string ByteArray.empty), (.int .i64 0), (.int .i64 0), (.slice none 0 0)], (.struct [(0, (1, false)), (1, (1, false)), (2, (1, false)), (3, (1, false))])⟩),
  (57, ⟨2, 2, true, [(.int .u8 0), (.int .u8 0)], (.array 2 5 1 false)⟩),
  (60, ⟨1, 24, false, [(.slice none 0 0)], (.slice 110 2)⟩),
  (61, ⟨1, 24, false, [(.slice none 0 0)], (.slice 110 2)⟩),
  (74, ⟨2, 16, true, [(.int .i64 0), (.int .i64 0)], (.struct [(0, (1, false)), (1, (1, false))])⟩),
  (76, ⟨2, 16, true, [(.int .i64 0), (.int .i64 0)], (.struct [(0, (1, false)), (1, (1, false))])⟩),
  (79, ⟨2, 16, true, [(.int .i64 0), (.int .i64 0)], (.struct [(0, (1, false)), (1, (1, false))])⟩),
  (81, ⟨8, 112, true, [(.string ByteArray.empty), (.int .i64 0), (.int .i64 0), (.slice none 0 0), (.string ByteArray.empty), (.int .i64 0), (.int .i64 0), (.slice none 0 0)], (.array 2 44 4 true)⟩),
  (94, ⟨2, 16, true, [(.int .i64 0), (.int .i64 0)], (.array 2 3 1 false)⟩),
  (95, ⟨12, 96, true, [(.int .i64 0), (.int .i64 0), (.int .i64 0), (.int .i64 0), (.int .i64 0), (.int .i64 0), (.int .i64 0), (.int .i64 0), (.int .i64 0), (.int .i64 0), (.int .i64 0), (.int .i64 0)], (.array 4 30 3 true)⟩),
  (97, ⟨4, 32, true, [(.int .i64 0), (.int .i64 0), (.int .i64 0), (.int .i64 0)], (.struct [(0, (3, true)), (3, (1, false))])⟩),
  (100, ⟨3, 72, true, [(.slice none 0 0), (.slice none 0 0), (.slice none 0 0)], (.struct [(0, (1, false)), (1, (1, false)), (2, (1, false))])⟩),
  (106, ⟨1, 8, false, [.nilFunc], .other⟩),
  (107, ⟨1, 24, false, [(.slice none 0 0)], (.slice 5 1)⟩),
  (110, ⟨2, 16, true, [(.int .i64 0), (.int .i64 0)], (.struct [(0, (1, false)), (1, (1, false))])⟩),
  (125, ⟨1, 24, false, [(.slice none 0 0)], (.slice 31 1)⟩),
  (130, ⟨1, 24, false, [(.slice none 0 0)], (.slice 32 1)⟩),
  (140, ⟨1, 24, false, [(.slice none 0 0)], (.slice 44 4)⟩),
  (147, ⟨1, 4, false, [(.int .u32 0)], (.int .u32)⟩),
  (169, ⟨1, 8, false, [(.float .f64 0)], .other⟩),
  (177, ⟨4, 32, true, [(.int .i64 0), (.int .i64 0), (.int .i64 0), (.int .i64 0)], (.array 4 3 1 false)⟩)
  ]
theorem T_ok : TOk Try.prog T := by unfold TOk; kernel_rfl
theorem mixed : Try.prog.follows .mixedOrders = true := by kernel_rfl
end Go.Proofs.Ytedlaominconaaa
