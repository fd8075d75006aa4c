/- The table of the types that the translation's operations name, as the executor wants it; checked by the kernel. -/
import Derived.Test.YtmfophoejjcnlaaDoorProg
import Derived.Test.YtmfophoejjcnlaaDoorEngI
namespace Go.Proofs.YtmfophoejjcnlaaDoor
open Go.E
def T : TT := [
  (3, ⟨1, 8, false, [(.int .i64 0)], (.int .i64)⟩),
  (4, ⟨1, 1, false, [(.bool false)], .bool⟩),
  (9, ⟨1, 16, false, [(.string ByteArray.empty)], .str⟩),
  (23, ⟨7, 56, true, [(.int .i64 0), (.int .i64 0), (.int .i64 0), (.int .i64 0), (.int .i64 0), (.int .i64 0), (.int .i64 0)], (.struct [(0, (1, false)), (1, (1, false)), (2, (1, false)), (3, (1, false)), (4, (1, false)), (5, (1, false)), (6, (1, false))])⟩),
  (25, ⟨2, 16, true, [(.int .i64 0), (.int .i64 0)], (.struct [(0, (1, false)), (1, (1, false))])⟩),
  (29, ⟨1, 24, false, [(.slice none 0 0)], (.slice 3 1)⟩),
  (30, ⟨1, 8, false, [(.int .i64 0)], (.int .i64)⟩),
  (34, ⟨2, 16, true, [(.int .i64 0), (.int .i64 0)], (.struct [(0, (1, false)), (1, (1, false))])⟩),
  (37, ⟨7, 56, true, [(.int .i64 0), (.int .i64 0), (.int .i64 0), (.int .i64 0), (.int .i64 0), (.int .i64 0), (.int .i64 0)], (.struct [(0, (1, false)), (1, (1, false)), (2, (1, false)), (3, (1, false)), (4, (1, false)), (5, (1, false)), (6, (1, false))])⟩),
  (43, ⟨1, 24, false, [(.slice none 0 0)], (.slice 9 1)⟩),
  (45, ⟨4, 32, true, [(.int .i64 0), (.int .i64 0), (.int .i64 0), (.int .i64 0)], (.struct [(0, (1, false)), (1, (1, false)), (2, (1, false)), (3, (1, false))])⟩),
  (46, ⟨1, 24, false, [(.slice none 0 0)], (.slice 45 4)⟩),
  (48, ⟨2, 48, true, [(.slice none 0 0), (.slice none 0 0)], (.struct [(0, (1, false)), (1, (1, false))])⟩),
  (51, ⟨2, 16, true, [(.int .i64 0), (.int .i64 0)], (.struct [(0, (1, false)), (1, (1, false))])⟩),
  (63, ⟨1, 24, false, [(.slice none 0 0)], (.slice 70 5)⟩),
  (68, ⟨3, 24, true, [(.int .i64 0), (.bool false), (.int .i64 0)], (.struct [(0, (1, false)), (1, (1, false)), (2, (1, false))])⟩),
  (70, ⟨5, 40, true, [(.int .i64 0), (.bool false), (.int .i64 0), (.int .i64 0), (.bool false)], (.struct [(0, (3, true)), (3, (1, false)), (4, (1, false))])⟩),
  (73, ⟨1, 24, false, [(.slice none 0 0)], (.slice 30 1)⟩),
  (75, ⟨2, 16, true, [(.int .i64 0), (.int .i64 0)], (.array 2 3 1 false)⟩),
  (76, ⟨1, 8, false, [(.map none)], .other⟩),
  (78, ⟨1, 8, false, [.nilFunc], .other⟩),
  (88, ⟨1, 8, false, [.nilFunc], .other⟩),
  (90, ⟨2, 16, true, [(.int .i64 0), .nilFunc], (.struct [(0, (1, false)), (1, (1, false))])⟩),
  (91, ⟨1, 24, false, [(.slice none 0 0)], (.slice 90 2)⟩),
  (96, ⟨6, 48, true, [(.int .i64 0), (.bool false), (.int .i64 0), (.int .i64 0), (.bool false), (.int .i64 0)], (.array 2 68 3 true)⟩)
  ]
theorem T_ok : TOk Tryd.prog T := by unfold TOk; kernel_rfl
theorem mixed : Tryd.prog.follows .mixedOrders = true := by kernel_rfl
end Go.Proofs.YtmfophoejjcnlaaDoor
