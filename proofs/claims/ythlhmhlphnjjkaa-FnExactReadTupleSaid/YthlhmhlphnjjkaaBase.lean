/-
  The table of types of this seat, and its closed facts.
-/
import Derived.Test.YthlhmhlphnjjkaaPure
import Derived.Test.YthlhmhlphnjjkaaRows
import Derived.KernelRfl
namespace Go.Proofs.Ythlhmhlphnjjkaa
open Go Go.RowKit
def te : TE := [
  (2, .sc (.int .i64)),
  (3, .sc (.int .i64)),
  (4, .sc .bool),
  (5, .sc (.int .u8)),
  (6, .sc (.int .u8)),
  (9, .sc .str),
  (10, .sc .str),
  (11, .sc .str),
  (12, .sc (.int .u64)),
  (21, .sc (.int .i32)),
  (22, .sl .str 16),
  (24, .sc (.int .u64)),
  (25, .sl .macRow 24),
  (27, .st .mac [(0, 4), (1, 24), (2, 24), (3, 25)]),
  (34, .sl .u8 1),
  (41, .st .tupl [(0, 3), (1, 3), (2, 3)]),
  (46, .sl .issu 40),
  (49, .sl .issu 40),
  (54, .st .tupl [(0, 3), (1, 3), (2, 3)]),
  (55, .sl .macRow 24),
  (57, .st .mac [(0, 4), (1, 24), (2, 24), (3, 55)]),
  (59, .st .acti [(0, 3), (1, 54), (4, 3), (5, 9), (6, 57)]),
  (63, .st .acti [(0, 3), (1, 41), (4, 3), (5, 9), (6, 27)]),
  (71, .st .keys [(0, 3), (1, 57), (5, 57), (9, 4)]),
  (75, .st .keys [(0, 3), (1, 27), (5, 27), (9, 4)]),
  (85, .st .issu [(0, 41), (3, 3), (4, 3)]),
  (88, .st .macRow [(0, 9), (1, 3)]),
  (93, .ptr),
  (97, .sl .i64 8),
  (110, .st .issu [(0, 54), (3, 3), (4, 3)]),
  (121, .sc (.int .u64)),
  (124, .st .curs [(0, 34), (1, 3), (2, 3)]),
  (127, .st .sipr [(0, 24), (1, 24), (2, 24), (3, 24)]),
  (148, .st .macRow [(0, 9), (1, 3)]),
  (163, .sc (.int .u32)),
  (164, .sc (.int .u8)),
  (165, .sc (.int .u8)),
  (167, .ptr),
  (168, .sc (.int .i32)),
  (169, .sc (.int .i32)),
  (1000018, .wr [true, false]),
  (1000019, .wr [true, false]),
  (1000034, .wr [true, false]),
  (1000056, .wr [true, false]),
  (1000059, .wr [true, false]),
  (1000060, .wr [true, false]),
  (1000062, .wr [false, true]),
  (1000087, .wr [false, true]),
  (1000090, .wr [true]),
  (1000092, .wr [true]),
  (1000097, .wr [false, true]),
  (1000109, .wr [false, true]),
  (1000113, .wr [true, false]),
  (1000114, .wr [true, false]),
  (1000115, .wr [true]),
  (1000116, .wr [true]),
  (1000124, .wr [true]),
  (1000126, .wr [true]),
  (1000127, .wr [true]),
  (1000128, .wr [true]),
  (1000132, .wr [true]),
  (1000147, .wr [true]),
  (1000148, .wr [true]),
  (1000149, .wr [true]),
  (1000150, .wr [true]),
  (1000151, .wr [true])]
theorem teFact : teOk te Try.prog = true := by kernel_rfl
theorem flFact : flOk te Try.prog = true := by kernel_rfl
theorem loFact : laidOutB Try.prog = true := by kernel_rfl
theorem ownFact : ownKnob Try.prog.godebug = none := by kernel_rfl
theorem mixFact : Try.prog.follows .mixedOrders = true := by kernel_rfl
end Go.Proofs.Ythlhmhlphnjjkaa
