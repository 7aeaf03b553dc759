/-
  The table of types of this seat, and its closed facts.
-/
import Derived.Test.YtjioppmfnejlnaaPure
import Derived.Test.YtjioppmfnejlnaaRows
import Derived.KernelRfl
namespace Go.Proofs.Ytjioppmfnejlnaa
open Go Go.RowKit

def te : TE := [
  (2, .sc (.int .i64)),
  (3, .sc (.int .i64)),
  (4, .sc .bool),
  (5, .sc (.int .u8)),
  (6, .sc (.int .u8)),
  (9, .sc .str),
  (10, .sc .str),
  (11, .sc .str),
  (12, .sc (.int .u64)),
  (21, .sc (.int .i32)),
  (25, .st .limi [(0, 3), (1, 3), (2, 3), (3, 3)]),
  (27, .st .limi [(0, 3), (1, 3), (2, 3), (3, 3)]),
  (31, .st .tupl [(0, 3), (1, 3), (2, 3)]),
  (33, .st .opti [(0, 3), (1, 3), (2, 4), (3, 4), (4, 3), (5, 3)]),
  (35, .st .clie [(0, 31), (3, 3), (4, 33), (10, 3)]),
  (37, .st .tupl [(0, 3), (1, 3), (2, 3)]),
  (38, .st .opti [(0, 3), (1, 3), (2, 4), (3, 4), (4, 3), (5, 3)]),
  (40, .st .clie [(0, 37), (3, 3), (4, 38), (10, 3)]),
  (44, .st .segm [(0, 3), (1, 3), (2, 3), (3, 3), (4, 3), (5, 3), (6, 38), (12, 9)]),
  (47, .sl .issu 40),
  (49, .st .issu [(0, 31), (3, 3), (4, 3)]),
  (52, .sl .issu 40),
  (55, .st .issu [(0, 37), (3, 3), (4, 3)]),
  (63, .sl .str 16),
  (65, .st .resu [(0, 63), (1, 3), (2, 31), (5, 3), (6, 9), (7, 4)]),
  (69, .st .resu [(0, 63), (1, 3), (2, 37), (5, 3), (6, 9), (7, 4)]),
  (73, .st .segm [(0, 3), (1, 3), (2, 3), (3, 3), (4, 3), (5, 3), (6, 33), (12, 9)]),
  (80, .sc (.int .u64)),
  (81, .sl .macRow 24),
  (83, .st .mac [(0, 4), (1, 80), (2, 80), (3, 81)]),
  (97, .sl .macRow 24),
  (99, .st .mac [(0, 4), (1, 80), (2, 80), (3, 97)]),
  (101, .st .acti [(0, 3), (1, 31), (4, 3), (5, 9), (6, 99)]),
  (105, .st .acti [(0, 3), (1, 37), (4, 3), (5, 9), (6, 83)]),
  (121, .st .macRow [(0, 9), (1, 3)]),
  (136, .sc (.int .u64)),
  (138, .sl .i64 8),
  (140, .sl .u8 1),
  (149, .st .macRow [(0, 9), (1, 3)]),
  (159, .sc (.int .u32)),
  (160, .sc (.int .u8)),
  (161, .sc (.int .u8)),
  (164, .sc (.int .i32)),
  (165, .sc (.int .i32))]

theorem teFact : teOk te Try.prog = true := by kernel_rfl
theorem flFact : flOk te Try.prog = true := by kernel_rfl
theorem loFact : laidOutB Try.prog = true := by kernel_rfl
theorem ownFact : ownKnob Try.prog.godebug = none := by kernel_rfl
theorem mixFact : Try.prog.follows .mixedOrders = true := by kernel_rfl
end Go.Proofs.Ytjioppmfnejlnaa
