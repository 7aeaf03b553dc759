/-
  The table of types of this seat, and its closed facts.
-/
import Derived.Test.YtnpmemmhiifbgaaGreatPure
import Derived.Test.YtnpmemmhiifbgaaGreatRows
import Derived.KernelRfl
namespace Go.Proofs.YtnpmemmhiifbgaaGreat
open Go Go.RowKit
def te : TE := [
  (2, .sc (.int .i64)),
  (3, .sc (.int .i64)),
  (4, .sc .bool),
  (5, .sc (.int .u8)),
  (6, .sc (.int .u8)),
  (9, .sc .str),
  (10, .sc .str),
  (11, .sc .str),
  (12, .sc (.int .u64)),
  (21, .sc (.int .i32)),
  (22, .sl .entr 24),
  (24, .st .link [(0, 3), (1, 3), (2, 22)]),
  (25, .sc (.int .u64)),
  (26, .sl .macRow 24),
  (28, .st .mac [(0, 4), (1, 25), (2, 25), (3, 26)]),
  (30, .st .keys [(0, 3), (1, 28), (5, 28), (9, 4)]),
  (32, .st .limi [(0, 3), (1, 3), (2, 3), (3, 3)]),
  (33, .sl .half 96),
  (34, .sl .conn 208),
  (35, .sl .tupl 24),
  (37, .st .tabl [(0, 34), (1, 35)]),
  (39, .st .door [(0, 3), (1, 3), (2, 30), (12, 32), (16, 33), (17, 37), (19, 3)]),
  (41, .st .stac [(0, 24), (3, 39)]),
  (44, .sl .entr 24),
  (46, .st .link [(0, 3), (1, 3), (2, 44)]),
  (47, .sl .macRow 24),
  (49, .st .mac [(0, 4), (1, 25), (2, 25), (3, 47)]),
  (51, .st .keys [(0, 3), (1, 49), (5, 49), (9, 4)]),
  (52, .st .limi [(0, 3), (1, 3), (2, 3), (3, 3)]),
  (53, .sl .half 96),
  (54, .sl .conn 208),
  (55, .sl .tupl 24),
  (57, .st .tabl [(0, 54), (1, 55)]),
  (59, .st .door [(0, 3), (1, 3), (2, 51), (12, 52), (16, 53), (17, 57), (19, 3)]),
  (61, .st .stac [(0, 46), (3, 59)]),
  (85, .st .tupl [(0, 3), (1, 3), (2, 3)]),
  (87, .st .opti [(0, 3), (1, 3), (2, 4), (3, 4), (4, 3), (5, 3)]),
  (89, .st .half [(0, 85), (3, 3), (4, 3), (5, 87), (11, 3), (12, 3)]),
  (105, .sc (.int .u64)),
  (107, .st .entr [(0, 3), (1, 3), (2, 3)]),
  (114, .st .sndr [(0, 3), (1, 9), (2, 3), (3, 4), (4, 4), (5, 4)]),
  (115, .sl .piec 24),
  (117, .st .recv [(0, 3), (1, 9), (2, 115), (3, 3), (4, 4)]),
  (119, .st .conn [(0, 85), (3, 3), (4, 114), (10, 117), (15, 3), (16, 3), (17, 87), (23, 3), (24, 3)]),
  (125, .st .entr [(0, 3), (1, 3), (2, 3)]),
  (128, .st .tupl [(0, 3), (1, 3), (2, 3)]),
  (129, .st .opti [(0, 3), (1, 3), (2, 4), (3, 4), (4, 3), (5, 3)]),
  (131, .st .half [(0, 128), (3, 3), (4, 3), (5, 129), (11, 3), (12, 3)]),
  (145, .st .sndr [(0, 3), (1, 9), (2, 3), (3, 4), (4, 4), (5, 4)]),
  (146, .sl .piec 24),
  (148, .st .recv [(0, 3), (1, 9), (2, 146), (3, 3), (4, 4)]),
  (150, .st .conn [(0, 128), (3, 3), (4, 145), (10, 148), (15, 3), (16, 3), (17, 129), (23, 3), (24, 3)]),
  (152, .st .macRow [(0, 9), (1, 3)]),
  (167, .st .macRow [(0, 9), (1, 3)]),
  (172, .st .piec [(0, 3), (1, 9)]),
  (185, .st .piec [(0, 3), (1, 9)]),
  (195, .sc (.int .u32)),
  (196, .sc (.int .u8)),
  (197, .sc (.int .u8)),
  (199, .ptr),
  (200, .sc (.int .i32)),
  (201, .sc (.int .i32)),
  (1000041, .wr [false, true]),
  (1000075, .wr [false, true]),
  (1000076, .wr [false, true]),
  (1000092, .wr [false, true]),
  (1000109, .wr [false, true]),
  (1000129, .wr [true]),
  (1000130, .wr [true]),
  (1000131, .wr [true]),
  (1000132, .wr [true]),
  (1000133, .wr [true])]
theorem teFact : teOk te Tryz.prog = true := by kernel_rfl
theorem flFact : flOk te Tryz.prog = true := by kernel_rfl
theorem loFact : laidOutB Tryz.prog = true := by kernel_rfl
theorem ownFact : ownKnob Tryz.prog.godebug = none := by kernel_rfl
theorem mixFact : Tryz.prog.follows .mixedOrders = true := by kernel_rfl
def sm_conn (xs : List Conn) : Bool := xs.all fun y => decide ((y.s.data).length ≤ 4294967296 ∧ (y.r.data).length ≤ 4294967296 ∧ (y.r.held).length ≤ 4294967296)
theorem sm_conn_at {xs : List Conn} (h : sm_conn xs = true) (i : Nat) : ((xs.getD i (Ty.zero .conn)).s.data).length ≤ 4294967296 ∧ ((xs.getD i (Ty.zero .conn)).r.data).length ≤ 4294967296 ∧ ((xs.getD i (Ty.zero .conn)).r.held).length ≤ 4294967296 := by
  rw [List.getD]
  cases hx : xs[i]? with
  | none => decide +kernel
  | some y => exact of_decide_eq_true ((List.all_eq_true.1 h) y (List.mem_of_getElem? hx))
theorem sm_conn_of {xs : List Conn} (h : ∀ i, i < xs.length → ((xs.getD i (Ty.zero .conn)).s.data).length ≤ 1048576 ∧ ((xs.getD i (Ty.zero .conn)).r.data).length ≤ 1048576 ∧ ((xs.getD i (Ty.zero .conn)).r.held).length ≤ 1048576) : sm_conn xs = true := by
  unfold sm_conn
  rw [List.all_eq_true]
  intro y hy
  obtain ⟨i, hi, rfl⟩ := List.mem_iff_getElem.1 hy
  have := h i hi
  rw [show xs.getD i (Ty.zero .conn) = xs[i] by simp [List.getD, hi]] at this
  simp only [decide_eq_true_eq]
  omega
theorem len_conn_r_held {xs : List Conn} (h : ∀ y ∈ xs, ∀ c ∈ Ty.cells .conn y, FactC c) (i : Nat) : ((xs.getD i (Ty.zero .conn)).r.held).length ≤ 140737488355328 := by
  rw [List.getD]
  cases hx : xs[i]? with
  | none => decide +kernel
  | some y => exact (h y (List.mem_of_getElem? hx) (.sl .piec y.r.held) (List.mem_cons_of_mem _ (List.mem_cons_of_mem _ (List.mem_cons_of_mem _ (List.mem_cons_of_mem _ (List.mem_cons_of_mem _ (List.mem_cons_of_mem _ (List.mem_cons_of_mem _ (List.mem_cons_of_mem _ (List.mem_cons_of_mem _ (List.mem_cons_of_mem _ (List.mem_cons_of_mem _ (List.mem_cons_of_mem _ List.mem_cons_self))))))))))))).len
end Go.Proofs.YtnpmemmhiifbgaaGreat
