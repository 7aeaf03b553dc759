/-
  The table of types of this seat, and its closed facts.
-/
import Derived.Test.YtbikbonhcfbmeaaPure
import Derived.Test.YtbikbonhcfbmeaaRows
import Derived.KernelRfl
namespace Go.Proofs.Ytbikbonhcfbmeaa
open Go Go.RowKit
def te : TE := [
  (2, .sc (.int .i64)),
  (3, .sc (.int .i64)),
  (4, .sc .bool),
  (5, .sc (.int .u8)),
  (6, .sc (.int .u8)),
  (9, .sc .str),
  (10, .sc .str),
  (11, .sc .str),
  (12, .sc (.int .u64)),
  (21, .sc (.int .i32)),
  (22, .sl .u8 1),
  (25, .st .tupl [(0, 3), (1, 3), (2, 3)]),
  (27, .st .opti [(0, 3), (1, 3), (2, 4), (3, 4), (4, 3), (5, 3)]),
  (29, .st .clie [(0, 25), (3, 3), (4, 27), (10, 3)]),
  (31, .st .segm [(0, 3), (1, 3), (2, 3), (3, 3), (4, 3), (5, 3), (6, 27), (12, 9)]),
  (40, .sc (.int .u64)),
  (41, .sl .macRow 24),
  (43, .st .mac [(0, 4), (1, 40), (2, 40), (3, 41)]),
  (45, .st .keys [(0, 3), (1, 43), (5, 43), (9, 4)]),
  (46, .sl .issu 40),
  (51, .sl .macRow 24),
  (53, .st .mac [(0, 4), (1, 40), (2, 40), (3, 51)]),
  (55, .st .keys [(0, 3), (1, 53), (5, 53), (9, 4)]),
  (57, .st .limi [(0, 3), (1, 3), (2, 3), (3, 3)]),
  (58, .sl .half 96),
  (59, .sl .conn 208),
  (60, .sl .tupl 24),
  (62, .st .tabl [(0, 59), (1, 60)]),
  (64, .st .door [(0, 3), (1, 3), (2, 55), (12, 57), (16, 58), (17, 62), (19, 3)]),
  (67, .st .limi [(0, 3), (1, 3), (2, 3), (3, 3)]),
  (68, .sl .half 96),
  (69, .sl .conn 208),
  (70, .sl .tupl 24),
  (72, .st .tabl [(0, 69), (1, 70)]),
  (74, .st .door [(0, 3), (1, 3), (2, 45), (12, 67), (16, 68), (17, 72), (19, 3)]),
  (78, .sl .entr 24),
  (80, .st .link [(0, 3), (1, 3), (2, 78)]),
  (82, .st .stac [(0, 80), (3, 64)]),
  (85, .sl .entr 24),
  (87, .st .link [(0, 3), (1, 3), (2, 85)]),
  (89, .st .stac [(0, 87), (3, 74)]),
  (92, .st .tupl [(0, 3), (1, 3), (2, 3)]),
  (93, .st .opti [(0, 3), (1, 3), (2, 4), (3, 4), (4, 3), (5, 3)]),
  (95, .st .segm [(0, 3), (1, 3), (2, 3), (3, 3), (4, 3), (5, 3), (6, 93), (12, 9)]),
  (102, .ptr),
  (117, .sl .str 16),
  (122, .st .issu [(0, 25), (3, 3), (4, 3)]),
  (130, .st .sndr [(0, 3), (1, 9), (2, 3), (3, 4), (4, 4), (5, 4)]),
  (131, .sl .piec 24),
  (133, .st .recv [(0, 3), (1, 9), (2, 131), (3, 3), (4, 4)]),
  (135, .st .conn [(0, 25), (3, 3), (4, 130), (10, 133), (15, 3), (16, 3), (17, 27), (23, 3), (24, 3)]),
  (137, .st .piec [(0, 3), (1, 9)]),
  (154, .st .curs [(0, 22), (1, 3), (2, 3)]),
  (160, .sl .i64 8),
  (162, .sc (.int .u64)),
  (165, .st .macRow [(0, 9), (1, 3)]),
  (182, .st .half [(0, 25), (3, 3), (4, 3), (5, 27), (11, 3), (12, 3)]),
  (185, .st .half [(0, 92), (3, 3), (4, 3), (5, 93), (11, 3), (12, 3)]),
  (194, .st .entr [(0, 3), (1, 3), (2, 3)]),
  (205, .st .sndr [(0, 3), (1, 9), (2, 3), (3, 4), (4, 4), (5, 4)]),
  (206, .sl .piec 24),
  (208, .st .recv [(0, 3), (1, 9), (2, 206), (3, 3), (4, 4)]),
  (210, .st .conn [(0, 92), (3, 3), (4, 205), (10, 208), (15, 3), (16, 3), (17, 93), (23, 3), (24, 3)]),
  (217, .st .entr [(0, 3), (1, 3), (2, 3)]),
  (226, .st .macRow [(0, 9), (1, 3)]),
  (237, .st .sipr [(0, 40), (1, 40), (2, 40), (3, 40)]),
  (248, .st .piec [(0, 3), (1, 9)]),
  (260, .sc (.int .u32)),
  (261, .sc (.int .u8)),
  (262, .sc (.int .u8)),
  (264, .ptr),
  (265, .sc (.int .i32)),
  (266, .sc (.int .i32)),
  (1000040, .wr [true]),
  (1000041, .wr [true]),
  (1000042, .wr [true, false]),
  (1000043, .wr [true]),
  (1000044, .wr [true, false]),
  (1000060, .wr [true]),
  (1000063, .wr [true, false]),
  (1000064, .wr [true]),
  (1000065, .wr [false, true]),
  (1000093, .wr [true]),
  (1000094, .wr [true]),
  (1000095, .wr [true]),
  (1000096, .wr [true]),
  (1000098, .wr [true]),
  (1000099, .wr [true]),
  (1000100, .wr [true, false]),
  (1000101, .wr [true]),
  (1000104, .wr [true, false]),
  (1000109, .wr [true]),
  (1000110, .wr [true]),
  (1000111, .wr [false, true]),
  (1000143, .wr [true]),
  (1000144, .wr [true]),
  (1000145, .wr [true]),
  (1000146, .wr [true]),
  (1000148, .wr [true]),
  (1000168, .wr [false, false, true]),
  (1000172, .wr [true]),
  (1000173, .wr [true, false]),
  (1000174, .wr [false, true]),
  (1000192, .wr [false, true]),
  (1000220, .wr [true]),
  (1000221, .wr [true]),
  (1000222, .wr [true]),
  (1000223, .wr [true]),
  (1000224, .wr [true])]
theorem teFact : teOk te Try.prog = true := by kernel_rfl
theorem flFact : flOk te Try.prog = true := by kernel_rfl
theorem loFact : laidOutB Try.prog = true := by kernel_rfl
theorem ownFact : ownKnob Try.prog.godebug = none := by kernel_rfl
theorem mixFact : Try.prog.follows .mixedOrders = true := by kernel_rfl
def sm_conn (xs : List Conn) : Bool := xs.all fun y => decide ((y.s.data).length ≤ 4294967296 ∧ (y.r.data).length ≤ 4294967296 ∧ (y.r.held).length ≤ 4294967296)
theorem sm_conn_at {xs : List Conn} (h : sm_conn xs = true) (i : Nat) : ((xs.getD i (Ty.zero .conn)).s.data).length ≤ 4294967296 ∧ ((xs.getD i (Ty.zero .conn)).r.data).length ≤ 4294967296 ∧ ((xs.getD i (Ty.zero .conn)).r.held).length ≤ 4294967296 := by
  rw [List.getD]
  cases hx : xs[i]? with
  | none => decide +kernel
  | some y => exact of_decide_eq_true ((List.all_eq_true.1 h) y (List.mem_of_getElem? hx))
theorem sm_conn_of {xs : List Conn} (h : ∀ i, i < xs.length → ((xs.getD i (Ty.zero .conn)).s.data).length ≤ 1048576 ∧ ((xs.getD i (Ty.zero .conn)).r.data).length ≤ 1048576 ∧ ((xs.getD i (Ty.zero .conn)).r.held).length ≤ 1048576) : sm_conn xs = true := by
  unfold sm_conn
  rw [List.all_eq_true]
  intro y hy
  obtain ⟨i, hi, rfl⟩ := List.mem_iff_getElem.1 hy
  have := h i hi
  rw [show xs.getD i (Ty.zero .conn) = xs[i] by simp [List.getD, hi]] at this
  simp only [decide_eq_true_eq]
  omega
theorem len_conn_r_held {xs : List Conn} (h : ∀ y ∈ xs, ∀ c ∈ Ty.cells .conn y, FactC c) (i : Nat) : ((xs.getD i (Ty.zero .conn)).r.held).length ≤ 140737488355328 := by
  rw [List.getD]
  cases hx : xs[i]? with
  | none => decide +kernel
  | some y => exact (h y (List.mem_of_getElem? hx) (.sl .piec y.r.held) (List.mem_cons_of_mem _ (List.mem_cons_of_mem _ (List.mem_cons_of_mem _ (List.mem_cons_of_mem _ (List.mem_cons_of_mem _ (List.mem_cons_of_mem _ (List.mem_cons_of_mem _ (List.mem_cons_of_mem _ (List.mem_cons_of_mem _ (List.mem_cons_of_mem _ (List.mem_cons_of_mem _ (List.mem_cons_of_mem _ List.mem_cons_self))))))))))))).len
end Go.Proofs.Ytbikbonhcfbmeaa
