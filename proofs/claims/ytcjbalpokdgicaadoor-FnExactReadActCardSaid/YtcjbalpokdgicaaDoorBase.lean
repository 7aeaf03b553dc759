/-
  The table of types of this seat, and its closed facts.
-/
import Derived.Test.YtcjbalpokdgicaaDoorPure
import Derived.Test.YtcjbalpokdgicaaDoorRows
import Derived.KernelRfl
import Derived.Test.YtcjbalpokdgicaaDoorShelf
namespace Go.Proofs.YtcjbalpokdgicaaDoor
open Go Go.RowKit
def te : TE := [
  (2, .sc (.int .i64)),
  (3, .sc (.int .i64)),
  (4, .sc .bool),
  (5, .sc (.int .u8)),
  (6, .sc (.int .u8)),
  (9, .sc .str),
  (10, .sc .str),
  (11, .sc .str),
  (12, .sc (.int .u64)),
  (21, .sc (.int .i32)),
  (23, .st .tupl [(0, 3), (1, 3), (2, 3)]),
  (25, .st .tupl [(0, 3), (1, 3), (2, 3)]),
  (28, .sc (.int .u64)),
  (29, .sl .macRow 24),
  (31, .st .mac [(0, 4), (1, 28), (2, 28), (3, 29)]),
  (33, .st .acti [(0, 3), (1, 23), (4, 3), (5, 9), (6, 31)]),
  (36, .sl .macRow 24),
  (38, .st .mac [(0, 4), (1, 28), (2, 28), (3, 36)]),
  (40, .st .acti [(0, 3), (1, 25), (4, 3), (5, 9), (6, 38)]),
  (48, .sl .acti 104),
  (51, .sl .acti 104),
  (67, .sl .str 16),
  (77, .sl .i64 8),
  (85, .sl .u8 1),
  (86, .sc (.int .u64)),
  (95, .st .macRow [(0, 9), (1, 3)]),
  (97, .st .macRow [(0, 9), (1, 3)]),
  (115, .ptr),
  (127, .sc (.int .u32)),
  (140, .sc (.int .u8)),
  (141, .sc (.int .u8)),
  (143, .sc (.int .i32)),
  (144, .sc (.int .i32)),
  (1000018, .wr [true, false]),
  (1000027, .wr [true, false]),
  (1000058, .wr [true, false]),
  (1000063, .wr [true, false]),
  (1000090, .wr [false, true]),
  (1000095, .wr [true, false]),
  (1000096, .wr [true, false]),
  (1000097, .wr [true]),
  (1000099, .wr [false, true]),
  (1000101, .wr [true]),
  (1000102, .wr [true, false]),
  (1000125, .wr [true]),
  (1000126, .wr [true]),
  (1000127, .wr [true]),
  (1000128, .wr [true]),
  (1000129, .wr [true]),
  (1000132, .wr [true])]
theorem teFact : teOk te Tryd.prog = true := by kernel_rfl
theorem flFact : flOk te Tryd.prog = true := by kernel_rfl
theorem loFact : laidOutB Tryd.prog = true := by kernel_rfl
theorem ownFact : ownKnob Tryd.prog.godebug = none := by kernel_rfl
theorem mixFact : Tryd.prog.follows .mixedOrders = true := by kernel_rfl
def sm_acti (xs : List Acti) : Bool := xs.all fun y => decide ((y.text).length ≤ 4294967296 ∧ (y.mac.rows).length ≤ 4294967296)
theorem sm_acti_at {xs : List Acti} (h : sm_acti xs = true) (i : Nat) : ((xs.getD i (Ty.zero .acti)).text).length ≤ 4294967296 ∧ ((xs.getD i (Ty.zero .acti)).mac.rows).length ≤ 4294967296 := by
  rw [List.getD]
  cases hx : xs[i]? with
  | none => decide +kernel
  | some y => exact of_decide_eq_true ((List.all_eq_true.1 h) y (List.mem_of_getElem? hx))
theorem sm_acti_of {xs : List Acti} (h : ∀ i, i < xs.length → ((xs.getD i (Ty.zero .acti)).text).length ≤ 1048576 ∧ ((xs.getD i (Ty.zero .acti)).mac.rows).length ≤ 1048576) : sm_acti xs = true := by
  unfold sm_acti
  rw [List.all_eq_true]
  intro y hy
  obtain ⟨i, hi, rfl⟩ := List.mem_iff_getElem.1 hy
  have := h i hi
  rw [show xs.getD i (Ty.zero .acti) = xs[i] by simp [List.getD, hi]] at this
  simp only [decide_eq_true_eq]
  omega
theorem len_acti_mac_rows {xs : List Acti} (h : ∀ y ∈ xs, ∀ c ∈ Ty.cells .acti y, FactC c) (i : Nat) : ((xs.getD i (Ty.zero .acti)).mac.rows).length ≤ 140737488355328 := by
  rw [List.getD]
  cases hx : xs[i]? with
  | none => decide +kernel
  | some y => exact (h y (List.mem_of_getElem? hx) (.sl .macRow y.mac.rows) (List.mem_cons_of_mem _ (List.mem_cons_of_mem _ (List.mem_cons_of_mem _ (List.mem_cons_of_mem _ (List.mem_cons_of_mem _ (List.mem_cons_of_mem _ (List.mem_cons_of_mem _ (List.mem_cons_of_mem _ (List.mem_cons_of_mem _ List.mem_cons_self)))))))))).len
end Go.Proofs.YtcjbalpokdgicaaDoor
