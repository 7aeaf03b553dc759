/-
  The law FnExactSynAck returns true for every input; each argument reads behind the call as it read before. No condition.
-/
import Derived.Test.YtbikbonhcfbmeaaC2
namespace Go.Proofs.Ytbikbonhcfbmeaa
open Go Go.RowKit

theorem con7 (x0 : Door) (x1 : Tupl) (x2 : Segm) : Con Try.prog 7 (pvs [.st .door, .st .tupl, .st .segm] (x0, x1, x2, ())) [rv (.sc .bool) [] true] := by
  have h := w_FnExactSynAck_c x0 x1 x2
  rw [t_FnExactSynAck x0 x1 x2] at h
  exact h

theorem lifted7 (os : Go.Os) (started : os.Started) (H : Type) (enc : TypeId × Value → H) :
    ReturnsInHanded {} Try.checked os 7 .any (Rows.fnExactSynAckSpec.pre6 enc Try.prog Try.f7 Rows.fnExactSynAckRow.domain false) (Rows.fnExactSynAckSpec.post enc Try.prog Try.f7 false true false false) := by
  refine row_of_con (C := Try.checked) teFact flFact loFact ownFact started (by kernel_rfl) Try.func7
    (ChangeSpec.witness6 (enc := enc) (C := Try.checked) false ⟨#[], #[.agg #[.int .i64 0, .int .i64 0, .int .i64 0, .bool false, .int .u64 0, .int .u64 0, .slice none 0 0, .bool false, .int .u64 0, .int .u64 0, .slice none 0 0, .bool false, .int .i64 0, .int .i64 0, .int .i64 0, .int .i64 0, .slice none 0 0, .slice none 0 0, .slice none 0 0, .int .i64 0], .agg #[.int .i64 0, .int .i64 0, .int .i64 0], .agg #[.int .i64 0, .int .i64 0, .int .i64 0, .int .i64 0, .int .i64 0, .int .i64 0, .int .i64 0, .int .i64 0, .bool false, .bool false, .int .i64 0, .int .i64 0, .string .empty]], []⟩ 8 (by kernel_rfl) (by kernel_rfl) (by kernel_rfl) (by kernel_rfl)) rfl (by kernel_rfl) ?_ (tb := 4) (by kernel_rfl) Try.underlying4 ?_ ?_
  · intro t ht
    rw [Try.params7] at ht
    simp at ht
    rcases ht with rfl | rfl | rfl
    all_goals exact ⟨by kernel_rfl, of_decide_eq_true (by kernel_rfl)⟩
  · intro ds hds
    rw [Try.params7] at hds
    have hds : ds.length = 3 := hds
    match ds, hds with
    | [d0, d1, d2], _ => rfl
  · intro A hA
    rw [Try.params7] at hA
    cases A with
    | nil => exact False.elim hA
    | cons a0 A =>
    cases A with
    | nil => exact False.elim hA.2
    | cons a1 A =>
    cases A with
    | nil => exact False.elim hA.2.2
    | cons a2 A =>
    cases A with
    | cons _ _ => exact False.elim hA.2.2.2
    | nil =>
      obtain ⟨x0, rfl⟩ := arg_st (ty := .door) (fs := [(0, 3), (1, 3), (2, 55), (12, 57), (16, 58), (17, 62), (19, 3)]) (by kernel_rfl) hA.1
      obtain ⟨x1, rfl⟩ := arg_st (ty := .tupl) (fs := [(0, 3), (1, 3), (2, 3)]) (by kernel_rfl) hA.2.1
      obtain ⟨x2, rfl⟩ := arg_st (ty := .segm) (fs := [(0, 3), (1, 3), (2, 3), (3, 3), (4, 3), (5, 3), (6, 93), (12, 9)]) (by kernel_rfl) hA.2.2.1
      exact con7 x0 x1 x2

theorem holds7 : Rows.FnExactSynAckSaid :=
  OpenClaim.holds_of_wide 7 Try.f7 rfl rfl rfl rfl rfl rfl rfl ⟨rfl, rfl, rfl, rfl, rfl⟩ rfl rfl rfl rfl rfl (by kernel_rfl) Try.func7 (by kernel_rfl)
    (of_decide_eq_true (by kernel_rfl)) (by unfold Func.isWrapper; first | (rw [if_pos (by decide +kernel)]; kernel_rfl) | (rw [if_neg (by decide +kernel)]; exact ⟨rfl, rfl⟩))
    (fun os started H enc _ => lifted7 os started H enc)
end Go.Proofs.Ytbikbonhcfbmeaa
