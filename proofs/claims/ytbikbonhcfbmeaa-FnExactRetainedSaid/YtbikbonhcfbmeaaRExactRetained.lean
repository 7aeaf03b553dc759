/-
  The law FnExactRetained returns true for every input; each argument reads behind the call as it read before. No condition.
-/
import Derived.Test.YtbikbonhcfbmeaaA2
namespace Go.Proofs.Ytbikbonhcfbmeaa
open Go Go.RowKit

theorem con5 (x0 : Door) : Con Try.prog 5 (pvs [.st .door] (x0, ())) [rv (.sc .bool) [] true] := by
  have h := w_FnExactRetained_c x0
  rw [t_FnExactRetained x0] at h
  exact h

theorem lifted5 (os : Go.Os) (started : os.Started) (H : Type) (enc : TypeId × Value → H) :
    ReturnsInHanded {} Try.checked os 5 .any (Rows.fnExactRetainedSpec.pre6 enc Try.prog Try.f5 Rows.fnExactRetainedRow.domain false) (Rows.fnExactRetainedSpec.post enc Try.prog Try.f5 false true false false) := by
  refine row_of_con (C := Try.checked) teFact flFact loFact ownFact started (by kernel_rfl) Try.func5
    (ChangeSpec.witness6 (enc := enc) (C := Try.checked) false ⟨#[], #[.agg #[.int .i64 0, .int .i64 0, .int .i64 0, .bool false, .int .u64 0, .int .u64 0, .slice none 0 0, .bool false, .int .u64 0, .int .u64 0, .slice none 0 0, .bool false, .int .i64 0, .int .i64 0, .int .i64 0, .int .i64 0, .slice none 0 0, .slice none 0 0, .slice none 0 0, .int .i64 0]], []⟩ 8 (by kernel_rfl) (by kernel_rfl) (by kernel_rfl) (by kernel_rfl)) rfl (by kernel_rfl) ?_ (tb := 4) (by kernel_rfl) Try.underlying4 ?_ ?_
  · intro t ht
    rw [Try.params5] at ht
    simp at ht
    subst ht
    all_goals exact ⟨by kernel_rfl, of_decide_eq_true (by kernel_rfl)⟩
  · intro ds hds
    rw [Try.params5] at hds
    have hds : ds.length = 1 := hds
    match ds, hds with
    | [d0], _ => rfl
  · intro A hA
    rw [Try.params5] at hA
    cases A with
    | nil => exact False.elim hA
    | cons a0 A =>
    cases A with
    | cons _ _ => exact False.elim hA.2
    | nil =>
      obtain ⟨x0, rfl⟩ := arg_st (ty := .door) (fs := [(0, 3), (1, 3), (2, 55), (12, 57), (16, 58), (17, 62), (19, 3)]) (by kernel_rfl) hA.1
      exact con5 x0

theorem holds5 : Rows.FnExactRetainedSaid :=
  OpenClaim.holds_of_wide 5 Try.f5 rfl rfl rfl rfl rfl rfl rfl ⟨rfl, rfl, rfl, rfl, rfl⟩ rfl rfl rfl rfl rfl (by kernel_rfl) Try.func5 (by kernel_rfl)
    (of_decide_eq_true (by kernel_rfl)) (by unfold Func.isWrapper; first | (rw [if_pos (by decide +kernel)]; kernel_rfl) | (rw [if_neg (by decide +kernel)]; exact ⟨rfl, rfl⟩))
    (fun os started H enc _ => lifted5 os started H enc)
end Go.Proofs.Ytbikbonhcfbmeaa
