/-
  The law FnExactHasIssue returns true for every input; each argument reads behind the call as it read before. No condition.
-/
import Derived.Test.YtjioppmfnejlnaaA1
namespace Go.Proofs.Ytjioppmfnejlnaa
open Go Go.RowKit

theorem lifted7 (os : Go.Os) (started : os.Started) (H : Type) (enc : TypeId × Value → H) :
    ReturnsInHanded {} Try.checked os 7 .any (Rows.fnExactHasIssueSpec.pre6 enc Try.prog Try.f7 Rows.fnExactHasIssueRow.domain false) (Rows.fnExactHasIssueSpec.post enc Try.prog Try.f7 false true false false) := by
  refine row_of_con (C := Try.checked) teFact flFact loFact ownFact started (by kernel_rfl) Try.func7
    (ChangeSpec.witness6 (enc := enc) (C := Try.checked) false ⟨#[], #[.slice none 0 0, .agg #[.int .i64 0, .int .i64 0, .int .i64 0, .int .i64 0, .int .i64 0]], []⟩ 8 (by kernel_rfl) (by kernel_rfl) (by kernel_rfl) (by kernel_rfl)) rfl (by kernel_rfl) ?_ (tb := 4) (by kernel_rfl) Try.underlying4 ?_ ?_
  · intro t ht
    rw [Try.params7] at ht
    simp at ht
    rcases ht with rfl | rfl
    all_goals exact ⟨by kernel_rfl, of_decide_eq_true (by kernel_rfl)⟩
  · intro ds hds
    rw [Try.params7] at hds
    match ds, hds with
    | [d0, d1], _ => rfl
  · intro A hA
    rw [Try.params7] at hA
    match A, hA with
    | [a0, a1], hA =>
      obtain ⟨x0, rfl⟩ := arg_sl (ty := .issu) (b := 40) (by kernel_rfl) hA.1
      obtain ⟨x1, rfl⟩ := arg_st (ty := .issu) (fs := [(0, 31), (3, 3), (4, 3)]) (by kernel_rfl) hA.2.1
      have h := w_FnExactHasIssue_c x0 x1
      rw [t_FnExactHasIssue] at h
      exact h

theorem holds7 : Rows.FnExactHasIssueSaid :=
  OpenClaim.holds_of_wide 7 Try.f7 rfl rfl rfl rfl rfl rfl rfl ⟨rfl, rfl, rfl, rfl, rfl⟩ rfl rfl rfl rfl rfl (by kernel_rfl) Try.func7 (by kernel_rfl)
    (of_decide_eq_true (by kernel_rfl)) (by unfold Func.isWrapper; first | (rw [if_pos (by decide +kernel)]; kernel_rfl) | (rw [if_neg (by decide +kernel)]; exact ⟨rfl, rfl⟩))
    (fun os started H enc _ => lifted7 os started H enc)
end Go.Proofs.Ytjioppmfnejlnaa
