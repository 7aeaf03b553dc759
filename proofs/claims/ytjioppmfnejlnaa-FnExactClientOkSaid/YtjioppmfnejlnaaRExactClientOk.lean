/-
  The law FnExactClientOk returns true for every input; each argument reads behind the call as it read before. No condition.
-/
import Derived.Test.YtjioppmfnejlnaaA1
namespace Go.Proofs.Ytjioppmfnejlnaa
open Go Go.RowKit

theorem lifted5 (os : Go.Os) (started : os.Started) (H : Type) (enc : TypeId × Value → H) :
    ReturnsInHanded {} Try.checked os 5 .any (Rows.fnExactClientOkSpec.pre6 enc Try.prog Try.f5 Rows.fnExactClientOkRow.domain false) (Rows.fnExactClientOkSpec.post enc Try.prog Try.f5 false true false false) := by
  refine row_of_con (C := Try.checked) teFact flFact loFact ownFact started (by kernel_rfl) Try.func5
    (ChangeSpec.witness6 (enc := enc) (C := Try.checked) false ⟨#[], #[.agg #[.int .i64 0, .int .i64 0, .int .i64 0, .int .i64 0, .int .i64 0, .int .i64 0, .bool false, .bool false, .int .i64 0, .int .i64 0, .int .i64 0]], []⟩ 8 (by kernel_rfl) (by kernel_rfl) (by kernel_rfl) (by kernel_rfl)) rfl (by kernel_rfl) ?_ (tb := 4) (by kernel_rfl) Try.underlying4 ?_ ?_
  · intro t ht
    rw [Try.params5] at ht
    simp at ht
    subst ht
    all_goals exact ⟨by kernel_rfl, of_decide_eq_true (by kernel_rfl)⟩
  · intro ds hds
    rw [Try.params5] at hds
    match ds, hds with
    | [d0], _ => rfl
  · intro A hA
    rw [Try.params5] at hA
    match A, hA with
    | [a0], hA =>
      obtain ⟨x0, rfl⟩ := arg_st (ty := .clie) (fs := [(0, 31), (3, 3), (4, 33), (10, 3)]) (by kernel_rfl) hA.1
      have h := w_FnExactClientOk_c x0
      rw [t_FnExactClientOk] at h
      exact h

theorem holds5 : Rows.FnExactClientOkSaid :=
  OpenClaim.holds_of_wide 5 Try.f5 rfl rfl rfl rfl rfl rfl rfl ⟨rfl, rfl, rfl, rfl, rfl⟩ rfl rfl rfl rfl rfl (by kernel_rfl) Try.func5 (by kernel_rfl)
    (of_decide_eq_true (by kernel_rfl)) (by unfold Func.isWrapper; first | (rw [if_pos (by decide +kernel)]; kernel_rfl) | (rw [if_neg (by decide +kernel)]; exact ⟨rfl, rfl⟩))
    (fun os started H enc _ => lifted5 os started H enc)
end Go.Proofs.Ytjioppmfnejlnaa
