/-
  The law FnExactReplyTo returns true for every input; each argument reads behind the call as it read before. No condition.
-/
import Derived.Test.YtjioppmfnejlnaaA1
namespace Go.Proofs.Ytjioppmfnejlnaa
open Go Go.RowKit

theorem lifted10 (os : Go.Os) (started : os.Started) (H : Type) (enc : TypeId × Value → H) :
    ReturnsInHanded {} Try.checked os 10 .any (Rows.fnExactReplyToSpec.pre6 enc Try.prog Try.f10 Rows.fnExactReplyToRow.domain false) (Rows.fnExactReplyToSpec.post enc Try.prog Try.f10 false true false false) := by
  refine row_of_con (C := Try.checked) teFact flFact loFact ownFact started (by kernel_rfl) Try.func10
    (ChangeSpec.witness6 (enc := enc) (C := Try.checked) false ⟨#[], #[.agg #[.int .i64 0, .int .i64 0, .int .i64 0, .int .i64 0, .int .i64 0, .int .i64 0, .bool false, .bool false, .int .i64 0, .int .i64 0, .int .i64 0], .agg #[.int .i64 0, .int .i64 0, .int .i64 0, .int .i64 0, .int .i64 0, .int .i64 0, .int .i64 0, .int .i64 0, .bool false, .bool false, .int .i64 0, .int .i64 0, .string .empty]], []⟩ 8 (by kernel_rfl) (by kernel_rfl) (by kernel_rfl) (by kernel_rfl)) rfl (by kernel_rfl) ?_ (tb := 4) (by kernel_rfl) Try.underlying4 ?_ ?_
  · intro t ht
    rw [Try.params10] at ht
    simp at ht
    rcases ht with rfl | rfl
    all_goals exact ⟨by kernel_rfl, of_decide_eq_true (by kernel_rfl)⟩
  · intro ds hds
    rw [Try.params10] at hds
    match ds, hds with
    | [d0, d1], _ => rfl
  · intro A hA
    rw [Try.params10] at hA
    match A, hA with
    | [a0, a1], hA =>
      obtain ⟨x0, rfl⟩ := arg_st (ty := .clie) (fs := [(0, 31), (3, 3), (4, 33), (10, 3)]) (by kernel_rfl) hA.1
      obtain ⟨x1, rfl⟩ := arg_st (ty := .segm) (fs := [(0, 3), (1, 3), (2, 3), (3, 3), (4, 3), (5, 3), (6, 33), (12, 9)]) (by kernel_rfl) hA.2.1
      have h := w_FnExactReplyTo_c x0 x1
      rw [t_FnExactReplyTo] at h
      exact h

theorem holds10 : Rows.FnExactReplyToSaid :=
  OpenClaim.holds_of_wide 10 Try.f10 rfl rfl rfl rfl rfl rfl rfl ⟨rfl, rfl, rfl, rfl, rfl⟩ rfl rfl rfl rfl rfl (by kernel_rfl) Try.func10 (by kernel_rfl)
    (of_decide_eq_true (by kernel_rfl)) (by unfold Func.isWrapper; first | (rw [if_pos (by decide +kernel)]; kernel_rfl) | (rw [if_neg (by decide +kernel)]; exact ⟨rfl, rfl⟩))
    (fun os started H enc _ => lifted10 os started H enc)
end Go.Proofs.Ytjioppmfnejlnaa
