/-
  The law FnExactSameResult returns true for every input; each argument reads behind the call as it read before. No condition.
-/
import Derived.Test.YtjioppmfnejlnaaA1
namespace Go.Proofs.Ytjioppmfnejlnaa
open Go Go.RowKit

theorem lifted9 (os : Go.Os) (started : os.Started) (H : Type) (enc : TypeId × Value → H) :
    ReturnsInHanded {} Try.checked os 9 .any (Rows.fnExactSameResultSpec.pre6 enc Try.prog Try.f9 Rows.fnExactSameResultRow.domain false) (Rows.fnExactSameResultSpec.post enc Try.prog Try.f9 false true false false) := by
  refine row_of_con (C := Try.checked) teFact flFact loFact ownFact started (by kernel_rfl) Try.func9
    (ChangeSpec.witness6 (enc := enc) (C := Try.checked) false ⟨#[], #[.agg #[.slice none 0 0, .int .i64 0, .int .i64 0, .int .i64 0, .int .i64 0, .int .i64 0, .string .empty, .bool false], .agg #[.slice none 0 0, .int .i64 0, .int .i64 0, .int .i64 0, .int .i64 0, .int .i64 0, .string .empty, .bool false]], []⟩ 8 (by kernel_rfl) (by kernel_rfl) (by kernel_rfl) (by kernel_rfl)) rfl (by kernel_rfl) ?_ (tb := 4) (by kernel_rfl) Try.underlying4 ?_ ?_
  · intro t ht
    rw [Try.params9] at ht
    simp at ht
    rcases ht with rfl | rfl
    all_goals exact ⟨by kernel_rfl, of_decide_eq_true (by kernel_rfl)⟩
  · intro ds hds
    rw [Try.params9] at hds
    match ds, hds with
    | [d0, d1], _ => rfl
  · intro A hA
    rw [Try.params9] at hA
    match A, hA with
    | [a0, a1], hA =>
      obtain ⟨x0, rfl⟩ := arg_st (ty := .resu) (fs := [(0, 63), (1, 3), (2, 31), (5, 3), (6, 9), (7, 4)]) (by kernel_rfl) hA.1
      obtain ⟨x1, rfl⟩ := arg_st (ty := .resu) (fs := [(0, 63), (1, 3), (2, 31), (5, 3), (6, 9), (7, 4)]) (by kernel_rfl) hA.2.1
      have h := w_FnExactSameResult_c x0 x1
      rw [t_FnExactSameResult] at h
      exact h

theorem holds9 : Rows.FnExactSameResultSaid :=
  OpenClaim.holds_of_wide 9 Try.f9 rfl rfl rfl rfl rfl rfl rfl ⟨rfl, rfl, rfl, rfl, rfl⟩ rfl rfl rfl rfl rfl (by kernel_rfl) Try.func9 (by kernel_rfl)
    (of_decide_eq_true (by kernel_rfl)) (by unfold Func.isWrapper; first | (rw [if_pos (by decide +kernel)]; kernel_rfl) | (rw [if_neg (by decide +kernel)]; exact ⟨rfl, rfl⟩))
    (fun os started H enc _ => lifted9 os started H enc)
end Go.Proofs.Ytjioppmfnejlnaa
