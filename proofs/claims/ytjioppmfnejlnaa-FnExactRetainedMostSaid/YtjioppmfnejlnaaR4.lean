/-
  The law FnExactRetainedMost returns true for every input; each argument reads behind the call as it read before. No condition.
-/
import Derived.Test.YtjioppmfnejlnaaA1
namespace Go.Proofs.Ytjioppmfnejlnaa
open Go Go.RowKit

theorem tr4 (x0 : Limi) : n4 x0 = true := by
  unfold n4
  rw [show n19 = n17 from rfl]
  simp

theorem lifted4 (os : Os) (started : os.Started) (H : Type) (enc : TypeId × Value → H) :
    ReturnsInHanded {} Try.checked os 4 .any (Rows.fnExactRetainedMostSpec.pre6 enc Try.prog Try.f4 Rows.fnExactRetainedMostRow.domain false) (Rows.fnExactRetainedMostSpec.post enc Try.prog Try.f4 false true false false) := by
  refine row_of_con (C := Try.checked) teFact flFact loFact ownFact started (by kernel_rfl) Try.func4
    (ChangeSpec.witness6 (enc := enc) (C := Try.checked) false ⟨#[], #[.agg #[.int .i64 0, .int .i64 0, .int .i64 0, .int .i64 0]], []⟩ 8 (by kernel_rfl) (by kernel_rfl) (by kernel_rfl) (by kernel_rfl)) rfl (by kernel_rfl) ?_ (tb := 4) (by kernel_rfl) Try.underlying4 ?_ ?_
  · intro t ht
    rw [Try.params4] at ht
    simp at ht
    subst ht
    all_goals exact ⟨by kernel_rfl, of_decide_eq_true (by kernel_rfl)⟩
  · intro ds hds
    rw [Try.params4] at hds
    match ds, hds with
    | [d0], _ => rfl
  · intro A hA
    rw [Try.params4] at hA
    match A, hA with
    | [a0], hA =>
      obtain ⟨x0, rfl⟩ := arg_st (ty := .limi) (fs := [(0, 3), (1, 3), (2, 3), (3, 3)]) (by kernel_rfl) hA.1
      have := c4 x0
      rw [tr4] at this
      exact this

theorem holds4 : Rows.FnExactRetainedMostSaid :=
  OpenClaim.holds_of_wide 4 Try.f4 rfl rfl rfl rfl rfl rfl rfl ⟨rfl, rfl, rfl, rfl, rfl⟩ rfl rfl rfl rfl rfl (by kernel_rfl) Try.func4 (by kernel_rfl)
    (of_decide_eq_true (by kernel_rfl)) (by unfold Func.isWrapper; first | (rw [if_pos (by decide +kernel)]; kernel_rfl) | (rw [if_neg (by decide +kernel)]; exact ⟨rfl, rfl⟩))
    (fun os started H enc _ => lifted4 os started H enc)
end Go.Proofs.Ytjioppmfnejlnaa
