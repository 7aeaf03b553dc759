/-
  The law FnExactKnock returns true for every input; each argument reads behind the call as it read before. No condition.
-/
import Derived.Test.YtjioppmfnejlnaaA1
namespace Go.Proofs.Ytjioppmfnejlnaa
open Go Go.RowKit

theorem eqSeg (x : Segm) : n25 x x = true := by
  simp [n25, n35]
theorem tr6 (x0 : Clie) : n6 x0 = true := by
  unfold n6
  rw [show n24 = n23 from rfl, eqSeg]
  rfl

theorem lifted6 (os : Os) (started : os.Started) (H : Type) (enc : TypeId × Value → H) :
    ReturnsInHanded {} Try.checked os 6 .any (Rows.fnExactKnockSpec.pre6 enc Try.prog Try.f6 Rows.fnExactKnockRow.domain false) (Rows.fnExactKnockSpec.post enc Try.prog Try.f6 false true false false) := by
  refine row_of_con (C := Try.checked) teFact flFact loFact ownFact started (by kernel_rfl) Try.func6
    (ChangeSpec.witness6 (enc := enc) (C := Try.checked) false ⟨#[], #[.agg #[.int .i64 0, .int .i64 0, .int .i64 0, .int .i64 0, .int .i64 0, .int .i64 0, .bool false, .bool false, .int .i64 0, .int .i64 0, .int .i64 0]], []⟩ 8 (by kernel_rfl) (by kernel_rfl) (by kernel_rfl) (by kernel_rfl)) rfl (by kernel_rfl) ?_ (tb := 4) (by kernel_rfl) Try.underlying4 ?_ ?_
  · intro t ht
    rw [Try.params6] at ht
    simp at ht
    subst ht
    all_goals exact ⟨by kernel_rfl, of_decide_eq_true (by kernel_rfl)⟩
  · intro ds hds
    rw [Try.params6] at hds
    match ds, hds with
    | [d0], _ => rfl
  · intro A hA
    rw [Try.params6] at hA
    match A, hA with
    | [a0], hA =>
      obtain ⟨x0, rfl⟩ := arg_st (ty := .clie) (fs := [(0, 31), (3, 3), (4, 33), (10, 3)]) (by kernel_rfl) hA.1
      have := c6 x0
      rw [tr6] at this
      exact this

theorem holds6 : Rows.FnExactKnockSaid :=
  OpenClaim.holds_of_wide 6 Try.f6 rfl rfl rfl rfl rfl rfl rfl ⟨rfl, rfl, rfl, rfl, rfl⟩ rfl rfl rfl rfl rfl (by kernel_rfl) Try.func6 (by kernel_rfl)
    (of_decide_eq_true (by kernel_rfl)) (by unfold Func.isWrapper; first | (rw [if_pos (by decide +kernel)]; kernel_rfl) | (rw [if_neg (by decide +kernel)]; exact ⟨rfl, rfl⟩))
    (fun os started H enc _ => lifted6 os started H enc)
end Go.Proofs.Ytjioppmfnejlnaa
