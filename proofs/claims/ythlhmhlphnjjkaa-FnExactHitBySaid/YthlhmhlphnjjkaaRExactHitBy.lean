/-
  The law FnExactHitBy returns true for every input; each argument reads behind the call as it read before. No condition.
-/
import Derived.Test.YthlhmhlphnjjkaaB3
namespace Go.Proofs.Ythlhmhlphnjjkaa
open Go Go.RowKit

theorem con9 (x0 : Keys) (x1 : List Issu) : Con Try.prog 9 (pvs [.st .keys, .sc (.sl .issu)] (x0, x1, ())) [rv (.sc .bool) [] true] := by
  have h := w_FnExactHitBy_c x0 x1
  rw [t_FnExactHitBy x0 x1] at h
  exact h

theorem lifted9 (os : Go.Os) (started : os.Started) (H : Type) (enc : TypeId × Value → H) :
    ReturnsInHanded {} Try.checked os 9 .any (Rows.fnExactHitBySpec.pre6 enc Try.prog Try.f9 Rows.fnExactHitByRow.domain false) (Rows.fnExactHitBySpec.post enc Try.prog Try.f9 false true false false) := by
  refine row_of_con (C := Try.checked) teFact flFact loFact ownFact started (by kernel_rfl) Try.func9
    (ChangeSpec.witness6 (enc := enc) (C := Try.checked) false ⟨#[], #[.agg #[.int .i64 0, .bool false, .int .u64 0, .int .u64 0, .slice none 0 0, .bool false, .int .u64 0, .int .u64 0, .slice none 0 0, .bool false], .slice none 0 0], []⟩ 8 (by kernel_rfl) (by kernel_rfl) (by kernel_rfl) (by kernel_rfl)) rfl (by kernel_rfl) ?_ (tb := 4) (by kernel_rfl) Try.underlying4 ?_ ?_
  · intro t ht
    rw [Try.params9] at ht
    simp at ht
    rcases ht with rfl | rfl
    all_goals exact ⟨by kernel_rfl, of_decide_eq_true (by kernel_rfl)⟩
  · intro ds hds
    rw [Try.params9] at hds
    have hds : ds.length = 2 := hds
    match ds, hds with
    | [d0, d1], _ => rfl
  · intro A hA
    rw [Try.params9] at hA
    cases A with
    | nil => exact False.elim hA
    | cons a0 A =>
    cases A with
    | nil => exact False.elim hA.2
    | cons a1 A =>
    cases A with
    | cons _ _ => exact False.elim hA.2.2
    | nil =>
      obtain ⟨x0, rfl⟩ := arg_st (ty := .keys) (fs := [(0, 3), (1, 57), (5, 57), (9, 4)]) (by kernel_rfl) hA.1
      obtain ⟨x1, rfl⟩ := arg_sl (ty := .issu) (b := 40) (by kernel_rfl) hA.2.1
      exact con9 x0 x1

theorem holds9 : Rows.FnExactHitBySaid :=
  OpenClaim.holds_of_wide 9 Try.f9 rfl rfl rfl rfl rfl rfl rfl ⟨rfl, rfl, rfl, rfl, rfl⟩ rfl rfl rfl rfl rfl (by kernel_rfl) Try.func9 (by kernel_rfl)
    (of_decide_eq_true (by kernel_rfl)) (by unfold Func.isWrapper; first | (rw [if_pos (by decide +kernel)]; kernel_rfl) | (rw [if_neg (by decide +kernel)]; exact ⟨rfl, rfl⟩))
    (fun os started H enc _ => lifted9 os started H enc)
end Go.Proofs.Ythlhmhlphnjjkaa
