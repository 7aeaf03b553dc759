/-
  The law FnExactSameStack returns true for every input; each argument reads behind the call as it read before. No condition.
-/
import Derived.Test.YtbikbonhcfbmeaaB2
namespace Go.Proofs.Ytbikbonhcfbmeaa
open Go Go.RowKit

theorem con6 (x0 : Stac) (x1 : Stac) : Con Try.prog 6 (pvs [.st .stac, .st .stac] (x0, x1, ())) [rv (.sc .bool) [] true] := by
  have h := w_FnExactSameStack_c x0 x1
  rw [t_FnExactSameStack x0 x1] at h
  exact h

theorem lifted6 (os : Go.Os) (started : os.Started) (H : Type) (enc : TypeId × Value → H) :
    ReturnsInHanded {} Try.checked os 6 .any (Rows.fnExactSameStackSpec.pre6 enc Try.prog Try.f6 Rows.fnExactSameStackRow.domain false) (Rows.fnExactSameStackSpec.post enc Try.prog Try.f6 false true false false) := by
  refine row_of_con (C := Try.checked) teFact flFact loFact ownFact started (by kernel_rfl) Try.func6
    (ChangeSpec.witness6 (enc := enc) (C := Try.checked) false ⟨#[], #[.agg #[.int .i64 0, .int .i64 0, .slice none 0 0, .int .i64 0, .int .i64 0, .int .i64 0, .bool false, .int .u64 0, .int .u64 0, .slice none 0 0, .bool false, .int .u64 0, .int .u64 0, .slice none 0 0, .bool false, .int .i64 0, .int .i64 0, .int .i64 0, .int .i64 0, .slice none 0 0, .slice none 0 0, .slice none 0 0, .int .i64 0], .agg #[.int .i64 0, .int .i64 0, .slice none 0 0, .int .i64 0, .int .i64 0, .int .i64 0, .bool false, .int .u64 0, .int .u64 0, .slice none 0 0, .bool false, .int .u64 0, .int .u64 0, .slice none 0 0, .bool false, .int .i64 0, .int .i64 0, .int .i64 0, .int .i64 0, .slice none 0 0, .slice none 0 0, .slice none 0 0, .int .i64 0]], []⟩ 8 (by kernel_rfl) (by kernel_rfl) (by kernel_rfl) (by kernel_rfl)) rfl (by kernel_rfl) ?_ (tb := 4) (by kernel_rfl) Try.underlying4 ?_ ?_
  · intro t ht
    rw [Try.params6] at ht
    simp at ht
    rcases ht with rfl | rfl
    all_goals exact ⟨by kernel_rfl, of_decide_eq_true (by kernel_rfl)⟩
  · intro ds hds
    rw [Try.params6] at hds
    have hds : ds.length = 2 := hds
    match ds, hds with
    | [d0, d1], _ => rfl
  · intro A hA
    rw [Try.params6] at hA
    cases A with
    | nil => exact False.elim hA
    | cons a0 A =>
    cases A with
    | nil => exact False.elim hA.2
    | cons a1 A =>
    cases A with
    | cons _ _ => exact False.elim hA.2.2
    | nil =>
      obtain ⟨x0, rfl⟩ := arg_st (ty := .stac) (fs := [(0, 80), (3, 64)]) (by kernel_rfl) hA.1
      obtain ⟨x1, rfl⟩ := arg_st (ty := .stac) (fs := [(0, 80), (3, 64)]) (by kernel_rfl) hA.2.1
      exact con6 x0 x1

theorem holds6 : Rows.FnExactSameStackSaid :=
  OpenClaim.holds_of_wide 6 Try.f6 rfl rfl rfl rfl rfl rfl rfl ⟨rfl, rfl, rfl, rfl, rfl⟩ rfl rfl rfl rfl rfl (by kernel_rfl) Try.func6 (by kernel_rfl)
    (of_decide_eq_true (by kernel_rfl)) (by unfold Func.isWrapper; first | (rw [if_pos (by decide +kernel)]; kernel_rfl) | (rw [if_neg (by decide +kernel)]; exact ⟨rfl, rfl⟩))
    (fun os started H enc _ => lifted6 os started H enc)
end Go.Proofs.Ytbikbonhcfbmeaa
