/-
  The law FnExactStackOk returns true for every input; each argument reads behind the call as it read before. No condition.
-/
import Derived.Test.YtnpmemmhiifbgaaGreatA4
namespace Go.Proofs.YtnpmemmhiifbgaaGreat
open Go Go.RowKit

theorem con3 (x0 : Stac) : Con Tryz.prog 3 (pvs [.st .stac] (x0, ())) [rv (.sc .bool) [] true] := by
  have h := w_FnExactStackOk_c x0
  refine Con.of_facts (enters_of Tryz.func3 rfl (by kernel_rfl)) fun hf => ?_
  replace hf := factAt hf
  rw [t_FnExactStackOk x0 (fun y hy => (hf 0 20 rfl rfl).elem hy)] at h
  exact h

theorem lifted3 (os : Go.Os) (started : os.Started) (H : Type) (enc : TypeId × Value → H) :
    ReturnsInHanded {} Tryz.checked os 3 .any (Rows.fnExactStackOkSpec.pre6 enc Tryz.prog Tryz.f3 Rows.fnExactStackOkRow.domain false) (Rows.fnExactStackOkSpec.post enc Tryz.prog Tryz.f3 false true false false) := by
  refine row_of_con (C := Tryz.checked) teFact flFact loFact ownFact started (by kernel_rfl) Tryz.func3
    (ChangeSpec.witness6 (enc := enc) (C := Tryz.checked) false ⟨#[], #[.agg #[.int .i64 0, .int .i64 0, .slice none 0 0, .int .i64 0, .int .i64 0, .int .i64 0, .bool false, .int .u64 0, .int .u64 0, .slice none 0 0, .bool false, .int .u64 0, .int .u64 0, .slice none 0 0, .bool false, .int .i64 0, .int .i64 0, .int .i64 0, .int .i64 0, .slice none 0 0, .slice none 0 0, .slice none 0 0, .int .i64 0]], []⟩ 8 (by kernel_rfl) (by kernel_rfl) (by kernel_rfl) (by kernel_rfl)) rfl (by kernel_rfl) ?_ (tb := 4) (by kernel_rfl) Tryz.underlying4 ?_ ?_
  · intro t ht
    rw [Tryz.params3] at ht
    simp at ht
    subst ht
    all_goals exact ⟨by kernel_rfl, of_decide_eq_true (by kernel_rfl)⟩
  · intro ds hds
    rw [Tryz.params3] at hds
    have hds : ds.length = 1 := hds
    match ds, hds with
    | [d0], _ => rfl
  · intro A hA
    rw [Tryz.params3] at hA
    cases A with
    | nil => exact False.elim hA
    | cons a0 A =>
    cases A with
    | cons _ _ => exact False.elim hA.2
    | nil =>
      obtain ⟨x0, rfl⟩ := arg_st (ty := .stac) (fs := [(0, 24), (3, 39)]) (by kernel_rfl) hA.1
      exact con3 x0

theorem holds3 : Rows.FnExactStackOkSaid :=
  OpenClaim.holds_of_wide 3 Tryz.f3 rfl rfl rfl rfl rfl rfl rfl ⟨rfl, rfl, rfl, rfl, rfl⟩ rfl rfl rfl rfl rfl (by kernel_rfl) Tryz.func3 (by kernel_rfl)
    (of_decide_eq_true (by kernel_rfl)) (by unfold Func.isWrapper; first | (rw [if_pos (by decide +kernel)]; kernel_rfl) | (rw [if_neg (by decide +kernel)]; exact ⟨rfl, rfl⟩))
    (fun os started H enc _ => lifted3 os started H enc)
end Go.Proofs.YtnpmemmhiifbgaaGreat
