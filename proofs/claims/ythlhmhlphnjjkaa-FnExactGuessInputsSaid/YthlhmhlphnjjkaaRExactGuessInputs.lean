/-
  The law FnExactGuessInputs returns true for every input; each argument reads behind the call as it read before. No condition.
-/
import Derived.Test.YthlhmhlphnjjkaaA3
namespace Go.Proofs.Ythlhmhlphnjjkaa
open Go Go.RowKit

theorem con6 (x0 : Int) (x1 : List Issu) : Con Try.prog 6 (pvs [.sc (.int .i64), .sc (.sl .issu)] (x0, x1, ())) [rv (.sc .bool) [] true] := by
  have h := w_FnExactGuessInputs_c x0 x1
  refine Con.of_facts (enters_of Try.func6 rfl (by kernel_rfl)) fun hf => ?_
  replace hf := factAt hf
  rw [t_FnExactGuessInputs x0 x1 ((hf 1 0 rfl rfl).len)] at h
  exact h

theorem lifted6 (os : Go.Os) (started : os.Started) (H : Type) (enc : TypeId × Value → H) :
    ReturnsInHanded {} Try.checked os 6 .any (Rows.fnExactGuessInputsSpec.pre6 enc Try.prog Try.f6 Rows.fnExactGuessInputsRow.domain false) (Rows.fnExactGuessInputsSpec.post enc Try.prog Try.f6 false true false false) := by
  refine row_of_con (C := Try.checked) teFact flFact loFact ownFact started (by kernel_rfl) Try.func6
    (ChangeSpec.witness6 (enc := enc) (C := Try.checked) false ⟨#[], #[.int .i64 0, .slice none 0 0], []⟩ 8 (by kernel_rfl) (by kernel_rfl) (by kernel_rfl) (by kernel_rfl)) rfl (by kernel_rfl) ?_ (tb := 4) (by kernel_rfl) Try.underlying4 ?_ ?_
  · intro t ht
    rw [Try.params6] at ht
    simp at ht
    rcases ht with rfl | rfl
    all_goals exact ⟨by kernel_rfl, of_decide_eq_true (by kernel_rfl)⟩
  · intro ds hds
    rw [Try.params6] at hds
    have hds : ds.length = 2 := hds
    match ds, hds with
    | [d0, d1], _ => rfl
  · intro A hA
    rw [Try.params6] at hA
    cases A with
    | nil => exact False.elim hA
    | cons a0 A =>
    cases A with
    | nil => exact False.elim hA.2
    | cons a1 A =>
    cases A with
    | cons _ _ => exact False.elim hA.2.2
    | nil =>
      obtain ⟨x0, rfl⟩ := arg_sc (f := (.int .i64)) (by kernel_rfl) hA.1
      obtain ⟨x1, rfl⟩ := arg_sl (ty := .issu) (b := 40) (by kernel_rfl) hA.2.1
      exact con6 x0 x1

theorem holds6 : Rows.FnExactGuessInputsSaid :=
  OpenClaim.holds_of_wide 6 Try.f6 rfl rfl rfl rfl rfl rfl rfl ⟨rfl, rfl, rfl, rfl, rfl⟩ rfl rfl rfl rfl rfl (by kernel_rfl) Try.func6 (by kernel_rfl)
    (of_decide_eq_true (by kernel_rfl)) (by unfold Func.isWrapper; first | (rw [if_pos (by decide +kernel)]; kernel_rfl) | (rw [if_neg (by decide +kernel)]; exact ⟨rfl, rfl⟩))
    (fun os started H enc _ => lifted6 os started H enc)
end Go.Proofs.Ythlhmhlphnjjkaa
