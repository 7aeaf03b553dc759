/-
  The law FnExactAssigned returns true for every input; each argument reads behind the call as it read before. No condition.
-/
import Derived.Test.YthlhmhlphnjjkaaA3
namespace Go.Proofs.Ythlhmhlphnjjkaa
open Go Go.RowKit

theorem con3 (x0 : List Bytes) (x1 : Int) (x2 : Int) : Con Try.prog 3 (pvs [.sc (.sl .str), .sc (.int .i64), .sc (.int .i64)] (x0, x1, x2, ())) [rv (.sc .bool) [] true] := by
  have h := w_FnExactAssigned_c x0 x1 x2
  refine Con.of_facts (enters_of Try.func3 rfl (by kernel_rfl)) fun hf => ?_
  replace hf := factAt hf
  rw [t_FnExactAssigned x0 x1 x2 ((hf 0 0 rfl rfl).len)] at h
  exact h

theorem lifted3 (os : Go.Os) (started : os.Started) (H : Type) (enc : TypeId × Value → H) :
    ReturnsInHanded {} Try.checked os 3 .any (Rows.fnExactAssignedSpec.pre6 enc Try.prog Try.f3 Rows.fnExactAssignedRow.domain false) (Rows.fnExactAssignedSpec.post enc Try.prog Try.f3 false true false false) := by
  refine row_of_con (C := Try.checked) teFact flFact loFact ownFact started (by kernel_rfl) Try.func3
    (ChangeSpec.witness6 (enc := enc) (C := Try.checked) false ⟨#[], #[.slice none 0 0, .int .i64 0, .int .i64 0], []⟩ 8 (by kernel_rfl) (by kernel_rfl) (by kernel_rfl) (by kernel_rfl)) rfl (by kernel_rfl) ?_ (tb := 4) (by kernel_rfl) Try.underlying4 ?_ ?_
  · intro t ht
    rw [Try.params3] at ht
    simp at ht
    rcases ht with rfl | rfl | rfl
    all_goals exact ⟨by kernel_rfl, of_decide_eq_true (by kernel_rfl)⟩
  · intro ds hds
    rw [Try.params3] at hds
    have hds : ds.length = 3 := hds
    match ds, hds with
    | [d0, d1, d2], _ => rfl
  · intro A hA
    rw [Try.params3] at hA
    cases A with
    | nil => exact False.elim hA
    | cons a0 A =>
    cases A with
    | nil => exact False.elim hA.2
    | cons a1 A =>
    cases A with
    | nil => exact False.elim hA.2.2
    | cons a2 A =>
    cases A with
    | cons _ _ => exact False.elim hA.2.2.2
    | nil =>
      obtain ⟨x0, rfl⟩ := arg_sl (ty := .str) (b := 16) (by kernel_rfl) hA.1
      obtain ⟨x1, rfl⟩ := arg_sc (f := (.int .i64)) (by kernel_rfl) hA.2.1
      obtain ⟨x2, rfl⟩ := arg_sc (f := (.int .i64)) (by kernel_rfl) hA.2.2.1
      exact con3 x0 x1 x2

theorem holds3 : Rows.FnExactAssignedSaid :=
  OpenClaim.holds_of_wide 3 Try.f3 rfl rfl rfl rfl rfl rfl rfl ⟨rfl, rfl, rfl, rfl, rfl⟩ rfl rfl rfl rfl rfl (by kernel_rfl) Try.func3 (by kernel_rfl)
    (of_decide_eq_true (by kernel_rfl)) (by unfold Func.isWrapper; first | (rw [if_pos (by decide +kernel)]; kernel_rfl) | (rw [if_neg (by decide +kernel)]; exact ⟨rfl, rfl⟩))
    (fun os started H enc _ => lifted3 os started H enc)
end Go.Proofs.Ythlhmhlphnjjkaa
