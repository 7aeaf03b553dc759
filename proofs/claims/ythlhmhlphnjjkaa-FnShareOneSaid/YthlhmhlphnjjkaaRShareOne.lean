/-
  The law FnShareOne returns true for every input; each argument reads behind the call as it read before. No condition.
-/
import Derived.Test.YthlhmhlphnjjkaaD3
namespace Go.Proofs.Ythlhmhlphnjjkaa
open Go Go.RowKit

theorem con11 (x0 : List Int) : Con Try.prog 11 (pvs [.sc (.sl .u8)] (x0, ())) [rv (.sc .bool) [] true] := by
  have h := w_FnShareOne_c x0
  rw [t_FnShareOne x0] at h
  exact h

theorem lifted11 (os : Go.Os) (started : os.Started) (H : Type) (enc : TypeId × Value → H) :
    ReturnsInHanded {} Try.checked os 11 .any (Rows.fnShareOneSpec.pre6 enc Try.prog Try.f11 Rows.fnShareOneRow.domain false) (Rows.fnShareOneSpec.post enc Try.prog Try.f11 false true false false) := by
  refine row_of_con (C := Try.checked) teFact flFact loFact ownFact started (by kernel_rfl) Try.func11
    (ChangeSpec.witness6 (enc := enc) (C := Try.checked) false ⟨#[], #[.slice none 0 0], []⟩ 8 (by kernel_rfl) (by kernel_rfl) (by kernel_rfl) (by kernel_rfl)) rfl (by kernel_rfl) ?_ (tb := 4) (by kernel_rfl) Try.underlying4 ?_ ?_
  · intro t ht
    rw [Try.params11] at ht
    simp at ht
    subst ht
    all_goals exact ⟨by kernel_rfl, of_decide_eq_true (by kernel_rfl)⟩
  · intro ds hds
    rw [Try.params11] at hds
    have hds : ds.length = 1 := hds
    match ds, hds with
    | [d0], _ => rfl
  · intro A hA
    rw [Try.params11] at hA
    cases A with
    | nil => exact False.elim hA
    | cons a0 A =>
    cases A with
    | cons _ _ => exact False.elim hA.2
    | nil =>
      obtain ⟨x0, rfl⟩ := arg_sl (ty := .u8) (b := 1) (by kernel_rfl) hA.1
      exact con11 x0

theorem holds11 : Rows.FnShareOneSaid :=
  OpenClaim.holds_of_wide 11 Try.f11 rfl rfl rfl rfl rfl rfl rfl ⟨rfl, rfl, rfl, rfl, rfl⟩ rfl rfl rfl rfl rfl (by kernel_rfl) Try.func11 (by kernel_rfl)
    (of_decide_eq_true (by kernel_rfl)) (by unfold Func.isWrapper; first | (rw [if_pos (by decide +kernel)]; kernel_rfl) | (rw [if_neg (by decide +kernel)]; exact ⟨rfl, rfl⟩))
    (fun os started H enc _ => lifted11 os started H enc)
end Go.Proofs.Ythlhmhlphnjjkaa
