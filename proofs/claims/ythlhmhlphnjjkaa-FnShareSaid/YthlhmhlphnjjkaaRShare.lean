/-
  The law FnShare returns true for every input; each argument reads behind the call as it read before. No condition.
-/
import Derived.Test.YthlhmhlphnjjkaaD3
namespace Go.Proofs.Ythlhmhlphnjjkaa
open Go Go.RowKit

theorem con10 (x0 : List Int) : Con Try.prog 10 (pvs [.sc (.sl .u8)] (x0, ())) [rv (.sc .bool) [] true] := by
  have h := w_FnShare_c x0
  rw [t_FnShare x0] at h
  exact h

theorem lifted10 (os : Go.Os) (started : os.Started) (H : Type) (enc : TypeId × Value → H) :
    ReturnsInHanded {} Try.checked os 10 .any (Rows.fnShareSpec.pre6 enc Try.prog Try.f10 Rows.fnShareRow.domain false) (Rows.fnShareSpec.post enc Try.prog Try.f10 false true false false) := by
  refine row_of_con (C := Try.checked) teFact flFact loFact ownFact started (by kernel_rfl) Try.func10
    (ChangeSpec.witness6 (enc := enc) (C := Try.checked) false ⟨#[], #[.slice none 0 0], []⟩ 8 (by kernel_rfl) (by kernel_rfl) (by kernel_rfl) (by kernel_rfl)) rfl (by kernel_rfl) ?_ (tb := 4) (by kernel_rfl) Try.underlying4 ?_ ?_
  · intro t ht
    rw [Try.params10] at ht
    simp at ht
    subst ht
    all_goals exact ⟨by kernel_rfl, of_decide_eq_true (by kernel_rfl)⟩
  · intro ds hds
    rw [Try.params10] at hds
    have hds : ds.length = 1 := hds
    match ds, hds with
    | [d0], _ => rfl
  · intro A hA
    rw [Try.params10] at hA
    cases A with
    | nil => exact False.elim hA
    | cons a0 A =>
    cases A with
    | cons _ _ => exact False.elim hA.2
    | nil =>
      obtain ⟨x0, rfl⟩ := arg_sl (ty := .u8) (b := 1) (by kernel_rfl) hA.1
      exact con10 x0

theorem holds10 : Rows.FnShareSaid :=
  OpenClaim.holds_of_wide 10 Try.f10 rfl rfl rfl rfl rfl rfl rfl ⟨rfl, rfl, rfl, rfl, rfl⟩ rfl rfl rfl rfl rfl (by kernel_rfl) Try.func10 (by kernel_rfl)
    (of_decide_eq_true (by kernel_rfl)) (by unfold Func.isWrapper; first | (rw [if_pos (by decide +kernel)]; kernel_rfl) | (rw [if_neg (by decide +kernel)]; exact ⟨rfl, rfl⟩))
    (fun os started H enc _ => lifted10 os started H enc)
end Go.Proofs.Ythlhmhlphnjjkaa
