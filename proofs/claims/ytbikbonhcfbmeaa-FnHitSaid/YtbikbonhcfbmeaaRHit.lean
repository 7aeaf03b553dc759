/-
  The law FnHit returns true for every input; each argument reads behind the call as it read before. No condition.
-/
import Derived.Test.YtbikbonhcfbmeaaE3
namespace Go.Proofs.Ytbikbonhcfbmeaa
open Go Go.RowKit

theorem con4 (x0 : List Int) : Con Try.prog 4 (pvs [.sc (.sl .u8)] (x0, ())) [rv (.sc .bool) [] true] := by
  have h := w_FnHit_c x0
  rw [t_FnHit x0] at h
  exact h

theorem lifted4 (os : Go.Os) (started : os.Started) (H : Type) (enc : TypeId × Value → H) :
    ReturnsInHanded {} Try.checked os 4 .any (Rows.fnHitSpec.pre6 enc Try.prog Try.f4 Rows.fnHitRow.domain false) (Rows.fnHitSpec.post enc Try.prog Try.f4 false true false false) := by
  refine row_of_con (C := Try.checked) teFact flFact loFact ownFact started (by kernel_rfl) Try.func4
    (ChangeSpec.witness6 (enc := enc) (C := Try.checked) false ⟨#[], #[.slice none 0 0], []⟩ 8 (by kernel_rfl) (by kernel_rfl) (by kernel_rfl) (by kernel_rfl)) rfl (by kernel_rfl) ?_ (tb := 4) (by kernel_rfl) Try.underlying4 ?_ ?_
  · intro t ht
    rw [Try.params4] at ht
    simp at ht
    subst ht
    all_goals exact ⟨by kernel_rfl, of_decide_eq_true (by kernel_rfl)⟩
  · intro ds hds
    rw [Try.params4] at hds
    have hds : ds.length = 1 := hds
    match ds, hds with
    | [d0], _ => rfl
  · intro A hA
    rw [Try.params4] at hA
    cases A with
    | nil => exact False.elim hA
    | cons a0 A =>
    cases A with
    | cons _ _ => exact False.elim hA.2
    | nil =>
      obtain ⟨x0, rfl⟩ := arg_sl (ty := .u8) (b := 1) (by kernel_rfl) hA.1
      exact con4 x0

theorem holds4 : Rows.FnHitSaid :=
  OpenClaim.holds_of_wide 4 Try.f4 rfl rfl rfl rfl rfl rfl rfl ⟨rfl, rfl, rfl, rfl, rfl⟩ rfl rfl rfl rfl rfl (by kernel_rfl) Try.func4 (by kernel_rfl)
    (of_decide_eq_true (by kernel_rfl)) (by unfold Func.isWrapper; first | (rw [if_pos (by decide +kernel)]; kernel_rfl) | (rw [if_neg (by decide +kernel)]; exact ⟨rfl, rfl⟩))
    (fun os started H enc _ => lifted4 os started H enc)
end Go.Proofs.Ytbikbonhcfbmeaa
