/-
  The law FnExactShareOf returns true for every input; each argument reads behind the call as it read before. No condition.
-/
import Derived.Test.YthlhmhlphnjjkaaB3
namespace Go.Proofs.Ythlhmhlphnjjkaa
open Go Go.RowKit

theorem con8 (x0 : Int) (x1 : List Issu) (x2 : Int) : Con Try.prog 8 (pvs [.sc (.int .i64), .sc (.sl .issu), .sc (.int .i64)] (x0, x1, x2, ())) [rv (.sc .bool) [] true] := by
  have h := w_FnExactShareOf_c x0 x1 x2
  rw [t_FnExactShareOf x0 x1 x2] at h
  exact h

theorem lifted8 (os : Go.Os) (started : os.Started) (H : Type) (enc : TypeId × Value → H) :
    ReturnsInHanded {} Try.checked os 8 .any (Rows.fnExactShareOfSpec.pre6 enc Try.prog Try.f8 Rows.fnExactShareOfRow.domain false) (Rows.fnExactShareOfSpec.post enc Try.prog Try.f8 false true false false) := by
  refine row_of_con (C := Try.checked) teFact flFact loFact ownFact started (by kernel_rfl) Try.func8
    (ChangeSpec.witness6 (enc := enc) (C := Try.checked) false ⟨#[], #[.int .i64 0, .slice none 0 0, .int .i64 0], []⟩ 8 (by kernel_rfl) (by kernel_rfl) (by kernel_rfl) (by kernel_rfl)) rfl (by kernel_rfl) ?_ (tb := 4) (by kernel_rfl) Try.underlying4 ?_ ?_
  · intro t ht
    rw [Try.params8] at ht
    simp at ht
    rcases ht with rfl | rfl | rfl
    all_goals exact ⟨by kernel_rfl, of_decide_eq_true (by kernel_rfl)⟩
  · intro ds hds
    rw [Try.params8] at hds
    have hds : ds.length = 3 := hds
    match ds, hds with
    | [d0, d1, d2], _ => rfl
  · intro A hA
    rw [Try.params8] at hA
    cases A with
    | nil => exact False.elim hA
    | cons a0 A =>
    cases A with
    | nil => exact False.elim hA.2
    | cons a1 A =>
    cases A with
    | nil => exact False.elim hA.2.2
    | cons a2 A =>
    cases A with
    | cons _ _ => exact False.elim hA.2.2.2
    | nil =>
      obtain ⟨x0, rfl⟩ := arg_sc (f := (.int .i64)) (by kernel_rfl) hA.1
      obtain ⟨x1, rfl⟩ := arg_sl (ty := .issu) (b := 40) (by kernel_rfl) hA.2.1
      obtain ⟨x2, rfl⟩ := arg_sc (f := (.int .i64)) (by kernel_rfl) hA.2.2.1
      exact con8 x0 x1 x2

theorem holds8 : Rows.FnExactShareOfSaid :=
  OpenClaim.holds_of_wide 8 Try.f8 rfl rfl rfl rfl rfl rfl rfl ⟨rfl, rfl, rfl, rfl, rfl⟩ rfl rfl rfl rfl rfl (by kernel_rfl) Try.func8 (by kernel_rfl)
    (of_decide_eq_true (by kernel_rfl)) (by unfold Func.isWrapper; first | (rw [if_pos (by decide +kernel)]; kernel_rfl) | (rw [if_neg (by decide +kernel)]; exact ⟨rfl, rfl⟩))
    (fun os started H enc _ => lifted8 os started H enc)
end Go.Proofs.Ythlhmhlphnjjkaa
