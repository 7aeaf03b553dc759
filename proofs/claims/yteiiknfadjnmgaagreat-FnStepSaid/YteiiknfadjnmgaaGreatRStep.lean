/-
  The law FnStep returns true for every input; each argument reads behind the call as it read before. No condition.
-/
import Derived.Test.YteiiknfadjnmgaaGreatEK4
namespace Go.Proofs.YteiiknfadjnmgaaGreat
open Go Go.RowKit

theorem agz (x0 : List Int) : Jk Tryz.prog 3 (ID [.sc (.sl .u8)] (x0, ())) [rv (.sc .bool) [] true] := by
  refine Ent1.con (e := W0) rfl ?_
  show OW (dc True) (iz (u4.f (x0, ())) λv => some [rv (.sc .bool) [] v]) none = _
  rw [ZC trivial, acL x0]
  rfl

theorem adz (os : Go.Os) (started : os.Started) (H : Type) (enc : TypeId × Value → H) :
    ReturnsInHanded {} Tryz.checked os 3 .any (Rows.fnStepSpec.pre6 enc Tryz.prog Tryz.f3 Rows.fnStepRow.domain false) (Rows.fnStepSpec.post enc Tryz.prog Tryz.f3 false true false false) := by
  refine Cf (C := Tryz.checked) RA X6 Ym Sk started (by kernel_rfl) Tryz.func3
    (ChangeSpec.witness6 (enc := enc) (C := Tryz.checked) false ⟨#[], #[.slice none 0 0], []⟩ 8 (by kernel_rfl) (by kernel_rfl) (by kernel_rfl) (by kernel_rfl)) rfl (by kernel_rfl) ?_ (tb := 4) (by kernel_rfl) Tryz.underlying4 ?_ ?_
  · intro t ht
    rw [Tryz.params3] at ht
    simp at ht
    subst ht
    all_goals exact ⟨by kernel_rfl, of_decide_eq_true (by kernel_rfl)⟩
  · intro ds hds
    rw [Tryz.params3] at hds
    have hds : ds.length = 1 := hds
    match ds, hds with
    | [d0], _ => rfl
  · intro A hA
    rw [Tryz.params3] at hA
    cases A with
    | nil => exact False.elim hA
    | cons a0 A =>
    cases A with
    | cons _ _ => exact False.elim hA.2
    | nil =>
      obtain ⟨x0, rfl⟩ := X3 (ty := .u8) (b := 1) (by kernel_rfl) hA.1
      exact agz x0

theorem aU {a b : Bool} (h : a = true) (g : b = true) : (a && b) = true := by rw [h, g]; rfl
set_option maxHeartbeats 0 in
theorem adW : joinedFacts Tryz.pinned.checked.prog 3 Tryz.f3 Rows.fnStepSpec Rows.fnStepRow = true := by
  unfold joinedFacts
  refine aU (aU (aU (aU (aU (aU (aU (aU (aU (aU (aU (aU (aU (aU (aU (aU (aU (aU (aU (aU (aU (aU (aU (aU (aU (aU (aU (aU (aU (aU (aU ?_ ?_) ?_) ?_) ?_) ?_) ?_) ?_) ?_) ?_) ?_) ?_) ?_) ?_) ?_) ?_) ?_) ?_) ?_) ?_) ?_) ?_) ?_) ?_) ?_) ?_) ?_) ?_) ?_) ?_) ?_) ?_
  all_goals (as_aux_lemma => kernel_rfl)

theorem holds3 : Rows.FnStepSaid :=
  OpenClaim.holds_of_wide 3 Tryz.f3 rfl rfl rfl rfl rfl rfl rfl ⟨rfl, rfl, rfl, rfl, rfl⟩ rfl rfl rfl rfl rfl (by as_aux_lemma => kernel_rfl) Tryz.func3 adW
    (of_decide_eq_true (by kernel_rfl)) (by unfold Func.isWrapper; first | (rw [if_pos (by decide +kernel)]; kernel_rfl) | (rw [if_neg (by decide +kernel)]; exact ⟨rfl, rfl⟩))
    (λos started H enc _ => adz os started H enc)
end Go.Proofs.YteiiknfadjnmgaaGreat
