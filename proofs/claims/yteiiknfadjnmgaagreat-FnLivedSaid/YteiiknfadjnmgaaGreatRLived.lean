/-
  The law FnLived returns true for every input; each argument reads behind the call as it read before. No condition.
-/
import Derived.Test.YteiiknfadjnmgaaGreatEK4
namespace Go.Proofs.YteiiknfadjnmgaaGreat
open Go Go.RowKit

theorem agu (x0 : List Int) : Jk Tryz.prog 5 (ID [.sc (.sl .u8)] (x0, ())) [rv (.sc .bool) [] true] := by
  refine Ent1.con (e := Wj) rfl ?_
  show OW (dc True) (iz (vL.f (x0, ())) λv => some [rv (.sc .bool) [] v]) none = _
  rw [ZC trivial, aaN x0]
  rfl

theorem adC (os : Go.Os) (started : os.Started) (H : Type) (enc : TypeId × Value → H) :
    ReturnsInHanded {} Tryz.checked os 5 .any (Rows.fnLivedSpec.pre6 enc Tryz.prog Tryz.f5 Rows.fnLivedRow.domain false) (Rows.fnLivedSpec.post enc Tryz.prog Tryz.f5 false true false false) := by
  refine Cf (C := Tryz.checked) RA X6 Ym Sk started (by kernel_rfl) Tryz.func5
    (ChangeSpec.witness6 (enc := enc) (C := Tryz.checked) false ⟨#[], #[.slice none 0 0], []⟩ 8 (by kernel_rfl) (by kernel_rfl) (by kernel_rfl) (by kernel_rfl)) rfl (by kernel_rfl) ?_ (tb := 4) (by kernel_rfl) Tryz.underlying4 ?_ ?_
  · intro t ht
    rw [Tryz.params5] at ht
    simp at ht
    subst ht
    all_goals exact ⟨by kernel_rfl, of_decide_eq_true (by kernel_rfl)⟩
  · intro ds hds
    rw [Tryz.params5] at hds
    have hds : ds.length = 1 := hds
    match ds, hds with
    | [d0], _ => rfl
  · intro A hA
    rw [Tryz.params5] at hA
    cases A with
    | nil => exact False.elim hA
    | cons a0 A =>
    cases A with
    | cons _ _ => exact False.elim hA.2
    | nil =>
      obtain ⟨x0, rfl⟩ := X3 (ty := .u8) (b := 1) (by kernel_rfl) hA.1
      exact agu x0

theorem aU {a b : Bool} (h : a = true) (g : b = true) : (a && b) = true := by rw [h, g]; rfl
set_option maxHeartbeats 0 in
theorem adK : joinedFacts Tryz.pinned.checked.prog 5 Tryz.f5 Rows.fnLivedSpec Rows.fnLivedRow = true := by
  unfold joinedFacts
  refine aU (aU (aU (aU (aU (aU (aU (aU (aU (aU (aU (aU (aU (aU (aU (aU (aU (aU (aU (aU (aU (aU (aU (aU (aU (aU (aU (aU (aU (aU (aU ?_ ?_) ?_) ?_) ?_) ?_) ?_) ?_) ?_) ?_) ?_) ?_) ?_) ?_) ?_) ?_) ?_) ?_) ?_) ?_) ?_) ?_) ?_) ?_) ?_) ?_) ?_) ?_) ?_) ?_) ?_) ?_
  all_goals (as_aux_lemma => kernel_rfl)

theorem holds5 : Rows.FnLivedSaid :=
  OpenClaim.holds_of_wide 5 Tryz.f5 rfl rfl rfl rfl rfl rfl rfl ⟨rfl, rfl, rfl, rfl, rfl⟩ rfl rfl rfl rfl rfl (by as_aux_lemma => kernel_rfl) Tryz.func5 adK
    (of_decide_eq_true (by kernel_rfl)) (by unfold Func.isWrapper; first | (rw [if_pos (by decide +kernel)]; kernel_rfl) | (rw [if_neg (by decide +kernel)]; exact ⟨rfl, rfl⟩))
    (λos started H enc _ => adC os started H enc)
end Go.Proofs.YteiiknfadjnmgaaGreat
