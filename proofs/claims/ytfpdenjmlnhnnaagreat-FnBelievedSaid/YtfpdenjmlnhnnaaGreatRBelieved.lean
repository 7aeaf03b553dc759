/-
  The law FnBelieved returns true for every input; each argument reads behind the call as it read before. No condition.
-/
import Derived.Test.YtfpdenjmlnhnnaaGreatEK4
namespace Go.Proofs.YtfpdenjmlnhnnaaGreat
open Go Go.RowKit

theorem afR (x0 : List Int) : M4 Tryz.prog 3 (JY [.sc (.sl .u8)] (x0, ())) [rv (.sc .bool) [] true] := by
  refine Ent1.con (e := Jb) rfl ?_
  show Qt (dc True) (j5 (nu.f (x0, ())) λv => some [rv (.sc .bool) [] v]) none = _
  rw [adW trivial, Ry x0]
  rfl

theorem adz (os : Go.Os) (started : os.Started) (H : Type) (enc : TypeId × Value → H) :
    ReturnsInHanded {} Tryz.checked os 3 .any (Rows.fnBelievedSpec.pre6 enc Tryz.prog Tryz.f3 Rows.fnBelievedRow.domain false) (Rows.fnBelievedSpec.post enc Tryz.prog Tryz.f3 false true false false) := by
  refine WF (C := Tryz.checked) aaW aes ae9 adu started (by kernel_rfl) Tryz.func3
    (ChangeSpec.witness6 (enc := enc) (C := Tryz.checked) false ⟨#[], #[.slice none 0 0], []⟩ 8 (by kernel_rfl) (by kernel_rfl) (by kernel_rfl) (by kernel_rfl)) rfl (by kernel_rfl) ?_ (tb := 4) (by kernel_rfl) Tryz.underlying4 ?_ ?_
  · intro t ht
    rw [Tryz.params3] at ht
    simp at ht
    subst ht
    all_goals exact ⟨by kernel_rfl, of_decide_eq_true (by kernel_rfl)⟩
  · intro ds hds
    rw [Tryz.params3] at hds
    have hds : ds.length = 1 := hds
    match ds, hds with
    | [d0], _ => rfl
  · intro A hA
    rw [Tryz.params3] at hA
    cases A with
    | nil => exact False.elim hA
    | cons a0 A =>
    cases A with
    | cons _ _ => exact False.elim hA.2
    | nil =>
      obtain ⟨x0, rfl⟩ := aeC (ty := .u8) (b := 1) (by kernel_rfl) hA.1
      exact afR x0

theorem fT {a b : Bool} (h : a = true) (g : b = true) : (a && b) = true := by rw [h, g]; rfl
set_option maxHeartbeats 0 in
theorem ads : joinedFacts Tryz.pinned.checked.prog 3 Tryz.f3 Rows.fnBelievedSpec Rows.fnBelievedRow = true := by
  unfold joinedFacts
  refine fT (fT (fT (fT (fT (fT (fT (fT (fT (fT (fT (fT (fT (fT (fT (fT (fT (fT (fT (fT (fT (fT (fT (fT (fT (fT (fT (fT (fT (fT (fT ?_ ?_) ?_) ?_) ?_) ?_) ?_) ?_) ?_) ?_) ?_) ?_) ?_) ?_) ?_) ?_) ?_) ?_) ?_) ?_) ?_) ?_) ?_) ?_) ?_) ?_) ?_) ?_) ?_) ?_) ?_) ?_
  all_goals (as_aux_lemma => kernel_rfl)

theorem holds3 : Rows.FnBelievedSaid :=
  OpenClaim.holds_of_wide 3 Tryz.f3 rfl rfl rfl rfl rfl rfl rfl ⟨rfl, rfl, rfl, rfl, rfl⟩ rfl rfl rfl rfl rfl (by as_aux_lemma => kernel_rfl) Tryz.func3 ads
    (of_decide_eq_true (by kernel_rfl)) (by unfold Func.isWrapper; first | (rw [if_pos (by decide +kernel)]; kernel_rfl) | (rw [if_neg (by decide +kernel)]; exact ⟨rfl, rfl⟩))
    (λos started H enc _ => adz os started H enc)
end Go.Proofs.YtfpdenjmlnhnnaaGreat
