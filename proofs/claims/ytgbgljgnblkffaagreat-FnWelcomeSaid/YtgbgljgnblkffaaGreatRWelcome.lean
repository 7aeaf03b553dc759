/-
  The law FnWelcome returns true for every input; each argument reads behind the call as it read before. No condition.
-/
import Derived.Test.YtgbgljgnblkffaaGreatEW4
namespace Go.Proofs.YtgbgljgnblkffaaGreat
open Go Go.RowKit

theorem aar (x0 : List Int) : Jx Tryz.prog 4 (Jy [.sc (.sl .u8)] (x0, ())) [rv (.sc .bool) [] true] := by
  refine Ent1.con (e := Km) rfl ?_
  show KT (dc True) (bu (oa.f (x0, ())) λv => some [rv (.sc .bool) [] v]) none = _
  rw [Xi trivial, PL x0]
  rfl

theorem Yi (os : Go.Os) (started : os.Started) (H : Type) (enc : TypeId × Value → H) :
    ReturnsInHanded {} Tryz.checked os 4 .any (Rows.fnWelcomeSpec.pre6 enc Tryz.prog Tryz.f4 Rows.fnWelcomeRow.domain false) (Rows.fnWelcomeSpec.post enc Tryz.prog Tryz.f4 false true false false) := by
  refine IZ (C := Tryz.checked) SS Xf WV T6 started (by kernel_rfl) Tryz.func4
    (ChangeSpec.witness6 (enc := enc) (C := Tryz.checked) false ⟨#[], #[.slice none 0 0], []⟩ 8 (by kernel_rfl) (by kernel_rfl) (by kernel_rfl) (by kernel_rfl)) rfl (by kernel_rfl) ?_ (tb := 4) (by kernel_rfl) Tryz.underlying4 ?_ ?_
  · intro t ht
    rw [Tryz.params4] at ht
    simp at ht
    subst ht
    all_goals exact ⟨by kernel_rfl, of_decide_eq_true (by kernel_rfl)⟩
  · intro ds hds
    rw [Tryz.params4] at hds
    have hds : ds.length = 1 := hds
    match ds, hds with
    | [d0], _ => rfl
  · intro A hA
    rw [Tryz.params4] at hA
    cases A with
    | nil => exact False.elim hA
    | cons a0 A =>
    cases A with
    | cons _ _ => exact False.elim hA.2
    | nil =>
      obtain ⟨x0, rfl⟩ := Zm (ty := .u8) (b := 1) (by kernel_rfl) hA.1
      exact aar x0

theorem br {a b : Bool} (h : a = true) (g : b = true) : (a && b) = true := by rw [h, g]; rfl
set_option maxHeartbeats 0 in
theorem Yl : joinedFacts Tryz.pinned.checked.prog 4 Tryz.f4 Rows.fnWelcomeSpec Rows.fnWelcomeRow = true := by
  unfold joinedFacts
  refine br (br (br (br (br (br (br (br (br (br (br (br (br (br (br (br (br (br (br (br (br (br (br (br (br (br (br (br (br (br (br ?_ ?_) ?_) ?_) ?_) ?_) ?_) ?_) ?_) ?_) ?_) ?_) ?_) ?_) ?_) ?_) ?_) ?_) ?_) ?_) ?_) ?_) ?_) ?_) ?_) ?_) ?_) ?_) ?_) ?_) ?_) ?_
  all_goals (as_aux_lemma => kernel_rfl)

theorem holds4 : Rows.FnWelcomeSaid :=
  OpenClaim.holds_of_wide 4 Tryz.f4 rfl rfl rfl rfl rfl rfl rfl ⟨rfl, rfl, rfl, rfl, rfl⟩ rfl rfl rfl rfl rfl (by as_aux_lemma => kernel_rfl) Tryz.func4 Yl
    (of_decide_eq_true (by kernel_rfl)) (by unfold Func.isWrapper; first | (rw [if_pos (by decide +kernel)]; kernel_rfl) | (rw [if_neg (by decide +kernel)]; exact ⟨rfl, rfl⟩))
    (λos started H enc _ => Yi os started H enc)
end Go.Proofs.YtgbgljgnblkffaaGreat
