/-
  The law FnAnswered returns true for every input; each argument reads behind the call as it read before. No condition.
-/
import Derived.Test.YtgbgljgnblkffaaGreatEJ4
namespace Go.Proofs.YtgbgljgnblkffaaGreat
open Go Go.RowKit

theorem adO (x0 : List Int) : Im Tryz.prog 6 (Mq [.sc (.sl .u8)] (x0, ())) [rv (.sc .bool) [] true] := by
  refine Ent1.con (e := Lh) rfl ?_
  show N1 (dc True) (bo (kI.f (x0, ())) λv => some [rv (.sc .bool) [] v]) none = _
  rw [ZG trivial, Q0 x0]
  rfl

theorem aa0 (os : Go.Os) (started : os.Started) (H : Type) (enc : TypeId × Value → H) :
    ReturnsInHanded {} Tryz.checked os 6 .any (Rows.fnAnsweredSpec.pre6 enc Tryz.prog Tryz.f6 Rows.fnAnsweredRow.domain false) (Rows.fnAnsweredSpec.post enc Tryz.prog Tryz.f6 false true false false) := by
  refine Ld (C := Tryz.checked) V4 Zp aaa Xl started (by kernel_rfl) Tryz.func6
    (ChangeSpec.witness6 (enc := enc) (C := Tryz.checked) false ⟨#[], #[.slice none 0 0], []⟩ 8 (by kernel_rfl) (by kernel_rfl) (by kernel_rfl) (by kernel_rfl)) rfl (by kernel_rfl) ?_ (tb := 4) (by kernel_rfl) Tryz.underlying4 ?_ ?_
  · intro t ht
    rw [Tryz.params6] at ht
    simp at ht
    subst ht
    all_goals exact ⟨by kernel_rfl, of_decide_eq_true (by kernel_rfl)⟩
  · intro ds hds
    rw [Tryz.params6] at hds
    have hds : ds.length = 1 := hds
    match ds, hds with
    | [d0], _ => rfl
  · intro A hA
    rw [Tryz.params6] at hA
    cases A with
    | nil => exact False.elim hA
    | cons a0 A =>
    cases A with
    | cons _ _ => exact False.elim hA.2
    | nil =>
      obtain ⟨x0, rfl⟩ := aan (ty := .u8) (b := 1) (by kernel_rfl) hA.1
      exact adO x0

theorem bD {a b : Bool} (h : a = true) (g : b = true) : (a && b) = true := by rw [h, g]; rfl
set_option maxHeartbeats 0 in
theorem aba : joinedFacts Tryz.pinned.checked.prog 6 Tryz.f6 Rows.fnAnsweredSpec Rows.fnAnsweredRow = true := by
  unfold joinedFacts
  refine bD (bD (bD (bD (bD (bD (bD (bD (bD (bD (bD (bD (bD (bD (bD (bD (bD (bD (bD (bD (bD (bD (bD (bD (bD (bD (bD (bD (bD (bD (bD ?_ ?_) ?_) ?_) ?_) ?_) ?_) ?_) ?_) ?_) ?_) ?_) ?_) ?_) ?_) ?_) ?_) ?_) ?_) ?_) ?_) ?_) ?_) ?_) ?_) ?_) ?_) ?_) ?_) ?_) ?_) ?_
  all_goals (as_aux_lemma => kernel_rfl)

theorem holds6 : Rows.FnAnsweredSaid :=
  OpenClaim.holds_of_wide 6 Tryz.f6 rfl rfl rfl rfl rfl rfl rfl ⟨rfl, rfl, rfl, rfl, rfl⟩ rfl rfl rfl rfl rfl (by as_aux_lemma => kernel_rfl) Tryz.func6 aba
    (of_decide_eq_true (by kernel_rfl)) (by unfold Func.isWrapper; first | (rw [if_pos (by decide +kernel)]; kernel_rfl) | (rw [if_neg (by decide +kernel)]; exact ⟨rfl, rfl⟩))
    (λos started H enc _ => aa0 os started H enc)
end Go.Proofs.YtgbgljgnblkffaaGreat
