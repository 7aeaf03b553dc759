/-
  The law FnExactTickStack returns true for every input; each argument reads behind the call as it read before. No condition.
-/
import Derived.Test.YtffjmkhjhchnmaaGreatET2
namespace Go.Proofs.YtffjmkhjhchnmaaGreat
open Go Go.RowKit

theorem Q6 (x0 : Stac) : zO Tryz.prog 4 (zV [.st .stac] (x0, ())) [rv (.sc .bool) [] true] := by
  refine zO.of_facts (t9 Tryz.func4 rfl (by kernel_rfl)) λhf => ?_
  refine Ent1.con (e := tn) rfl ?_
  show C6 (dc True) (jt (jo.f (x0, ())) λv => some [rv (.sc .bool) [] v]) none = _
  rw [KU trivial, vp x0 (wg hf)]
  rfl

theorem Ox (os : Go.Os) (started : os.Started) (H : Type) (enc : TypeId × Value → H) :
    ReturnsInHanded {} Tryz.checked os 4 .any (Rows.fnExactTickStackSpec.pre6 enc Tryz.prog Tryz.f4 Rows.fnExactTickStackRow.domain false) (Rows.fnExactTickStackSpec.post enc Tryz.prog Tryz.f4 false true false false) := by
  refine CB (C := Tryz.checked) J4 NV Nf Le started (by kernel_rfl) Tryz.func4
    (ChangeSpec.witness6 (enc := enc) (C := Tryz.checked) false ⟨#[], #[.agg #[.int .i64 0, .int .i64 0, .slice none 0 0, .int .i64 0, .int .i64 0, .int .i64 0, .bool false, .int .u64 0, .int .u64 0, .slice none 0 0, .bool false, .int .u64 0, .int .u64 0, .slice none 0 0, .bool false, .int .i64 0, .int .i64 0, .int .i64 0, .int .i64 0, .slice none 0 0, .slice none 0 0, .slice none 0 0, .int .i64 0]], []⟩ 8 (by kernel_rfl) (by kernel_rfl) (by kernel_rfl) (by kernel_rfl)) rfl (by kernel_rfl) ?_ (tb := 4) (by kernel_rfl) Tryz.underlying4 ?_ ?_
  · intro t ht
    rw [Tryz.params4] at ht
    simp at ht
    subst ht
    all_goals exact ⟨by kernel_rfl, of_decide_eq_true (by kernel_rfl)⟩
  · intro ds hds
    rw [Tryz.params4] at hds
    have hds : ds.length = 1 := hds
    match ds, hds with
    | [d0], _ => rfl
  · intro A hA
    rw [Tryz.params4] at hA
    cases A with
    | nil => exact False.elim hA
    | cons a0 A =>
    cases A with
    | cons _ _ => exact False.elim hA.2
    | nil =>
      obtain ⟨x0, rfl⟩ := NJ (ty := .stac) (fs := [(0, 62), (3, 36)]) (by kernel_rfl) hA.1
      exact Q6 x0

theorem bc {a b : Bool} (h : a = true) (g : b = true) : (a && b) = true := by rw [h, g]; rfl
set_option maxHeartbeats 0 in
theorem O1 : joinedFacts Tryz.pinned.checked.prog 4 Tryz.f4 Rows.fnExactTickStackSpec Rows.fnExactTickStackRow = true := by
  unfold joinedFacts
  refine bc (bc (bc (bc (bc (bc (bc (bc (bc (bc (bc (bc (bc (bc (bc (bc (bc (bc (bc (bc (bc (bc (bc (bc (bc (bc (bc (bc (bc (bc (bc ?_ ?_) ?_) ?_) ?_) ?_) ?_) ?_) ?_) ?_) ?_) ?_) ?_) ?_) ?_) ?_) ?_) ?_) ?_) ?_) ?_) ?_) ?_) ?_) ?_) ?_) ?_) ?_) ?_) ?_) ?_) ?_
  all_goals (as_aux_lemma => kernel_rfl)

theorem holds4 : Rows.FnExactTickStackSaid :=
  OpenClaim.holds_of_wide 4 Tryz.f4 rfl rfl rfl rfl rfl rfl rfl ⟨rfl, rfl, rfl, rfl, rfl⟩ rfl rfl rfl rfl rfl (by as_aux_lemma => kernel_rfl) Tryz.func4 O1
    (of_decide_eq_true (by kernel_rfl)) (by unfold Func.isWrapper; first | (rw [if_pos (by decide +kernel)]; kernel_rfl) | (rw [if_neg (by decide +kernel)]; exact ⟨rfl, rfl⟩))
    (λos started H enc _ => Ox os started H enc)
end Go.Proofs.YtffjmkhjhchnmaaGreat
