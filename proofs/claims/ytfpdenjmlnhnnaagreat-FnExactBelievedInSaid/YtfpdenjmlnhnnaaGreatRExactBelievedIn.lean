/-
  The law FnExactBelievedIn returns true for every input; each argument reads behind the call as it read before. No condition.
-/
import Derived.Test.YtfpdenjmlnhnnaaGreatEJ4
namespace Go.Proofs.YtfpdenjmlnhnnaaGreat
open Go Go.RowKit

theorem aeE (x0 : Stac) (x1 : Acti) : II Tryz.prog 5 (Hr [.st .stac, .st .acti] (x0, x1, ())) [rv (.sc .bool) [] true] := by
  refine II.of_facts (EP Tryz.func5 rfl (by kernel_rfl)) λhf => ?_
  refine Ent1.con (e := xi) rfl ?_
  show Ot (dc True) (ko (kJ.f (x0, x1, ())) λv => some [rv (.sc .bool) [] v]) none = _
  rw [acT trivial, Ah x0 x1 (JK hf)]
  rfl

theorem aci (os : Go.Os) (started : os.Started) (H : Type) (enc : TypeId × Value → H) :
    ReturnsInHanded {} Tryz.checked os 5 .any (Rows.fnExactBelievedInSpec.pre6 enc Tryz.prog Tryz.f5 Rows.fnExactBelievedInRow.domain false) (Rows.fnExactBelievedInSpec.post enc Tryz.prog Tryz.f5 false true false false) := by
  refine UR (C := Tryz.checked) aaE adk adJ abn started (by kernel_rfl) Tryz.func5
    (ChangeSpec.witness6 (enc := enc) (C := Tryz.checked) false ⟨#[], #[.agg #[.int .i64 0, .int .i64 0, .slice none 0 0, .int .i64 0, .int .i64 0, .int .i64 0, .bool false, .int .u64 0, .int .u64 0, .slice none 0 0, .bool false, .int .u64 0, .int .u64 0, .slice none 0 0, .bool false, .int .i64 0, .int .i64 0, .int .i64 0, .int .i64 0, .slice none 0 0, .slice none 0 0, .slice none 0 0, .int .i64 0], .agg #[.int .i64 0, .int .i64 0, .int .i64 0, .int .i64 0, .int .i64 0, .string .empty, .bool false, .int .u64 0, .int .u64 0, .slice none 0 0]], []⟩ 8 (by kernel_rfl) (by kernel_rfl) (by kernel_rfl) (by kernel_rfl)) rfl (by kernel_rfl) ?_ (tb := 4) (by kernel_rfl) Tryz.underlying4 ?_ ?_
  · intro t ht
    rw [Tryz.params5] at ht
    simp at ht
    rcases ht with rfl | rfl
    all_goals exact ⟨by kernel_rfl, of_decide_eq_true (by kernel_rfl)⟩
  · intro ds hds
    rw [Tryz.params5] at hds
    have hds : ds.length = 2 := hds
    match ds, hds with
    | [d0, d1], _ => rfl
  · intro A hA
    rw [Tryz.params5] at hA
    cases A with
    | nil => exact False.elim hA
    | cons a0 A =>
    cases A with
    | nil => exact False.elim hA.2
    | cons a1 A =>
    cases A with
    | cons _ _ => exact False.elim hA.2.2
    | nil =>
      obtain ⟨x0, rfl⟩ := YY (ty := .stac) (fs := [(0, 95), (3, 108)]) (by kernel_rfl) hA.1
      obtain ⟨x1, rfl⟩ := YY (ty := .acti) (fs := [(0, 3), (1, 111), (4, 3), (5, 9), (6, 98)]) (by kernel_rfl) hA.2.1
      exact aeE x0 x1

theorem fJ {a b : Bool} (h : a = true) (g : b = true) : (a && b) = true := by rw [h, g]; rfl
set_option maxHeartbeats 0 in
theorem abR : joinedFacts Tryz.pinned.checked.prog 5 Tryz.f5 Rows.fnExactBelievedInSpec Rows.fnExactBelievedInRow = true := by
  unfold joinedFacts
  refine fJ (fJ (fJ (fJ (fJ (fJ (fJ (fJ (fJ (fJ (fJ (fJ (fJ (fJ (fJ (fJ (fJ (fJ (fJ (fJ (fJ (fJ (fJ (fJ (fJ (fJ (fJ (fJ (fJ (fJ (fJ ?_ ?_) ?_) ?_) ?_) ?_) ?_) ?_) ?_) ?_) ?_) ?_) ?_) ?_) ?_) ?_) ?_) ?_) ?_) ?_) ?_) ?_) ?_) ?_) ?_) ?_) ?_) ?_) ?_) ?_) ?_) ?_
  all_goals (as_aux_lemma => kernel_rfl)

theorem holds5 : Rows.FnExactBelievedInSaid :=
  OpenClaim.holds_of_wide 5 Tryz.f5 rfl rfl rfl rfl rfl rfl rfl ⟨rfl, rfl, rfl, rfl, rfl⟩ rfl rfl rfl rfl rfl (by as_aux_lemma => kernel_rfl) Tryz.func5 abR
    (of_decide_eq_true (by kernel_rfl)) (by unfold Func.isWrapper; first | (rw [if_pos (by decide +kernel)]; kernel_rfl) | (rw [if_neg (by decide +kernel)]; exact ⟨rfl, rfl⟩))
    (λos started H enc _ => aci os started H enc)
end Go.Proofs.YtfpdenjmlnhnnaaGreat
