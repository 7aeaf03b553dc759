/-
  The law FnExactSegIn returns true for every input; each argument reads behind the call as it read before. No condition.
-/
import Derived.Test.YtbkjnlihfgkkaaaGreatES3
namespace Go.Proofs.YtbkjnlihfgkkaaaGreat
open Go Go.RowKit

theorem Xl (x0 : Door) (x1 : Int) (x2 : Segm) : Bn Tryz.prog 7 (CD [.st .door, .sc (.int .i64), .st .segm] (x0, x1, x2, ())) [rv (.sc .bool) [] true] := by
  refine Bn.of_facts (oW Tryz.func7 rfl (by kernel_rfl)) λhf => ?_
  refine Ent1.con (e := Bz) rfl ?_
  show GO (dc True) (iq (pB.f (x0, x1, x2, ())) λv => some [rv (.sc .bool) [] v]) none = _
  rw [LF trivial, FJ x0 x1 x2 (ry hf)]
  rfl

theorem UQ (os : Go.Os) (started : os.Started) (H : Type) (enc : TypeId × Value → H) :
    ReturnsInHanded {} Tryz.checked os 7 .any (Rows.fnExactSegInSpec.pre6 enc Tryz.prog Tryz.f7 Rows.fnExactSegInRow.domain false) (Rows.fnExactSegInSpec.post enc Tryz.prog Tryz.f7 false true false false) := by
  refine sE (C := Tryz.checked) Ff Kt Kg DU started (by kernel_rfl) Tryz.func7
    (ChangeSpec.witness6 (enc := enc) (C := Tryz.checked) false ⟨#[], #[.agg #[.int .i64 0, .int .i64 0, .int .i64 0, .bool false, .int .u64 0, .int .u64 0, .slice none 0 0, .bool false, .int .u64 0, .int .u64 0, .slice none 0 0, .bool false, .int .i64 0, .int .i64 0, .int .i64 0, .int .i64 0, .slice none 0 0, .slice none 0 0, .slice none 0 0, .int .i64 0], .int .i64 0, .agg #[.int .i64 0, .int .i64 0, .int .i64 0, .int .i64 0, .int .i64 0, .int .i64 0, .int .i64 0, .int .i64 0, .bool false, .bool false, .int .i64 0, .int .i64 0, .string .empty]], []⟩ 8 (by kernel_rfl) (by kernel_rfl) (by kernel_rfl) (by kernel_rfl)) rfl (by kernel_rfl) ?_ (tb := 4) (by kernel_rfl) Tryz.underlying4 ?_ ?_
  · intro t ht
    rw [Tryz.params7] at ht
    simp at ht
    rcases ht with rfl | rfl | rfl
    all_goals exact ⟨by kernel_rfl, of_decide_eq_true (by kernel_rfl)⟩
  · intro ds hds
    rw [Tryz.params7] at hds
    have hds : ds.length = 3 := hds
    match ds, hds with
    | [d0, d1, d2], _ => rfl
  · intro A hA
    rw [Tryz.params7] at hA
    cases A with
    | nil => exact False.elim hA
    | cons a0 A =>
    cases A with
    | nil => exact False.elim hA.2
    | cons a1 A =>
    cases A with
    | nil => exact False.elim hA.2.2
    | cons a2 A =>
    cases A with
    | cons _ _ => exact False.elim hA.2.2.2
    | nil =>
      obtain ⟨x0, rfl⟩ := rf (ty := .door) (fs := [(0, 3), (1, 3), (2, 27), (12, 29), (16, 30), (17, 34), (19, 3)]) (by kernel_rfl) hA.1
      obtain ⟨x1, rfl⟩ := Wp (f := (.int .i64)) (by kernel_rfl) hA.2.1
      obtain ⟨x2, rfl⟩ := rf (ty := .segm) (fs := [(0, 3), (1, 3), (2, 3), (3, 3), (4, 3), (5, 3), (6, 92), (12, 9)]) (by kernel_rfl) hA.2.2.1
      exact Xl x0 x1 x2

theorem ao {a b : Bool} (h : a = true) (g : b = true) : (a && b) = true := by rw [h, g]; rfl
set_option maxHeartbeats 0 in
theorem Uj : joinedFacts Tryz.pinned.checked.prog 7 Tryz.f7 Rows.fnExactSegInSpec Rows.fnExactSegInRow = true := by
  unfold joinedFacts
  refine ao (ao (ao (ao (ao (ao (ao (ao (ao (ao (ao (ao (ao (ao (ao (ao (ao (ao (ao (ao (ao (ao (ao (ao (ao (ao (ao (ao (ao (ao (ao ?_ ?_) ?_) ?_) ?_) ?_) ?_) ?_) ?_) ?_) ?_) ?_) ?_) ?_) ?_) ?_) ?_) ?_) ?_) ?_) ?_) ?_) ?_) ?_) ?_) ?_) ?_) ?_) ?_) ?_) ?_) ?_
  all_goals (as_aux_lemma => kernel_rfl)

theorem holds7 : Rows.FnExactSegInSaid :=
  OpenClaim.holds_of_wide 7 Tryz.f7 rfl rfl rfl rfl rfl rfl rfl ⟨rfl, rfl, rfl, rfl, rfl⟩ rfl rfl rfl rfl rfl (by as_aux_lemma => kernel_rfl) Tryz.func7 Uj
    (of_decide_eq_true (by kernel_rfl)) (by unfold Func.isWrapper; first | (rw [if_pos (by decide +kernel)]; kernel_rfl) | (rw [if_neg (by decide +kernel)]; exact ⟨rfl, rfl⟩))
    (λos started H enc _ => UQ os started H enc)
end Go.Proofs.YtbkjnlihfgkkaaaGreat
