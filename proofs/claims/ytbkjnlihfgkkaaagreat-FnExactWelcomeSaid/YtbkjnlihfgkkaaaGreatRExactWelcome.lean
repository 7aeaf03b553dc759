/-
  The law FnExactWelcome returns true for every input; each argument reads behind the call as it read before. No condition.
-/
import Derived.Test.YtbkjnlihfgkkaaaGreatES3
namespace Go.Proofs.YtbkjnlihfgkkaaaGreat
open Go Go.RowKit

theorem Xm (x0 : Door) (x1 : Clie) (x2 : List Mac) : Bn Tryz.prog 9 (CD [.st .door, .st .clie, .sc (.sl .mac)] (x0, x1, x2, ())) [rv (.sc .bool) [] true] := by
  refine Bn.of_facts (oW Tryz.func9 rfl (by kernel_rfl)) λhf => ?_
  refine Ent1.con (e := yw) rfl ?_
  show GO (dc True) (iq (m9.f (x0, x1, x2, ())) λv => some [rv (.sc .bool) [] v]) none = _
  rw [LF trivial, AQ x0 x1 x2 (ry hf)]
  rfl

theorem UX (os : Go.Os) (started : os.Started) (H : Type) (enc : TypeId × Value → H) :
    ReturnsInHanded {} Tryz.checked os 9 .any (Rows.fnExactWelcomeSpec.pre6 enc Tryz.prog Tryz.f9 Rows.fnExactWelcomeRow.domain false) (Rows.fnExactWelcomeSpec.post enc Tryz.prog Tryz.f9 false true false false) := by
  refine sE (C := Tryz.checked) Ff Kt Kg DU started (by kernel_rfl) Tryz.func9
    (ChangeSpec.witness6 (enc := enc) (C := Tryz.checked) false ⟨#[], #[.agg #[.int .i64 0, .int .i64 0, .int .i64 0, .bool false, .int .u64 0, .int .u64 0, .slice none 0 0, .bool false, .int .u64 0, .int .u64 0, .slice none 0 0, .bool false, .int .i64 0, .int .i64 0, .int .i64 0, .int .i64 0, .slice none 0 0, .slice none 0 0, .slice none 0 0, .int .i64 0], .agg #[.int .i64 0, .int .i64 0, .int .i64 0, .int .i64 0, .int .i64 0, .int .i64 0, .bool false, .bool false, .int .i64 0, .int .i64 0, .int .i64 0], .slice none 0 0], []⟩ 8 (by kernel_rfl) (by kernel_rfl) (by kernel_rfl) (by kernel_rfl)) rfl (by kernel_rfl) ?_ (tb := 4) (by kernel_rfl) Tryz.underlying4 ?_ ?_
  · intro t ht
    rw [Tryz.params9] at ht
    simp at ht
    rcases ht with rfl | rfl | rfl
    all_goals exact ⟨by kernel_rfl, of_decide_eq_true (by kernel_rfl)⟩
  · intro ds hds
    rw [Tryz.params9] at hds
    have hds : ds.length = 3 := hds
    match ds, hds with
    | [d0, d1, d2], _ => rfl
  · intro A hA
    rw [Tryz.params9] at hA
    cases A with
    | nil => exact False.elim hA
    | cons a0 A =>
    cases A with
    | nil => exact False.elim hA.2
    | cons a1 A =>
    cases A with
    | nil => exact False.elim hA.2.2
    | cons a2 A =>
    cases A with
    | cons _ _ => exact False.elim hA.2.2.2
    | nil =>
      obtain ⟨x0, rfl⟩ := rf (ty := .door) (fs := [(0, 3), (1, 3), (2, 27), (12, 29), (16, 30), (17, 34), (19, 3)]) (by kernel_rfl) hA.1
      obtain ⟨x1, rfl⟩ := rf (ty := .clie) (fs := [(0, 67), (3, 3), (4, 92), (10, 3)]) (by kernel_rfl) hA.2.1
      obtain ⟨x2, rfl⟩ := VY (ty := .mac) (b := 48) (by kernel_rfl) hA.2.2.1
      exact Xm x0 x1 x2

theorem ao {a b : Bool} (h : a = true) (g : b = true) : (a && b) = true := by rw [h, g]; rfl
set_option maxHeartbeats 0 in
theorem Uv : joinedFacts Tryz.pinned.checked.prog 9 Tryz.f9 Rows.fnExactWelcomeSpec Rows.fnExactWelcomeRow = true := by
  unfold joinedFacts
  refine ao (ao (ao (ao (ao (ao (ao (ao (ao (ao (ao (ao (ao (ao (ao (ao (ao (ao (ao (ao (ao (ao (ao (ao (ao (ao (ao (ao (ao (ao (ao ?_ ?_) ?_) ?_) ?_) ?_) ?_) ?_) ?_) ?_) ?_) ?_) ?_) ?_) ?_) ?_) ?_) ?_) ?_) ?_) ?_) ?_) ?_) ?_) ?_) ?_) ?_) ?_) ?_) ?_) ?_) ?_
  all_goals (as_aux_lemma => kernel_rfl)

theorem holds9 : Rows.FnExactWelcomeSaid :=
  OpenClaim.holds_of_wide 9 Tryz.f9 rfl rfl rfl rfl rfl rfl rfl ⟨rfl, rfl, rfl, rfl, rfl⟩ rfl rfl rfl rfl rfl (by as_aux_lemma => kernel_rfl) Tryz.func9 Uv
    (of_decide_eq_true (by kernel_rfl)) (by unfold Func.isWrapper; first | (rw [if_pos (by decide +kernel)]; kernel_rfl) | (rw [if_neg (by decide +kernel)]; exact ⟨rfl, rfl⟩))
    (λos started H enc _ => UX os started H enc)
end Go.Proofs.YtbkjnlihfgkkaaaGreat
