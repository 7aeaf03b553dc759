/-
  The law FnExactIssuedIn returns true for every input; each argument reads behind the call as it read before. No condition.
-/
import Derived.Test.YtbkjnlihfgkkaaaGreatEI1
namespace Go.Proofs.YtbkjnlihfgkkaaaGreat
open Go Go.RowKit

theorem DP (x0 : Stac) (x1 : Resu) : CH Tryz.prog 4 (vO [.st .stac, .st .resu] (x0, x1, ())) [rv (.sc .bool) [] true] := by
  refine CH.of_facts (oe Tryz.func4 rfl (by kernel_rfl)) λhf => ?_
  refine Ent1.con (e := lF) rfl ?_
  show uW (dc True) (jd (fe.f (x0, x1, ())) λv => some [rv (.sc .bool) [] v]) none = _
  rw [Ce trivial, ny x0 x1 (qq hf)]
  rfl

theorem Bp (os : Go.Os) (started : os.Started) (H : Type) (enc : TypeId × Value → H) :
    ReturnsInHanded {} Tryz.checked os 4 .any (Rows.fnExactIssuedInSpec.pre6 enc Tryz.prog Tryz.f4 Rows.fnExactIssuedInRow.domain false) (Rows.fnExactIssuedInSpec.post enc Tryz.prog Tryz.f4 false true false false) := by
  refine xL (C := Tryz.checked) A0 Cu Cv BP started (by kernel_rfl) Tryz.func4
    (ChangeSpec.witness6 (enc := enc) (C := Tryz.checked) false ⟨#[], #[.agg #[.int .i64 0, .int .i64 0, .slice none 0 0, .int .i64 0, .int .i64 0, .int .i64 0, .bool false, .int .u64 0, .int .u64 0, .slice none 0 0, .bool false, .int .u64 0, .int .u64 0, .slice none 0 0, .bool false, .int .i64 0, .int .i64 0, .int .i64 0, .int .i64 0, .slice none 0 0, .slice none 0 0, .slice none 0 0, .int .i64 0], .agg #[.slice none 0 0, .int .i64 0, .int .i64 0, .int .i64 0, .int .i64 0, .int .i64 0, .string .empty, .bool false]], []⟩ 8 (by kernel_rfl) (by kernel_rfl) (by kernel_rfl) (by kernel_rfl)) rfl (by kernel_rfl) ?_ (tb := 4) (by kernel_rfl) Tryz.underlying4 ?_ ?_
  · intro t ht
    rw [Tryz.params4] at ht
    simp at ht
    rcases ht with rfl | rfl
    all_goals exact ⟨by kernel_rfl, of_decide_eq_true (by kernel_rfl)⟩
  · intro ds hds
    rw [Tryz.params4] at hds
    have hds : ds.length = 2 := hds
    match ds, hds with
    | [d0, d1], _ => rfl
  · intro A hA
    rw [Tryz.params4] at hA
    cases A with
    | nil => exact False.elim hA
    | cons a0 A =>
    cases A with
    | nil => exact False.elim hA.2
    | cons a1 A =>
    cases A with
    | cons _ _ => exact False.elim hA.2.2
    | nil =>
      obtain ⟨x0, rfl⟩ := AA (ty := .stac) (fs := [(0, 62), (3, 36)]) (by kernel_rfl) hA.1
      obtain ⟨x1, rfl⟩ := AA (ty := .resu) (fs := [(0, 65), (1, 3), (2, 67), (5, 3), (6, 9), (7, 4)]) (by kernel_rfl) hA.2.1
      exact DP x0 x1

theorem bU {a b : Bool} (h : a = true) (g : b = true) : (a && b) = true := by rw [h, g]; rfl
set_option maxHeartbeats 0 in
theorem Bd : joinedFacts Tryz.pinned.checked.prog 4 Tryz.f4 Rows.fnExactIssuedInSpec Rows.fnExactIssuedInRow = true := by
  unfold joinedFacts
  refine bU (bU (bU (bU (bU (bU (bU (bU (bU (bU (bU (bU (bU (bU (bU (bU (bU (bU (bU (bU (bU (bU (bU (bU (bU (bU (bU (bU (bU (bU (bU ?_ ?_) ?_) ?_) ?_) ?_) ?_) ?_) ?_) ?_) ?_) ?_) ?_) ?_) ?_) ?_) ?_) ?_) ?_) ?_) ?_) ?_) ?_) ?_) ?_) ?_) ?_) ?_) ?_) ?_) ?_) ?_
  all_goals (as_aux_lemma => kernel_rfl)

theorem holds4 : Rows.FnExactIssuedInSaid :=
  OpenClaim.holds_of_wide 4 Tryz.f4 rfl rfl rfl rfl rfl rfl rfl ⟨rfl, rfl, rfl, rfl, rfl⟩ rfl rfl rfl rfl rfl (by as_aux_lemma => kernel_rfl) Tryz.func4 Bd
    (of_decide_eq_true (by kernel_rfl)) (by unfold Func.isWrapper; first | (rw [if_pos (by decide +kernel)]; kernel_rfl) | (rw [if_neg (by decide +kernel)]; exact ⟨rfl, rfl⟩))
    (λos started H enc _ => Bp os started H enc)
end Go.Proofs.YtbkjnlihfgkkaaaGreat
