/-
  The law FnExactNewSecret returns true for every input; each argument reads behind the call as it read before. No condition.
-/
import Derived.Test.YtbkjnlihfgkkaaaGreatEN1
namespace Go.Proofs.YtbkjnlihfgkkaaaGreat
open Go Go.RowKit

theorem Ae (x0 : Door) (x1 : Mac) : p9 Tryz.prog 3 (pD [.st .door, .st .mac] (x0, x1, ())) [rv (.sc .bool) [] true] := by
  refine p9.of_facts (mC Tryz.func3 rfl (by kernel_rfl)) λhf => ?_
  refine Ent1.con (e := iM) rfl ?_
  show re (dc True) (lw (dN.f (x0, x1, ())) λv => some [rv (.sc .bool) [] v]) none = _
  rw [yI trivial, kO x0 x1 (oW hf)]
  rfl

theorem xO (os : Go.Os) (started : os.Started) (H : Type) (enc : TypeId × Value → H) :
    ReturnsInHanded {} Tryz.checked os 3 .any (Rows.fnExactNewSecretSpec.pre6 enc Tryz.prog Tryz.f3 Rows.fnExactNewSecretRow.domain false) (Rows.fnExactNewSecretSpec.post enc Tryz.prog Tryz.f3 false true false false) := by
  refine uc (C := Tryz.checked) wV yZ y6 xH started (by kernel_rfl) Tryz.func3
    (ChangeSpec.witness6 (enc := enc) (C := Tryz.checked) false ⟨#[], #[.agg #[.int .i64 0, .int .i64 0, .int .i64 0, .bool false, .int .u64 0, .int .u64 0, .slice none 0 0, .bool false, .int .u64 0, .int .u64 0, .slice none 0 0, .bool false, .int .i64 0, .int .i64 0, .int .i64 0, .int .i64 0, .slice none 0 0, .slice none 0 0, .slice none 0 0, .int .i64 0], .agg #[.bool false, .int .u64 0, .int .u64 0, .slice none 0 0]], []⟩ 8 (by kernel_rfl) (by kernel_rfl) (by kernel_rfl) (by kernel_rfl)) rfl (by kernel_rfl) ?_ (tb := 4) (by kernel_rfl) Tryz.underlying4 ?_ ?_
  · intro t ht
    rw [Tryz.params3] at ht
    simp at ht
    rcases ht with rfl | rfl
    all_goals exact ⟨by kernel_rfl, of_decide_eq_true (by kernel_rfl)⟩
  · intro ds hds
    rw [Tryz.params3] at hds
    have hds : ds.length = 2 := hds
    match ds, hds with
    | [d0, d1], _ => rfl
  · intro A hA
    rw [Tryz.params3] at hA
    cases A with
    | nil => exact False.elim hA
    | cons a0 A =>
    cases A with
    | nil => exact False.elim hA.2
    | cons a1 A =>
    cases A with
    | cons _ _ => exact False.elim hA.2.2
    | nil =>
      obtain ⟨x0, rfl⟩ := wv (ty := .door) (fs := [(0, 3), (1, 3), (2, 27), (12, 29), (16, 30), (17, 34), (19, 3)]) (by kernel_rfl) hA.1
      obtain ⟨x1, rfl⟩ := wv (ty := .mac) (fs := [(0, 4), (1, 22), (2, 22), (3, 23)]) (by kernel_rfl) hA.2.1
      exact Ae x0 x1

theorem bL {a b : Bool} (h : a = true) (g : b = true) : (a && b) = true := by rw [h, g]; rfl
set_option maxHeartbeats 0 in
theorem xW : joinedFacts Tryz.pinned.checked.prog 3 Tryz.f3 Rows.fnExactNewSecretSpec Rows.fnExactNewSecretRow = true := by
  unfold joinedFacts
  refine bL (bL (bL (bL (bL (bL (bL (bL (bL (bL (bL (bL (bL (bL (bL (bL (bL (bL (bL (bL (bL (bL (bL (bL (bL (bL (bL (bL (bL (bL (bL ?_ ?_) ?_) ?_) ?_) ?_) ?_) ?_) ?_) ?_) ?_) ?_) ?_) ?_) ?_) ?_) ?_) ?_) ?_) ?_) ?_) ?_) ?_) ?_) ?_) ?_) ?_) ?_) ?_) ?_) ?_) ?_
  all_goals (as_aux_lemma => kernel_rfl)

theorem holds3 : Rows.FnExactNewSecretSaid :=
  OpenClaim.holds_of_wide 3 Tryz.f3 rfl rfl rfl rfl rfl rfl rfl ⟨rfl, rfl, rfl, rfl, rfl⟩ rfl rfl rfl rfl rfl (by as_aux_lemma => kernel_rfl) Tryz.func3 xW
    (of_decide_eq_true (by kernel_rfl)) (by unfold Func.isWrapper; first | (rw [if_pos (by decide +kernel)]; kernel_rfl) | (rw [if_neg (by decide +kernel)]; exact ⟨rfl, rfl⟩))
    (λos started H enc _ => xO os started H enc)
end Go.Proofs.YtbkjnlihfgkkaaaGreat
