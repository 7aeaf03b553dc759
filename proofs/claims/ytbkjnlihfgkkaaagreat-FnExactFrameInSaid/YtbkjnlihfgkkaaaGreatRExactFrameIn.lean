/-
  The law FnExactFrameIn returns true for every input; each argument reads behind the call as it read before. No condition.
-/
import Derived.Test.YtbkjnlihfgkkaaaGreatEF4
namespace Go.Proofs.YtbkjnlihfgkkaaaGreat
open Go Go.RowKit

theorem acu (x0 : Stac) (x1 : ac) : Ke Tryz.prog 8 (Gw [.st .stac, .sc .str] (x0, x1, ())) [rv (.sc .bool) [] true] := by
  refine Ke.of_facts (Di Tryz.func8 rfl (by kernel_rfl)) λhf => ?_
  refine Ent1.con (e := Bb) rfl ?_
  show MJ (dc True) (kt (nH.f (x0, x1, ())) λv => some [rv (.sc .bool) [] v]) none = _
  rw [aaC trivial, D9 x0 x1 (Hq hf)]
  rfl

theorem aan (os : Go.Os) (started : os.Started) (H : Type) (enc : TypeId × Value -> H) :
    ReturnsInHanded {} Tryz.checked os 8 .any (Rows.fnExactFrameInSpec.pre6 enc Tryz.prog Tryz.f8 Rows.fnExactFrameInRow.domain false) (Rows.fnExactFrameInSpec.post enc Tryz.prog Tryz.f8 false true false false) := by
  refine Uo (C := Tryz.checked) Yc aaP aa9 ZE started (by kernel_rfl) Tryz.func8
    (ChangeSpec.witness6 (enc := enc) (C := Tryz.checked) false ⟨#[], #[.agg #[.int .i64 0, .int .i64 0, .slice none 0 0, .int .i64 0, .int .i64 0, .int .i64 0, .bool false, .int .u64 0, .int .u64 0, .slice none 0 0, .bool false, .int .u64 0, .int .u64 0, .slice none 0 0, .bool false, .int .i64 0, .int .i64 0, .int .i64 0, .int .i64 0, .slice none 0 0, .slice none 0 0, .slice none 0 0, .int .i64 0], .string .empty], []⟩ 8 (by kernel_rfl) (by kernel_rfl) (by kernel_rfl) (by kernel_rfl)) rfl (by kernel_rfl) ?_ (tb := 4) (by kernel_rfl) Tryz.underlying4 ?_ ?_
  · intro t ht
    rw [Tryz.params8] at ht
    simp at ht
    rcases ht with rfl | rfl
    all_goals exact ⟨by kernel_rfl, of_decide_eq_true (by kernel_rfl)⟩
  · intro ds hds
    rw [Tryz.params8] at hds
    have hds : ds.length = 2 := hds
    match ds, hds with
    | [d0, d1], _ => rfl
  · intro A hA
    rw [Tryz.params8] at hA
    cases A with
    | nil => exact False.elim hA
    | cons a0 A =>
    cases A with
    | nil => exact False.elim hA.2
    | cons a1 A =>
    cases A with
    | cons _ _ => exact False.elim hA.2.2
    | nil =>
      obtain ⟨x0, rfl⟩ := abs (ty := .stac) (fs := [(0, 62), (3, 36)]) (by kernel_rfl) hA.1
      obtain ⟨x1, rfl⟩ := abv (f := .str) (by kernel_rfl) hA.2.1
      exact acu x0 x1

theorem fc {a b : Bool} (h : a = true) (g : b = true) : (a && b) = true := by rw [h, g]; rfl
set_option maxHeartbeats 0 in
theorem aab : joinedFacts Tryz.pinned.checked.prog 8 Tryz.f8 Rows.fnExactFrameInSpec Rows.fnExactFrameInRow = true := by
  unfold joinedFacts
  refine fc (fc (fc (fc (fc (fc (fc (fc (fc (fc (fc (fc (fc (fc (fc (fc (fc (fc (fc (fc (fc (fc (fc (fc (fc (fc (fc (fc (fc (fc (fc ?_ ?_) ?_) ?_) ?_) ?_) ?_) ?_) ?_) ?_) ?_) ?_) ?_) ?_) ?_) ?_) ?_) ?_) ?_) ?_) ?_) ?_) ?_) ?_) ?_) ?_) ?_) ?_) ?_) ?_) ?_) ?_
  all_goals (as_aux_lemma => kernel_rfl)

theorem holds8 : Rows.FnExactFrameInSaid :=
  OpenClaim.holds_of_wide 8 Tryz.f8 rfl rfl rfl rfl rfl rfl rfl ⟨rfl, rfl, rfl, rfl, rfl⟩ rfl rfl rfl rfl rfl (by as_aux_lemma => kernel_rfl) Tryz.func8 aab
    (of_decide_eq_true (by kernel_rfl)) (by unfold Func.isWrapper; first | (rw [if_pos (by decide +kernel)]; kernel_rfl) | (rw [if_neg (by decide +kernel)]; exact ⟨rfl, rfl⟩))
    (λos started H enc _ => aan os started H enc)
end Go.Proofs.YtbkjnlihfgkkaaaGreat
