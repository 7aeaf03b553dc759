/-
  The law FnExactStackNew returns true for every input; each argument reads behind the call as it read before. No condition.
-/
import Derived.Test.YtgbgljgnblkffaaGreatEW4
namespace Go.Proofs.YtgbgljgnblkffaaGreat
open Go Go.RowKit

theorem aav (x0 : Int) (x1 : Int) (x2 : Int) (x3 : Limi) (x4 : Mac) : Jx Tryz.prog 7 (Jy [.sc (.int .i64), .sc (.int .i64), .sc (.int .i64), .st .limi, .st .mac] (x0, x1, x2, x3, x4, ())) [rv (.sc .bool) [] true] := by
  refine Jx.of_facts (Ci Tryz.func7 rfl (by kernel_rfl)) λhf => ?_
  refine Ent1.con (e := wY) rfl ?_
  show KT (dc True) (bu (gq.f (x0, x1, x2, x3, x4, ())) λv => some [rv (.sc .bool) [] v]) none = _
  rw [Xi trivial, A1 x0 x1 x2 x3 x4 (Gr hf)]
  rfl

theorem XY (os : Go.Os) (started : os.Started) (H : Type) (enc : TypeId × Value → H) :
    ReturnsInHanded {} Tryz.checked os 7 .any (Rows.fnExactStackNewSpec.pre6 enc Tryz.prog Tryz.f7 Rows.fnExactStackNewRow.domain false) (Rows.fnExactStackNewSpec.post enc Tryz.prog Tryz.f7 false true false false) := by
  refine IZ (C := Tryz.checked) SS Xf WV T6 started (by kernel_rfl) Tryz.func7
    (ChangeSpec.witness6 (enc := enc) (C := Tryz.checked) false ⟨#[], #[.int .i64 0, .int .i64 0, .int .i64 0, .agg #[.int .i64 0, .int .i64 0, .int .i64 0, .int .i64 0], .agg #[.bool false, .int .u64 0, .int .u64 0, .slice none 0 0]], []⟩ 8 (by kernel_rfl) (by kernel_rfl) (by kernel_rfl) (by kernel_rfl)) rfl (by kernel_rfl) ?_ (tb := 4) (by kernel_rfl) Tryz.underlying4 ?_ ?_
  · intro t ht
    rw [Tryz.params7] at ht
    simp at ht
    rcases ht with rfl | rfl | rfl | rfl | rfl
    all_goals exact ⟨by kernel_rfl, of_decide_eq_true (by kernel_rfl)⟩
  · intro ds hds
    rw [Tryz.params7] at hds
    have hds : ds.length = 5 := hds
    match ds, hds with
    | [d0, d1, d2, d3, d4], _ => rfl
  · intro A hA
    rw [Tryz.params7] at hA
    cases A with
    | nil => exact False.elim hA
    | cons a0 A =>
    cases A with
    | nil => exact False.elim hA.2
    | cons a1 A =>
    cases A with
    | nil => exact False.elim hA.2.2
    | cons a2 A =>
    cases A with
    | nil => exact False.elim hA.2.2.2
    | cons a3 A =>
    cases A with
    | nil => exact False.elim hA.2.2.2.2
    | cons a4 A =>
    cases A with
    | cons _ _ => exact False.elim hA.2.2.2.2.2
    | nil =>
      obtain ⟨x0, rfl⟩ := RI (f := (.int .i64)) (by kernel_rfl) hA.1
      obtain ⟨x1, rfl⟩ := RI (f := (.int .i64)) (by kernel_rfl) hA.2.1
      obtain ⟨x2, rfl⟩ := RI (f := (.int .i64)) (by kernel_rfl) hA.2.2.1
      obtain ⟨x3, rfl⟩ := Wp (ty := .limi) (fs := [(0, 3), (1, 3), (2, 3), (3, 3)]) (by kernel_rfl) hA.2.2.2.1
      obtain ⟨x4, rfl⟩ := Wp (ty := .mac) (fs := [(0, 4), (1, 27), (2, 27), (3, 109)]) (by kernel_rfl) hA.2.2.2.2.1
      exact aav x0 x1 x2 x3 x4

theorem br {a b : Bool} (h : a = true) (g : b = true) : (a && b) = true := by rw [h, g]; rfl
set_option maxHeartbeats 0 in
theorem XP : joinedFacts Tryz.pinned.checked.prog 7 Tryz.f7 Rows.fnExactStackNewSpec Rows.fnExactStackNewRow = true := by
  unfold joinedFacts
  refine br (br (br (br (br (br (br (br (br (br (br (br (br (br (br (br (br (br (br (br (br (br (br (br (br (br (br (br (br (br (br ?_ ?_) ?_) ?_) ?_) ?_) ?_) ?_) ?_) ?_) ?_) ?_) ?_) ?_) ?_) ?_) ?_) ?_) ?_) ?_) ?_) ?_) ?_) ?_) ?_) ?_) ?_) ?_) ?_) ?_) ?_) ?_
  all_goals (as_aux_lemma => kernel_rfl)

theorem holds7 : Rows.FnExactStackNewSaid :=
  OpenClaim.holds_of_wide 7 Tryz.f7 rfl rfl rfl rfl rfl rfl rfl ⟨rfl, rfl, rfl, rfl, rfl⟩ rfl rfl rfl rfl rfl (by as_aux_lemma => kernel_rfl) Tryz.func7 XP
    (of_decide_eq_true (by kernel_rfl)) (by unfold Func.isWrapper; first | (rw [if_pos (by decide +kernel)]; kernel_rfl) | (rw [if_neg (by decide +kernel)]; exact ⟨rfl, rfl⟩))
    (λos started H enc _ => XY os started H enc)
end Go.Proofs.YtgbgljgnblkffaaGreat
