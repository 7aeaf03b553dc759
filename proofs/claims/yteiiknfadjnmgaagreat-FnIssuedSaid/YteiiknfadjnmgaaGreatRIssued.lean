/-
  The law FnIssued returns true for every input; each argument reads behind the call as it read before. No condition.
-/
import Derived.Test.YteiiknfadjnmgaaGreatEK3
namespace Go.Proofs.YteiiknfadjnmgaaGreat
open Go Go.RowKit

theorem YD (x0 : List Int) : GP Tryz.prog 9 (Gh [.sc (.sl .u8)] (x0, ())) [rv (.sc .bool) [] true] := by
  refine Ent1.con (e := Ld) rfl ?_
  show Ka (dc True) (jy (pr.f (x0, ())) λv => some [rv (.sc .bool) [] v]) none = _
  rw [Wv trivial, PU x0]
  rfl

theorem Vw (os : Go.Os) (started : os.Started) (H : Type) (enc : TypeId × Value → H) :
    ReturnsInHanded {} Tryz.checked os 9 .any (Rows.fnIssuedSpec.pre6 enc Tryz.prog Tryz.f9 Rows.fnIssuedRow.domain false) (Rows.fnIssuedSpec.post enc Tryz.prog Tryz.f9 false true false false) := by
  refine QA (C := Tryz.checked) TQ XE XM Vo started (by kernel_rfl) Tryz.func9
    (ChangeSpec.witness6 (enc := enc) (C := Tryz.checked) false ⟨#[], #[.slice none 0 0], []⟩ 8 (by kernel_rfl) (by kernel_rfl) (by kernel_rfl) (by kernel_rfl)) rfl (by kernel_rfl) ?_ (tb := 4) (by kernel_rfl) Tryz.underlying4 ?_ ?_
  · intro t ht
    rw [Tryz.params9] at ht
    simp at ht
    subst ht
    all_goals exact ⟨by kernel_rfl, of_decide_eq_true (by kernel_rfl)⟩
  · intro ds hds
    rw [Tryz.params9] at hds
    have hds : ds.length = 1 := hds
    match ds, hds with
    | [d0], _ => rfl
  · intro A hA
    rw [Tryz.params9] at hA
    cases A with
    | nil => exact False.elim hA
    | cons a0 A =>
    cases A with
    | cons _ _ => exact False.elim hA.2
    | nil =>
      obtain ⟨x0, rfl⟩ := XP (ty := .u8) (b := 1) (by kernel_rfl) hA.1
      exact YD x0

theorem eV {a b : Bool} (h : a = true) (g : b = true) : (a && b) = true := by rw [h, g]; rfl
set_option maxHeartbeats 0 in
theorem VE : joinedFacts Tryz.pinned.checked.prog 9 Tryz.f9 Rows.fnIssuedSpec Rows.fnIssuedRow = true := by
  unfold joinedFacts
  refine eV (eV (eV (eV (eV (eV (eV (eV (eV (eV (eV (eV (eV (eV (eV (eV (eV (eV (eV (eV (eV (eV (eV (eV (eV (eV (eV (eV (eV (eV (eV ?_ ?_) ?_) ?_) ?_) ?_) ?_) ?_) ?_) ?_) ?_) ?_) ?_) ?_) ?_) ?_) ?_) ?_) ?_) ?_) ?_) ?_) ?_) ?_) ?_) ?_) ?_) ?_) ?_) ?_) ?_) ?_
  all_goals (as_aux_lemma => kernel_rfl)

theorem holds9 : Rows.FnIssuedSaid :=
  OpenClaim.holds_of_wide 9 Tryz.f9 rfl rfl rfl rfl rfl rfl rfl ⟨rfl, rfl, rfl, rfl, rfl⟩ rfl rfl rfl rfl rfl (by as_aux_lemma => kernel_rfl) Tryz.func9 VE
    (of_decide_eq_true (by kernel_rfl)) (by unfold Func.isWrapper; first | (rw [if_pos (by decide +kernel)]; kernel_rfl) | (rw [if_neg (by decide +kernel)]; exact ⟨rfl, rfl⟩))
    (λos started H enc _ => Vw os started H enc)
end Go.Proofs.YteiiknfadjnmgaaGreat
