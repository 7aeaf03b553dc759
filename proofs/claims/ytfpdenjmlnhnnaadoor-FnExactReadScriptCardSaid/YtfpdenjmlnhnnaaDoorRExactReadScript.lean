/-
  The law FnExactReadScript returns true for every input; each argument reads behind the call as it read before. No condition.
-/
import Derived.Test.YtfpdenjmlnhnnaaDoorDK1
import Derived.Test.YtfpdenjmlnhnnaaDoorRow3
import Derived.Test.YtfpdenjmlnhnnaaDoorTie
import Derived.Test.YtfpdenjmlnhnnaaDoorCards
import Derived.SevenTiedAt
namespace Go.Proofs.YtfpdenjmlnhnnaaDoor
open Go Go.RowKit

theorem AY (x0 : aa) : vL Tryd.prog 3 (n6 [.sc .str] (x0, ())) [rv (.sc .bool) [] true] := by
  refine Ent1.con (e := ja) rfl ?_
  show rE (dc True) (fj (cb.f (x0, ())) λv => some [rv (.sc .bool) [] v]) none = _
  rw [ze trivial, kA x0]
  rfl

theorem yU (os : Go.Os) (started : os.Started) (H : Type) (enc : TypeId × Value → H) :
    ReturnsInHanded {} Tryd.checked os 3 .any (λw args => (Rows.fnExactReadScriptSpec.pre enc Tryd.prog Tryd.f3 [] false w args ∧ laidMetH Tryd.prog vG w) ∧ sizedMet enc Tryd.prog Tryd.f3 (OpenSpec.ofChange Rows.fnExactReadScriptSpec) false w args) (Rows.fnExactReadScriptSpec.post enc Tryd.prog Tryd.f3 false true false false) := by
  refine nX (C := Tryd.checked) xu zK zS yZ started (by kernel_rfl) Tryd.func3
    (ChangeSpec.witness_shaped (enc := enc) (C := Tryd.checked) (os := os) (X := λw _ => laidMetH Tryd.prog vG w) false (World.doorLaid Tryd.prog 400 os) #[.string .empty] 8 rfl (World.shaped_of_RefB (by kernel_rfl) (by kernel_rfl)) (by kernel_rfl) (by kernel_rfl) (by kernel_rfl) (xZ os _))
    rfl (by kernel_rfl) ?_ (tb := 4) (by kernel_rfl) Tryd.underlying4 ?_ ?_ uo
  · intro t ht
    rw [Tryd.params3] at ht
    simp at ht
    subst ht
    all_goals exact ⟨by kernel_rfl, of_decide_eq_true (by kernel_rfl)⟩
  · intro ds hds
    rw [Tryd.params3] at hds
    have hds : ds.length = 1 := hds
    match ds, hds with
    | [d0], _ => rfl
  · intro A hA
    rw [Tryd.params3] at hA
    cases A with
    | nil => exact False.elim hA
    | cons a0 A =>
    cases A with
    | cons _ _ => exact False.elim hA.2
    | nil =>
      obtain ⟨x0, rfl⟩ := zN (f := .str) (by kernel_rfl) hA.1
      exact AY x0

theorem bN {a b : Bool} (h : a = true) (g : b = true) : (a && b) = true := by rw [h, g]; rfl
set_option maxHeartbeats 0 in
theorem yF : joinedFacts Tryd.pinned.checked.prog 3 Tryd.f3 Rows.fnExactReadScriptSpec Rows.fnExactReadScriptRow = true := by
  unfold joinedFacts
  refine bN (bN (bN (bN (bN (bN (bN (bN (bN (bN (bN (bN (bN (bN (bN (bN (bN (bN (bN (bN (bN (bN (bN (bN (bN (bN (bN (bN (bN (bN (bN ?_ ?_) ?_) ?_) ?_) ?_) ?_) ?_) ?_) ?_) ?_) ?_) ?_) ?_) ?_) ?_) ?_) ?_) ?_) ?_) ?_) ?_) ?_) ?_) ?_) ?_) ?_) ?_) ?_) ?_) ?_) ?_
  all_goals (as_aux_lemma => kernel_rfl)

theorem holds3 : Rows.FnExactReadScriptSaid :=
  OpenClaim.holds_of_wide 3 Tryd.f3 rfl rfl rfl rfl rfl rfl rfl ⟨rfl, rfl, rfl, rfl, rfl⟩ rfl rfl rfl rfl rfl (by as_aux_lemma => kernel_rfl) Tryd.func3 yF
    (of_decide_eq_true (by kernel_rfl)) (by unfold Func.isWrapper; first | (rw [if_pos (by decide +kernel)]; kernel_rfl) | (rw [if_neg (by decide +kernel)]; exact ⟨rfl, rfl⟩))
    (λos started H enc _ => yU os started H enc)
theorem card3 : Rows.FnExactReadScriptCardSaid :=
  Claim7.holds_tied_plain_at .later [] [.data, .data, .data] true (true, "53aa636c81ed6ed250c22b3e02e763d12d43a3e635a4d19e35e9c2babdaaa25c") false
    holds3 (λ_ h => by cases h) (by kernel_rfl) (λ_ h => by cases h) fnExactReadScript_row_tie rfl ⟨rfl, rfl⟩ (by kernel_rfl) rfl
    (λf fn hf hfn => by
      obtain rfl : f = 3 := Option.some.inj ((show Tryd.prog.funcNamed "loop.example/g00504/laws.FnExactReadScript" = some 3 by kernel_rfl).symm.trans hf) |>.symm
      obtain rfl : fn = Tryd.f3 := (Option.some.inj (Tryd.func3.symm.trans hfn)).symm
      exact ⟨by kernel_rfl, λj t ht => by
        rw [Tryd.params3] at ht
        have hm : t ∈ [9] := by simpa using Array.mem_of_getElem? ht
        have hall : ([9].all λu => !Tryd.prog.wantsStandIn u) = true := by kernel_rfl
        exact (show Tryd.prog.wantsStandIn t = false by simpa using List.all_eq_true.1 hall t hm)⟩)
    (by kernel_rfl)
end Go.Proofs.YtfpdenjmlnhnnaaDoor
