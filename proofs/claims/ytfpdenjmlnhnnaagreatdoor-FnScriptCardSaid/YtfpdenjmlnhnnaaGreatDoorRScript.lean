/-
  The law FnScript returns true for every input; each argument reads behind the call as it read before. No condition.
-/
import Derived.Test.YtfpdenjmlnhnnaaGreatDoorDK2
import Derived.Test.YtfpdenjmlnhnnaaGreatDoorRow3
import Derived.Test.YtfpdenjmlnhnnaaGreatDoorTie
import Derived.Test.YtfpdenjmlnhnnaaGreatDoorCards
import Derived.SevenTiedAt
namespace Go.Proofs.YtfpdenjmlnhnnaaGreatDoor
open Go Go.RowKit

theorem ED (x0 : List Int) : x7 Tryz.prog 4 (pg [.sc (.sl .u8)] (x0, ())) [rv (.sc .bool) [] true] := by
  refine Ent1.con (e := ve) rfl ?_
  show uk (dc True) (d7 (gv.f (x0, ())) λv => some [rv (.sc .bool) [] v]) none = _
  rw [AZ trivial, x8 x0]
  rfl

theorem CN (os : Go.Os) (started : os.Started) (H : Type) (enc : TypeId × Value → H) :
    ReturnsInHanded {} Tryz.checked os 4 .any (λw args => (Rows.fnScriptSpec.pre enc Tryz.prog Tryz.f4 [] false w args ∧ laidMetH Tryz.prog uo w) ∧ sizedMet enc Tryz.prog Tryz.f4 (OpenSpec.ofChange Rows.fnScriptSpec) false w args) (Rows.fnScriptSpec.post enc Tryz.prog Tryz.f4 false true false false) := by
  refine jX (C := Tryz.checked) yE Bj BS zJ started (by kernel_rfl) Tryz.func4
    (ChangeSpec.witness_shaped (enc := enc) (C := Tryz.checked) (os := os) (X := λw _ => laidMetH Tryz.prog uo w) false (World.doorLaid Tryz.prog 400 os) #[.slice none 0 0] 8 rfl (World.shaped_of_RefB (by kernel_rfl) (by kernel_rfl)) (by kernel_rfl) (by kernel_rfl) (by kernel_rfl) (ww os _))
    rfl (by kernel_rfl) ?_ (tb := 4) (by kernel_rfl) Tryz.underlying4 ?_ ?_ qM
  · intro t ht
    rw [Tryz.params4] at ht
    simp at ht
    subst ht
    all_goals exact ⟨by kernel_rfl, of_decide_eq_true (by kernel_rfl)⟩
  · intro ds hds
    rw [Tryz.params4] at hds
    have hds : ds.length = 1 := hds
    match ds, hds with
    | [d0], _ => rfl
  · intro A hA
    rw [Tryz.params4] at hA
    cases A with
    | nil => exact False.elim hA
    | cons a0 A =>
    cases A with
    | cons _ _ => exact False.elim hA.2
    | nil =>
      obtain ⟨x0, rfl⟩ := BT (ty := .u8) (b := 1) (by kernel_rfl) hA.1
      exact ED x0

theorem aJ {a b : Bool} (h : a = true) (g : b = true) : (a && b) = true := by rw [h, g]; rfl
set_option maxHeartbeats 0 in
theorem CG : joinedFacts Tryz.pinned.checked.prog 4 Tryz.f4 Rows.fnScriptSpec Rows.fnScriptRow = true := by
  unfold joinedFacts
  refine aJ (aJ (aJ (aJ (aJ (aJ (aJ (aJ (aJ (aJ (aJ (aJ (aJ (aJ (aJ (aJ (aJ (aJ (aJ (aJ (aJ (aJ (aJ (aJ (aJ (aJ (aJ (aJ (aJ (aJ (aJ ?_ ?_) ?_) ?_) ?_) ?_) ?_) ?_) ?_) ?_) ?_) ?_) ?_) ?_) ?_) ?_) ?_) ?_) ?_) ?_) ?_) ?_) ?_) ?_) ?_) ?_) ?_) ?_) ?_) ?_) ?_) ?_
  all_goals (as_aux_lemma => kernel_rfl)

theorem holds4 : Rows.FnScriptSaid :=
  OpenClaim.holds_of_wide 4 Tryz.f4 rfl rfl rfl rfl rfl rfl rfl ⟨rfl, rfl, rfl, rfl, rfl⟩ rfl rfl rfl rfl rfl (by as_aux_lemma => kernel_rfl) Tryz.func4 CG
    (of_decide_eq_true (by kernel_rfl)) (by unfold Func.isWrapper; first | (rw [if_pos (by decide +kernel)]; kernel_rfl) | (rw [if_neg (by decide +kernel)]; exact ⟨rfl, rfl⟩))
    (λos started H enc _ => CN os started H enc)
theorem ER : Rows.FnScriptCardSaid :=
  Claim7.holds_tied_plain_at .later [] [.data, .data, .data] true (true, "36b73a6977f49924e891380dd2c34ef512716c1372460d577a63ced3171d0da9") false
    holds4 (λ_ h => by cases h) (by kernel_rfl) (λ_ h => by cases h) fnScript_row_tie rfl ⟨rfl, rfl⟩ (by kernel_rfl) rfl
    (λf fn hf hfn => by
      obtain rfl : f = 4 := Option.some.inj ((show Tryz.prog.funcNamed "loop.example/g00504/laws.FnScript" = some 4 by kernel_rfl).symm.trans hf) |>.symm
      obtain rfl : fn = Tryz.f4 := (Option.some.inj (Tryz.func4.symm.trans hfn)).symm
      exact ⟨by kernel_rfl, λj t ht => by
        rw [Tryz.params4] at ht
        have hm : t ∈ [22] := by simpa using Array.mem_of_getElem? ht
        have hall : ([22].all λu => !Tryz.prog.wantsStandIn u) = true := by kernel_rfl
        exact (show Tryz.prog.wantsStandIn t = false by simpa using List.all_eq_true.1 hall t hm)⟩)
    (by kernel_rfl)
end Go.Proofs.YtfpdenjmlnhnnaaGreatDoor
