/-
  The law FnExactReadAct returns true for every input; each argument reads behind the call as it read before. No condition.
-/
import Derived.Test.YtcjbalpokdgicaaDoorH4
import Derived.Test.YtcjbalpokdgicaaDoorRow3
import Derived.Test.YtcjbalpokdgicaaDoorTie
import Derived.Test.YtcjbalpokdgicaaDoorCards
import Derived.SevenTiedAt
namespace Go.Proofs.YtcjbalpokdgicaaDoor
open Go Go.RowKit

theorem con5 (x0 : Bytes) : Con Tryd.prog 5 (pvs [.sc .str] (x0, ())) [rv (.sc .bool) [] true] := by
  have h := w_FnExactReadAct_c x0
  rw [t_FnExactReadAct x0] at h
  exact h

theorem lifted5 (os : Go.Os) (started : os.Started) (H : Type) (enc : TypeId × Value → H) :
    ReturnsInHanded {} Tryd.checked os 5 .any (fun w args => (Rows.fnExactReadActSpec.pre enc Tryd.prog Tryd.f5 [] false w args ∧ laidMetH Tryd.prog laidD w) ∧ sizedMet enc Tryd.prog Tryd.f5 (OpenSpec.ofChange Rows.fnExactReadActSpec) false w args) (Rows.fnExactReadActSpec.post enc Tryd.prog Tryd.f5 false true false false) := by
  refine row_of_con_laid (C := Tryd.checked) teFact flFact loFact ownFact started (by kernel_rfl) Tryd.func5
    (ChangeSpec.witness_shaped (enc := enc) (C := Tryd.checked) (os := os) (X := fun w _ => laidMetH Tryd.prog laidD w) false (World.doorLaid Tryd.prog 400 os) #[.string .empty] 8 rfl (World.shaped_of_RefB (by kernel_rfl) (by kernel_rfl)) (by kernel_rfl) (by kernel_rfl) (by kernel_rfl) (door_met os _))
    rfl (by kernel_rfl) ?_ (tb := 4) (by kernel_rfl) Tryd.underlying4 ?_ ?_ gw_of_laid
  · intro t ht
    rw [Tryd.params5] at ht
    simp at ht
    subst ht
    all_goals exact ⟨by kernel_rfl, of_decide_eq_true (by kernel_rfl)⟩
  · intro ds hds
    rw [Tryd.params5] at hds
    have hds : ds.length = 1 := hds
    match ds, hds with
    | [d0], _ => rfl
  · intro A hA
    rw [Tryd.params5] at hA
    cases A with
    | nil => exact False.elim hA
    | cons a0 A =>
    cases A with
    | cons _ _ => exact False.elim hA.2
    | nil =>
      obtain ⟨x0, rfl⟩ := arg_sc (f := .str) (by kernel_rfl) hA.1
      exact con5 x0

theorem holds5 : Rows.FnExactReadActSaid :=
  OpenClaim.holds_of_wide 5 Tryd.f5 rfl rfl rfl rfl rfl rfl rfl ⟨rfl, rfl, rfl, rfl, rfl⟩ rfl rfl rfl rfl rfl (by kernel_rfl) Tryd.func5 (by kernel_rfl)
    (of_decide_eq_true (by kernel_rfl)) (by unfold Func.isWrapper; first | (rw [if_pos (by decide +kernel)]; kernel_rfl) | (rw [if_neg (by decide +kernel)]; exact ⟨rfl, rfl⟩))
    (fun os started H enc _ => lifted5 os started H enc)
theorem card5 : Rows.FnExactReadActCardSaid :=
  Claim7.holds_tied_plain_at .later [] [.data, .data, .data] true (true, "79ba0ca11df7fc5eb94db7050fcb381e6320ceb2035f93f5159b7bf5e5f112e6") false
    holds5 (fun _ h => by cases h) (by kernel_rfl) (fun _ h => by cases h) fnExactReadAct_row_tie rfl ⟨rfl, rfl⟩ (by kernel_rfl) rfl
    (fun f fn hf hfn => by
      obtain rfl : f = 5 := Option.some.inj ((show Tryd.prog.funcNamed "loop.example/g00504/laws.FnExactReadAct" = some 5 by kernel_rfl).symm.trans hf) |>.symm
      obtain rfl : fn = Tryd.f5 := (Option.some.inj (Tryd.func5.symm.trans hfn)).symm
      exact ⟨by kernel_rfl, fun j t ht => by
        rw [Tryd.params5] at ht
        have hm : t ∈ [9] := by simpa using Array.mem_of_getElem? ht
        have hall : ([9].all fun u => !Tryd.prog.wantsStandIn u) = true := by kernel_rfl
        exact (show Tryd.prog.wantsStandIn t = false by simpa using List.all_eq_true.1 hall t hm)⟩)
    (by kernel_rfl)
end Go.Proofs.YtcjbalpokdgicaaDoor
