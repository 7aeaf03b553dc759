/-
  The law FnExactTupleText returns true for every input; each argument reads behind the call as it read before. No condition.
-/
import Derived.Test.YtcjbalpokdgicaaDoorB1
import Derived.Test.YtcjbalpokdgicaaDoorRow3
import Derived.Test.YtcjbalpokdgicaaDoorTie
import Derived.Test.YtcjbalpokdgicaaDoorCards
import Derived.SevenTiedAt
namespace Go.Proofs.YtcjbalpokdgicaaDoor
open Go Go.RowKit

theorem con3 (x0 : Tupl) : Con Tryd.prog 3 (pvs [.st .tupl] (x0, ())) [rv (.sc .bool) [] true] := by
  have h := w_FnExactTupleText_c x0
  rw [t_FnExactTupleText x0] at h
  exact h

theorem lifted3 (os : Go.Os) (started : os.Started) (H : Type) (enc : TypeId × Value → H) :
    ReturnsInHanded {} Tryd.checked os 3 .any (fun w args => (Rows.fnExactTupleTextSpec.pre enc Tryd.prog Tryd.f3 [] false w args ∧ laidMetH Tryd.prog laidD w) ∧ sizedMet enc Tryd.prog Tryd.f3 (OpenSpec.ofChange Rows.fnExactTupleTextSpec) false w args) (Rows.fnExactTupleTextSpec.post enc Tryd.prog Tryd.f3 false true false false) := by
  refine row_of_con_laid (C := Tryd.checked) teFact flFact loFact ownFact started (by kernel_rfl) Tryd.func3
    (ChangeSpec.witness_shaped (enc := enc) (C := Tryd.checked) (os := os) (X := fun w _ => laidMetH Tryd.prog laidD w) false (World.doorLaid Tryd.prog 400 os) #[.agg #[.int .i64 0, .int .i64 0, .int .i64 0]] 8 rfl (World.shaped_of_RefB (by kernel_rfl) (by kernel_rfl)) (by kernel_rfl) (by kernel_rfl) (by kernel_rfl) (door_met os _))
    rfl (by kernel_rfl) ?_ (tb := 4) (by kernel_rfl) Tryd.underlying4 ?_ ?_ gw_of_laid
  · intro t ht
    rw [Tryd.params3] at ht
    simp at ht
    subst ht
    all_goals exact ⟨by kernel_rfl, of_decide_eq_true (by kernel_rfl)⟩
  · intro ds hds
    rw [Tryd.params3] at hds
    have hds : ds.length = 1 := hds
    match ds, hds with
    | [d0], _ => rfl
  · intro A hA
    rw [Tryd.params3] at hA
    cases A with
    | nil => exact False.elim hA
    | cons a0 A =>
    cases A with
    | cons _ _ => exact False.elim hA.2
    | nil =>
      obtain ⟨x0, rfl⟩ := arg_st (ty := .tupl) (fs := [(0, 3), (1, 3), (2, 3)]) (by kernel_rfl) hA.1
      exact con3 x0

theorem holds3 : Rows.FnExactTupleTextSaid :=
  OpenClaim.holds_of_wide 3 Tryd.f3 rfl rfl rfl rfl rfl rfl rfl ⟨rfl, rfl, rfl, rfl, rfl⟩ rfl rfl rfl rfl rfl (by kernel_rfl) Tryd.func3 (by kernel_rfl)
    (of_decide_eq_true (by kernel_rfl)) (by unfold Func.isWrapper; first | (rw [if_pos (by decide +kernel)]; kernel_rfl) | (rw [if_neg (by decide +kernel)]; exact ⟨rfl, rfl⟩))
    (fun os started H enc _ => lifted3 os started H enc)
theorem card3 : Rows.FnExactTupleTextCardSaid :=
  Claim7.holds_tied_plain_at .later [] [.data, .data, .data] true (true, "79ba0ca11df7fc5eb94db7050fcb381e6320ceb2035f93f5159b7bf5e5f112e6") false
    holds3 (fun _ h => by cases h) (by kernel_rfl) (fun _ h => by cases h) fnExactTupleText_row_tie rfl ⟨rfl, rfl⟩ (by kernel_rfl) rfl
    (fun f fn hf hfn => by
      obtain rfl : f = 3 := Option.some.inj ((show Tryd.prog.funcNamed "loop.example/g00504/laws.FnExactTupleText" = some 3 by kernel_rfl).symm.trans hf) |>.symm
      obtain rfl : fn = Tryd.f3 := (Option.some.inj (Tryd.func3.symm.trans hfn)).symm
      exact ⟨by kernel_rfl, fun j t ht => by
        rw [Tryd.params3] at ht
        have hm : t ∈ [23] := by simpa using Array.mem_of_getElem? ht
        have hall : ([23].all fun u => !Tryd.prog.wantsStandIn u) = true := by kernel_rfl
        exact (show Tryd.prog.wantsStandIn t = false by simpa using List.all_eq_true.1 hall t hm)⟩)
    (by kernel_rfl)
end Go.Proofs.YtcjbalpokdgicaaDoor
