import Derived.Test.YtjioppmfnejlnaaBase
namespace Go.Proofs.Ytjioppmfnejlnaa
open Go Go.RowKit

def within (n lo hi : Int) : Bool := decide (lo ≤ n) && decide (n ≤ hi)
theorem c66 (n lo hi : Int) : Con Try.prog 66 [(Pk.sc fI).pv n, (Pk.sc fI).pv lo, (Pk.sc fI).pv hi] [(false, [.c (.bool (within n lo hi))])] := by
  refine evalFn_con (orc := orcOf []) (ann := []) (fuel := 0) teFact mixFact (orcOf_ok []) Try.func66 (by kernel_rfl) ?_
  have h : evalFn te (orcOf (P := Try.prog) []) [] 0 Try.f66 [(Pk.sc fI).pv n, (Pk.sc fI).pv lo, (Pk.sc fI).pv hi] =
    bif decide (lo ≤ n) then some [(false, [.c (.bool (decide (n ≤ hi)))])] else some [(false, [.c (.bool false)])] := by kernel_rfl
  rw [h]
  unfold within
  cases decide (lo ≤ n) <;> rfl
theorem c67 (n lo hi : Int) : Con Try.prog 67 [(Pk.sc fI).pv n, (Pk.sc fI).pv lo, (Pk.sc fI).pv hi] [(false, [.c (.bool (within n lo hi))])] := by
  refine evalFn_con (orc := orcOf []) (ann := []) (fuel := 0) teFact mixFact (orcOf_ok []) Try.func67 (by kernel_rfl) ?_
  have h : evalFn te (orcOf (P := Try.prog) []) [] 0 Try.f67 [(Pk.sc fI).pv n, (Pk.sc fI).pv lo, (Pk.sc fI).pv hi] =
    bif decide (lo ≤ n) then some [(false, [.c (.bool (decide (n ≤ hi)))])] else some [(false, [.c (.bool false)])] := by kernel_rfl
  rw [h]
  unfold within
  cases decide (lo ≤ n) <;> rfl
noncomputable def e66 : Ent1 Try.prog := ent3 66 (.sc fI) (.sc fI) (.sc fI) (fun n lo hi => [(false, [.c (.bool (within n lo hi))])]) c66
noncomputable def e67 : Ent1 Try.prog := ent3 67 (.sc fI) (.sc fI) (.sc fI) (fun n lo hi => [(false, [.c (.bool (within n lo hi))])]) c67

def actWords : List Bytes := [[], [102, 114, 97, 109, 101], [116, 105, 99, 107], [115, 101, 99, 114, 101, 116], [97, 99, 99, 101, 112, 116], [119, 114, 105, 116, 101], [114, 101, 97, 100], [115, 104, 117, 116], [97, 98, 111, 114, 116]]
def actWord (n : Int) : Bytes := bif within n 1 8 then actWords.getD n.toNat [] else []

theorem c15 (n : Int) : Con Try.prog 15 [(Pk.sc fI).pv n] [(false, [.c (.str (actWord n))])] := by
  refine evalFn_con (orc := orcOf [e66]) (ann := []) (fuel := 0) teFact mixFact (orcOf_ok _) Try.func15 (by kernel_rfl) ?_
  have h : evalFn te (orcOf [e66]) [] 0 Try.f15 [(Pk.sc fI).pv n] =
    bif !(within n 1 8) then some [(false, [.c (.str [])])] else
    bif decide (0 ≤ n) && decide (n < 9) then some [(false, [.c (.str (actWords.getD n.toNat []))])] else none := by kernel_rfl
  rw [h]
  unfold actWord
  cases hw : within n 1 8 with
  | false => rfl
  | true =>
    simp only [within, Bool.and_eq_true, decide_eq_true_eq] at hw
    have e1 : (decide (0 ≤ n) && decide (n < 9)) = true := by simp; omega
    rw [e1]
    rfl
theorem c16 (n : Int) : Con Try.prog 16 [(Pk.sc fI).pv n] [(false, [.c (.str (actWord n))])] := by
  refine evalFn_con (orc := orcOf [e67]) (ann := []) (fuel := 0) teFact mixFact (orcOf_ok _) Try.func16 (by kernel_rfl) ?_
  have h : evalFn te (orcOf [e67]) [] 0 Try.f16 [(Pk.sc fI).pv n] =
    bif !(within n 1 8) then some [(false, [.c (.str [])])] else
    bif decide (0 ≤ n) && decide (n < 9) then some [(false, [.c (.str (actWords.getD n.toNat []))])] else none := by kernel_rfl
  rw [h]
  unfold actWord
  cases hw : within n 1 8 with
  | false => rfl
  | true =>
    simp only [within, Bool.and_eq_true, decide_eq_true_eq] at hw
    have e1 : (decide (0 ≤ n) && decide (n < 9)) = true := by simp; omega
    rw [e1]
    rfl
noncomputable def e15 : Ent1 Try.prog := ent1 15 (.sc fI) (fun n => [(false, [.c (.str (actWord n))])]) c15
noncomputable def e16 : Ent1 Try.prog := ent1 16 (.sc fI) (fun n => [(false, [.c (.str (actWord n))])]) c16

theorem c3 (n : Int) : Con Try.prog 3 [(Pk.sc fI).pv n] [(false, [.c (.bool true)])] := by
  refine evalFn_con (orc := orcOf [e15, e16]) (ann := []) (fuel := 0) teFact mixFact (orcOf_ok _) Try.func3 (by kernel_rfl) ?_
  have h : evalFn te (orcOf [e15, e16]) [] 0 Try.f3 [(Pk.sc fI).pv n] =
    bif !(actWord n == actWord n) then some [(false, [.c (.bool false)])] else some [(false, [.c (.bool true)])] := by kernel_rfl
  rw [h]
  simp

theorem lifted3 (os : Os) (started : os.Started) (H : Type) (enc : TypeId × Value → H) :
    ReturnsInHanded {} Try.checked os 3 .any (Rows.fnExactActWordSpec.pre6 enc Try.prog Try.f3 Rows.fnExactActWordRow.domain false) (Rows.fnExactActWordSpec.post enc Try.prog Try.f3 false true false false) := by
  refine row_of_con (C := Try.checked) teFact flFact loFact ownFact started (by kernel_rfl) Try.func3
    (ChangeSpec.witness6 (enc := enc) (C := Try.checked) false ⟨#[], #[.int .i64 0], []⟩ 8 (by kernel_rfl) (by kernel_rfl) (by kernel_rfl) (by kernel_rfl)) rfl (by kernel_rfl) ?_ (tb := 4) (by kernel_rfl) Try.underlying4 ?_ ?_
  · intro t ht
    rw [Try.params3] at ht
    simp at ht
    subst ht
    exact ⟨by kernel_rfl, of_decide_eq_true (by kernel_rfl)⟩
  · intro ds hds
    rw [Try.params3] at hds
    match ds, hds with
    | [d], _ => rfl
  · intro A hA
    rw [Try.params3] at hA
    match A, hA with
    | [a], hA =>
      obtain ⟨x, rfl⟩ := arg_sc (f := fI) (by kernel_rfl) hA.1
      exact c3 x

theorem actWord_holds : Rows.FnExactActWordSaid :=
  OpenClaim.holds_of_wide 3 Try.f3 rfl rfl rfl rfl rfl rfl rfl ⟨rfl, rfl, rfl, rfl, rfl⟩ rfl rfl rfl rfl rfl (by kernel_rfl) Try.func3 (by kernel_rfl)
    (of_decide_eq_true (by kernel_rfl)) (by unfold Func.isWrapper; first | (rw [if_pos (by decide +kernel)]; kernel_rfl) | (rw [if_neg (by decide +kernel)]; exact ⟨rfl, rfl⟩))
    (fun os started H enc _ => lifted3 os started H enc)
end Go.Proofs.Ytjioppmfnejlnaa
