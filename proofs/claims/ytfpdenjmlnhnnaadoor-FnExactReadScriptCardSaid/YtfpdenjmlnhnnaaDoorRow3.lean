/-
  The row of a law out of its contract, where the row's condition lists a table that a package's variable holds.
-/
import Derived.Test.YtfpdenjmlnhnnaaDoorBase
import Derived.Test.YtfpdenjmlnhnnaaDoorRow2
import Derived.LaidMore
import Derived.OpenShut
import Derived.Handed
import Derived.MakeChecks
import Derived.Lib.LaidTab
import Derived.Stop.Joined
namespace Go.Proofs.YtfpdenjmlnhnnaaDoor
open Go Go.RowKit Go.ChangeShapes

theorem nX {C : Checked} {te : TE} (hte : cH te C.prog = true) (hfl : u7 te C.prog = true) (hlo : laidOutB C.prog = true) {os : Os} {f : FuncId} {fn : Func} {s : ChangeSpec} {conds : List PathCond} {D : List (String × DataW Unit)} {fresh handsOn : Bool} {H : Type} {enc : TypeId × Value → H}
    (own : ownKnob C.prog.godebug = none) (started : os.Started) (noInit : C.prog.inits.idxOf? f = none) (hfn : C.prog.funcs[f]? = some fn)
    (witness : ∃ (w : World) (tape : Tape) (i : Input), w.os = os ∧ (w.forCall tape i).Shaped C.prog ∧ i.vars = [] ∧ Input.okWide C.prog (w.forCall tape i) .any w.heap.size f i ∧
      ((s.pre enc C.prog fn conds false (w.forCall tape i).memory i.args ∧ laidMetH C.prog D (w.forCall tape i).memory) ∧ sizedMet enc C.prog fn (OpenSpec.ofChange s) false (w.forCall tape i).memory i.args) ∧ Assume.holds {} C.prog (lone (Frame.enter C.prog f i.args .normal) [] (w.forCall tape i)))
    (hvars : s.vars = []) (hparams : lR te fn.params.toList = true) (hread : ∀ t ∈ fn.params.toList, C.prog.readableRec t = true ∧ t < C.prog.types.size) {tb : TypeId} (hres : fn.resultTypes = #[tb]) (hub : C.prog.underlying tb = some .bool)
    (hspec : ∀ ds : List (DataW H), ds.length = fn.params.toList.length → s.fn H ds = { results := [.lit (.bool true)], args := ds })
    (hcon : ∀ A, ai (vo te) fn.params.toList A → vL C.prog f A [(false, [.c (.bool true)])]) (hG : ∀ W, laidMetH C.prog D W → GW W) :
    ReturnsInHanded {} C os f .any (λw args => (s.pre enc C.prog fn conds false w args ∧ laidMetH C.prog D w) ∧ sizedMet enc C.prog fn (OpenSpec.ofChange s) false w args) (s.post enc C.prog fn false fresh handsOn false) := by
  refine returnsInHanded_of_change_and (X := λw _ => laidMetH C.prog D w) (λ_ _ _ hh h => laidMetH.of_heap hh h) own started noInit hfn witness ?_
  intro W base args ds gs before hval hw' hc hwt hlaid hholds
  have hlt := hw'.lt
  have hw2 := hw'
  obtain ⟨p, q, hA, hV, rfl, hfz, hnd⟩ := hw2
  rw [hvars] at hV
  obtain ⟨rfl, rfl⟩ := trodVars_none hV
  simp only [List.append_nil] at hwt hw' hlt
  have hvt : s.plain.varTypes C.prog = [] := by
    simp [DataSpec.varTypes, ChangeSpec.plain, hvars]
  rw [hvt, List.append_nil] at hwt
  obtain ⟨A, hA1, hA2⟩ := t4 (base := base) hte hfl hparams (λj t v h1 h2 => hval j t v (by simpa using h1) (by simpa using h2)) hA hwt
  refine ((hcon A hA1).2 (W) (z7 (W)) [] args (λ_ h => h) trivial ⟨by simp, by simp, by simp, by simp⟩ (λ_ h => by obtain ⟨_, h, _⟩ := h; simp at h) (hG _ hlaid) (λ_ h => by obtain ⟨_, h, _⟩ := h; simp at h) hA2).mono ?_
  rintro e W' ⟨v, Jn, mm, rfl, hBX, _, _, _, hR, _⟩
  have hB : Below (W).heap.size (W) W' := ⟨hBX.os, hBX.tape, hBX.output, hBX.size, λb hb => hBX.block b hb (λhx => by obtain ⟨_, hx, _⟩ := hx; simp at hx)⟩
  have hv : v = .bool true := by
    have h1 := hR.2.2.1
    cases h1; rfl
  subst hv
  refine ⟨_, rfl, ?_⟩
  have hlen := (nf hA).1
  refine ⟨ds, [], p, [], p, [], hw', ?_, ?_, ?_, hB.frame _, λh => by cases h⟩
  · rw [List.append_nil, hspec ds hlen, hres]
    exact trodAll_mk1 (shut_bool hub true)
  · rw [List.append_nil, hspec ds hlen]
    exact kG hlo hB hread hA hlt
  · rw [List.append_nil, hspec ds hlen, hvars]
    rfl
/-- the tables that each row lists -/
def vG : List (String × DataW Unit) := [("math/bits.deBruijn32tab", Rows.laid_math_bits_deBruijn32tab), ("math/bits.deBruijn64tab", Rows.laid_math_bits_deBruijn64tab), ("internal/strconv.uint64pow10", Rows.laid_internal_strconv_uint64pow10)]
/-- The door's own heap meets the condition. -/
theorem xZ (os : Os) (args : Array Value) : laidMetH Tryd.prog vG ((World.doorLaid Tryd.prog 400 os).forCall (λ_ _ => 0) ⟨#[], args, []⟩).memory :=
  laidMetH_of_parts3 (fuel := 8) (laidMet_of_run' 8 (by kernel_rfl) (by kernel_rfl)) (by kernel_rfl) (by kernel_rfl)
theorem Al : Tryd.prog.globalNamed "internal/strconv.uint64pow10" = some 1 := by kernel_rfl
theorem AJ : (Tryd.prog.globals[1]?).map (·.type) = some 98 := by kernel_rfl
theorem yO : (Rows.laid_internal_strconv_uint64pow10 : DataW Unit) = Lib.tabData .u64 ((List.range 20).map λi => ((10 ^ i : Nat) : Int)) := rfl
theorem uo (W : World) (h : laidMetH Tryd.prog vG W) : GW W := by
  rw [MakeChecks.laidMetH_plain _ _ _ (by kernel_rfl)] at h
  obtain ⟨ps, ⟨_, _, _, _, _, _, _, _, _, _, ⟨_, _, _, _, _, _, _, _, _, _, ⟨g2, t2, cs2, f2, p2, q2, hg2, ht2, hv2, hd2, _, _⟩, _⟩, _⟩, _, _⟩ := h
  obtain rfl := Option.some.inj (Al.symm.trans hg2)
  obtain rfl := Option.some.inj (AJ.symm.trans ht2)
  rw [yO] at hd2
  have hc := Lib.cells_of_tab Tryd.underlying98 Tryd.underlying32 (by kernel_rfl) (by kernel_rfl) hd2
  intro p hp
  have : p = (1, (List.range 20).map λi => ((10 ^ i : Nat) : Int)) := by simpa [tG] using hp
  subst this
  simp only [World.var?, Al, Option.bind_some] at hv2
  cases hw : W.heap[1]? with
  | none => rw [hw] at hv2; cases hv2
  | some o =>
    rw [hw] at hv2
    cases o with
    | cells cs t z =>
      have e := Option.some.inj hv2
      refine ⟨t, z, ?_⟩
      rw [show cs = ((List.range 20).map λi => Value.int .u64 ((10 ^ i : Nat) : Int)).toArray from by rw [e, ← Array.toList_inj, hc]; simp]
      rfl
    | _ => cases hv2
end Go.Proofs.YtfpdenjmlnhnnaaDoor

