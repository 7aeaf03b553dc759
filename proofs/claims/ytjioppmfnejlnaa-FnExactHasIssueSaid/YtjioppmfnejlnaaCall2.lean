/-
  A call: its arguments, its results.
-/
import Derived.Test.YtjioppmfnejlnaaCall
namespace Go.Proofs.Ytjioppmfnejlnaa
open Go Go.RowKit

section
variable {w0 : World} {n : Nat} {I0 I : Nat → Prop} {M : Nat → Option (Nat × Nat)} {s : FS} {a : Act} {w : World}

theorem impRes_cons (k : Nat) (ag : Bool) (cs : List RC) (r : Res) :
    impRes k ((ag, cs) :: r) = ((ag, (impCells k cs).1) :: (impRes (impCells k cs).2.2 r).1, (impCells k cs).2.1 ++ (impRes (impCells k cs).2.2 r).2) := rfl

def nOwns : Res → Nat
  | [] => 0
  | r :: rs => nOwn r.2 + nOwns rs

def AggOf (ag : Bool) (v : Value) (us : List Value) : Prop := match ag with | true => ∃ a : Array Value, v = .agg a ∧ a.toList = us | false => us = [v]

theorem caps_pv {J J' : Nat → Prop} (hJ : ∀ b, J b → J' b) : ∀ {caps : List (Bool × List Cell)} {us : List Value}, RepCaps J w caps us → All2 (RepPV J' w) (caps.map fun c => .val c.1 c.2) us
  | [], [], _ => trivial
  | _ :: _, _ :: _, h => ⟨h.1.mono (fun _ _ => rfl) hJ, caps_pv hJ h.2⟩
  | [], _ :: _, h => h.elim
  | _ :: _, [], h => h.elim

theorem repV1_of {x : Cx} {ag : Bool} {ds : List DC} {v : Value} {us : List Value} (hall : All2 (fun c u => RepDC x c u ∧ u.oneCell' = true) ds us) (hv : AggOf ag v us) : RepV1 x ag ds v := by
  cases ag with
  | true => obtain ⟨a, rfl, rfl⟩ := hv; exact ⟨a, rfl, hall⟩
  | false =>
    simp only [AggOf] at hv
    subst hv
    match ds, hall with
    | [c], hall => exact ⟨c, rfl, hall.1.1⟩
    | [], hall => exact hall.elim
    | _ :: _ :: _, hall => exact hall.2.elim

theorem import_rs {base N : Nat} {J Jn : Nat → Prop} {mm : Nat → Option (Nat × Nat)} (hinj : ∀ i j b c c', mm i = some (b, c) → mm j = some (b, c') → i = j) (hN : w0.heap.size ≤ N) (hIN : ∀ b, N ≤ b → I b → Jn b) (hJ : ∀ b, J b → I b)
    (hJn : ∀ b, Jn b → I b ∧ w0.heap.size ≤ b) : ∀ {R : Res} {k : Nat} {vs : List Value} {s : FS} {M : Nat → Option (Nat × Nat)} {a : Act}, SimX w0 n I0 I M s a w → RepRs N J Jn w mm k R vs → Free s M mm k →
      (∀ id, base + k ≤ id → id < base + k + nOwns R → s.obj id = none) →
      ∃ M', Ext (cxOf w0 I0 I M s w) ⟨w0.heap.size, I0, I, M', newL s.obj (base + k) (impRes (base + k) R).2, w⟩ ∧ SimX w0 n I0 I M' ⟨s.tmp, newL s.obj (base + k) (impRes (base + k) R).2⟩ a w ∧
        All2 (fun p u => RepV1 ⟨w0.heap.size, I0, I, M', newL s.obj (base + k) (impRes (base + k) R).2, w⟩ p.1 p.2 u) (impRes (base + k) R).1 vs
  | [], k, [], s, M, a, h, _, hfr, _ => ⟨M, Ext.refl h.i00, h, trivial⟩
  | (ag, rcs) :: R, k, v :: vs, s, M, a, h, hr, hfr, hid => by
    have h1 : ∃ us, RepCs N J Jn w mm k rcs us ∧ AggOf ag v us := by
      have := hr.1
      cases ag with
      | true => obtain ⟨us, hv, hu⟩ := this; exact ⟨us.toList, hu, us, hv, rfl⟩
      | false => exact ⟨[v], this.2.2, rfl⟩
    obtain ⟨us, hus, hv⟩ := h1
    obtain ⟨M1, hext1, hs1, hall1, hfr1, hn1, hl1⟩ := import_cells (base := base) hinj hN hIN hJ hJn h hus hfr (fun id h1 h2 => hid id h1 (by simp only [nOwns]; omega))
    obtain ⟨M2, hext2, hs2, hall2⟩ := import_rs (base := base) (R := R) (k := k + nOwn rcs) hinj hN hIN hJ hJn hs1 hr.2 hfr1 (by
      intro id h1 h2
      have : look (newAt (base + k) (impCells (base + k) rcs).2.1) id = none := look_none_of fun hc => by
        have := newAt_rng hc
        omega
      simp only [newL, this]
      exact hid id (by omega) (by simp only [nOwns]; omega))
    rw [impRes_cons]
    simp only []
    have e1 : (impCells (base + k) rcs).2.2 = base + (k + nOwn rcs) := by rw [hn1]; omega
    have e2 : newL (newL s.obj (base + k) (impCells (base + k) rcs).2.1) (base + (k + nOwn rcs)) (impRes (base + (k + nOwn rcs)) R).2 = newL s.obj (base + k) ((impCells (base + k) rcs).2.1 ++ (impRes (base + (k + nOwn rcs)) R).2) := by
      rw [← newL_append, hl1, Nat.add_assoc]
    rw [e1]
    simp only [] at hext2 hs2 hall2
    rw [e2] at hext2 hs2 hall2
    refine ⟨M2, hext1.trans hext2, hs2, (repV1_of hall1 hv).ext hext2, hall2⟩
  | [], _, _ :: _, _, _, _, _, h, _, _ => h.elim
  | _ :: _, _, [], _, _, _, _, h, _, _ => h.elim

/-- the results of a call come in -/
theorem import_res (h : SimX w0 n I0 I M s a w) {w' : World} (hB : Below w.heap.size w w') {base : Nat} {Jn : Nat → Prop} {mm : Nat → Option (Nat × Nat)} (hJn : ∀ b, Jn b → w.heap.size ≤ b ∧ b < w'.heap.size)
    (hinj : ∀ i j b c c', mm i = some (b, c) → mm j = some (b, c') → i = j) (hmm : ∀ i b c, mm i = some (b, c) → w.heap.size ≤ b) {R : Res} {v : Value} (hR : RepRes w.heap.size I Jn w' mm R v)
    (hid : ∀ id, base ≤ id → id < base + nOwns R → s.obj id = none) :
    ∃ M', SimX w0 n I0 (fun b => I b ∨ Jn b) M' ⟨s.tmp, newL s.obj base (impRes base R).2⟩ a w' ∧ RepV ⟨w0.heap.size, I0, fun b => I b ∨ Jn b, M', newL s.obj base (impRes base R).2, w'⟩ (resVal (impRes base R).1) v := by
  have hext : Ext (cxOf w0 I0 I M s w) ⟨w0.heap.size, I0, fun b => I b ∨ Jn b, M, s.obj, w'⟩ :=
    ⟨rfl, rfl, h.i00, fun _ hb => .inl hb, fun b hb => hB.block b (h.ilt b hb), fun id cs ho => ⟨⟨cs, ho⟩, rfl⟩, fun id t xs v f d ho => ⟨t, xs, v, f, d, ho, Nat.le_refl _, fun _ => ⟨rfl, rfl, rfl⟩⟩⟩
  have hs' := h.turn (M' := M) (obj' := s.obj) hext ⟨hB.os, hB.tape, hB.output, hB.size, fun k hk => hB.block k (Nat.lt_of_lt_of_le hk h.below.size)⟩ (by
    rintro b (hb | hb)
    · exact Nat.lt_of_lt_of_le (h.ilt b hb) hB.size
    · exact (hJn b hb).2) (by
    rintro b (hb | hb)
    · exact h.idiv b hb
    · exact .inr (Nat.le_trans h.below.size (hJn b hb).1)) (by
    intro id o ho
    refine (h.objs id o ho).ext hext rfl hB.size fun b cap hM => ?_
    have hlt := (h.blk (by rw [ho]; simp) hM).2
    refine ⟨hB.block b hlt, ?_⟩
    rintro (hb | hb)
    · exact hb
    · have := (hJn b hb).1; omega) h.inj
  have hfr : Free ⟨s.tmp, s.obj⟩ M mm 0 := by
    intro i id b c c' _ ho hM hm
    have := (h.blk ho hM).2
    have := hmm i b c' hm
    omega
  have hIN : ∀ b, w.heap.size ≤ b → (I b ∨ Jn b) → Jn b := by
    rintro b hb (h1 | h1)
    · have := h.ilt b h1; omega
    · exact h1
  have hJn' : ∀ b, Jn b → (I b ∨ Jn b) ∧ w0.heap.size ≤ b := fun b hb => ⟨.inr hb, Nat.le_trans h.below.size (hJn b hb).1⟩
  have hmain : ∀ vs, RepRs w.heap.size I Jn w' mm 0 R vs → ∃ M', SimX w0 n I0 (fun b => I b ∨ Jn b) M' ⟨s.tmp, newL s.obj base (impRes base R).2⟩ a w' ∧
      All2 (fun p u => RepV1 ⟨w0.heap.size, I0, fun b => I b ∨ Jn b, M', newL s.obj base (impRes base R).2, w'⟩ p.1 p.2 u) (impRes base R).1 vs := by
    intro vs hvs
    obtain ⟨M', _, h2, h3⟩ := import_rs (base := base) (k := 0) hinj h.below.size hIN (fun b hb => .inl hb) hJn' hs' hvs hfr hid
    exact ⟨M', h2, h3⟩
  match R, hR, hmain with
  | [r], hR, hmain =>
    obtain ⟨M', h2, h3⟩ := hmain [v] ⟨hR, trivial⟩
    obtain ⟨ag, rcs⟩ := r
    rw [impRes_cons] at h2 h3 ⊢
    exact ⟨M', h2, h3.1⟩
  | [], hR, hmain =>
    obtain ⟨us, rfl, hu⟩ := hR
    obtain ⟨M', h2, h3⟩ := hmain _ hu
    exact ⟨M', h2, us, rfl, h3⟩
  | r1 :: r2 :: rs, hR, hmain =>
    obtain ⟨us, rfl, hu⟩ := hR
    obtain ⟨M', h2, h3⟩ := hmain _ hu
    exact ⟨M', h2, us, rfl, h3⟩

end

section
variable {α : Type} {C : Nat → List PV → Res → Prop} {w0 : World} {n : Nat} {I0 I : Nat → Prop} {M : Nat → Option (Nat × Nat)} {s : FS} {a : Act} {w : World} {te : TE} {P : Program} {base : Nat} {o : Oper}

def LayPV (x : Cx) (u : List (Nat × Ob)) (A : PV) (v : Value) : Prop :=
  ∀ x', Ext x x' → x'.w = x.w → (∀ p ∈ u, ∀ b k, x.M p.1 = some (b, k) → x'.I b) → RepPV x'.I x'.w A v

theorem RepC.ofPv {x : Cx} {d : Bool} {w : World} {c : Cell} {v : Value} (h : RepC (x.J (pvOf d)) w c v) : RepC x.I w c v := by
  cases d with
  | true => exact h.mono (fun _ _ => rfl) fun b hb => hb.1
  | false => exact h

theorem argPV_inv (h : SimX w0 n I0 I M s a w) {ti : TI} {d : DV} {v : Value} (hd : RepV (cxOf w0 I0 I M s w) d v) {k : PV → List (Nat × Ob) → Rd α} {e : α} (hr : RelE C s (argPV ti d k) e) :
    ∃ A u, LayPV (cxOf w0 I0 I M s w) u A v ∧ FrzList s u ∧ RelE C s (k A u) e := by
  unfold argPV at hr
  split at hr
  · rename_i f caps
    refine ⟨_, _, fun x' hext hw _ => ?_, by simp [FrzList], hr⟩
    obtain ⟨c, hc, hv⟩ := hd
    cases hc
    obtain ⟨us, hv, hu⟩ := hv
    exact ⟨us, hv, hu.mono hext.w hext.i⟩
  · rename_i ag cs _
    obtain ⟨xs, d', u, hlay, hfz, hr⟩ := layCells_inv h (repV_cells hd) hr
    refine ⟨_, _, fun x' hext hw hb => ?_, hfz, hr⟩
    have hall := LayRep.get hlay hext hw hb
    cases ag with
    | true =>
      obtain ⟨us, rfl, _⟩ := hd
      exact ⟨us, rfl, hall.mono fun _ _ hh => RepC.ofPv hh⟩
    | false =>
      simp only [Bool.false_eq_true, if_false] at hall
      match xs, hall with
      | [c], hall => exact ⟨c, rfl, RepC.ofPv hall.1⟩
      | [], hall => exact hall.elim
      | _ :: _ :: _, hall => exact hall.2.elim
  · exact hr.fail.elim

theorem LayPV.mono {x : Cx} {u u' : List (Nat × Ob)} {A : PV} {v : Value} (h : LayPV x u A v) (hu : ∀ p ∈ u, p ∈ u') : LayPV x u' A v :=
  fun x' hext hw hb => h x' hext hw fun p hp => hb p (hu p hp)

theorem argPVs_inv (h : SimX w0 n I0 I M s a w) : ∀ {args : List Operand} {tys : List TypeId} {k : List PV → List (Nat × Ob) → Rd α} {e : α}, RelE C s (argPVs te args tys k) e →
    ∃ A u, All2 (LayPV (cxOf w0 I0 I M s w) u) A (args.map a.eval) ∧ FrzList s u ∧ RelE C s (k A u) e
  | [], [], k, e, hr => ⟨[], [], trivial, by simp [FrzList], hr⟩
  | x :: xs, t :: ts, k, e, hr => by
    simp only [argPVs] at hr
    split at hr
    · rename_i ti hl
      obtain ⟨d, hd, hr⟩ := opd_inv h hr
      obtain ⟨A, u, hA, hu, hr⟩ := argPV_inv h hd hr
      obtain ⟨As, us, hAs, hus, hr⟩ := argPVs_inv h hr
      exact ⟨A :: As, u ++ us, ⟨hA.mono fun p hp => List.mem_append_left _ hp, hAs.mono fun _ _ hh => hh.mono fun p hp => List.mem_append_right _ hp⟩, hu.append hus, hr⟩
    · exact hr.fail.elim
  | [], _ :: _, _, _, hr => hr.fail.elim
  | _ :: _, [], _, _, hr => hr.fail.elim

theorem impCells_len : ∀ (k : Nat) (rcs : List RC), (impCells k rcs).2.1.length = nOwn rcs ∧ (impCells k rcs).2.2 = k + nOwn rcs
  | k, [] => ⟨rfl, rfl⟩
  | k, .c x :: r => impCells_len k r
  | k, .own d t xs :: r => by
    have := impCells_len (k + 1) r
    refine ⟨?_, ?_⟩
    · show (impCells (k + 1) r).2.1.length + 1 = _
      rw [this.1]; rfl
    · show (impCells (k + 1) r).2.2 = _
      rw [this.2]; simp only [nOwn]; omega

theorem impRes_len : ∀ (R : Res) (k : Nat), (impRes k R).2.length = nOwns R
  | [], _ => rfl
  | (ag, rcs) :: R, k => by
    rw [impRes_cons]
    simp only [List.length_append, nOwns, (impCells_len k rcs).1, impRes_len R]

/-- a call -/
theorem call_core (h : SimX w0 n I0 I M s a w) {f : Nat} {args : List Operand} {tys : List TypeId} {caps : List (Bool × List Cell)} {us : List Value} (hcaps : RepCaps I w caps us) {e : Eff}
    (hr : RelE (Con P) s (callRd te base f args tys caps) e) (hid : ∀ id ∈ (newAt base e.new).map (·.1), s.obj id = none) (vs : Array Value) (hvs : vs.toList = args.map a.eval ++ us) :
    (∀ args w, (callFunc f args).run P w = .ok (.enter f args) w) ∧ Calls P f vs w fun e' w' => ∃ v I' M' obj', e' = .returned v ∧ SimX w0 n I0 I' M' ⟨s.tmp, obj'⟩ a w' ∧ RepV ⟨w0.heap.size, I0, I', M', obj', w'⟩ e.val v ∧
      ∀ id, obj' id = (match look (e.upd ++ newAt base e.new) id with | some o => some o | none => s.obj id) := by
  unfold callRd at hr
  obtain ⟨A, u, hA, hfz, hr⟩ := argPVs_inv h hr
  obtain ⟨R, hcon, hr⟩ := hr.call
  have hr2 : RelE (Con P) s (.ret ⟨resVal (impRes base R).1, (impRes base R).2, if R.any (fun r => r.2.any RC.shares) then u else []⟩) e := hr
  cases hr2.ret
  obtain ⟨I1, hIb, hext1, hs1⟩ := freezeAll h hfz
  refine ⟨hcon.1, (hcon.2 w I1 vs hs1.ilt ?_).mono ?_⟩
  · rw [hvs]
    exact All2.append (hA.mono fun _ _ hh => hh _ hext1 rfl hIb) (caps_pv hext1.i hcaps)
  · rintro e' w' ⟨v, Jn, mm, rfl, hB, hJn, hinj, hmm, hR⟩
    have hids : ∀ id, base ≤ id → id < base + nOwns R → s.obj id = none := fun id h1 h2 => hid id (newAt_mem h1 (by simp only [impRes_len]; exact h2))
    cases hsh : R.any (fun r => r.2.any RC.shares) with
    | true =>
      have hids1 : ∀ id, base ≤ id → id < base + nOwns R → updL s.obj u id = none := by
        intro id h1 h2
        have h3 := hids id h1 h2
        unfold updL
        cases hlk : look u id with
        | none => exact h3
        | some ob =>
          exfalso
          obtain ⟨q, hq, hqi⟩ := List.mem_map.1 (look_some_mem hlk)
          obtain ⟨t', xs', ver', f', d', _, h4⟩ := hfz q hq
          rw [hqi, h3] at h4; cases h4
      obtain ⟨M', hs', hv'⟩ := import_res (base := base) hs1 hB hJn hinj hmm (hR.settle I1 (fun _ _ hb => hb)) hids1
      refine ⟨v, _, M', _, rfl, hs', hv', fun id => ?_⟩
      simp only [newL, if_true, look_append, updL]
      cases h1 : look (newAt base (impRes base R).2) id with
      | none => cases look u id <;> rfl
      | some ob =>
        have h2 := newAt_rng (look_some_mem h1)
        rw [impRes_len] at h2
        have h3 := hids1 id h2.1 h2.2
        unfold updL at h3
        cases hlk : look u id with
        | none => rfl
        | some _ => rw [hlk] at h3; cases h3
    | false =>
      obtain ⟨M', hs', hv'⟩ := import_res (base := base) h hB hJn hinj hmm (hR.settle I (fun hc => by rw [hsh] at hc; cases hc)) hids
      refine ⟨v, _, M', _, rfl, hs', hv', fun id => ?_⟩
      simp only [newL, Bool.false_eq_true, if_false, List.nil_append]
      try rfl

/-- the same, as the operation is run -/
theorem did_call (h : SimX w0 n I0 I M s a w) {f : Nat} {args : List Operand} {tys : List TypeId} {caps : List (Bool × List Cell)} {us : List Value} (hcaps : RepCaps I w caps us) {e : Eff}
    (hr : RelE (Con P) s (callRd te base f args tys caps) e) (hid : ∀ id ∈ (newAt base e.new).map (·.1), s.obj id = none) (vs : Array Value) (hvs : vs.toList = args.map a.eval ++ us)
    (hrun : execOp a.eval o = callFunc f vs) (hd : ∀ d, o.dst = some d → d < n) {K : Act → World → Prop} {Q : Exit → Act → World → Prop}
    (hK : ∀ a' w', Sim w0 n I0 (s.wr o.dst e.val (e.upd ++ newAt base e.new)) a' w' → K a' w') : o.wp P a w K Q := by
  obtain ⟨henter, hcalls⟩ := call_core h hcaps hr hid vs hvs
  unfold Oper.wp
  rw [hrun, henter, Oper.upon_enter]
  refine hcalls.mono ?_
  rintro e' w' ⟨v, I', M', obj', rfl, hs, hv, hobj⟩
  refine hK _ _ ⟨I', M', ?_⟩
  have := hs.put (dst := o.dst) hd hv
  have e1 : (FS.mk s.tmp obj').wr o.dst e.val [] = s.wr o.dst e.val (e.upd ++ newAt base e.new) := by
    simp only [FS.wr, FS.mk.injEq, true_and]
    funext id
    simp only [look]
    exact hobj id
  rw [e1] at this
  exact this
end
end Go.Proofs.Ytjioppmfnejlnaa
