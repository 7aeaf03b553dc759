/-
  Functions: results, and the contract out of a run of the executor.
-/
import Derived.Test.YtjioppmfnejlnaaEval
namespace Go.Proofs.Ytjioppmfnejlnaa
open Go Go.RowKit

section
variable {w0 : World} {n : Nat} {I0 I : Nat → Prop} {M : Nat → Option (Nat × Nat)} {s : St} {a : Act} {w : World} {te : TE} {P : Program}

theorem nOwn_append (xs ys : List RC) : nOwn (xs ++ ys) = nOwn xs + nOwn ys := by
  induction xs with
  | nil => simp [nOwn]
  | cons x xs ih => cases x <;> simp only [List.cons_append, nOwn, ih] <;> omega

theorem RepCs.append {N : Nat} {J Jn : Nat → Prop} {mm : Nat → Option (Nat × Nat)} : ∀ {k : Nat} {xs ys : List RC} {vs us : List Value}, RepCs N J Jn w mm k xs vs → RepCs N J Jn w mm (k + nOwn xs) ys us → RepCs N J Jn w mm k (xs ++ ys) (vs ++ us)
  | _, [], _, [], _, _, h => by simpa [nOwn] using h
  | k, .c x :: xs, ys, v :: vs, us, h, h2 => ⟨h.1, RepCs.append h.2 h2⟩
  | k, .own d t e :: xs, ys, v :: vs, us, h, h2 => ⟨h.1, RepCs.append h.2 (by simp only [nOwn] at h2; rw [show k + 1 + nOwn xs = k + (nOwn xs + 1) from by omega]; exact h2)⟩
  | _, [], _, _ :: _, _, h, _ => h.elim
  | _, .c _ :: _, _, [], _, h, _ => h.elim
  | _, .own _ _ _ :: _, _, [], _, h, _ => h.elim

/-- the blocks of the arrays that go out -/
structure MsOk (M : Nat → Option (Nat × Nat)) (s : St) (used used' : List Nat) (ms : List (Option (Nat × Nat))) : Prop where
  fresh : ∀ (i b c : Nat), ms[i]? = some (some (b, c)) → ∃ id, id ∈ used' ∧ id ∉ used ∧ s.obj id ≠ none ∧ M id = some (b, c)
  dist : ∀ (i j b c c' : Nat), ms[i]? = some (some (b, c)) → ms[j]? = some (some (b, c')) → i = j
  sub : ∀ x : Nat, x ∈ used → x ∈ used'

theorem MsOk.nil (used : List Nat) : MsOk M s used used [] := ⟨by simp, by simp, fun _ h => h⟩

theorem MsOk.append (h : SimX w0 n I0 I M s.den a w) {u0 u1 u2 : List Nat} {m1 m2 : List (Option (Nat × Nat))} (h1 : MsOk M s u0 u1 m1) (h2 : MsOk M s u1 u2 m2) : MsOk M s u0 u2 (m1 ++ m2) := by
  have hcross : ∀ (i j b c c' : Nat), m1[i]? = some (some (b, c)) → m2[j]? = some (some (b, c')) → False := by
    intro i j b c c' hi hj
    obtain ⟨id, hid, _, ho, hm⟩ := h1.fresh i b c hi
    obtain ⟨id', _, hid', ho', hm'⟩ := h2.fresh j b c' hj
    have := h.inj id id' b c c' ho ho' hm hm'
    subst this
    exact hid' hid
  refine ⟨fun i b c hi => ?_, fun i j b c c' hi hj => ?_, fun x hx => h2.sub x (h1.sub x hx)⟩
  · rw [List.getElem?_append] at hi
    split at hi
    · obtain ⟨id, h3, h4, h5, h6⟩ := h1.fresh _ b c hi
      exact ⟨id, h2.sub id h3, h4, h5, h6⟩
    · obtain ⟨id, h3, h4, h5, h6⟩ := h2.fresh _ b c hi
      exact ⟨id, h3, fun hc => h4 (h1.sub id hc), h5, h6⟩
  · rw [List.getElem?_append] at hi hj
    split at hi <;> split at hj
    · exact h1.dist i j b c c' hi hj
    · exact (hcross _ _ b c c' hi hj).elim
    · exact (hcross _ _ b c' c hj hi).elim
    · have := h2.dist _ _ b c c' hi hj
      omega

abbrev jn (w0 : World) (I : Nat → Prop) : Nat → Prop := fun b => I b ∧ w0.heap.size ≤ b

def Places (ms : List (Option (Nat × Nat))) (mm : Nat → Option (Nat × Nat)) (k : Nat) : Prop := ∀ (i : Nat) (m : Option (Nat × Nat)), ms[i]? = some m → mm (k + i) = m

theorem Places.left {m1 m2 : List (Option (Nat × Nat))} {mm : Nat → Option (Nat × Nat)} {k : Nat} (h : Places (m1 ++ m2) mm k) : Places m1 mm k := by
  intro i m hi
  refine h i m ?_
  rw [List.getElem?_append_left (List.getElem?_eq_some_iff.1 hi).1]
  exact hi

theorem Places.right {m1 m2 : List (Option (Nat × Nat))} {mm : Nat → Option (Nat × Nat)} {k : Nat} (h : Places (m1 ++ m2) mm k) : Places m2 mm (k + m1.length) := by
  intro i m hi
  have := h (m1.length + i) m (by rw [List.getElem?_append_right (by omega)]; simpa using hi)
  rw [← this]; congr 1; omega

theorem RepC.out (h : SimX w0 n I0 I M s.den a w) {p : Pv} {c : Cell} {v : Value} (hc : RepC ((cxOf w0 I0 I M s.den w).J p) w c v) : RepC (fun b => I0 b ∨ jn w0 I b) w c v := by
  refine hc.mono (fun _ _ => rfl) fun b hb => ?_
  cases p with
  | arg => exact .inl hb
  | new => exact .inr hb
  | any =>
    rcases h.idiv b hb with h1 | h1
    · exact .inl h1
    · exact .inr ⟨hb, h1⟩

theorem resCell_inv (h : SimX w0 n I0 I M s.den a w) {f : Fl} {c : DC} {v : Value} (hc : RepDC (cxOf w0 I0 I M s.den w) c v) {used : List Nat} {k : RC → List Nat → Option Res} {z : Res} (hr : resCell s f c used k = some z) :
    ∃ x used' ms, k x used' = some z ∧ MsOk M s used used' ms ∧ ms.length = nOwn [x] ∧ ∀ mm k, Places ms mm k → RepCs w0.heap.size I0 (jn w0 I) w mm k [x] [v] := by
  cases c with
  | bool b => simp only [RepDC] at hc; rw [hc]; exact ⟨_, _, [], hr, .nil _, rfl, fun _ _ _ => ⟨.bool b, trivial⟩⟩
  | int kk m => rw [hc.1]; exact ⟨_, _, [], hr, .nil _, rfl, fun _ _ _ => ⟨.int _ _ hc.2, trivial⟩⟩
  | str b => obtain ⟨b', rfl, rfl, hl⟩ := hc; exact ⟨_, _, [], hr, .nil _, rfl, fun _ _ _ => ⟨.str b' hl, trivial⟩⟩
  | sl p t xs => exact ⟨_, _, [], hr, .nil _, rfl, fun _ _ _ => ⟨RepC.out h (p := p) hc, trivial⟩⟩
  | nil =>
    simp only [RepDC] at hc
    rw [hc]
    cases f with
    | sl t =>
      refine ⟨_, _, [none], hr, ⟨?_, ?_, fun _ h => h⟩, rfl, fun mm k hp => ⟨?_, trivial⟩⟩
      · intro i b c hi
        cases i <;> simp at hi
      · intro i j b c c' hi hj
        cases i <;> simp at hi
      · have := hp 0 none rfl
        rw [Nat.add_zero] at this
        rw [this]
        exact ⟨⟨_, rfl⟩, .inl ⟨rfl, rfl⟩⟩
    | _ => cases hr
  | own id ver =>
    obtain ⟨t, xs, ver', frz, d, ho, hv, hval, h1⟩ := hc
    have ho' : s.obj id = some (.arr t xs ver' frz d) := ho
    simp only [resCell, ho'] at hr
    cases hb : Nat.beq ver ver' with
    | false => rw [hb] at hr; cases hr
    | true =>
      rw [hb] at hr
      have hval := hval (Nat.eq_of_beq_eq_true hb)
      simp only [] at hval
      have hro := h.objs id _ ho
      cases hfu : (frz || mem id used) with
      | false =>
        rw [hfu] at hr
        simp only [Bool.or_eq_false_iff] at hfu
        obtain ⟨rfl, hnu⟩ := hfu
        have hnu' : id ∉ used := fun hc => by rw [mem_iff.2 hc] at hnu; cases hnu
        refine ⟨_, _, [M id], hr, ⟨?_, ?_, fun x hx => List.mem_cons_of_mem _ hx⟩, rfl, fun mm k hp => ⟨?_, trivial⟩⟩
        · intro i b c hi
          cases i with
          | zero => simp only [List.getElem?_cons_zero, Option.some.injEq] at hi; exact ⟨id, List.mem_cons_self, hnu', by rw [ho']; simp, hi⟩
          | succ i => simp at hi
        · intro i j b c c' hi hj
          cases i with
          | succ i => simp at hi
          | zero => cases j with
            | succ j => simp at hj
            | zero => rfl
        · have := hp 0 _ rfl
          rw [Nat.add_zero] at this
          rw [this]
          refine ⟨hval, ?_⟩
          rcases hro with h2 | ⟨b, cap, h2, h3, h4, h5, h6, h7, h8, h9⟩
          · exact .inl h2
          · refine .inr ⟨b, cap, h2, h3, h4, fun hj => ?_, h6, h7, h8, fun i e j c he hc => ?_⟩
            · have := h5.1 hj.1; cases this
            · obtain ⟨u, hu, hru⟩ := h9 i e j c he hc
              refine ⟨u, hu, hru.mono (fun _ _ => rfl) fun b' hb' => ?_⟩
              cases d with
              | true => exact .inr hb'
              | false =>
                have hb2 : I b' := hb'
                rcases h.idiv b' hb2 with h10 | h10
                · exact .inl ⟨h10, rfl⟩
                · exact .inr ⟨hb2, h10⟩
      | true =>
        rw [hfu] at hr
        cases frz with
        | false => cases hr
        | true =>
          refine ⟨_, _, [], hr, .nil _, rfl, fun _ _ _ => ⟨?_, trivial⟩⟩
          rcases hro with ⟨hM, hnil⟩ | ⟨b, cap, hM, hN, _, hI, hcap, hmx, _, he⟩
          · simp only [] at hM
            rw [hM] at hval
            obtain ⟨_, hval⟩ := hval
            rw [hval, hnil]
            exact RepC.empty t _
          · simp only [] at hM hN
            rw [hM] at hval
            simp only [ownVal] at hval
            rw [hval]
            refine RepC.out h (p := .any) (.sl t xs b 0 cap (fun i j => (w.cell? ⟨b, i * t.size + j, none⟩).getD undef) (fun _ => hI.2 rfl) hmx hcap (fun i x j c hx hc => ?_) (fun i x j c hx hc => ?_))
            · obtain ⟨u, hu, _⟩ := he i x j c hx hc
              simp only [] at hu
              rw [Nat.zero_add, hu]; rfl
            · obtain ⟨u, hu, hru⟩ := he i x j c hx hc
              simp only [] at hu
              rw [hu]
              refine hru.mono (fun _ _ => rfl) fun b' hb' => ?_
              cases d with
              | true => exact hb'.1
              | false => exact hb'
  | ptr _ _ => cases hr
  | eptr _ _ _ _ => cases hr
  | ref _ _ => cases hr
  | fn _ _ => cases hr
  | undef => cases hr
  | skipped => cases hr

theorem resCells_inv (h : SimX w0 n I0 I M s.den a w) : ∀ {fs : List Fl} {cs : List DC} {vs : List Value} {used : List Nat} {k : List RC → List Nat → Option Res} {z : Res}, All2 (fun c u => RepDC (cxOf w0 I0 I M s.den w) c u) cs vs → resCells s fs cs used k = some z →
    ∃ xs used' ms, k xs used' = some z ∧ MsOk M s used used' ms ∧ ms.length = nOwn xs ∧ ∀ mm k, Places ms mm k → RepCs w0.heap.size I0 (jn w0 I) w mm k xs vs
  | [], [], [], used, k, z, _, hr => ⟨[], used, [], hr, .nil _, rfl, fun _ _ _ => trivial⟩
  | f :: fs, c :: cs, v :: vs, used, k, z, hall, hr => by
    obtain ⟨x, u1, m1, hr, hm1, hl1, hr1⟩ := resCell_inv h hall.1 hr
    obtain ⟨xs, u2, m2, hr, hm2, hl2, hr2⟩ := resCells_inv h hall.2 hr
    refine ⟨x :: xs, u2, m1 ++ m2, hr, hm1.append h hm2, ?_, fun mm k hp => ?_⟩
    · rw [List.length_append, hl1, hl2, ← nOwn_append]; rfl
    · have h1 := hr1 mm k hp.left
      have h2 := hr2 mm _ hp.right
      rw [hl1] at h2
      exact RepCs.append (xs := [x]) h1 h2
  | [], _ :: _, _, _, _, _, _, hr => by cases hr
  | _ :: _, [], _, _, _, _, _, hr => by cases hr
  | _ :: _, _ :: _, [], _, _, _, hall, _ => hall.elim
  | [], [], _ :: _, _, _, _, hall, _ => hall.elim

theorem RepCs.len {N : Nat} {J Jn : Nat → Prop} {mm : Nat → Option (Nat × Nat)} : ∀ {k : Nat} {xs : List RC} {vs : List Value}, RepCs N J Jn w mm k xs vs → xs.length = vs.length
  | _, [], [], _ => rfl
  | k, .c x :: xs, v :: vs, h => by simp [RepCs.len h.2]
  | k, .own d t e :: xs, v :: vs, h => by simp [RepCs.len h.2]
  | _, [], _ :: _, h => h.elim
  | _, .c _ :: _, [], h => h.elim
  | _, .own _ _ _ :: _, [], h => h.elim

theorem RepCs.one1 {N : Nat} {J Jn : Nat → Prop} {mm : Nat → Option (Nat × Nat)} {k : Nat} {x : RC} {v : Value} (h : RepCs N J Jn w mm k [x] [v]) : v.oneCell' = true := by
  cases x with
  | c x => exact h.1.one
  | own d t e =>
    have := h.1.1
    cases hm : mm k with
    | none => rw [hm] at this; obtain ⟨_, rfl⟩ := this; rfl
    | some p => obtain ⟨b, c⟩ := p; rw [hm] at this; simp only [ownVal] at this; rw [this]; rfl

theorem resV_inv (h : SimX w0 n I0 I M s.den a w) {fs : List Fl} {ag : Bool} {cs : List DC} {v : Value} (hv : RepV1 (cxOf w0 I0 I M s.den w) ag cs v) {used : List Nat} {k : List RC → List Nat → Option Res} {z : Res} (hr : resCells s fs cs used k = some z) :
    ∃ xs used' ms, k xs used' = some z ∧ MsOk M s used used' ms ∧ ms.length = nOwn xs ∧ ∀ mm k, Places ms mm k → RepR1 w0.heap.size I0 (jn w0 I) w mm k ag xs v := by
  obtain ⟨xs, u, ms, h1, h2, h3, h4⟩ := resCells_inv h (repV_cells hv) hr
  refine ⟨xs, u, ms, h1, h2, h3, fun mm k hp => ?_⟩
  have h5 := h4 mm k hp
  cases ag with
  | true => obtain ⟨us, rfl, _⟩ := hv; exact ⟨us, rfl, h5⟩
  | false =>
    simp only [Bool.false_eq_true, if_false] at h5
    have hl := h5.len
    match xs, h5, hl with
    | [x], h5, _ => exact ⟨h5.one1, rfl, h5⟩
    | [], _, hl => simp at hl
    | _ :: _ :: _, _, hl => simp at hl

def resF : ResultVar → Array Value → Sem Value := fun r tmps => match r with
  | .tmp t => pure (tmps.getD t undef)
  | .cell a t => do loadVar t (← asAddr (tmps.getD a undef))

theorem resOne_inv (hte : teOk te P = true) (h : SimX w0 n I0 I M s.den a w) {r : ResultVar} {t : Nat} {used : List Nat} {k : (Bool × List RC) → List Nat → Option Res} {z : Res} (hr : resOne te s r t used k = some z) :
    ∃ v x used' ms, (resF r a.tmps).run P w = .ok v w ∧ k x used' = some z ∧ MsOk M s used used' ms ∧ ms.length = nOwn x.2 ∧ ∀ mm k, Places ms mm k → RepR1 w0.heap.size I0 (jn w0 I) w mm k x.1 x.2 v := by
  unfold resOne at hr
  split at hr
  · rename_i ti hl
    split at hr
    · rename_i x
      split at hr
      · rename_i ag cs hx
        split at hr
        · have hv := h.tmps x
          have hx' : s.den.tmp x = .v ag cs := hx
          rw [hx'] at hv
          obtain ⟨xs, u, ms, h1, h2, h3, h4⟩ := resV_inv h hv hr
          exact ⟨_, _, u, ms, rfl, h1, h2, h3, h4⟩
        · cases hr
      · cases hr
    · rename_i ad t'
      split at hr
      · rename_i id off hb hx
        have htt := Nat.eq_of_beq_eq_true hb
        subst htt
        split at hr
        · rename_i cs ho
          split at hr
          · rename_i hle
            rw [Bool.and_eq_true] at hle
            obtain ⟨hle, hp1⟩ := hle
            have hp1 := Nat.le_of_ble_eq_true hp1
            have hv := h.tmps ad
            have hx' : s.den.tmp ad = .v false [.ptr id off] := hx
            rw [hx'] at hv
            obtain ⟨c, hc, hv⟩ := hv
            cases hc
            have ho' : s.den.obj id = some (.box cs) := ho
            have hre : RelE (fun _ _ _ => True) s.den (cellsAt (.ptr id off) ti.fl.length (fun cs => .ret cs)) ((cs.drop off).take ti.fl.length) := ⟨_, _, .get ho' (.guard hle (.ret _))⟩
            obtain ⟨cs', b, off', hval, hlen, hcell, hret⟩ := cellsAt_inv h hv hre
            have := hret.ret
            subst this
            obtain ⟨v, hrun, hrep⟩ := load_run (P := P) hte hl hp1 (x := cxOf w0 I0 I M s.den w) (b := b) (off := off') hlen hcell
            obtain ⟨xs, u, ms, h1, h2, h3, h4⟩ := resV_inv h hrep hr
            refine ⟨v, _, u, ms, ?_, h1, h2, h3, h4⟩
            simp only [resF, hval]
            simpa [asAddr] using hrun
          · cases hr
        · cases hr
      · cases hr
  · cases hr

theorem resAll_inv (hte : teOk te P = true) (h : SimX w0 n I0 I M s.den a w) : ∀ {rs : List ResultVar} {ts : List TypeId} {used : List Nat} {k : Res → Option Res} {z : Res}, resAll te s rs ts used k = some z →
    ∃ vs R used' ms, All2 (fun r v => (resF r a.tmps).run P w = .ok v w) rs vs ∧ k R = some z ∧ MsOk M s used used' ms ∧ ms.length = nOwns R ∧ ∀ mm k, Places ms mm k → RepRs w0.heap.size I0 (jn w0 I) w mm k R vs
  | [], [], used, k, z, hr => ⟨[], [], used, [], trivial, hr, .nil _, rfl, fun _ _ _ => trivial⟩
  | r :: rs, t :: ts, used, k, z, hr => by
    obtain ⟨v, x, u1, m1, hrun, hr, hm1, hl1, hr1⟩ := resOne_inv hte h hr
    obtain ⟨vs, R, u2, m2, hruns, hr, hm2, hl2, hr2⟩ := resAll_inv hte h hr
    refine ⟨v :: vs, x :: R, u2, m1 ++ m2, ⟨hrun, hruns⟩, hr, hm1.append h hm2, by simp [hl1, hl2, nOwns], fun mm k hp => ⟨hr1 mm k hp.left, ?_⟩⟩
    have := hr2 mm _ hp.right
    rw [hl1] at this
    exact this
  | [], _ :: _, _, _, _, hr => by cases hr
  | _ :: _, [], _, _, _, hr => by cases hr

theorem run_mapM_all2 {β γ : Type} {f : β → Sem γ} : ∀ {l : List β} {us : List γ}, All2 (fun b u => (f b).run P w = .ok u w) l us → (l.mapM f).run P w = .ok us w
  | [], [], _ => by simp
  | b :: l, u :: us, h => by
    have h2 := run_mapM_all2 h.2
    simp [List.mapM_cons, h.1, h2]
  | [], _ :: _, h => h.elim
  | _ :: _, [], h => h.elim

theorem All2.len' {β γ : Type} {R : β → γ → Prop} {l : List β} {us : List γ} (h : All2 R l us) : us.length = l.length := h.length.symm

theorem RepRs.len {N : Nat} {J Jn : Nat → Prop} {mm : Nat → Option (Nat × Nat)} : ∀ {k : Nat} {R : Res} {vs : List Value}, RepRs N J Jn w mm k R vs → R.length = vs.length
  | _, [], [], _ => rfl
  | k, r :: R, v :: vs, h => by simp [RepRs.len h.2]
  | _, [], _ :: _, h => h.elim
  | _, _ :: _, [], h => h.elim

end

/-- the arguments, as the call begins -/
theorem args_look {J : Nat → Prop} {w : World} {n : Nat} : ∀ {A : List PV} {vs : List Value} {k t : Nat}, All2 (RepPV J w) A vs → RepV ⟨w.heap.size, J, J, fun _ => none, fun _ => none, w⟩ ((look (argTmps k A) t).getD undefV) ((if k ≤ t then vs[t - k]? else none).getD undef)
  | [], [], k, t, _ => ⟨.undef, rfl, trivial⟩
  | a :: A, v :: vs, k, t, h => by
    simp only [argTmps, look]
    cases hb : Nat.beq k t with
    | true =>
      have := Nat.eq_of_beq_eq_true hb
      subst this
      simp only [Option.getD_some, Nat.le_refl, if_pos, Nat.sub_self, List.getElem?_cons_zero]
      have ha := h.1
      cases a with
      | fn f caps => exact ⟨_, rfl, ha⟩
      | val ag cs =>
        cases ag with
        | true =>
          obtain ⟨us, rfl, hu⟩ := ha
          refine ⟨us, rfl, ?_⟩
          generalize us.toList = l at hu
          clear h
          induction cs generalizing l with
          | nil => cases l with
            | nil => trivial
            | cons _ _ => exact hu.elim
          | cons c cs ih => cases l with
            | nil => exact hu.elim
            | cons u l => exact ⟨⟨RepC.toD (x := ⟨w.heap.size, J, J, fun _ => none, fun _ => none, w⟩) (p := .arg) hu.1, hu.1.one⟩, ih _ hu.2⟩
        | false =>
          obtain ⟨c, rfl, hc⟩ := ha
          exact ⟨_, rfl, RepC.toD (x := ⟨w.heap.size, J, J, fun _ => none, fun _ => none, w⟩) (p := .arg) hc⟩
    | false =>
      have hne := Nat.ne_of_beq_eq_false hb
      have ih := args_look (n := n) (k := k + 1) (t := t) h.2
      by_cases hkt : k ≤ t
      · rw [if_pos (by omega)] at ih
        rw [if_pos hkt, show t - k = (t - (k + 1)) + 1 from by omega, List.getElem?_cons_succ]
        exact ih
      · rw [if_neg (by omega)] at ih
        rw [if_neg hkt]
        exact ih
  | [], _ :: _, _, _, h => h.elim
  | _ :: _, [], _, _, h => h.elim

/-- the contract of a function, out of the executor's run -/
theorem evalFn_con {P : Program} {te : TE} (hte : teOk te P = true) (hmix : P.follows .mixedOrders = true) {orc : Orc} (ho : OrcOk (Con P) orc) {lorc : LOrc} {ann : List (Nat × Keep)} {f : Nat} {fn : Func} (hf : P.funcs[f]? = some fn)
    (hn : (fn.name == "runtime.NumGoroutine") = false) {A : List PV} {R : Res} (hloop : ∀ c, fn.body = some c → ∀ (w0 : World) (I0 : Nat → Prop), ∀ p ∈ loopsIn c 0, LSem P (Sim w0 fn.ntmps I0) lorc p.1 p.2) (h : evalFn te orc lorc ann fn A = some R) : Con P f A R := by
  unfold evalFn at h
  split at h
  · rename_i c hb
    split at h
    · rename_i hle
      have hle := Nat.le_of_ble_eq_true hle
      refine ⟨enters_of hf hb hn, fun w J vs hJ hA => ?_⟩
      refine calls_of_wp hf hb ?_
      have hsz : vs.size = A.length := by have := hA.length; simpa using this.symm
      have hs0 : Sim w fn.ntmps J (⟨argTmps 0 A, [], 0⟩ : St).den { tmps := vs ++ Array.replicate (fn.ntmps - vs.size) undef, defers := [] } w := by
        refine ⟨J, fun _ => none, ⟨Below.refl _ _, fun _ hb => hb, hJ, hJ, fun _ hb => .inl hb, by simp; omega, rfl, fun t => ?_, fun id o ho => (by cases ho), fun id id' b c c' h1 => absurd rfl h1⟩⟩
        have := args_look (n := fn.ntmps) (k := 0) (t := t) hA
        simp only [Nat.zero_le, if_true, Nat.sub_zero] at this
        have hval : (vs ++ Array.replicate (fn.ntmps - vs.size) undef).getD t undef = (vs.toList[t]?).getD undef := by
          simp only [Array.getD_eq_getD_getElem?, Array.getElem?_append, Array.getElem?_toList]
          split
          · rfl
          · rename_i hge
            rw [Array.getElem?_replicate, Array.getElem?_eq_none (by omega)]
            split <;> rfl
        simp only []
        rw [hval]
        exact this
      refine evalK_sound (S := Sim w fn.ntmps J) (sim_ok hte w fn.ntmps J) (fun keep s a w' hs hb => norm_sim hs hb keep) hmix ho c (hloop c hb w J) h (fun id hid => absurd rfl hid) hs0 ?_
      intro e s' hk hbd a' w' hS
      have hfin : ∀ (hk : resAll te s' fn.results.toList fn.resultTypes.toList [] some = some R), a'.defers = [] ∧ ∃ v, (results fn a'.tmps).run P w' = .ok v w' ∧
          ∃ v' Jn mm, Ending.returned v = .returned v' ∧ Below w.heap.size w w' ∧ (∀ b, Jn b → w.heap.size ≤ b ∧ b < w'.heap.size) ∧
      (∀ i j b c c', mm i = some (b, c) → mm j = some (b, c') → i = j) ∧ (∀ i b c, mm i = some (b, c) → w.heap.size ≤ b) ∧ RepRes w.heap.size J Jn w' mm R v' := by
        intro hk
        obtain ⟨I, M, hs⟩ := hS
        obtain ⟨us, R', used', ms, hruns, hR, hms, hlen, hrep⟩ := resAll_inv hte hs hk
        cases hR
        have hrep := hrep (fun i => (ms[i]?).bind id) 0 (by intro i m hi; simp [hi])
        have hmap : (fn.results.mapM (fun r => resF r a'.tmps)).run P w' = .ok us.toArray w' := by
          rw [Array.mapM_eq_mapM_toList]
          simp only [Sem.run_map, run_mapM_all2 hruns, Result.andThen_ok]
        have hlR := hrep.len
        have hres : (results fn a'.tmps).run P w' = .ok (if h : us.toArray.size = 1 then us.toArray[0] else .tuple us.toArray) w' := by
          have e1 : results fn a'.tmps = (do
            let vs ← fn.results.mapM (fun r => resF r a'.tmps)
            pure (if h : vs.size = 1 then vs[0] else .tuple vs)) := by
            unfold results
            congr 2
          rw [e1]
          simp only [Sem.run_bind, hmap, Result.andThen_ok, Sem.run_pure]
        refine ⟨hs.defers, _, hres, _, jn w I, fun i => (ms[i]?).bind id, rfl, hs.below, fun b hb => ⟨hb.2, hs.ilt b hb.1⟩, ?_, ?_, ?_⟩
        · intro i j b c c' hi hj
          have h1 : ms[i]? = some (some (b, c)) := by
            cases hx : ms[i]? with
            | none => simp [hx] at hi
            | some m => simp [hx] at hi; rw [hi]
          have h2 : ms[j]? = some (some (b, c')) := by
            cases hx : ms[j]? with
            | none => simp [hx] at hj
            | some m => simp [hx] at hj; rw [hj]
          exact hms.dist i j b c c' h1 h2
        · intro i b c hi
          have h1 : ms[i]? = some (some (b, c)) := by
            cases hx : ms[i]? with
            | none => simp [hx] at hi
            | some m => simp [hx] at hi; rw [hi]
          obtain ⟨id, _, _, h3, h4⟩ := hms.fresh i b c h1
          exact (hs.blk h3 h4).1
        · match R, us, hrep, hlR with
          | [r], [u], hrep, _ =>
            have e1 : (if h : [u].toArray.size = 1 then [u].toArray[0] else .tuple [u].toArray) = u := by simp
            rw [e1]; exact hrep.1
          | [], [], hrep, _ => exact ⟨_, rfl, hrep⟩
          | r1 :: r2 :: rs, u1 :: u2 :: us, hrep, _ => exact ⟨(u1 :: u2 :: us).toArray, by simp, hrep⟩
          | [], _ :: _, _, hl => simp at hl
          | [_], [], _, hl => simp at hl
          | [_], _ :: _ :: _, _, hl => simp at hl
          | _ :: _ :: _, [], _, hl => simp at hl
          | _ :: _ :: _, [_], _, hl => simp at hl
      cases e with
      | exit id => cases hk
      | normal => exact hfin hk
      | ret => exact hfin hk
    · cases h
  · cases h

/-- no oracle for loops -/
def lorc0 : LOrc := fun _ _ _ => none

theorem lsem0 {P : Program} {S : FS → Act → World → Prop} {blk : Nat} {body : Code} : LSem P S lorc0 blk body := fun _ _ _ h => by cases h

/-- a function without loops -/
theorem evalFn_con0 {P : Program} {te : TE} (hte : teOk te P = true) (hmix : P.follows .mixedOrders = true) {orc : Orc} (ho : OrcOk (Con P) orc) {f : Nat} {fn : Func} (hf : P.funcs[f]? = some fn)
    (hn : (fn.name == "runtime.NumGoroutine") = false) {A : List PV} {R : Res} (h : evalFn te orc lorc0 [] fn A = some R) : Con P f A R :=
  evalFn_con hte hmix ho hf hn (fun _ _ _ _ _ _ => lsem0) h
end Go.Proofs.Ytjioppmfnejlnaa
