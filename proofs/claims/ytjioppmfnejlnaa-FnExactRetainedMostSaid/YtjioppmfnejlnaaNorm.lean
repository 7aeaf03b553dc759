/-
  The head of a loop: what is kept, numbered anew.
-/
import Derived.Test.YtjioppmfnejlnaaSimOk
import Derived.LoopN
namespace Go.Proofs.Ytjioppmfnejlnaa
open Go Go.RowKit

theorem reachable_nodup (st : List (Nat × Ob)) : ∀ (m : Nat) (todo seen : List Nat), seen.Nodup → (reachable st m todo seen).Nodup
  | 0, _, _, h => h
  | _ + 1, [], _, h => h
  | m + 1, x :: todo, seen, h => by
    simp only [reachable]
    cases hm : mem x seen with
    | true => exact reachable_nodup st m todo seen h
    | false =>
      simp only []
      split
      · refine reachable_nodup st m _ _ ?_
        rw [List.nodup_append]
        refine ⟨h, by simp, fun a ha b hb => ?_⟩
        rw [List.mem_singleton] at hb
        subst hb
        rintro rfl
        rw [mem_iff.2 ha] at hm; cases hm
      · exact reachable_nodup st m todo seen h

theorem indexIn_some : ∀ {l : List Nat} {x k m : Nat}, indexIn l x k = some m → k ≤ m ∧ l[m - k]? = some x
  | [], _, _, _, h => by simp [indexIn] at h
  | y :: r, x, k, m, h => by
    simp only [indexIn] at h
    cases hb : Nat.beq y x with
    | true =>
      rw [hb] at h
      cases h
      exact ⟨Nat.le_refl _, by simp [Nat.eq_of_beq_eq_true hb]⟩
    | false =>
      rw [hb] at h
      obtain ⟨h1, h2⟩ := indexIn_some h
      refine ⟨by omega, ?_⟩
      rw [show m - k = (m - (k + 1)) + 1 from by omega, List.getElem?_cons_succ]
      exact h2

theorem look_ren (st : List (Nat × Ob)) (seen : List Nat) : ∀ (l : List Nat) (k m : Nat), look (renStore st seen l k) m = if k ≤ m then (l[m - k]?).bind fun x => (look st x).map (Ob.ren st seen) else none
  | [], k, m => by simp [renStore, look]
  | x :: r, k, m => by
    have ih := look_ren st seen r (k + 1) m
    by_cases hkm : k ≤ m
    · by_cases e : m = k
      · subst e
        simp only [renStore]
        split
        · rename_i o ho
          simp [look, ho]
        · rename_i ho
          rw [ih, if_neg (by omega)]
          simp [ho]
      · have h1 : (x :: r)[m - k]? = r[m - (k + 1)]? := by
          rw [show m - k = (m - (k + 1)) + 1 from by omega, List.getElem?_cons_succ]
        rw [if_pos hkm, h1]
        simp only [renStore]
        split
        · rename_i o ho
          have hb : Nat.beq k m = false := by
            cases hb : Nat.beq k m with
            | false => rfl
            | true => exact absurd (Nat.eq_of_beq_eq_true hb).symm e
          simp only [look, hb]
          rw [ih, if_pos (by omega)]
        · rw [ih, if_pos (by omega)]
    · rw [if_neg hkm]
      simp only [renStore]
      split
      · have hb : Nat.beq k m = false := by
          cases hb : Nat.beq k m with
          | false => rfl
          | true => exact absurd (Nat.eq_of_beq_eq_true hb) (by omega)
        simp only [look, hb]
        rw [ih, if_neg (by omega)]
      · rw [ih, if_neg (by omega)]

section
variable {w0 : World} {n : Nat} {I0 I : Nat → Prop} {M : Nat → Option (Nat × Nat)} {s : St} {a : Act} {w : World}

/-- the store behind the head of a loop -/
def normObj (s : St) (seen : List Nat) : Nat → Option Ob := fun m => (seen[m]?).bind fun x => (look s.st x).map (Ob.ren s.st seen)
def normM (M : Nat → Option (Nat × Nat)) (seen : List Nat) : Nat → Option (Nat × Nat) := fun m => (seen[m]?).bind M

abbrev normCx (w0 : World) (I0 I : Nat → Prop) (M : Nat → Option (Nat × Nat)) (s : St) (seen : List Nat) (w : World) : Cx := ⟨w0.heap.size, I0, I, normM M seen, normObj s seen, w⟩

theorem ren_dc {seen : List Nat} {c : DC} {v : Value} (h : RepDC (cxOf w0 I0 I M s.den w) c v) : RepDC (normCx w0 I0 I M s seen w) (c.ren s.st seen) v := by
  cases c with
  | own id ver =>
    obtain ⟨t, xs, ver', frz, d, ho, hv, hval, h1⟩ := h
    have ho' : look s.st id = some (.arr t xs ver' frz d) := ho
    simp only [DC.ren]
    cases hi : indexIn seen id 0 with
    | none => trivial
    | some m =>
      obtain ⟨_, hm⟩ := indexIn_some hi
      rw [Nat.sub_zero] at hm
      simp only [verOf, ho']
      cases hb : Nat.beq ver' ver with
      | false => trivial
      | true =>
        have hve := Nat.eq_of_beq_eq_true hb
        refine ⟨t, xs, 0, frz, d, ?_, Nat.le_refl _, fun _ => ?_, h1⟩
        · simp only [normObj, hm, Option.bind_some, ho', Option.map_some, Ob.ren]
        · have := hval hve.symm
          simp only [normM, hm, Option.bind_some]
          exact this
  | ptr id off =>
    obtain ⟨cs, b, ho, hM, hv⟩ := h
    have ho' : look s.st id = some (.box cs) := ho
    simp only [DC.ren]
    cases hi : indexIn seen id 0 with
    | none => trivial
    | some m =>
      obtain ⟨_, hm⟩ := indexIn_some hi
      rw [Nat.sub_zero] at hm
      refine ⟨cs.map (DC.ren s.st seen), b, ?_, ?_, hv⟩
      · simp only [normObj, hm, Option.bind_some, ho', Option.map_some, Ob.ren]
      · simp only [normM, hm, Option.bind_some]
        exact hM
  | eptr _ _ _ _ => trivial
  | bool b => exact h
  | int k m => exact h
  | str b => exact h
  | sl p t xs => cases p <;> exact h
  | nil => exact h
  | ref p cs => cases p <;> exact h
  | fn f caps => exact h
  | undef => trivial

theorem ren_v1 {seen : List Nat} {ag : Bool} {cs : List DC} {v : Value} (h : RepV1 (cxOf w0 I0 I M s.den w) ag cs v) : RepV1 (normCx w0 I0 I M s seen w) ag (cs.map (DC.ren s.st seen)) v := by
  cases ag with
  | true =>
    obtain ⟨us, rfl, hu⟩ := h
    refine ⟨us, rfl, ?_⟩
    generalize us.toList = l at hu
    induction cs generalizing l with
    | nil => cases l with
      | nil => trivial
      | cons _ _ => exact hu.elim
    | cons c cs ih => cases l with
      | nil => exact hu.elim
      | cons u l => exact ⟨⟨ren_dc hu.1.1, hu.1.2⟩, ih _ hu.2⟩
  | false => obtain ⟨c, rfl, hc⟩ := h; exact ⟨_, rfl, ren_dc hc⟩

theorem ren_v {seen : List Nat} {d : DV} {v : Value} (h : RepV (cxOf w0 I0 I M s.den w) d v) : RepV (normCx w0 I0 I M s seen w) (d.ren s.st seen) v := by
  cases d with
  | v ag cs => exact ren_v1 h
  | tup vs =>
    obtain ⟨us, rfl, hu⟩ := h
    refine ⟨us, rfl, ?_⟩
    generalize us.toList = l at hu
    induction vs generalizing l with
    | nil => cases l with
      | nil => trivial
      | cons _ _ => exact hu.elim
    | cons c cs ih => cases l with
      | nil => exact hu.elim
      | cons u l => exact ⟨ren_v1 hu.1, ih _ hu.2⟩

theorem ren_o {seen : List Nat} {m id : Nat} (hm : seen[m]? = some id) {o : Ob} (h : RepO (cxOf w0 I0 I M s.den w) id o) : RepO (normCx w0 I0 I M s seen w) m (o.ren s.st seen) := by
  have hM : normM M seen m = M id := by simp only [normM, hm, Option.bind_some]
  cases o with
  | box cs =>
    obtain ⟨b, h1, h2, h3, h4, h5, h6⟩ := h
    refine ⟨b, by rw [← h1]; exact hM, h2, h3, h4, fun j c hj => ?_, fun j hj => h6 j (by simpa using hj)⟩
    rw [List.getElem?_map] at hj
    cases hc : cs[j]? with
    | none => rw [hc] at hj; cases hj
    | some c0 =>
      rw [hc] at hj
      simp only [Option.map_some, Option.some.injEq] at hj
      subst hj
      obtain ⟨u, hu, hr, h1⟩ := h5 j c0 hc
      exact ⟨u, hu, ren_dc hr, h1⟩
  | arr t xs ver frz d =>
    rcases h with ⟨h1, h2⟩ | ⟨b, cap, h1, h2, h3, h4, h5, h6, h7, h8⟩
    · exact .inl ⟨by rw [← h1]; exact hM, h2⟩
    · refine .inr ⟨b, cap, by rw [← h1]; exact hM, h2, h3, h4, h5, h6, h7, fun i e j c he hc => ?_⟩
      obtain ⟨u, hu, hr⟩ := h8 i e j c he hc
      refine ⟨u, hu, ?_⟩
      cases d <;> exact hr

theorem norm_sim (h : Sim w0 n I0 s.den a w) (keep : List Nat) : Sim w0 n I0 (s.norm keep).den a w := by
  obtain ⟨I, M, h⟩ := h
  let vs := keep.map fun t => (t, s.tmp t)
  let seen := reachable s.st 10000 (vs.flatMap fun v => v.2.ids) []
  have hnd : seen.Nodup := reachable_nodup _ _ _ _ (by simp)
  have hobj : (s.norm keep).den.obj = normObj s seen := by
    funext m
    show look (renStore s.st seen seen 0) m = _
    rw [look_ren, if_pos (Nat.zero_le _), Nat.sub_zero]
    rfl
  have hsome : ∀ m, normObj s seen m ≠ none → ∃ id o, seen[m]? = some id ∧ s.obj id = some o ∧ normObj s seen m = some (o.ren s.st seen) := by
    intro m hm
    cases hs : seen[m]? with
    | none => simp [normObj, hs] at hm
    | some id =>
      cases ho : look s.st id with
      | none => simp [normObj, hs, ho] at hm
      | some o => exact ⟨id, o, rfl, ho, by simp [normObj, hs, ho]⟩
  refine ⟨I, normM M seen, ⟨h.below, h.i00, h.i0lt, h.ilt, h.idiv, h.size, h.defers, fun t => ?_, fun m o ho => ?_, fun m m' b c c' hm hm' hb hb' => ?_⟩⟩
  · rw [hobj]
    have hlk : (s.norm keep).den.tmp t = undefV ∨ (s.norm keep).den.tmp t = (s.tmp t).ren s.st seen := by
      show (look (vs.map fun v => (v.1, v.2.ren s.st seen)) t).getD undefV = undefV ∨ (look (vs.map fun v => (v.1, v.2.ren s.st seen)) t).getD undefV = _
      have : ∀ l : List Nat, (look ((l.map fun t => (t, s.tmp t)).map fun v => (v.1, v.2.ren s.st seen)) t).getD undefV = undefV ∨ (look ((l.map fun t => (t, s.tmp t)).map fun v => (v.1, v.2.ren s.st seen)) t).getD undefV = (s.tmp t).ren s.st seen := by
        intro l
        induction l with
        | nil => exact .inl rfl
        | cons x l ih =>
          simp only [List.map_cons, look]
          cases hb : Nat.beq x t with
          | true => rw [Nat.eq_of_beq_eq_true hb]; exact .inr rfl
          | false => exact ih
      exact this keep
    rcases hlk with hlk | hlk
    · rw [hlk]; exact ⟨.undef, rfl, trivial⟩
    · rw [hlk]; exact ren_v (h.tmps t)
  · rw [hobj] at ho ⊢
    obtain ⟨id, o', hm, ho', hn⟩ := hsome m (by rw [ho]; simp)
    rw [ho] at hn
    cases hn
    exact ren_o hm (h.objs id o' ho')
  · rw [hobj] at hm hm'
    obtain ⟨id, o, hs1, ho1, _⟩ := hsome m hm
    obtain ⟨id', o', hs2, ho2, _⟩ := hsome m' hm'
    simp only [normM, hs1, Option.bind_some] at hb
    simp only [normM, hs2, Option.bind_some] at hb'
    have := h.inj id id' b c c' (by show s.obj id ≠ none; rw [ho1]; simp) (by show s.obj id' ≠ none; rw [ho2]; simp) hb hb'
    subst this
    have h1 := (List.getElem?_eq_some_iff.1 hs1)
    have h2 := (List.getElem?_eq_some_iff.1 hs2)
    obtain ⟨hl1, he1⟩ := h1
    obtain ⟨hl2, he2⟩ := h2
    exact (List.getElem_inj hnd).1 (he1.trans he2.symm)

theorem norm_bound (keep : List Nat) : ∀ id, (s.norm keep).obj id ≠ none → id < (s.norm keep).nx := by
  intro m hm
  let vs := keep.map fun t => (t, s.tmp t)
  let seen := reachable s.st 10000 (vs.flatMap fun v => v.2.ids) []
  have h1 : (s.norm keep).obj m = normObj s seen m := by
    show look (renStore s.st seen seen 0) m = _
    rw [look_ren, if_pos (Nat.zero_le _), Nat.sub_zero]
    rfl
  show m < seen.length
  rw [h1] at hm
  cases hs : seen[m]? with
  | none => simp [normObj, hs] at hm
  | some id => exact (List.getElem?_eq_some_iff.1 hs).1
end
end Go.Proofs.Ytjioppmfnejlnaa
