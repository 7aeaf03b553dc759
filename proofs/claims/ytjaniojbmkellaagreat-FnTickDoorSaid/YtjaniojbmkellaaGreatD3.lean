/-
  Contracts of functions and plain laws (printed by a program): each theorem says what a function of the program returns; conditions are its hypotheses.
-/
import Derived.Test.YtjaniojbmkellaaGreatD2
set_option linter.all false
set_option maxRecDepth 4000
namespace Go.Proofs.YtjaniojbmkellaaGreat
open Go Go.RowKit
noncomputable section
theorem fidx_at {T : Type} (p : T → Bool) (xs : List T) (j : Nat) (x : T) (hx : xs[j]? = some x) (hp : p x = true) : (fidx p xs != (j : Int)) = (xs.take j).any p := by
  obtain ⟨hj, rfl⟩ := List.getElem?_eq_some_iff.1 hx
  unfold fidx
  cases h : xs.findIdx? p with
  | none =>
    rw [List.findIdx?_eq_none_iff] at h
    have := h _ (List.getElem_mem hj)
    rw [hp] at this; cases this
  | some i =>
    obtain ⟨h1, h2, h3⟩ := List.findIdx?_eq_some_iff_getElem.1 h
    simp only []
    rw [Bool.eq_iff_iff]
    simp only [bne_iff_ne, ne_eq, List.any_eq_true]
    constructor
    · intro hne
      have hij : i < j := by
        rcases Nat.lt_or_ge i j with h4 | h4
        · exact h4
        · have h5 : j < i := by omega
          have := h3 j h5
          simp [hp] at this
      refine ⟨xs[i], ?_, h2⟩
      rw [List.mem_take_iff_getElem]
      exact ⟨i, by omega, rfl⟩
    · rintro ⟨y, hy, hpy⟩ he
      rw [List.mem_take_iff_getElem] at hy
      obtain ⟨k, hk, rfl⟩ := hy
      have : k < i := by omega
      have := h3 k this
      simp [hpy] at this
def eqT (t y : Tupl) : Bool := (y.ip == t.ip) && ((y.port == t.port) && ((y.my == t.my) && true))
theorem eqT_refl (t : Tupl) : eqT t t = true := by simp [eqT]
theorem s_FindHalf_eq2 (xs : List Half) (t : Tupl) : s_FindHalf.f (xs, t, ()) = fidx (fun h => eqT t h.tuple) xs := by
  simp only [PX, s_FindHalf, s_FindHalf_L0_d]
  rw [forN_fidx (fun h : Half => eqT t h.tuple) xs (fun j x a h => by
    simp only [PX, s_FindHalf_L0_T, toNat_cast, getD_some h, eqT])]
  unfold fidx
  cases xs.findIdx? (fun h => eqT t h.tuple) <;> rfl
theorem i_FindHalf_eq2 (xs : List Half) (t : Tupl) : i_FindHalf.f (xs, t, ()) = fidx (fun h => eqT t h.tuple) xs := by
  simp only [PX, i_FindHalf, g_IndexFunc_Half_i_FindHalf_1, g_IndexFunc_Half_i_FindHalf_1_L0_d]
  rw [forN_fidx (fun h : Half => eqT t h.tuple) xs (fun j x a h => by
    simp only [PX, g_IndexFunc_Half_i_FindHalf_1_L0_T, i_FindHalf_1, toNat_cast, getD_some h, eqT])]
  unfold fidx
  cases xs.findIdx? (fun h => eqT t h.tuple) <;> rfl
theorem s_FindConn_eq2 (x : Tabl) (t : Tupl) : s_FindConn.f (x, t, ()) = fidx (fun h => eqT t h.tuple) x.conns := by
  simp only [PX, s_FindConn, s_FindConn_L0_d]
  rw [forN_fidx (fun h : Conn => eqT t h.tuple) x.conns (fun j x a h => by
    simp only [PX, s_FindConn_L0_T, toNat_cast, getD_some h, eqT])]
  unfold fidx
  cases x.conns.findIdx? (fun h => eqT t h.tuple) <;> rfl
theorem i_FindConn_eq2 (x : Tabl) (t : Tupl) : i_FindConn.f (x, t, ()) = fidx (fun h => eqT t h.tuple) x.conns := by
  simp only [PX, i_FindConn, g_IndexFunc_Conn_i_FindConn_1, g_IndexFunc_Conn_i_FindConn_1_L0_d]
  rw [forN_fidx (fun h : Conn => eqT t h.tuple) x.conns (fun j x a h => by
    simp only [PX, g_IndexFunc_Conn_i_FindConn_1_L0_T, i_FindConn_1, toNat_cast, getD_some h, eqT])]
  unfold fidx
  cases x.conns.findIdx? (fun h => eqT t h.tuple) <;> rfl
theorem q_FindConn (x : Tabl) (t : Tupl) : s_FindConn.f (x, t, ()) = i_FindConn.f (x, t, ()) := by rw [s_FindConn_eq2, i_FindConn_eq2]
theorem q_WindowOf (x : Recv) : s_WindowOf.f (x, ()) = i_WindowOf.f (x, ()) := by
  simp only [PX, s_WindowOf, i_WindowOf, l1Max0]
theorem WindowOf_le (x : Recv) (h : (x.data.length : Int) ≤ 32) : i_WindowOf.f (x, ()) ≤ 32 := by
  simp only [PX, i_WindowOf]
  cases x.done with
  | true => simp only [cond_true]; omega
  | false =>
    simp only [cond_false]
    rw [wrap64 (by omega) (by omega)]
    split <;> omega
theorem q_SenderOk (x : Sndr) : s_SenderOk.f (x, ()) = i_SenderOk.f (x, ()) := by
  simp only [PX, s_SenderOk, i_SenderOk, q_WordOk, s_l1In_eq, i_within_eq]
def walkP (L : Int) : Int → List Piec → Option Int
  | a, [] => some a
  | a, p :: r => bif (p.text == []) || decide (p.off ≤ a) || decide (L < p.off + (p.text.length : Int)) then none else walkP L (p.off + (p.text.length : Int)) r
theorem walkP_le (L : Int) : ∀ (r : List Piec) (a b : Int), walkP L a r = some b → a ≤ b ∧ (a ≤ L → b ≤ L)
  | [], a, b, h => by cases h; exact ⟨Int.le_refl _, fun h => h⟩
  | p :: r, a, b, h => by
    simp only [walkP] at h
    cases hc : ((p.text == []) || decide (p.off ≤ a) || decide (L < p.off + (p.text.length : Int))) with
    | true => rw [hc] at h; cases h
    | false =>
      rw [hc] at h
      simp only [Bool.or_eq_false_iff, decide_eq_false_iff_not] at hc
      have := walkP_le L r _ b h
      omega
theorem walkP_sub (L M : Int) (hLM : L ≤ M) : ∀ (r : List Piec) (a : Int), a ≤ L → walkP L a r = (match walkP M a r with | some b => bif decide (b ≤ L) then some b else none | none => none)
  | [], a, h => by simp only [walkP, decide_eq_true h, cond_true]
  | p :: r, a, h => by
    simp only [walkP]
    cases h1 : ((p.text == []) || decide (p.off ≤ a)) with
    | true => simp only [Bool.true_or, cond_true]
    | false =>
      simp only [Bool.false_or]
      by_cases h2 : L < p.off + (p.text.length : Int)
      · rw [decide_eq_true h2]
        simp only [cond_true]
        by_cases h3 : M < p.off + (p.text.length : Int)
        · rw [decide_eq_true h3]; rfl
        · rw [decide_eq_false h3]
          simp only [cond_false]
          cases hw : walkP M (p.off + (p.text.length : Int)) r with
          | none => rfl
          | some b =>
            have := (walkP_le M r _ b hw).1
            simp only []
            rw [decide_eq_false (by omega)]
            rfl
      · rw [decide_eq_false h2, decide_eq_false (show ¬ M < p.off + (p.text.length : Int) by omega)]
        simp only [cond_false]
        exact walkP_sub L M hLM r _ (by omega)
def SmallP (xs : List Piec) : Prop := ∀ y ∈ xs, y.text.length ≤ 4611686018427387904
theorem text_pos {s : Bytes} (h : (s == []) = false) : 0 < s.length := by
  cases s with
  | nil => cases h
  | cons => simp
theorem listN_walk {W : Type} {F : Nat → Piec → Int → Stp Int W} {L : Int} {w : W} : ∀ (r : List Piec) (j : Nat) (a : Int), 0 ≤ a → a ≤ 32 → L ≤ 32 → (∀ p ∈ r, ∀ j a, 0 ≤ a → a ≤ 32 → (∃ w, (p.text == [] || decide (p.off ≤ a) || decide (L < p.off + (p.text.length : Int))) = true ∧ F j p a = .out w) ∨ ((p.text == [] || decide (p.off ≤ a) || decide (L < p.off + (p.text.length : Int))) = false ∧ F j p a = .next (p.off + (p.text.length : Int)))) →
    (match walkP L a r with | some b => listN F j r a = .next b | none => ∃ w, listN F j r a = .out w)
  | [], j, a, _, _, _, _ => rfl
  | p :: r, j, a, h0, h1, hL, hF => by
    rcases hF p List.mem_cons_self j a h0 h1 with ⟨w, hc, hf⟩ | ⟨hc, hf⟩
    · simp only [walkP, hc, cond_true, listN, hf, Stp.elim]
      exact ⟨w, rfl⟩
    · simp only [walkP, hc, cond_false, listN, hf, Stp.elim]
      simp only [Bool.or_eq_false_iff, decide_eq_false_iff_not] at hc
      exact listN_walk (w := w) r (j + 1) _ (by omega) (by omega) hL fun q hq => hF q (List.mem_cons_of_mem _ hq)
theorem s_walk (x : Recv) (L : Int) (hL : L ≤ 32) (hs : SmallP x.held) : match walkP L 0 x.held with | some b => forN (fun j a => (s_ReceiverOk_L0_T L x j a).nice) 1 (Int.toNat ((x.held.length : Int) - 0)) 0 0 = .next b | none => ∃ w, forN (fun j a => (s_ReceiverOk_L0_T L x j a).nice) 1 (Int.toNat ((x.held.length : Int) - 0)) 0 0 = .out w := by
  rw [toNat_sub0, forN_list x.held _ rfl (F := fun j p a => (s_ReceiverOk_L0_T L { x with held := [p] } 0 a).nice) (by
    intro j p a h
    simp only [PX, s_ReceiverOk_L0_T, toNat_cast, getD_some h]
    rfl)]
  refine listN_walk (w := (0 : Int)) _ _ _ (by omega) (by omega) hL fun p hp j a h0 h1 => ?_
  have hl := hs p hp
  simp only [PX, s_ReceiverOk_L0_T, show Int.toNat 0 = 0 from rfl, List.getD_cons_zero]
  cases h2 : (p.text == []) with
  | true => exact .inl ⟨_, rfl, rfl⟩
  | false =>
    have hp := text_pos h2
    cases h3 : decide (p.off ≤ a) with
    | true => exact .inl ⟨_, rfl, rfl⟩
    | false =>
      simp only [decide_eq_false_iff_not] at h3
      simp only [cond_false, Bool.false_or]
      by_cases h4 : L < p.off
      · refine .inl ⟨a, decide_eq_true (by omega), ?_⟩
        rw [decide_eq_true h4]; rfl
      · rw [decide_eq_false h4, wrap64 (by omega) (by omega)]
        simp only [cond_false]
        by_cases h5 : L < p.off + (p.text.length : Int)
        · rw [decide_eq_true h5]; exact .inl ⟨_, rfl, rfl⟩
        · rw [decide_eq_false h5]; exact .inr ⟨rfl, rfl⟩
theorem i_walk (x : Recv) (L : Int) (hL0 : -9223372036854775808 ≤ L - 4611686018427387904) (hL : L ≤ 32) (hs : SmallP x.held) : match walkP L 0 x.held with | some b => forN (fun j a => (i_ReceiverOk_L0_T L x.held j a).nice) 1 (Int.toNat ((x.held.length : Int) - 0)) 0 0 = .next b | none => ∃ w, forN (fun j a => (i_ReceiverOk_L0_T L x.held j a).nice) 1 (Int.toNat ((x.held.length : Int) - 0)) 0 0 = .out w := by
  rw [toNat_sub0, forN_list x.held _ rfl (F := fun j p a => (i_ReceiverOk_L0_T L [p] 0 a).nice) (by
    intro j p a h
    simp only [PX, i_ReceiverOk_L0_T, toNat_cast, getD_some h]
    rfl)]
  refine listN_walk (w := ()) _ _ _ (by omega) (by omega) hL fun p hp j a h0 h1 => ?_
  have hl := hs p hp
  simp only [PX, i_ReceiverOk_L0_T, show Int.toNat 0 = 0 from rfl, List.getD_cons_zero]
  cases h2 : (p.text == []) with
  | true => exact .inl ⟨_, rfl, rfl⟩
  | false =>
    have hp := text_pos h2
    cases h3 : decide (p.off ≤ a) with
    | true => exact .inl ⟨_, rfl, rfl⟩
    | false =>
      simp only [decide_eq_false_iff_not] at h3
      simp only [cond_false, Bool.false_or]
      rw [wrap64 (m := L - (p.text.length : Int)) (by omega) (by omega)]
      by_cases h5 : L < p.off + (p.text.length : Int)
      · rw [decide_eq_true h5, decide_eq_true (by omega)]; exact .inl ⟨_, rfl, rfl⟩
      · rw [decide_eq_false h5, decide_eq_false (by omega), wrap64 (by omega) (by omega)]; exact .inr ⟨rfl, rfl⟩
theorem q_ReceiverOk (x : Recv) (hs : SmallP x.held) : s_ReceiverOk.f (x, ()) = i_ReceiverOk.f (x, ()) := by
  simp only [PX, s_ReceiverOk, i_ReceiverOk, s_ReceiverOk_L0_d, i_ReceiverOk_L0_d, q_WordOk, s_l1In_eq, q_WindowOf]
  cases i_WordOk.f (x.next, 32, ()) with
  | false => rfl
  | true =>
    by_cases hd : 32 < (x.data.length : Int)
    · rw [decide_eq_true hd]; rfl
    · rw [decide_eq_false hd]
      have hw := WindowOf_le x (by omega)
      simp only [Bool.not_true, cond_false]
      cases decide (3 < (x.held.length : Int)) with
      | true => rfl
      | false =>
        simp only [cond_false]
        rw [i_within_eq]
        by_cases hf : -1 ≤ x.fin ∧ x.fin ≤ i_WindowOf.f (x, ())
        · rw [decide_eq_true hf.1, decide_eq_true hf.2]
          simp only [Bool.and_self, Bool.not_true, cond_false]
          cases h0 : (x.fin == 0) with
          | true => rfl
          | false =>
            simp only [cond_false]
            have h0 : x.fin ≠ 0 := by simpa using h0
            have k1 := s_walk x (i_WindowOf.f (x, ())) hw hs
            by_cases h1 : x.fin = -1
            · have k2 := i_walk x (i_WindowOf.f (x, ())) (by omega) hw hs
              rw [show (x.fin != -1) = false by simp [h1], show decide (x.fin < 0) = true from decide_eq_true (by omega)]
              simp only [cond_true, cond_false]
              cases hp : walkP (i_WindowOf.f (x, ())) 0 x.held with
              | some b => rw [hp] at k1 k2; simp only [] at k1 k2; rw [k1, k2]; rfl
              | none => rw [hp] at k1 k2; obtain ⟨w1, k1⟩ := k1; obtain ⟨w2, k2⟩ := k2; rw [k1, k2]; rfl
            · have k2 := i_walk x x.fin (by omega) (by omega) hs
              rw [show (x.fin != -1) = true by simp [h1], show decide (x.fin < 0) = false from decide_eq_false (by omega)]
              simp only [cond_true, cond_false]
              rw [walkP_sub x.fin (i_WindowOf.f (x, ())) (by omega) x.held 0 (by omega)] at k2
              cases hp : walkP (i_WindowOf.f (x, ())) 0 x.held with
              | none => rw [hp] at k1 k2; obtain ⟨w1, k1⟩ := k1; obtain ⟨w2, k2⟩ := k2; rw [k1, k2]; rfl
              | some b =>
                rw [hp] at k1 k2
                simp only [] at k1 k2
                rw [k1]
                by_cases hb : b ≤ x.fin
                · rw [decide_eq_true hb] at k2
                  simp only [cond_true] at k2
                  rw [k2]; simp only [Stp.elim, decide_eq_true hb, cond_true]
                · rw [decide_eq_false hb] at k2
                  obtain ⟨w2, k2⟩ := k2
                  rw [k2]; simp only [Stp.elim, decide_eq_false hb, cond_false]
        · have : (decide (-1 ≤ x.fin) && decide (x.fin ≤ i_WindowOf.f (x, ()))) = false := by
            rw [Bool.and_eq_false_iff]; simp only [decide_eq_false_iff_not]; omega
          rw [this]; rfl
theorem q_ConnOk (x : Conn) (hs : SmallP x.r.held) : s_ConnOk.f (x, ()) = i_ConnOk.f (x, ()) := by
  simp only [PX, s_ConnOk, i_ConnOk, s_l19Fin, q_TupleOk, q_SenderOk, q_ReceiverOk x.r hs, q_OptionsOk, s_l1In_eq, i_within_eq]
  cases i_TupleOk.f (x.tuple, ()) with
  | false => rfl
  | true =>
  cases i_SenderOk.f (x.s, ()) with
  | false => rfl
  | true =>
  cases i_ReceiverOk.f (x.r, ()) with
  | false => rfl
  | true =>
  cases i_OptionsOk.f (x.opts, ()) with
  | false => rfl
  | true =>
  simp only [Bool.not_true, cond_false]
  have hm : (bif !(decide (0 ≤ x.window) && decide (x.window ≤ x.most)) then true else decide (1073725440 < x.most)) = (bif !(decide (0 ≤ x.most) && decide (x.most ≤ 1073725440)) then true else !(decide (0 ≤ x.window) && decide (x.window ≤ x.most))) := by
    rw [Bool.eq_iff_iff]
    by_cases h1 : 0 ≤ x.window <;> by_cases h2 : x.window ≤ x.most <;> by_cases h3 : 1073725440 < x.most <;> by_cases h4 : 0 ≤ x.most <;> by_cases h5 : x.most ≤ 1073725440 <;> simp [h1, h2, h3, h4, h5] <;> omega
  have ej : ∀ b : Bool, (bif b then (false, (4 : Int), x, ()) else (false, 3, x, ())) = (false, (bif b then 4 else 3), x, ()) := fun b => by cases b <;> rfl
  have et : ∀ b : Bool, decide (x.timer ≤ bif b then 4 else 3) = bif b then decide (x.timer ≤ 4) else decide (x.timer ≤ 3) := fun b => by cases b <;> rfl
  simp only [ej, et]
  revert hm
  generalize (decide (0 ≤ x.window) && decide (x.window ≤ x.most)) = W
  generalize decide (1073725440 < x.most) = M
  generalize (decide (0 ≤ x.most) && decide (x.most ≤ 1073725440)) = N
  generalize (decide (0 ≤ x.tries) && decide (x.tries ≤ 3)) = T
  generalize decide (0 ≤ x.timer) = T0
  generalize decide (x.timer ≤ 4) = T4
  generalize decide (x.timer ≤ 3) = T3
  generalize x.s.fin = sf
  generalize x.s.done = sd
  generalize x.r.done = rd
  generalize x.state = k
  have hk : k = 1 ∨ k = 2 ∨ k = 3 ∨ k = 4 ∨ k = 5 ∨ k = 6 ∨ k = 7 ∨ k = 8 ∨ (decide (1 ≤ k) && decide (k ≤ 8)) = false := by
    simp only [Bool.and_eq_false_iff, decide_eq_false_iff_not]; omega
  rcases hk with rfl | rfl | rfl | rfl | rfl | rfl | rfl | rfl | hk
  iterate 8 (revert W M N T T0 T4 T3 sf sd rd; decide +kernel)
  intro _; simp only [hk]; rfl
theorem q_LimitsOk (x : Limi) : s_LimitsOk.f (x, ()) = i_LimitsOk.f (x, ()) := by
  simp only [PX, s_LimitsOk, i_LimitsOk, s_l1In_eq, i_within_eq]
theorem forN_same {T V W : Type} (xs : List T) {f : Int → Unit → Stp Unit V} {g : Int → Unit → Stp Unit W} {k : Nat} (hk : k = xs.length) (h : ∀ (j : Nat) x, xs[j]? = some x → (∃ v w, f j () = .out v ∧ g j () = .out w) ∨ (f j () = .next () ∧ g j () = .next ())) :
    (∃ v w, forN f 1 k 0 () = .out v ∧ forN g 1 k 0 () = .out w) ∨ (forN f 1 k 0 () = .next () ∧ forN g 1 k 0 () = .next ()) := by
  subst hk
  have : ∀ (n i : Nat), i + n = xs.length → (∃ v w, forN f 1 n (i : Int) () = .out v ∧ forN g 1 n (i : Int) () = .out w) ∨ (forN f 1 n (i : Int) () = .next () ∧ forN g 1 n (i : Int) () = .next ()) := by
    intro n
    induction n with
    | zero => intro i _; exact .inr ⟨rfl, rfl⟩
    | succ n ih =>
      intro i hi
      rcases h i xs[i] (List.getElem?_eq_getElem (by omega)) with ⟨v, w, h1, h2⟩ | ⟨h1, h2⟩
      · exact .inl ⟨v, w, by simp only [forN, h1, Stp.elim], by simp only [forN, h2, Stp.elim]⟩
      · simp only [forN, h1, h2, Stp.elim]
        have := ih (i + 1) (by omega)
        rwa [show ((i + 1 : Nat) : Int) = (i : Int) + 1 by omega] at this
  exact this xs.length 0 (by omega)
theorem l25Waits_any (xs : List Tupl) (t : Tupl) : s_l25Waits.f (xs, t, ()) = xs.any (eqT t) := by
  simp only [PX, s_l25Waits, s_l25Waits_L0_d]
  rw [toNat_sub0, forN_list xs _ rfl (F := fun j y a => bif eqT t y then .out () else .next ()) (by
    intro j y a h
    simp only [PX, s_l25Waits_L0_T, toNat_cast, getD_some h, eqT])]
  rw [listN_find (p := eqT t) (w := fun _ _ => ())]
  cases h : xs.findIdx? (eqT t) with
  | none =>
    rw [List.findIdx?_eq_none_iff] at h
    simp only [Stp.elim]
    symm
    rw [List.any_eq_false]
    intro x hx; simp [h x hx]
  | some i =>
    obtain ⟨h1, h2, _⟩ := List.findIdx?_eq_some_iff_getElem.1 h
    simp only [List.getElem?_eq_getElem h1, Stp.elim]
    symm
    rw [List.any_eq_true]; exact ⟨xs[i], List.getElem_mem h1, h2⟩
theorem Index_Tuple_eq2 (xs : List Tupl) (t : Tupl) : g_Index_Tuple.f (xs, t, ()) = fidx (eqT t) xs := by
  have e : ∀ a b : Int, (a == b) = (b == a) := fun a b => by rw [Bool.eq_iff_iff]; simp only [beq_iff_eq]; exact eq_comm
  simp only [PX, g_Index_Tuple, g_Index_Tuple_L0_d]
  rw [forN_fidx (eqT t) xs (fun j x a h => by
    simp only [PX, g_Index_Tuple_L0_T, toNat_cast, getD_some h, eqT, e t.ip, e t.port, e t.my])]
  unfold fidx
  cases xs.findIdx? (eqT t) <;> rfl
theorem mem_at {T : Type} {xs : List T} {j : Nat} {x : T} (h : xs[j]? = some x) : x ∈ xs := List.mem_of_getElem? h
theorem q_TableOk (x : Tabl) (l : Limi) (hs : ∀ y ∈ x.conns, SmallP y.r.held) : s_TableOk.f (x, l, ()) = i_TableOk.f (x, l, ()) := by
  simp only [PX, s_TableOk, i_TableOk, s_TableOk_L0_d, i_TableOk_L0_d, s_TableOk_L1_d, i_TableOk_L1_d, q_LimitsOk]
  have h1 := forN_same x.conns (f := fun j a => (s_TableOk_L0_T x j a).nice) (g := fun j a => (i_TableOk_L0_T x.conns x j a).nice) (k := Int.toNat ((x.conns.length : Int) - 0)) (toNat_sub0 _) (fun j y hy => by
    simp only [PX, s_TableOk_L0_T, i_TableOk_L0_T, toNat_cast, getD_some hy, q_ConnOk y (hs y (mem_at hy)), q_FindConn]
    cases i_ConnOk.f (y, ()) with
    | false => exact .inl ⟨_, _, rfl, rfl⟩
    | true => cases (i_FindConn.f (x, y.tuple, ()) != (j : Int)) with
      | true => exact .inl ⟨_, _, rfl, rfl⟩
      | false => exact .inr ⟨rfl, rfl⟩)
  have h2 := forN_same x.waiting (f := fun j a => (s_TableOk_L1_T x j a).nice) (g := fun j a => (i_TableOk_L1_T x.waiting x j a).nice) (k := Int.toNat ((x.waiting.length : Int) - 0)) (toNat_sub0 _) (fun j y hy => by
    simp only [PX, s_TableOk_L1_T, i_TableOk_L1_T, toNat_cast, getD_some hy, l25Waits_any, Index_Tuple_eq2, q_FindConn, List.drop_zero]
    rw [fidx_at (eqT y) x.waiting j y hy (eqT_refl y)]
    cases (x.waiting.take j).any (eqT y) <;> cases decide (i_FindConn.f (x, y, ()) < 0) <;> first | exact .inl ⟨_, _, rfl, rfl⟩ | exact .inr ⟨rfl, rfl⟩)
  rcases h1 with ⟨v, w, h3, h4⟩ | ⟨h3, h4⟩
  · rw [h3, h4]
    cases (i_LimitsOk.f (l, ())) <;> cases decide (l.conns < (x.conns.length : Int)) <;> cases decide (l.waiting < (x.waiting.length : Int)) <;> rfl
  · rw [h3, h4]
    rcases h2 with ⟨v, w, h5, h6⟩ | ⟨h5, h6⟩
    · rw [h5, h6]
      all_goals (cases (i_LimitsOk.f (l, ())) <;> cases decide (l.conns < (x.conns.length : Int)) <;> cases decide (l.waiting < (x.waiting.length : Int)) <;> rfl)
    · rw [h5, h6]
      all_goals (cases (i_LimitsOk.f (l, ())) <;> cases decide (l.conns < (x.conns.length : Int)) <;> cases decide (l.waiting < (x.waiting.length : Int)) <;> rfl)
theorem q_HalvesOk (xs : List Half) : s_HalvesOk.f (xs, ()) = i_HalvesOk.f (xs, ()) := by
  simp only [PX, s_HalvesOk, i_HalvesOk, s_HalvesOk_L0_d, i_HalvesOk_L0_d]
  have h1 := forN_same xs (f := fun j a => (s_HalvesOk_L0_T xs j a).nice) (g := fun j a => (i_HalvesOk_L0_T xs xs j a).nice) (k := Int.toNat ((xs.length : Int) - 0)) (toNat_sub0 _) (fun j y hy => by
    simp only [PX, s_HalvesOk_L0_T, i_HalvesOk_L0_T, toNat_cast, getD_some hy, q_TupleOk, q_WordOk, q_OptionsOk, s_l1In_eq, i_within_eq, s_FindHalf_eq2, i_FindHalf_eq2, List.drop_zero, fidx_nn]
    rw [fidx_at (fun h : Half => eqT y.tuple h.tuple) xs j y hy (eqT_refl _)]
    cases i_TupleOk.f (y.tuple, ()) with
    | false => exact .inl ⟨_, _, rfl, rfl⟩
    | true =>
    cases i_WordOk.f (y.iss, 32, ()) with
    | false => exact .inl ⟨_, _, rfl, rfl⟩
    | true =>
    cases i_WordOk.f (y.irs, 32, ()) with
    | false => exact .inl ⟨_, _, rfl, rfl⟩
    | true =>
    cases i_WordOk.f (y.window, 16, ()) with
    | false => exact .inl ⟨_, _, rfl, rfl⟩
    | true =>
    cases i_OptionsOk.f (y.opts, ()) with
    | false => exact .inl ⟨_, _, rfl, rfl⟩
    | true =>
    cases (decide (0 ≤ y.age) && decide (y.age ≤ 6)) with
    | false => exact .inl ⟨_, _, rfl, rfl⟩
    | true =>
    cases (xs.take j).any (fun h => eqT y.tuple h.tuple) with
    | true => exact .inl ⟨_, _, rfl, rfl⟩
    | false => exact .inr ⟨rfl, rfl⟩)
  rcases h1 with ⟨v, w, h3, h4⟩ | ⟨h3, h4⟩ <;> rw [h3, h4] <;> by_cases h : 64 < (xs.length : Int)
  · rw [decide_eq_true h]; rfl
  · rw [decide_eq_false h]; rfl
  · rw [decide_eq_true h]; simp only [Stp.elim, cond_true]; exact decide_eq_false (by omega)
  · rw [decide_eq_false h]; simp only [Stp.elim, cond_false]; exact decide_eq_true (by omega)
theorem DoorOk_any (d : Door) (xs : List Half) : g_ContainsFunc_Half_i_DoorOk_1.f (xs, d, ()) = xs.any (fun h => decide (0 ≤ i_FindConn.f (d.table, h.tuple, ()))) := by
  simp only [PX, g_ContainsFunc_Half_i_DoorOk_1, g_IndexFunc_Half_i_DoorOk_1, g_IndexFunc_Half_i_DoorOk_1_L0_d]
  rw [forN_fidx (fun h : Half => decide (0 ≤ i_FindConn.f (d.table, h.tuple, ()))) xs (fun j y a h => by
    simp only [PX, g_IndexFunc_Half_i_DoorOk_1_L0_T, i_DoorOk_1, toNat_cast, getD_some h])]
  rw [← fidx_nn]
  unfold fidx
  cases xs.findIdx? (fun h => decide (0 ≤ i_FindConn.f (d.table, h.tuple, ()))) <;> rfl
theorem listN_any {T : Type} (p : T → Bool) (xs : List T) (j : Nat) : listN (W := Unit) (fun _ y (_ : Unit) => bif p y then .out () else .next ()) j xs () = bif xs.any p then .out () else .next () := by
  rw [listN_find (w := fun _ _ => ())]
  cases h : xs.findIdx? p with
  | none =>
    rw [List.findIdx?_eq_none_iff] at h
    have : xs.any p = false := by
      rw [List.any_eq_false]
      intro y hy; simp [h y hy]
    rw [this]; rfl
  | some i =>
    obtain ⟨h1, h2, _⟩ := List.findIdx?_eq_some_iff_getElem.1 h
    have : xs.any p = true := by rw [List.any_eq_true]; exact ⟨xs[i], List.getElem_mem h1, h2⟩
    rw [this]; simp only [List.getElem?_eq_getElem h1]; rfl
theorem q_DoorOk (x : Door) (hs : ∀ y ∈ x.table.conns, SmallP y.r.held) : s_DoorOk.f (x, ()) = i_DoorOk.f (x, ()) := by
  simp only [PX, s_DoorOk, i_DoorOk, s_DoorOk_L0_d, q_WordOk, q_KeysOk, q_TableOk x.table x.limits hs, q_HalvesOk, s_l1In_eq, i_within_eq, DoorOk_any]
  rw [toNat_sub0, forN_list x.halves _ rfl (F := fun j y a => bif decide (0 ≤ i_FindConn.f (x.table, y.tuple, ())) then .out () else .next ()) (by
    intro j y a h
    simp only [PX, s_DoorOk_L0_T, toNat_cast, getD_some h, q_FindConn])]
  rw [listN_any (fun y : Half => decide (0 ≤ i_FindConn.f (x.table, y.tuple, ())))]
  cases x.halves.any (fun y => decide (0 ≤ i_FindConn.f (x.table, y.tuple, ()))) <;> rfl
theorem listN_copy : ∀ (r : List Conn) (j : Nat) (c : List Conn) (w : List Tupl), listN (W := Empty) (fun _ x (a : Tabl × Tabl) => .next ((⟨[], []⟩ : Tabl), (⟨a.2.conns ++ [x], a.2.waiting⟩ : Tabl))) j r (⟨[], []⟩, ⟨c, w⟩) = .next (⟨[], []⟩, ⟨c ++ r, w⟩)
  | [], _, c, w => by simp only [listN, List.append_nil]
  | x :: r, j, c, w => by
    simp only [listN, Stp.elim]
    rw [listN_copy r]
    simp
theorem q_l18Copy (x : Recv) : s_l18Copy.f (x, ()) = x := by simp only [PX, s_l18Copy, List.nil_append]
theorem q_cloneReceiver (x : Recv) : i_cloneReceiver.f (x, ()) = x := by simp only [PX, i_cloneReceiver, g_Clone_Piece]
theorem q_l19Copy (x : Conn) : s_l19Copy.f (x, ()) = x := by simp only [PX, s_l19Copy, q_l18Copy]
theorem q_cloneConn (x : Conn) : i_cloneConn.f (x, ()) = x := by simp only [PX, i_cloneConn, q_cloneReceiver]
theorem q_l13Copy (x : Keys) : s_l13Copy.f (x, ()) = x := by simp only [PX, s_l13Copy, q_l11Copy]
theorem q_cloneKeys (x : Keys) : i_cloneKeys.f (x, ()) = x := by simp only [PX, i_cloneKeys, q_cloneMac]
theorem q_l25Copy (x : Tabl) : s_l25Copy.f (x, ()) = x := by
  simp only [PX, s_l25Copy, s_l25Copy_L0_d, List.nil_append]
  rw [toNat_sub0, forN_list x.conns _ rfl (F := fun _ y (a : Tabl × Tabl) => .next ((⟨[], []⟩ : Tabl), (⟨a.2.conns ++ [y], a.2.waiting⟩ : Tabl))) (by
    intro j y a h
    simp only [PX, s_l25Copy_L0_T, toNat_cast, getD_some h, q_l19Copy]), listN_copy]
  simp only [Stp.elim, PX, List.nil_append]
theorem q_cloneTable (x : Tabl) : i_cloneTable.f (x, ()) = x := by
  simp only [PX, i_cloneTable, i_cloneTable_L0_d, g_Clone_Tuple]
  rw [toNat_sub0, forN_list x.conns _ rfl (F := fun _ y (a : Tabl × Tabl) => .next ((⟨[], []⟩ : Tabl), (⟨a.2.conns ++ [y], a.2.waiting⟩ : Tabl))) (by
    intro j y a h
    simp only [PX, i_cloneTable_L0_T, toNat_cast, getD_some h, q_cloneConn]), listN_copy]
  simp only [Stp.elim, PX, List.nil_append]
theorem q_l26Copy (x : Door) : s_l26Copy.f (x, ()) = x := by simp only [PX, s_l26Copy, q_l13Copy, q_l25Copy, List.nil_append]
theorem q_cloneDoor (x : Door) : i_cloneDoor.f (x, ()) = x := by simp only [PX, i_cloneDoor, q_cloneKeys, q_cloneTable, g_Clone_Half]
theorem forN_skip {W : Type} {f : Int → Unit → Stp Unit W} : ∀ (k : Nat) (i : Int), (∀ j, f j () = .next ()) → forN f 1 k i () = .next ()
  | 0, _, _ => rfl
  | k + 1, i, h => by simp only [forN, h, Stp.elim]; exact forN_skip k _ h
theorem SameMac_self (m : Mac) : s_SameMac.f (m, m, ()) = true := by
  simp only [PX, s_SameMac, s_SameMac_L0_d]
  rw [forN_skip _ _ fun j => by simp only [PX, s_SameMac_L0_T, beq_self_eq_true, Bool.and_self, Bool.not_true, cond_false]]
  simp [PX, Stp.elim]
theorem SameReceiver_self (m : Recv) : s_SameReceiver.f (m, m, ()) = true := by
  simp only [PX, s_SameReceiver, s_SameReceiver_L0_d]
  rw [forN_skip _ _ fun j => by simp only [PX, s_SameReceiver_L0_T, beq_self_eq_true, Bool.and_self, Bool.not_true, cond_false]]
  simp [PX, Stp.elim]
theorem SameConn_self (m : Conn) : s_SameConn.f (m, m, ()) = true := by
  simp only [PX, s_SameConn, SameReceiver_self, beq_self_eq_true, Bool.and_self, cond_true]
theorem SameHalves_self (m : List Half) : s_SameHalves.f (m, m, ()) = true := by
  simp only [PX, s_SameHalves, s_SameHalves_L0_d]
  rw [forN_skip _ _ fun j => by simp only [PX, s_SameHalves_L0_T, beq_self_eq_true, Bool.and_self, Bool.not_true, cond_false]]
  simp [PX, Stp.elim]
theorem SameTable_self (m : Tabl) : s_SameTable.f (m, m, ()) = true := by
  simp only [PX, s_SameTable, s_SameTable_L0_d, s_SameTable_L1_d]
  rw [forN_skip (f := fun j a => (s_SameTable_L0_T m m j a).nice) _ _ fun j => by simp only [PX, s_SameTable_L0_T, SameConn_self, Bool.not_true, cond_false]]
  simp only [Stp.elim, PX]
  rw [forN_skip (f := fun j a => (s_SameTable_L1_T m m j a).nice) _ _ fun j => by simp only [PX, s_SameTable_L1_T, beq_self_eq_true, Bool.and_self, Bool.not_true, cond_false]]
  simp [PX, Stp.elim]
theorem SameKeys_self (m : Keys) : s_SameKeys.f (m, m, ()) = true := by
  simp only [PX, s_SameKeys, SameMac_self, beq_self_eq_true, cond_true]
theorem SameDoor_self (m : Door) : s_SameDoor.f (m, m, ()) = true := by
  simp only [PX, s_SameDoor, SameKeys_self, SameHalves_self, SameTable_self, beq_self_eq_true, Bool.and_self, cond_true]
theorem sameSegments_self (m : List Segm) : w_sameSegments.f (m, m, ()) = true := by
  simp only [PX, w_sameSegments, w_sameSegments_L0_d]
  rw [forN_skip _ _ fun j => by simp only [PX, w_sameSegments_L0_T, beq_self_eq_true, Bool.and_self, Bool.not_true, cond_false]]
  simp [PX, Stp.elim]
def smallD (d : Door) : Prop := ∀ y ∈ d.table.conns, SmallP y.r.held
theorem smallD_of {d : Door} (hd : sm_door d) : smallD d := by
  intro y hy p hp
  have h1 : sm_conn y := hd.2.2.2.2.2.2.1 y hy
  have h2 : sm_piec p := h1.2.2.2 p hp
  simp only [sm_piec] at h2
  omega
theorem forN_allN {W : Type} {f : Int → Unit → Stp Unit W} : ∀ (k i : Nat), forN f 1 k (i : Int) () = .next () ↔ ∀ j : Nat, i ≤ j → j < i + k → f (j : Int) () = .next ()
  | 0, i => ⟨fun _ j h1 h2 => by omega, fun _ => rfl⟩
  | k + 1, i => by
    constructor
    · intro h j h1 h2
      simp only [forN] at h
      cases hf : f (i : Int) () with
      | out w => rw [hf] at h; cases h
      | next a =>
        rw [hf] at h
        simp only [Stp.elim] at h
        rcases Nat.eq_or_lt_of_le h1 with h3 | h3
        · rw [← h3]; exact hf
        · rw [show (i : Int) + 1 = ((i + 1 : Nat) : Int) by omega] at h
          exact (forN_allN k (i + 1)).1 h j h3 (by omega)
    · intro h
      simp only [forN, h i (Nat.le_refl _) (by omega), Stp.elim]
      rw [show (i : Int) + 1 = ((i + 1 : Nat) : Int) by omega]
      exact (forN_allN k (i + 1)).2 fun j h1 h2 => h j (by omega) (by omega)
def halfOk (h : Half) : Bool := i_TupleOk.f (h.tuple, ()) && (i_WordOk.f (h.iss, 32, ()) && (i_WordOk.f (h.irs, 32, ()) && (i_WordOk.f (h.window, 16, ()) && (i_OptionsOk.f (h.opts, ()) && (decide (0 ≤ h.age) && decide (h.age ≤ 6))))))
theorem HalvesOk_T (xs : List Half) (j : Nat) (y : Half) (hy : xs[j]? = some y) : ((s_HalvesOk_L0_T xs (j : Int) ()).nice = .next ()) ↔ (halfOk y = true ∧ (xs.take j).any (fun h => eqT y.tuple h.tuple) = false) := by
  simp only [PX, s_HalvesOk_L0_T, toNat_cast, getD_some hy, q_TupleOk, q_WordOk, q_OptionsOk, s_l1In_eq, s_FindHalf_eq2, List.drop_zero, fidx_nn, halfOk]
  cases i_TupleOk.f (y.tuple, ()) <;> cases i_WordOk.f (y.iss, 32, ()) <;> cases i_WordOk.f (y.irs, 32, ()) <;> cases i_WordOk.f (y.window, 16, ()) <;> cases i_OptionsOk.f (y.opts, ()) <;> cases (decide (0 ≤ y.age) && decide (y.age ≤ 6)) <;> cases (xs.take j).any (fun h => eqT y.tuple h.tuple) <;> simp
theorem HalvesOk_iff (xs : List Half) : i_HalvesOk.f (xs, ()) = true ↔ (∀ (j : Nat) (y : Half), xs[j]? = some y → halfOk y = true ∧ (xs.take j).any (fun h => eqT y.tuple h.tuple) = false) ∧ xs.length ≤ 64 := by
  rw [← q_HalvesOk]
  have hT : forN (fun j a => (s_HalvesOk_L0_T xs j a).nice) 1 xs.length ((0 : Nat) : Int) () = .next () ↔ ∀ (j : Nat) (y : Half), xs[j]? = some y → halfOk y = true ∧ (xs.take j).any (fun h => eqT y.tuple h.tuple) = false := by
    rw [forN_allN]
    constructor
    · intro h j y hy
      exact (HalvesOk_T xs j y hy).1 (h j (Nat.zero_le _) (by have := (List.getElem?_eq_some_iff.1 hy).1; omega))
    · intro h j _ h2
      exact (HalvesOk_T xs j xs[j] (List.getElem?_eq_getElem (by omega))).2 (h j _ (List.getElem?_eq_getElem (by omega)))
  simp only [PX, s_HalvesOk, s_HalvesOk_L0_d]
  rw [toNat_sub0, show (0 : Int) = ((0 : Nat) : Int) from rfl, ← hT]
  cases forN (fun j a => (s_HalvesOk_L0_T xs j a).nice) 1 xs.length ((0 : Nat) : Int) () with
  | next a => simp only [Stp.elim, PX, decide_eq_true_eq, true_and]; omega
  | out w => simp [Stp.elim, PX]
theorem SO_iff (x : Sndr) : i_SenderOk.f (x, ()) = true ↔ SO x := by
  have h := i_SenderOk.c.h (x, ()) trivial
  simpa using h
theorem q_flying (x : Sndr) : s_l17Flown.f (x, ()) = i_flying.f (x, ()) := by simp only [PX, s_l17Flown, i_flying]
theorem q_NextOf (x : Sndr) : s_NextOf.f (x, ()) = i_NextOf.f (x, ()) := by simp only [PX, s_NextOf, i_NextOf, q_flying, q_SeqAdd]
theorem q_AckOf (c : Conn) : s_AckOf.f (c, ()) = i_AckOf.f (c, ()) := by simp only [PX, s_AckOf, i_AckOf, q_NextOf, q_WindowOf, s_NoOptions, i_NoOptions]
theorem q_MssFor (c : Conn) : s_MssFor.f (c, ()) = i_MssFor.f (c, ()) := by
  simp only [PX, s_MssFor, i_MssFor, s_l1Min_eq, s_l1Max_eq]
  cases (c.opts.mss == 0) with
  | true => rfl
  | false =>
    simp only [cond_false]
    generalize (if 1460 < c.opts.mss then (1460 : Int) else c.opts.mss) = m
    split <;> split <;> omega
theorem q_SentOff (x : Sndr) (y : Chun) : s_SentOff.f (x, y, ()) = i_SentOff.f (x, y, ()) := by
  simp only [PX, s_SentOff, i_SentOff, q_SenderOk]
  obtain ⟨u, dt, se, fi, fs, dn⟩ := x
  cases fi with
  | true => simp only [Bool.not_true, cond_false]
  | false =>
    cases hy : y.fin with
    | false => simp only [cond_false]
    | true =>
      have k1 : ∀ n : Int, i_SenderOk.f ((⟨u, dt, n, false, true, dn⟩ : Sndr), ()) = false := by
        intro n
        cases h : i_SenderOk.f ((⟨u, dt, n, false, true, dn⟩ : Sndr), ()) with
        | false => rfl
        | true =>
          have := (SO_iff _).1 h
          have h2 := this.2.2.2.2.2.1 rfl
          exact Bool.noConfusion h2.1
      simp only [k1, Bool.not_false, cond_true]
theorem q_Rewound (x : Sndr) : s_Rewound.f (x, ()) = i_Rewound.f (x, ()) := by
  simp only [PX, s_Rewound, i_Rewound, q_SenderOk]
  cases i_SenderOk.f (x, ()) <;> rfl
theorem q_Unsent (c : Conn) : s_Unsent.f (c, ()) = i_Unsent.f (c, ()) := by simp only [PX, s_Unsent, i_Unsent]
theorem q_Waits (c : Conn) (hs : SmallP c.r.held) : s_Waits.f (c, ()) = i_Waits.f (c, ()) := by
  simp only [PX, s_Waits, i_Waits, q_ConnOk c hs, q_Unsent]
theorem flying_eq (x : Sndr) (h : SO x) : i_flying.f (x, ()) = if x.finSent then x.sent + 1 else x.sent := by
  simp only [PX, i_flying]
  have h1 := h.2.2.2.1
  have h2 := h.2.2.2.2.1
  have h3 := h.2.2.1
  cases x.finSent with
  | true => simp only [cond_true, if_true]; rw [wrap64 (by omega) (by omega)]
  | false => rfl
theorem chunk_text (l : Bytes) (S n : Int) (h0 : 0 ≤ S) (h1 : 0 ≤ n) : (l.take (S + n).toNat).drop S.toNat = (l.drop S.toNat).take n.toNat := by
  rw [List.drop_take]; congr 1; omega
theorem q_NextChunk (x : Sndr) (w m : Int) (hw : w ≤ 9223372036854775807) : s_NextChunk.f (x, w, m, ()) = i_NextChunk.f (x, w, m, ()) := by
  simp only [PX, s_NextChunk, i_NextChunk, q_SenderOk, q_flying, q_NextOf, s_l1Min_eq, s_l1Max_eq]
  cases h : i_SenderOk.f (x, ()) with
  | false => rfl
  | true =>
  have hs := (SO_iff x).1 h
  have h1 := hs.2.2.2.1
  have h2 := hs.2.2.2.2.1
  have h3 := hs.2.2.1
  simp only [Bool.not_true, cond_false]
  have hF : x.sent ≤ i_flying.f (x, ()) ∧ i_flying.f (x, ()) ≤ x.sent + 1 := by
    rw [flying_eq x hs]; split <;> omega
  obtain ⟨F, eF⟩ : ∃ F, i_flying.f (x, ()) = F := ⟨_, rfl⟩
  rw [eF] at hF
  simp only [eF]
  generalize i_NextOf.f (x, ()) = q
  rw [toNat_cast, List.take_length, List.length_drop]
  rw [wrap64 (m := (x.data.length : Int) - x.sent) (by omega) (by omega)]
  rw [show ((x.data.length - x.sent.toNat : Nat) : Int) = (x.data.length : Int) - x.sent by omega]
  obtain ⟨c2, e2⟩ : ∃ z : Int, (if w < 1000000 then w else 1000000) = z := ⟨_, rfl⟩
  simp only [e2]
  obtain ⟨c3, e3⟩ : ∃ z : Int, (if c2 < 0 then 0 else c2) = z := ⟨_, rfl⟩
  simp only [e3]
  have b3 : 0 ≤ c3 ∧ c3 ≤ 1000000 := by grind
  rw [wrap64 (m := c3 - F) (by omega) (by omega)]
  obtain ⟨c5, e5⟩ : ∃ z : Int, (if c3 - F < 0 then 0 else c3 - F) = z := ⟨_, rfl⟩
  simp only [e5]
  obtain ⟨W, eW⟩ : ∃ z : Int, (if w < -1 then -1 else w) = z := ⟨_, rfl⟩
  simp only [eW]
  have bW : -1 ≤ W ∧ W ≤ 9223372036854775807 := by grind
  rw [wrap64 (m := W - F) (by omega) (by omega)]
  obtain ⟨D, eD⟩ : ∃ z : Int, (x.data.length : Int) - x.sent = z := ⟨_, rfl⟩
  simp only [eD]
  obtain ⟨c6, e6⟩ : ∃ z : Int, (if m < c5 then m else c5) = z := ⟨_, rfl⟩
  simp only [e6]
  obtain ⟨c7, e7⟩ : ∃ z : Int, (if c6 < D then c6 else D) = z := ⟨_, rfl⟩
  simp only [e7]
  obtain ⟨n, e8⟩ : ∃ z : Int, (if c7 < 0 then 0 else c7) = z := ⟨_, rfl⟩
  simp only [e8]
  obtain ⟨d3, f3⟩ : ∃ z : Int, (if m < D then m else D) = z := ⟨_, rfl⟩
  simp only [f3]
  obtain ⟨d4, f4⟩ : ∃ z : Int, (if W - F < d3 then W - F else d3) = z := ⟨_, rfl⟩
  simp only [f4]
  have en : (if 0 < d4 then d4 else 0) = n := by grind
  rw [en]
  have bn : 0 ≤ n ∧ n ≤ D := by grind
  have bw : decide (n < W - F) = decide (n < c5) := by
    rw [decide_eq_decide]; grind
  rw [bw, wrap64 (m := x.sent + n) (by omega) (by omega), chunk_text x.data x.sent n h1 bn.1, List.drop_zero]
  have el : (((x.data.drop x.sent.toNat).take n.toNat) == []) = (n == 0) := by
    have hl : ((x.data.drop x.sent.toNat).take n.toNat).length = n.toNat := by rw [List.length_take, List.length_drop]; omega
    generalize (x.data.drop x.sent.toNat).take n.toNat = z at *
    cases z with
    | nil => simp only [List.length_nil] at hl; rw [show n = 0 by omega]; rfl
    | cons a r => simp only [List.length_cons] at hl; rw [Bool.eq_iff_iff]; simp; omega
  have ed : (x.sent + n == (x.data.length : Int)) = (n == D) := by
    rw [Bool.eq_iff_iff]; simp only [beq_iff_eq]; omega
  rw [el, ed]
theorem whileN_simF {A B W W' : Type} [Inhabited W] [Inhabited W'] {f : A → Stp A W} {g : B → Stp B W'} {R : A → B → Prop} {Q : W → W' → Prop} (hd : Q default default)
    (h : ∀ a b, R a b → (∃ a' b', f a = .next a' ∧ g b = .next b' ∧ R a' b') ∨ (∃ w w', f a = .out w ∧ g b = .out w' ∧ Q w w')) :
    ∀ (m : Nat) (a : A) (b : B), R a b → Q (whileN f m a) (whileN g m b)
  | 0, _, _, _ => hd
  | m + 1, a, b, hr => by
    rcases h a b hr with ⟨a', b', e1, e2, hr'⟩ | ⟨w, w', e1, e2, hq⟩
    · simp only [whileN, e1, e2, Stp.elim]
      exact whileN_simF hd h m a' b' hr'
    · simp only [whileN, e1, e2, Stp.elim]
      exact hq
def fixT (c : Conn) (l : List Segm) : Conn := { c with timer := if l = [] then c.timer else if c.timer = 0 then 3 else c.timer }
theorem fixT_nil (c : Conn) : fixT c [] = c := by simp [fixT]
theorem fixT_sent (c : Conn) (l : List Segm) (g : Segm) (x : Sndr) : (bif ((fixT c l).timer == 0) then ({ fixT c l with s := x, timer := 3 } : Conn) else { fixT c l with s := x }) = fixT { c with s := x } (l ++ [g]) := by
  simp only [fixT]
  have h1 : ¬ (l ++ [g] = []) := by simp
  rw [if_neg h1]
  by_cases hl : l = []
  · rw [if_pos hl]
    by_cases ht : c.timer = 0
    · rw [if_pos ht, show (c.timer == 0) = true by simp [ht]]; rfl
    · rw [if_neg ht, show (c.timer == 0) = false by simp [ht]]; rfl
  · rw [if_neg hl]
    by_cases ht : c.timer = 0
    · rw [if_pos ht]; rfl
    · rw [if_neg ht, show (c.timer == 0) = false by simp [ht]]; rfl
theorem q_Pump (c : Conn) (w : Int) (hw : w ≤ 9223372036854775807) (hs : SmallP c.r.held) : s_Pump.f (c, w, ()) = i_Pump.f (c, w, ()) := by
  simp only [PX, s_Pump, i_Pump, q_l19Copy, q_cloneConn, q_ConnOk c hs, s_Pump_L0_d, i_Pump_L0_d]
  cases (bif !i_ConnOk.f (c, ()) then (true, ()) else bif (c.state == 8) then (true, ()) else ((c.state == 7), ())).1 with
  | true => rfl
  | false =>
  simp only [cond_false]
  have key := whileN_simF (f := fun a => (s_Pump_L0_T w a).nice) (g := fun a => (i_Pump_L0_T w a).nice) (R := fun a b => a.1 = fixT b.2.1 b.2.2 ∧ a.2.2 = b.2.2) (Q := fun p q => p.1 = fixT q.2.1 q.2.2 ∧ p.2 = q.2.2) ⟨(fixT_nil _).symm, rfl⟩ (by
    rintro ⟨a1, a2, al⟩ ⟨b1, b2, bl⟩ ⟨h1, h2⟩
    simp only [] at h1 h2
    subst h1; subst h2
    have hm : i_MssFor.f (fixT b2 al, ()) = i_MssFor.f (b2, ()) := rfl
    have ha : i_AckOf.f (fixT b2 al, ()) = i_AckOf.f (b2, ()) := rfl
    have hx : (fixT b2 al).s = b2.s := rfl
    simp only [PX, s_Pump_L0_T, i_Pump_L0_T, q_MssFor, q_NextChunk _ _ _ hw, q_AckOf, q_SentOff, hm, ha, hx]
    obtain ⟨z, hz⟩ : ∃ z, i_NextChunk.f (b2.s, w, i_MssFor.f (b2, ()), ()) = z := ⟨_, rfl⟩
    simp only [hz]
    obtain ⟨g, hg⟩ : ∃ g, i_AckOf.f (b2, ()) = g := ⟨_, rfl⟩
    simp only [hg]
    obtain ⟨x, hx2⟩ : ∃ x, i_SentOff.f (b2.s, z.1, ()) = x := ⟨_, rfl⟩
    simp only [hx2]
    cases z.2 with
    | false => exact .inr ⟨_, _, rfl, rfl, rfl, rfl⟩
    | true =>
      have hf : ∀ g' : Segm, _ := fun g' => fixT_sent b2 al g' x
      cases ht : ((fixT b2 al).timer == 0) <;> rw [ht] at hf <;> simp only [cond_true, cond_false] at hf <;> cases (z.1.text == []) <;> cases z.1.fin <;> exact .inl ⟨_, _, rfl, rfl, hf _, rfl⟩) (sgm c.s + 1) (c, ⟨⟨0, 0, 0⟩, 0, ⟨0, [], 0, false, false, false⟩, ⟨0, [], [], 0, false⟩, 0, 0, ⟨0, 0, false, false, 0, 0⟩, 0, 0⟩, []) (⟨⟨0, 0, 0⟩, 0, ⟨0, [], 0, false, false, false⟩, ⟨0, [], [], 0, false⟩, 0, 0, ⟨0, 0, false, false, 0, 0⟩, 0, 0⟩, c, []) ⟨(fixT_nil c).symm, rfl⟩
  obtain ⟨p, hp⟩ : ∃ p, whileN (fun a => (s_Pump_L0_T w a).nice) (sgm c.s + 1) (c, ⟨⟨0, 0, 0⟩, 0, ⟨0, [], 0, false, false, false⟩, ⟨0, [], [], 0, false⟩, 0, 0, ⟨0, 0, false, false, 0, 0⟩, 0, 0⟩, []) = p := ⟨_, rfl⟩
  obtain ⟨q, hq⟩ : ∃ q, whileN (fun a => (i_Pump_L0_T w a).nice) (sgm c.s + 1) (⟨⟨0, 0, 0⟩, 0, ⟨0, [], 0, false, false, false⟩, ⟨0, [], [], 0, false⟩, 0, 0, ⟨0, 0, false, false, 0, 0⟩, 0, 0⟩, c, []) = q := ⟨_, rfl⟩
  rw [hp, hq] at key
  simp only [hp, hq]
  obtain ⟨p1, p2⟩ := p
  obtain ⟨q1, q2, q3⟩ := q
  obtain ⟨k1, k2⟩ := key
  simp only [] at k1 k2
  subst k1; subst k2
  cases p2 with
  | nil => simp only [PX, fixT_nil, List.length_nil]; rfl
  | cons g r =>
    simp only [PX, decide_eq_true (show 0 < ((g :: r).length : Int) by simp only [List.length_cons]; omega), cond_true, fixT, if_neg (show ¬ (g :: r = []) by simp)]
    by_cases ht : q2.timer = 0
    · simp only [ht, if_true, beq_self_eq_true, cond_true]
    · simp only [if_neg ht, show (q2.timer == 0) = false by simp [ht], cond_false]
def kst (k : Int) (sf sd rd : Bool) : Bool := bif k == 8 then true else (sf == !(k == 1 || k == 4)) && ((sd == (k == 3 || k == 7)) && (rd == (k == 4 || decide (5 ≤ k))))
theorem ConnOk_b (x : Conn) : i_ConnOk.f (x, ()) = (i_TupleOk.f (x.tuple, ()) && (i_SenderOk.f (x.s, ()) && (i_ReceiverOk.f (x.r, ()) && (i_OptionsOk.f (x.opts, ()) && ((decide (1 ≤ x.state) && decide (x.state ≤ 8)) && ((decide (0 ≤ x.most) && decide (x.most ≤ 1073725440)) && ((decide (0 ≤ x.window) && decide (x.window ≤ x.most)) && ((decide (0 ≤ x.timer) && bif x.state == 7 then decide (x.timer ≤ 4) else decide (x.timer ≤ 3)) && ((decide (0 ≤ x.tries) && decide (x.tries ≤ 3)) && kst x.state x.s.fin x.s.done x.r.done))))))))) := by
  simp only [PX, i_ConnOk, i_within_eq]
  cases i_TupleOk.f (x.tuple, ()) with
  | false => rfl
  | true =>
  cases i_SenderOk.f (x.s, ()) with
  | false => rfl
  | true =>
  cases i_ReceiverOk.f (x.r, ()) with
  | false => rfl
  | true =>
  cases i_OptionsOk.f (x.opts, ()) with
  | false => rfl
  | true =>
  simp only [Bool.not_true, cond_false, Bool.true_and]
  have ej : ∀ b : Bool, (bif b then (false, (4 : Int), x, ()) else (false, 3, x, ())) = (false, (bif b then 4 else 3), x, ()) := fun b => by cases b <;> rfl
  have et : ∀ b : Bool, decide (x.timer ≤ bif b then 4 else 3) = bif b then decide (x.timer ≤ 4) else decide (x.timer ≤ 3) := fun b => by cases b <;> rfl
  simp only [ej, et]
  generalize (decide (0 ≤ x.window) && decide (x.window ≤ x.most)) = W
  generalize (decide (0 ≤ x.most) && decide (x.most ≤ 1073725440)) = N
  generalize (decide (0 ≤ x.tries) && decide (x.tries ≤ 3)) = T
  generalize decide (0 ≤ x.timer) = T0
  generalize decide (x.timer ≤ 4) = T4
  generalize decide (x.timer ≤ 3) = T3
  generalize x.s.fin = sf
  generalize x.s.done = sd
  generalize x.r.done = rd
  generalize x.state = k
  have hk : k = 1 ∨ k = 2 ∨ k = 3 ∨ k = 4 ∨ k = 5 ∨ k = 6 ∨ k = 7 ∨ k = 8 ∨ (decide (1 ≤ k) && decide (k ≤ 8)) = false := by
    simp only [Bool.and_eq_false_iff, decide_eq_false_iff_not]; omega
  rcases hk with rfl | rfl | rfl | rfl | rfl | rfl | rfl | rfl | hk
  iterate 8 (revert W N T T0 T4 T3 sf sd rd; decide +kernel)
  simp only [hk]; rfl
structure CO (x : Conn) : Prop where
  tup : i_TupleOk.f (x.tuple, ()) = true
  snd : SO x.s
  rcv : i_ReceiverOk.f (x.r, ()) = true
  opt : i_OptionsOk.f (x.opts, ()) = true
  s1 : 1 ≤ x.state
  s8 : x.state ≤ 8
  m0 : 0 ≤ x.most
  m1 : x.most ≤ 1073725440
  w0 : 0 ≤ x.window
  w1 : x.window ≤ x.most
  t0 : 0 ≤ x.timer
  t4 : x.timer ≤ 4
  t3 : x.state ≠ 7 → x.timer ≤ 3
  r0 : 0 ≤ x.tries
  r3 : x.tries ≤ 3
  fl : kst x.state x.s.fin x.s.done x.r.done = true
theorem CO_iff (x : Conn) : i_ConnOk.f (x, ()) = true ↔ CO x := by
  rw [ConnOk_b]
  simp only [Bool.and_eq_true, decide_eq_true_eq, SO_iff]
  have et : (bif x.state == 7 then decide (x.timer ≤ 4) else decide (x.timer ≤ 3)) = true ↔ x.timer ≤ 4 ∧ (x.state ≠ 7 → x.timer ≤ 3) := by
    by_cases h : x.state = 7
    · simp [h]
    · have h2 : (x.state == 7) = false := by simpa using h
      simp only [h2, cond_false, decide_eq_true_eq]
      exact ⟨fun h3 => ⟨by omega, fun _ => h3⟩, fun h3 => h3.2 h⟩
  rw [et]
  constructor
  · rintro ⟨h1, h2, h3, h4, ⟨h5, h6⟩, ⟨h7, h8⟩, ⟨h9, h10⟩, ⟨h11, h12, h13⟩, ⟨h14, h15⟩, h16⟩
    exact ⟨h1, h2, h3, h4, h5, h6, h7, h8, h9, h10, h11, h12, h13, h14, h15, h16⟩
  · rintro ⟨h1, h2, h3, h4, h5, h6, h7, h8, h9, h10, h11, h12, h13, h14, h15, h16⟩
    exact ⟨h1, h2, h3, h4, ⟨h5, h6⟩, ⟨h7, h8⟩, ⟨h9, h10⟩, ⟨h11, h12, h13⟩, ⟨h14, h15⟩, h16⟩
structure Sent (c d : Conn) : Prop where
  so : SO d.s
  s1 : d.s.data = c.s.data
  s2 : d.s.fin = c.s.fin
  s3 : d.s.done = c.s.done
  s4 : d.s.una = c.s.una
  tm : d.timer = c.timer ∨ d.timer = 3
  re : d = { c with s := d.s, timer := d.timer }
theorem Sent.refl (c : Conn) (h : SO c.s) : Sent c c := ⟨h, rfl, rfl, rfl, rfl, .inl rfl, rfl⟩
theorem Sent.ok {c d : Conn} (h : Sent c d) (hc : CO c) (ht : d.timer ≤ 3 ∨ d.timer = c.timer) : CO d := by
  obtain ⟨so, s1, s2, s3, s4, tm, re⟩ := h
  obtain ⟨t, st, s, r, w, m, o, ti, tr⟩ := c
  obtain ⟨t', st', s', r', w', m', o', ti', tr'⟩ := d
  simp only [Conn.mk.injEq] at re
  obtain ⟨rfl, rfl, -, rfl, rfl, rfl, rfl, -, rfl⟩ := re
  simp only [] at *
  refine ⟨hc.tup, so, hc.rcv, hc.opt, hc.s1, hc.s8, hc.m0, hc.m1, hc.w0, hc.w1, ?_, ?_, ?_, hc.r0, hc.r3, ?_⟩
  · have := hc.t0; simp only [] at *; omega
  · have := hc.t4; simp only [] at *; omega
  · intro h7; have := hc.t3 h7; simp only [] at *; omega
  · have := hc.fl; simp only [] at *; rw [s2, s3]; exact this
theorem sm_of_SO {x : Sndr} (h : SO x) : sm_sndr x := by
  have := h.2.2.1
  unfold sm_sndr; grind
theorem sentOff_step (x : Sndr) (w m : Int) (y : Chun) (hy : (i_NextChunk.f (x, w, m, ())) = (y, true)) (hx : SO x) : SO (i_SentOff.f (x, y, ())) ∧ (i_SentOff.f (x, y, ())).data = x.data ∧ (i_SentOff.f (x, y, ())).fin = x.fin ∧ (i_SentOff.f (x, y, ())).done = x.done ∧ (i_SentOff.f (x, y, ())).una = x.una ∧ sgm (i_SentOff.f (x, y, ())) < sgm x := by
  have h1 := i_NextChunk.c.h (x, w, m, ()) (sm_of_SO hx)
  change sm_chun (i_NextChunk.f (x, w, m, ())).1 ∧ ((i_NextChunk.f (x, w, m, ())).2 = true → _) at h1
  have e1 : (i_NextChunk.f (x, w, m, ())).1 = y := by rw [hy]
  have e2 : (i_NextChunk.f (x, w, m, ())).2 = true := by rw [hy]
  obtain ⟨h2, h3⟩ := h1
  obtain ⟨-, h4, h5, h6, h7⟩ := h3 e2
  simp only [e1] at h2 h4 h5 h6 h7
  clear e1 e2
  have h8 := (i_SentOff.c.h (x, y, ()) ⟨sm_of_SO hx, h2⟩).2 hx h4 h5 h7
  change i_SentOff.f (x, y, ()) = _ at h8
  rw [h8]
  obtain ⟨e1, e2, e3, e4, e5, e6, e7⟩ := hx
  refine ⟨⟨e1, e2, e3, ?_, ?_, ?_, ?_⟩, rfl, rfl, rfl, rfl, ?_⟩
  · show 0 ≤ x.sent + (y.text.length : Int); omega
  · show x.sent + (y.text.length : Int) ≤ (x.data.length : Int); omega
  · intro hf; exact ⟨(h7 hf).1, (h7 hf).2.2⟩
  · intro hd
    refine ⟨(e7 hd).1, ?_, (e7 hd).2.2⟩
    show y.fin = false
    cases hf : y.fin with
    | false => rfl
    | true => have := (h7 hf).2.1; rw [this] at hd; cases hd
  · show ((x.data.length : Int) - (x.sent + (y.text.length : Int))).toNat + (if y.fin = true then 0 else 1) < ((x.data.length : Int) - x.sent).toNat + (if x.finSent = true then 0 else 1)
    rw [h5]
    simp only [Bool.false_eq_true, if_false]
    have hl : y.text = [] ∨ 0 < y.text.length := by cases y.text <;> simp
    rcases hl with hl | hl
    · rw [h6 hl]; simp only [if_true]; omega
    · split <;> omega
theorem Pump_step (w : Int) (c : Conn) (a : Conn × Conn × List Segm) (h : Sent c a.2.1) : (∃ l, (i_Pump_L0_T w a).nice = .out (({ a.1 with r.held := [] } : Conn), a.2.1, l)) ∨ (∃ a', (i_Pump_L0_T w a).nice = .next a' ∧ Sent c a'.2.1 ∧ sgm a'.2.1.s < sgm a.2.1.s) := by
  obtain ⟨a1, a2, al⟩ := a
  simp only [] at h
  simp only [PX, i_Pump_L0_T]
  obtain ⟨z, hz⟩ : ∃ z, i_NextChunk.f (a2.s, w, i_MssFor.f (a2, ()), ()) = z := ⟨_, rfl⟩
  simp only [hz]
  obtain ⟨y, b⟩ := z
  cases b with
  | false => exact .inl ⟨_, rfl⟩
  | true =>
    obtain ⟨k1, k2, k3, k4, k5, k6⟩ := sentOff_step a2.s w _ y hz h.so
    obtain ⟨x, hx⟩ : ∃ x, i_SentOff.f (a2.s, y, ()) = x := ⟨_, rfl⟩
    rw [hx] at k1 k2 k3 k4 k5 k6
    simp only [hx]
    have hs : Sent c ({ a2 with s := x } : Conn) := by
      obtain ⟨so, s1, s2, s3, s4, tm, re⟩ := h
      refine ⟨k1, k2.trans s1, k3.trans s2, k4.trans s3, k5.trans s4, tm, ?_⟩
      rw [re]
    cases (y.text == []) <;> cases y.fin <;> exact .inr ⟨_, rfl, hs, k6⟩
theorem Pump_sent (c : Conn) (w : Int) (hc : SO c.s) : Sent c (i_Pump.f (c, w, ())).1 := by
  simp only [PX, i_Pump, q_cloneConn, i_Pump_L0_d]
  cases (bif !i_ConnOk.f (c, ()) then (true, ()) else bif (c.state == 8) then (true, ()) else ((c.state == 7), ())).1 with
  | true => exact Sent.refl c hc
  | false =>
  simp only [cond_false]
  have key := whileN_post (f := fun a => (i_Pump_L0_T w a).nice) (Inv := fun a => Sent c a.2.1) (Q := fun p => Sent c p.2.1) (meas := fun a => sgm a.2.1.s) (fun a hi a' he => by
    rcases Pump_step w c a hi with ⟨l, e⟩ | ⟨a2, e, h1, h2⟩
    · simp only [e] at he; cases he
    · simp only [e, Stp.next.injEq] at he; subst he; exact ⟨h1, h2⟩) (fun a hi p he => by
    rcases Pump_step w c a hi with ⟨l, e⟩ | ⟨a2, e, h1, h2⟩
    · simp only [e, Stp.out.injEq] at he; subst he; exact hi
    · simp only [e] at he; cases he) (sgm c.s + 1) (⟨⟨0, 0, 0⟩, 0, ⟨0, [], 0, false, false, false⟩, ⟨0, [], [], 0, false⟩, 0, 0, ⟨0, 0, false, false, 0, 0⟩, 0, 0⟩, c, []) (Nat.lt_succ_self _) (Sent.refl c hc)
  obtain ⟨q, hq⟩ : ∃ q, whileN (fun a => (i_Pump_L0_T w a).nice) (sgm c.s + 1) (⟨⟨0, 0, 0⟩, 0, ⟨0, [], 0, false, false, false⟩, ⟨0, [], [], 0, false⟩, 0, 0, ⟨0, 0, false, false, 0, 0⟩, 0, 0⟩, c, []) = q := ⟨_, rfl⟩
  rw [hq] at key
  simp only [hq]
  obtain ⟨q1, q2, q3⟩ := q
  simp only [] at key ⊢
  cases (bif decide (0 < (q3.length : Int)) then ((q2.timer == 0), ()) else (false, ())).1 with
  | false => exact key
  | true =>
    obtain ⟨so, s1, s2, s3, s4, tm, re⟩ := key
    refine ⟨so, s1, s2, s3, s4, .inr rfl, ?_⟩
    exact congrArg (fun d : Conn => ({ d with timer := 3 } : Conn)) re
theorem Waits_ok (c : Conn) (h : i_Waits.f (c, ()) = true) : i_ConnOk.f (c, ()) = true ∧ c.state ≠ 8 := by
  simp only [PX, i_Waits] at h
  cases hc : i_ConnOk.f (c, ()) with
  | false => rw [hc] at h; cases h
  | true =>
    rw [hc] at h
    refine ⟨rfl, fun h8 => ?_⟩
    rw [h8] at h; cases h
def tick0 (c : Conn) : Int := if c.timer = 0 then (if c.state = 7 then 4 else 3) else c.timer
theorem tick0_rng {c : Conn} (h : CO c) : 1 ≤ tick0 c ∧ tick0 c ≤ 4 := by
  have := h.t0; have := h.t4
  unfold tick0; split
  · split <;> omega
  · omega
def TC (c : Conn) : Conn × List Segm :=
  if i_Waits.f (c, ()) = true then
    if 0 < tick0 c - 1 then ({ c with timer := tick0 c - 1 }, [])
    else if c.state = 7 then ({ c with state := 8, timer := 0, tries := 0 }, [])
    else if c.tries = 3 then ({ c with state := 8, timer := 0, tries := 0 }, [{ i_AckOf.f (c, ()) with flags := bits .or .i64 (i_AckOf.f (c, ())).flags 4 }])
    else ({ (i_Pump.f ({ c with s := i_Rewound.f (c.s, ()), timer := 0, tries := c.tries + 1 }, (if c.window = 0 then 1 else c.window), ())).1 with timer := 3 }, (i_Pump.f ({ c with s := i_Rewound.f (c.s, ()), timer := 0, tries := c.tries + 1 }, (if c.window = 0 then 1 else c.window), ())).2)
  else if i_ConnOk.f (c, ()) = true then ({ c with timer := 0, tries := 0 }, []) else (c, [])
theorem i_TickConn_eq (c : Conn) : i_TickConn.f (c, ()) = TC c := by
  simp only [PX, i_TickConn, q_cloneConn]
  unfold TC
  cases hw : i_Waits.f (c, ()) with
  | false =>
    simp only [Bool.not_false, cond_true, Bool.false_eq_true, if_false]
    cases i_ConnOk.f (c, ()) <;> rfl
  | true =>
    obtain ⟨h1, h2⟩ := Waits_ok c hw
    have hc := (CO_iff c).1 h1
    have hr := tick0_rng hc
    have r0 := hc.r0
    have r3 := hc.r3
    have w0 := hc.w0
    have w1 := hc.w1
    have m1 := hc.m1
    simp only [Bool.not_true, cond_false, if_true]
    by_cases e1 : c.timer = 0
    · have t1 : (c.timer == 0) = true := by simp [e1]
      by_cases e2 : c.state = 7
      · have t2 : (c.state == 7) = true := by simp [e2]
        have t3 : tick0 c - 1 = 3 := by unfold tick0; rw [if_pos e1, if_pos e2]; rfl
        rw [t3]
        simp only [t1, t2, cond_true]
        rfl
      · have t2 : (c.state == 7) = false := by simp [e2]
        have t3 : tick0 c - 1 = 2 := by unfold tick0; rw [if_pos e1, if_neg e2]; rfl
        rw [t3]
        simp only [t1, t2, cond_true, cond_false]
        rfl
    have t1 : (c.timer == 0) = false := by simp [e1]
    have t3 : tick0 c = c.timer := by unfold tick0; rw [if_neg e1]
    rw [t3] at hr ⊢
    have e1 : IntKind.wrap .i64 (c.timer - 1) = c.timer - 1 := wrap64 (by omega) (by omega)
    have e2 : IntKind.wrap .i64 (c.tries + 1) = c.tries + 1 := wrap64 (by omega) (by omega)
    have e4 : (if c.window < 1 then 1 else c.window) = if c.window = 0 then 1 else c.window := by split <;> split <;> omega
    simp only [t1, cond_false]
    dsimp only [Tr.nice]
    simp only [PX, e1, e2]
    by_cases c1 : 0 < c.timer - 1
    · simp only [if_pos c1, decide_eq_true c1, cond_true]
    have e3 : c.timer - 1 = 0 := by omega
    simp only [e3, Int.lt_irrefl, if_false, decide_false, cond_false, letK_eq]
    by_cases c2 : c.state = 7
    · simp only [if_pos c2, show (c.state == 7) = true by simp [c2], cond_true]
    simp only [if_neg c2, show (c.state == 7) = false by simp [c2], cond_false]
    by_cases c3 : c.tries = 3
    · simp only [if_pos c3, show (c.tries == 3) = true by simp [c3], cond_true]
    simp only [if_neg c3, show (c.tries == 3) = false by simp [c3], cond_false]
    by_cases c4 : c.window = 0
    · simp only [if_pos c4, show (c.window == 0) = true by simp [c4], cond_true]
      rfl
    · simp only [if_neg c4, show (c.window == 0) = false by simp [c4], cond_false]
      rfl
theorem s_TickConn_eq (c : Conn) (hs : SmallP c.r.held) : s_TickConn.f (c, ()) = TC c := by
  simp only [PX, s_TickConn, q_l19Copy, q_Waits c hs, q_ConnOk c hs]
  unfold TC
  cases hw : i_Waits.f (c, ()) with
  | false =>
    simp only [Bool.not_false, cond_true, Bool.false_eq_true, if_false]
    cases i_ConnOk.f (c, ()) <;> rfl
  | true =>
    obtain ⟨h1, h2⟩ := Waits_ok c hw
    have hc := (CO_iff c).1 h1
    have hr := tick0_rng hc
    have r0 := hc.r0
    have r3 := hc.r3
    have w0 := hc.w0
    have w1 := hc.w1
    have m1 := hc.m1
    simp only [Bool.not_true, cond_false, if_true]
    by_cases e1 : c.timer = 0
    · have t1 : (c.timer == 0) = true := by simp [e1]
      by_cases e2 : c.state = 7
      · have t2 : (c.state == 7) = true := by simp [e2]
        have t3 : tick0 c - 1 = 3 := by unfold tick0; rw [if_pos e1, if_pos e2]; rfl
        rw [t3]
        simp only [t1, t2, cond_true]
        rfl
      · have t2 : (c.state == 7) = false := by simp [e2]
        have t3 : tick0 c - 1 = 2 := by unfold tick0; rw [if_pos e1, if_neg e2]; rfl
        rw [t3]
        simp only [t1, t2, cond_true, cond_false]
        rfl
    have t1 : (c.timer == 0) = false := by simp [e1]
    have t3 : tick0 c = c.timer := by unfold tick0; rw [if_neg e1]
    rw [t3] at hr ⊢
    have e1 : IntKind.wrap .i64 (c.timer - 1) = c.timer - 1 := wrap64 (by omega) (by omega)
    have e2 : IntKind.wrap .i64 (c.tries + 1) = c.tries + 1 := wrap64 (by omega) (by omega)
    have e4 : (if c.window < 1 then 1 else c.window) = if c.window = 0 then 1 else c.window := by split <;> split <;> omega
    simp only [t1, cond_false]
    dsimp only [Tr.nice]
    simp only [PX, e1, e2, s_l1Max_eq, q_Rewound, q_AckOf, e4]
    by_cases c1 : 0 < c.timer - 1
    · simp only [if_pos c1, decide_eq_true c1, cond_true]
    have e3 : c.timer - 1 = 0 := by omega
    simp only [e3, Int.lt_irrefl, if_false, decide_false, cond_false, letK_eq]
    by_cases c2 : c.state = 7
    · simp only [if_pos c2, show (c.state == 7) = true by simp [c2], cond_true]
    simp only [if_neg c2, show (c.state == 7) = false by simp [c2], cond_false]
    by_cases c3 : c.tries = 3
    · simp only [if_pos c3, show (c.tries == 3) = true by simp [c3], cond_true]
    simp only [if_neg c3, show (c.tries == 3) = false by simp [c3], cond_false]
    have e5 := q_Pump ({ c with s := i_Rewound.f (c.s, ()), timer := 0, tries := c.tries + 1 }) (if c.window = 0 then 1 else c.window) (by split <;> omega) hs
    simp only [e5]
theorem listN_fm {T A W : Type} (p : T → Bool) (g : T → A) : ∀ (r : List T) (j : Nat) (a : List A), listN (W := W) (fun _ x (a : List A) => bif p x then .next (a ++ [g x]) else .next a) j r a = .next (a ++ (r.filter p).map g)
  | [], _, a => by simp [listN]
  | x :: r, j, a => by
    cases h : p x <;> simp only [listN, h, cond_true, cond_false, Stp.elim, listN_fm p g r, List.filter_cons, if_true, Bool.false_eq_true, if_false, List.map_cons, List.append_assoc, List.cons_append, List.nil_append]
def agedN (xs : List Half) : List Half := (xs.filter (fun h => decide (h.age < 6))).map (fun h => ({ h with age := IntKind.wrap .i64 (h.age + 1) } : Half))
theorem s_AgedHalves_eq (xs : List Half) : s_AgedHalves.f (xs, ()) = agedN xs := by
  simp only [PX, s_AgedHalves, s_AgedHalves_L0_d]
  rw [toNat_sub0, forN_list xs _ rfl (F := fun _ x (a : List Half) => bif decide (x.age < 6) then .next (a ++ [({ x with age := IntKind.wrap .i64 (x.age + 1) } : Half)]) else .next a) (by
    intro j x a h
    simp only [PX, s_AgedHalves_L0_T, toNat_cast, getD_some h])]
  rw [listN_fm (fun x : Half => decide (x.age < 6)) (fun x => ({ x with age := IntKind.wrap .i64 (x.age + 1) } : Half))]
  rfl
theorem i_AgedHalves_eq (xs : List Half) (ha : ∀ y ∈ xs, y.age ≤ 6) (hb : ∀ y ∈ xs, 0 ≤ y.age) : i_AgedHalves.f (xs, ()) = agedN xs := by
  simp only [PX, i_AgedHalves, i_AgedHalves_L0_d]
  rw [toNat_sub0, forN_list xs _ rfl (F := fun _ x (a : List Half) => bif decide (x.age < 6) then .next (a ++ [({ x with age := IntKind.wrap .i64 (x.age + 1) } : Half)]) else .next a) (by
    intro j x a h
    have h1 := ha x (mem_at h)
    have h2 := hb x (mem_at h)
    have h3 : decide (IntKind.wrap .i64 (x.age + 1) ≤ 6) = decide (x.age < 6) := by rw [wrap64 (by omega) (by omega)]; apply decide_eq_decide.2; omega
    simp only [PX, i_AgedHalves_L0_T, toNat_cast, getD_some h, h3])]
  rw [listN_fm (fun x : Half => decide (x.age < 6)) (fun x => ({ x with age := IntKind.wrap .i64 (x.age + 1) } : Half))]
  rfl
theorem del_loop {T : Type} (p : T → Bool) (xs : List T) {f : Int → Int × List T → Stp (Int × List T) Empty} (hf : ∀ (j k : Nat) (ys : List T) x, ys[j]? = some x → k ≤ j → j < xs.length → f (j : Int) ((k : Int), ys) = bif p x then .next ((k : Int), ys) else .next (((k + 1 : Nat) : Int), ys.set k x)) :
    ∀ (n j k : Nat) (ys : List T), ys.length = xs.length → k ≤ j → j + n = xs.length → ys.take k = (xs.take j).filter (fun x => !p x) → ys.drop j = xs.drop j → ∃ (k' : Nat) (zs : List T), forN f 1 n (j : Int) ((k : Int), ys) = .next ((k' : Int), zs) ∧ zs.length = xs.length ∧ k' ≤ xs.length ∧ zs.take k' = xs.filter (fun x => !p x)
  | 0, j, k, ys, hl, hk, hn, ht, hd => ⟨k, ys, rfl, hl, by omega, by rw [ht, List.take_of_length_le (by omega)]⟩
  | n + 1, j, k, ys, hl, hk, hn, ht, hd => by
    have hj : j < xs.length := by omega
    have hy : ys[j]? = some xs[j] := by
      have : (ys.drop j)[0]? = (xs.drop j)[0]? := by rw [hd]
      simpa [List.getElem?_drop, hj] using this
    have e : (xs.take (j + 1)).filter (fun x => !p x) = (xs.take j).filter (fun x => !p x) ++ (if p xs[j] = true then [] else [xs[j]]) := by
      rw [List.take_succ_eq_append_getElem hj, List.filter_append]
      congr 1
      cases hp : p xs[j] <;> simp [hp]
    have hd2 : ys.drop (j + 1) = xs.drop (j + 1) := by
      rw [← List.drop_drop, ← List.drop_drop, hd]
    simp only [forN, hf j k ys xs[j] hy hk hj]
    have c1 : ((j : Int) + 1) = ((j + 1 : Nat) : Int) := by omega
    cases hp : p xs[j] with
    | true =>
      simp only [cond_true, Stp.elim]
      rw [c1]
      exact del_loop p xs hf n (j + 1) k ys hl (by omega) (by omega) (by rw [e, hp, ht]; simp) hd2
    | false =>
      simp only [cond_false, Stp.elim]
      rw [c1]
      refine del_loop p xs hf n (j + 1) (k + 1) (ys.set k xs[j]) (by rw [List.length_set]; exact hl) (by omega) (by omega) ?_ ?_
      · rw [e, hp, List.take_succ_eq_append_getElem (by rw [List.length_set]; omega), List.take_set_of_le (Nat.le_refl _), ht]
        simp
      · rw [List.drop_set_of_lt (by omega)]; exact hd2
theorem Contains_any (xs : List Tupl) (t : Tupl) : g_Contains_Tuple.f (xs, t, ()) = xs.any (eqT t) := by
  simp only [PX, g_Contains_Tuple, Index_Tuple_eq2, fidx_nn]
def keepC (t : Tabl) (c : Conn) : Bool := bif c.state != 8 then true else t.waiting.any (eqT c.tuple)
def keepW (t : Tabl) (x : Tupl) : Bool := decide (0 ≤ i_FindConn.f (t, x, ()))
def sweptN (t : Tabl) : Tabl := ⟨t.conns.filter (keepC t), t.waiting.filter (keepW t)⟩
theorem listN_fm2 {A B W : Type} (p : A → Bool) (mk : List A → B) (z : B) (get : B → List A) (hg : ∀ l, get (mk l) = l) : ∀ (r : List A) (j : Nat) (l : List A), listN (W := W) (fun _ x (a : B × B) => bif p x then .next (z, mk (get a.2 ++ [x])) else .next (z, mk (get a.2))) j r (z, mk l) = .next (z, mk (l ++ r.filter p))
  | [], _, l => by simp [listN]
  | x :: r, j, l => by
    cases h : p x <;> simp only [listN, h, cond_true, cond_false, Stp.elim, hg, listN_fm2 p mk z get hg r, List.filter_cons, if_true, Bool.false_eq_true, if_false, List.append_assoc, List.cons_append, List.nil_append]
theorem s_Swept_eq (t : Tabl) : s_Swept.f (t, ()) = sweptN t := by
  simp only [PX, s_Swept, s_Swept_L0_d, s_Swept_L1_d]
  have h1 : forN (fun j a => (s_Swept_L0_T t j a).nice) 1 (Int.toNat ((t.conns.length : Int) - 0)) 0 ((⟨[], []⟩ : Tabl), (⟨[], []⟩ : Tabl)) = .next ((⟨[], []⟩ : Tabl), (⟨t.conns.filter (keepC t), []⟩ : Tabl)) := by
    rw [toNat_sub0, forN_list t.conns _ rfl (F := fun _ x (a : Tabl × Tabl) => bif keepC t x then .next (⟨[], []⟩, (⟨a.2.conns ++ [x], []⟩ : Tabl)) else .next (⟨[], []⟩, (⟨a.2.conns, []⟩ : Tabl))) (by
      intro j x a h
      simp only [PX, s_Swept_L0_T, toNat_cast, getD_some h, l25Waits_any, q_l19Copy, keepC]
      cases (x.state != 8) with
      | true => rfl
      | false => cases t.waiting.any (eqT x.tuple) <;> rfl)]
    exact listN_fm2 (keepC t) (fun l => (⟨l, []⟩ : Tabl)) ⟨[], []⟩ Tabl.conns (fun _ => rfl) t.conns 0 []
  have h2 : ∀ l : List Conn, forN (fun j a => (s_Swept_L1_T t j a).nice) 1 (Int.toNat ((t.waiting.length : Int) - 0)) 0 ((⟨[], []⟩ : Tabl), (⟨l, []⟩ : Tabl)) = .next ((⟨[], []⟩ : Tabl), (⟨l, t.waiting.filter (keepW t)⟩ : Tabl)) := by
    intro l
    rw [toNat_sub0, forN_list t.waiting _ rfl (F := fun _ x (a : Tabl × Tabl) => bif keepW t x then .next (⟨[], []⟩, (⟨a.2.conns, a.2.waiting ++ [x]⟩ : Tabl)) else .next (⟨[], []⟩, a.2)) (by
      intro j x a h
      simp only [PX, s_Swept_L1_T, toNat_cast, getD_some h, q_FindConn, keepW])]
    have : ∀ (r : List Tupl) (j : Nat) (l2 : List Tupl), listN (W := Empty) (fun _ x (a : Tabl × Tabl) => bif keepW t x then .next (⟨[], []⟩, (⟨a.2.conns, a.2.waiting ++ [x]⟩ : Tabl)) else .next (⟨[], []⟩, a.2)) j r (⟨[], []⟩, (⟨l, l2⟩ : Tabl)) = .next (⟨[], []⟩, (⟨l, l2 ++ r.filter (keepW t)⟩ : Tabl)) := by
      intro r
      induction r with
      | nil => intro j l2; simp [listN]
      | cons x r ih =>
        intro j l2
        cases h : keepW t x <;> simp only [listN, h, cond_true, cond_false, Stp.elim, ih, List.filter_cons, if_true, Bool.false_eq_true, if_false, List.append_assoc, List.cons_append, List.nil_append]
    exact this t.waiting 0 []
  simp only [h1, Stp.elim, PX, h2]
  rfl
theorem fidx_none {T : Type} (p : T → Bool) (xs : List T) (h : (fidx p xs == -1) = true) : xs.filter (fun x => !p x) = xs := by
  unfold fidx at h
  cases hf : xs.findIdx? p with
  | some i => rw [hf] at h; simp at h
  | none =>
    rw [List.findIdx?_eq_none_iff] at hf
    rw [List.filter_eq_self]; intro x hx; simp [hf x hx]
theorem fidx_some {T : Type} (p : T → Bool) (xs : List T) (h : (fidx p xs == -1) = false) : ∃ i : Nat, fidx p xs = (i : Int) ∧ ∃ hi : i < xs.length, xs.take i = (xs.take (i + 1)).filter (fun x => !p x) := by
  unfold fidx at h ⊢
  cases hf : xs.findIdx? p with
  | none => rw [hf] at h; simp at h
  | some i =>
    obtain ⟨h1, h2, h3⟩ := List.findIdx?_eq_some_iff_getElem.1 hf
    refine ⟨i, rfl, h1, ?_⟩
    rw [List.take_succ_eq_append_getElem h1, List.filter_append]
    have e1 : (xs.take i).filter (fun x => !p x) = xs.take i := by
      rw [List.filter_eq_self]
      intro x hx
      obtain ⟨j, hj, rfl⟩ := List.getElem_of_mem hx
      have hj2 : j < i := by rw [List.length_take] at hj; omega
      have := h3 j hj2
      simp only [List.getElem_take]
      simp [this]
    have e2 : [xs[i]].filter (fun x => !p x) = [] := by simp [h2]
    rw [e1, e2, List.append_nil]
theorem DelC (xs : List Conn) (t : Tabl) (hl : xs.length ≤ 4294967296) : (g_DeleteFunc_Conn_i_Swept_1.f (xs, t, ())).2.take (g_DeleteFunc_Conn_i_Swept_1.f (xs, t, ())).1 = xs.filter (keepC t) := by
  have ep : ∀ x, i_Swept_1.f (x, t, ()) = !keepC t x := by
    intro x
    simp only [PX, i_Swept_1, Contains_any, keepC]
    by_cases h : x.state = 8
    · rw [show (x.state == 8) = true by simp [h], show (x.state != 8) = false by simp [h]]; rfl
    · rw [show (x.state == 8) = false by simp [h], show (x.state != 8) = true by simp [h]]; rfl
  have en : ∀ l : List Conn, l.filter (keepC t) = l.filter (fun x => !(!keepC t x)) := fun l => by simp only [Bool.not_not]
  have ei : g_IndexFunc_Conn_i_Swept_1_o.f (xs, t, ()) = fidx (fun x => !keepC t x) xs := by
    simp only [PX, g_IndexFunc_Conn_i_Swept_1_o, g_IndexFunc_Conn_i_Swept_1_o_L0_d]
    rw [forN_fidx (fun x => !keepC t x) xs (fun j x a h => by
      simp only [PX, g_IndexFunc_Conn_i_Swept_1_o_L0_T, toNat_cast, getD_some h, ep])]
    unfold fidx
    cases xs.findIdx? (fun x => !keepC t x) <;> rfl
  simp only [PX, g_DeleteFunc_Conn_i_Swept_1, g_DeleteFunc_Conn_i_Swept_1_L0_d, ei]
  rw [en]
  cases hf : (fidx (fun x => !keepC t x) xs == -1) with
  | true => simp only [cond_true, List.take_length]; exact (fidx_none _ _ hf).symm
  | false =>
    obtain ⟨i, hi, hlt, ht⟩ := fidx_some _ _ hf
    simp only [hi, cond_false]
    rw [wrap64 (by omega) (by omega)]
    obtain ⟨k', zs, e, z1, z2, z3⟩ := del_loop (fun x => !keepC t x) xs (f := fun j a => (g_DeleteFunc_Conn_i_Swept_1_L0_T t j a).nice) (fun j k ys x hx hk hj => by
      simp only [PX, g_DeleteFunc_Conn_i_Swept_1_L0_T, toNat_cast, getD_some hx, ep]
      rw [wrap64 (by omega) (by omega)]
      cases keepC t x <;> rfl) (xs.length - (i + 1)) (i + 1) i xs rfl (by omega) (by omega) ht rfl
    rw [show Int.toNat ((xs.length : Int) - ((i : Int) + 1)) = xs.length - (i + 1) by omega]
    have e2 : ((i : Int) + 1) = ((i + 1 : Nat) : Int) := by omega
    rw [e2, e]
    simp only [Stp.elim, PX]
    rw [← z3, List.append_assoc, List.take_append_of_le_length (by simp; omega)]
    simp
    rw [List.take_take, Nat.min_self]
theorem DelT (xs : List Tupl) (t : Tabl) (hl : xs.length ≤ 4294967296) : (g_DeleteFunc_Tuple_i_Swept_2.f (xs, t, ())).2.take (g_DeleteFunc_Tuple_i_Swept_2.f (xs, t, ())).1 = xs.filter (keepW t) := by
  have ep : ∀ x, i_Swept_2.f (x, t, ()) = !keepW t x := by
    intro x
    simp only [PX, i_Swept_2, keepW]
    rw [← decide_not]; apply decide_eq_decide.2; omega
  have en : ∀ l : List Tupl, l.filter (keepW t) = l.filter (fun x => !(!keepW t x)) := fun l => by simp only [Bool.not_not]
  have ei : g_IndexFunc_Tuple_i_Swept_2_o.f (xs, t, ()) = fidx (fun x => !keepW t x) xs := by
    simp only [PX, g_IndexFunc_Tuple_i_Swept_2_o, g_IndexFunc_Tuple_i_Swept_2_o_L0_d]
    rw [forN_fidx (fun x => !keepW t x) xs (fun j x a h => by
      simp only [PX, g_IndexFunc_Tuple_i_Swept_2_o_L0_T, toNat_cast, getD_some h, ep])]
    unfold fidx
    cases xs.findIdx? (fun x => !keepW t x) <;> rfl
  simp only [PX, g_DeleteFunc_Tuple_i_Swept_2, g_DeleteFunc_Tuple_i_Swept_2_L0_d, ei]
  rw [en]
  cases hf : (fidx (fun x => !keepW t x) xs == -1) with
  | true => simp only [cond_true, List.take_length]; exact (fidx_none _ _ hf).symm
  | false =>
    obtain ⟨i, hi, hlt, ht⟩ := fidx_some _ _ hf
    simp only [hi, cond_false]
    rw [wrap64 (by omega) (by omega)]
    obtain ⟨k', zs, e, z1, z2, z3⟩ := del_loop (fun x => !keepW t x) xs (f := fun j a => (g_DeleteFunc_Tuple_i_Swept_2_L0_T t j a).nice) (fun j k ys x hx hk hj => by
      simp only [PX, g_DeleteFunc_Tuple_i_Swept_2_L0_T, toNat_cast, getD_some hx, ep]
      rw [wrap64 (by omega) (by omega)]
      cases keepW t x <;> rfl) (xs.length - (i + 1)) (i + 1) i xs rfl (by omega) (by omega) ht rfl
    rw [show Int.toNat ((xs.length : Int) - ((i : Int) + 1)) = xs.length - (i + 1) by omega]
    have e2 : ((i : Int) + 1) = ((i + 1 : Nat) : Int) := by omega
    rw [e2, e]
    simp only [Stp.elim, PX]
    rw [← z3, List.append_assoc, List.take_append_of_le_length (by simp; omega)]
    simp
    rw [List.take_take, Nat.min_self]
theorem i_Swept_eq (t : Tabl) (h1 : t.conns.length ≤ 4294967296) (h2 : t.waiting.length ≤ 4294967296) : i_Swept.f (t, ()) = sweptN t := by
  simp only [PX, i_Swept, q_cloneTable, DelC _ _ h1, DelT _ _ h2, sweptN]
theorem tick_in (ip : Int) (xs : List Segm) {f : Int → Door × List Mail → Stp (Door × List Mail) Empty} (hf : ∀ (j : Nat) x a, xs[j]? = some x → ∃ d, f (j : Int) a = .next (d, a.2 ++ [(⟨ip, x⟩ : Mail)])) :
    ∀ (n j : Nat) (d : Door) (l : List Mail), j + n = xs.length → ∃ d2, forN f 1 n (j : Int) (d, l) = .next (d2, l ++ (xs.drop j).map (fun g => (⟨ip, g⟩ : Mail)))
  | 0, j, d, l, h => ⟨d, by rw [List.drop_of_length_le (by omega)]; simp [forN]⟩
  | n + 1, j, d, l, h => by
    have hj : j < xs.length := by omega
    obtain ⟨d1, e1⟩ := hf j xs[j] (d, l) (List.getElem?_eq_getElem hj)
    obtain ⟨d2, e2⟩ := tick_in ip xs hf n (j + 1) d1 (l ++ [⟨ip, xs[j]⟩]) (by omega)
    refine ⟨d2, ?_⟩
    simp only [forN, e1, Stp.elim]
    rw [show (j : Int) + 1 = ((j + 1 : Nat) : Int) by omega, e2, List.drop_eq_getElem_cons hj]
    simp only [List.map_cons, List.append_assoc, List.cons_append, List.nil_append]
def tickedC (xs : List Conn) : List Conn := xs.map (fun c => (TC c).1)
def mails (xs : List Conn) : List Mail := xs.flatMap (fun c => (TC c).2.map (fun g => (⟨c.tuple.ip, g⟩ : Mail)))
theorem tick_loop {E : Type} (out : Conn → List E) (xs : List Conn) (d : Door) {f : Int → Door × Door × List E → Stp (Door × Door × List E) Empty} (hf : ∀ (j : Nat) x (a : Door × Door × List E), a.2.1.table.conns[j]? = some x → xs[j]? = some x → ∃ z, f (j : Int) a = .next (z, ({ a.2.1 with table.conns := a.2.1.table.conns.set j (TC x).1 } : Door), a.2.2 ++ out x)) :
    ∀ (n j : Nat) (z : Door) (ys : List Conn) (l : List E), j + n = xs.length → ys.length = xs.length → ys.drop j = xs.drop j → ys.take j = tickedC (xs.take j) → ∃ z2, forN f 1 n (j : Int) (z, ({ d with table.conns := ys } : Door), l) = .next (z2, ({ d with table.conns := tickedC xs } : Door), l ++ (xs.drop j).flatMap out)
  | 0, j, z, ys, l, h, hl, hd, ht => ⟨z, by
    rw [List.take_of_length_le (by omega), List.take_of_length_le (by omega)] at ht
    rw [List.drop_of_length_le (by omega), ht]; simp [forN]⟩
  | n + 1, j, z, ys, l, h, hl, hd, ht => by
    have hj : j < xs.length := by omega
    have hy : ys[j]? = some xs[j] := by
      have : (ys.drop j)[0]? = (xs.drop j)[0]? := by rw [hd]
      simpa [List.getElem?_drop, hj] using this
    obtain ⟨z1, e1⟩ := hf j xs[j] (z, ({ d with table.conns := ys } : Door), l) hy (List.getElem?_eq_getElem hj)
    have hd2 : ys.drop (j + 1) = xs.drop (j + 1) := by
      rw [← List.drop_drop, ← List.drop_drop, hd]
    obtain ⟨z2, e2⟩ := tick_loop out xs d hf n (j + 1) z1 (ys.set j (TC xs[j]).1) (l ++ out xs[j]) (by omega) (by rw [List.length_set]; exact hl) (by rw [List.drop_set_of_lt (by omega)]; exact hd2) (by
      rw [List.take_succ_eq_append_getElem (by rw [List.length_set]; omega), List.take_set_of_le (Nat.le_refl _), ht, List.take_succ_eq_append_getElem hj]
      simp only [tickedC, List.map_append, List.map_cons, List.map_nil, List.getElem_set_self])
    refine ⟨z2, ?_⟩
    simp only [forN, e1, Stp.elim]
    rw [show (j : Int) + 1 = ((j + 1 : Nat) : Int) by omega]
    refine e2.trans ?_
    rw [List.drop_eq_getElem_cons hj]
    simp only [List.flatMap_cons, List.append_assoc]
theorem s_TickDoor_eq (d : Door) (hs : smallD d) : s_TickDoor.f (d, ()) = bif i_DoorOk.f (d, ()) then ({ d with clock := s_l4Rest.f (IntKind.wrap .i64 (d.clock + 1), ()), chal := 0, halves := agedN d.halves, table := sweptN ⟨tickedC d.table.conns, d.table.waiting⟩ }, d.table.conns.flatMap (fun c => (TC c).2)) else (d, []) := by
  simp only [PX, s_TickDoor, q_l26Copy, q_DoorOk d hs, s_AgedHalves_eq, s_TickDoor_L0_d]
  cases i_DoorOk.f (d, ()) with
  | false => rfl
  | true =>
    simp only [Bool.not_true, cond_false, cond_true]
    obtain ⟨z2, e⟩ := tick_loop (fun c => (TC c).2) d.table.conns ({ d with clock := s_l4Rest.f (IntKind.wrap .i64 (d.clock + 1), ()), chal := 0, halves := agedN d.halves } : Door) (f := fun j a => (s_TickDoor_L0_T j a).nice) (fun j x a h1 h2 => by
      simp only [PX, s_TickDoor_L0_T, toNat_cast, getD_some h1, s_TickConn_eq x (hs x (mem_at h2))]
      exact ⟨_, rfl⟩) d.table.conns.length 0 (⟨0, 0, ⟨0, ⟨false, 0, 0, []⟩, ⟨false, 0, 0, []⟩, false⟩, ⟨0, 0, 0, 0⟩, [], ⟨[], []⟩, 0⟩ : Door) d.table.conns [] (by omega) rfl rfl rfl
    rw [toNat_sub0]
    refine (congrArg (Stp.elim _ _) e).trans ?_
    simp only [Stp.elim, s_Swept_eq, List.nil_append, List.drop_zero]
theorem i_tickDoor_eq (d : Door) (ha : ∀ y ∈ d.halves, y.age ≤ 6) (hb : ∀ y ∈ d.halves, 0 ≤ y.age) (h1 : d.table.conns.length ≤ 4294967296) (h2 : d.table.waiting.length ≤ 4294967296) (hd : i_DoorOk.f (d, ()) = true) : i_tickDoor.f (d, ()) = ({ d with clock := i_SeqAdd.f (d.clock, 1, ()), chal := 0, halves := agedN d.halves, table := sweptN ⟨tickedC d.table.conns, d.table.waiting⟩ }, mails d.table.conns) := by
  simp only [PX, i_tickDoor, q_cloneDoor, hd, i_AgedHalves_eq _ ha hb, i_tickDoor_L0_d, Bool.not_true, cond_false]
  obtain ⟨z2, e⟩ := tick_loop (fun c => (TC c).2.map (fun g => (⟨c.tuple.ip, g⟩ : Mail))) d.table.conns ({ d with clock := i_SeqAdd.f (d.clock, 1, ()), chal := 0, halves := agedN d.halves } : Door) (f := fun j a => (i_tickDoor_L0_T d.table.conns (d.table.conns.length : Int) j a).nice) (fun j x a h1 h2 => by
    simp only [PX, i_tickDoor_L0_T, toNat_cast, getD_some h2, i_TickConn_eq, i_tickDoor_L0_0_d]
    obtain ⟨d2, e2⟩ := tick_in x.tuple.ip (TC x).2 (f := fun k a => (i_tickDoor_L0_0_T x (TC x).2 k a).nice) (fun j y a h => by
      simp only [PX, i_tickDoor_L0_0_T, toNat_cast, getD_some h]
      exact ⟨_, rfl⟩) (TC x).2.length 0 ({ a.1 with keys.now.rows := [], keys.before.rows := [], halves := [], table.conns := [], table.waiting := [] } : Door) a.2.2 (by omega)
    rw [toNat_sub0]
    exact ⟨_, (congrArg (Stp.elim _ _) e2).trans rfl⟩) d.table.conns.length 0 (⟨0, 0, ⟨0, ⟨false, 0, 0, []⟩, ⟨false, 0, 0, []⟩, false⟩, ⟨0, 0, 0, 0⟩, [], ⟨[], []⟩, 0⟩ : Door) d.table.conns [] (by omega) rfl rfl rfl
  rw [toNat_sub0]
  refine (congrArg (Stp.elim _ _) e).trans ?_
  simp only [Stp.elim, List.nil_append, List.drop_zero]
  rw [i_Swept_eq ⟨tickedC d.table.conns, d.table.waiting⟩ (by simp only [tickedC, List.length_map]; exact h1) h2]
  rfl
theorem i_TickDoor_eq (d : Door) (ha : ∀ y ∈ d.halves, y.age ≤ 6) (hb : ∀ y ∈ d.halves, 0 ≤ y.age) (h1 : d.table.conns.length ≤ 4294967296) (h2 : d.table.waiting.length ≤ 4294967296) (hd : i_DoorOk.f (d, ()) = true) : i_TickDoor.f (d, ()) = ({ d with clock := i_SeqAdd.f (d.clock, 1, ()), chal := 0, halves := agedN d.halves, table := sweptN ⟨tickedC d.table.conns, d.table.waiting⟩ }, d.table.conns.flatMap (fun c => (TC c).2)) := by
  simp only [PX, i_TickDoor, i_tickDoor_eq d ha hb h1 h2 hd, i_TickDoor_L0_d]
  have key : ∀ (xs : List Mail) (n j : Nat) (z : Door) (l : List Segm), j + n = xs.length → ∃ z2, forN (fun j a => (i_TickDoor_L0_T xs j a).nice) 1 n (j : Int) (z, l) = .next (z2, l ++ (xs.drop j).map Mail.g) := by
    intro xs n
    induction n with
    | zero => intro j z l h; exact ⟨z, by rw [List.drop_of_length_le (by omega)]; simp [forN]⟩
    | succ n ih =>
      intro j z l h
      have hj : j < xs.length := by omega
      have hx : xs[j]? = some xs[j] := List.getElem?_eq_getElem hj
      obtain ⟨z2, e⟩ := ih (j + 1) ({ z with keys.now.rows := [], keys.before.rows := [], halves := [], table.conns := [], table.waiting := [] } : Door) (l ++ [xs[j].g]) (by omega)
      refine ⟨z2, ?_⟩
      simp only [forN, PX, i_TickDoor_L0_T, toNat_cast, getD_some hx, Stp.elim]
      rw [show (j : Int) + 1 = ((j + 1 : Nat) : Int) by omega]
      refine e.trans ?_
      rw [List.drop_eq_getElem_cons hj]
      simp only [List.map_cons, List.append_assoc, List.cons_append, List.nil_append]
  obtain ⟨z2, e⟩ := key (mails d.table.conns) (mails d.table.conns).length 0 (⟨0, 0, ⟨0, ⟨false, 0, 0, []⟩, ⟨false, 0, 0, []⟩, false⟩, ⟨0, 0, 0, 0⟩, [], ⟨[], []⟩, 0⟩ : Door) [] (by omega)
  rw [toNat_sub0]
  refine (congrArg (Stp.elim _ _) e).trans ?_
  simp only [Stp.elim, List.nil_append, List.drop_zero]
  congr 1
  unfold mails
  rw [List.map_flatMap]
  congr 1
  funext c
  rw [List.map_map]
  exact List.map_id _
theorem eqT_iff (a b : Tupl) : eqT a b = true ↔ a = b := by
  obtain ⟨a1, a2, a3⟩ := a
  obtain ⟨b1, b2, b3⟩ := b
  simp only [eqT, Bool.and_true, Bool.and_eq_true, beq_iff_eq, Tupl.mk.injEq]
  constructor <;> rintro ⟨rfl, rfl, rfl⟩ <;> exact ⟨rfl, rfl, rfl⟩
theorem any_eqT {T : Type} (f : T → Tupl) (xs : List T) (t : Tupl) : xs.any (fun h => eqT t (f h)) = true ↔ t ∈ xs.map f := by
  simp only [List.any_eq_true, List.mem_map, eqT_iff]
  constructor
  · rintro ⟨x, h1, h2⟩; exact ⟨x, h1, h2.symm⟩
  · rintro ⟨x, h1, h2⟩; exact ⟨x, h1, h2.symm⟩
theorem nodup_any {T : Type} (f : T → Tupl) (xs : List T) : (∀ (j : Nat) (y : T), xs[j]? = some y → (xs.take j).any (fun h => eqT (f y) (f h)) = false) ↔ (xs.map f).Nodup := by
  unfold List.Nodup
  rw [List.pairwise_iff_getElem]
  constructor
  · intro h i j hi hj hij he
    rw [List.length_map] at hi hj
    simp only [List.getElem_map] at he
    have := h j xs[j] (List.getElem?_eq_getElem hj)
    rw [List.any_eq_false] at this
    refine this xs[i] ?_ ((eqT_iff _ _).2 he.symm)
    rw [List.mem_take_iff_getElem]
    exact ⟨i, by omega, rfl⟩
  · intro h j y hy
    rw [List.any_eq_false]
    intro z hz he
    rw [List.mem_take_iff_getElem] at hz
    obtain ⟨i, hi, rfl⟩ := hz
    obtain ⟨hj, rfl⟩ := List.getElem?_eq_some_iff.1 hy
    have := h i j (by rw [List.length_map]; omega) (by rw [List.length_map]; exact hj) (by omega)
    simp only [List.getElem_map] at this
    exact this ((eqT_iff _ _).1 he).symm
structure LO (l : Limi) : Prop where
  h1 : 1 ≤ l.halves
  h2 : l.halves ≤ 64
  w1 : 1 ≤ l.waiting
  w2 : l.waiting ≤ 16
  c1 : 1 ≤ l.conns
  c2 : l.conns ≤ 16
  k0 : 0 ≤ l.chal
  k1 : l.chal ≤ 1000
theorem LO_iff (l : Limi) : i_LimitsOk.f (l, ()) = true ↔ LO l := by
  simp only [PX, i_LimitsOk, i_within_eq]
  have e : (bif decide (1 ≤ l.halves) && decide (l.halves ≤ 64) then bif decide (1 ≤ l.waiting) && decide (l.waiting ≤ 16) then bif decide (1 ≤ l.conns) && decide (l.conns ≤ 16) then decide (0 ≤ l.chal) && decide (l.chal ≤ 1000) else false else false else false) = ((decide (1 ≤ l.halves) && decide (l.halves ≤ 64)) && ((decide (1 ≤ l.waiting) && decide (l.waiting ≤ 16)) && ((decide (1 ≤ l.conns) && decide (l.conns ≤ 16)) && (decide (0 ≤ l.chal) && decide (l.chal ≤ 1000))))) := by
    cases (decide (1 ≤ l.halves) && decide (l.halves ≤ 64)) <;> cases (decide (1 ≤ l.waiting) && decide (l.waiting ≤ 16)) <;> cases (decide (1 ≤ l.conns) && decide (l.conns ≤ 16)) <;> simp
  rw [e]
  simp only [Bool.and_eq_true, decide_eq_true_eq]
  constructor
  · rintro ⟨⟨h1, h2⟩, ⟨h3, h4⟩, ⟨h5, h6⟩, h7, h8⟩; exact ⟨h1, h2, h3, h4, h5, h6, h7, h8⟩
  · rintro ⟨h1, h2, h3, h4, h5, h6, h7, h8⟩; exact ⟨⟨h1, h2⟩, ⟨h3, h4⟩, ⟨h5, h6⟩, h7, h8⟩
structure TO (t : Tabl) (l : Limi) : Prop where
  lim : LO l
  nc : (t.conns.length : Int) ≤ l.conns
  nw : (t.waiting.length : Int) ≤ l.waiting
  co : ∀ c ∈ t.conns, CO c
  dc : (t.conns.map Conn.tuple).Nodup
  dw : t.waiting.Nodup
  wc : ∀ w ∈ t.waiting, w ∈ t.conns.map Conn.tuple
theorem mem_of_all {T : Type} {P : T → Prop} {xs : List T} : (∀ (j : Nat) (y : T), xs[j]? = some y → P y) ↔ ∀ y ∈ xs, P y := by
  constructor
  · intro h y hy
    obtain ⟨j, hj, rfl⟩ := List.getElem_of_mem hy
    exact h j _ (List.getElem?_eq_getElem hj)
  · intro h j y hy; exact h y (mem_at hy)
theorem forN_all {T W : Type} {f : Int → Unit → Stp Unit W} (xs : List T) {P : Nat → T → Prop} (h : ∀ (j : Nat) (y : T), xs[j]? = some y → (f (j : Int) () = .next () ↔ P j y)) : forN f 1 (Int.toNat ((xs.length : Int) - 0)) 0 () = .next () ↔ ∀ (j : Nat) (y : T), xs[j]? = some y → P j y := by
  rw [toNat_sub0, show (0 : Int) = ((0 : Nat) : Int) from rfl, forN_allN]
  constructor
  · intro h1 j y hy
    exact (h j y hy).1 (h1 j (Nat.zero_le _) (by have := (List.getElem?_eq_some_iff.1 hy).1; omega))
  · intro h1 j _ h2
    exact (h j xs[j] (List.getElem?_eq_getElem (by omega))).2 (h1 j _ (List.getElem?_eq_getElem (by omega)))
theorem TO_iff (t : Tabl) (l : Limi) : i_TableOk.f (t, l, ()) = true ↔ TO t l := by
  have f1 := forN_all t.conns (f := fun j a => (i_TableOk_L0_T t.conns t j a).nice) (P := fun j y => CO y ∧ (t.conns.take j).any (fun h => eqT y.tuple h.tuple) = false) (fun j y hy => by
    simp only [PX, i_TableOk_L0_T, toNat_cast, getD_some hy, i_FindConn_eq2]
    rw [fidx_at (fun h : Conn => eqT y.tuple h.tuple) t.conns j y hy (eqT_refl _), ← CO_iff]
    cases i_ConnOk.f (y, ()) <;> cases (t.conns.take j).any (fun h => eqT y.tuple h.tuple) <;> simp)
  have f2 := forN_all t.waiting (f := fun j a => (i_TableOk_L1_T t.waiting t j a).nice) (P := fun j y => y ∈ t.conns.map Conn.tuple ∧ (t.waiting.take j).any (fun h => eqT y h) = false) (fun j y hy => by
    simp only [PX, i_TableOk_L1_T, toNat_cast, getD_some hy, i_FindConn_eq2, Index_Tuple_eq2, fidx_lt]
    rw [fidx_at (eqT y) t.waiting j y hy (eqT_refl _), ← any_eqT]
    cases t.conns.any (fun h => eqT y h.tuple) <;> cases (t.waiting.take j).any (fun h => eqT y h) <;> simp)
  have f3 := nodup_any Conn.tuple t.conns
  have f4 := nodup_any (fun x => x) t.waiting
  rw [List.map_id'] at f4
  have f5 : forN (fun j a => (i_TableOk_L0_T t.conns t j a).nice) 1 (Int.toNat ((t.conns.length : Int) - 0)) 0 () = .next () ↔ (∀ c ∈ t.conns, CO c) ∧ (t.conns.map Conn.tuple).Nodup := by
    rw [f1, ← f3, ← mem_of_all]
    exact ⟨fun h => ⟨fun j y hy => (h j y hy).1, fun j y hy => (h j y hy).2⟩, fun h j y hy => ⟨h.1 j y hy, h.2 j y hy⟩⟩
  have f6 : forN (fun j a => (i_TableOk_L1_T t.waiting t j a).nice) 1 (Int.toNat ((t.waiting.length : Int) - 0)) 0 () = .next () ↔ (∀ w ∈ t.waiting, w ∈ t.conns.map Conn.tuple) ∧ t.waiting.Nodup := by
    rw [f2, ← f4, ← mem_of_all]
    exact ⟨fun h => ⟨fun j y hy => (h j y hy).1, fun j y hy => (h j y hy).2⟩, fun h j y hy => ⟨h.1 j y hy, h.2 j y hy⟩⟩
  have e : i_TableOk.f (t, l, ()) = true ↔ i_LimitsOk.f (l, ()) = true ∧ (t.conns.length : Int) ≤ l.conns ∧ (t.waiting.length : Int) ≤ l.waiting ∧ forN (fun j a => (i_TableOk_L0_T t.conns t j a).nice) 1 (Int.toNat ((t.conns.length : Int) - 0)) 0 () = .next () ∧ forN (fun j a => (i_TableOk_L1_T t.waiting t j a).nice) 1 (Int.toNat ((t.waiting.length : Int) - 0)) 0 () = .next () := by
    simp only [PX, i_TableOk, i_TableOk_L0_d, i_TableOk_L1_d]
    rw [show ((t.conns.length : Int) ≤ l.conns) ↔ decide (l.conns < (t.conns.length : Int)) = false by simp, show ((t.waiting.length : Int) ≤ l.waiting) ↔ decide (l.waiting < (t.waiting.length : Int)) = false by simp]
    cases i_LimitsOk.f (l, ()) <;> cases decide (l.conns < (t.conns.length : Int)) <;> cases decide (l.waiting < (t.waiting.length : Int)) <;> cases forN (fun j a => (i_TableOk_L0_T t.conns t j a).nice) 1 (Int.toNat ((t.conns.length : Int) - 0)) 0 () <;> cases forN (fun j a => (i_TableOk_L1_T t.waiting t j a).nice) 1 (Int.toNat ((t.waiting.length : Int) - 0)) 0 () <;> simp [Stp.elim]
  rw [e, LO_iff, f5, f6]
  constructor
  · rintro ⟨h1, h2, h3, ⟨h4, h5⟩, h6, h7⟩; exact ⟨h1, h2, h3, h4, h5, h7, h6⟩
  · rintro ⟨h1, h2, h3, h4, h5, h7, h6⟩; exact ⟨h1, h2, h3, ⟨h4, h5⟩, h6, h7⟩
structure HO (xs : List Half) : Prop where
  ok : ∀ h ∈ xs, halfOk h = true
  nd : (xs.map Half.tuple).Nodup
  len : xs.length ≤ 64
theorem HO_iff (xs : List Half) : i_HalvesOk.f (xs, ()) = true ↔ HO xs := by
  rw [HalvesOk_iff]
  have f3 := nodup_any Half.tuple xs
  constructor
  · rintro ⟨h1, h2⟩
    exact ⟨mem_of_all.1 fun j y hy => (h1 j y hy).1, f3.1 fun j y hy => (h1 j y hy).2, h2⟩
  · rintro ⟨h1, h2, h3⟩
    exact ⟨fun j y hy => ⟨h1 y (mem_at hy), f3.2 h2 j y hy⟩, h3⟩
structure DO (d : Door) : Prop where
  port : i_WordOk.f (d.port, 16, ()) = true
  c0 : 0 ≤ d.clock
  c1 : d.clock ≤ 4294967295
  keys : i_KeysOk.f (d.keys, ()) = true
  tab : TO d.table d.limits
  hal : HO d.halves
  nh : (d.halves.length : Int) ≤ d.limits.halves
  k0 : 0 ≤ d.chal
  k1 : d.chal ≤ d.limits.chal
  ap : ∀ h ∈ d.halves, h.tuple ∉ d.table.conns.map Conn.tuple
theorem DO_iff (d : Door) : i_DoorOk.f (d, ()) = true ↔ DO d := by
  have e : i_DoorOk.f (d, ()) = true ↔ i_WordOk.f (d.port, 16, ()) = true ∧ i_WordOk.f (d.clock, 32, ()) = true ∧ i_KeysOk.f (d.keys, ()) = true ∧ i_TableOk.f (d.table, d.limits, ()) = true ∧ i_HalvesOk.f (d.halves, ()) = true ∧ (d.halves.length : Int) ≤ d.limits.halves ∧ (decide (0 ≤ d.chal) && decide (d.chal ≤ d.limits.chal)) = true ∧ (d.halves.any (fun h => decide (0 ≤ i_FindConn.f (d.table, h.tuple, ())))) = false := by
    simp only [PX, i_DoorOk, DoorOk_any, i_within_eq]
    rw [show ((d.halves.length : Int) ≤ d.limits.halves) ↔ decide (d.limits.halves < (d.halves.length : Int)) = false by simp]
    generalize (decide (0 ≤ d.chal) && decide (d.chal ≤ d.limits.chal)) = b1
    generalize decide (d.limits.halves < (d.halves.length : Int)) = b2
    generalize (d.halves.any (fun h => decide (0 ≤ i_FindConn.f (d.table, h.tuple, ())))) = b3
    cases i_WordOk.f (d.port, 16, ()) <;> cases i_WordOk.f (d.clock, 32, ()) <;> cases i_KeysOk.f (d.keys, ()) <;> cases i_TableOk.f (d.table, d.limits, ()) <;> cases i_HalvesOk.f (d.halves, ()) <;> cases b1 <;> cases b2 <;> cases b3 <;> simp
  rw [e, TO_iff, HO_iff, i_WordOk_32]
  simp only [Bool.and_eq_true, decide_eq_true_eq, i_FindConn_eq2, fidx_nn]
  have f : (d.halves.any fun h => d.table.conns.any fun c => eqT h.tuple c.tuple) = false ↔ ∀ h ∈ d.halves, h.tuple ∉ d.table.conns.map Conn.tuple := by
    rw [List.any_eq_false]
    constructor
    · intro h x hx hm; exact h x hx ((any_eqT Conn.tuple _ _).2 hm)
    · intro h x hx hm; exact h x hx ((any_eqT Conn.tuple _ _).1 hm)
  rw [f]
  constructor
  · rintro ⟨h1, ⟨h2, h2'⟩, h3, h4, h5, h6, ⟨h7, h8⟩, h9⟩; exact ⟨h1, h2, h2', h3, h4, h5, h6, h7, h8, h9⟩
  · rintro ⟨h1, h2, h2', h3, h4, h5, h6, h7, h8, h9⟩; exact ⟨h1, ⟨h2, h2'⟩, h3, h4, h5, h6, ⟨h7, h8⟩, h9⟩
def sumLen (r : List Piec) : Nat := (r.map (fun p => p.text.length)).sum
theorem walkP_sum (L : Int) : ∀ (r : List Piec) (a b : Int), walkP L a r = some b → a + (sumLen r : Int) ≤ b
  | [], a, b, h => by cases h; simp [sumLen]
  | p :: r, a, b, h => by
    simp only [walkP] at h
    cases hc : ((p.text == []) || decide (p.off ≤ a) || decide (L < p.off + (p.text.length : Int))) with
    | true => rw [hc] at h; cases h
    | false =>
      rw [hc] at h
      simp only [Bool.or_eq_false_iff, decide_eq_false_iff_not] at hc
      have := walkP_sum L r _ b h
      simp only [sumLen, List.map_cons, List.sum_cons] at this ⊢
      omega
def win (x : Recv) : Int := if x.done = true then 0 else 32 - (x.data.length : Int)
theorem win_rng (x : Recv) (h : x.data.length ≤ 32) : 0 ≤ win x ∧ win x ≤ 32 := by unfold win; split <;> omega
structure RV (x : Recv) : Prop where
  n0 : 0 ≤ x.next
  n1 : x.next ≤ 4294967295
  dl : x.data.length ≤ 32
  hl : x.held.length ≤ 3
  f0 : -1 ≤ x.fin
  f1 : x.fin ≤ win x
  fz : x.fin ≠ 0
  wk : ∃ b, walkP (if x.fin = -1 then win x else x.fin) 0 x.held = some b
  dn : x.done = true → x.held = [] ∧ x.fin = -1
theorem WindowOf_eq (x : Recv) (h : x.data.length ≤ 32) : i_WindowOf.f (x, ()) = win x := by
  simp only [PX, i_WindowOf]
  unfold win
  rw [wrap64 (by omega) (by omega)]
  cases x.done with
  | true => rfl
  | false => simp only [cond_false, Bool.false_eq_true, if_false]; split <;> omega
theorem RV_iff (x : Recv) (hs : SmallP x.held) : i_ReceiverOk.f (x, ()) = true ↔ RV x := by
  simp only [PX, i_ReceiverOk, i_ReceiverOk_L0_d, i_WordOk_32]
  by_cases hn : 0 ≤ x.next ∧ x.next ≤ 4294967295
  · rw [decide_eq_true hn.1, decide_eq_true hn.2]
    by_cases hd : 32 < (x.data.length : Int)
    · rw [decide_eq_true hd]
      exact ⟨fun h => (by cases h), fun h => by have := h.dl; omega⟩
    · rw [decide_eq_false hd, WindowOf_eq x (by omega)]
      have hw := win_rng x (by omega)
      simp only [Bool.and_self, Bool.not_true, cond_false]
      by_cases hl : 3 < (x.held.length : Int)
      · rw [decide_eq_true hl]
        exact ⟨fun h => (by cases h), fun h => by have := h.hl; omega⟩
      · rw [decide_eq_false hl, i_within_eq]
        simp only [cond_false]
        by_cases hf : -1 ≤ x.fin ∧ x.fin ≤ win x
        · rw [decide_eq_true hf.1, decide_eq_true hf.2]
          simp only [Bool.and_self, Bool.not_true, cond_false]
          by_cases h0 : x.fin = 0
          · rw [show (x.fin == 0) = true by simp [h0]]
            exact ⟨fun h => (by cases h), fun h => absurd h0 h.fz⟩
          · rw [show (x.fin == 0) = false by simp [h0]]
            simp only [cond_false]
            have ed : (bif !x.done then true else bif ((x.held.length : Int) == 0) then (x.fin == -1) else false) = true ↔ (x.done = true → x.held = [] ∧ x.fin = -1) := by
              cases x.done with
              | false => simp
              | true =>
                cases hh : x.held with
                | nil => simp
                | cons p r =>
                  have : (((p :: r).length : Int) == 0) = false := by
                    rw [beq_eq_false_iff_ne]; simp only [List.length_cons]; omega
                  rw [this]; simp
            have k2 := i_walk x (if x.fin = -1 then win x else x.fin) (by split <;> omega) (by split <;> omega) hs
            have fin : ∀ L : Int, L = (if x.fin = -1 then win x else x.fin) → (Stp.elim (fun _ => bif !x.done then true else bif ((x.held.length : Int) == 0) then (x.fin == -1) else false) (fun _ => false) (forN (fun j a => (i_ReceiverOk_L0_T L x.held j a).nice) 1 (Int.toNat ((x.held.length : Int) - 0)) 0 0) = true ↔ RV x) := by
              intro L hL
              rw [hL]
              cases hp : walkP (if x.fin = -1 then win x else x.fin) 0 x.held with
              | some b =>
                rw [hp] at k2; simp only [] at k2
                rw [k2]
                simp only [Stp.elim]
                rw [ed]
                exact ⟨fun h => ⟨hn.1, hn.2, by omega, by omega, hf.1, hf.2, h0, ⟨b, hp⟩, h⟩, fun h => h.dn⟩
              | none =>
                rw [hp] at k2; obtain ⟨w, k2⟩ := k2
                rw [k2]
                simp only [Stp.elim]
                refine ⟨fun h => (by cases h), fun h => ?_⟩
                obtain ⟨b, hb⟩ := h.wk
                rw [hp] at hb; cases hb
            by_cases h1 : x.fin = -1
            · rw [show (x.fin != -1) = false by simp [h1]]
              exact fin (win x) (by rw [if_pos h1])
            · rw [show (x.fin != -1) = true by simp [h1]]
              exact fin x.fin (by rw [if_neg h1])
        · have : (decide (-1 ≤ x.fin) && decide (x.fin ≤ win x)) = false := by
            rw [Bool.and_eq_false_iff]; simp only [decide_eq_false_iff_not]; omega
          rw [this]
          exact ⟨fun h => (by cases h), fun h => absurd ⟨h.f0, h.f1⟩ hf⟩
  · have : (decide (0 ≤ x.next) && decide (x.next ≤ 4294967295)) = false := by
      rw [Bool.and_eq_false_iff]; simp only [decide_eq_false_iff_not]; omega
    rw [this]
    exact ⟨fun h => (by cases h), fun h => absurd ⟨h.n0, h.n1⟩ hn⟩
theorem RV.sum {x : Recv} (h : RV x) : (sumLen x.held : Int) ≤ 32 := by
  obtain ⟨b, hb⟩ := h.wk
  have h1 := walkP_sum _ _ _ _ hb
  have h2 := (walkP_le _ _ _ _ hb).2
  have h3 := h.f1
  have h4 := h.f0
  have h5 := h.fz
  have h6 := win_rng x h.dl
  split at h2 <;> omega
theorem listN_sum {T W : Type} (g : T → Int) (K M : Int) (xs : List T) {F : Nat → T → Int → Stp Int W} (hg : ∀ x ∈ xs, 0 ≤ g x ∧ g x ≤ K) (hF : ∀ j x a, x ∈ xs → 0 ≤ a → a + K ≤ M → F j x a = .next (a + g x)) :
    ∀ (r : List T) (j : Nat) (a : Int), (∀ x ∈ r, x ∈ xs) → 0 ≤ a → a + K * (r.length : Int) ≤ M → listN F j r a = .next (a + (r.map g).sum) ∧ 0 ≤ (r.map g).sum ∧ (r.map g).sum ≤ K * (r.length : Int)
  | [], j, a, _, _, _ => by simp [listN]
  | x :: r, j, a, hr, ha, hm => by
    have hx := hr x (List.mem_cons_self ..)
    have h1 := hg x hx
    have e : K * ((x :: r).length : Int) = K * (r.length : Int) + K := by
      rw [List.length_cons, Int.natCast_add, Int.mul_add, show ((1 : Nat) : Int) = 1 from rfl, Int.mul_one]
    have hK : 0 ≤ K * (r.length : Int) := Int.mul_nonneg (by omega) (by omega)
    have h2 := listN_sum g K M xs hg hF r (j + 1) (a + g x) (fun y hy => hr y (List.mem_cons_of_mem _ hy)) (by omega) (by omega)
    simp only [listN, hF j x a hx ha (by omega), Stp.elim, h2.1, List.map_cons, List.sum_cons]
    refine ⟨?_, ?_, ?_⟩
    · congr 1; omega
    · omega
    · omega
def connSize (c : Conn) : Int := 128 + (c.s.data.length : Int) + (c.r.data.length : Int) + (sumLen c.r.held : Int)
theorem sumLen_cons (p : Piec) (r : List Piec) : (sumLen (p :: r) : Int) = (p.text.length : Int) + (sumLen r : Int) := by simp [sumLen]
theorem Ret_in (W : Type) : ∀ (r : List Piec) (j : Nat) (a : Int), 0 ≤ a → a + (sumLen r : Int) ≤ 1000000 → listN (W := W) (fun _ p (a : Int) => .next (IntKind.wrap .i64 (a + (p.text.length : Int)))) j r a = .next (a + (sumLen r : Int))
  | [], j, a, _, _ => by simp [listN, sumLen]
  | p :: r, j, a, h0, h1 => by
    rw [sumLen_cons] at h1 ⊢
    simp only [listN, Stp.elim]
    rw [wrap64 (by omega) (by omega), Ret_in W r (j + 1) _ (by omega) (by omega)]
    congr 1; omega
theorem Retained_eq (d : Door) (h1 : d.halves.length ≤ 64) (h2 : d.table.waiting.length ≤ 16) (h3 : d.table.conns.length ≤ 16) (h4 : ∀ c ∈ d.table.conns, connSize c ≤ 240) : ∃ s : Int, i_Retained.f (d, ()) = 64 * (d.halves.length : Int) + 8 * (d.table.waiting.length : Int) + s ∧ s ≤ 240 * (d.table.conns.length : Int) := by
  simp only [PX, i_Retained, i_Retained_L0_d]
  rw [toNat_sub0, forN_list d.table.conns _ rfl (F := fun _ c (a : Int) => (i_Retained_L0_T [c] 1 0 a).nice) (by
    intro j x a h
    simp only [PX, i_Retained_L0_T, toNat_cast, getD_some h, i_Retained_L0_0_d]
    rfl)]
  rw [wrap64 (m := 64 * (d.halves.length : Int)) (by omega) (by omega), wrap64 (m := 8 * (d.table.waiting.length : Int)) (by omega) (by omega), wrap64 (by omega) (by omega)]
  obtain ⟨e, e1, e2⟩ := listN_sum (W := Empty) connSize 240 100000 d.table.conns (F := fun _ c (a : Int) => (i_Retained_L0_T [c] 1 0 a).nice) (fun c hc => ⟨by unfold connSize; omega, h4 c hc⟩) (fun j c a hc ha hm => by
    have hs := h4 c hc
    unfold connSize at hs
    simp only [PX, i_Retained_L0_T, i_Retained_L0_0_d, show Int.toNat 0 = 0 from rfl, List.getD_cons_zero]
    rw [toNat_sub0, forN_list c.r.held _ rfl (F := fun _ p (a : Int) => .next (IntKind.wrap .i64 (a + (p.text.length : Int)))) (by
      intro j x a h
      simp only [PX, i_Retained_L0_0_T, toNat_cast, getD_some h])]
    rw [wrap64 (m := 128 + (c.s.data.length : Int)) (by omega) (by omega), wrap64 (m := 128 + (c.s.data.length : Int) + (c.r.data.length : Int)) (by omega) (by omega), wrap64 (by omega) (by omega), Ret_in Empty c.r.held 0 _ (by omega) (by omega)]
    simp only [Stp.elim, PX]
    unfold connSize
    congr 1; omega) d.table.conns 0 (64 * (d.halves.length : Int) + 8 * (d.table.waiting.length : Int)) (fun _ h => h) (by omega) (by omega)
  rw [e]
  exact ⟨_, rfl, e2⟩
theorem RetainedMost_eq (l : Limi) (h : LO l) : i_RetainedMost.f (l, ()) = 64 * l.halves + 240 * l.conns + 8 * l.waiting := by
  obtain ⟨h1, h2, h3, h4, h5, h6, h7, h8⟩ := h
  simp only [PX, i_RetainedMost, (LO_iff l).2 ⟨h1, h2, h3, h4, h5, h6, h7, h8⟩, Bool.not_true, cond_false]
  rw [wrap64 (m := 64 * l.halves) (by omega) (by omega), wrap64 (m := 240 * l.conns) (by omega) (by omega), wrap64 (m := 8 * l.waiting) (by omega) (by omega), wrap64 (m := 64 * l.halves + 240 * l.conns) (by omega) (by omega), wrap64 (by omega) (by omega)]
theorem Retained_le (d : Door) (hd : DO d) (hs : smallD d) : i_Retained.f (d, ()) ≤ i_RetainedMost.f (d.limits, ()) := by
  have t := hd.tab
  have a1 := t.lim.h2
  have a2 := t.lim.w2
  have a3 := t.lim.c2
  have a4 := t.nc
  have a5 := t.nw
  have a6 := hd.nh
  obtain ⟨s, e, hs2⟩ := Retained_eq d (by omega) (by omega) (by omega) (fun c hc => by
    have h1 := t.co c hc
    have h2 := (RV_iff c.r (hs c hc)).1 h1.rcv
    have h3 := RV.sum h2
    have h4 := h2.dl
    have h5 := h1.snd.2.2.1
    unfold connSize; omega)
  rw [e, RetainedMost_eq _ t.lim]
  omega
theorem w_place_eq (x : Int) : w_place.f (x, ()) = x % 4294967296 := by
  rw [← l4Rest_eq x]; rfl
theorem CO.set {c : Conn} (h : CO c) (k t r : Int) (hk : k = c.state ∨ k = 8) (t0 : 0 ≤ t) (t4 : t ≤ 4) (t3 : k ≠ 7 → t ≤ 3) (r0 : 0 ≤ r) (r3 : r ≤ 3) : CO ({ c with state := k, timer := t, tries := r } : Conn) := by
  have h1 := h.s1
  have h8 := h.s8
  refine ⟨h.tup, h.snd, h.rcv, h.opt, ?_, ?_, h.m0, h.m1, h.w0, h.w1, t0, t4, t3, r0, r3, ?_⟩
  · show 1 ≤ k; omega
  · show k ≤ 8; omega
  · show kst k c.s.fin c.s.done c.r.done = true
    rcases hk with rfl | rfl
    · exact h.fl
    · rfl
theorem Rewound_eq (x : Sndr) (h : SO x) : i_Rewound.f (x, ()) = { x with sent := 0, finSent := false } := by
  simp only [PX, i_Rewound, (SO_iff x).2 h, Bool.not_true, cond_false]
theorem SO_rew {x : Sndr} (h : SO x) : SO ({ x with sent := 0, finSent := false } : Sndr) := by
  obtain ⟨h1, h2, h3, h4, h5, h6, h7⟩ := h
  exact ⟨h1, h2, h3, Int.le_refl _, by show (0 : Int) ≤ _; omega, fun h => (by cases h), fun hd => ⟨(h7 hd).1, rfl, (h7 hd).2.2⟩⟩
theorem TC_ok (c : Conn) (h : CO c) : CO (TC c).1 ∧ (TC c).1.tuple = c.tuple ∧ (TC c).1.r = c.r := by
  have hr := tick0_rng h
  have h7 : c.state ≠ 7 → tick0 c ≤ 3 := by
    intro hn; have := h.t3 hn
    unfold tick0; rw [if_neg hn]; split <;> omega
  have r0 := h.r0
  have r3 := h.r3
  unfold TC
  by_cases hw : i_Waits.f (c, ()) = true
  · rw [if_pos hw]
    by_cases c1 : 0 < tick0 c - 1
    · rw [if_pos c1]
      exact ⟨CO.set h c.state (tick0 c - 1) c.tries (.inl rfl) (by omega) (by omega) (fun hn => by have := h7 hn; omega) r0 r3, rfl, rfl⟩
    · rw [if_neg c1]
      by_cases c2 : c.state = 7
      · rw [if_pos c2]
        exact ⟨CO.set h 8 0 0 (.inr rfl) (by omega) (by omega) (fun _ => by omega) (by omega) (by omega), rfl, rfl⟩
      · rw [if_neg c2]
        by_cases c3 : c.tries = 3
        · rw [if_pos c3]
          exact ⟨CO.set h 8 0 0 (.inr rfl) (by omega) (by omega) (fun _ => by omega) (by omega) (by omega), rfl, rfl⟩
        · rw [if_neg c3]
          have hc' : CO ({ c with s := i_Rewound.f (c.s, ()), timer := 0, tries := c.tries + 1 } : Conn) := by
            rw [Rewound_eq c.s h.snd]
            exact ⟨h.tup, SO_rew h.snd, h.rcv, h.opt, h.s1, h.s8, h.m0, h.m1, h.w0, h.w1, Int.le_refl _, by show (0 : Int) ≤ 4; omega, fun _ => by show (0 : Int) ≤ 3; omega, by show 0 ≤ c.tries + 1; omega, by show c.tries + 1 ≤ 3; omega, h.fl⟩
          have hS := Pump_sent _ (if c.window = 0 then 1 else c.window) hc'.snd
          have hp := Sent.ok hS hc' (.inl (by
            rcases hS.tm with e | e
            · rw [e]; show (0 : Int) ≤ 3; omega
            · rw [e]; omega))
          refine ⟨CO.set hp _ 3 _ (.inl rfl) (by omega) (by omega) (fun _ => by omega) hp.r0 hp.r3, ?_, ?_⟩
          · have e := congrArg Conn.tuple hS.re; exact e
          · have e := congrArg Conn.r hS.re; exact e
  · rw [if_neg hw, if_pos ((CO_iff c).2 h)]
    exact ⟨CO.set h c.state 0 0 (.inl rfl) (by omega) (by omega) (fun _ => by omega) (by omega) (by omega), rfl, rfl⟩
theorem HO_aged (xs : List Half) (h : HO xs) : HO (agedN xs) := by
  refine ⟨?_, ?_, ?_⟩
  · intro y hy
    unfold agedN at hy
    rw [List.mem_map] at hy
    obtain ⟨x, hx, rfl⟩ := hy
    rw [List.mem_filter] at hx
    have h1 := h.ok x hx.1
    have h2 : x.age < 6 := by simpa using hx.2
    unfold halfOk at h1 ⊢
    simp only [Bool.and_eq_true, decide_eq_true_eq] at h1 ⊢
    obtain ⟨a1, a2, a3, a4, a5, a6, a7⟩ := h1
    rw [wrap64 (by omega) (by omega)]
    exact ⟨a1, a2, a3, a4, a5, by omega, by omega⟩
  · have e : (agedN xs).map Half.tuple = (xs.filter (fun h => decide (h.age < 6))).map Half.tuple := by
      unfold agedN; rw [List.map_map]; rfl
    rw [e]
    exact List.Nodup.sublist (List.Sublist.map _ (List.filter_sublist)) h.nd
  · unfold agedN
    rw [List.length_map]
    have := List.length_filter_le (fun h : Half => decide (h.age < 6)) xs
    have := h.len
    omega
theorem tickedC_map (xs : List Conn) (h : ∀ c ∈ xs, CO c) : (tickedC xs).map Conn.tuple = xs.map Conn.tuple := by
  unfold tickedC
  rw [List.map_map]
  apply List.map_congr_left
  intro c hc
  exact (TC_ok c (h c hc)).2.1
theorem TO_tick (t : Tabl) (l : Limi) (h : TO t l) : TO (sweptN ⟨tickedC t.conns, t.waiting⟩) l := by
  have hm := tickedC_map t.conns h.co
  have hl : (tickedC t.conns).length = t.conns.length := by unfold tickedC; rw [List.length_map]
  refine ⟨h.lim, ?_, ?_, ?_, ?_, ?_, ?_⟩
  · have := List.length_filter_le (keepC ⟨tickedC t.conns, t.waiting⟩) (tickedC t.conns)
    have h2 := h.nc
    show ((List.filter _ _).length : Int) ≤ _
    simp only [] at this ⊢; omega
  · have := List.length_filter_le (keepW ⟨tickedC t.conns, t.waiting⟩) t.waiting
    have h2 := h.nw
    show ((List.filter _ _).length : Int) ≤ _
    simp only [] at this ⊢; omega
  · intro c hc
    have hc1 : c ∈ tickedC t.conns := (List.mem_filter.1 hc).1
    unfold tickedC at hc1
    rw [List.mem_map] at hc1
    obtain ⟨x, hx, rfl⟩ := hc1
    exact (TC_ok x (h.co x hx)).1
  · refine List.Nodup.sublist (List.Sublist.map _ (List.filter_sublist)) ?_
    show ((tickedC t.conns).map Conn.tuple).Nodup
    rw [hm]; exact h.dc
  · exact List.Nodup.sublist (List.filter_sublist) h.dw
  · intro w hw
    have hw1 : w ∈ t.waiting := (List.mem_filter.1 hw).1
    have hw2 := h.wc w hw1
    rw [← hm, List.mem_map] at hw2
    obtain ⟨c, hc, rfl⟩ := hw2
    rw [List.mem_map]
    refine ⟨c, List.mem_filter.2 ⟨hc, ?_⟩, rfl⟩
    unfold keepC
    have : t.waiting.any (eqT c.tuple) = true := by
      rw [List.any_eq_true]; exact ⟨_, hw1, eqT_refl _⟩
    simp only [this]
    cases (c.state != 8) <;> rfl
theorem DO_tick (d : Door) (h : DO d) : DO ({ d with clock := i_SeqAdd.f (d.clock, 1, ()), chal := 0, halves := agedN d.halves, table := sweptN ⟨tickedC d.table.conns, d.table.waiting⟩ } : Door) := by
  have k0 := h.k0
  have k1 := h.k1
  have hm := tickedC_map d.table.conns h.tab.co
  refine ⟨h.port, ?_, ?_, h.keys, TO_tick _ _ h.tab, HO_aged _ h.hal, ?_, Int.le_refl _, ?_, ?_⟩
  · show 0 ≤ i_SeqAdd.f (d.clock, 1, ()); rw [iSeqAdd_eq]; omega
  · show i_SeqAdd.f (d.clock, 1, ()) ≤ 4294967295; rw [iSeqAdd_eq]; omega
  · show ((agedN d.halves).length : Int) ≤ d.limits.halves
    unfold agedN
    rw [List.length_map]
    have := List.length_filter_le (fun h : Half => decide (h.age < 6)) d.halves
    have := h.nh
    omega
  · show 0 ≤ d.limits.chal; omega
  · intro y hy hm2
    have hy2 : ∃ x ∈ d.halves, x.tuple = y.tuple := by
      have hy1 : y ∈ agedN d.halves := hy
      unfold agedN at hy1
      rw [List.mem_map] at hy1
      obtain ⟨x, hx, rfl⟩ := hy1
      exact ⟨x, (List.mem_filter.1 hx).1, rfl⟩
    obtain ⟨x, hx, e⟩ := hy2
    refine h.ap x hx ?_
    rw [e, ← hm]
    exact (List.Sublist.map Conn.tuple (List.filter_sublist (p := keepC ⟨tickedC d.table.conns, d.table.waiting⟩))).subset hm2
theorem i_TickDoor_bad (d : Door) (hd : i_DoorOk.f (d, ()) = false) : i_TickDoor.f (d, ()) = (d, []) := by
  have e : i_tickDoor.f (d, ()) = (d, []) := by simp only [PX, i_tickDoor, q_cloneDoor, hd, Bool.not_false, cond_true]
  simp only [PX, i_TickDoor, e, i_TickDoor_L0_d]
  rfl
theorem halfOk_age {h : Half} (hh : halfOk h = true) : 0 ≤ h.age ∧ h.age ≤ 6 := by
  unfold halfOk at hh
  simp only [Bool.and_eq_true, decide_eq_true_eq] at hh
  exact hh.2.2.2.2.2
theorem q_TickDoor (d : Door) (hd : sm_door d) : s_TickDoor.f (d, ()) = i_TickDoor.f (d, ()) := by
  have hs := smallD_of hd
  rw [s_TickDoor_eq d hs]
  cases hdo : i_DoorOk.f (d, ()) with
  | false => rw [i_TickDoor_bad d hdo]; rfl
  | true =>
    have hD := (DO_iff d).1 hdo
    have t := hD.tab
    have a2 := t.lim.w2
    have a3 := t.lim.c2
    have a4 := t.nc
    have a5 := t.nw
    rw [i_TickDoor_eq d (fun y hy => (halfOk_age (hD.hal.ok y hy)).2) (fun y hy => (halfOk_age (hD.hal.ok y hy)).1) (by omega) (by omega) hdo]
    have c0 := hD.c0
    have c1 := hD.c1
    rw [l4Rest_eq, iSeqAdd_eq, wrap64 (by omega) (by omega)]
    rfl
set_option maxHeartbeats 2000000 in theorem t_FnTickDoor (x : List Int) : w_FnTickDoor.f (x, ()) = true := by
  simp only [FX.f, PX, w_FnTickDoor]
  rcases Bool.eq_false_or_eq_true (w_big.f (x, ())) with hb | hb
  · simp only [hb, cond_true]
  simp only [hb, cond_false]
  have hx : x.length ≤ 1048576 := by
    simp only [PX, w_big, decide_eq_false_iff_not] at hb
    omega
  have hd := s_DrawTickDoor.c.h (x, ()) ⟨by simp only [sS]; omega, hx⟩
  simp only [PX] at hd
  obtain ⟨d, hz⟩ : ∃ z, s_DrawTickDoor.f (x, ()) = z := ⟨_, rfl⟩
  simp only [hz] at hd ⊢
  have hs := smallD_of hd
  have hsm := (i_TickDoor.c.h (d, ()) hd).1
  simp only [PX] at hsm
  rw [q_TickDoor d hd]
  simp only [SameDoor_self, sameSegments_self, q_DoorOk d hs, Bool.not_true, cond_false]
  rcases Bool.eq_false_or_eq_true (i_DoorOk.f (d, ())) with hdo | hdo
  case inr =>
    simp only [i_TickDoor_bad d hdo, hdo, SameDoor_self, Bool.not_false, cond_true]
  case inl =>
    simp only [hdo, Bool.not_true, cond_false]
    have hD := (DO_iff d).1 hdo
    have t := hD.tab
    have a2 := t.lim.w2
    have a3 := t.lim.c2
    have a4 := t.nc
    have a5 := t.nw
    have c0 := hD.c0
    have c1 := hD.c1
    have hT := DO_tick d hD
    rw [i_TickDoor_eq d (fun y hy => (halfOk_age (hD.hal.ok y hy)).2) (fun y hy => (halfOk_age (hD.hal.ok y hy)).1) (by omega) (by omega) hdo] at hsm ⊢
    have hr := Retained_le _ hT (smallD_of hsm)
    have hl : ((agedN d.halves).length : Int) ≤ (d.halves.length : Int) := by
      unfold agedN
      rw [List.length_map]
      have := List.length_filter_le (fun h : Half => decide (h.age < 6)) d.halves
      omega
    have hc : (i_SeqAdd.f (d.clock, 1, ()) == w_place.f (IntKind.wrap .i64 (d.clock + 1), ())) = true := by
      rw [w_place_eq, iSeqAdd_eq, wrap64 (by omega) (by omega)]; simp
    simp only [SameDoor_self, (DO_iff _).2 hT, hc, decide_eq_true hl, decide_eq_true hr, cond_true, beq_self_eq_true]

end
end Go.Proofs.YtjaniojbmkellaaGreat
