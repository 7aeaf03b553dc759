/-
  Contracts of functions and plain laws (printed by a program): each theorem says what a function of the program returns; conditions are its hypotheses.
-/
import Derived.Test.YtjaniojbmkellaaGreatD2
set_option linter.all false
set_option maxRecDepth 4000
namespace Go.Proofs.YtjaniojbmkellaaGreat
open Go Go.RowKit
noncomputable section
theorem q_SipHash (k l : Int) (x : Bytes) (hx : x.length ≤ 4294967296) : s_SipHash.f (k, l, x, ()) = i_SipHash.f (k, l, x, ()) := by
  simp only [PX, s_SipHash, i_SipHash, s_SipHash_L0_d, i_SipHash_L0_d, q_SipStart, List.length_replicate]
  generalize i_SipStart.f (k, l, ()) = z
  have key := Sip_loops x hx z
  generalize whileN (fun a => (s_SipHash_L0_T x (x.length : Int) a).nice) (Int.toNat ((x.length : Int) - 0) + 1) (0, z) = p at key ⊢
  generalize whileN (fun a => (i_SipHash_L0_T a).nice) ((toInts x).length + 1) (toInts x, z) = q at key ⊢
  obtain ⟨⟨h1, h2, h3, h4⟩, h5⟩ := key
  have hq : q.1.length = x.length - p.1.toNat := by rw [h3, toInts_length, List.length_drop]
  have ht : q.1.take 8 = q.1 := List.take_of_length_le (by omega)
  obtain ⟨p, pz⟩ := p
  obtain ⟨q, qz⟩ := q
  simp only [PX, ht, q_SipEnd, q_SipWord] at *
  rw [h4, show ((x.take (x.length : Int).toNat).drop p.toNat) = x.drop p.toNat by rw [toNat_cast, List.take_length]]
  rw [Sip_last x hx p q h1 h2 h3 h5]
theorem q_MacOf (m : Mac) (x : Bytes) (hx : x.length ≤ 4294967296) : s_MacOf.f (m, x, ()) = i_MacOf.f (m, x, ()) := by
  simp only [PX, s_MacOf, i_MacOf, s_MacOf_L0_d, i_MacOf_L0_d, q_SipHash _ _ _ hx]
  rw [show forN (fun j a => (s_MacOf_L0_T x m j a).nice) 1 (Int.toNat ((m.rows.length : Int) - 0)) 0 () = forN (fun j a => (i_MacOf_L0_T x m.rows j a).nice) 1 (Int.toNat ((m.rows.length : Int) - 0)) 0 () from forN_congr (fun i a => by
    simp only [PX, s_MacOf_L0_T, i_MacOf_L0_T]
    generalize (m.rows.getD i.toNat (Ty.zero .macRow)) = r
    cases (r.input == x) with
    | false => rfl
    | true =>
      simp only [cond_true]
      have h1 := tmod_pos (a := r.value) 16777216
      rcases Int.lt_or_le r.value 0 with h | h
      · have e := h1.2 h
        generalize r.value.tmod 16777216 = t at e
        rw [wrap64 (by omega) (by omega)]
        cases hd : decide (t < 0) with
        | true => simp only [decide_eq_true_eq] at hd; simp only [cond_true]; rw [(tmod_pos 16777216).1 (by omega), Int.emod_eq_of_lt (by omega) (by omega)]
        | false => simp only [decide_eq_false_iff_not] at hd; simp only [cond_false]; rw [(tmod_pos 16777216).1 (by omega), show t = 0 by omega]; rfl
      · have e := h1.1 h
        generalize r.value.tmod 16777216 = t at e
        rw [wrap64 (by omega) (by omega)]
        cases hd : decide (t < 0) with
        | true => simp only [decide_eq_true_eq] at hd; omega
        | false => simp only [cond_false]; rw [(tmod_pos 16777216).1 (by omega)]; congr 1; omega) _ _ _]
theorem MacInput_len (t : Tupl) (a b c : Int) : (i_MacInput.f (t, a, b, c, ())).length ≤ 40 := (i_MacInput.c.h (t, a, b, c, ()) trivial).2
theorem q_CookieOf (m : Mac) (t : Tupl) (a b c : Int) : s_CookieOf.f (m, t, a, b, c, ()) = i_CookieOf.f (m, t, a, b, c, ()) := by
  simp only [PX, s_CookieOf, i_CookieOf, q_MacInput]
  rw [q_MacOf _ _ (by have := MacInput_len t a b c; omega)]
theorem q_l11Copy (m : Mac) : s_l11Copy.f (m, ()) = m := by simp only [PX, s_l11Copy, List.nil_append]
theorem q_cloneMac (m : Mac) : i_cloneMac.f (m, ()) = m := by simp only [PX, i_cloneMac, g_Clone_MacRow]
theorem KeysOk_epoch (k : Keys) (h : i_KeysOk.f (k, ()) = true) : 0 ≤ k.epoch ∧ k.epoch ≤ 4294967295 := by
  simp only [PX, i_KeysOk, i_within_eq] at h
  revert h
  cases k.two <;> simp only [PX, cond_true, cond_false] <;> grind
theorem q_SegmentOk (x : Segm) : s_SegmentOk.f (x, ()) = i_SegmentOk.f (x, ()) := by simp only [PX, s_SegmentOk, i_SegmentOk, q_WordOk, q_OptionsOk]
theorem l1Max0 (x : Int) : s_l1Max.f (0, x, ()) = (if 0 < x then x else 0) := by
  rw [s_l1Max_eq]; grind
theorem q_FirstSeq (d : Door) (t : Tupl) (g : Segm) : s_FirstSeq.f (d, t, g, ()) = i_FirstSeq.f (d, t, g, ()) := by
  simp only [PX, s_FirstSeq, i_FirstSeq, i_peerMss]
  cases (g.opts.mss == 0) <;> simp only [PX, cond_true, cond_false] <;> simp only [q_MssIndex, q_CookieOf, l1Max0]
theorem q_StampOf (a b : Int) (c : Bool) : s_StampOf.f (a, b, c, ()) = i_StampOf.f (a, b, c, ()) := by
  simp only [PX, s_StampOf, i_StampOf, i_within_eq, i64_mask32]
  cases c <;> simp only [PX, cond_true, cond_false] <;> simp only [s_l1In_eq, l4Rest_eq] <;> cases (decide (0 ≤ b) && decide (b ≤ 14)) <;> simp only [cond_true, cond_false, Bool.not_true, Bool.not_false, wrap64_def] <;> omega
theorem q_AnswerOptions (o : Opti) (c : Int) : s_AnswerOptions.f (o, c, ()) = i_AnswerOptions.f (o, c, ()) := by
  simp only [PX, s_AnswerOptions, i_AnswerOptions, s_l1In_eq, i_within_eq]
  cases (decide (0 ≤ o.scale) && decide (o.scale ≤ 14)) <;> simp only [PX, cond_true, cond_false] <;> simp only [q_StampOf]
theorem q_SynAck (d : Door) (t : Tupl) (g : Segm) : s_SynAck.f (d, t, g, ()) = i_SynAck.f (d, t, g, ()) := by
  simp only [PX, s_SynAck, i_SynAck, q_FirstSeq, q_SeqAdd, q_AnswerOptions]
theorem forN_outJ {A W : Type} {f : Int → A → Stp A W} {st : Int} : ∀ (k : Nat) (i : Int) (a : A) (w : W), forN f st k i a = .out w → ∃ (n : Nat) (b : A), n < k ∧ f (i + st * (n : Int)) b = .out w
  | 0, _, _, _, h => by cases h
  | k + 1, i, a, w, h => by
    simp only [forN] at h
    cases hf : f i a with
    | out w' => rw [hf] at h; simp only [Stp.elim] at h; cases h; exact ⟨0, a, by omega, by simpa using hf⟩
    | next a' =>
      rw [hf] at h
      obtain ⟨n, b, h1, h2⟩ := forN_outJ k (i + st) a' w h
      exact ⟨n + 1, b, by omega, by rw [show i + st * ((n + 1 : Nat) : Int) = i + st + st * (n : Int) by rw [Int.natCast_add, Int.mul_add]; omega]; exact h2⟩
theorem forN_nextP {A W : Type} {f : Int → A → Stp A W} {st : Int} {P : A → Prop} (hp : ∀ i a a', P a → f i a = .next a' → P a') : ∀ (k : Nat) (i : Int) (a a' : A), P a → forN f st k i a = .next a' → P a'
  | 0, _, _, _, ha, h => by cases h; exact ha
  | k + 1, i, a, a', ha, h => by
    simp only [forN] at h
    cases hf : f i a with
    | out w' => rw [hf] at h; cases h
    | next a1 => rw [hf] at h; exact forN_nextP hp k _ a1 a' (hp i a a1 ha hf) h
theorem SipEnd_nn (x : Sipr) : 0 ≤ i_SipEnd.f (x, ()) := by
  simp only [PX, i_SipEnd, i_SipEnd_L0_d]
  cases forN (fun j a => (i_SipEnd_L0_T j a).nice) 1 (Int.toNat (4 - 0)) 0 ({ x with c := (bits .xor .u64 x.c 255) } : Sipr) with
  | next a => exact (inK_bits .xor .u64 _ _ (.inr (.inr (.inl rfl)))).1
  | out e => exact Empty.elim e
theorem SipHash_nn (k l : Int) (x : Bytes) : 0 ≤ i_SipHash.f (k, l, x, ()) := by
  simp only [PX, i_SipHash]
  exact SipEnd_nn _
theorem tm24 (s : Int) (h : 0 ≤ s) : 0 ≤ IntKind.wrap .i64 (s.tmod 16777216) ∧ IntKind.wrap .i64 (s.tmod 16777216) ≤ 16777215 := by
  have h1 := tmod_nn (b := 16777216) h
  have h2 := tmod_lt (a := s) (show (0 : Int) < 16777216 by omega)
  rw [wrap64 (by omega) (by omega)]; omega
theorem tm24b (r : Int) : 0 ≤ (IntKind.wrap .i64 (r.tmod 16777216 + 16777216)).tmod 16777216 ∧ (IntKind.wrap .i64 (r.tmod 16777216 + 16777216)).tmod 16777216 ≤ 16777215 := by
  have h1 : -16777216 < r.tmod 16777216 := Int.lt_tmod_of_pos _ (by omega)
  have h2 := tmod_lt (a := r) (show (0 : Int) < 16777216 by omega)
  rw [wrap64 (by omega) (by omega)]
  have h3 := tmod_nn (a := r.tmod 16777216 + 16777216) (b := 16777216) (by omega)
  have h4 := tmod_lt (a := r.tmod 16777216 + 16777216) (show (0 : Int) < 16777216 by omega)
  omega
theorem MacOf_out (m : Mac) (x : Bytes) (k : Nat) (i : Int) (w : Int) (hf : forN (fun j a => (i_MacOf_L0_T x m.rows j a).nice) 1 k i () = .out w) : 0 ≤ w ∧ w ≤ 16777215 := by
  obtain ⟨n, b, _, h⟩ := forN_outJ _ _ _ _ hf
  simp only [PX, i_MacOf_L0_T] at h
  revert h
  generalize (m.rows.getD (i + 1 * (n : Int)).toNat (Ty.zero .macRow)) = r
  cases (r.input == x) with
  | false => simp only [cond_false]; intro h; cases h
  | true => simp only [cond_true]; intro h; injection h with h; rw [← h]; exact tm24b r.value
theorem MacOf_eq (m : Mac) (x : Bytes) : i_MacOf.f (m, x, ()) = bif !m.use then IntKind.wrap .i64 ((i_SipHash.f (m.k, m.l, x, ())).tmod 16777216) else Stp.elim (fun _ => 0) (fun p => p) (forN (fun j a => (i_MacOf_L0_T x m.rows j a).nice) 1 (Int.toNat ((m.rows.length : Int) - 0)) 0 ()) := by
  simp only [PX, i_MacOf, i_MacOf_L0_d]
theorem bd_of (u : Bool) (s : Int) (z : Stp Unit Int) (hs : 0 ≤ s) (hk : ∀ w, z = .out w → 0 ≤ w ∧ w ≤ 16777215) :
    0 ≤ (bif !u then IntKind.wrap .i64 (s.tmod 16777216) else Stp.elim (fun _ => 0) (fun p => p) z) ∧ (bif !u then IntKind.wrap .i64 (s.tmod 16777216) else Stp.elim (fun _ => 0) (fun p => p) z) ≤ 16777215 := by
  cases u with
  | false => simp only [Bool.not_false, cond_true]; exact tm24 s hs
  | true =>
    simp only [Bool.not_true, cond_false]
    cases z with
    | next a => simp only [Stp.elim]; omega
    | out w => exact hk w rfl
theorem MacOf_rng (m : Mac) (x : Bytes) : 0 ≤ i_MacOf.f (m, x, ()) ∧ i_MacOf.f (m, x, ()) ≤ 16777215 := by
  rw [MacOf_eq]
  exact bd_of m.use _ _ (SipHash_nn m.k m.l x) (MacOf_out m x (Int.toNat ((m.rows.length : Int) - 0)) 0)
theorem PutWord_ne (n : Int) (h : i_WordOk.f (n, 32, ()) = true) : (i_PutWord.f (n, 4, ())).length = 4 := by
  simp only [PX, i_PutWord, i_within_eq, i_PutWord_L0_d, show IntKind.wrap .i64 (8 * 4) = 32 from rfl, h, show (decide ((1 : Int) ≤ 4) && decide ((4 : Int) ≤ 6)) = true from rfl, Bool.not_true, cond_false, show IntKind.wrap .i64 (4 - 1) = 3 from rfl, show Int.toNat (3 - 0 + 1) = 4 from rfl, show Int.toNat 4 = 4 from rfl]
  cases hf : forN (fun j a => (i_PutWord_L0_T j a).nice) (-1) 4 3 (n, List.replicate 4 0) with
  | out e => exact Empty.elim e
  | next a =>
    have := forN_nextP (P := fun a : Int × List Int => a.2.length = 4) (fun i a a' ha h => by
      simp only [PX, i_PutWord_L0_T] at h
      cases h
      simpa using ha) _ _ _ _ (by simp) hf
    simp only [PX, Stp.elim, toBytes_length]
    exact this
theorem TupleOk_of (t : Tupl) (h : i_TupleOk.f (t, ()) = true) : (0 ≤ t.ip ∧ t.ip ≤ 4294967295) ∧ (0 ≤ t.port ∧ t.port ≤ 65535) ∧ (0 ≤ t.my ∧ t.my ≤ 65535) := by
  simp only [PX, i_TupleOk, i_WordOk_32, i_WordOk_16] at h
  revert h
  cases h1 : (decide (0 ≤ t.ip) && decide (t.ip ≤ 4294967295)) <;> cases h2 : (decide (0 ≤ t.port) && decide (t.port ≤ 65535)) <;> simp only [cond_true, cond_false, Bool.and_eq_true, decide_eq_true_eq] at * <;> simp_all
theorem MacInput_ne (t : Tupl) (seq e i : Int) (ht : i_TupleOk.f (t, ()) = true) (hs : 0 ≤ seq ∧ seq ≤ 4294967295) (he : 0 ≤ e ∧ e ≤ 4294967295) (hi : 0 ≤ i ∧ i ≤ 7) : (i_MacInput.f (t, seq, e, i, ()) == []) = false := by
  have h1 := PutWord_ne t.ip (by rw [i_WordOk_32]; have := (TupleOk_of t ht).1; simp [this])
  simp only [PX, i_MacInput, ht, i_WordOk_32, i_within_eq, decide_eq_true hs.1, decide_eq_true hs.2, decide_eq_true he.1, decide_eq_true he.2, decide_eq_true hi.1, decide_eq_true hi.2, Bool.and_self, Bool.not_true, cond_false]
  generalize i_PutWord.f (t.ip, 4, ()) = a at *
  match a, h1 with
  | x :: r, _ => simp
theorem CookieOf_eq (m : Mac) (t : Tupl) (seq e i : Int) (ht : i_TupleOk.f (t, ()) = true) (hs : 0 ≤ seq ∧ seq ≤ 4294967295) (he : 0 ≤ e ∧ e ≤ 4294967295) (hi : 0 ≤ i ∧ i ≤ 7) :
    i_CookieOf.f (m, t, seq, e, i, ()) = (e % 32) * 134217728 + i * 16777216 + i_MacOf.f (m, i_MacInput.f (t, seq, e, i, ()), ()) := by
  simp only [PX, i_CookieOf, MacInput_ne t seq e i ht hs he hi, cond_false]
  have h := MacOf_rng m (i_MacInput.f (t, seq, e, i, ()))
  rw [(tmod_pos 32).1 he.1, wrap64 (m := e % 32 * 134217728) (by omega) (by omega), wrap64 (m := i * 16777216) (by omega) (by omega), wrap64 (m := e % 32 * 134217728 + i * 16777216) (by omega) (by omega), wrap64 (by omega) (by omega)]
theorem MssIndex_rng (x : Int) : 0 ≤ i_MssIndex.f (x, ()) ∧ i_MssIndex.f (x, ()) ≤ 7 := by
  simp only [PX, i_MssIndex, i_MssIndex_L0_d]
  cases hf : forN (fun j a => (i_MssIndex_L0_T x j a).nice) (-1) (Int.toNat (7 - 0)) 7 () with
  | next a => simp [PX, Stp.elim]
  | out w =>
    obtain ⟨n, b, hn, h⟩ := forN_outJ _ _ _ _ hf
    simp only [PX, i_MssIndex_L0_T] at h
    simp only [PX, Stp.elim]
    rw [show Int.toNat (7 - 0) = 7 from rfl] at hn
    revert h
    cases decide (i_MssOf.f (7 + -1 * (n : Int), ()) ≤ x) with
    | false => simp only [cond_false]; intro h; cases h
    | true => simp only [cond_true]; intro h; cases h; omega
def fidx {T : Type} (p : T → Bool) (xs : List T) : Int := match xs.findIdx? p with | none => -1 | some i => (i : Int)
theorem forN_fidx {T : Type} (p : T → Bool) (xs : List T) {f : Int → Unit → Stp Unit Int} (h : ∀ (j : Nat) x a, xs[j]? = some x → f j a = bif p x then .out (j : Int) else .next ()) :
    forN f 1 (Int.toNat ((xs.length : Int) - 0)) 0 () = match xs.findIdx? p with | none => .next () | some i => .out (i : Int) := by
  rw [toNat_sub0, forN_list xs _ rfl h, listN_find (w := fun j _ => (j : Int))]
  cases hf : xs.findIdx? p with
  | none => rfl
  | some i =>
    obtain ⟨h1, _, _⟩ := List.findIdx?_eq_some_iff_getElem.1 hf
    simp only [List.getElem?_eq_getElem h1, Nat.zero_add]
theorem fidx_nn {T : Type} (p : T → Bool) (xs : List T) : decide (0 ≤ fidx p xs) = xs.any p := by
  unfold fidx
  cases h : xs.findIdx? p with
  | none =>
    rw [List.findIdx?_eq_none_iff] at h
    symm
    show xs.any p = false
    rw [List.any_eq_false]
    intro x hx; simp [h x hx]
  | some i =>
    obtain ⟨h1, h2, _⟩ := List.findIdx?_eq_some_iff_getElem.1 h
    have : xs.any p = true := by rw [List.any_eq_true]; exact ⟨xs[i], List.getElem_mem h1, h2⟩
    rw [this]; simp
theorem fidx_at {T : Type} (p : T → Bool) (xs : List T) (j : Nat) (x : T) (hx : xs[j]? = some x) (hp : p x = true) : (fidx p xs != (j : Int)) = (xs.take j).any p := by
  obtain ⟨hj, rfl⟩ := List.getElem?_eq_some_iff.1 hx
  unfold fidx
  cases h : xs.findIdx? p with
  | none =>
    rw [List.findIdx?_eq_none_iff] at h
    have := h _ (List.getElem_mem hj)
    rw [hp] at this; cases this
  | some i =>
    obtain ⟨h1, h2, h3⟩ := List.findIdx?_eq_some_iff_getElem.1 h
    simp only []
    rw [Bool.eq_iff_iff]
    simp only [bne_iff_ne, ne_eq, List.any_eq_true]
    constructor
    · intro hne
      have hij : i < j := by
        rcases Nat.lt_or_ge i j with h4 | h4
        · exact h4
        · have h5 : j < i := by omega
          have := h3 j h5
          simp [hp] at this
      refine ⟨xs[i], ?_, h2⟩
      rw [List.mem_take_iff_getElem]
      exact ⟨i, by omega, rfl⟩
    · rintro ⟨y, hy, hpy⟩ he
      rw [List.mem_take_iff_getElem] at hy
      obtain ⟨k, hk, rfl⟩ := hy
      have : k < i := by omega
      have := h3 k this
      simp [hpy] at this
def eqT (t y : Tupl) : Bool := (y.ip == t.ip) && ((y.port == t.port) && ((y.my == t.my) && true))
theorem eqT_refl (t : Tupl) : eqT t t = true := by simp [eqT]
theorem s_FindHalf_eq2 (xs : List Half) (t : Tupl) : s_FindHalf.f (xs, t, ()) = fidx (fun h => eqT t h.tuple) xs := by
  simp only [PX, s_FindHalf, s_FindHalf_L0_d]
  rw [forN_fidx (fun h : Half => eqT t h.tuple) xs (fun j x a h => by
    simp only [PX, s_FindHalf_L0_T, toNat_cast, getD_some h, eqT])]
  unfold fidx
  cases xs.findIdx? (fun h => eqT t h.tuple) <;> rfl
theorem i_FindHalf_eq2 (xs : List Half) (t : Tupl) : i_FindHalf.f (xs, t, ()) = fidx (fun h => eqT t h.tuple) xs := by
  simp only [PX, i_FindHalf, g_IndexFunc_Half_i_FindHalf_1, g_IndexFunc_Half_i_FindHalf_1_L0_d]
  rw [forN_fidx (fun h : Half => eqT t h.tuple) xs (fun j x a h => by
    simp only [PX, g_IndexFunc_Half_i_FindHalf_1_L0_T, i_FindHalf_1, toNat_cast, getD_some h, eqT])]
  unfold fidx
  cases xs.findIdx? (fun h => eqT t h.tuple) <;> rfl
theorem q_FindHalf (xs : List Half) (t : Tupl) : s_FindHalf.f (xs, t, ()) = i_FindHalf.f (xs, t, ()) := by rw [s_FindHalf_eq2, i_FindHalf_eq2]
theorem s_FindConn_eq2 (x : Tabl) (t : Tupl) : s_FindConn.f (x, t, ()) = fidx (fun h => eqT t h.tuple) x.conns := by
  simp only [PX, s_FindConn, s_FindConn_L0_d]
  rw [forN_fidx (fun h : Conn => eqT t h.tuple) x.conns (fun j x a h => by
    simp only [PX, s_FindConn_L0_T, toNat_cast, getD_some h, eqT])]
  unfold fidx
  cases x.conns.findIdx? (fun h => eqT t h.tuple) <;> rfl
theorem i_FindConn_eq2 (x : Tabl) (t : Tupl) : i_FindConn.f (x, t, ()) = fidx (fun h => eqT t h.tuple) x.conns := by
  simp only [PX, i_FindConn, g_IndexFunc_Conn_i_FindConn_1, g_IndexFunc_Conn_i_FindConn_1_L0_d]
  rw [forN_fidx (fun h : Conn => eqT t h.tuple) x.conns (fun j x a h => by
    simp only [PX, g_IndexFunc_Conn_i_FindConn_1_L0_T, i_FindConn_1, toNat_cast, getD_some h, eqT])]
  unfold fidx
  cases x.conns.findIdx? (fun h => eqT t h.tuple) <;> rfl
theorem q_FindConn (x : Tabl) (t : Tupl) : s_FindConn.f (x, t, ()) = i_FindConn.f (x, t, ()) := by rw [s_FindConn_eq2, i_FindConn_eq2]
theorem q_WindowOf (x : Recv) : s_WindowOf.f (x, ()) = i_WindowOf.f (x, ()) := by
  simp only [PX, s_WindowOf, i_WindowOf, l1Max0]
theorem WindowOf_le (x : Recv) (h : (x.data.length : Int) ≤ 32) : i_WindowOf.f (x, ()) ≤ 32 := by
  simp only [PX, i_WindowOf]
  cases x.done with
  | true => simp only [cond_true]; omega
  | false =>
    simp only [cond_false]
    rw [wrap64 (by omega) (by omega)]
    split <;> omega
theorem q_SenderOk (x : Sndr) : s_SenderOk.f (x, ()) = i_SenderOk.f (x, ()) := by
  simp only [PX, s_SenderOk, i_SenderOk, q_WordOk, s_l1In_eq, i_within_eq]
def walkP (L : Int) : Int → List Piec → Option Int
  | a, [] => some a
  | a, p :: r => bif (p.text == []) || decide (p.off ≤ a) || decide (L < p.off + (p.text.length : Int)) then none else walkP L (p.off + (p.text.length : Int)) r
theorem walkP_le (L : Int) : ∀ (r : List Piec) (a b : Int), walkP L a r = some b → a ≤ b ∧ (a ≤ L → b ≤ L)
  | [], a, b, h => by cases h; exact ⟨Int.le_refl _, fun h => h⟩
  | p :: r, a, b, h => by
    simp only [walkP] at h
    cases hc : ((p.text == []) || decide (p.off ≤ a) || decide (L < p.off + (p.text.length : Int))) with
    | true => rw [hc] at h; cases h
    | false =>
      rw [hc] at h
      simp only [Bool.or_eq_false_iff, decide_eq_false_iff_not] at hc
      have := walkP_le L r _ b h
      omega
theorem walkP_sub (L M : Int) (hLM : L ≤ M) : ∀ (r : List Piec) (a : Int), a ≤ L → walkP L a r = (match walkP M a r with | some b => bif decide (b ≤ L) then some b else none | none => none)
  | [], a, h => by simp only [walkP, decide_eq_true h, cond_true]
  | p :: r, a, h => by
    simp only [walkP]
    cases h1 : ((p.text == []) || decide (p.off ≤ a)) with
    | true => simp only [Bool.true_or, cond_true]
    | false =>
      simp only [Bool.false_or]
      by_cases h2 : L < p.off + (p.text.length : Int)
      · rw [decide_eq_true h2]
        simp only [cond_true]
        by_cases h3 : M < p.off + (p.text.length : Int)
        · rw [decide_eq_true h3]; rfl
        · rw [decide_eq_false h3]
          simp only [cond_false]
          cases hw : walkP M (p.off + (p.text.length : Int)) r with
          | none => rfl
          | some b =>
            have := (walkP_le M r _ b hw).1
            simp only []
            rw [decide_eq_false (by omega)]
            rfl
      · rw [decide_eq_false h2, decide_eq_false (show ¬ M < p.off + (p.text.length : Int) by omega)]
        simp only [cond_false]
        exact walkP_sub L M hLM r _ (by omega)
def SmallP (xs : List Piec) : Prop := ∀ y ∈ xs, y.text.length ≤ 4611686018427387904
theorem text_pos {s : Bytes} (h : (s == []) = false) : 0 < s.length := by
  cases s with
  | nil => cases h
  | cons => simp
theorem listN_walk {W : Type} {F : Nat → Piec → Int → Stp Int W} {L : Int} {w : W} : ∀ (r : List Piec) (j : Nat) (a : Int), 0 ≤ a → a ≤ 32 → L ≤ 32 → (∀ p ∈ r, ∀ j a, 0 ≤ a → a ≤ 32 → (∃ w, (p.text == [] || decide (p.off ≤ a) || decide (L < p.off + (p.text.length : Int))) = true ∧ F j p a = .out w) ∨ ((p.text == [] || decide (p.off ≤ a) || decide (L < p.off + (p.text.length : Int))) = false ∧ F j p a = .next (p.off + (p.text.length : Int)))) →
    (match walkP L a r with | some b => listN F j r a = .next b | none => ∃ w, listN F j r a = .out w)
  | [], j, a, _, _, _, _ => rfl
  | p :: r, j, a, h0, h1, hL, hF => by
    rcases hF p List.mem_cons_self j a h0 h1 with ⟨w, hc, hf⟩ | ⟨hc, hf⟩
    · simp only [walkP, hc, cond_true, listN, hf, Stp.elim]
      exact ⟨w, rfl⟩
    · simp only [walkP, hc, cond_false, listN, hf, Stp.elim]
      simp only [Bool.or_eq_false_iff, decide_eq_false_iff_not] at hc
      exact listN_walk (w := w) r (j + 1) _ (by omega) (by omega) hL fun q hq => hF q (List.mem_cons_of_mem _ hq)
theorem s_walk (x : Recv) (L : Int) (hL : L ≤ 32) (hs : SmallP x.held) : match walkP L 0 x.held with | some b => forN (fun j a => (s_ReceiverOk_L0_T L x j a).nice) 1 (Int.toNat ((x.held.length : Int) - 0)) 0 0 = .next b | none => ∃ w, forN (fun j a => (s_ReceiverOk_L0_T L x j a).nice) 1 (Int.toNat ((x.held.length : Int) - 0)) 0 0 = .out w := by
  rw [toNat_sub0, forN_list x.held _ rfl (F := fun j p a => (s_ReceiverOk_L0_T L { x with held := [p] } 0 a).nice) (by
    intro j p a h
    simp only [PX, s_ReceiverOk_L0_T, toNat_cast, getD_some h]
    rfl)]
  refine listN_walk (w := (0 : Int)) _ _ _ (by omega) (by omega) hL fun p hp j a h0 h1 => ?_
  have hl := hs p hp
  simp only [PX, s_ReceiverOk_L0_T, show Int.toNat 0 = 0 from rfl, List.getD_cons_zero]
  cases h2 : (p.text == []) with
  | true => exact .inl ⟨_, rfl, rfl⟩
  | false =>
    have hp := text_pos h2
    cases h3 : decide (p.off ≤ a) with
    | true => exact .inl ⟨_, rfl, rfl⟩
    | false =>
      simp only [decide_eq_false_iff_not] at h3
      simp only [cond_false, Bool.false_or]
      by_cases h4 : L < p.off
      · refine .inl ⟨a, decide_eq_true (by omega), ?_⟩
        rw [decide_eq_true h4]; rfl
      · rw [decide_eq_false h4, wrap64 (by omega) (by omega)]
        simp only [cond_false]
        by_cases h5 : L < p.off + (p.text.length : Int)
        · rw [decide_eq_true h5]; exact .inl ⟨_, rfl, rfl⟩
        · rw [decide_eq_false h5]; exact .inr ⟨rfl, rfl⟩
theorem i_walk (x : Recv) (L : Int) (hL0 : -9223372036854775808 ≤ L - 4611686018427387904) (hL : L ≤ 32) (hs : SmallP x.held) : match walkP L 0 x.held with | some b => forN (fun j a => (i_ReceiverOk_L0_T L x.held j a).nice) 1 (Int.toNat ((x.held.length : Int) - 0)) 0 0 = .next b | none => ∃ w, forN (fun j a => (i_ReceiverOk_L0_T L x.held j a).nice) 1 (Int.toNat ((x.held.length : Int) - 0)) 0 0 = .out w := by
  rw [toNat_sub0, forN_list x.held _ rfl (F := fun j p a => (i_ReceiverOk_L0_T L [p] 0 a).nice) (by
    intro j p a h
    simp only [PX, i_ReceiverOk_L0_T, toNat_cast, getD_some h]
    rfl)]
  refine listN_walk (w := ()) _ _ _ (by omega) (by omega) hL fun p hp j a h0 h1 => ?_
  have hl := hs p hp
  simp only [PX, i_ReceiverOk_L0_T, show Int.toNat 0 = 0 from rfl, List.getD_cons_zero]
  cases h2 : (p.text == []) with
  | true => exact .inl ⟨_, rfl, rfl⟩
  | false =>
    have hp := text_pos h2
    cases h3 : decide (p.off ≤ a) with
    | true => exact .inl ⟨_, rfl, rfl⟩
    | false =>
      simp only [decide_eq_false_iff_not] at h3
      simp only [cond_false, Bool.false_or]
      rw [wrap64 (m := L - (p.text.length : Int)) (by omega) (by omega)]
      by_cases h5 : L < p.off + (p.text.length : Int)
      · rw [decide_eq_true h5, decide_eq_true (by omega)]; exact .inl ⟨_, rfl, rfl⟩
      · rw [decide_eq_false h5, decide_eq_false (by omega), wrap64 (by omega) (by omega)]; exact .inr ⟨rfl, rfl⟩
theorem q_ReceiverOk (x : Recv) (hs : SmallP x.held) : s_ReceiverOk.f (x, ()) = i_ReceiverOk.f (x, ()) := by
  simp only [PX, s_ReceiverOk, i_ReceiverOk, s_ReceiverOk_L0_d, i_ReceiverOk_L0_d, q_WordOk, s_l1In_eq, q_WindowOf]
  cases i_WordOk.f (x.next, 32, ()) with
  | false => rfl
  | true =>
    by_cases hd : 32 < (x.data.length : Int)
    · rw [decide_eq_true hd]; rfl
    · rw [decide_eq_false hd]
      have hw := WindowOf_le x (by omega)
      simp only [Bool.not_true, cond_false]
      cases decide (3 < (x.held.length : Int)) with
      | true => rfl
      | false =>
        simp only [cond_false]
        rw [i_within_eq]
        by_cases hf : -1 ≤ x.fin ∧ x.fin ≤ i_WindowOf.f (x, ())
        · rw [decide_eq_true hf.1, decide_eq_true hf.2]
          simp only [Bool.and_self, Bool.not_true, cond_false]
          cases h0 : (x.fin == 0) with
          | true => rfl
          | false =>
            simp only [cond_false]
            have h0 : x.fin ≠ 0 := by simpa using h0
            have k1 := s_walk x (i_WindowOf.f (x, ())) hw hs
            by_cases h1 : x.fin = -1
            · have k2 := i_walk x (i_WindowOf.f (x, ())) (by omega) hw hs
              rw [show (x.fin != -1) = false by simp [h1], show decide (x.fin < 0) = true from decide_eq_true (by omega)]
              simp only [cond_true, cond_false]
              cases hp : walkP (i_WindowOf.f (x, ())) 0 x.held with
              | some b => rw [hp] at k1 k2; simp only [] at k1 k2; rw [k1, k2]; rfl
              | none => rw [hp] at k1 k2; obtain ⟨w1, k1⟩ := k1; obtain ⟨w2, k2⟩ := k2; rw [k1, k2]; rfl
            · have k2 := i_walk x x.fin (by omega) (by omega) hs
              rw [show (x.fin != -1) = true by simp [h1], show decide (x.fin < 0) = false from decide_eq_false (by omega)]
              simp only [cond_true, cond_false]
              rw [walkP_sub x.fin (i_WindowOf.f (x, ())) (by omega) x.held 0 (by omega)] at k2
              cases hp : walkP (i_WindowOf.f (x, ())) 0 x.held with
              | none => rw [hp] at k1 k2; obtain ⟨w1, k1⟩ := k1; obtain ⟨w2, k2⟩ := k2; rw [k1, k2]; rfl
              | some b =>
                rw [hp] at k1 k2
                simp only [] at k1 k2
                rw [k1]
                by_cases hb : b ≤ x.fin
                · rw [decide_eq_true hb] at k2
                  simp only [cond_true] at k2
                  rw [k2]; simp only [Stp.elim, decide_eq_true hb, cond_true]
                · rw [decide_eq_false hb] at k2
                  obtain ⟨w2, k2⟩ := k2
                  rw [k2]; simp only [Stp.elim, decide_eq_false hb, cond_false]
        · have : (decide (-1 ≤ x.fin) && decide (x.fin ≤ i_WindowOf.f (x, ()))) = false := by
            rw [Bool.and_eq_false_iff]; simp only [decide_eq_false_iff_not]; omega
          rw [this]; rfl
theorem q_ConnOk (x : Conn) (hs : SmallP x.r.held) : s_ConnOk.f (x, ()) = i_ConnOk.f (x, ()) := by
  simp only [PX, s_ConnOk, i_ConnOk, s_l19Fin, q_TupleOk, q_SenderOk, q_ReceiverOk x.r hs, q_OptionsOk, s_l1In_eq, i_within_eq]
  cases i_TupleOk.f (x.tuple, ()) with
  | false => rfl
  | true =>
  cases i_SenderOk.f (x.s, ()) with
  | false => rfl
  | true =>
  cases i_ReceiverOk.f (x.r, ()) with
  | false => rfl
  | true =>
  cases i_OptionsOk.f (x.opts, ()) with
  | false => rfl
  | true =>
  simp only [Bool.not_true, cond_false]
  have hm : (bif !(decide (0 ≤ x.window) && decide (x.window ≤ x.most)) then true else decide (1073725440 < x.most)) = (bif !(decide (0 ≤ x.most) && decide (x.most ≤ 1073725440)) then true else !(decide (0 ≤ x.window) && decide (x.window ≤ x.most))) := by
    rw [Bool.eq_iff_iff]
    by_cases h1 : 0 ≤ x.window <;> by_cases h2 : x.window ≤ x.most <;> by_cases h3 : 1073725440 < x.most <;> by_cases h4 : 0 ≤ x.most <;> by_cases h5 : x.most ≤ 1073725440 <;> simp [h1, h2, h3, h4, h5] <;> omega
  have ej : ∀ b : Bool, (bif b then (false, (4 : Int), x, ()) else (false, 3, x, ())) = (false, (bif b then 4 else 3), x, ()) := fun b => by cases b <;> rfl
  have et : ∀ b : Bool, decide (x.timer ≤ bif b then 4 else 3) = bif b then decide (x.timer ≤ 4) else decide (x.timer ≤ 3) := fun b => by cases b <;> rfl
  simp only [ej, et]
  revert hm
  generalize (decide (0 ≤ x.window) && decide (x.window ≤ x.most)) = W
  generalize decide (1073725440 < x.most) = M
  generalize (decide (0 ≤ x.most) && decide (x.most ≤ 1073725440)) = N
  generalize (decide (0 ≤ x.tries) && decide (x.tries ≤ 3)) = T
  generalize decide (0 ≤ x.timer) = T0
  generalize decide (x.timer ≤ 4) = T4
  generalize decide (x.timer ≤ 3) = T3
  generalize x.s.fin = sf
  generalize x.s.done = sd
  generalize x.r.done = rd
  generalize x.state = k
  have hk : k = 1 ∨ k = 2 ∨ k = 3 ∨ k = 4 ∨ k = 5 ∨ k = 6 ∨ k = 7 ∨ k = 8 ∨ (decide (1 ≤ k) && decide (k ≤ 8)) = false := by
    simp only [Bool.and_eq_false_iff, decide_eq_false_iff_not]; omega
  rcases hk with rfl | rfl | rfl | rfl | rfl | rfl | rfl | rfl | hk
  iterate 8 (revert W M N T T0 T4 T3 sf sd rd; decide +kernel)
  intro _; simp only [hk]; rfl
theorem q_LimitsOk (x : Limi) : s_LimitsOk.f (x, ()) = i_LimitsOk.f (x, ()) := by
  simp only [PX, s_LimitsOk, i_LimitsOk, s_l1In_eq, i_within_eq]
theorem forN_same {T V W : Type} (xs : List T) {f : Int → Unit → Stp Unit V} {g : Int → Unit → Stp Unit W} {k : Nat} (hk : k = xs.length) (h : ∀ (j : Nat) x, xs[j]? = some x → (∃ v w, f j () = .out v ∧ g j () = .out w) ∨ (f j () = .next () ∧ g j () = .next ())) :
    (∃ v w, forN f 1 k 0 () = .out v ∧ forN g 1 k 0 () = .out w) ∨ (forN f 1 k 0 () = .next () ∧ forN g 1 k 0 () = .next ()) := by
  subst hk
  have : ∀ (n i : Nat), i + n = xs.length → (∃ v w, forN f 1 n (i : Int) () = .out v ∧ forN g 1 n (i : Int) () = .out w) ∨ (forN f 1 n (i : Int) () = .next () ∧ forN g 1 n (i : Int) () = .next ()) := by
    intro n
    induction n with
    | zero => intro i _; exact .inr ⟨rfl, rfl⟩
    | succ n ih =>
      intro i hi
      rcases h i xs[i] (List.getElem?_eq_getElem (by omega)) with ⟨v, w, h1, h2⟩ | ⟨h1, h2⟩
      · exact .inl ⟨v, w, by simp only [forN, h1, Stp.elim], by simp only [forN, h2, Stp.elim]⟩
      · simp only [forN, h1, h2, Stp.elim]
        have := ih (i + 1) (by omega)
        rwa [show ((i + 1 : Nat) : Int) = (i : Int) + 1 by omega] at this
  exact this xs.length 0 (by omega)
theorem l25Waits_any (xs : List Tupl) (t : Tupl) : s_l25Waits.f (xs, t, ()) = xs.any (eqT t) := by
  simp only [PX, s_l25Waits, s_l25Waits_L0_d]
  rw [toNat_sub0, forN_list xs _ rfl (F := fun j y a => bif eqT t y then .out () else .next ()) (by
    intro j y a h
    simp only [PX, s_l25Waits_L0_T, toNat_cast, getD_some h, eqT])]
  rw [listN_find (p := eqT t) (w := fun _ _ => ())]
  cases h : xs.findIdx? (eqT t) with
  | none =>
    rw [List.findIdx?_eq_none_iff] at h
    simp only [Stp.elim]
    symm
    rw [List.any_eq_false]
    intro x hx; simp [h x hx]
  | some i =>
    obtain ⟨h1, h2, _⟩ := List.findIdx?_eq_some_iff_getElem.1 h
    simp only [List.getElem?_eq_getElem h1, Stp.elim]
    symm
    rw [List.any_eq_true]; exact ⟨xs[i], List.getElem_mem h1, h2⟩
theorem Index_Tuple_eq2 (xs : List Tupl) (t : Tupl) : g_Index_Tuple.f (xs, t, ()) = fidx (eqT t) xs := by
  have e : ∀ a b : Int, (a == b) = (b == a) := fun a b => by rw [Bool.eq_iff_iff]; simp only [beq_iff_eq]; exact eq_comm
  simp only [PX, g_Index_Tuple, g_Index_Tuple_L0_d]
  rw [forN_fidx (eqT t) xs (fun j x a h => by
    simp only [PX, g_Index_Tuple_L0_T, toNat_cast, getD_some h, eqT, e t.ip, e t.port, e t.my])]
  unfold fidx
  cases xs.findIdx? (eqT t) <;> rfl
theorem mem_at {T : Type} {xs : List T} {j : Nat} {x : T} (h : xs[j]? = some x) : x ∈ xs := List.mem_of_getElem? h
theorem q_TableOk (x : Tabl) (l : Limi) (hs : ∀ y ∈ x.conns, SmallP y.r.held) : s_TableOk.f (x, l, ()) = i_TableOk.f (x, l, ()) := by
  simp only [PX, s_TableOk, i_TableOk, s_TableOk_L0_d, i_TableOk_L0_d, s_TableOk_L1_d, i_TableOk_L1_d, q_LimitsOk]
  have h1 := forN_same x.conns (f := fun j a => (s_TableOk_L0_T x j a).nice) (g := fun j a => (i_TableOk_L0_T x.conns x j a).nice) (k := Int.toNat ((x.conns.length : Int) - 0)) (toNat_sub0 _) (fun j y hy => by
    simp only [PX, s_TableOk_L0_T, i_TableOk_L0_T, toNat_cast, getD_some hy, q_ConnOk y (hs y (mem_at hy)), q_FindConn]
    cases i_ConnOk.f (y, ()) with
    | false => exact .inl ⟨_, _, rfl, rfl⟩
    | true => cases (i_FindConn.f (x, y.tuple, ()) != (j : Int)) with
      | true => exact .inl ⟨_, _, rfl, rfl⟩
      | false => exact .inr ⟨rfl, rfl⟩)
  have h2 := forN_same x.waiting (f := fun j a => (s_TableOk_L1_T x j a).nice) (g := fun j a => (i_TableOk_L1_T x.waiting x j a).nice) (k := Int.toNat ((x.waiting.length : Int) - 0)) (toNat_sub0 _) (fun j y hy => by
    simp only [PX, s_TableOk_L1_T, i_TableOk_L1_T, toNat_cast, getD_some hy, l25Waits_any, Index_Tuple_eq2, q_FindConn, List.drop_zero]
    rw [fidx_at (eqT y) x.waiting j y hy (eqT_refl y)]
    cases (x.waiting.take j).any (eqT y) <;> cases decide (i_FindConn.f (x, y, ()) < 0) <;> first | exact .inl ⟨_, _, rfl, rfl⟩ | exact .inr ⟨rfl, rfl⟩)
  rcases h1 with ⟨v, w, h3, h4⟩ | ⟨h3, h4⟩
  · rw [h3, h4]
    cases (i_LimitsOk.f (l, ())) <;> cases decide (l.conns < (x.conns.length : Int)) <;> cases decide (l.waiting < (x.waiting.length : Int)) <;> rfl
  · rw [h3, h4]
    rcases h2 with ⟨v, w, h5, h6⟩ | ⟨h5, h6⟩
    · rw [h5, h6]
      all_goals (cases (i_LimitsOk.f (l, ())) <;> cases decide (l.conns < (x.conns.length : Int)) <;> cases decide (l.waiting < (x.waiting.length : Int)) <;> rfl)
    · rw [h5, h6]
      all_goals (cases (i_LimitsOk.f (l, ())) <;> cases decide (l.conns < (x.conns.length : Int)) <;> cases decide (l.waiting < (x.waiting.length : Int)) <;> rfl)
theorem q_HalvesOk (xs : List Half) : s_HalvesOk.f (xs, ()) = i_HalvesOk.f (xs, ()) := by
  simp only [PX, s_HalvesOk, i_HalvesOk, s_HalvesOk_L0_d, i_HalvesOk_L0_d]
  have h1 := forN_same xs (f := fun j a => (s_HalvesOk_L0_T xs j a).nice) (g := fun j a => (i_HalvesOk_L0_T xs xs j a).nice) (k := Int.toNat ((xs.length : Int) - 0)) (toNat_sub0 _) (fun j y hy => by
    simp only [PX, s_HalvesOk_L0_T, i_HalvesOk_L0_T, toNat_cast, getD_some hy, q_TupleOk, q_WordOk, q_OptionsOk, s_l1In_eq, i_within_eq, s_FindHalf_eq2, i_FindHalf_eq2, List.drop_zero, fidx_nn]
    rw [fidx_at (fun h : Half => eqT y.tuple h.tuple) xs j y hy (eqT_refl _)]
    cases i_TupleOk.f (y.tuple, ()) with
    | false => exact .inl ⟨_, _, rfl, rfl⟩
    | true =>
    cases i_WordOk.f (y.iss, 32, ()) with
    | false => exact .inl ⟨_, _, rfl, rfl⟩
    | true =>
    cases i_WordOk.f (y.irs, 32, ()) with
    | false => exact .inl ⟨_, _, rfl, rfl⟩
    | true =>
    cases i_WordOk.f (y.window, 16, ()) with
    | false => exact .inl ⟨_, _, rfl, rfl⟩
    | true =>
    cases i_OptionsOk.f (y.opts, ()) with
    | false => exact .inl ⟨_, _, rfl, rfl⟩
    | true =>
    cases (decide (0 ≤ y.age) && decide (y.age ≤ 6)) with
    | false => exact .inl ⟨_, _, rfl, rfl⟩
    | true =>
    cases (xs.take j).any (fun h => eqT y.tuple h.tuple) with
    | true => exact .inl ⟨_, _, rfl, rfl⟩
    | false => exact .inr ⟨rfl, rfl⟩)
  rcases h1 with ⟨v, w, h3, h4⟩ | ⟨h3, h4⟩ <;> rw [h3, h4] <;> by_cases h : 64 < (xs.length : Int)
  · rw [decide_eq_true h]; rfl
  · rw [decide_eq_false h]; rfl
  · rw [decide_eq_true h]; simp only [Stp.elim, cond_true]; exact decide_eq_false (by omega)
  · rw [decide_eq_false h]; simp only [Stp.elim, cond_false]; exact decide_eq_true (by omega)
theorem DoorOk_any (d : Door) (xs : List Half) : g_ContainsFunc_Half_i_DoorOk_1.f (xs, d, ()) = xs.any (fun h => decide (0 ≤ i_FindConn.f (d.table, h.tuple, ()))) := by
  simp only [PX, g_ContainsFunc_Half_i_DoorOk_1, g_IndexFunc_Half_i_DoorOk_1, g_IndexFunc_Half_i_DoorOk_1_L0_d]
  rw [forN_fidx (fun h : Half => decide (0 ≤ i_FindConn.f (d.table, h.tuple, ()))) xs (fun j y a h => by
    simp only [PX, g_IndexFunc_Half_i_DoorOk_1_L0_T, i_DoorOk_1, toNat_cast, getD_some h])]
  rw [← fidx_nn]
  unfold fidx
  cases xs.findIdx? (fun h => decide (0 ≤ i_FindConn.f (d.table, h.tuple, ()))) <;> rfl
theorem listN_any {T : Type} (p : T → Bool) (xs : List T) (j : Nat) : listN (W := Unit) (fun _ y (_ : Unit) => bif p y then .out () else .next ()) j xs () = bif xs.any p then .out () else .next () := by
  rw [listN_find (w := fun _ _ => ())]
  cases h : xs.findIdx? p with
  | none =>
    rw [List.findIdx?_eq_none_iff] at h
    have : xs.any p = false := by
      rw [List.any_eq_false]
      intro y hy; simp [h y hy]
    rw [this]; rfl
  | some i =>
    obtain ⟨h1, h2, _⟩ := List.findIdx?_eq_some_iff_getElem.1 h
    have : xs.any p = true := by rw [List.any_eq_true]; exact ⟨xs[i], List.getElem_mem h1, h2⟩
    rw [this]; simp only [List.getElem?_eq_getElem h1]; rfl
theorem q_DoorOk (x : Door) (hs : ∀ y ∈ x.table.conns, SmallP y.r.held) : s_DoorOk.f (x, ()) = i_DoorOk.f (x, ()) := by
  simp only [PX, s_DoorOk, i_DoorOk, s_DoorOk_L0_d, q_WordOk, q_KeysOk, q_TableOk x.table x.limits hs, q_HalvesOk, s_l1In_eq, i_within_eq, DoorOk_any]
  rw [toNat_sub0, forN_list x.halves _ rfl (F := fun j y a => bif decide (0 ≤ i_FindConn.f (x.table, y.tuple, ())) then .out () else .next ()) (by
    intro j y a h
    simp only [PX, s_DoorOk_L0_T, toNat_cast, getD_some h, q_FindConn])]
  rw [listN_any (fun y : Half => decide (0 ≤ i_FindConn.f (x.table, y.tuple, ())))]
  cases x.halves.any (fun y => decide (0 ≤ i_FindConn.f (x.table, y.tuple, ()))) <;> rfl
theorem listN_copy : ∀ (r : List Conn) (j : Nat) (c : List Conn) (w : List Tupl), listN (W := Empty) (fun _ x (a : Tabl × Tabl) => .next ((⟨[], []⟩ : Tabl), (⟨a.2.conns ++ [x], a.2.waiting⟩ : Tabl))) j r (⟨[], []⟩, ⟨c, w⟩) = .next (⟨[], []⟩, ⟨c ++ r, w⟩)
  | [], _, c, w => by simp only [listN, List.append_nil]
  | x :: r, j, c, w => by
    simp only [listN, Stp.elim]
    rw [listN_copy r]
    simp
theorem q_l18Copy (x : Recv) : s_l18Copy.f (x, ()) = x := by simp only [PX, s_l18Copy, List.nil_append]
theorem q_cloneReceiver (x : Recv) : i_cloneReceiver.f (x, ()) = x := by simp only [PX, i_cloneReceiver, g_Clone_Piece]
theorem q_l19Copy (x : Conn) : s_l19Copy.f (x, ()) = x := by simp only [PX, s_l19Copy, q_l18Copy]
theorem q_cloneConn (x : Conn) : i_cloneConn.f (x, ()) = x := by simp only [PX, i_cloneConn, q_cloneReceiver]
theorem q_l13Copy (x : Keys) : s_l13Copy.f (x, ()) = x := by simp only [PX, s_l13Copy, q_l11Copy]
theorem q_cloneKeys (x : Keys) : i_cloneKeys.f (x, ()) = x := by simp only [PX, i_cloneKeys, q_cloneMac]
theorem q_l25Copy (x : Tabl) : s_l25Copy.f (x, ()) = x := by
  simp only [PX, s_l25Copy, s_l25Copy_L0_d, List.nil_append]
  rw [toNat_sub0, forN_list x.conns _ rfl (F := fun _ y (a : Tabl × Tabl) => .next ((⟨[], []⟩ : Tabl), (⟨a.2.conns ++ [y], a.2.waiting⟩ : Tabl))) (by
    intro j y a h
    simp only [PX, s_l25Copy_L0_T, toNat_cast, getD_some h, q_l19Copy]), listN_copy]
  simp only [Stp.elim, PX, List.nil_append]
theorem q_cloneTable (x : Tabl) : i_cloneTable.f (x, ()) = x := by
  simp only [PX, i_cloneTable, i_cloneTable_L0_d, g_Clone_Tuple]
  rw [toNat_sub0, forN_list x.conns _ rfl (F := fun _ y (a : Tabl × Tabl) => .next ((⟨[], []⟩ : Tabl), (⟨a.2.conns ++ [y], a.2.waiting⟩ : Tabl))) (by
    intro j y a h
    simp only [PX, i_cloneTable_L0_T, toNat_cast, getD_some h, q_cloneConn]), listN_copy]
  simp only [Stp.elim, PX, List.nil_append]
theorem q_l26Copy (x : Door) : s_l26Copy.f (x, ()) = x := by simp only [PX, s_l26Copy, q_l13Copy, q_l25Copy, List.nil_append]
theorem q_cloneDoor (x : Door) : i_cloneDoor.f (x, ()) = x := by simp only [PX, i_cloneDoor, q_cloneKeys, q_cloneTable, g_Clone_Half]
theorem forN_skip {W : Type} {f : Int → Unit → Stp Unit W} : ∀ (k : Nat) (i : Int), (∀ j, f j () = .next ()) → forN f 1 k i () = .next ()
  | 0, _, _ => rfl
  | k + 1, i, h => by simp only [forN, h, Stp.elim]; exact forN_skip k _ h
theorem SameMac_self (m : Mac) : s_SameMac.f (m, m, ()) = true := by
  simp only [PX, s_SameMac, s_SameMac_L0_d]
  rw [forN_skip _ _ fun j => by simp only [PX, s_SameMac_L0_T, beq_self_eq_true, Bool.and_self, Bool.not_true, cond_false]]
  simp [PX, Stp.elim]
theorem SameReceiver_self (m : Recv) : s_SameReceiver.f (m, m, ()) = true := by
  simp only [PX, s_SameReceiver, s_SameReceiver_L0_d]
  rw [forN_skip _ _ fun j => by simp only [PX, s_SameReceiver_L0_T, beq_self_eq_true, Bool.and_self, Bool.not_true, cond_false]]
  simp [PX, Stp.elim]
theorem SameConn_self (m : Conn) : s_SameConn.f (m, m, ()) = true := by
  simp only [PX, s_SameConn, SameReceiver_self, beq_self_eq_true, Bool.and_self, cond_true]
theorem SameHalves_self (m : List Half) : s_SameHalves.f (m, m, ()) = true := by
  simp only [PX, s_SameHalves, s_SameHalves_L0_d]
  rw [forN_skip _ _ fun j => by simp only [PX, s_SameHalves_L0_T, beq_self_eq_true, Bool.and_self, Bool.not_true, cond_false]]
  simp [PX, Stp.elim]
theorem SameTable_self (m : Tabl) : s_SameTable.f (m, m, ()) = true := by
  simp only [PX, s_SameTable, s_SameTable_L0_d, s_SameTable_L1_d]
  rw [forN_skip (f := fun j a => (s_SameTable_L0_T m m j a).nice) _ _ fun j => by simp only [PX, s_SameTable_L0_T, SameConn_self, Bool.not_true, cond_false]]
  simp only [Stp.elim, PX]
  rw [forN_skip (f := fun j a => (s_SameTable_L1_T m m j a).nice) _ _ fun j => by simp only [PX, s_SameTable_L1_T, beq_self_eq_true, Bool.and_self, Bool.not_true, cond_false]]
  simp [PX, Stp.elim]
theorem SameKeys_self (m : Keys) : s_SameKeys.f (m, m, ()) = true := by
  simp only [PX, s_SameKeys, SameMac_self, beq_self_eq_true, cond_true]
theorem SameDoor_self (m : Door) : s_SameDoor.f (m, m, ()) = true := by
  simp only [PX, s_SameDoor, SameKeys_self, SameHalves_self, SameTable_self, beq_self_eq_true, Bool.and_self, cond_true]
theorem iSameMac_self (m : Mac) : i_SameMac.f (m, m, ()) = true := by rw [← q_SameMac]; exact SameMac_self m
theorem eqHalf_self (m : List Half) : g_Equal_Half.f (m, m, ()) = true := by
  simp only [PX, g_Equal_Half, g_Equal_Half_L0_d]
  rw [forN_skip _ _ fun j => by simp only [PX, g_Equal_Half_L0_T, beq_self_eq_true, Bool.and_self, Bool.not_true, cond_false]]
  simp [PX, Stp.elim]
theorem eqTuple_self (m : List Tupl) : g_Equal_Tuple.f (m, m, ()) = true := by
  simp only [PX, g_Equal_Tuple, g_Equal_Tuple_L0_d]
  rw [forN_skip _ _ fun j => by simp only [PX, g_Equal_Tuple_L0_T, beq_self_eq_true, Bool.and_self, Bool.not_true, cond_false]]
  simp [PX, Stp.elim]
theorem eqPiece_self (m : List Piec) : g_Equal_Piece.f (m, m, ()) = true := by
  simp only [PX, g_Equal_Piece, g_Equal_Piece_L0_d]
  rw [forN_skip _ _ fun j => by simp only [PX, g_Equal_Piece_L0_T, beq_self_eq_true, Bool.and_self, Bool.not_true, cond_false]]
  simp [PX, Stp.elim]
theorem iSameReceiver_self (m : Recv) : i_SameReceiver.f (m, m, ()) = true := by
  simp only [PX, i_SameReceiver, eqPiece_self, beq_self_eq_true, cond_true]
theorem iSameConn_self (m : Conn) : i_SameConn.f (m, m, ()) = true := by
  simp only [PX, i_SameConn, iSameReceiver_self, beq_self_eq_true, Bool.and_self, cond_true]
theorem eqConns_self (m : List Conn) : g_EqualFunc_Conn_i_SameConn.f (m, m, ()) = true := by
  simp only [PX, g_EqualFunc_Conn_i_SameConn, g_EqualFunc_Conn_i_SameConn_L0_d]
  rw [forN_skip _ _ fun j => by simp only [PX, g_EqualFunc_Conn_i_SameConn_L0_T, iSameConn_self, Bool.not_true, cond_false]]
  simp [PX, Stp.elim]
theorem iSameTable_self (m : Tabl) : i_SameTable.f (m, m, ()) = true := by
  simp only [PX, i_SameTable, eqConns_self, eqTuple_self, cond_true]
theorem iSameKeys_self (m : Keys) : i_SameKeys.f (m, m, ()) = true := by
  simp only [PX, i_SameKeys, iSameMac_self, beq_self_eq_true, cond_true]
theorem iSameHalves_self (m : List Half) : i_SameHalves.f (m, m, ()) = true := by
  simp only [PX, i_SameHalves, eqHalf_self]
theorem iSameDoor_self (m : Door) : i_SameDoor.f (m, m, ()) = true := by
  simp only [PX, i_SameDoor, iSameKeys_self, iSameHalves_self, iSameTable_self, beq_self_eq_true, Bool.and_self, cond_true]
theorem sameSegments_self (m : List Segm) : w_sameSegments.f (m, m, ()) = true := by
  simp only [PX, w_sameSegments, w_sameSegments_L0_d]
  rw [forN_skip _ _ fun j => by simp only [PX, w_sameSegments_L0_T, beq_self_eq_true, Bool.and_self, Bool.not_true, cond_false]]
  simp [PX, Stp.elim]
theorem q_KeptOptions (o : Opti) : s_KeptOptions.f (o, ()) = i_KeptOptions.f (o, ()) := by
  simp only [PX, s_KeptOptions, i_KeptOptions, s_NoOptions, i_NoOptions]
theorem q_PutHalf (xs : List Half) (h : Half) (n : Int) : s_PutHalf.f (xs, h, n, ()) = i_PutHalf.f (xs, h, n, ()) := by
  simp only [PX, s_PutHalf, i_PutHalf, g_Clone_Half, q_HalvesOk, List.nil_append]
def smallD (d : Door) : Prop := ∀ y ∈ d.table.conns, SmallP y.r.held
theorem smallD_of {d : Door} (hd : sm_door d) : smallD d := by
  intro y hy p hp
  have h1 : sm_conn y := hd.2.2.2.2.2.2.1 y hy
  have h2 : sm_piec p := h1.2.2.2 p hp
  simp only [sm_piec] at h2
  omega
theorem q_l26Right (d : Door) (t : Tupl) (g : Segm) (hs : smallD d) : s_l26Right.f (d, t, g, ()) = (i_DoorOk.f (d, ()) && (i_TupleOk.f (t, ()) && i_SegmentOk.f (g, ()))) := by
  simp only [PX, s_l26Right, q_DoorOk d hs, q_TupleOk, q_SegmentOk]
  cases i_DoorOk.f (d, ()) <;> cases i_TupleOk.f (t, ()) <;> rfl
theorem iSynIn_eq (d : Door) (t : Tupl) (g : Segm) : i_SynIn.f (d, t, g, ()) =
    bif (i_DoorOk.f (d, ()) && (i_TupleOk.f (t, ()) && i_SegmentOk.f (g, ()))) then
      bif decide (0 ≤ i_FindHalf.f (d.halves, t, ())) then
        bif ((d.halves.getD (i_FindHalf.f (d.halves, t, ())).toNat (Ty.zero .half)).irs != g.seq) then (d, []) else (d, [({ i_SynAck.f (d, t, g, ()) with seq := (d.halves.getD (i_FindHalf.f (d.halves, t, ())).toNat (Ty.zero .half)).iss } : Segm)])
      else bif decide (i_FindConn.f (d.table, t, ()) < 0) then
        ({ d with halves := (i_PutHalf.f (d.halves, (⟨t, (i_SynAck.f (d, t, g, ())).seq, g.seq, i_KeptOptions.f (g.opts, ()), 0, g.window⟩ : Half), d.limits.halves, ())).1 }, [i_SynAck.f (d, t, g, ())])
      else (d, [i_SynAck.f (d, t, g, ())])
    else (d, []) := by
  simp only [PX, i_SynIn, q_cloneDoor]
  cases i_DoorOk.f (d, ()) <;> cases i_TupleOk.f (t, ()) <;> cases i_SegmentOk.f (g, ()) <;> rfl
theorem q_SynIn (d : Door) (t : Tupl) (g : Segm) (hs : smallD d) : s_SynIn.f (d, t, g, ()) = i_SynIn.f (d, t, g, ()) := by
  rw [iSynIn_eq]
  simp only [PX, s_SynIn, q_l26Copy, q_l26Right d t g hs, q_SynAck, q_FindHalf, q_FindConn, q_KeptOptions, q_PutHalf]
  cases (i_DoorOk.f (d, ()) && (i_TupleOk.f (t, ()) && i_SegmentOk.f (g, ()))) <;> rfl
theorem forN_allN {W : Type} {f : Int → Unit → Stp Unit W} : ∀ (k i : Nat), forN f 1 k (i : Int) () = .next () ↔ ∀ j : Nat, i ≤ j → j < i + k → f (j : Int) () = .next ()
  | 0, i => ⟨fun _ j h1 h2 => by omega, fun _ => rfl⟩
  | k + 1, i => by
    constructor
    · intro h j h1 h2
      simp only [forN] at h
      cases hf : f (i : Int) () with
      | out w => rw [hf] at h; cases h
      | next a =>
        rw [hf] at h
        simp only [Stp.elim] at h
        rcases Nat.eq_or_lt_of_le h1 with h3 | h3
        · rw [← h3]; exact hf
        · rw [show (i : Int) + 1 = ((i + 1 : Nat) : Int) by omega] at h
          exact (forN_allN k (i + 1)).1 h j h3 (by omega)
    · intro h
      simp only [forN, h i (Nat.le_refl _) (by omega), Stp.elim]
      rw [show (i : Int) + 1 = ((i + 1 : Nat) : Int) by omega]
      exact (forN_allN k (i + 1)).2 fun j h1 h2 => h j (by omega) (by omega)
def halfOk (h : Half) : Bool := i_TupleOk.f (h.tuple, ()) && (i_WordOk.f (h.iss, 32, ()) && (i_WordOk.f (h.irs, 32, ()) && (i_WordOk.f (h.window, 16, ()) && (i_OptionsOk.f (h.opts, ()) && (decide (0 ≤ h.age) && decide (h.age ≤ 6))))))
theorem HalvesOk_T (xs : List Half) (j : Nat) (y : Half) (hy : xs[j]? = some y) : ((s_HalvesOk_L0_T xs (j : Int) ()).nice = .next ()) ↔ (halfOk y = true ∧ (xs.take j).any (fun h => eqT y.tuple h.tuple) = false) := by
  simp only [PX, s_HalvesOk_L0_T, toNat_cast, getD_some hy, q_TupleOk, q_WordOk, q_OptionsOk, s_l1In_eq, s_FindHalf_eq2, List.drop_zero, fidx_nn, halfOk]
  cases i_TupleOk.f (y.tuple, ()) <;> cases i_WordOk.f (y.iss, 32, ()) <;> cases i_WordOk.f (y.irs, 32, ()) <;> cases i_WordOk.f (y.window, 16, ()) <;> cases i_OptionsOk.f (y.opts, ()) <;> cases (decide (0 ≤ y.age) && decide (y.age ≤ 6)) <;> cases (xs.take j).any (fun h => eqT y.tuple h.tuple) <;> simp
theorem HalvesOk_iff (xs : List Half) : i_HalvesOk.f (xs, ()) = true ↔ (∀ (j : Nat) (y : Half), xs[j]? = some y → halfOk y = true ∧ (xs.take j).any (fun h => eqT y.tuple h.tuple) = false) ∧ xs.length ≤ 64 := by
  rw [← q_HalvesOk]
  have hT : forN (fun j a => (s_HalvesOk_L0_T xs j a).nice) 1 xs.length ((0 : Nat) : Int) () = .next () ↔ ∀ (j : Nat) (y : Half), xs[j]? = some y → halfOk y = true ∧ (xs.take j).any (fun h => eqT y.tuple h.tuple) = false := by
    rw [forN_allN]
    constructor
    · intro h j y hy
      exact (HalvesOk_T xs j y hy).1 (h j (Nat.zero_le _) (by have := (List.getElem?_eq_some_iff.1 hy).1; omega))
    · intro h j _ h2
      exact (HalvesOk_T xs j xs[j] (List.getElem?_eq_getElem (by omega))).2 (h j _ (List.getElem?_eq_getElem (by omega)))
  simp only [PX, s_HalvesOk, s_HalvesOk_L0_d]
  rw [toNat_sub0, show (0 : Int) = ((0 : Nat) : Int) from rfl, ← hT]
  cases forN (fun j a => (s_HalvesOk_L0_T xs j a).nice) 1 xs.length ((0 : Nat) : Int) () with
  | next a => simp only [Stp.elim, PX, decide_eq_true_eq, true_and]; omega
  | out w => simp [Stp.elim, PX]
theorem HalvesOk_snoc (xs : List Half) (h : Half) (hx : i_HalvesOk.f (xs, ()) = true) (hh : halfOk h = true) (hn : xs.any (fun y => eqT h.tuple y.tuple) = false) (hl : xs.length < 64) : i_HalvesOk.f (xs ++ [h], ()) = true := by
  rw [HalvesOk_iff] at hx ⊢
  refine ⟨fun j y hy => ?_, by simp; omega⟩
  rcases Nat.lt_or_ge j xs.length with hj | hj
  · rw [List.getElem?_append_left hj] at hy
    rw [List.take_append_of_le_length (by omega)]
    exact hx.1 j y hy
  · rw [List.getElem?_append_right hj] at hy
    have : j = xs.length := by
      have := (List.getElem?_eq_some_iff.1 hy).1
      simp at this; omega
    subst this
    simp at hy
    subst hy
    rw [List.take_append_of_le_length (by omega), List.take_of_length_le (Nat.le_refl _)]
    exact ⟨hh, hn⟩
theorem fidx_snoc {T : Type} (p : T → Bool) (xs : List T) (x : T) (h : xs.any p = false) (hx : p x = true) : fidx p (xs ++ [x]) = (xs.length : Int) := by
  have hn : ∀ y ∈ xs, p y = false := by simpa using List.any_eq_false.1 h
  unfold fidx
  have e : (xs ++ [x]).findIdx? p = some xs.length := by
    rw [List.findIdx?_eq_some_iff_getElem]
    refine ⟨by simp, by simpa using hx, fun j hj => ?_⟩
    rw [List.getElem_append_left hj]
    simp [hn _ (List.getElem_mem hj)]
  rw [e]
theorem KeptOptions_ok (o : Opti) (h : i_OptionsOk.f (o, ()) = true) : i_OptionsOk.f (i_KeptOptions.f (o, ()), ()) = true := by
  simp only [PX, i_KeptOptions, i_NoOptions]
  cases hs : o.stamp with
  | true => exact h
  | false =>
    simp only [PX, i_OptionsOk, hs, i_within_eq, i_WordOk_16, i_WordOk_32, Bool.not_false, cond_true] at h
    simp only [PX, i_OptionsOk, i_within_eq, i_WordOk_16, i_WordOk_32, cond_false]
    revert h
    cases (decide (0 ≤ o.mss) && decide (o.mss ≤ 65535)) <;> cases (o.val != 0) <;> cases (o.echo != 0) <;> simp
theorem SynAck_seq (d : Door) (t : Tupl) (g : Segm) : 0 ≤ (i_SynAck.f (d, t, g, ())).seq ∧ (i_TupleOk.f (t, ()) = true → i_KeysOk.f (d.keys, ()) = true → 0 ≤ g.seq ∧ g.seq ≤ 4294967295 → (i_SynAck.f (d, t, g, ())).seq ≤ 4294967295) := by
  have hseq : (i_SynAck.f (d, t, g, ())).seq = i_FirstSeq.f (d, t, g, ()) := by simp only [PX, i_SynAck]
  rw [hseq]
  simp only [PX, i_FirstSeq]
  generalize i_peerMss.f (g.opts, ()) = mss
  refine ⟨by split <;> omega, fun ht hk hs => ?_⟩
  have hi := MssIndex_rng mss
  have he := KeysOk_epoch d.keys hk
  have hc := CookieOf_eq d.keys.now t g.seq d.keys.epoch (i_MssIndex.f (mss, ())) ht hs he hi
  have hr := MacOf_rng d.keys.now (i_MacInput.f (t, g.seq, d.keys.epoch, i_MssIndex.f (mss, ()), ()))
  rw [hc]; split <;> omega
theorem DoorOk_parts (d : Door) (h : i_DoorOk.f (d, ()) = true) : i_KeysOk.f (d.keys, ()) = true ∧ i_TableOk.f (d.table, d.limits, ()) = true ∧ i_HalvesOk.f (d.halves, ()) = true ∧ (d.halves.length : Int) ≤ d.limits.halves := by
  simp only [PX, i_DoorOk] at h
  revert h
  cases i_WordOk.f (d.port, 16, ()) <;> cases i_WordOk.f (d.clock, 32, ()) <;> cases i_KeysOk.f (d.keys, ()) <;> cases i_TableOk.f (d.table, d.limits, ()) <;> cases i_HalvesOk.f (d.halves, ()) <;> cases hd : decide (d.limits.halves < (d.halves.length : Int)) <;> simp only [Bool.not_true, Bool.not_false, cond_true, cond_false] <;> intro h <;> first | exact Bool.noConfusion h | skip
  simp only [decide_eq_false_iff_not] at hd
  refine ⟨?_, ?_, ?_, by omega⟩ <;> first | rfl | trivial
theorem Limits_halves (d : Door) (h : i_TableOk.f (d.table, d.limits, ()) = true) : d.limits.halves ≤ 64 := by
  simp only [PX, i_TableOk, i_LimitsOk, i_within_eq] at h
  revert h
  cases hl : (decide (1 ≤ d.limits.halves) && decide (d.limits.halves ≤ 64)) with
  | false => simp
  | true =>
    intro _
    simp only [Bool.and_eq_true, decide_eq_true_eq] at hl
    exact hl.2
theorem DoorOk_put (d : Door) (h : Half) (hd : i_DoorOk.f (d, ()) = true) (hh : i_HalvesOk.f (d.halves ++ [h], ()) = true) (hl : (d.halves.length : Int) < d.limits.halves) (hc : i_FindConn.f (d.table, h.tuple, ()) < 0) : i_DoorOk.f ({ d with halves := d.halves ++ [h] }, ()) = true := by
  have hp := DoorOk_parts d hd
  simp only [PX, i_DoorOk, hp.1, hp.2.1, hp.2.2.1, DoorOk_any] at hd
  simp only [PX, i_DoorOk, hp.1, hp.2.1, hh, DoorOk_any, List.any_append, List.any_cons, List.any_nil, Bool.or_false]
  rw [decide_eq_false (show ¬ d.limits.halves < ((d.halves ++ [h]).length : Int) by simp; omega), decide_eq_false (show ¬ 0 ≤ i_FindConn.f (d.table, h.tuple, ()) by omega)]
  rw [decide_eq_false (show ¬ d.limits.halves < (d.halves.length : Int) by omega)] at hd
  rw [Bool.or_false]
  exact hd
theorem SegmentOk_of (g : Segm) (h : i_SegmentOk.f (g, ()) = true) : (0 ≤ g.seq ∧ g.seq ≤ 4294967295) ∧ i_WordOk.f (g.window, 16, ()) = true ∧ i_OptionsOk.f (g.opts, ()) = true := by
  simp only [PX, i_SegmentOk, i_WordOk_32] at h
  revert h
  cases i_WordOk.f (g.from_, 16, ()) <;> cases i_WordOk.f (g.to, 16, ()) <;> cases i_WordOk.f (g.window, 16, ()) <;> cases hq : (decide (0 ≤ g.seq) && decide (g.seq ≤ 4294967295)) <;> cases (decide (0 ≤ g.ack) && decide (g.ack ≤ 4294967295)) <;> cases i_WordOk.f (g.flags, 6, ()) <;> cases i_OptionsOk.f (g.opts, ()) <;> simp only [cond_true, cond_false] <;> intro h <;> first | exact Bool.noConfusion h | skip
  simp only [Bool.and_eq_true, decide_eq_true_eq] at hq
  refine ⟨hq, ?_, ?_⟩ <;> first | rfl | trivial
set_option maxHeartbeats 2000000 in theorem t_FnSynIn (x : List Int) : w_FnSynIn.f (x, ()) = true := by
  simp only [FX.f, PX, w_FnSynIn]
  cases hb : w_big.f (x, ()) with
  | true => rfl
  | false =>
  simp only [cond_false]
  have hx : sS x ∧ x.length ≤ 1048576 := by
    simp only [PX, w_big, decide_eq_false_iff_not] at hb
    simp only [sS]; omega
  have hd := (s_DrawSynIn.c.h (x, ()) hx).1
  simp only [PX] at hd
  generalize s_DrawSynIn.f (x, ()) = z at *
  obtain ⟨d, t, g⟩ := z
  simp only [] at hd ⊢
  have hs := smallD_of hd
  rw [q_SynIn d t g hs]
  have hrr := iSynIn_eq d t g
  obtain ⟨r, hr⟩ : ∃ r, i_SynIn.f (d, t, g, ()) = r := ⟨_, rfl⟩
  rw [hr] at hrr
  simp only [hr]
  clear hr
  obtain ⟨r1, r2⟩ := r
  simp only [SameDoor_self, sameSegments_self, iSameDoor_self, q_DoorOk d hs, q_TupleOk, q_SegmentOk, q_FindHalf, q_FindConn, q_SeqAdd, beq_self_eq_true, Bool.not_true, cond_false]
  cases hdo : i_DoorOk.f (d, ()) with
  | false => rw [hdo] at hrr; cases hrr; simp [PX, SameDoor_self]
  | true =>
  cases hto : i_TupleOk.f (t, ()) with
  | false => rw [hdo, hto] at hrr; cases hrr; simp [PX, SameDoor_self]
  | true =>
  cases hgo : i_SegmentOk.f (g, ()) with
  | false => rw [hdo, hto, hgo] at hrr; cases hrr; simp [PX, SameDoor_self]
  | true =>
  rw [hdo, hto, hgo] at hrr
  simp only [PX, Bool.and_self, Bool.not_true, cond_true, cond_false] at hrr ⊢
  cases hfh : decide (0 ≤ i_FindHalf.f (d.halves, t, ())) with
  | true =>
    rw [hfh] at hrr
    simp only [PX, cond_true] at hrr ⊢
    revert hrr
    cases ((d.halves.getD (i_FindHalf.f (d.halves, t, ())).toNat (Ty.zero .half)).irs != g.seq) <;> intro hrr <;> cases hrr <;> simp [PX, SameDoor_self]
  | false =>
  rw [hfh] at hrr
  simp only [PX, cond_false] at hrr ⊢
  cases hfc : decide (i_FindConn.f (d.table, t, ()) < 0) with
  | false =>
    rw [hfc] at hrr
    cases hrr
    simp only [decide_eq_false_iff_not] at hfc
    simp only [decide_eq_true (show 0 ≤ i_FindConn.f (d.table, t, ()) by omega)]
    cases ((d.halves.length : Int) == d.limits.halves) <;> simp [PX, SameDoor_self]
  | true =>
  rw [hfc] at hrr
  simp only [cond_true] at hrr
  simp only [decide_eq_true_eq] at hfc
  simp only [decide_eq_false_iff_not] at hfh
  have hp := DoorOk_parts d hdo
  have h64 := Limits_halves d hp.2.1
  simp only [decide_eq_false (show ¬ 0 ≤ i_FindConn.f (d.table, t, ()) by omega)]
  cases hlm : ((d.halves.length : Int) == d.limits.halves) with
  | true =>
    simp only [beq_iff_eq] at hlm
    have e : (i_PutHalf.f (d.halves, (⟨t, (i_SynAck.f (d, t, g, ())).seq, g.seq, i_KeptOptions.f (g.opts, ()), 0, g.window⟩ : Half), d.limits.halves, ())).1 = d.halves := by
      simp only [PX, i_PutHalf, g_Clone_Half, decide_eq_true (show d.limits.halves ≤ (d.halves.length : Int) by omega), cond_true]
    rw [e] at hrr
    cases hrr
    simp [PX, SameDoor_self]
  | false =>
    have hne : (d.halves.length : Int) ≠ d.limits.halves := by simpa using hlm
    have hlt : (d.halves.length : Int) < d.limits.halves := by have := hp.2.2.2; omega
    have hg := SegmentOk_of g hgo
    have hsq := SynAck_seq d t g
    have hack : (i_SynAck.f (d, t, g, ())).ack = i_SeqAdd.f (g.seq, 1, ()) := by simp only [PX, i_SynAck]
    obtain ⟨A, hA⟩ : ∃ A, i_SynAck.f (d, t, g, ()) = A := ⟨_, rfl⟩
    rw [hA] at hrr hsq hack
    obtain ⟨H, hH⟩ : ∃ H, (⟨t, A.seq, g.seq, i_KeptOptions.f (g.opts, ()), 0, g.window⟩ : Half) = H := ⟨_, rfl⟩
    rw [hH] at hrr
    clear hA
    have hHt : H.tuple = t := by rw [← hH]
    have hHi : H.iss = A.seq := by rw [← hH]
    have hHr : H.irs = g.seq := by rw [← hH]
    have hHok : halfOk H = true := by
      rw [← hH]
      simp only [halfOk, hto, i_WordOk_32, hg.2.1, KeptOptions_ok g.opts hg.2.2, decide_eq_true hg.1.1, decide_eq_true hg.1.2, decide_eq_true hsq.1, decide_eq_true (hsq.2 hto hp.1 hg.1)]
      rfl
    have hany : d.halves.any (fun y => eqT t y.tuple) = false := by
      rw [i_FindHalf_eq2] at hfh
      rw [← fidx_nn]; exact decide_eq_false hfh
    have hho := HalvesOk_snoc d.halves H hp.2.2.1 hHok (by rw [hHt]; exact hany) (by omega)
    have e : (i_PutHalf.f (d.halves, H, d.limits.halves, ())).1 = d.halves ++ [H] := by
      simp only [PX, i_PutHalf, g_Clone_Half, decide_eq_false (show ¬ d.limits.halves ≤ (d.halves.length : Int) by omega), cond_false, hho, Bool.not_true]
    rw [e] at hrr
    have hdk := DoorOk_put d H hdo hho hlt (by rw [hHt]; exact hfc)
    have hfi : i_FindHalf.f (d.halves ++ [H], t, ()) = (d.halves.length : Int) := by
      rw [i_FindHalf_eq2]
      exact fidx_snoc _ _ _ hany (by rw [hHt]; exact eqT_refl t)
    have hgd : (d.halves ++ [H]).getD d.halves.length (Ty.zero .half) = H := by simp [List.getD]
    cases hrr
    simp only [PX, cond_false, hfi, hdk, cond_true, beq_self_eq_true, List.length_singleton, toNat_cast, hgd, hHi, hHr, hack, List.getD_cons_zero]
    rfl

end
end Go.Proofs.YtjaniojbmkellaaGreat
