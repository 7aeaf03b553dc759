/-
  Contracts of functions and plain laws (printed by a program): each theorem says what a function of the program returns; conditions are its hypotheses.
-/
import Derived.Test.YtcjbalpokdgicaaDoorH3
set_option maxRecDepth 4000
set_option linter.unusedVariables false
set_option linter.unusedSimpArgs false
namespace Go.Proofs.YtcjbalpokdgicaaDoor
open Go Go.RowKit

def goodW (w : Bytes) : Bool := NumOk w && decide (val w 0 ≤ 255)
theorem wraps_i64 (n : Int) (h0 : 0 ≤ n) (h1 : n < 2 ^ 63) : IntKind.i64.wrap n = n := wrap64 (by omega) (by omega)
theorem or8i (a b : Int) (ha : 0 ≤ a) (ha1 : a < 16777216) (hb : 0 ≤ b) (hb1 : b < 256) : bits .or .i64 (IntKind.wrap .i64 (a * 256)) b = a * 256 + b := by
  rw [wrap64 (by omega) (by omega)]
  exact bits_join .i64 63 (by decide) wraps_i64 8 _ _ (by omega) (by omega) (by omega) (by omega) (by omega) (by omega)
theorem iAddr_step (ws : List Bytes) (j : Nat) (w : Bytes) (hj : ws[j]? = some w) (a : Int) : i_Address_L0_f (ws.length : Int) ws (j : Int) a = bif goodW w && decide (ws.length = 4) then .next (bits .or .i64 (IntKind.wrap .i64 (a * 256)) ((val w 0 : Nat) : Int)) else .out a := by
  unfold i_Address_L0_f goodW
  simp only [letK_eq, toNat_cast, getD_some hj, ← q_Number, sNumber_eq]
  cases hn : NumOk w with
  | false => rfl
  | true =>
    simp only [cond_true, Bool.not_true, cond_false, Bool.true_and]
    by_cases h1 : val w 0 ≤ 255
    · rw [show decide (255 < ((val w 0 : Nat) : Int)) = false by simp; omega, decide_eq_true h1]
      by_cases h2 : ws.length = 4
      · rw [show ((ws.length : Int) != 4) = false by simp; omega, decide_eq_true h2]; rfl
      · rw [show ((ws.length : Int) != 4) = true by simp; omega, decide_eq_false h2]; rfl
    · rw [show decide (255 < ((val w 0 : Nat) : Int)) = true by simp; omega, decide_eq_false h1]; rfl
theorem addr_bad {F : Nat → Bytes → Int → Stp Int Int} {p : Bytes → Bool} (hF : ∀ j w a, p w = false → F j w a = .out a) (hN : ∀ j w a, p w = true → ∃ a', F j w a = .next a') : ∀ (ws : List Bytes) (j : Nat) (a : Int), ws.all p = false → ∃ w, listN F j ws a = .out w
  | [], _, _, h => by cases h
  | x :: r, j, a, h => by
    cases hx : p x with
    | false => exact ⟨a, by simp only [listN, hF j x a hx, Stp.elim]⟩
    | true =>
      obtain ⟨a', ha⟩ := hN j x a hx
      obtain ⟨w, hw⟩ := addr_bad hF hN r (j + 1) a' (by simpa [hx] using h)
      exact ⟨w, by simp only [listN, ha, Stp.elim, hw]⟩
def num4 (a b c d : Nat) : Nat := ((a * 256 + b) * 256 + c) * 256 + d
theorem iAddress_eq (s : Bytes) (hs : s.length ≤ 4294967296) : (∃ a b c d, cut 46 s [] = [a, b, c, d] ∧ goodW a = true ∧ goodW b = true ∧ goodW c = true ∧ goodW d = true ∧ i_Address s = (((num4 (val a 0) (val b 0) (val c 0) (val d 0) : Nat) : Int), true)) ∨ (¬ ((cut 46 s []).length = 4 ∧ (cut 46 s []).all goodW = true) ∧ i_Address s = (0, false)) := by
  have hp := iParts_eq s 46 hs
  rw [show (((46 : UInt8).toNat : Nat) : Int) = 46 from rfl] at hp
  unfold i_Address
  rw [letK_eq, hp]
  generalize hw : cut 46 s [] = ws
  have hne : ws ≠ [] := by rw [← hw]; exact cut_ne _ _ _
  rw [toNat_sub0, forN_list ws _ rfl (F := fun _ w a => bif goodW w && decide (ws.length = 4) then .next (bits .or .i64 (IntKind.wrap .i64 (a * 256)) ((val w 0 : Nat) : Int)) else .out a) (fun j w a h => iAddr_step ws j w h a)]
  by_cases hg : ws.length = 4 ∧ ws.all goodW = true
  · refine .inl ?_
    match ws, hg with
    | [a, b, c, d], ⟨_, hg⟩ =>
      simp only [List.all_cons, List.all_nil, Bool.and_true, Bool.and_eq_true] at hg
      obtain ⟨ga, gb, gc, gd⟩ := hg
      refine ⟨a, b, c, d, rfl, ga, gb, gc, gd, ?_⟩
      have e : ∀ w, goodW w = true → val w 0 ≤ 255 := fun w h => by simp only [goodW, Bool.and_eq_true, decide_eq_true_eq] at h; exact h.2
      have ea := e a ga
      have eb := e b gb
      have ec := e c gc
      have ed := e d gd
      simp only [listN, ga, gb, gc, gd, List.length_cons, List.length_nil, decide_true, Bool.and_self, cond_true, Stp.elim]
      generalize val a 0 = a at *
      generalize val b 0 = b at *
      generalize val c 0 = c at *
      generalize val d 0 = d at *
      rw [or8i 0 a (by omega) (by omega) (by omega) (by omega), or8i _ b (by omega) (by omega) (by omega) (by omega), or8i _ c (by omega) (by omega) (by omega) (by omega), or8i _ d (by omega) (by omega) (by omega) (by omega)]
      unfold num4
      congr 1
      omega
  · refine .inr ⟨hg, ?_⟩
    by_cases h4 : ws.length = 4
    · obtain ⟨w, hw⟩ := addr_bad (F := fun _ w a => bif goodW w && decide (ws.length = 4) then .next (bits .or .i64 (IntKind.wrap .i64 (a * 256)) ((val w 0 : Nat) : Int)) else .out a) (p := goodW) (fun j w a h => by simp [h]) (fun j w a h => ⟨bits .or .i64 (IntKind.wrap .i64 (a * 256)) ((val w 0 : Nat) : Int), by simp only [h, decide_eq_true h4, Bool.and_self, cond_true]⟩) ws 0 0 (by
        cases ha : ws.all goodW with
        | false => rfl
        | true => exact absurd ⟨h4, ha⟩ hg)
      rw [hw]; rfl
    · obtain ⟨w, hw⟩ := addr_bad (F := fun _ w a => bif goodW w && decide (ws.length = 4) then .next (bits .or .i64 (IntKind.wrap .i64 (a * 256)) ((val w 0 : Nat) : Int)) else .out a) (p := fun _ => false) (fun j w a h => by simp [h4]) (fun j w a h => by cases h) ws 0 0 (by
        cases ws with
        | nil => exact absurd rfl hne
        | cons _ _ => rfl)
      rw [hw]; rfl
theorem NumOk_digs {w : Bytes} (h : NumOk w = true) : digs (val w 0) = w := by
  simp only [NumOk, Bool.and_eq_true, decide_eq_true_eq] at h
  exact digs_val w (by simpa using h.1.2) h.2
theorem digs_len : ∀ (k n : Nat), n < 10 ^ (k + 1) → (digs n).length ≤ k + 1
  | 0, n, h => by rw [digs_lt (by simpa using h)]; simp
  | k + 1, n, h => by
    by_cases hn : n < 10
    · rw [digs_lt hn]; simp
    · rw [digs_ge hn, List.length_append, List.length_singleton]
      have := digs_len k (n / 10) (by rw [Nat.pow_succ] at h; omega)
      omega
theorem NumOk_of {n : Nat} (h : n < 1000000000000) : NumOk (digs n) = true := by
  have h1 := digs_len 11 n (by simpa using h)
  have h2 : 1 ≤ (digs n).length := by
    cases hd : digs n with
    | nil => exact absurd hd (digs_ne n)
    | cons _ _ => simp
  simp only [NumOk, Bool.and_eq_true, decide_eq_true_eq]
  exact ⟨⟨⟨h2, by omega⟩, by simpa using digs_dig n⟩, noLead_digs n⟩
theorem goodW_digs {n : Nat} (h : n ≤ 255) : goodW (digs n) = true := by
  simp only [goodW, Bool.and_eq_true, decide_eq_true_eq, val_digs]
  exact ⟨NumOk_of (by omega), h⟩
theorem dig_ne {b : UInt8} (hb : isDig b = false) (n : Nat) : ∀ c ∈ digs n, c ≠ b := by
  intro c hc he
  subst he
  rw [digs_dig n c hc] at hb
  cases hb
theorem cut_atext (n : Nat) : cut 46 (atext n) [] = [digs (n / 16777216), digs (n / 65536 % 256), digs (n / 256 % 256), digs (n % 256)] := by
  have h : isDig 46 = false := by decide
  unfold atext
  rw [cut_at 46 _ [] _ (dig_ne h _), cut_at 46 _ [] _ (dig_ne h _), cut_at 46 _ [] _ (dig_ne h _), cut_no 46 _ [] (dig_ne h _)]
  rfl
theorem atext_good (n : Nat) (h : n ≤ 4294967295) : (cut 46 (atext n) []).length = 4 ∧ (cut 46 (atext n) []).all goodW = true := by
  rw [cut_atext]
  refine ⟨rfl, ?_⟩
  simp only [List.all_cons, List.all_nil, Bool.and_true, Bool.and_eq_true]
  exact ⟨goodW_digs (by omega), goodW_digs (by omega), goodW_digs (by omega), goodW_digs (by omega)⟩
theorem atext_ne (n : Nat) : atext n ≠ [] := by
  unfold atext
  intro h
  simp at h
theorem q_Address (s : Bytes) (hs : s.length ≤ 4294967296) : s_Address s = i_Address s := by
  have hp := sParts_eq s 46 hs
  rw [show (((46 : UInt8).toNat : Nat) : Int) = 46 from rfl] at hp
  have hout : ∀ n : Int, (bif (s == ([] : Bytes)) then ((0 : Int), false) else (bif (!(s_AddressText n == s)) then (0, false) else (n, true))) = (0, false) ∨ (∃ m : Nat, m ≤ 4294967295 ∧ n = m ∧ atext m = s) := fun n => by
    by_cases hn : 0 ≤ n ∧ n ≤ 4294967295
    · obtain ⟨m, rfl⟩ := Int.eq_ofNat_of_zero_le hn.1
      by_cases he : atext m = s
      · exact .inr ⟨m, by omega, rfl, he⟩
      · refine .inl ?_
        rw [AddressText_eq m (by omega), show (atext m == s) = false by simpa using he]
        cases s == ([] : Bytes) <;> rfl
    · refine .inl ?_
      rw [AddressText_no n hn]
      cases hs : s == ([] : Bytes) with
      | true => rfl
      | false =>
        have : (([] : Bytes) == s) = false := by
          rw [beq_eq_false_iff_ne] at hs ⊢
          exact fun h => hs h.symm
        rw [this]; rfl
  rcases iAddress_eq s hs with ⟨a, b, c, d, hc, ga, gb, gc, gd, hi⟩ | ⟨hb, hi⟩
  · rw [hi]
    unfold s_Address
    rw [letK_eq, hp, hc]
    have e : ∀ w, goodW w = true → val w 0 ≤ 255 ∧ NumOk w = true := fun w h => by simp only [goodW, Bool.and_eq_true, decide_eq_true_eq] at h; exact ⟨h.2, h.1⟩
    have na := (e a ga).2
    have nb := (e b gb).2
    have nc := (e c gc).2
    have nd := (e d gd).2
    have ea := (e a ga).1
    have eb := (e b gb).1
    have ec := (e c gc).1
    have ed := (e d gd).1
    have st : ∀ (j : Nat) (w : Bytes) (x : Nat), j < 4 → [a, b, c, d][j]? = some w → NumOk w = true → val w 0 ≤ 255 → x < 16777216 → s_Address_L0_f s [a, b, c, d] (j : Int) (x : Int) = .next (((x * 256 + val w 0 : Nat)) : Int) := fun j w x hj hw hn hv hx => by
      unfold s_Address_L0_f
      rw [show decide ((j : Int) < 4) = true by simp; omega, cond_true, letK_eq, toNat_cast, getD_some hw, sNumber_eq, hn, cond_true]
      simp only []
      rw [(tmod_pos 256).1 (by omega), wrap64 (m := 256 * _) (by omega) (by omega), wrap64 (by omega) (by omega)]
      congr 1
      omega
    have lp : forN (s_Address_L0_f s [a, b, c, d]) 1 (Int.toNat ((([a, b, c, d] : List Bytes).length : Int) - 0)) 0 0 = .next ((num4 (val a 0) (val b 0) (val c 0) (val d 0) : Nat) : Int) := by
      have s0 := st 0 a 0 (by omega) rfl na ea (by omega)
      have s1 := st 1 b (0 * 256 + val a 0) (by omega) rfl nb eb (by omega)
      have s2 := st 2 c ((0 * 256 + val a 0) * 256 + val b 0) (by omega) rfl nc ec (by omega)
      have s3 := st 3 d (((0 * 256 + val a 0) * 256 + val b 0) * 256 + val c 0) (by omega) rfl nd ed (by omega)
      rw [toNat_sub0]
      rw [show ([a, b, c, d] : List Bytes).length = 4 from rfl]
      simp only [forN]
      rw [show (0 : Int) = ((0 : Nat) : Int) from rfl, s0]
      simp only [Stp.elim]
      rw [show ((0 : Nat) : Int) + 1 = ((1 : Nat) : Int) from rfl, s1]
      simp only [Stp.elim]
      rw [show ((1 : Nat) : Int) + 1 = ((2 : Nat) : Int) from rfl, s2]
      simp only [Stp.elim]
      rw [show ((2 : Nat) : Int) + 1 = ((3 : Nat) : Int) from rfl, s3]
      simp only [Stp.elim]
      unfold num4
      rw [Nat.zero_mul, Nat.zero_add]
    rw [lp]
    have hj := join_cut 46 s []
    rw [hc, List.nil_append] at hj
    have ht : atext (num4 (val a 0) (val b 0) (val c 0) (val d 0)) = s := by
      rw [← hj]
      have n1 : num4 (val a 0) (val b 0) (val c 0) (val d 0) / 16777216 = val a 0 := by unfold num4; omega
      have n2 : num4 (val a 0) (val b 0) (val c 0) (val d 0) / 65536 % 256 = val b 0 := by unfold num4; omega
      have n3 : num4 (val a 0) (val b 0) (val c 0) (val d 0) / 256 % 256 = val c 0 := by unfold num4; omega
      have n4 : num4 (val a 0) (val b 0) (val c 0) (val d 0) % 256 = val d 0 := by unfold num4; omega
      unfold atext
      rw [n1, n2, n3, n4, NumOk_digs na, NumOk_digs nb, NumOk_digs nc, NumOk_digs nd]
      rfl
    simp only [Stp.elim, letK_eq]
    rw [AddressText_eq _ (by unfold num4; omega), ht, show (s == ([] : Bytes)) = false by rw [beq_eq_false_iff_ne, ← ht]; exact atext_ne _, beq_self_eq_true]
    rfl
  · rw [hi]
    unfold s_Address
    rw [letK_eq, hp]
    have fin : ∀ n : Int, (bif (s == ([] : Bytes)) then ((0 : Int), false) else letK (α := Bytes) (s_AddressText n) fun c => bif (!(c == s)) then (0, false) else (n, true)) = (0, false) := fun n => by
      simp only [letK_eq]
      rcases hout n with h | ⟨m, hm, rfl, he⟩
      · exact h
      · exfalso
        have := atext_good m hm
        rw [he] at this
        exact hb this
    cases forN (s_Address_L0_f s (cut 46 s [])) 1 (Int.toNat (((cut 46 s []).length : Int) - 0)) 0 0 with
    | next a => exact fin a
    | out a => exact fin a

theorem WordOk16 (n : Int) : i_WordOk n 16 = (decide (0 ≤ n) && decide (n ≤ 65535)) := by
  rw [i_WordOk_eq, i_within_eq, i_within_eq]
  rfl
theorem WordOk32b (n : Int) : i_WordOk n 32 = (decide (0 ≤ n) && decide (n ≤ 4294967295)) := by
  rw [i_WordOk_eq, i_within_eq, i_within_eq]
  rfl
theorem TupleOk_eq (t : Tupl) : i_TupleOk t = ((decide (0 ≤ t.ip) && decide (t.ip ≤ 4294967295)) && ((decide (0 ≤ t.port) && decide (t.port ≤ 65535)) && (decide (0 ≤ t.my) && decide (t.my ≤ 65535)))) := by
  unfold i_TupleOk
  simp only [letK_eq, WordOk16, WordOk32b]
  cases (decide (0 ≤ t.ip) && decide (t.ip ≤ 4294967295)) <;> cases (decide (0 ≤ t.port) && decide (t.port ≤ 65535)) <;> rfl
def ttext (a b c : Nat) : Bytes := atext a ++ 58 :: (digs b ++ 58 :: digs c)
theorem TupleText_ok (a b c : Nat) (ha : a ≤ 4294967295) (hb : b ≤ 65535) (hc : c ≤ 65535) : s_TupleText ⟨a, b, c⟩ = ttext a b c := by
  unfold s_TupleText
  rw [q_TupleOk, TupleOk_eq]
  simp only [letK_eq, decide_eq_true (show (0 : Int) ≤ a by omega), decide_eq_true (show (a : Int) ≤ 4294967295 by omega), decide_eq_true (show (0 : Int) ≤ b by omega), decide_eq_true (show (b : Int) ≤ 65535 by omega), decide_eq_true (show (0 : Int) ≤ c by omega), decide_eq_true (show (c : Int) ≤ 65535 by omega), Bool.and_self, Bool.not_true, cond_false]
  rw [AddressText_eq a ha, Digits_eq b (by omega), Digits_eq c (by omega)]
  unfold ttext
  simp only [List.append_assoc, List.cons_append, List.nil_append]
theorem TupleText_no (t : Tupl) (h : i_TupleOk t = false) : s_TupleText t = [] := by
  unfold s_TupleText
  rw [q_TupleOk]
  simp only [letK_eq, h, Bool.not_false, cond_true]
theorem atext_no58 (n : Nat) : ∀ c ∈ atext n, c ≠ 58 := by
  have h : isDig 58 = false := by decide
  unfold atext
  intro c hc
  simp only [List.mem_append, List.mem_cons] at hc
  rcases hc with hc | rfl | hc | rfl | hc | rfl | hc
  · exact dig_ne h _ c hc
  · decide
  · exact dig_ne h _ c hc
  · decide
  · exact dig_ne h _ c hc
  · decide
  · exact dig_ne h _ c hc
theorem cut_ttext (a b c : Nat) : cut 58 (ttext a b c) [] = [atext a, digs b, digs c] := by
  have h : isDig 58 = false := by decide
  unfold ttext
  rw [cut_at 58 _ [] _ (atext_no58 a), cut_at 58 _ [] _ (dig_ne h _), cut_no 58 _ [] (dig_ne h _)]
  rfl
theorem digs_len12 (n : Nat) (h : n ≤ 255) : (digs n).length ≤ 3 := digs_len 2 n (by omega)
theorem atext_len (n : Nat) (h : n ≤ 4294967295) : (atext n).length ≤ 15 := by
  unfold atext
  have h1 := digs_len12 (n / 16777216) (by omega)
  have h2 := digs_len12 (n / 65536 % 256) (by omega)
  have h3 := digs_len12 (n / 256 % 256) (by omega)
  have h4 := digs_len12 (n % 256) (by omega)
  simp only [List.length_append, List.length_cons]
  omega
/-- what reading an address says -/
theorem Address_say (p : Bytes) (hp : p.length ≤ 4294967296) : (∃ n : Nat, n ≤ 4294967295 ∧ i_Address p = ((n : Int), true) ∧ atext n = p) ∨ (i_Address p = (0, false) ∧ ∀ n, n ≤ 4294967295 → atext n ≠ p) := by
  rcases iAddress_eq p hp with ⟨a, b, c, d, hc, ga, gb, gc, gd, hi⟩ | ⟨hb, hi⟩
  · have e : ∀ w, goodW w = true → val w 0 ≤ 255 ∧ NumOk w = true := fun w h => by simp only [goodW, Bool.and_eq_true, decide_eq_true_eq] at h; exact ⟨h.2, h.1⟩
    have ea := (e a ga).1
    have eb := (e b gb).1
    have ec := (e c gc).1
    have ed := (e d gd).1
    refine .inl ⟨_, ?_, hi, ?_⟩
    · unfold num4; omega
    · have hj := join_cut 46 p []
      rw [hc, List.nil_append] at hj
      rw [← hj]
      have n1 : num4 (val a 0) (val b 0) (val c 0) (val d 0) / 16777216 = val a 0 := by unfold num4; omega
      have n2 : num4 (val a 0) (val b 0) (val c 0) (val d 0) / 65536 % 256 = val b 0 := by unfold num4; omega
      have n3 : num4 (val a 0) (val b 0) (val c 0) (val d 0) / 256 % 256 = val c 0 := by unfold num4; omega
      have n4 : num4 (val a 0) (val b 0) (val c 0) (val d 0) % 256 = val d 0 := by unfold num4; omega
      unfold atext
      rw [n1, n2, n3, n4, NumOk_digs (e a ga).2, NumOk_digs (e b gb).2, NumOk_digs (e c gc).2, NumOk_digs (e d gd).2]
      rfl
  · refine .inr ⟨hi, fun n hn he => hb ?_⟩
    rw [← he]
    exact atext_good n hn
theorem Number_say (p : Bytes) : (∃ n : Nat, i_Number p = ((n : Int), true) ∧ digs n = p) ∨ (i_Number p = (0, false) ∧ ∀ n, n ≤ 65535 → digs n ≠ p) := by
  rw [← q_Number, sNumber_eq]
  cases h : NumOk p with
  | true => exact .inl ⟨val p 0, rfl, NumOk_digs h⟩
  | false =>
    refine .inr ⟨rfl, fun n hn he => ?_⟩
    have := NumOk_of (n := n) (by omega)
    rw [he, h] at this
    cases this
theorem q_ReadTuple (s : Bytes) (hs : s.length ≤ 4294967296) : s_ReadTuple s = i_ReadTuple s := by
  have hp := sParts_eq s 58 hs
  have hq := iParts_eq s 58 hs
  rw [show (((58 : UInt8).toNat : Nat) : Int) = 58 from rfl] at hp hq
  have hl := cut_len 58 s []
  have hj := join_cut 58 s []
  rw [List.nil_append] at hj
  unfold s_ReadTuple i_ReadTuple
  rw [letK_eq, letK_eq, hp, hq]
  have hc := fun a b c (h : ttext a b c = s) => (congrArg (fun x => cut 58 x []) h).symm.trans (cut_ttext a b c)
  have hnil : s = [] → cut 58 s [] = [[]] := fun h => by rw [h]; rfl
  generalize cut 58 s [] = ws at *
  by_cases h3 : ws.length = 3
  · match ws, h3 with
    | [p0, p1, p2], _ =>
      simp only [show (((([p0, p1, p2] : List Bytes).length : Nat) : Int) != 3) = false from rfl, cond_false, letK_eq, List.getD_cons_zero, List.getD_cons_succ, q_Number]
      have l0 : p0.length ≤ 4294967296 := by have := hl p0 (by simp); simp at this; omega
      rw [q_Address p0 l0]
      have hss : s = p0 ++ 58 :: (p1 ++ 58 :: p2) := hj.symm
      rcases Address_say p0 l0 with ⟨a, ha, e0, t0⟩ | ⟨e0, t0⟩
      · rcases Number_say p1 with ⟨b, e1, t1⟩ | ⟨e1, t1⟩
        · rcases Number_say p2 with ⟨c, e2, t2⟩ | ⟨e2, t2⟩
          · rw [e0, e1, e2]
            simp only [Bool.not_true, cond_false]
            cases ht : i_TupleOk ⟨a, b, c⟩ with
            | false =>
              rw [TupleText_no _ ht]
              have : (([] : Bytes) == s) = false := by
                rw [beq_eq_false_iff_ne, hss]
                intro h
                simp at h
              simp only [this, Bool.not_false, cond_true]
            | true =>
              have ht' := ht
              rw [TupleOk_eq] at ht'
              simp only [Bool.and_eq_true, decide_eq_true_eq] at ht'
              rw [TupleText_ok a b c (by omega) (by omega) (by omega)]
              have : ttext a b c = s := by unfold ttext; rw [t0, t1, t2, hss]
              simp only [this, beq_self_eq_true, Bool.not_true, cond_false]
          · rw [e0, e1, e2]
            have key : (s_TupleText ⟨a, b, 0⟩ == s) = false := by
              rw [beq_eq_false_iff_ne]
              intro he
              cases ht : i_TupleOk ⟨a, b, 0⟩ with
              | false => rw [TupleText_no _ ht] at he; have := hnil he.symm; simp at this
              | true =>
                rw [TupleOk_eq] at ht
                simp only [Bool.and_eq_true, decide_eq_true_eq] at ht
                rw [show (0 : Int) = ((0 : Nat) : Int) from rfl, TupleText_ok a b 0 (by omega) (by omega) (by omega)] at he
                have := hc a b 0 he
                simp only [List.cons.injEq] at this
                exact t2 0 (by omega) this.2.2.1.symm
            simp only [key, Bool.not_true, Bool.not_false, cond_false, cond_true]
        · rw [e0, e1]
          have key : ∀ c : Int, (s_TupleText ⟨a, 0, c⟩ == s) = false := fun c => by
            rw [beq_eq_false_iff_ne]
            intro he
            cases ht : i_TupleOk ⟨a, 0, c⟩ with
            | false => rw [TupleText_no _ ht] at he; have := hnil he.symm; simp at this
            | true =>
              rw [TupleOk_eq] at ht
              simp only [Bool.and_eq_true, decide_eq_true_eq] at ht
              obtain ⟨c, rfl⟩ := Int.eq_ofNat_of_zero_le ht.2.2.1
              rw [show (0 : Int) = ((0 : Nat) : Int) from rfl, TupleText_ok a 0 c (by omega) (by omega) (by omega)] at he
              have := hc a 0 c he
              simp only [List.cons.injEq] at this
              exact t1 0 (by omega) this.2.1.symm
          simp only [key, Bool.not_true, Bool.not_false, cond_false, cond_true]
      · rw [e0]
        have key : ∀ b c : Int, (s_TupleText ⟨0, b, c⟩ == s) = false := fun b c => by
          rw [beq_eq_false_iff_ne]
          intro he
          cases ht : i_TupleOk ⟨0, b, c⟩ with
          | false => rw [TupleText_no _ ht] at he; have := hnil he.symm; simp at this
          | true =>
            rw [TupleOk_eq] at ht
            simp only [Bool.and_eq_true, decide_eq_true_eq] at ht
            obtain ⟨b, rfl⟩ := Int.eq_ofNat_of_zero_le ht.2.1.1
            obtain ⟨c, rfl⟩ := Int.eq_ofNat_of_zero_le ht.2.2.1
            rw [show (0 : Int) = ((0 : Nat) : Int) from rfl, TupleText_ok 0 b c (by omega) (by omega) (by omega)] at he
            have := hc 0 b c he
            simp only [List.cons.injEq] at this
            exact t0 0 (by omega) this.1.symm
        simp only [key, Bool.not_false, cond_true]
  · simp only [letK_eq, show ((ws.length : Int) != 3) = true by simp; omega, cond_true]

theorem decDigits_eq (n : Nat) : Lib.decDigits n = digs n := by
  induction n using Nat.strongRecOn with
  | _ n ih =>
    rw [Lib.decDigits]
    by_cases h : n < 10
    · rw [digs_lt h, dif_pos h]
    · rw [digs_ge h, dif_neg h, ih (n / 10) (by omega)]
theorem iDigits_eq (n : Nat) : i_Digits (n : Int) = digs n := by
  unfold i_Digits lb_Itoa Lib.itoa
  rw [letK_eq, if_neg (by omega), Int.toNat_natCast, decDigits_eq]
theorem iJoined_eq (l : List Bytes) (b : UInt8) : i_Joined l [b] = joinI b l := by
  unfold i_Joined lb_Join
  rw [letK_eq]
  cases l with
  | nil => rfl
  | cons x r =>
    rw [Lib.join_cons]
    induction r generalizing x with
    | nil => simp [joinI, Lib.joinTail]
    | cons y r ih =>
      rw [joinI_cons b x _ (by simp), ← ih y]
      simp [Lib.joinTail]
theorem iAddressText_eq (n : Nat) (h : n ≤ 4294967295) : i_AddressText (n : Int) = atext n := by
  unfold i_AddressText
  have m8 : ∀ m : Nat, m < 1099511627776 → bits .and .i64 (m : Int) 255 = ((m % 256 : Nat) : Int) := fun m hm => by
    have := bits_mask .i64 63 (by decide) wraps_i64 8 (by decide) (m : Int) (by omega) (by omega)
    rw [show ((255 : Int)) = 2 ^ 8 - 1 by decide, this]
    omega
  rw [WordOk32b]
  simp only [letK_eq, decide_eq_true (show (0 : Int) ≤ n by omega), decide_eq_true (show (n : Int) ≤ 4294967295 by omega), Bool.and_self, Bool.not_true, cond_false]
  rw [show (n : Int).fdiv 16777216 = ((n / 16777216 : Nat) : Int) by rw [Int.fdiv_eq_ediv_of_nonneg _ (by omega)]; omega,
    show (n : Int).fdiv 65536 = ((n / 65536 : Nat) : Int) by rw [Int.fdiv_eq_ediv_of_nonneg _ (by omega)]; omega,
    show (n : Int).fdiv 256 = ((n / 256 : Nat) : Int) by rw [Int.fdiv_eq_ediv_of_nonneg _ (by omega)]; omega,
    m8 _ (by omega), m8 _ (by omega), m8 _ (by omega), iDigits_eq, iDigits_eq, iDigits_eq, iDigits_eq, iJoined_eq]
  rfl
theorem TupleOk_nat {t : Tupl} (h : i_TupleOk t = true) : ∃ a b c : Nat, t = ⟨a, b, c⟩ ∧ a ≤ 4294967295 ∧ b ≤ 65535 ∧ c ≤ 65535 := by
  obtain ⟨a, b, c⟩ := t
  rw [TupleOk_eq] at h
  simp only [Bool.and_eq_true, decide_eq_true_eq] at h
  obtain ⟨a, rfl⟩ := Int.eq_ofNat_of_zero_le h.1.1
  obtain ⟨b, rfl⟩ := Int.eq_ofNat_of_zero_le h.2.1.1
  obtain ⟨c, rfl⟩ := Int.eq_ofNat_of_zero_le h.2.2.1
  exact ⟨a, b, c, rfl, by omega, by omega, by omega⟩
theorem iTupleText_ok (a b c : Nat) (ha : a ≤ 4294967295) (hb : b ≤ 65535) (hc : c ≤ 65535) : i_TupleText ⟨a, b, c⟩ = ttext a b c := by
  unfold i_TupleText
  rw [TupleOk_eq]
  simp only [letK_eq, decide_eq_true (show (0 : Int) ≤ a by omega), decide_eq_true (show (a : Int) ≤ 4294967295 by omega), decide_eq_true (show (0 : Int) ≤ b by omega), decide_eq_true (show (b : Int) ≤ 65535 by omega), decide_eq_true (show (0 : Int) ≤ c by omega), decide_eq_true (show (c : Int) ≤ 65535 by omega), Bool.and_self, Bool.not_true, cond_false]
  rw [iAddressText_eq a ha, iDigits_eq b, iDigits_eq c]
  unfold ttext
  simp only [List.append_assoc, List.cons_append, List.nil_append]
theorem q_TupleText (t : Tupl) : s_TupleText t = i_TupleText t := by
  cases h : i_TupleOk t with
  | true =>
    obtain ⟨a, b, c, rfl, ha, hb, hc⟩ := TupleOk_nat h
    rw [TupleText_ok a b c ha hb hc, iTupleText_ok a b c ha hb hc]
  | false =>
    rw [TupleText_no t h]
    unfold i_TupleText
    simp only [letK_eq, h, Bool.not_false, cond_true]

theorem eqAct_refl (x : Acti) : w_eqAct x x = true := by simp [w_eqAct, letK, eqTuple_refl, eqMac_refl]

theorem q_ActWord (k : Int) : s_ActWord k = i_ActWord k := by
  unfold s_ActWord i_ActWord
  rw [s_l1In_eq, i_within_eq]
theorem ActOk_nice0 (kd : Int) (t : Tupl) (n : Int) (tx : Bytes) (mac : Mac) : i_ActOk ⟨kd, t, n, tx, mac⟩ = ((decide (1 ≤ kd) && decide (kd ≤ 8)) && (decide ((tx.length : Int) ≤ 1600) && (i_MacOk mac && ((decide (0 ≤ n) && decide (n ≤ 65535)) && (((tx == []) || ((kd == 1) || (kd == 5))) && (((kd == 3) || i_SameMac mac ⟨false, 0, 0, []⟩) &&
    ((bif decide (5 ≤ kd) then i_TupleOk t else ((t.ip == 0) && ((t.port == 0) && (t.my == 0)))) && ((n == 0) || (kd == 6))))))))) := by
  have hs : i_SameMac mac ⟨false, 0, 0, []⟩ = true → i_MacOk mac = true := fun h => by rw [SameMac_none mac h]; rfl
  have hx : (tx == []) = true → decide ((tx.length : Int) ≤ 1600) = true := fun h => by
    have : tx = [] := by simpa using h
    subst this; rfl
  have hn : (n == 0) = true → (decide (0 ≤ n) && decide (n ≤ 65535)) = true := fun h => by
    have : n = 0 := by simpa using h
    subst this; rfl
  have hl : decide (1600 < (tx.length : Int)) = !decide ((tx.length : Int) ≤ 1600) := by
    rcases Int.lt_or_le 1600 (tx.length : Int) with h | h
    · simp [h, show ¬ ((tx.length : Int) ≤ 1600) by omega]
    · simp [h, show ¬ (1600 < (tx.length : Int)) by omega]
  have hb : (n != 0) = !(n == 0) := rfl
  unfold i_ActOk
  simp only [letK, i_within_eq, hl, hb, Bool.and_true]
  have hk : kd = 1 ∨ kd = 2 ∨ kd = 3 ∨ kd = 4 ∨ kd = 5 ∨ kd = 6 ∨ kd = 7 ∨ kd = 8 ∨ (decide (1 ≤ kd) && decide (kd ≤ 8)) = false := by
    simp only [Bool.and_eq_false_iff, decide_eq_false_iff_not]; omega
  clear hl hb
  generalize i_SameMac mac ⟨false, 0, 0, []⟩ = S at *
  generalize i_MacOk mac = M at *
  generalize i_TupleOk t = T at *
  generalize ((t.ip == 0) && ((t.port == 0) && (t.my == 0))) = Z at *
  generalize (tx == []) = X at *
  generalize decide ((tx.length : Int) ≤ 1600) = L at *
  generalize (decide (0 ≤ n) && decide (n ≤ 65535)) = NN at *
  generalize (n == 0) = N0 at *
  clear tx n t mac
  rcases hk with rfl | rfl | rfl | rfl | rfl | rfl | rfl | rfl | hk
  iterate 8 (revert S M T Z X L NN N0; decide +kernel)
  simp [hk]
theorem ActOk_nice (x : Acti) : i_ActOk x = ((decide (1 ≤ x.kind) && decide (x.kind ≤ 8)) && (decide ((x.text.length : Int) ≤ 1600) && (i_MacOk x.mac && ((decide (0 ≤ x.n) && decide (x.n ≤ 65535)) && (((x.text == []) || ((x.kind == 1) || (x.kind == 5))) && (((x.kind == 3) || i_SameMac x.mac ⟨false, 0, 0, []⟩) &&
    ((bif decide (5 ≤ x.kind) then i_TupleOk x.tuple else ((x.tuple.ip == 0) && ((x.tuple.port == 0) && (x.tuple.my == 0)))) && ((x.n == 0) || (x.kind == 6))))))))) := ActOk_nice0 x.kind x.tuple x.n x.text x.mac
theorem MacOk_no (m : Mac) (h : i_MacOk m = true) (hu : m.use = false) : m.rows = [] := by
  unfold i_MacOk at h
  rw [hu] at h
  simpa using h
/-- what a valid act is -/
theorem ActOk_say (x : Acti) (h : i_ActOk x = true) : (1 ≤ x.kind ∧ x.kind ≤ 8) ∧ x.text.length ≤ 1600 ∧ i_MacOk x.mac = true ∧ (∃ n : Nat, x.n = (n : Int) ∧ n ≤ 65535) ∧ (x.kind ≠ 1 → x.kind ≠ 5 → x.text = []) ∧ (x.kind ≠ 3 → x.mac = ⟨false, 0, 0, []⟩) ∧
    (5 ≤ x.kind → i_TupleOk x.tuple = true) ∧ (x.kind < 5 → x.tuple = ⟨0, 0, 0⟩) ∧ (x.kind ≠ 6 → x.n = 0) := by
  rw [ActOk_nice] at h
  simp only [Bool.and_eq_true, decide_eq_true_eq, Bool.or_eq_true, beq_iff_eq] at h
  obtain ⟨h1, h2, h3, h4, h5, h6, h7, h8⟩ := h
  obtain ⟨n, hn⟩ := Int.eq_ofNat_of_zero_le h4.1
  refine ⟨h1, by omega, h3, ⟨n, hn, by omega⟩, fun a b => ?_, fun a => ?_, fun a => ?_, fun a => ?_, fun a => ?_⟩
  · rcases h5 with h | h | h
    · exact h
    · exact absurd h a
    · exact absurd h b
  · rcases h6 with h | h
    · exact absurd h a
    · exact SameMac_none _ h
  · rw [decide_eq_true a] at h7; exact h7
  · rw [decide_eq_false (by omega)] at h7
    simp only [cond_false, Bool.and_eq_true, beq_iff_eq] at h7
    have : ∀ t : Tupl, t.ip = 0 ∧ t.port = 0 ∧ t.my = 0 → t = ⟨0, 0, 0⟩ := by rintro ⟨a, b, c⟩ ⟨rfl, rfl, rfl⟩; rfl
    exact this _ h7
  · rcases h8 with h | h
    · exact h
    · exact absurd h a
def htext (t : Bytes) : Bytes := bif (t == []) then [45] else hexs t
theorem sText_eq (t : Bytes) : s_l33Bytes t = htext t := by unfold s_l33Bytes htext; rw [letK_eq, sHex_eq]
theorem iText_eq (t : Bytes) : i_hexOr t = htext t := by unfold i_hexOr htext; rw [letK_eq, iHex_eq]
/-- the words of an act's line -/
def awords (x : Acti) : List Bytes :=
  bif x.kind == 1 then [i_ActWord x.kind, htext x.text] else
  bif x.kind == 3 then [i_ActWord x.kind, hexs (be8 x.mac.k.toNat), hexs (be8 x.mac.l.toNat)] else
  bif x.kind == 5 then [i_ActWord x.kind, i_TupleText x.tuple, htext x.text] else
  bif x.kind == 6 then [i_ActWord x.kind, i_TupleText x.tuple, digs x.n.toNat] else
  bif decide (5 ≤ x.kind) then [i_ActWord x.kind, i_TupleText x.tuple] else [i_ActWord x.kind]
def okA (x : Acti) : Bool := i_ActOk x && !x.mac.use
def aline (x : Acti) : Bytes := bif okA x then joinI 32 (awords x) else []
def KeyR (x : Acti) : Prop := (0 ≤ x.mac.k ∧ x.mac.k < 18446744073709551616) ∧ (0 ≤ x.mac.l ∧ x.mac.l < 18446744073709551616)
theorem kind_cases {k : Int} (h : 1 ≤ k ∧ k ≤ 8) : k = 1 ∨ k = 2 ∨ k = 3 ∨ k = 4 ∨ k = 5 ∨ k = 6 ∨ k = 7 ∨ k = 8 := by omega
theorem joinI2 (a b : Bytes) : joinI 32 [a, b] = a ++ 32 :: b := rfl
theorem joinI3 (a b c : Bytes) : joinI 32 [a, b, c] = a ++ 32 :: (b ++ 32 :: c) := rfl
theorem joinI1 (a : Bytes) : joinI 32 [a] = a := rfl
theorem sActLine_eq (x : Acti) (hk : KeyR x) : s_ActLine x = aline x := by
  unfold s_ActLine aline okA
  rw [q_ActOk]
  simp only [letK_eq]
  cases ho : i_ActOk x with
  | false => rfl
  | true =>
    cases hu : x.mac.use with
    | true => rfl
    | false =>
      obtain ⟨h1, _, _, ⟨m, hm, hm2⟩, _⟩ := ActOk_say x ho
      obtain ⟨kd, t, n, tx, mac⟩ := x
      obtain ⟨⟨hk1, hk2⟩, hk3, hk4⟩ := hk
      simp only at hm h1 hk1 hk2 hk3 hk4
      obtain ⟨k', hk'⟩ := Int.eq_ofNat_of_zero_le hk1
      obtain ⟨l', hl'⟩ := Int.eq_ofNat_of_zero_le hk3
      have e1 := sKey_eq k' (by omega)
      have e2 := sKey_eq l' (by omega)
      rw [← hk'] at e1
      rw [← hl'] at e2
      have e3 := Digits_eq m (by omega)
      have f1 : mac.k.toNat = k' := by omega
      have f2 : mac.l.toNat = l' := by omega
      subst hm
      rcases kind_cases h1 with rfl | rfl | rfl | rfl | rfl | rfl | rfl | rfl <;>
        simp [awords, joinI1, joinI2, joinI3, q_ActWord, q_TupleText, sText_eq, e1, e2, e3, f1, f2]
theorem iActLine_eq (x : Acti) (hk : KeyR x) : i_ActLine x = aline x := by
  unfold i_ActLine aline okA
  simp only [letK_eq]
  cases ho : i_ActOk x with
  | false => rfl
  | true =>
    cases hu : x.mac.use with
    | true => rfl
    | false =>
      obtain ⟨h1, _, _, ⟨m, hm, hm2⟩, _⟩ := ActOk_say x ho
      obtain ⟨kd, t, n, tx, mac⟩ := x
      obtain ⟨⟨hk1, hk2⟩, hk3, hk4⟩ := hk
      simp only at hm h1 hk1 hk2 hk3 hk4
      obtain ⟨k', hk'⟩ := Int.eq_ofNat_of_zero_le hk1
      obtain ⟨l', hl'⟩ := Int.eq_ofNat_of_zero_le hk3
      have e1 := iKey_eq k' (by omega)
      have e2 := iKey_eq l' (by omega)
      rw [← hk'] at e1
      rw [← hl'] at e2
      have e3 := iDigits_eq m
      have f1 : mac.k.toNat = k' := by omega
      have f2 : mac.l.toNat = l' := by omega
      subst hm
      rcases kind_cases h1 with rfl | rfl | rfl | rfl | rfl | rfl | rfl | rfl <;>
        simp [awords, joinI1, joinI2, joinI3, iText_eq, e1, e2, e3, f1, f2]
theorem q_ActLine (x : Acti) (hk : KeyR x) : s_ActLine x = i_ActLine x := by rw [sActLine_eq x hk, iActLine_eq x hk]

theorem ttext_len (a b c : Nat) (ha : a ≤ 4294967295) (hb : b ≤ 65535) (hc : c ≤ 65535) : (ttext a b c).length ≤ 27 := by
  have h1 := atext_len a ha
  have h2 := digs_len 4 b (by omega)
  have h3 := digs_len 4 c (by omega)
  unfold ttext
  simp only [List.length_append, List.length_cons]
  omega
theorem tupleText_len (t : Tupl) (h : i_TupleOk t = true) : (i_TupleText t).length ≤ 27 := by
  obtain ⟨a, b, c, rfl, ha, hb, hc⟩ := TupleOk_nat h
  rw [iTupleText_ok a b c ha hb hc]
  exact ttext_len a b c ha hb hc
/-! the words bear no blank -/
theorem hexd_ne : ∀ n : Nat, n < 16 → hexd n ≠ 32 ∧ hexd n ≠ 10 := by decide +kernel
theorem hexs_ne : ∀ t : Bytes, ∀ c ∈ hexs t, c ≠ 32 ∧ c ≠ 10
  | [], c, h => by simp [hexs] at h
  | a :: r, c, h => by
    have := a.toNat_lt
    simp only [hexs, List.mem_cons] at h
    rcases h with rfl | rfl | h
    · exact hexd_ne _ (by omega)
    · exact hexd_ne _ (by omega)
    · exact hexs_ne r c h
theorem htext_ne (t : Bytes) : ∀ c ∈ htext t, c ≠ 32 ∧ c ≠ 10 := by
  unfold htext
  cases t == [] with
  | true => intro c h; simp at h; subst h; decide
  | false => exact hexs_ne t
theorem digs_ne2 (n : Nat) : ∀ c ∈ digs n, c ≠ 32 ∧ c ≠ 10 := fun c h => ⟨dig_ne (by decide) n c h, dig_ne (by decide) n c h⟩
theorem ttext_ne (a b c : Nat) : ∀ x ∈ ttext a b c, x ≠ 32 ∧ x ≠ 10 := by
  intro x hx
  unfold ttext atext at hx
  simp only [List.mem_append, List.mem_cons] at hx
  rcases hx with (hx | rfl | hx | rfl | hx | rfl | hx) | rfl | hx | rfl | hx
  · exact digs_ne2 _ x hx
  · decide
  · exact digs_ne2 _ x hx
  · decide
  · exact digs_ne2 _ x hx
  · decide
  · exact digs_ne2 _ x hx
  · decide
  · exact digs_ne2 _ x hx
  · decide
  · exact digs_ne2 _ x hx
theorem tupleText_ne (t : Tupl) (h : i_TupleOk t = true) : ∀ x ∈ i_TupleText t, x ≠ 32 ∧ x ≠ 10 := by
  obtain ⟨a, b, c, rfl, ha, hb, hc⟩ := TupleOk_nat h
  rw [iTupleText_ok a b c ha hb hc]
  exact ttext_ne a b c
theorem word_ne {k : Int} (h : 1 ≤ k ∧ k ≤ 8) : (∀ x ∈ i_ActWord k, x ≠ 32 ∧ x ≠ 10) ∧ (i_ActWord k).length ≤ 6 ∧ i_ActWord k ≠ [] := by
  rcases kind_cases h with rfl | rfl | rfl | rfl | rfl | rfl | rfl | rfl <;> decide +kernel
theorem htext_len (t : Bytes) (h : t.length ≤ 1600) : (htext t).length ≤ 3200 := by
  unfold htext
  cases t == [] with
  | true => simp
  | false => rw [cond_false, hexs_len]; omega
theorem awords_say (x : Acti) (ho : okA x = true) : (awords x ≠ [] ∧ ∀ p ∈ awords x, ∀ c ∈ p, c ≠ 32 ∧ c ≠ 10) ∧ (joinI 32 (awords x)).length ≤ 3260 ∧ joinI 32 (awords x) ≠ [] := by
  unfold okA at ho
  simp only [Bool.and_eq_true, Bool.not_eq_true'] at ho
  obtain ⟨h1, hl, hM, ⟨m, hm, hm2⟩, h5, h6, h7, h8, h9⟩ := ActOk_say x ho.1
  obtain ⟨w1, w2, w3⟩ := word_ne h1
  have d := digs_len 4 m (by omega)
  have t1 := htext_len x.text hl
  have be : ∀ n, (hexs (be8 n)).length = 16 := fun n => by rw [hexs_len]; rfl
  have two : ∀ a b : Bytes, (∀ c ∈ a, c ≠ 32 ∧ c ≠ 10) → (∀ c ∈ b, c ≠ 32 ∧ c ≠ 10) → ∀ p ∈ [a, b], ∀ c ∈ p, c ≠ 32 ∧ c ≠ 10 := fun a b ha hb p hp => by
    simp only [List.mem_cons, List.not_mem_nil, or_false] at hp
    rcases hp with rfl | rfl <;> assumption
  have three : ∀ a b c : Bytes, (∀ x ∈ a, x ≠ 32 ∧ x ≠ 10) → (∀ x ∈ b, x ≠ 32 ∧ x ≠ 10) → (∀ x ∈ c, x ≠ 32 ∧ x ≠ 10) → ∀ p ∈ [a, b, c], ∀ x ∈ p, x ≠ 32 ∧ x ≠ 10 := fun a b c ha hb hc p hp => by
    simp only [List.mem_cons, List.not_mem_nil, or_false] at hp
    rcases hp with rfl | rfl | rfl <;> assumption
  have ap : ∀ a b : Bytes, a ≠ [] → a ++ b ≠ [] := fun a b h => by simp [h]
  unfold awords
  cases x.kind == 1 with
  | true =>
    rw [cond_true, joinI2]
    exact ⟨⟨by simp, two _ _ w1 (htext_ne _)⟩, by simp only [List.length_append, List.length_cons]; omega, ap _ _ w3⟩
  | false =>
    rw [cond_false]
    cases x.kind == 3 with
    | true =>
      rw [cond_true, joinI3]
      exact ⟨⟨by simp, three _ _ _ w1 (hexs_ne _) (hexs_ne _)⟩, by simp only [List.length_append, List.length_cons, be]; omega, ap _ _ w3⟩
    | false =>
      rw [cond_false]
      cases hk5 : x.kind == 5 with
      | true =>
        have ht := h7 (by have := eq_of_beq hk5; omega)
        have t2 := tupleText_len _ ht
        rw [cond_true, joinI3]
        exact ⟨⟨by simp, three _ _ _ w1 (tupleText_ne _ ht) (htext_ne _)⟩, by simp only [List.length_append, List.length_cons]; omega, ap _ _ w3⟩
      | false =>
        rw [cond_false]
        cases hk6 : x.kind == 6 with
        | true =>
          have ht := h7 (by have := eq_of_beq hk6; omega)
          have t2 := tupleText_len _ ht
          rw [cond_true, joinI3, hm, Int.toNat_natCast]
          exact ⟨⟨by simp, three _ _ _ w1 (tupleText_ne _ ht) (digs_ne2 _)⟩, by simp only [List.length_append, List.length_cons]; omega, ap _ _ w3⟩
        | false =>
          rw [cond_false]
          cases hk7 : decide (5 ≤ x.kind) with
          | true =>
            have ht := h7 (by simpa using hk7)
            have t2 := tupleText_len _ ht
            rw [cond_true, joinI2]
            exact ⟨⟨by simp, two _ _ w1 (tupleText_ne _ ht)⟩, by simp only [List.length_append, List.length_cons]; omega, ap _ _ w3⟩
          | false =>
            rw [cond_false, joinI1]
            refine ⟨⟨by simp, fun p hp => ?_⟩, by omega, w3⟩
            rw [List.mem_singleton] at hp
            subst hp
            exact w1
theorem cut_aline (x : Acti) (ho : okA x = true) : cut 32 (aline x) [] = awords x := by
  unfold aline
  rw [ho, cond_true]
  obtain ⟨⟨h1, h2⟩, _⟩ := awords_say x ho
  exact cut_join 32 _ h1 fun p hp c hc => (h2 p hp c hc).1
theorem aline_len (x : Acti) : (aline x).length ≤ 3260 := by
  unfold aline
  cases ho : okA x with
  | true => exact (awords_say x ho).2.1
  | false => simp
theorem aline_ok {x : Acti} (h : aline x ≠ []) : okA x = true := by
  unfold aline at h
  cases ho : okA x with
  | true => rfl
  | false => rw [ho] at h; exact absurd rfl h
theorem aline_ne {x : Acti} (ho : okA x = true) : aline x ≠ [] := by
  unfold aline
  rw [ho]
  exact (awords_say x ho).2.2
theorem s_ActLine_len (x : Acti) : (s_ActLine x).length ≤ 65536 := by
  cases ho : i_ActOk x with
  | false => unfold s_ActLine; rw [letK_eq, q_ActOk, ho]; simp
  | true =>
    by_cases h3 : x.kind = 3
    · unfold s_ActLine
      have a1 := s_l33Key_len x.mac.k
      have a2 := s_l33Key_len x.mac.l
      have a3 := (word_ne (k := 3) (by decide)).2.1
      simp only at a1 a2
      simp only [letK_eq, q_ActOk, ho, h3, q_ActWord, beq_self_eq_true, Bool.not_true, cond_false, cond_true]
      cases x.mac.use with
      | true => simp
      | false => simp only [cond_false, List.length_append, List.length_singleton]; omega
    · have hm := (ActOk_say x ho).2.2.2.2.2.1 h3
      have hk : KeyR x := by unfold KeyR; rw [hm]; exact ⟨⟨Int.le_refl _, by show (0 : Int) < _; decide⟩, Int.le_refl _, by show (0 : Int) < _; decide⟩
      rw [sActLine_eq x hk]
      have := aline_len x
      omega
theorem i_ActLine_len (x : Acti) : (i_ActLine x).length ≤ 65536 := by
  cases ho : i_ActOk x with
  | false => unfold i_ActLine; rw [letK_eq, ho]; simp
  | true =>
    by_cases h3 : x.kind = 3
    · unfold i_ActLine
      have a1 := i_keyHex_len x.mac.k
      have a2 := i_keyHex_len x.mac.l
      have a3 := (word_ne (k := 3) (by decide)).2.1
      simp only at a1 a2
      simp only [letK_eq, ho, h3, beq_self_eq_true, Bool.not_true, cond_false, cond_true, show decide ((5 : Int) ≤ 3) = false from rfl, show ((3 : Int) == 6) = false from rfl, show ((3 : Int) == 1) = false from rfl, show ((3 : Int) == 5) = false from rfl]
      cases x.mac.use with
      | true => simp
      | false => simp only [cond_false, List.length_append, List.length_singleton]; omega
    · have hm := (ActOk_say x ho).2.2.2.2.2.1 h3
      have hk : KeyR x := by unfold KeyR; rw [hm]; exact ⟨⟨Int.le_refl _, by show (0 : Int) < _; decide⟩, Int.le_refl _, by show (0 : Int) < _; decide⟩
      rw [iActLine_eq x hk]
      have := aline_len x
      omega

theorem next_bif {A W : Type} (c : Bool) (a b : A) : (bif c then (.next a : Stp A W) else .next b) = .next (bif c then a else b) := by cases c <;> rfl
/-- the kind of an act by its word, or 0 -/
def kindOf (w : Bytes) : Int :=
  bif i_ActWord 8 == w then 8 else bif i_ActWord 7 == w then 7 else bif i_ActWord 6 == w then 6 else bif i_ActWord 5 == w then 5 else
  bif i_ActWord 4 == w then 4 else bif i_ActWord 3 == w then 3 else bif i_ActWord 2 == w then 2 else bif i_ActWord 1 == w then 1 else 0
theorem kind_loop {f : Int → Int → Stp Int Empty} {w : Bytes} (hf : ∀ v a, f v a = bif i_ActWord v == w then .next v else .next a) : forN f 1 (Int.toNat (8 - 1 + 1)) 1 0 = .next (kindOf w) := by
  simp only [show Int.toNat (8 - 1 + 1) = 8 from rfl, forN, hf, next_bif, Stp.elim,
    show (1 : Int) + 1 = 2 from rfl, show (2 : Int) + 1 = 3 from rfl, show (3 : Int) + 1 = 4 from rfl, show (4 : Int) + 1 = 5 from rfl, show (5 : Int) + 1 = 6 from rfl, show (6 : Int) + 1 = 7 from rfl, show (7 : Int) + 1 = 8 from rfl]
  rfl
theorem kindOf_cases (w : Bytes) : kindOf w = 0 ∨ kindOf w = 1 ∨ kindOf w = 2 ∨ kindOf w = 3 ∨ kindOf w = 4 ∨ kindOf w = 5 ∨ kindOf w = 6 ∨ kindOf w = 7 ∨ kindOf w = 8 := by
  unfold kindOf
  cases i_ActWord 8 == w <;> cases i_ActWord 7 == w <;> cases i_ActWord 6 == w <;> cases i_ActWord 5 == w <;> cases i_ActWord 4 == w <;> cases i_ActWord 3 == w <;> cases i_ActWord 2 == w <;> cases i_ActWord 1 == w <;> simp
theorem kindOf_word : kindOf (i_ActWord 1) = 1 ∧ kindOf (i_ActWord 2) = 2 ∧ kindOf (i_ActWord 3) = 3 ∧ kindOf (i_ActWord 4) = 4 ∧ kindOf (i_ActWord 5) = 5 ∧ kindOf (i_ActWord 6) = 6 ∧ kindOf (i_ActWord 7) = 7 ∧ kindOf (i_ActWord 8) = 8 := by decide +kernel
def zA : Acti := ⟨0, ⟨0, 0, 0⟩, 0, [], ⟨false, 0, 0, []⟩⟩
/-- what the reference reads out of the words -/
def pS (ws : List Bytes) : Acti :=
  ⟨kindOf (ws.getD 0 []), bif decide (5 ≤ kindOf (ws.getD 0 [])) then (s_ReadTuple ((ws ++ [[], [], []]).getD 1 [])).1 else ⟨0, 0, 0⟩, bif kindOf (ws.getD 0 []) == 6 then (s_Number ((ws ++ [[], [], []]).getD 2 [])).1 else 0,
    bif kindOf (ws.getD 0 []) == 5 then (s_Unhex ((ws ++ [[], [], []]).getD 2 [])).1 else bif kindOf (ws.getD 0 []) == 1 then (s_Unhex ((ws ++ [[], [], []]).getD 1 [])).1 else [],
    bif kindOf (ws.getD 0 []) == 3 then ⟨false, s_l33KeyOf ((ws ++ [[], [], []]).getD 1 []), s_l33KeyOf ((ws ++ [[], [], []]).getD 2 []), []⟩ else ⟨false, 0, 0, []⟩⟩
/-- what the program reads out of the words -/
def pI (ws : List Bytes) : Option Acti :=
  bif kindOf (ws.getD 0 []) == 0 then none else
  bif ((ws.length : Int) != ([0, 2, 1, 3, 1, 3, 3, 2, 2].getD (kindOf (ws.getD 0 [])).toNat 0)) then none else
  bif kindOf (ws.getD 0 []) == 1 then (bif (i_readText (ws.getD 1 [])).2 then some ⟨1, ⟨0, 0, 0⟩, 0, (i_readText (ws.getD 1 [])).1, ⟨false, 0, 0, []⟩⟩ else none) else
  bif kindOf (ws.getD 0 []) == 3 then (bif (i_readKey (ws.getD 1 [])).2 && (i_readKey (ws.getD 2 [])).2 then some ⟨3, ⟨0, 0, 0⟩, 0, [], ⟨false, (i_readKey (ws.getD 1 [])).1, (i_readKey (ws.getD 2 [])).1, []⟩⟩ else none) else
  bif kindOf (ws.getD 0 []) == 5 then (bif (i_ReadTuple (ws.getD 1 [])).2 && (i_readText (ws.getD 2 [])).2 then some ⟨5, (i_ReadTuple (ws.getD 1 [])).1, 0, (i_readText (ws.getD 2 [])).1, ⟨false, 0, 0, []⟩⟩ else none) else
  bif kindOf (ws.getD 0 []) == 6 then (bif (i_ReadTuple (ws.getD 1 [])).2 && (i_Number (ws.getD 2 [])).2 then some ⟨6, (i_ReadTuple (ws.getD 1 [])).1, (i_Number (ws.getD 2 [])).1, [], ⟨false, 0, 0, []⟩⟩ else none) else
  bif decide (5 ≤ kindOf (ws.getD 0 [])) then (bif (i_ReadTuple (ws.getD 1 [])).2 then some ⟨kindOf (ws.getD 0 []), (i_ReadTuple (ws.getD 1 [])).1, 0, [], ⟨false, 0, 0, []⟩⟩ else none) else
  some ⟨kindOf (ws.getD 0 []), ⟨0, 0, 0⟩, 0, [], ⟨false, 0, 0, []⟩⟩
theorem getD0_app (ws : List Bytes) (h : ws ≠ []) (r : List Bytes) : (ws ++ r).getD 0 [] = ws.getD 0 [] := by
  cases ws with
  | nil => exact absurd rfl h
  | cons a b => rfl
set_option maxHeartbeats 1000000 in
theorem sRead_eq (s : Bytes) (hs : s.length ≤ 4294967296) : s_ReadAct s = bif s == [] then (zA, false) else bif decide (3260 < (s.length : Int)) then (zA, false) else
    bif !(s_ActLine (pS (cut 32 s [])) == s) then (zA, false) else (pS (cut 32 s []), true) := by
  have hp := sParts_eq s 32 hs
  rw [show (((32 : UInt8).toNat : Nat) : Int) = 32 from rfl] at hp
  unfold s_ReadAct
  rw [letK_eq, hp, kind_loop (w := (cut 32 s []).getD 0 []) (fun v a => by unfold s_ReadAct_L0_f; rw [letK_eq, q_ActWord, getD0_app _ (cut_ne 32 s [])])]
  cases s == [] with
  | true => rfl
  | false =>
    cases decide (3260 < (s.length : Int)) with
    | true => rfl
    | false =>
      simp only [cond_false, Stp.elim]
      unfold pS
      generalize cut 32 s [] = ws
      rcases kindOf_cases (ws.getD 0 []) with h | h | h | h | h | h | h | h | h <;> rw [h] <;> rfl
set_option maxHeartbeats 1000000 in
theorem iRead_eq (s : Bytes) (hs : s.length ≤ 4294967296) : i_ReadAct s = match pI (cut 32 s []) with | none => (zA, false) | some a => bif !(i_ActLine a == s) then (zA, false) else (a, true) := by
  have hp := iParts_eq s 32 hs
  rw [show (((32 : UInt8).toNat : Nat) : Int) = 32 from rfl] at hp
  unfold i_ReadAct
  rw [letK_eq, hp, kind_loop (w := (cut 32 s []).getD 0 []) (fun v a => by unfold i_ReadAct_L0_f; rw [letK_eq])]
  simp only [Stp.elim]
  unfold pI
  generalize cut 32 s [] = ws
  rcases kindOf_cases (ws.getD 0 []) with h | h | h | h | h | h | h | h | h
  · rw [h]; rfl
  · rw [h]
    generalize ((ws.length : Int) != ([0, 2, 1, 3, 1, 3, 3, 2, 2].getD (Int.toNat 1) 0)) = b
    generalize i_readText (ws.getD 1 []) = c0
    cases b with
    | true => rfl
    | false =>
      obtain ⟨t0, f0⟩ := c0
      cases f0 <;> rfl
  · rw [h]
    generalize ((ws.length : Int) != ([0, 2, 1, 3, 1, 3, 3, 2, 2].getD (Int.toNat 2) 0)) = b
    cases b with
    | true => rfl
    | false =>
      rfl
  · rw [h]
    generalize ((ws.length : Int) != ([0, 2, 1, 3, 1, 3, 3, 2, 2].getD (Int.toNat 3) 0)) = b
    generalize i_readKey (ws.getD 1 []) = c0
    generalize i_readKey (ws.getD 2 []) = c1
    cases b with
    | true => rfl
    | false =>
      obtain ⟨t0, f0⟩ := c0
      obtain ⟨t1, f1⟩ := c1
      cases f0 <;> cases f1 <;> rfl
  · rw [h]
    generalize ((ws.length : Int) != ([0, 2, 1, 3, 1, 3, 3, 2, 2].getD (Int.toNat 4) 0)) = b
    cases b with
    | true => rfl
    | false =>
      rfl
  · rw [h]
    generalize ((ws.length : Int) != ([0, 2, 1, 3, 1, 3, 3, 2, 2].getD (Int.toNat 5) 0)) = b
    generalize i_ReadTuple (ws.getD 1 []) = c0
    generalize i_readText (ws.getD 2 []) = c1
    cases b with
    | true => rfl
    | false =>
      obtain ⟨t0, f0⟩ := c0
      obtain ⟨t1, f1⟩ := c1
      cases f0 <;> cases f1 <;> rfl
  · rw [h]
    generalize ((ws.length : Int) != ([0, 2, 1, 3, 1, 3, 3, 2, 2].getD (Int.toNat 6) 0)) = b
    generalize i_ReadTuple (ws.getD 1 []) = c0
    generalize i_Number (ws.getD 2 []) = c1
    cases b with
    | true => rfl
    | false =>
      obtain ⟨t0, f0⟩ := c0
      obtain ⟨t1, f1⟩ := c1
      cases f0 <;> cases f1 <;> rfl
  · rw [h]
    generalize ((ws.length : Int) != ([0, 2, 1, 3, 1, 3, 3, 2, 2].getD (Int.toNat 7) 0)) = b
    generalize i_ReadTuple (ws.getD 1 []) = c0
    cases b with
    | true => rfl
    | false =>
      obtain ⟨t0, f0⟩ := c0
      cases f0 <;> rfl
  · rw [h]
    generalize ((ws.length : Int) != ([0, 2, 1, 3, 1, 3, 3, 2, 2].getD (Int.toNat 8) 0)) = b
    generalize i_ReadTuple (ws.getD 1 []) = c0
    cases b with
    | true => rfl
    | false =>
      obtain ⟨t0, f0⟩ := c0
      cases f0 <;> rfl
/-! what is written is read -/
theorem atext_inj {a b : Nat} (h : atext a = atext b) : a = b := by
  have h1 := (cut_atext a).symm.trans ((congrArg (fun x => cut 46 x []) h).trans (cut_atext b))
  simp only [List.cons.injEq] at h1
  have e : ∀ x y, digs x = digs y → x = y := fun x y h => by rw [← val_digs x, h, val_digs]
  have := e _ _ h1.1
  have := e _ _ h1.2.1
  have := e _ _ h1.2.2.1
  have := e _ _ h1.2.2.2.1
  omega
theorem iNumber_digs (n : Nat) (h : n ≤ 65535) : i_Number (digs n) = ((n : Int), true) := by
  rcases Number_say (digs n) with ⟨m, h1, h2⟩ | ⟨_, h2⟩
  · rw [h1]
    have : m = n := by rw [← val_digs m, h2, val_digs]
    rw [this]
  · exact absurd rfl (h2 n h)
theorem iAddress_atext (n : Nat) (h : n ≤ 4294967295) : i_Address (atext n) = ((n : Int), true) := by
  rcases Address_say (atext n) (by have := atext_len n h; omega) with ⟨m, _, h1, h2⟩ | ⟨_, h2⟩
  · rw [h1, atext_inj h2]
  · exact absurd rfl (h2 n h)
theorem iReadTuple_text (t : Tupl) (h : i_TupleOk t = true) : i_ReadTuple (i_TupleText t) = (t, true) := by
  obtain ⟨a, b, c, rfl, ha, hb, hc⟩ := TupleOk_nat h
  rw [iTupleText_ok a b c ha hb hc]
  have hl := ttext_len a b c ha hb hc
  have hq := iParts_eq (ttext a b c) 58 (by omega)
  rw [show (((58 : UInt8).toNat : Nat) : Int) = 58 from rfl, cut_ttext] at hq
  unfold i_ReadTuple
  simp only [letK_eq, hq, show (((([atext a, digs b, digs c] : List Bytes).length : Nat) : Int) != 3) = false from rfl, cond_false, List.getD_cons_zero, List.getD_cons_succ, iAddress_atext a ha, iNumber_digs b hb, iNumber_digs c hc, h, Bool.not_true]
theorem readText_htext (t : Bytes) (h : t.length ≤ 1600) : i_readText (htext t) = (t, true) := by
  unfold i_readText htext
  cases ht : t == [] with
  | true =>
    have : t = [] := by simpa using ht
    subst this; rfl
  | false =>
    have hne : (hexs t == [45]) = false := by
      rw [beq_eq_false_iff_ne]
      intro he
      have := congrArg List.length he
      rw [hexs_len] at this
      simp at this
      omega
    simp only [cond_false, hne, letK_eq, iUnhex_eq _ (show (hexs t).length ≤ _ by rw [hexs_len]; omega), unhR_hexs, cond_true, ht, Bool.not_false]
theorem sUnhex_htext (t : Bytes) (h : t.length ≤ 1600) : (s_Unhex (htext t)).1 = t := by
  unfold htext
  cases ht : t == [] with
  | true =>
    have : t = [] := by simpa using ht
    subst this
    rw [cond_true, sUnhex_eq _ (by simp)]
    rfl
  | false => rw [cond_false, sUnhex_eq _ (show (hexs t).length ≤ _ by rw [hexs_len]; omega), unhR_hexs]
/-- the words of a valid act give it back -/
theorem read_words (x : Acti) (hk : KeyR x) (ho : okA x = true) : pS (awords x) = x ∧ pI (awords x) = some x := by
  unfold okA at ho
  simp only [Bool.and_eq_true, Bool.not_eq_true'] at ho
  obtain ⟨h1, hl, hM, ⟨m, hm, hm2⟩, h5, h6, h7, h8, h9⟩ := ActOk_say x ho.1
  have hR := MacOk_no _ hM ho.2
  obtain ⟨k1, k2, k3, k4, k5, k6, k7, k8⟩ := kindOf_word
  obtain ⟨kd, t, n, tx, ⟨u, k, l, r⟩⟩ := x
  obtain ⟨⟨hk1, hk2⟩, hk3, hk4⟩ := hk
  simp only at hm h1 hk1 hk2 hk3 hk4 hl h5 h6 h7 h8 h9 hR ho
  have hu := ho.2
  obtain ⟨k', rfl⟩ := Int.eq_ofNat_of_zero_le hk1
  obtain ⟨l', rfl⟩ := Int.eq_ofNat_of_zero_le hk3
  subst hm hR hu
  have g : ∀ t, i_TupleOk t = true → s_ReadTuple (i_TupleText t) = (t, true) := fun t ht => by rw [q_ReadTuple _ (by have := tupleText_len t ht; omega), iReadTuple_text t ht]
  rcases kind_cases h1 with rfl | rfl | rfl | rfl | rfl | rfl | rfl | rfl
  · have e1 := h6 (by decide)
    have e2 := h8 (by decide)
    have e3 := h9 (by decide)
    cases e1; subst e2; rw [e3]
    simp [pS, pI, awords, k1, readText_htext tx hl, sUnhex_htext tx hl]
  · have e1 := h6 (by decide)
    have e2 := h8 (by decide)
    have e3 := h9 (by decide)
    have e4 := h5 (by decide) (by decide)
    cases e1; subst e2; rw [e3, e4]
    simp [pS, pI, awords, k2]
  · have e2 := h8 (by decide)
    have e3 := h9 (by decide)
    have e4 := h5 (by decide) (by decide)
    subst e2; rw [e3, e4]
    simp [pS, pI, awords, k3, readKey_key k' (by omega), readKey_key l' (by omega), KeyOf_key k' (by omega), KeyOf_key l' (by omega)]
  · have e1 := h6 (by decide)
    have e2 := h8 (by decide)
    have e3 := h9 (by decide)
    have e4 := h5 (by decide) (by decide)
    cases e1; subst e2; rw [e3, e4]
    simp [pS, pI, awords, k4]
  · have e1 := h6 (by decide)
    have e2 := h7 (by decide)
    have e3 := h9 (by decide)
    cases e1; rw [e3]
    simp [pS, pI, awords, k5, readText_htext tx hl, sUnhex_htext tx hl, g t e2, iReadTuple_text t e2]
  · have e1 := h6 (by decide)
    have e2 := h7 (by decide)
    have e4 := h5 (by decide) (by decide)
    cases e1; rw [e4]
    simp [pS, pI, awords, k6, g t e2, iReadTuple_text t e2, q_Number, iNumber_digs m hm2]
  · have e1 := h6 (by decide)
    have e2 := h7 (by decide)
    have e3 := h9 (by decide)
    have e4 := h5 (by decide) (by decide)
    cases e1; rw [e3, e4]
    simp [pS, pI, awords, k7, g t e2, iReadTuple_text t e2]
  · have e1 := h6 (by decide)
    have e2 := h7 (by decide)
    have e3 := h9 (by decide)
    have e4 := h5 (by decide) (by decide)
    cases e1; rw [e3, e4]
    simp [pS, pI, awords, k8, g t e2, iReadTuple_text t e2]
theorem u64_rng (m : Int) : 0 ≤ IntKind.u64.wrap m ∧ IntKind.u64.wrap m < 18446744073709551616 := by
  have : IntKind.u64.wrap m = m % 18446744073709551616 := by simp [IntKind.wrap, IntKind.bits, IntKind.signed]
  rw [this]; omega
theorem KeyR_pS (ws : List Bytes) : KeyR (pS ws) := by
  have e : ∀ w, 0 ≤ s_l33KeyOf w ∧ s_l33KeyOf w < 18446744073709551616 := fun w => by unfold s_l33KeyOf; simp only [letK_eq]; exact u64_rng _
  unfold KeyR pS
  simp only
  cases kindOf (ws.getD 0 []) == 3 with
  | true => exact ⟨e _, e _⟩
  | false => exact ⟨⟨Int.le_refl _, by show (0 : Int) < _; decide⟩, Int.le_refl _, by show (0 : Int) < _; decide⟩
theorem readKey_rng (w : Bytes) : 0 ≤ (i_readKey w).1 ∧ (i_readKey w).1 < 18446744073709551616 := by
  unfold i_readKey
  simp only [letK_eq]
  cases (i_Unhex w).2 with
  | false => simp
  | true =>
    cases ((i_Unhex w).1.length : Int) != 8 with
    | true => simp
    | false =>
      simp only [Bool.not_true, cond_false, show Int.toNat (8 - 0) = 8 from rfl, forN, i_readKey_L0_f, Stp.elim, letK_eq]
      exact ⟨bits_lo_u64 _ _ _, Int.lt_of_le_of_lt (bits_hi_u64 _ _ _) (by decide)⟩
theorem bif_some {α : Type} {c : Bool} {x a : α} (h : (bif c then some x else none) = some a) : x = a := by cases c <;> simp at h; exact h
theorem KeyR_pI (ws : List Bytes) (a : Acti) (h : pI ws = some a) : KeyR a := by
  have z : (0 : Int) ≤ 0 ∧ (0 : Int) < 18446744073709551616 := by decide
  have r := readKey_rng
  unfold pI at h
  rcases kindOf_cases (ws.getD 0 []) with k | k | k | k | k | k | k | k | k
  all_goals
    rw [k] at h
    try (simp only [show ((0 : Int) == 0) = true from rfl, cond_true] at h; done)
    revert h
    generalize ((ws.length : Int) != ([0, 2, 1, 3, 1, 3, 3, 2, 2].getD (Int.toNat _) 0)) = b
    intro h
    cases b with
    | true => cases h
    | false =>
      simp at h
      try (first
        | (have h := bif_some h; subst h; first | exact ⟨z, z⟩ | exact ⟨r _, r _⟩)
        | (subst h; exact ⟨z, z⟩))
/-- an act's line is read back; what is no line of an act is refused -/
theorem ReadAct_say (s : Bytes) (hs : s.length ≤ 4294967296) : (∃ x, KeyR x ∧ okA x = true ∧ aline x = s ∧ i_ReadAct s = (x, true) ∧ s_ReadAct s = (x, true)) ∨
    (i_ReadAct s = (zA, false) ∧ s_ReadAct s = (zA, false) ∧ ∀ x, KeyR x → okA x = true → aline x ≠ s) := by
  by_cases h : ∃ x, KeyR x ∧ okA x = true ∧ aline x = s
  · obtain ⟨x, hk, ho, he⟩ := h
    refine .inl ⟨x, hk, ho, he, ?_, ?_⟩
    · rw [iRead_eq s hs, ← he, cut_aline x ho, (read_words x hk ho).2]
      simp only [iActLine_eq x hk, beq_self_eq_true, Bool.not_true, cond_false]
    · have h1 := aline_ne ho
      have h2 := aline_len x
      rw [sRead_eq s hs, ← he, cut_aline x ho, (read_words x hk ho).1]
      simp only [sActLine_eq x hk, beq_self_eq_true, Bool.not_true, cond_false, show (aline x == []) = false by simpa using h1, show decide (3260 < ((aline x).length : Int)) = false by simp; omega]
  · have h0 : ∀ x, KeyR x → okA x = true → aline x ≠ s := fun x hk ho he => h ⟨x, hk, ho, he⟩
    refine .inr ⟨?_, ?_, h0⟩
    · rw [iRead_eq s hs]
      cases hp : pI (cut 32 s []) with
      | none => rfl
      | some a =>
        have hk := KeyR_pI _ _ hp
        simp only
        rw [iActLine_eq a hk]
        cases he : aline a == s with
        | false => rfl
        | true =>
          have he := eq_of_beq he
          exfalso
          by_cases hn : s = []
          · subst hn
            rw [show cut 32 ([] : Bytes) [] = [[]] from rfl] at hp
            have : pI [[]] = none := by
              unfold pI
              rw [show kindOf (([[]] : List Bytes).getD 0 []) = 0 by decide +kernel]
              rfl
            rw [this] at hp
            cases hp
          · exact h0 a hk (aline_ok (by rw [he]; exact hn)) he
    · rw [sRead_eq s hs]
      cases hn : s == [] with
      | true => rfl
      | false =>
        cases decide (3260 < (s.length : Int)) with
        | true => rfl
        | false =>
          rw [cond_false, cond_false, sActLine_eq _ (KeyR_pS _)]
          cases he : aline (pS (cut 32 s [])) == s with
          | false => rfl
          | true =>
            have he := eq_of_beq he
            have hn : s ≠ [] := by simpa using hn
            exact absurd he (h0 _ (KeyR_pS _) (aline_ok (by rw [he]; exact hn)))
theorem q_ReadAct (s : Bytes) (hs : s.length ≤ 4294967296) : s_ReadAct s = i_ReadAct s := by
  rcases ReadAct_say s hs with ⟨x, _, _, _, h1, h2⟩ | ⟨h1, h2, _⟩ <;> rw [h1, h2]

theorem ReadAct_rows (s : Bytes) (hs : s.length ≤ 4294967296) : (i_ReadAct s).1.mac.rows = [] := by
  rcases ReadAct_say s hs with ⟨x, _, ho, _, h1, _⟩ | ⟨h1, _, _⟩
  · rw [h1]
    unfold okA at ho
    simp only [Bool.and_eq_true, Bool.not_eq_true'] at ho
    exact MacOk_no _ (ActOk_say x ho.1).2.2.1 ho.2
  · rw [h1]; rfl
theorem t_FnExactReadAct (x : Bytes) : w_FnExactReadAct x = true := by
  unfold w_FnExactReadAct
  cases hd : decide (1048576 < (x.length : Int)) with
  | true => rfl
  | false =>
    simp only [decide_eq_false_iff_not] at hd
    have hr := ReadAct_rows x (by omega)
    obtain ⟨k1, k2, k3, k4⟩ := markMac_held (i_ReadAct x).1.mac 1 (by rw [hr]; simp) (by omega)
    simp [letK, q_ReadAct x (by omega), eqAct_refl, w_markAct, w_heldAct, k4, Int.not_lt.2 k1]

end Go.Proofs.YtcjbalpokdgicaaDoor
