/-
  Contracts of functions and plain laws (printed by a program): each theorem says what a function of the program returns; conditions are its hypotheses.
-/
import Derived.Test.YthlhmhlphnjjkaaA2
set_option maxRecDepth 4000
set_option linter.unusedVariables false
set_option linter.unusedSimpArgs false
namespace Go.Proofs.Ythlhmhlphnjjkaa
open Go Go.RowKit

theorem eqAct_refl (x : Acti) : w_eqAct x x = true := by simp [w_eqAct, letK, eqTuple_refl, eqMac_refl]

theorem toMac_eq (x : Mac) : w_toMac x = x := by
  first | rfl | simp only [w_toMac, letK, toMacRowS_eq] | (simp [w_toMac, letK, toMacRowS_eq])

/-- laws.FnExactGuessInputs -/
def w_FnExactGuessInputs_N (x0 : Int) (x1 : List Issu) (γ : Type) (fail : γ) (k : Bool → γ) : γ :=
  letK (α := Int) (w_szIssueS x1 1048576) fun c1 =>
  bif (decide (c1 < 0)) then
    k true
  else
  bif (decide (x1.length ≤ 4294967296)) then
  letK (α := List Issu) (w_toIssueS x1) fun c2 =>
  bif (decide (c2.length ≤ 4294967296)) then
  letK (α := List Bytes) (s_GuessInputs x0 c2) fun c3 =>
  bif (decide (x1.length ≤ 4294967296)) then
  letK (α := List Issu) (w_toIssueS x1) fun c4 =>
  bif (decide (c4.length ≤ 4294967296)) then
  letK (α := List Bytes) (i_GuessInputs x0 c4) fun c5 =>
  letK (α := Bool) (w_eqStringS c5 c3) fun c6 =>
  bif (!c6) then
    k false
  else
  bif (decide (x1.length ≤ 4294967296)) then
  letK (α := List Issu) (w_toIssueS x1) fun c7 =>
  letK (α := Bool) (w_eqIssueS c4 c7) fun c8 =>
  bif (!c8) then
    k false
  else
  letK (α := Int × List Issu) (w_markIssueS c4 1) fun c9 =>
  bif (decide (c9.1 < 0)) then
    k false
  else
  letK (α := Bool) (w_eqStringS c5 c3) fun c10 =>
  bif (!c10) then
    k false
  else
  letK (α := Int × List Bytes) (w_markStringS c5 1) fun c11 =>
  letK (α := Int) (w_heldStringS c11.2 1) fun c12 =>
  bif (decide (c12 < 0)) then
    k false
  else
  bif (c12 != c11.1) then
    k false
  else
  bif (decide (x1.length ≤ 4294967296)) then
  letK (α := List Issu) (w_toIssueS x1) fun c13 =>
  bif (decide (c13.length ≤ 4294967296)) then
  letK (α := List Bytes) (i_GuessInputs x0 c13) fun c14 =>
  letK (α := Bool) (w_eqStringS c14 c3) fun c15 =>
  bif (!c15) then
    k false
  else
  letK (α := Int) (w_heldStringS c11.2 1) fun c16 =>
  bif (decide (c16 < 0)) then
    k false
  else
  bif (c16 != c11.1) then
    k false
  else
  k true
  else fail
  else fail
  else fail
  else fail
  else fail
  else fail
  else fail
def w_FnExactGuessInputs (x0 : Int) (x1 : List Issu) : Bool :=
  letK (α := Int) (w_szIssueS x1 1048576) fun c1 =>
  bif (decide (c1 < 0)) then
    true
  else
  letK (α := List Issu) (w_toIssueS x1) fun c2 =>
  letK (α := List Bytes) (s_GuessInputs x0 c2) fun c3 =>
  letK (α := List Issu) (w_toIssueS x1) fun c4 =>
  letK (α := List Bytes) (i_GuessInputs x0 c4) fun c5 =>
  letK (α := Bool) (w_eqStringS c5 c3) fun c6 =>
  bif (!c6) then
    false
  else
  letK (α := List Issu) (w_toIssueS x1) fun c7 =>
  letK (α := Bool) (w_eqIssueS c4 c7) fun c8 =>
  bif (!c8) then
    false
  else
  letK (α := Int × List Issu) (w_markIssueS c4 1) fun c9 =>
  bif (decide (c9.1 < 0)) then
    false
  else
  letK (α := Bool) (w_eqStringS c5 c3) fun c10 =>
  bif (!c10) then
    false
  else
  letK (α := Int × List Bytes) (w_markStringS c5 1) fun c11 =>
  letK (α := Int) (w_heldStringS c11.2 1) fun c12 =>
  bif (decide (c12 < 0)) then
    false
  else
  bif (c12 != c11.1) then
    false
  else
  letK (α := List Issu) (w_toIssueS x1) fun c13 =>
  letK (α := List Bytes) (i_GuessInputs x0 c13) fun c14 =>
  letK (α := Bool) (w_eqStringS c14 c3) fun c15 =>
  bif (!c15) then
    false
  else
  letK (α := Int) (w_heldStringS c11.2 1) fun c16 =>
  bif (decide (c16 < 0)) then
    false
  else
  bif (c16 != c11.1) then
    false
  else
  true
theorem w_FnExactGuessInputs_lk (x0 : Int) (x1 : List Issu) : evalFn te (orcOf (P := Try.prog) [w_szIssueS_e, w_toIssueS_e, s_GuessInputs_e, i_GuessInputs_e, w_eqStringS_e, w_eqIssueS_e, w_markIssueS_e, w_markStringS_e, w_heldStringS_e]) lorc0 [] Try.f6 (pvs [.sc (.int .i64), .sc (.sl .issu)] (x0, x1, ())) =
  w_FnExactGuessInputs_N x0 x1 _ none (fun v => some [(false, [RC.c (.bool v)])]) := by kernel_rfl
theorem w_FnExactGuessInputs_p (x0 : Int) (x1 : List Issu) (hx0 : inK .i64 x0) (hx1 : x1.length ≤ 140737488355328)  (γ : Type) (fail : γ) (k : Bool → γ) : w_FnExactGuessInputs_N x0 x1 γ fail k = k (w_FnExactGuessInputs x0 x1) := by
  unfold w_FnExactGuessInputs_N w_FnExactGuessInputs
  exact letT (f := k) (fun c1 hc1 => have kc1 := w_szIssueS_sm x1 1048576 (by grind [wrap64]) (by assumption); bifT (f := k) (fun b0 => rfl)
      (fun b0 => bifG (by (try simp only [Nat.ble_eq, Bool.and_eq_true, decide_eq_true_eq]); grind [maxSl, maxStr, toBytes_length, toInts_length, List.length_set, wrap64, w_szIssueS_sm]) (letT (f := k) (fun c2 hc2 => have kc2 := toIssueS_eq x1; bifG (by (try simp only [Nat.ble_eq, Bool.and_eq_true, decide_eq_true_eq]); grind [maxSl, maxStr, toBytes_length, toInts_length, List.length_set, wrap64, w_szIssueS_sm]) (letT (f := k) (fun c3 hc3 => bifG (by (try simp only [Nat.ble_eq, Bool.and_eq_true, decide_eq_true_eq]); grind [maxSl, maxStr, toBytes_length, toInts_length, List.length_set, wrap64, w_szIssueS_sm]) (letT (f := k) (fun c4 hc4 => have kc4 := toIssueS_eq x1; bifG (by (try simp only [Nat.ble_eq, Bool.and_eq_true, decide_eq_true_eq]); grind [maxSl, maxStr, toBytes_length, toInts_length, List.length_set, wrap64, w_szIssueS_sm]) (letT (f := k) (fun c5 hc5 => letT (f := k) (fun c6 hc6 => bifT (f := k) (fun b1 => rfl)
      (fun b1 => bifG (by (try simp only [Nat.ble_eq, Bool.and_eq_true, decide_eq_true_eq]); grind [maxSl, maxStr, toBytes_length, toInts_length, List.length_set, wrap64, w_szIssueS_sm]) (letT (f := k) (fun c7 hc7 => have kc7 := toIssueS_eq x1; letT (f := k) (fun c8 hc8 => bifT (f := k) (fun b2 => rfl)
      (fun b2 => letT (f := k) (fun c9 hc9 => bifT (f := k) (fun b3 => rfl)
      (fun b3 => letT (f := k) (fun c10 hc10 => bifT (f := k) (fun b4 => rfl)
      (fun b4 => letT (f := k) (fun c11 hc11 => letT (f := k) (fun c12 hc12 => bifT (f := k) (fun b5 => rfl)
      (fun b5 => bifT (f := k) (fun b6 => rfl)
      (fun b6 => bifG (by (try simp only [Nat.ble_eq, Bool.and_eq_true, decide_eq_true_eq]); grind [maxSl, maxStr, toBytes_length, toInts_length, List.length_set, wrap64, w_szIssueS_sm]) (letT (f := k) (fun c13 hc13 => have kc13 := toIssueS_eq x1; bifG (by (try simp only [Nat.ble_eq, Bool.and_eq_true, decide_eq_true_eq]); grind [maxSl, maxStr, toBytes_length, toInts_length, List.length_set, wrap64, w_szIssueS_sm]) (letT (f := k) (fun c14 hc14 => letT (f := k) (fun c15 hc15 => bifT (f := k) (fun b7 => rfl)
      (fun b7 => letT (f := k) (fun c16 hc16 => bifT (f := k) (fun b8 => rfl)
      (fun b8 => bifT (f := k) (fun b9 => rfl)
      (fun b9 => rfl)))))))))))))))))))))))))))))))))
theorem w_FnExactGuessInputs_c (x0 : Int) (x1 : List Issu)  : Con Try.prog 6 (pvs [.sc (.int .i64), .sc (.sl .issu)] (x0, x1, ())) [rv (.sc .bool) [] (w_FnExactGuessInputs x0 x1)] := by
  refine Con.of_facts (enters_of Try.func6 rfl (by kernel_rfl)) fun hf => ?_
  replace hf := factAt hf
  exact evalFn_con0 teFact mixFact (orcOf_ok _) Try.func6 (by kernel_rfl) ((w_FnExactGuessInputs_lk x0 x1).trans (w_FnExactGuessInputs_p x0 x1 ((hf 0 0 rfl rfl).rng) ((hf 1 0 rfl rfl).len) _ _ _))
noncomputable def w_FnExactGuessInputs_e : Ent1 Try.prog := entA 6 [.sc (.int .i64), .sc (.sl .issu)] (fun x => (w_FnExactGuessInputs x.1 x.2.1)) (fun v => [rv (.sc .bool) [] v]) (fun x => w_FnExactGuessInputs_c x.1 x.2.1)



theorem t_FnExactAssigned (x : List Bytes) (n m : Int) (h : x.length ≤ 140737488355328) : w_FnExactAssigned x n m = true := by
  obtain ⟨h1, h2, h3⟩ := markStringS_held x 1 h (by omega)
  obtain ⟨k1, k2, k3, k4⟩ := markMac_held (i_Assigned x n m) 1 (by have := Assigned_len x n m; omega) (by omega)
  simp [w_FnExactAssigned, letK, toStringS_eq, q_Assigned, eqMac_refl, eqStringS_refl, k4, Int.not_lt.2 h1, Int.not_lt.2 k1]


theorem t_FnExactGuessInputs (e : Int) (x : List Issu) (h : x.length ≤ 140737488355328) : w_FnExactGuessInputs e x = true := by
  have h1 := (markIssueS_held x 1 h (by omega)).1
  obtain ⟨k1, k2, k3, k4⟩ := markStringS_held (i_GuessInputs e x) 1 (by have := GuessInputs_len e x; omega) (by omega)
  simp [w_FnExactGuessInputs, letK, toIssueS_eq, q_GuessInputs, eqIssueS_refl, eqStringS_refl, k4, Int.not_lt.2 h1, Int.not_lt.2 k1]

theorem toAct_eq (x : Acti) : w_toAct x = x := by
  first | rfl | simp only [w_toAct, letK, toTuple_eq, toMac_eq] | (simp [w_toAct, letK, toTuple_eq, toMac_eq])

/-- laws.FnExactActOk -/
def w_FnExactActOk_N (x0 : Acti) (γ : Type) (fail : γ) (k : Bool → γ) : γ :=
  letK (α := Int) (w_szAct x0 1048576) fun c1 =>
  bif (decide (c1 < 0)) then
    k true
  else
  bif (decide (x0.text.length ≤ 4294967296 ∧ x0.mac.rows.length ≤ 4294967296)) then
  letK (α := Acti) (w_toAct x0) fun c2 =>
  letK (α := Bool) (s_ActOk c2) fun c3 =>
  bif (decide (x0.text.length ≤ 4294967296 ∧ x0.mac.rows.length ≤ 4294967296)) then
  letK (α := Acti) (w_toAct x0) fun c4 =>
  letK (α := Bool) (i_ActOk c4) fun c5 =>
  bif (!(c5 == c3)) then
    k false
  else
  bif (decide (x0.text.length ≤ 4294967296 ∧ x0.mac.rows.length ≤ 4294967296)) then
  letK (α := Acti) (w_toAct x0) fun c6 =>
  letK (α := Bool) (w_eqAct c4 c6) fun c7 =>
  bif (!c7) then
    k false
  else
  k true
  else fail
  else fail
  else fail
def w_FnExactActOk (x0 : Acti) : Bool :=
  letK (α := Int) (w_szAct x0 1048576) fun c1 =>
  bif (decide (c1 < 0)) then
    true
  else
  letK (α := Acti) (w_toAct x0) fun c2 =>
  letK (α := Bool) (s_ActOk c2) fun c3 =>
  letK (α := Acti) (w_toAct x0) fun c4 =>
  letK (α := Bool) (i_ActOk c4) fun c5 =>
  bif (!(c5 == c3)) then
    false
  else
  letK (α := Acti) (w_toAct x0) fun c6 =>
  letK (α := Bool) (w_eqAct c4 c6) fun c7 =>
  bif (!c7) then
    false
  else
  true
theorem w_FnExactActOk_lk (x0 : Acti) : evalFn te (orcOf (P := Try.prog) [w_szAct_e, w_toAct_e, s_ActOk_e, i_ActOk_e, w_eqAct_e]) lorc0 [] Try.f7 (pvs [.st .acti] (x0, ())) =
  w_FnExactActOk_N x0 _ none (fun v => some [(false, [RC.c (.bool v)])]) := by kernel_rfl
theorem w_FnExactActOk_p (x0 : Acti) (hx0_kind : inK .i64 x0.kind) (hx0_tuple_ip : inK .i64 x0.tuple.ip) (hx0_tuple_port : inK .i64 x0.tuple.port) (hx0_tuple_my : inK .i64 x0.tuple.my) (hx0_n : inK .i64 x0.n) (hx0_text : List.length x0.text ≤ 4611686018427387904) (hx0_mac_k : inK .u64 x0.mac.k) (hx0_mac_l : inK .u64 x0.mac.l) (hx0_mac_rows : x0.mac.rows.length ≤ 140737488355328) (hx0_mac_rows_e : ∀ y ∈ x0.mac.rows, ∀ c ∈ Ty.cells .macRow y, FactC c)  (γ : Type) (fail : γ) (k : Bool → γ) : w_FnExactActOk_N x0 γ fail k = k (w_FnExactActOk x0) := by
  unfold w_FnExactActOk_N w_FnExactActOk
  exact letT (f := k) (fun c1 hc1 => have kc1 := w_szAct_sm x0 1048576 (by grind [wrap64]) (by assumption) (by assumption) (by assumption); bifT (f := k) (fun b0 => rfl)
      (fun b0 => bifG (by (try simp only [Nat.ble_eq, Bool.and_eq_true, decide_eq_true_eq]); grind [maxSl, maxStr, toBytes_length, toInts_length, List.length_set, wrap64, w_szAct_sm]) (letT (f := k) (fun c2 hc2 => have kc2 := toAct_eq x0; letT (f := k) (fun c3 hc3 => bifG (by (try simp only [Nat.ble_eq, Bool.and_eq_true, decide_eq_true_eq]); grind [maxSl, maxStr, toBytes_length, toInts_length, List.length_set, wrap64, w_szAct_sm]) (letT (f := k) (fun c4 hc4 => have kc4 := toAct_eq x0; letT (f := k) (fun c5 hc5 => bifT (f := k) (fun b1 => rfl)
      (fun b1 => bifG (by (try simp only [Nat.ble_eq, Bool.and_eq_true, decide_eq_true_eq]); grind [maxSl, maxStr, toBytes_length, toInts_length, List.length_set, wrap64, w_szAct_sm]) (letT (f := k) (fun c6 hc6 => have kc6 := toAct_eq x0; letT (f := k) (fun c7 hc7 => bifT (f := k) (fun b2 => rfl)
      (fun b2 => rfl)))))))))))))
theorem w_FnExactActOk_c (x0 : Acti)  : Con Try.prog 7 (pvs [.st .acti] (x0, ())) [rv (.sc .bool) [] (w_FnExactActOk x0)] := by
  refine Con.of_facts (enters_of Try.func7 rfl (by kernel_rfl)) fun hf => ?_
  replace hf := factAt hf
  exact evalFn_con0 teFact mixFact (orcOf_ok _) Try.func7 (by kernel_rfl) ((w_FnExactActOk_lk x0).trans (w_FnExactActOk_p x0 ((hf 0 0 rfl rfl).rng) ((hf 0 1 rfl rfl).rng) ((hf 0 2 rfl rfl).rng) ((hf 0 3 rfl rfl).rng) ((hf 0 4 rfl rfl).rng) ((hf 0 5 rfl rfl).slen) ((hf 0 7 rfl rfl).rng) ((hf 0 8 rfl rfl).rng) ((hf 0 9 rfl rfl).len) (fun y hy => (hf 0 9 rfl rfl).elem hy) _ _ _))
noncomputable def w_FnExactActOk_e : Ent1 Try.prog := entA 7 [.st .acti] (fun x => (w_FnExactActOk x.1)) (fun v => [rv (.sc .bool) [] v]) (fun x => w_FnExactActOk_c x.1)



theorem t_FnExactActOk (x : Acti) : w_FnExactActOk x = true := by
  simp [w_FnExactActOk, letK, q_ActOk, toAct_eq, eqAct_refl]

end Go.Proofs.Ythlhmhlphnjjkaa
