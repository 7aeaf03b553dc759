/-
  Contracts of functions and plain laws (printed by a program): each theorem says what a function of the program returns; conditions are its hypotheses.
-/
import Derived.Test.YtbikbonhcfbmeaaA1
set_option maxRecDepth 4000
set_option linter.unusedVariables false
set_option linter.unusedSimpArgs false
namespace Go.Proofs.Ytbikbonhcfbmeaa
open Go Go.RowKit

theorem w_szMacRowS_sm (x0 : List MacRow) (x1 : Int) (hn : 0 ≤ x1 ∧ x1 ≤ 1048576) (hx0 : x0.length ≤ 140737488355328) (hx0_e : ∀ y ∈ x0, ∀ c ∈ Ty.cells .macRow y, FactC c) : 0 ≤ w_szMacRowS x0 x1 → w_szMacRowS x0 x1 ≤ 1048576 ∧ x0.length ≤ 1048576 := by
  unfold w_szMacRowS
  rw [wrap64 (by omega) (by omega)]
  cases hd : decide (x1 - (x0.length : Int) < 0) with
  | true => intro h; simp only [cond_true] at h; omega
  | false =>
    simp only [decide_eq_false_iff_not] at hd
    simp only [cond_false]
    cases hf : forN (w_szMacRowS_L0_f x0) 1 (Int.toNat ((x0.length : Int) - 0)) 0 (x1 - (x0.length : Int)) with
    | out p => intro h; simp only [Stp.elim] at h; omega
    | next a =>
      have h5 : 0 ≤ a ∧ a ≤ 1048576 := by
        refine forN_inv (Inv := fun _ a => 0 ≤ a ∧ a ≤ 1048576) _ _ _ (by omega) (fun j a _ h a2 he => ?_) a hf
        have hq : ∀ y : MacRow, (∀ c ∈ Ty.cells .macRow y, FactC c) → 0 ≤ w_szMacRow y a → w_szMacRow y a ≤ 1048576 := fun y hy h0 => (w_szMacRow_sm y a h (hy (.str y.input) List.mem_cons_self).slen h0).1
        have hz : ∀ c ∈ Ty.cells .macRow (x0.getD (0 + 1 * (j : Int)).toNat (Ty.zero .macRow)), FactC c := getD_all (p := fun y => ∀ c ∈ Ty.cells .macRow y, FactC c) (factZero _) hx0_e _
        unfold w_szMacRowS_L0_f at he
        simp only [letK] at he
        cases hc : decide (w_szMacRow (x0.getD (0 + 1 * (j : Int)).toNat (Ty.zero .macRow)) a < 0) <;> rw [hc] at he <;> cases he
        simp only [decide_eq_false_iff_not] at hc
        exact ⟨by omega, hq _ hz (by omega)⟩
      intro _; simp only [Stp.elim]; omega

theorem eqTuple_refl (x : Tupl) : w_eqTuple x x = true := by simp [w_eqTuple, letK]

theorem toMacRow_eq (x : MacRow) : w_toMacRow x = x := by
  first | rfl | simp only [w_toMacRow, letK] | (simp [w_toMacRow, letK])

theorem toSender_eq (x : Sndr) : w_toSender x = x := by
  first | rfl | simp only [w_toSender, letK] | (simp [w_toSender, letK])

theorem eqMacRow_refl (x : MacRow) : w_eqMacRow x x = true := by simp [w_eqMacRow, letK]

theorem eqSender_refl (x : Sndr) : w_eqSender x x = true := by simp [w_eqSender, letK]

theorem w_szPieceS_sm (x0 : List Piec) (x1 : Int) (hn : 0 ≤ x1 ∧ x1 ≤ 1048576) (hx0 : x0.length ≤ 140737488355328) (hx0_e : ∀ y ∈ x0, ∀ c ∈ Ty.cells .piec y, FactC c) : 0 ≤ w_szPieceS x0 x1 → w_szPieceS x0 x1 ≤ 1048576 ∧ x0.length ≤ 1048576 := by
  unfold w_szPieceS
  rw [wrap64 (by omega) (by omega)]
  cases hd : decide (x1 - (x0.length : Int) < 0) with
  | true => intro h; simp only [cond_true] at h; omega
  | false =>
    simp only [decide_eq_false_iff_not] at hd
    simp only [cond_false]
    cases hf : forN (w_szPieceS_L0_f x0) 1 (Int.toNat ((x0.length : Int) - 0)) 0 (x1 - (x0.length : Int)) with
    | out p => intro h; simp only [Stp.elim] at h; omega
    | next a =>
      have h5 : 0 ≤ a ∧ a ≤ 1048576 := by
        refine forN_inv (Inv := fun _ a => 0 ≤ a ∧ a ≤ 1048576) _ _ _ (by omega) (fun j a _ h a2 he => ?_) a hf
        have hq : ∀ y : Piec, (∀ c ∈ Ty.cells .piec y, FactC c) → 0 ≤ w_szPiece y a → w_szPiece y a ≤ 1048576 := fun y hy h0 => (w_szPiece_sm y a h (hy (.str y.text) (List.mem_cons_of_mem _ List.mem_cons_self)).slen h0).1
        have hz : ∀ c ∈ Ty.cells .piec (x0.getD (0 + 1 * (j : Int)).toNat (Ty.zero .piec)), FactC c := getD_all (p := fun y => ∀ c ∈ Ty.cells .piec y, FactC c) (factZero _) hx0_e _
        unfold w_szPieceS_L0_f at he
        simp only [letK] at he
        cases hc : decide (w_szPiece (x0.getD (0 + 1 * (j : Int)).toNat (Ty.zero .piec)) a < 0) <;> rw [hc] at he <;> cases he
        simp only [decide_eq_false_iff_not] at hc
        exact ⟨by omega, hq _ hz (by omega)⟩
      intro _; simp only [Stp.elim]; omega

theorem toPiece_eq (x : Piec) : w_toPiece x = x := by
  first | rfl | simp only [w_toPiece, letK] | (simp [w_toPiece, letK])

theorem eqPiece_refl (x : Piec) : w_eqPiece x x = true := by simp [w_eqPiece, letK]

theorem Retained_wrap (a b c d : Int) : IntKind.wrap .i64 ((IntKind.wrap .i64 ((IntKind.wrap .i64 (a + b)) + c)) + d) = IntKind.wrap .i64 (a + (IntKind.wrap .i64 ((IntKind.wrap .i64 (b + c)) + d))) := by
  simp only [wrap64_def]; omega
theorem q_Retained (x : Door) : s_Retained x = i_Retained x := by
  unfold s_Retained i_Retained
  simp only [letK_eq]
  congr 1
  refine forN_congr (fun i a => ?_) _ _ _
  unfold s_Retained_L0_f i_Retained_L0_f
  simp only [letK_eq, Retained_wrap]
  congr 1

/-- laws.szMac -/
def w_szMac_N (x0 : Mac) (x1 : Int) (γ : Type) (fail : γ) (k : Int → γ) : γ :=
  letK (α := Int) (w_szMacRowS x0.rows x1) fun c1 =>
  bif (decide (c1 < 0)) then
    k (-1)
  else
  k c1
def w_szMac (x0 : Mac) (x1 : Int) : Int :=
  letK (α := Int) (w_szMacRowS x0.rows x1) fun c1 =>
  bif (decide (c1 < 0)) then
    (-1)
  else
  c1
theorem w_szMac_lk (x0 : Mac) (x1 : Int) : evalFn te (orcOf (P := Try.prog) [w_szMacRowS_e]) lorc0 [] Try.f119 (pvs [.st .mac, .sc (.int .i64)] (x0, x1, ())) =
  w_szMac_N x0 x1 _ none (fun v => some [(false, [RC.c (.int .i64 v)])]) := by kernel_rfl
theorem w_szMac_p (x0 : Mac) (x1 : Int)   (γ : Type) (fail : γ) (k : Int → γ) : w_szMac_N x0 x1 γ fail k = k (w_szMac x0 x1) := by
  unfold w_szMac_N w_szMac
  exact letT (f := k) (fun c1 hc1 => bifT (f := k) (fun b0 => rfl)
      (fun b0 => rfl))
theorem w_szMac_c (x0 : Mac) (x1 : Int)  : Con Try.prog 119 (pvs [.st .mac, .sc (.int .i64)] (x0, x1, ())) [rv (.sc (.int .i64)) [] (w_szMac x0 x1)] := by
  exact evalFn_con0 teFact mixFact (orcOf_ok _) Try.func119 (by kernel_rfl) ((w_szMac_lk x0 x1).trans (w_szMac_p x0 x1  _ _ _))
noncomputable def w_szMac_e : Ent1 Try.prog := entA 119 [.st .mac, .sc (.int .i64)] (fun x => (w_szMac x.1 x.2.1)) (fun v => [rv (.sc (.int .i64)) [] v]) (fun x => w_szMac_c x.1 x.2.1)

theorem w_szMac_sm (x0 : Mac) (x1 : Int)  (hn : 0 ≤ x1 ∧ x1 ≤ 1048576) (hx0_rows : x0.rows.length ≤ 140737488355328) (hx0_rows_e : ∀ y ∈ x0.rows, ∀ c ∈ Ty.cells .macRow y, FactC c) : (fun v : Int => 0 ≤ v → v ≤ 1048576 ∧ x0.rows.length ≤ 1048576) (w_szMac x0 x1) := by
  unfold w_szMac
  exact letP (P := (fun v : Int => 0 ≤ v → v ≤ 1048576 ∧ x0.rows.length ≤ 1048576)) (fun c1 hc1 => have kc1 := w_szMacRowS_sm x0.rows x1 (by grind [wrap64]) (by assumption) (by assumption); bifP (P := (fun v : Int => 0 ≤ v → v ≤ 1048576 ∧ x0.rows.length ≤ 1048576)) (fun b0 => (by (try simp only [Nat.ble_eq, Bool.and_eq_true, decide_eq_true_eq]); grind [maxSl, maxStr, toBytes_length, toInts_length, List.length_set, wrap64, w_szMacRowS_sm]))
      (fun b0 => (by (try simp only [Nat.ble_eq, Bool.and_eq_true, decide_eq_true_eq]); grind [maxSl, maxStr, toBytes_length, toInts_length, List.length_set, wrap64, w_szMacRowS_sm])))

/-- laws.szReceiver -/
def w_szReceiver_N (x0 : Recv) (x1 : Int) (γ : Type) (fail : γ) (k : Int → γ) : γ :=
  bif (decide ((IntKind.wrap .i64 (x1 - (x0.data.length : Int))) < 0)) then
    k (-1)
  else
  letK (α := Int) (w_szPieceS x0.held (IntKind.wrap .i64 (x1 - (x0.data.length : Int)))) fun c1 =>
  bif (decide (c1 < 0)) then
    k (-1)
  else
  k c1
def w_szReceiver (x0 : Recv) (x1 : Int) : Int :=
  bif (decide ((IntKind.wrap .i64 (x1 - (x0.data.length : Int))) < 0)) then
    (-1)
  else
  letK (α := Int) (w_szPieceS x0.held (IntKind.wrap .i64 (x1 - (x0.data.length : Int)))) fun c1 =>
  bif (decide (c1 < 0)) then
    (-1)
  else
  c1
theorem w_szReceiver_lk (x0 : Recv) (x1 : Int) : evalFn te (orcOf (P := Try.prog) [w_szPieceS_e]) lorc0 [] Try.f183 (pvs [.st .recv, .sc (.int .i64)] (x0, x1, ())) =
  w_szReceiver_N x0 x1 _ none (fun v => some [(false, [RC.c (.int .i64 v)])]) := by kernel_rfl
theorem w_szReceiver_p (x0 : Recv) (x1 : Int)   (γ : Type) (fail : γ) (k : Int → γ) : w_szReceiver_N x0 x1 γ fail k = k (w_szReceiver x0 x1) := by
  unfold w_szReceiver_N w_szReceiver
  exact bifT (f := k) (fun b0 => rfl)
      (fun b0 => letT (f := k) (fun c1 hc1 => bifT (f := k) (fun b1 => rfl)
      (fun b1 => rfl)))
theorem w_szReceiver_c (x0 : Recv) (x1 : Int)  : Con Try.prog 183 (pvs [.st .recv, .sc (.int .i64)] (x0, x1, ())) [rv (.sc (.int .i64)) [] (w_szReceiver x0 x1)] := by
  exact evalFn_con0 teFact mixFact (orcOf_ok _) Try.func183 (by kernel_rfl) ((w_szReceiver_lk x0 x1).trans (w_szReceiver_p x0 x1  _ _ _))
noncomputable def w_szReceiver_e : Ent1 Try.prog := entA 183 [.st .recv, .sc (.int .i64)] (fun x => (w_szReceiver x.1 x.2.1)) (fun v => [rv (.sc (.int .i64)) [] v]) (fun x => w_szReceiver_c x.1 x.2.1)

theorem w_szReceiver_sm (x0 : Recv) (x1 : Int)  (hn : 0 ≤ x1 ∧ x1 ≤ 1048576) (hx0_data : List.length x0.data ≤ 4611686018427387904) (hx0_held : x0.held.length ≤ 140737488355328) (hx0_held_e : ∀ y ∈ x0.held, ∀ c ∈ Ty.cells .piec y, FactC c) : (fun v : Int => 0 ≤ v → v ≤ 1048576 ∧ List.length x0.data ≤ 1048576 ∧ x0.held.length ≤ 1048576) (w_szReceiver x0 x1) := by
  unfold w_szReceiver
  exact bifP (P := (fun v : Int => 0 ≤ v → v ≤ 1048576 ∧ List.length x0.data ≤ 1048576 ∧ x0.held.length ≤ 1048576)) (fun b0 => (by (try simp only [Nat.ble_eq, Bool.and_eq_true, decide_eq_true_eq]); grind [maxSl, maxStr, toBytes_length, toInts_length, List.length_set, wrap64, w_szPieceS_sm]))
      (fun b0 => letP (P := (fun v : Int => 0 ≤ v → v ≤ 1048576 ∧ List.length x0.data ≤ 1048576 ∧ x0.held.length ≤ 1048576)) (fun c1 hc1 => have kc1 := w_szPieceS_sm x0.held (IntKind.wrap .i64 (x1 - (x0.data.length : Int))) (by grind [wrap64]) (by assumption) (by assumption); bifP (P := (fun v : Int => 0 ≤ v → v ≤ 1048576 ∧ List.length x0.data ≤ 1048576 ∧ x0.held.length ≤ 1048576)) (fun b1 => (by (try simp only [Nat.ble_eq, Bool.and_eq_true, decide_eq_true_eq]); grind [maxSl, maxStr, toBytes_length, toInts_length, List.length_set, wrap64, w_szPieceS_sm]))
      (fun b1 => (by (try simp only [Nat.ble_eq, Bool.and_eq_true, decide_eq_true_eq]); grind [maxSl, maxStr, toBytes_length, toInts_length, List.length_set, wrap64, w_szPieceS_sm]))))

/-- laws.szKeys -/
def w_szKeys_N (x0 : Keys) (x1 : Int) (γ : Type) (fail : γ) (k : Int → γ) : γ :=
  letK (α := Int) (w_szMac x0.now x1) fun c1 =>
  bif (decide (c1 < 0)) then
    k (-1)
  else
  letK (α := Int) (w_szMac x0.before c1) fun c2 =>
  bif (decide (c2 < 0)) then
    k (-1)
  else
  k c2
def w_szKeys (x0 : Keys) (x1 : Int) : Int :=
  letK (α := Int) (w_szMac x0.now x1) fun c1 =>
  bif (decide (c1 < 0)) then
    (-1)
  else
  letK (α := Int) (w_szMac x0.before c1) fun c2 =>
  bif (decide (c2 < 0)) then
    (-1)
  else
  c2
theorem w_szKeys_lk (x0 : Keys) (x1 : Int) : evalFn te (orcOf (P := Try.prog) [w_szMac_e]) lorc0 [] Try.f69 (pvs [.st .keys, .sc (.int .i64)] (x0, x1, ())) =
  w_szKeys_N x0 x1 _ none (fun v => some [(false, [RC.c (.int .i64 v)])]) := by kernel_rfl
theorem w_szKeys_p (x0 : Keys) (x1 : Int)   (γ : Type) (fail : γ) (k : Int → γ) : w_szKeys_N x0 x1 γ fail k = k (w_szKeys x0 x1) := by
  unfold w_szKeys_N w_szKeys
  exact letT (f := k) (fun c1 hc1 => bifT (f := k) (fun b0 => rfl)
      (fun b0 => letT (f := k) (fun c2 hc2 => bifT (f := k) (fun b1 => rfl)
      (fun b1 => rfl))))
theorem w_szKeys_c (x0 : Keys) (x1 : Int)  : Con Try.prog 69 (pvs [.st .keys, .sc (.int .i64)] (x0, x1, ())) [rv (.sc (.int .i64)) [] (w_szKeys x0 x1)] := by
  exact evalFn_con0 teFact mixFact (orcOf_ok _) Try.func69 (by kernel_rfl) ((w_szKeys_lk x0 x1).trans (w_szKeys_p x0 x1  _ _ _))
noncomputable def w_szKeys_e : Ent1 Try.prog := entA 69 [.st .keys, .sc (.int .i64)] (fun x => (w_szKeys x.1 x.2.1)) (fun v => [rv (.sc (.int .i64)) [] v]) (fun x => w_szKeys_c x.1 x.2.1)

theorem w_szKeys_sm (x0 : Keys) (x1 : Int)  (hn : 0 ≤ x1 ∧ x1 ≤ 1048576) (hx0_now_rows : x0.now.rows.length ≤ 140737488355328) (hx0_now_rows_e : ∀ y ∈ x0.now.rows, ∀ c ∈ Ty.cells .macRow y, FactC c) (hx0_before_rows : x0.before.rows.length ≤ 140737488355328) (hx0_before_rows_e : ∀ y ∈ x0.before.rows, ∀ c ∈ Ty.cells .macRow y, FactC c) : (fun v : Int => 0 ≤ v → v ≤ 1048576 ∧ x0.now.rows.length ≤ 1048576 ∧ x0.before.rows.length ≤ 1048576) (w_szKeys x0 x1) := by
  unfold w_szKeys
  exact letP (P := (fun v : Int => 0 ≤ v → v ≤ 1048576 ∧ x0.now.rows.length ≤ 1048576 ∧ x0.before.rows.length ≤ 1048576)) (fun c1 hc1 => have kc1 := w_szMac_sm x0.now x1 (by grind [wrap64]) (by assumption) (by assumption); bifP (P := (fun v : Int => 0 ≤ v → v ≤ 1048576 ∧ x0.now.rows.length ≤ 1048576 ∧ x0.before.rows.length ≤ 1048576)) (fun b0 => (by (try simp only [Nat.ble_eq, Bool.and_eq_true, decide_eq_true_eq]); grind [maxSl, maxStr, toBytes_length, toInts_length, List.length_set, wrap64, w_szMac_sm]))
      (fun b0 => letP (P := (fun v : Int => 0 ≤ v → v ≤ 1048576 ∧ x0.now.rows.length ≤ 1048576 ∧ x0.before.rows.length ≤ 1048576)) (fun c2 hc2 => have kc2 := w_szMac_sm x0.before c1 (by grind [wrap64]) (by assumption) (by assumption); bifP (P := (fun v : Int => 0 ≤ v → v ≤ 1048576 ∧ x0.now.rows.length ≤ 1048576 ∧ x0.before.rows.length ≤ 1048576)) (fun b1 => (by (try simp only [Nat.ble_eq, Bool.and_eq_true, decide_eq_true_eq]); grind [maxSl, maxStr, toBytes_length, toInts_length, List.length_set, wrap64, w_szMac_sm]))
      (fun b1 => (by (try simp only [Nat.ble_eq, Bool.and_eq_true, decide_eq_true_eq]); grind [maxSl, maxStr, toBytes_length, toInts_length, List.length_set, wrap64, w_szMac_sm])))))

/-- laws.szConn -/
def w_szConn_N (x0 : Conn) (x1 : Int) (γ : Type) (fail : γ) (k : Int → γ) : γ :=
  letK (α := Int) (w_szSender x0.s x1) fun c1 =>
  bif (decide (c1 < 0)) then
    k (-1)
  else
  letK (α := Int) (w_szReceiver x0.r c1) fun c2 =>
  bif (decide (c2 < 0)) then
    k (-1)
  else
  k c2
def w_szConn (x0 : Conn) (x1 : Int) : Int :=
  letK (α := Int) (w_szSender x0.s x1) fun c1 =>
  bif (decide (c1 < 0)) then
    (-1)
  else
  letK (α := Int) (w_szReceiver x0.r c1) fun c2 =>
  bif (decide (c2 < 0)) then
    (-1)
  else
  c2
theorem w_szConn_lk (x0 : Conn) (x1 : Int) : evalFn te (orcOf (P := Try.prog) [w_szSender_e, w_szReceiver_e]) lorc0 [] Try.f159 (pvs [.st .conn, .sc (.int .i64)] (x0, x1, ())) =
  w_szConn_N x0 x1 _ none (fun v => some [(false, [RC.c (.int .i64 v)])]) := by kernel_rfl
theorem w_szConn_p (x0 : Conn) (x1 : Int)   (γ : Type) (fail : γ) (k : Int → γ) : w_szConn_N x0 x1 γ fail k = k (w_szConn x0 x1) := by
  unfold w_szConn_N w_szConn
  exact letT (f := k) (fun c1 hc1 => bifT (f := k) (fun b0 => rfl)
      (fun b0 => letT (f := k) (fun c2 hc2 => bifT (f := k) (fun b1 => rfl)
      (fun b1 => rfl))))
theorem w_szConn_c (x0 : Conn) (x1 : Int)  : Con Try.prog 159 (pvs [.st .conn, .sc (.int .i64)] (x0, x1, ())) [rv (.sc (.int .i64)) [] (w_szConn x0 x1)] := by
  exact evalFn_con0 teFact mixFact (orcOf_ok _) Try.func159 (by kernel_rfl) ((w_szConn_lk x0 x1).trans (w_szConn_p x0 x1  _ _ _))
noncomputable def w_szConn_e : Ent1 Try.prog := entA 159 [.st .conn, .sc (.int .i64)] (fun x => (w_szConn x.1 x.2.1)) (fun v => [rv (.sc (.int .i64)) [] v]) (fun x => w_szConn_c x.1 x.2.1)

theorem w_szConn_sm (x0 : Conn) (x1 : Int)  (hn : 0 ≤ x1 ∧ x1 ≤ 1048576) (hx0_s_data : List.length x0.s.data ≤ 4611686018427387904) (hx0_r_data : List.length x0.r.data ≤ 4611686018427387904) (hx0_r_held : x0.r.held.length ≤ 140737488355328) (hx0_r_held_e : ∀ y ∈ x0.r.held, ∀ c ∈ Ty.cells .piec y, FactC c) : (fun v : Int => 0 ≤ v → v ≤ 1048576 ∧ List.length x0.s.data ≤ 1048576 ∧ List.length x0.r.data ≤ 1048576 ∧ x0.r.held.length ≤ 1048576) (w_szConn x0 x1) := by
  unfold w_szConn
  exact letP (P := (fun v : Int => 0 ≤ v → v ≤ 1048576 ∧ List.length x0.s.data ≤ 1048576 ∧ List.length x0.r.data ≤ 1048576 ∧ x0.r.held.length ≤ 1048576)) (fun c1 hc1 => have kc1 := w_szSender_sm x0.s x1 (by grind [wrap64]) (by assumption); bifP (P := (fun v : Int => 0 ≤ v → v ≤ 1048576 ∧ List.length x0.s.data ≤ 1048576 ∧ List.length x0.r.data ≤ 1048576 ∧ x0.r.held.length ≤ 1048576)) (fun b0 => (by (try simp only [Nat.ble_eq, Bool.and_eq_true, decide_eq_true_eq]); grind [maxSl, maxStr, toBytes_length, toInts_length, List.length_set, wrap64, w_szSender_sm, w_szReceiver_sm]))
      (fun b0 => letP (P := (fun v : Int => 0 ≤ v → v ≤ 1048576 ∧ List.length x0.s.data ≤ 1048576 ∧ List.length x0.r.data ≤ 1048576 ∧ x0.r.held.length ≤ 1048576)) (fun c2 hc2 => have kc2 := w_szReceiver_sm x0.r c1 (by grind [wrap64]) (by assumption) (by assumption) (by assumption); bifP (P := (fun v : Int => 0 ≤ v → v ≤ 1048576 ∧ List.length x0.s.data ≤ 1048576 ∧ List.length x0.r.data ≤ 1048576 ∧ x0.r.held.length ≤ 1048576)) (fun b1 => (by (try simp only [Nat.ble_eq, Bool.and_eq_true, decide_eq_true_eq]); grind [maxSl, maxStr, toBytes_length, toInts_length, List.length_set, wrap64, w_szSender_sm, w_szReceiver_sm]))
      (fun b1 => (by (try simp only [Nat.ble_eq, Bool.and_eq_true, decide_eq_true_eq]); grind [maxSl, maxStr, toBytes_length, toInts_length, List.length_set, wrap64, w_szSender_sm, w_szReceiver_sm])))))

/-- laws.szConnS -/
def w_szConnS_ann : List (Nat × Keep) := [(0, ⟨[0, 1, 5], [], false, 0⟩)]
def w_szConnS_L0_sh : Sh := ⟨[(0, false, [.sl .arg .conn]), (1, false, [.int .i64]), (5, false, [.int .i64])], []⟩
def w_szConnS_L0_es : List (Ex × Sh) := [(.ret, ⟨[(1, false, [.int .i64]), (4, false, [.int .i64])], []⟩), (.exit 0, ⟨[(1, false, [.int .i64]), (4, false, [.undef])], []⟩)]
def w_szConnS_L0_mk (v0 : List Conn) (v1 : Int) (v2 : Int) : w_szConnS_L0_sh.T := (((v0, ()), ((v1, ()), ((v2, ()), ()))), ())
def w_szConnS_L0_mx0 (y0 : Int) (y1 : Int) : Sh.T ⟨[(1, false, [.int .i64]), (4, false, [.int .i64])], []⟩ := (((y0, ()), ((y1, ()), ())), ())
def w_szConnS_L0_mx1 (y0 : Int) : Sh.T ⟨[(1, false, [.int .i64]), (4, false, [.undef])], []⟩ := (((y0, ()), (((), ()), ())), ())
def w_szConnS_L0_B (v0 : List Conn) (v1 : Int) (v2 : Int) (γ : Type) (fail : γ) (next : w_szConnS_L0_sh.T → γ) (out : WT w_szConnS_L0_es → γ) : γ :=
  bif (decide (v2 < (v0.length : Int))) then
    bif ((decide (0 ≤ v2)) && (decide (v2 < (v0.length : Int)))) then
    letK (α := Int) (w_szConn (v0.getD v2.toNat (Ty.zero .conn)) v1) fun c1 =>
    bif (decide (c1 < 0)) then
      out (Sum.inl (w_szConnS_L0_mx0 c1 (-1)))
    else
    next (w_szConnS_L0_mk v0 c1 (IntKind.wrap .i64 (v2 + 1)))
    else fail
  else
  out (Sum.inr (w_szConnS_L0_mx1 v1))
theorem w_szConnS_L0_par (v0 : List Conn) (v1 : Int) (v2 : Int) (γ : Type) (fail : γ) (next : w_szConnS_L0_sh.T → γ) (out : WT w_szConnS_L0_es → γ) : w_szConnS_L0_B v0 v1 v2 γ fail next out = optK (w_szConnS_L0_B v0 v1 v2 _ none (fun v' => some (.inl v')) (fun w => some (.inr w))) fail (fun r => Sum.elim next out r) := by
  unfold w_szConnS_L0_B
  exact bifT (f := (fun o => optK o fail (fun r => Sum.elim next out r))) (fun _ => bifT (f := (fun o => optK o fail (fun r => Sum.elim next out r))) (fun _ => letT (f := (fun o => optK o fail (fun r => Sum.elim next out r))) (fun c1 _ => bifT (f := (fun o => optK o fail (fun r => Sum.elim next out r))) (fun _ => rfl)
      (fun _ => rfl))) (fun _ => rfl))
      (fun _ => rfl)
def w_szConnS_L0_r : Round w_szConnS_L0_sh.T (WT w_szConnS_L0_es) where
  B v γ fail next out := w_szConnS_L0_B v.1.1.1 v.1.2.1.1 v.1.2.2.1.1 γ fail next out
  par v γ fail next out := w_szConnS_L0_par v.1.1.1 v.1.2.1.1 v.1.2.2.1.1 γ fail next out
def w_szConnS_L0_fu (v0 : List Conn) (v1 : Int) (v2 : Int) : Nat := (Int.toNat ((v0.length : Int) - v2)) + 1
theorem w_szConnS_L0_lk (v : w_szConnS_L0_sh.T) (next : St → Option Res) (k : Ex → St → Option Res) : evalK te (orcOf (P := Try.prog) [w_szConn_e]) (lorcOf []) Try.f120.ntmps w_szConnS_ann (nthLoop (bodyOf Try.f120) 0 0) 0 (w_szConnS_L0_sh.enc v) (endK ⟨[0, 1, 5], [], false, 0⟩ ⟨[1, 4], [], false, 0⟩ next k) =
  w_szConnS_L0_r.B v _ none (fun v' => next (w_szConnS_L0_sh.enc v')) (fun w => outK w_szConnS_L0_es k w) := by kernel_rfl
def w_szConnS_L0_le : LE := leOf 0 w_szConnS_L0_sh w_szConnS_L0_es w_szConnS_L0_r.step (fun v => w_szConnS_L0_fu v.1.1.1 v.1.2.1.1 v.1.2.2.1.1)
theorem w_szConnS_L0_ls (w0 : World) (mo : Mts) (I0 : Nat → Prop) (hmo : mo.length = 0) : LSem Try.prog (Sim w0 mo Try.f120.ntmps I0) (fun b s k => match Nat.beq 0 b with | true => w_szConnS_L0_le.run s k | false => none) 0 (nthLoop (bodyOf Try.f120) 0 0) :=
  le_sem hmo (lorc := lorcOf []) (ann := w_szConnS_ann) (keep := ⟨[0, 1, 5], [], false, 0⟩) (kout := ⟨[1, 4], [], false, 0⟩) teFact mixFact (orcOf_ok _) (by kernel_rfl) (allLoops_of (bs := []) (by kernel_rfl) trivial) w_szConnS_L0_r _ w_szConnS_L0_lk
def w_szConnS_L0_f (v0 : List Conn) (v2 : Int) (a : Int) : Stp (Int) ((Int)) :=
  letK (α := Int) (w_szConn (v0.getD v2.toNat (Ty.zero .conn)) a) fun c1 =>
  bif (decide (c1 < 0)) then
    .out (c1)
  else
  .next c1
theorem w_szConnS_L0_st (v0 : List Conn) (v1 : Int) (v2 : Int) (hlo : 0 ≤ v2) (hhi : v2 < (v0.length : Int)) (hN : (v0.length : Int) ≤ 4611686018427387904) : w_szConnS_L0_r.step (w_szConnS_L0_mk v0 v1 v2) = Stp.elim (fun a' : Int => some (Sum.inl (w_szConnS_L0_mk v0 a' (v2 + 1)))) (fun w => some (Sum.inr ((fun p : Int => Sum.inl (w_szConnS_L0_mx0 p (-1))) w))) (w_szConnS_L0_f v0 v2 v1) := by
  have hw : (IntKind.wrap .i64 (v2 + 1)) = v2 + 1 := wrap64 (by omega) (by omega)
  show w_szConnS_L0_B v0 v1 v2 (Option (w_szConnS_L0_sh.T ⊕ WT w_szConnS_L0_es)) none (fun v' => some (Sum.inl v')) (fun w => some (Sum.inr w)) = _
  unfold w_szConnS_L0_B w_szConnS_L0_f
  exact bifG (by simp only [decide_eq_true_eq]; omega) (bifG (by (try simp only [Nat.ble_eq, Bool.and_eq_true, decide_eq_true_eq]); grind [maxSl, maxStr, toBytes_length, toInts_length, List.length_set, wrap64, w_szConn_sm]) (letT (f := (Stp.elim (fun a' : Int => some (Sum.inl (w_szConnS_L0_mk v0 a' (v2 + 1)))) (fun w => some (Sum.inr ((fun p : Int => Sum.inl (w_szConnS_L0_mx0 p (-1))) w))))) (fun c1 hc1 => bifT (f := (Stp.elim (fun a' : Int => some (Sum.inl (w_szConnS_L0_mk v0 a' (v2 + 1)))) (fun w => some (Sum.inr ((fun p : Int => Sum.inl (w_szConnS_L0_mx0 p (-1))) w))))) (fun b0 => rfl)
      (fun b0 => (by exact congrArg (fun z => some (Sum.inl (w_szConnS_L0_mk v0 c1 z))) hw)))))
theorem w_szConnS_L0_cl (v0 : List Conn) (v1 : Int) (v2 : Int) (h0 : 0 ≤ v2) (h1 : (v0.length : Int) ≤ 4611686018427387904) : loopF w_szConnS_L0_r.step (w_szConnS_L0_fu v0 v1 v2) (w_szConnS_L0_mk v0 v1 v2) = some (Stp.elim (fun a => (fun i a => Sum.inr (w_szConnS_L0_mx1 a)) (v2 + 1 * (((Int.toNat ((v0.length : Int) - v2)) : Nat) : Int)) a) (fun p : Int => Sum.inl (w_szConnS_L0_mx0 p (-1))) (forN (w_szConnS_L0_f v0) 1 (Int.toNat ((v0.length : Int) - v2)) v2 v1)) :=
  forN_loop (step := w_szConnS_L0_r.step) (mk := fun v2 a => w_szConnS_L0_mk v0 a v2) (f := w_szConnS_L0_f v0) (e := (fun i a => Sum.inr (w_szConnS_L0_mx1 a))) (emb := (fun p : Int => Sum.inl (w_szConnS_L0_mx0 p (-1)))) (st := 1) (Inv := fun v2 a => True) (Int.toNat ((v0.length : Int) - v2)) v2 v1 _ (Nat.lt_succ_self _) trivial
    (fun j a hj hv => ⟨w_szConnS_L0_st v0 a (v2 + 1 * (j : Int)) (by omega) (by omega) (by omega), fun _ _ => trivial⟩)
    (fun a hv => by
      show w_szConnS_L0_B v0 a (v2 + 1 * (((Int.toNat ((v0.length : Int) - v2)) : Nat) : Int)) (Option (w_szConnS_L0_sh.T ⊕ WT w_szConnS_L0_es)) none (fun v' => some (Sum.inl v')) (fun w => some (Sum.inr w)) = _
      unfold w_szConnS_L0_B
      exact bifN (by simp only [decide_eq_false_iff_not]; omega) rfl)
def w_szConnS_N (x0 : List Conn) (x1 : Int) (γ : Type) (fail : γ) (k : Int → γ) : γ :=
  bif (decide ((IntKind.wrap .i64 (x1 - (x0.length : Int))) < 0)) then
    k (-1)
  else
  optK (loopF w_szConnS_L0_r.step (w_szConnS_L0_fu x0 (IntKind.wrap .i64 (x1 - (x0.length : Int))) 0) (w_szConnS_L0_mk x0 (IntKind.wrap .i64 (x1 - (x0.length : Int))) 0)) fail fun w2 =>
    Sum.elim (fun w2 =>
      k w2.1.2.1.1)
    (fun w2 =>
      k w2.1.1.1) w2
def w_szConnS (x0 : List Conn) (x1 : Int) : Int :=
  bif (decide ((IntKind.wrap .i64 (x1 - (x0.length : Int))) < 0)) then
    (-1)
  else
  Stp.elim (fun a3 =>
    a3)
    (fun p3 =>
      (-1))
    (forN (w_szConnS_L0_f x0) 1 (Int.toNat ((x0.length : Int) - 0)) 0 (IntKind.wrap .i64 (x1 - (x0.length : Int))))
theorem w_szConnS_lk (x0 : List Conn) (x1 : Int) : evalFn te (orcOf (P := Try.prog) [w_szConn_e]) (lorcOf [w_szConnS_L0_le]) w_szConnS_ann Try.f120 (pvs [.sc (.sl .conn), .sc (.int .i64)] (x0, x1, ())) =
  w_szConnS_N x0 x1 _ none (fun v => some [(false, [RC.c (.int .i64 v)])]) := by kernel_rfl
theorem w_szConnS_p (x0 : List Conn) (x1 : Int) (hx0 : x0.length ≤ 140737488355328) (hx0_e : ∀ y ∈ x0, ∀ c ∈ Ty.cells .conn y, FactC c) (hx1 : inK .i64 x1)  (γ : Type) (fail : γ) (k : Int → γ) : w_szConnS_N x0 x1 γ fail k = k (w_szConnS x0 x1) := by
  unfold w_szConnS_N w_szConnS
  exact bifT (f := k) (fun b0 => rfl)
      (fun b0 => loopT (f := k) (w_szConnS_L0_cl x0 (IntKind.wrap .i64 (x1 - (x0.length : Int))) 0 (by (try simp only [Nat.ble_eq, Bool.and_eq_true, decide_eq_true_eq, w_szConnS_L0_mx0, w_szConnS_L0_mx1]); grind [maxSl, maxStr, toBytes_length, toInts_length, List.length_set, wrap64, w_szConn_sm]) (by (try simp only [Nat.ble_eq, Bool.and_eq_true, decide_eq_true_eq, w_szConnS_L0_mx0, w_szConnS_L0_mx1]); grind [maxSl, maxStr, toBytes_length, toInts_length, List.length_set, wrap64, w_szConn_sm])) (fun a3 => rfl)
      (fun p3 => rfl))
theorem w_szConnS_c (x0 : List Conn) (x1 : Int)  : Con Try.prog 120 (pvs [.sc (.sl .conn), .sc (.int .i64)] (x0, x1, ())) [rv (.sc (.int .i64)) [] (w_szConnS x0 x1)] := by
  refine Con.of_facts (enters_of Try.func120 rfl (by kernel_rfl)) fun hf => ?_
  replace hf := factAt hf
  exact evalFn_conL teFact mixFact (orcOf_ok _) Try.func120 (by kernel_rfl) (bs := [0]) (by kernel_rfl) (by kernel_rfl) (fun w0 mo I0 hmo => ⟨lsem_of_lorc (w_szConnS_L0_ls w0 mo I0 hmo) (by kernel_rfl), trivial⟩) ((w_szConnS_lk x0 x1).trans (w_szConnS_p x0 x1 ((hf 0 0 rfl rfl).len) (fun y hy => (hf 0 0 rfl rfl).elem hy) ((hf 1 0 rfl rfl).rng) _ _ _))
noncomputable def w_szConnS_e : Ent1 Try.prog := entA 120 [.sc (.sl .conn), .sc (.int .i64)] (fun x => (w_szConnS x.1 x.2.1)) (fun v => [rv (.sc (.int .i64)) [] v]) (fun x => w_szConnS_c x.1 x.2.1)


theorem toHalfS_eq (xs : List Half) : w_toHalfS xs = xs := by
  unfold w_toHalfS
  try simp only [letK_eq]
  rw [toNat_sub0, forN_list xs _ rfl (F := fun j x a => .next (a.set j x)) (by
    intro j x a h
    simp only [w_toHalfS_L0_f, letK_eq, toNat_cast, getD_some h, toHalf_eq])]
  have := fun r hr => listN_fill (W := Empty) (fun x => x) xs 0 r hr
  rw [this _ (by simp)]
  simp [Stp.elim]

theorem w_szConnS_sm (x0 : List Conn) (x1 : Int) (hn : 0 ≤ x1 ∧ x1 ≤ 1048576) (hx0 : x0.length ≤ 140737488355328) (hx0_e : ∀ y ∈ x0, ∀ c ∈ Ty.cells .conn y, FactC c) : 0 ≤ w_szConnS x0 x1 → w_szConnS x0 x1 ≤ 1048576 ∧ x0.length ≤ 1048576 ∧ sm_conn x0 = true := by
  unfold w_szConnS
  rw [wrap64 (by omega) (by omega)]
  cases hd : decide (x1 - (x0.length : Int) < 0) with
  | true => intro h; simp only [cond_true] at h; omega
  | false =>
    simp only [decide_eq_false_iff_not] at hd
    simp only [cond_false]
    cases hf : forN (w_szConnS_L0_f x0) 1 (Int.toNat ((x0.length : Int) - 0)) 0 (x1 - (x0.length : Int)) with
    | out p => intro h; simp only [Stp.elim] at h; omega
    | next a =>
      have h5 : (0 ≤ a ∧ a ≤ 1048576) ∧ ∀ t : Nat, (t : Int) < 0 + 1 * ((Int.toNat ((x0.length : Int) - 0) : Nat) : Int) → ((x0.getD t (Ty.zero .conn)).s.data).length ≤ 1048576 ∧ ((x0.getD t (Ty.zero .conn)).r.data).length ≤ 1048576 ∧ ((x0.getD t (Ty.zero .conn)).r.held).length ≤ 1048576 := by
        refine forN_inv (Inv := fun j a => (0 ≤ a ∧ a ≤ 1048576) ∧ ∀ t : Nat, (t : Int) < j → ((x0.getD t (Ty.zero .conn)).s.data).length ≤ 1048576 ∧ ((x0.getD t (Ty.zero .conn)).r.data).length ≤ 1048576 ∧ ((x0.getD t (Ty.zero .conn)).r.held).length ≤ 1048576) _ _ _ ⟨by omega, fun t h => by omega⟩ (fun j a hjj h a2 he => ?_) a hf
        have hz : ∀ c ∈ Ty.cells .conn (x0.getD (0 + 1 * (j : Int)).toNat (Ty.zero .conn)), FactC c := getD_all (p := fun y => ∀ c ∈ Ty.cells .conn y, FactC c) (factZero _) hx0_e _
        have hq : ∀ y : Conn, (∀ c ∈ Ty.cells .conn y, FactC c) → 0 ≤ w_szConn y a → w_szConn y a ≤ 1048576 ∧ (y.s.data).length ≤ 1048576 ∧ (y.r.data).length ≤ 1048576 ∧ (y.r.held).length ≤ 1048576 := fun y hy h0 => w_szConn_sm y a h.1 (hy (.str y.s.data) (List.mem_cons_of_mem _ (List.mem_cons_of_mem _ (List.mem_cons_of_mem _ (List.mem_cons_of_mem _ (List.mem_cons_of_mem _ List.mem_cons_self)))))).slen (hy (.str y.r.data) (List.mem_cons_of_mem _ (List.mem_cons_of_mem _ (List.mem_cons_of_mem _ (List.mem_cons_of_mem _ (List.mem_cons_of_mem _ (List.mem_cons_of_mem _ (List.mem_cons_of_mem _ (List.mem_cons_of_mem _ (List.mem_cons_of_mem _ (List.mem_cons_of_mem _ (List.mem_cons_of_mem _ List.mem_cons_self)))))))))))).slen (hy (.sl .piec y.r.held) (List.mem_cons_of_mem _ (List.mem_cons_of_mem _ (List.mem_cons_of_mem _ (List.mem_cons_of_mem _ (List.mem_cons_of_mem _ (List.mem_cons_of_mem _ (List.mem_cons_of_mem _ (List.mem_cons_of_mem _ (List.mem_cons_of_mem _ (List.mem_cons_of_mem _ (List.mem_cons_of_mem _ (List.mem_cons_of_mem _ List.mem_cons_self))))))))))))).len (fun z hz => (hy (.sl .piec y.r.held) (List.mem_cons_of_mem _ (List.mem_cons_of_mem _ (List.mem_cons_of_mem _ (List.mem_cons_of_mem _ (List.mem_cons_of_mem _ (List.mem_cons_of_mem _ (List.mem_cons_of_mem _ (List.mem_cons_of_mem _ (List.mem_cons_of_mem _ (List.mem_cons_of_mem _ (List.mem_cons_of_mem _ (List.mem_cons_of_mem _ List.mem_cons_self))))))))))))).elem hz) h0
        unfold w_szConnS_L0_f at he
        simp only [letK_eq] at he
        cases hc : decide (w_szConn (x0.getD (0 + 1 * (j : Int)).toNat (Ty.zero .conn)) a < 0) <;> rw [hc] at he <;> cases he
        simp only [decide_eq_false_iff_not] at hc
        have h6 := hq _ hz (by omega)
        refine ⟨⟨by omega, h6.1⟩, fun t ht => ?_⟩
        rcases (show (t : Int) < 0 + 1 * (j : Int) ∨ t = j by omega) with h7 | h7
        · exact h.2 t h7
        · subst h7
          have h8 := h6.2
          rw [show (0 + 1 * (t : Int)).toNat = t by omega] at h8
          exact h8
      rw [toNat_sub0] at h5
      intro _; simp only [Stp.elim]; exact ⟨h5.1.2, by omega, sm_conn_of fun t ht => h5.2 t (by omega)⟩

theorem eqHalf_refl (x : Half) : w_eqHalf x x = true := by simp [w_eqHalf, letK, eqTuple_refl, eqOptions_refl]

theorem eqTupleS_refl (xs : List Tupl) : w_eqTupleS xs xs = true := by
  unfold w_eqTupleS
  rw [toNat_sub0, forN_list xs _ rfl (F := fun j x a => bif (fun _ => false) x then .out () else .next ()) (by
    intro j x a h
    simp [w_eqTupleS_L0_f, letK, toNat_cast, eqTuple_refl])]
  rw [listN_all xs 0 (by simp)]
  simp [Stp.elim]

theorem toMacRowS_eq (xs : List MacRow) : w_toMacRowS xs = xs := by
  unfold w_toMacRowS
  try simp only [letK_eq]
  rw [toNat_sub0, forN_list xs _ rfl (F := fun j x a => .next (a.set j x)) (by
    intro j x a h
    simp only [w_toMacRowS_L0_f, letK_eq, toNat_cast, getD_some h, toMacRow_eq])]
  have := fun r hr => listN_fill (W := Empty) (fun x => x) xs 0 r hr
  rw [this _ (by simp)]
  simp [Stp.elim]

theorem eqMacRowS_refl (xs : List MacRow) : w_eqMacRowS xs xs = true := by
  unfold w_eqMacRowS
  rw [toNat_sub0, forN_list xs _ rfl (F := fun j x a => bif (fun _ => false) x then .out () else .next ()) (by
    intro j x a h
    simp [w_eqMacRowS_L0_f, letK, toNat_cast, eqMacRow_refl])]
  rw [listN_all xs 0 (by simp)]
  simp [Stp.elim]

theorem toPieceS_eq (xs : List Piec) : w_toPieceS xs = xs := by
  unfold w_toPieceS
  try simp only [letK_eq]
  rw [toNat_sub0, forN_list xs _ rfl (F := fun j x a => .next (a.set j x)) (by
    intro j x a h
    simp only [w_toPieceS_L0_f, letK_eq, toNat_cast, getD_some h, toPiece_eq])]
  have := fun r hr => listN_fill (W := Empty) (fun x => x) xs 0 r hr
  rw [this _ (by simp)]
  simp [Stp.elim]

theorem eqPieceS_refl (xs : List Piec) : w_eqPieceS xs xs = true := by
  unfold w_eqPieceS
  rw [toNat_sub0, forN_list xs _ rfl (F := fun j x a => bif (fun _ => false) x then .out () else .next ()) (by
    intro j x a h
    simp [w_eqPieceS_L0_f, letK, toNat_cast, eqPiece_refl])]
  rw [listN_all xs 0 (by simp)]
  simp [Stp.elim]

/-- laws.szTable -/
def w_szTable_N (x0 : Tabl) (x1 : Int) (γ : Type) (fail : γ) (k : Int → γ) : γ :=
  letK (α := Int) (w_szConnS x0.conns x1) fun c1 =>
  bif (decide (c1 < 0)) then
    k (-1)
  else
  letK (α := Int) (w_szTupleS x0.waiting c1) fun c2 =>
  bif (decide (c2 < 0)) then
    k (-1)
  else
  k c2
def w_szTable (x0 : Tabl) (x1 : Int) : Int :=
  letK (α := Int) (w_szConnS x0.conns x1) fun c1 =>
  bif (decide (c1 < 0)) then
    (-1)
  else
  letK (α := Int) (w_szTupleS x0.waiting c1) fun c2 =>
  bif (decide (c2 < 0)) then
    (-1)
  else
  c2
theorem w_szTable_lk (x0 : Tabl) (x1 : Int) : evalFn te (orcOf (P := Try.prog) [w_szConnS_e, w_szTupleS_e]) lorc0 [] Try.f71 (pvs [.st .tabl, .sc (.int .i64)] (x0, x1, ())) =
  w_szTable_N x0 x1 _ none (fun v => some [(false, [RC.c (.int .i64 v)])]) := by kernel_rfl
theorem w_szTable_p (x0 : Tabl) (x1 : Int)   (γ : Type) (fail : γ) (k : Int → γ) : w_szTable_N x0 x1 γ fail k = k (w_szTable x0 x1) := by
  unfold w_szTable_N w_szTable
  exact letT (f := k) (fun c1 hc1 => bifT (f := k) (fun b0 => rfl)
      (fun b0 => letT (f := k) (fun c2 hc2 => bifT (f := k) (fun b1 => rfl)
      (fun b1 => rfl))))
theorem w_szTable_c (x0 : Tabl) (x1 : Int)  : Con Try.prog 71 (pvs [.st .tabl, .sc (.int .i64)] (x0, x1, ())) [rv (.sc (.int .i64)) [] (w_szTable x0 x1)] := by
  exact evalFn_con0 teFact mixFact (orcOf_ok _) Try.func71 (by kernel_rfl) ((w_szTable_lk x0 x1).trans (w_szTable_p x0 x1  _ _ _))
noncomputable def w_szTable_e : Ent1 Try.prog := entA 71 [.st .tabl, .sc (.int .i64)] (fun x => (w_szTable x.1 x.2.1)) (fun v => [rv (.sc (.int .i64)) [] v]) (fun x => w_szTable_c x.1 x.2.1)

theorem w_szTable_sm (x0 : Tabl) (x1 : Int)  (hn : 0 ≤ x1 ∧ x1 ≤ 1048576) (hx0_conns : x0.conns.length ≤ 140737488355328) (hx0_conns_e : ∀ y ∈ x0.conns, ∀ c ∈ Ty.cells .conn y, FactC c) (hx0_waiting : x0.waiting.length ≤ 140737488355328) : (fun v : Int => 0 ≤ v → v ≤ 1048576 ∧ x0.conns.length ≤ 1048576 ∧ x0.waiting.length ≤ 1048576 ∧ sm_conn x0.conns = true) (w_szTable x0 x1) := by
  unfold w_szTable
  exact letP (P := (fun v : Int => 0 ≤ v → v ≤ 1048576 ∧ x0.conns.length ≤ 1048576 ∧ x0.waiting.length ≤ 1048576 ∧ sm_conn x0.conns = true)) (fun c1 hc1 => have kc1 := w_szConnS_sm x0.conns x1 (by grind [wrap64]) (by assumption) (by assumption); bifP (P := (fun v : Int => 0 ≤ v → v ≤ 1048576 ∧ x0.conns.length ≤ 1048576 ∧ x0.waiting.length ≤ 1048576 ∧ sm_conn x0.conns = true)) (fun b0 => (by (try simp only [Nat.ble_eq, Bool.and_eq_true, decide_eq_true_eq]); grind [maxSl, maxStr, toBytes_length, toInts_length, List.length_set, wrap64, w_szConnS_sm, w_szTupleS_sm]))
      (fun b0 => letP (P := (fun v : Int => 0 ≤ v → v ≤ 1048576 ∧ x0.conns.length ≤ 1048576 ∧ x0.waiting.length ≤ 1048576 ∧ sm_conn x0.conns = true)) (fun c2 hc2 => have kc2 := w_szTupleS_sm x0.waiting c1 (by grind [wrap64]) (by assumption); bifP (P := (fun v : Int => 0 ≤ v → v ≤ 1048576 ∧ x0.conns.length ≤ 1048576 ∧ x0.waiting.length ≤ 1048576 ∧ sm_conn x0.conns = true)) (fun b1 => (by (try simp only [Nat.ble_eq, Bool.and_eq_true, decide_eq_true_eq]); grind [maxSl, maxStr, toBytes_length, toInts_length, List.length_set, wrap64, w_szConnS_sm, w_szTupleS_sm]))
      (fun b1 => (by (try simp only [Nat.ble_eq, Bool.and_eq_true, decide_eq_true_eq]); grind [maxSl, maxStr, toBytes_length, toInts_length, List.length_set, wrap64, w_szConnS_sm, w_szTupleS_sm])))))

/-- laws.szDoor -/
def w_szDoor_N (x0 : Door) (x1 : Int) (γ : Type) (fail : γ) (k : Int → γ) : γ :=
  letK (α := Int) (w_szKeys x0.keys x1) fun c1 =>
  bif (decide (c1 < 0)) then
    k (-1)
  else
  letK (α := Int) (w_szHalfS x0.halves c1) fun c2 =>
  bif (decide (c2 < 0)) then
    k (-1)
  else
  letK (α := Int) (w_szTable x0.table c2) fun c3 =>
  bif (decide (c3 < 0)) then
    k (-1)
  else
  k c3
def w_szDoor (x0 : Door) (x1 : Int) : Int :=
  letK (α := Int) (w_szKeys x0.keys x1) fun c1 =>
  bif (decide (c1 < 0)) then
    (-1)
  else
  letK (α := Int) (w_szHalfS x0.halves c1) fun c2 =>
  bif (decide (c2 < 0)) then
    (-1)
  else
  letK (α := Int) (w_szTable x0.table c2) fun c3 =>
  bif (decide (c3 < 0)) then
    (-1)
  else
  c3
theorem w_szDoor_lk (x0 : Door) (x1 : Int) : evalFn te (orcOf (P := Try.prog) [w_szKeys_e, w_szHalfS_e, w_szTable_e]) lorc0 [] Try.f23 (pvs [.st .door, .sc (.int .i64)] (x0, x1, ())) =
  w_szDoor_N x0 x1 _ none (fun v => some [(false, [RC.c (.int .i64 v)])]) := by kernel_rfl
theorem w_szDoor_p (x0 : Door) (x1 : Int)   (γ : Type) (fail : γ) (k : Int → γ) : w_szDoor_N x0 x1 γ fail k = k (w_szDoor x0 x1) := by
  unfold w_szDoor_N w_szDoor
  exact letT (f := k) (fun c1 hc1 => bifT (f := k) (fun b0 => rfl)
      (fun b0 => letT (f := k) (fun c2 hc2 => bifT (f := k) (fun b1 => rfl)
      (fun b1 => letT (f := k) (fun c3 hc3 => bifT (f := k) (fun b2 => rfl)
      (fun b2 => rfl))))))
theorem w_szDoor_c (x0 : Door) (x1 : Int)  : Con Try.prog 23 (pvs [.st .door, .sc (.int .i64)] (x0, x1, ())) [rv (.sc (.int .i64)) [] (w_szDoor x0 x1)] := by
  exact evalFn_con0 teFact mixFact (orcOf_ok _) Try.func23 (by kernel_rfl) ((w_szDoor_lk x0 x1).trans (w_szDoor_p x0 x1  _ _ _))
noncomputable def w_szDoor_e : Ent1 Try.prog := entA 23 [.st .door, .sc (.int .i64)] (fun x => (w_szDoor x.1 x.2.1)) (fun v => [rv (.sc (.int .i64)) [] v]) (fun x => w_szDoor_c x.1 x.2.1)

theorem w_szDoor_sm (x0 : Door) (x1 : Int)  (hn : 0 ≤ x1 ∧ x1 ≤ 1048576) (hx0_keys_now_rows : x0.keys.now.rows.length ≤ 140737488355328) (hx0_keys_now_rows_e : ∀ y ∈ x0.keys.now.rows, ∀ c ∈ Ty.cells .macRow y, FactC c) (hx0_keys_before_rows : x0.keys.before.rows.length ≤ 140737488355328) (hx0_keys_before_rows_e : ∀ y ∈ x0.keys.before.rows, ∀ c ∈ Ty.cells .macRow y, FactC c) (hx0_halves : x0.halves.length ≤ 140737488355328) (hx0_table_conns : x0.table.conns.length ≤ 140737488355328) (hx0_table_conns_e : ∀ y ∈ x0.table.conns, ∀ c ∈ Ty.cells .conn y, FactC c) (hx0_table_waiting : x0.table.waiting.length ≤ 140737488355328) : (fun v : Int => 0 ≤ v → v ≤ 1048576 ∧ x0.keys.now.rows.length ≤ 1048576 ∧ x0.keys.before.rows.length ≤ 1048576 ∧ x0.halves.length ≤ 1048576 ∧ x0.table.conns.length ≤ 1048576 ∧ x0.table.waiting.length ≤ 1048576 ∧ sm_conn x0.table.conns = true) (w_szDoor x0 x1) := by
  unfold w_szDoor
  exact letP (P := (fun v : Int => 0 ≤ v → v ≤ 1048576 ∧ x0.keys.now.rows.length ≤ 1048576 ∧ x0.keys.before.rows.length ≤ 1048576 ∧ x0.halves.length ≤ 1048576 ∧ x0.table.conns.length ≤ 1048576 ∧ x0.table.waiting.length ≤ 1048576 ∧ sm_conn x0.table.conns = true)) (fun c1 hc1 => have kc1 := w_szKeys_sm x0.keys x1 (by grind [wrap64]) (by assumption) (by assumption) (by assumption) (by assumption); bifP (P := (fun v : Int => 0 ≤ v → v ≤ 1048576 ∧ x0.keys.now.rows.length ≤ 1048576 ∧ x0.keys.before.rows.length ≤ 1048576 ∧ x0.halves.length ≤ 1048576 ∧ x0.table.conns.length ≤ 1048576 ∧ x0.table.waiting.length ≤ 1048576 ∧ sm_conn x0.table.conns = true)) (fun b0 => (by (try simp only [Nat.ble_eq, Bool.and_eq_true, decide_eq_true_eq]); grind [maxSl, maxStr, toBytes_length, toInts_length, List.length_set, wrap64, w_szKeys_sm, w_szHalfS_sm, w_szTable_sm]))
      (fun b0 => letP (P := (fun v : Int => 0 ≤ v → v ≤ 1048576 ∧ x0.keys.now.rows.length ≤ 1048576 ∧ x0.keys.before.rows.length ≤ 1048576 ∧ x0.halves.length ≤ 1048576 ∧ x0.table.conns.length ≤ 1048576 ∧ x0.table.waiting.length ≤ 1048576 ∧ sm_conn x0.table.conns = true)) (fun c2 hc2 => have kc2 := w_szHalfS_sm x0.halves c1 (by grind [wrap64]) (by assumption); bifP (P := (fun v : Int => 0 ≤ v → v ≤ 1048576 ∧ x0.keys.now.rows.length ≤ 1048576 ∧ x0.keys.before.rows.length ≤ 1048576 ∧ x0.halves.length ≤ 1048576 ∧ x0.table.conns.length ≤ 1048576 ∧ x0.table.waiting.length ≤ 1048576 ∧ sm_conn x0.table.conns = true)) (fun b1 => (by (try simp only [Nat.ble_eq, Bool.and_eq_true, decide_eq_true_eq]); grind [maxSl, maxStr, toBytes_length, toInts_length, List.length_set, wrap64, w_szKeys_sm, w_szHalfS_sm, w_szTable_sm]))
      (fun b1 => letP (P := (fun v : Int => 0 ≤ v → v ≤ 1048576 ∧ x0.keys.now.rows.length ≤ 1048576 ∧ x0.keys.before.rows.length ≤ 1048576 ∧ x0.halves.length ≤ 1048576 ∧ x0.table.conns.length ≤ 1048576 ∧ x0.table.waiting.length ≤ 1048576 ∧ sm_conn x0.table.conns = true)) (fun c3 hc3 => have kc3 := w_szTable_sm x0.table c2 (by grind [wrap64]) (by assumption) (by assumption) (by assumption); bifP (P := (fun v : Int => 0 ≤ v → v ≤ 1048576 ∧ x0.keys.now.rows.length ≤ 1048576 ∧ x0.keys.before.rows.length ≤ 1048576 ∧ x0.halves.length ≤ 1048576 ∧ x0.table.conns.length ≤ 1048576 ∧ x0.table.waiting.length ≤ 1048576 ∧ sm_conn x0.table.conns = true)) (fun b2 => (by (try simp only [Nat.ble_eq, Bool.and_eq_true, decide_eq_true_eq]); grind [maxSl, maxStr, toBytes_length, toInts_length, List.length_set, wrap64, w_szKeys_sm, w_szHalfS_sm, w_szTable_sm]))
      (fun b2 => (by (try simp only [Nat.ble_eq, Bool.and_eq_true, decide_eq_true_eq]); grind [maxSl, maxStr, toBytes_length, toInts_length, List.length_set, wrap64, w_szKeys_sm, w_szHalfS_sm, w_szTable_sm])))))))

theorem eqHalfS_refl (xs : List Half) : w_eqHalfS xs xs = true := by
  unfold w_eqHalfS
  rw [toNat_sub0, forN_list xs _ rfl (F := fun j x a => bif (fun _ => false) x then .out () else .next ()) (by
    intro j x a h
    simp [w_eqHalfS_L0_f, letK, toNat_cast, eqHalf_refl])]
  rw [listN_all xs 0 (by simp)]
  simp [Stp.elim]

theorem toMac_eq (x : Mac) : w_toMac x = x := by
  first | rfl | simp only [w_toMac, letK, toMacRowS_eq] | (simp [w_toMac, letK, toMacRowS_eq])

theorem eqMac_refl (x : Mac) : w_eqMac x x = true := by simp [w_eqMac, letK, eqMacRowS_refl]

theorem toReceiver_eq (x : Recv) : w_toReceiver x = x := by
  first | rfl | simp only [w_toReceiver, letK, toPieceS_eq] | (simp [w_toReceiver, letK, toPieceS_eq])

theorem eqReceiver_refl (x : Recv) : w_eqReceiver x x = true := by simp [w_eqReceiver, letK, eqPieceS_refl]

theorem toKeys_eq (x : Keys) : w_toKeys x = x := by
  first | rfl | simp only [w_toKeys, letK, toMac_eq] | (simp [w_toKeys, letK, toMac_eq])

theorem eqKeys_refl (x : Keys) : w_eqKeys x x = true := by simp [w_eqKeys, letK, eqMac_refl]

theorem toConn_eq (x : Conn) : w_toConn x = x := by
  first | rfl | simp only [w_toConn, letK, toTuple_eq, toSender_eq, toReceiver_eq, toOptions_eq] | (simp [w_toConn, letK, toTuple_eq, toSender_eq, toReceiver_eq, toOptions_eq])

theorem eqConn_refl (x : Conn) : w_eqConn x x = true := by simp [w_eqConn, letK, eqTuple_refl, eqSender_refl, eqReceiver_refl, eqOptions_refl]

theorem toConnS_eq (xs : List Conn) : w_toConnS xs = xs := by
  unfold w_toConnS
  try simp only [letK_eq]
  rw [toNat_sub0, forN_list xs _ rfl (F := fun j x a => .next (a.set j x)) (by
    intro j x a h
    simp only [w_toConnS_L0_f, letK_eq, toNat_cast, getD_some h, toConn_eq])]
  have := fun r hr => listN_fill (W := Empty) (fun x => x) xs 0 r hr
  rw [this _ (by simp)]
  simp [Stp.elim]

theorem eqConnS_refl (xs : List Conn) : w_eqConnS xs xs = true := by
  unfold w_eqConnS
  rw [toNat_sub0, forN_list xs _ rfl (F := fun j x a => bif (fun _ => false) x then .out () else .next ()) (by
    intro j x a h
    simp [w_eqConnS_L0_f, letK, toNat_cast, eqConn_refl])]
  rw [listN_all xs 0 (by simp)]
  simp [Stp.elim]

theorem toTable_eq (x : Tabl) : w_toTable x = x := by
  first | rfl | simp only [w_toTable, letK, toConnS_eq, toTupleS_eq] | (simp [w_toTable, letK, toConnS_eq, toTupleS_eq])

theorem eqTable_refl (x : Tabl) : w_eqTable x x = true := by simp [w_eqTable, letK, eqConnS_refl, eqTupleS_refl]

theorem toDoor_eq (x : Door) : w_toDoor x = x := by
  first | rfl | simp only [w_toDoor, letK, toKeys_eq, toLimits_eq, toHalfS_eq, toTable_eq] | (simp [w_toDoor, letK, toKeys_eq, toLimits_eq, toHalfS_eq, toTable_eq])

theorem eqDoor_refl (x : Door) : w_eqDoor x x = true := by simp [w_eqDoor, letK, eqKeys_refl, eqLimits_refl, eqHalfS_refl, eqTable_refl]

/-- laws.FnExactRetained -/
def w_FnExactRetained_N (x0 : Door) (γ : Type) (fail : γ) (k : Bool → γ) : γ :=
  letK (α := Int) (w_szDoor x0 1048576) fun c1 =>
  bif (decide (c1 < 0)) then
    k true
  else
  bif (decide (x0.keys.now.rows.length ≤ 4294967296 ∧ x0.keys.before.rows.length ≤ 4294967296 ∧ x0.halves.length ≤ 4294967296 ∧ x0.table.conns.length ≤ 4294967296 ∧ sm_conn x0.table.conns = true ∧ x0.table.waiting.length ≤ 4294967296)) then
  letK (α := Door) (w_toDoor x0) fun c2 =>
  letK (α := Int) (s_Retained c2) fun c3 =>
  bif (decide (x0.keys.now.rows.length ≤ 4294967296 ∧ x0.keys.before.rows.length ≤ 4294967296 ∧ x0.halves.length ≤ 4294967296 ∧ x0.table.conns.length ≤ 4294967296 ∧ sm_conn x0.table.conns = true ∧ x0.table.waiting.length ≤ 4294967296)) then
  letK (α := Door) (w_toDoor x0) fun c4 =>
  letK (α := Int) (i_Retained c4) fun c5 =>
  bif (c5 != c3) then
    k false
  else
  bif (decide (x0.keys.now.rows.length ≤ 4294967296 ∧ x0.keys.before.rows.length ≤ 4294967296 ∧ x0.halves.length ≤ 4294967296 ∧ x0.table.conns.length ≤ 4294967296 ∧ sm_conn x0.table.conns = true ∧ x0.table.waiting.length ≤ 4294967296)) then
  letK (α := Door) (w_toDoor x0) fun c6 =>
  letK (α := Bool) (w_eqDoor c4 c6) fun c7 =>
  bif (!c7) then
    k false
  else
  k true
  else fail
  else fail
  else fail
def w_FnExactRetained (x0 : Door) : Bool :=
  letK (α := Int) (w_szDoor x0 1048576) fun c1 =>
  bif (decide (c1 < 0)) then
    true
  else
  letK (α := Door) (w_toDoor x0) fun c2 =>
  letK (α := Int) (s_Retained c2) fun c3 =>
  letK (α := Door) (w_toDoor x0) fun c4 =>
  letK (α := Int) (i_Retained c4) fun c5 =>
  bif (c5 != c3) then
    false
  else
  letK (α := Door) (w_toDoor x0) fun c6 =>
  letK (α := Bool) (w_eqDoor c4 c6) fun c7 =>
  bif (!c7) then
    false
  else
  true
theorem w_FnExactRetained_lk (x0 : Door) : evalFn te (orcOf (P := Try.prog) [w_szDoor_e, w_toDoor_e, s_Retained_e, i_Retained_e, w_eqDoor_e]) lorc0 [] Try.f5 (pvs [.st .door] (x0, ())) =
  w_FnExactRetained_N x0 _ none (fun v => some [(false, [RC.c (.bool v)])]) := by kernel_rfl
theorem w_FnExactRetained_p (x0 : Door) (hx0_port : inK .i64 x0.port) (hx0_clock : inK .i64 x0.clock) (hx0_keys_epoch : inK .i64 x0.keys.epoch) (hx0_keys_now_k : inK .u64 x0.keys.now.k) (hx0_keys_now_l : inK .u64 x0.keys.now.l) (hx0_keys_now_rows : x0.keys.now.rows.length ≤ 140737488355328) (hx0_keys_now_rows_e : ∀ y ∈ x0.keys.now.rows, ∀ c ∈ Ty.cells .macRow y, FactC c) (hx0_keys_before_k : inK .u64 x0.keys.before.k) (hx0_keys_before_l : inK .u64 x0.keys.before.l) (hx0_keys_before_rows : x0.keys.before.rows.length ≤ 140737488355328) (hx0_keys_before_rows_e : ∀ y ∈ x0.keys.before.rows, ∀ c ∈ Ty.cells .macRow y, FactC c) (hx0_limits_halves : inK .i64 x0.limits.halves) (hx0_limits_waiting : inK .i64 x0.limits.waiting) (hx0_limits_conns : inK .i64 x0.limits.conns) (hx0_limits_chal : inK .i64 x0.limits.chal) (hx0_halves : x0.halves.length ≤ 140737488355328) (hx0_table_conns : x0.table.conns.length ≤ 140737488355328) (hx0_table_conns_e : ∀ y ∈ x0.table.conns, ∀ c ∈ Ty.cells .conn y, FactC c) (hx0_table_waiting : x0.table.waiting.length ≤ 140737488355328) (hx0_chal : inK .i64 x0.chal)  (γ : Type) (fail : γ) (k : Bool → γ) : w_FnExactRetained_N x0 γ fail k = k (w_FnExactRetained x0) := by
  unfold w_FnExactRetained_N w_FnExactRetained
  exact letT (f := k) (fun c1 hc1 => have kc1 := w_szDoor_sm x0 1048576 (by grind [wrap64]) (by assumption) (by assumption) (by assumption) (by assumption) (by assumption) (by assumption) (by assumption) (by assumption); bifT (f := k) (fun b0 => rfl)
      (fun b0 => bifG (by (try simp only [Nat.ble_eq, Bool.and_eq_true, decide_eq_true_eq]); grind [maxSl, maxStr, toBytes_length, toInts_length, List.length_set, wrap64, w_szDoor_sm]) (letT (f := k) (fun c2 hc2 => have kc2 := toDoor_eq x0; letT (f := k) (fun c3 hc3 => bifG (by (try simp only [Nat.ble_eq, Bool.and_eq_true, decide_eq_true_eq]); grind [maxSl, maxStr, toBytes_length, toInts_length, List.length_set, wrap64, w_szDoor_sm]) (letT (f := k) (fun c4 hc4 => have kc4 := toDoor_eq x0; letT (f := k) (fun c5 hc5 => bifT (f := k) (fun b1 => rfl)
      (fun b1 => bifG (by (try simp only [Nat.ble_eq, Bool.and_eq_true, decide_eq_true_eq]); grind [maxSl, maxStr, toBytes_length, toInts_length, List.length_set, wrap64, w_szDoor_sm]) (letT (f := k) (fun c6 hc6 => have kc6 := toDoor_eq x0; letT (f := k) (fun c7 hc7 => bifT (f := k) (fun b2 => rfl)
      (fun b2 => rfl)))))))))))))
theorem w_FnExactRetained_c (x0 : Door)  : Con Try.prog 5 (pvs [.st .door] (x0, ())) [rv (.sc .bool) [] (w_FnExactRetained x0)] := by
  refine Con.of_facts (enters_of Try.func5 rfl (by kernel_rfl)) fun hf => ?_
  replace hf := factAt hf
  exact evalFn_con0 teFact mixFact (orcOf_ok _) Try.func5 (by kernel_rfl) ((w_FnExactRetained_lk x0).trans (w_FnExactRetained_p x0 ((hf 0 0 rfl rfl).rng) ((hf 0 1 rfl rfl).rng) ((hf 0 2 rfl rfl).rng) ((hf 0 4 rfl rfl).rng) ((hf 0 5 rfl rfl).rng) ((hf 0 6 rfl rfl).len) (fun y hy => (hf 0 6 rfl rfl).elem hy) ((hf 0 8 rfl rfl).rng) ((hf 0 9 rfl rfl).rng) ((hf 0 10 rfl rfl).len) (fun y hy => (hf 0 10 rfl rfl).elem hy) ((hf 0 12 rfl rfl).rng) ((hf 0 13 rfl rfl).rng) ((hf 0 14 rfl rfl).rng) ((hf 0 15 rfl rfl).rng) ((hf 0 16 rfl rfl).len) ((hf 0 17 rfl rfl).len) (fun y hy => (hf 0 17 rfl rfl).elem hy) ((hf 0 18 rfl rfl).len) ((hf 0 19 rfl rfl).rng) _ _ _))
noncomputable def w_FnExactRetained_e : Ent1 Try.prog := entA 5 [.st .door] (fun x => (w_FnExactRetained x.1)) (fun v => [rv (.sc .bool) [] v]) (fun x => w_FnExactRetained_c x.1)


theorem t_FnExactRetained (x : Door) : w_FnExactRetained x = true := by
  unfold w_FnExactRetained
  simp only [letK_eq, q_Retained, toDoor_eq, eqDoor_refl, bne_self_eq_false, Bool.not_true, cond_false]
  cases decide (w_szDoor x 1048576 < 0) <;> rfl

end Go.Proofs.Ytbikbonhcfbmeaa
