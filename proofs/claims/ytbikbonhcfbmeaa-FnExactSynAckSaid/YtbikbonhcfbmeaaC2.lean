/-
  Contracts of functions and plain laws (printed by a program): each theorem says what a function of the program returns; conditions are its hypotheses.
-/
import Derived.Test.YtbikbonhcfbmeaaC1
set_option maxRecDepth 4000
set_option linter.unusedVariables false
set_option linter.unusedSimpArgs false
namespace Go.Proofs.Ytbikbonhcfbmeaa
open Go Go.RowKit

/-- spec.MacInput -/
def s_MacInput_N (x0 : Tupl) (x1 : Int) (x2 : Int) (x3 : Int) (γ : Type) (fail : γ) (k : Bytes → γ) : γ :=
  letK (α := Bool) (s_TupleOk x0) fun c1 =>
  bif (!c1) then
    k []
  else
  letK (α := Bool) (s_WordOk x1 32) fun c2 =>
  bif (!c2) then
    k []
  else
  letK (α := Bool) (s_WordOk x2 32) fun c3 =>
  bif (!c3) then
    k []
  else
  letK (α := Bool) (s_l1In x3 0 7) fun c4 =>
  bif (!c4) then
    k []
  else
  letK (α := Bytes) (s_PutWord x0.ip 4) fun c5 =>
  letK (α := Bytes) (s_PutWord x0.port 2) fun c6 =>
  bif (Nat.ble (c5.length + c6.length) maxStr) then
  letK (α := Bytes) (s_PutWord x0.my 2) fun c7 =>
  bif (Nat.ble ((c5 ++ c6).length + c7.length) maxStr) then
  letK (α := Bytes) (s_PutWord x1 4) fun c8 =>
  bif (Nat.ble (((c5 ++ c6) ++ c7).length + c8.length) maxStr) then
  letK (α := Bytes) (s_PutWord x2 4) fun c9 =>
  bif (Nat.ble ((((c5 ++ c6) ++ c7) ++ c8).length + c9.length) maxStr) then
  letK (α := Bytes) (s_PutWord x3 1) fun c10 =>
  bif (Nat.ble (((((c5 ++ c6) ++ c7) ++ c8) ++ c9).length + c10.length) maxStr) then
  k (((((c5 ++ c6) ++ c7) ++ c8) ++ c9) ++ c10)
  else fail
  else fail
  else fail
  else fail
  else fail
def s_MacInput (x0 : Tupl) (x1 : Int) (x2 : Int) (x3 : Int) : Bytes :=
  letK (α := Bool) (s_TupleOk x0) fun c1 =>
  bif (!c1) then
    []
  else
  letK (α := Bool) (s_WordOk x1 32) fun c2 =>
  bif (!c2) then
    []
  else
  letK (α := Bool) (s_WordOk x2 32) fun c3 =>
  bif (!c3) then
    []
  else
  letK (α := Bool) (s_l1In x3 0 7) fun c4 =>
  bif (!c4) then
    []
  else
  letK (α := Bytes) (s_PutWord x0.ip 4) fun c5 =>
  letK (α := Bytes) (s_PutWord x0.port 2) fun c6 =>
  letK (α := Bytes) (s_PutWord x0.my 2) fun c7 =>
  letK (α := Bytes) (s_PutWord x1 4) fun c8 =>
  letK (α := Bytes) (s_PutWord x2 4) fun c9 =>
  letK (α := Bytes) (s_PutWord x3 1) fun c10 =>
  (((((c5 ++ c6) ++ c7) ++ c8) ++ c9) ++ c10)
theorem s_MacInput_lk (x0 : Tupl) (x1 : Int) (x2 : Int) (x3 : Int) : evalFn te (orcOf (P := Try.prog) [s_TupleOk_e, s_WordOk_e, s_l1In_e, s_PutWord_e]) lorc0 [] Try.f107 (pvs [.st .tupl, .sc (.int .i64), .sc (.int .i64), .sc (.int .i64)] (x0, x1, x2, x3, ())) =
  s_MacInput_N x0 x1 x2 x3 _ none (fun v => some [(false, [RC.c (.str v)])]) := by kernel_rfl
theorem s_MacInput_p (x0 : Tupl) (x1 : Int) (x2 : Int) (x3 : Int) (hx0_ip : inK .i64 x0.ip) (hx0_port : inK .i64 x0.port) (hx0_my : inK .i64 x0.my) (hx1 : inK .i64 x1) (hx2 : inK .i64 x2) (hx3 : inK .i64 x3)  (γ : Type) (fail : γ) (k : Bytes → γ) : s_MacInput_N x0 x1 x2 x3 γ fail k = k (s_MacInput x0 x1 x2 x3) := by
  unfold s_MacInput_N s_MacInput
  exact letT (f := k) (fun c1 hc1 => bifT (f := k) (fun b0 => rfl)
      (fun b0 => letT (f := k) (fun c2 hc2 => bifT (f := k) (fun b1 => rfl)
      (fun b1 => letT (f := k) (fun c3 hc3 => bifT (f := k) (fun b2 => rfl)
      (fun b2 => letT (f := k) (fun c4 hc4 => bifT (f := k) (fun b3 => rfl)
      (fun b3 => letT (f := k) (fun c5 hc5 => letT (f := k) (fun c6 hc6 => bifG (by (try simp only [Nat.ble_eq, Bool.and_eq_true, decide_eq_true_eq]); grind [maxSl, maxStr, toBytes_length, toInts_length, List.length_set, wrap64, s_PutWord_len]) (letT (f := k) (fun c7 hc7 => bifG (by (try simp only [Nat.ble_eq, Bool.and_eq_true, decide_eq_true_eq]); grind [maxSl, maxStr, toBytes_length, toInts_length, List.length_set, wrap64, s_PutWord_len]) (letT (f := k) (fun c8 hc8 => bifG (by (try simp only [Nat.ble_eq, Bool.and_eq_true, decide_eq_true_eq]); grind [maxSl, maxStr, toBytes_length, toInts_length, List.length_set, wrap64, s_PutWord_len]) (letT (f := k) (fun c9 hc9 => bifG (by (try simp only [Nat.ble_eq, Bool.and_eq_true, decide_eq_true_eq]); grind [maxSl, maxStr, toBytes_length, toInts_length, List.length_set, wrap64, s_PutWord_len]) (letT (f := k) (fun c10 hc10 => bifG (by (try simp only [Nat.ble_eq, Bool.and_eq_true, decide_eq_true_eq]); grind [maxSl, maxStr, toBytes_length, toInts_length, List.length_set, wrap64, s_PutWord_len]) (rfl)))))))))))))))))))
theorem s_MacInput_c (x0 : Tupl) (x1 : Int) (x2 : Int) (x3 : Int)  : Con Try.prog 107 (pvs [.st .tupl, .sc (.int .i64), .sc (.int .i64), .sc (.int .i64)] (x0, x1, x2, x3, ())) [rv (.sc .str) [] (s_MacInput x0 x1 x2 x3)] := by
  refine Con.of_facts (enters_of Try.func107 rfl (by kernel_rfl)) fun hf => ?_
  replace hf := factAt hf
  exact evalFn_con0 teFact mixFact (orcOf_ok _) Try.func107 (by kernel_rfl) ((s_MacInput_lk x0 x1 x2 x3).trans (s_MacInput_p x0 x1 x2 x3 ((hf 0 0 rfl rfl).rng) ((hf 0 1 rfl rfl).rng) ((hf 0 2 rfl rfl).rng) ((hf 1 0 rfl rfl).rng) ((hf 2 0 rfl rfl).rng) ((hf 3 0 rfl rfl).rng) _ _ _))
noncomputable def s_MacInput_e : Ent1 Try.prog := entA 107 [.st .tupl, .sc (.int .i64), .sc (.int .i64), .sc (.int .i64)] (fun x => (s_MacInput x.1 x.2.1 x.2.2.1 x.2.2.2.1)) (fun v => [rv (.sc .str) [] v]) (fun x => s_MacInput_c x.1 x.2.1 x.2.2.1 x.2.2.2.1)

theorem s_MacInput_len (x0 : Tupl) (x1 : Int) (x2 : Int) (x3 : Int)   : (fun v : Bytes => v.length ≤ 64) (s_MacInput x0 x1 x2 x3) := by
  unfold s_MacInput
  exact letP (P := (fun v : Bytes => v.length ≤ 64)) (fun c1 hc1 => bifP (P := (fun v : Bytes => v.length ≤ 64)) (fun b0 => (by (try simp only [Nat.ble_eq, Bool.and_eq_true, decide_eq_true_eq]); grind [maxSl, maxStr, toBytes_length, toInts_length, List.length_set, wrap64, s_PutWord_len]))
      (fun b0 => letP (P := (fun v : Bytes => v.length ≤ 64)) (fun c2 hc2 => bifP (P := (fun v : Bytes => v.length ≤ 64)) (fun b1 => (by (try simp only [Nat.ble_eq, Bool.and_eq_true, decide_eq_true_eq]); grind [maxSl, maxStr, toBytes_length, toInts_length, List.length_set, wrap64, s_PutWord_len]))
      (fun b1 => letP (P := (fun v : Bytes => v.length ≤ 64)) (fun c3 hc3 => bifP (P := (fun v : Bytes => v.length ≤ 64)) (fun b2 => (by (try simp only [Nat.ble_eq, Bool.and_eq_true, decide_eq_true_eq]); grind [maxSl, maxStr, toBytes_length, toInts_length, List.length_set, wrap64, s_PutWord_len]))
      (fun b2 => letP (P := (fun v : Bytes => v.length ≤ 64)) (fun c4 hc4 => bifP (P := (fun v : Bytes => v.length ≤ 64)) (fun b3 => (by (try simp only [Nat.ble_eq, Bool.and_eq_true, decide_eq_true_eq]); grind [maxSl, maxStr, toBytes_length, toInts_length, List.length_set, wrap64, s_PutWord_len]))
      (fun b3 => letP (P := (fun v : Bytes => v.length ≤ 64)) (fun c5 hc5 => letP (P := (fun v : Bytes => v.length ≤ 64)) (fun c6 hc6 => letP (P := (fun v : Bytes => v.length ≤ 64)) (fun c7 hc7 => letP (P := (fun v : Bytes => v.length ≤ 64)) (fun c8 hc8 => letP (P := (fun v : Bytes => v.length ≤ 64)) (fun c9 hc9 => letP (P := (fun v : Bytes => v.length ≤ 64)) (fun c10 hc10 => (by (try simp only [Nat.ble_eq, Bool.and_eq_true, decide_eq_true_eq]); grind [maxSl, maxStr, toBytes_length, toInts_length, List.length_set, wrap64, s_PutWord_len])))))))))))))))

/-- impl.SecretOf -/
def i_SecretOf_N (x0 : Keys) (x1 : Int) (γ : Type) (fail : γ) (k : Mac × Bool → γ) : γ :=
  bif (x1 == x0.epoch) then
    bif (decide (x0.now.rows.length ≤ 4294967296)) then
    letK (α := Mac) (i_cloneMac x0.now) fun c1 =>
    k (c1, true)
    else fail
  else
  bif x0.two then
    bif (x1 == (IntKind.wrap .i64 (x0.epoch - 1))) then
      bif (decide (x0.before.rows.length ≤ 4294967296)) then
      letK (α := Mac) (i_cloneMac x0.before) fun c2 =>
      k (c2, true)
      else fail
    else
    k ((⟨false, 0, 0, []⟩ : Mac), false)
  else
  k ((⟨false, 0, 0, []⟩ : Mac), false)
def i_SecretOf (x0 : Keys) (x1 : Int) : Mac × Bool :=
  bif (x1 == x0.epoch) then
    letK (α := Mac) (i_cloneMac x0.now) fun c1 =>
    (c1, true)
  else
  bif x0.two then
    bif (x1 == (IntKind.wrap .i64 (x0.epoch - 1))) then
      letK (α := Mac) (i_cloneMac x0.before) fun c2 =>
      (c2, true)
    else
    ((⟨false, 0, 0, []⟩ : Mac), false)
  else
  ((⟨false, 0, 0, []⟩ : Mac), false)
theorem i_SecretOf_lk (x0 : Keys) (x1 : Int) : evalFn te (orcOf (P := Try.prog) [i_cloneMac_e]) lorc0 [] Try.f114 (pvs [.st .keys, .sc (.int .i64)] (x0, x1, ())) =
  i_SecretOf_N x0 x1 _ none (fun v => some [(true, [RC.c (.bool v.1.use), RC.c (.int .u64 v.1.k), RC.c (.int .u64 v.1.l), RC.own true .macRow v.1.rows]), (false, [RC.c (.bool v.2)])]) := by kernel_rfl
theorem i_SecretOf_p (x0 : Keys) (x1 : Int) (hx0_epoch : inK .i64 x0.epoch) (hx0_now_k : inK .u64 x0.now.k) (hx0_now_l : inK .u64 x0.now.l) (hx0_now_rows : x0.now.rows.length ≤ 140737488355328) (hx0_now_rows_e : ∀ y ∈ x0.now.rows, ∀ c ∈ Ty.cells .macRow y, FactC c) (hx0_before_k : inK .u64 x0.before.k) (hx0_before_l : inK .u64 x0.before.l) (hx0_before_rows : x0.before.rows.length ≤ 140737488355328) (hx0_before_rows_e : ∀ y ∈ x0.before.rows, ∀ c ∈ Ty.cells .macRow y, FactC c) (hx1 : inK .i64 x1) (hp : x0.now.rows.length ≤ 4294967296 ∧ x0.before.rows.length ≤ 4294967296) (γ : Type) (fail : γ) (k : Mac × Bool → γ) : i_SecretOf_N x0 x1 γ fail k = k (i_SecretOf x0 x1) := by
  unfold i_SecretOf_N i_SecretOf
  exact bifT (f := k) (fun b0 => bifG (by (try simp only [Nat.ble_eq, Bool.and_eq_true, decide_eq_true_eq]); grind [maxSl, maxStr, toBytes_length, toInts_length, List.length_set, wrap64, i_cloneMac_len]) (letT (f := k) (fun c1 hc1 => rfl)))
      (fun b0 => bifT (f := k) (fun b1 => bifT (f := k) (fun b2 => bifG (by (try simp only [Nat.ble_eq, Bool.and_eq_true, decide_eq_true_eq]); grind [maxSl, maxStr, toBytes_length, toInts_length, List.length_set, wrap64, i_cloneMac_len]) (letT (f := k) (fun c2 hc2 => rfl)))
      (fun b2 => rfl))
      (fun b1 => rfl))
theorem i_SecretOf_c (x0 : Keys) (x1 : Int) (hp : x0.now.rows.length ≤ 4294967296 ∧ x0.before.rows.length ≤ 4294967296) : Con Try.prog 114 (pvs [.st .keys, .sc (.int .i64)] (x0, x1, ())) [rv (.st .mac) [.c, .c, .c, .o true] (i_SecretOf x0 x1).1, rv (.sc .bool) [] (i_SecretOf x0 x1).2] := by
  refine Con.of_facts (enters_of Try.func114 rfl (by kernel_rfl)) fun hf => ?_
  replace hf := factAt hf
  exact evalFn_con0 teFact mixFact (orcOf_ok _) Try.func114 (by kernel_rfl) ((i_SecretOf_lk x0 x1).trans (i_SecretOf_p x0 x1 ((hf 0 0 rfl rfl).rng) ((hf 0 2 rfl rfl).rng) ((hf 0 3 rfl rfl).rng) ((hf 0 4 rfl rfl).len) (fun y hy => (hf 0 4 rfl rfl).elem hy) ((hf 0 6 rfl rfl).rng) ((hf 0 7 rfl rfl).rng) ((hf 0 8 rfl rfl).len) (fun y hy => (hf 0 8 rfl rfl).elem hy) ((hf 1 0 rfl rfl).rng) hp _ _ _))
noncomputable def i_SecretOf_e : Ent1 Try.prog := entP 114 [.st .keys, .sc (.int .i64)] (fun x => (decide (x.1.now.rows.length ≤ 4294967296 ∧ x.1.before.rows.length ≤ 4294967296))) (fun x => (i_SecretOf x.1 x.2.1)) (fun v => [rv (.st .mac) [.c, .c, .c, .o true] v.1, rv (.sc .bool) [] v.2]) (fun x hx => i_SecretOf_c x.1 x.2.1 (of_decide_eq_true hx))

theorem i_SecretOf_len (x0 : Keys) (x1 : Int) (hp : x0.now.rows.length ≤ 4294967296 ∧ x0.before.rows.length ≤ 4294967296) (h : x0.now.rows.length ≤ 4294967296 ∧ x0.before.rows.length ≤ 4294967296) : (fun v : Mac × Bool => v.1.rows.length ≤ 4294967296) (i_SecretOf x0 x1) := by
  unfold i_SecretOf
  exact bifP (P := (fun v : Mac × Bool => v.1.rows.length ≤ 4294967296)) (fun b0 => letP (P := (fun v : Mac × Bool => v.1.rows.length ≤ 4294967296)) (fun c1 hc1 => (by (try simp only [Nat.ble_eq, Bool.and_eq_true, decide_eq_true_eq]); grind [maxSl, maxStr, toBytes_length, toInts_length, List.length_set, wrap64, i_cloneMac_len])))
      (fun b0 => bifP (P := (fun v : Mac × Bool => v.1.rows.length ≤ 4294967296)) (fun b1 => bifP (P := (fun v : Mac × Bool => v.1.rows.length ≤ 4294967296)) (fun b2 => letP (P := (fun v : Mac × Bool => v.1.rows.length ≤ 4294967296)) (fun c2 hc2 => (by (try simp only [Nat.ble_eq, Bool.and_eq_true, decide_eq_true_eq]); grind [maxSl, maxStr, toBytes_length, toInts_length, List.length_set, wrap64, i_cloneMac_len])))
      (fun b2 => (by (try simp only [Nat.ble_eq, Bool.and_eq_true, decide_eq_true_eq]); grind [maxSl, maxStr, toBytes_length, toInts_length, List.length_set, wrap64, i_cloneMac_len])))
      (fun b1 => (by (try simp only [Nat.ble_eq, Bool.and_eq_true, decide_eq_true_eq]); grind [maxSl, maxStr, toBytes_length, toInts_length, List.length_set, wrap64, i_cloneMac_len])))

/-- laws.toMac -/
def w_toMac_N (x0 : Mac) (γ : Type) (fail : γ) (k : Mac → γ) : γ :=
  bif (decide (x0.rows.length ≤ 4294967296)) then
  letK (α := List MacRow) (w_toMacRowS x0.rows) fun c1 =>
  k ({ x0 with rows := c1 } : Mac)
  else fail
def w_toMac (x0 : Mac) : Mac :=
  letK (α := List MacRow) (w_toMacRowS x0.rows) fun c1 =>
  ({ x0 with rows := c1 } : Mac)
theorem w_toMac_lk (x0 : Mac) : evalFn te (orcOf (P := Try.prog) [w_toMacRowS_e]) lorc0 [] Try.f122 (pvs [.st .mac] (x0, ())) =
  w_toMac_N x0 _ none (fun v => some [(true, [RC.c (.bool v.use), RC.c (.int .u64 v.k), RC.c (.int .u64 v.l), RC.own true .macRow v.rows])]) := by kernel_rfl
theorem w_toMac_p (x0 : Mac) (hx0_k : inK .u64 x0.k) (hx0_l : inK .u64 x0.l) (hx0_rows : x0.rows.length ≤ 140737488355328) (hx0_rows_e : ∀ y ∈ x0.rows, ∀ c ∈ Ty.cells .macRow y, FactC c) (hp : x0.rows.length ≤ 4294967296) (γ : Type) (fail : γ) (k : Mac → γ) : w_toMac_N x0 γ fail k = k (w_toMac x0) := by
  unfold w_toMac_N w_toMac
  exact bifG (by (try simp only [Nat.ble_eq, Bool.and_eq_true, decide_eq_true_eq]); grind [maxSl, maxStr, toBytes_length, toInts_length, List.length_set, wrap64]) (letT (f := k) (fun c1 hc1 => rfl))
theorem w_toMac_c (x0 : Mac) (hp : x0.rows.length ≤ 4294967296) : Con Try.prog 122 (pvs [.st .mac] (x0, ())) [rv (.st .mac) [.c, .c, .c, .o true] (w_toMac x0)] := by
  refine Con.of_facts (enters_of Try.func122 rfl (by kernel_rfl)) fun hf => ?_
  replace hf := factAt hf
  exact evalFn_con0 teFact mixFact (orcOf_ok _) Try.func122 (by kernel_rfl) ((w_toMac_lk x0).trans (w_toMac_p x0 ((hf 0 1 rfl rfl).rng) ((hf 0 2 rfl rfl).rng) ((hf 0 3 rfl rfl).len) (fun y hy => (hf 0 3 rfl rfl).elem hy) hp _ _ _))
noncomputable def w_toMac_e : Ent1 Try.prog := entP 122 [.st .mac] (fun x => (decide (x.1.rows.length ≤ 4294967296))) (fun x => (w_toMac x.1)) (fun v => [rv (.st .mac) [.c, .c, .c, .o true] v]) (fun x hx => w_toMac_c x.1 (of_decide_eq_true hx))


/-- laws.eqMac -/
def w_eqMac_N (x0 : Mac) (x1 : Mac) (γ : Type) (fail : γ) (k : Bool → γ) : γ :=
  bif (!(x0.use == x1.use)) then
    k false
  else
  bif (x0.k != x1.k) then
    k false
  else
  bif (x0.l != x1.l) then
    k false
  else
  letK (α := Bool) (w_eqMacRowS x0.rows x1.rows) fun c1 =>
  bif (!c1) then
    k false
  else
  k true
def w_eqMac (x0 : Mac) (x1 : Mac) : Bool :=
  bif (!(x0.use == x1.use)) then
    false
  else
  bif (x0.k != x1.k) then
    false
  else
  bif (x0.l != x1.l) then
    false
  else
  letK (α := Bool) (w_eqMacRowS x0.rows x1.rows) fun c1 =>
  bif (!c1) then
    false
  else
  true
theorem w_eqMac_lk (x0 : Mac) (x1 : Mac) : evalFn te (orcOf (P := Try.prog) [w_eqMacRowS_e]) lorc0 [] Try.f126 (pvs [.st .mac, .st .mac] (x0, x1, ())) =
  w_eqMac_N x0 x1 _ none (fun v => some [(false, [RC.c (.bool v)])]) := by kernel_rfl
theorem w_eqMac_p (x0 : Mac) (x1 : Mac)   (γ : Type) (fail : γ) (k : Bool → γ) : w_eqMac_N x0 x1 γ fail k = k (w_eqMac x0 x1) := by
  unfold w_eqMac_N w_eqMac
  exact bifT (f := k) (fun b0 => rfl)
      (fun b0 => bifT (f := k) (fun b1 => rfl)
      (fun b1 => bifT (f := k) (fun b2 => rfl)
      (fun b2 => letT (f := k) (fun c1 hc1 => bifT (f := k) (fun b3 => rfl)
      (fun b3 => rfl)))))
theorem w_eqMac_c (x0 : Mac) (x1 : Mac)  : Con Try.prog 126 (pvs [.st .mac, .st .mac] (x0, x1, ())) [rv (.sc .bool) [] (w_eqMac x0 x1)] := by
  exact evalFn_con0 teFact mixFact (orcOf_ok _) Try.func126 (by kernel_rfl) ((w_eqMac_lk x0 x1).trans (w_eqMac_p x0 x1  _ _ _))
noncomputable def w_eqMac_e : Ent1 Try.prog := entA 126 [.st .mac, .st .mac] (fun x => (w_eqMac x.1 x.2.1)) (fun v => [rv (.sc .bool) [] v]) (fun x => w_eqMac_c x.1 x.2.1)


/-- impl.MacInput -/
def i_MacInput_N (x0 : Tupl) (x1 : Int) (x2 : Int) (x3 : Int) (γ : Type) (fail : γ) (k : Bytes → γ) : γ :=
  letK (α := Bool) (i_TupleOk x0) fun c1 =>
  bif (!c1) then
    k []
  else
  letK (α := Bool) (i_WordOk x1 32) fun c2 =>
  bif (!c2) then
    k []
  else
  letK (α := Bool) (i_WordOk x2 32) fun c3 =>
  bif (!c3) then
    k []
  else
  letK (α := Bool) (i_within x3 0 7) fun c4 =>
  bif (!c4) then
    k []
  else
  letK (α := Bytes) (i_PutWord x0.ip 4) fun c5 =>
  letK (α := Bytes) (i_PutWord x0.port 2) fun c6 =>
  bif (Nat.ble (c5.length + c6.length) maxStr) then
  letK (α := Bytes) (i_PutWord x0.my 2) fun c7 =>
  bif (Nat.ble ((c5 ++ c6).length + c7.length) maxStr) then
  letK (α := Bytes) (i_PutWord x1 4) fun c8 =>
  bif (Nat.ble (((c5 ++ c6) ++ c7).length + c8.length) maxStr) then
  letK (α := Bytes) (i_PutWord x2 4) fun c9 =>
  bif (Nat.ble ((((c5 ++ c6) ++ c7) ++ c8).length + c9.length) maxStr) then
  letK (α := Bytes) (i_PutWord x3 1) fun c10 =>
  bif (Nat.ble (((((c5 ++ c6) ++ c7) ++ c8) ++ c9).length + c10.length) maxStr) then
  k (((((c5 ++ c6) ++ c7) ++ c8) ++ c9) ++ c10)
  else fail
  else fail
  else fail
  else fail
  else fail
def i_MacInput (x0 : Tupl) (x1 : Int) (x2 : Int) (x3 : Int) : Bytes :=
  letK (α := Bool) (i_TupleOk x0) fun c1 =>
  bif (!c1) then
    []
  else
  letK (α := Bool) (i_WordOk x1 32) fun c2 =>
  bif (!c2) then
    []
  else
  letK (α := Bool) (i_WordOk x2 32) fun c3 =>
  bif (!c3) then
    []
  else
  letK (α := Bool) (i_within x3 0 7) fun c4 =>
  bif (!c4) then
    []
  else
  letK (α := Bytes) (i_PutWord x0.ip 4) fun c5 =>
  letK (α := Bytes) (i_PutWord x0.port 2) fun c6 =>
  letK (α := Bytes) (i_PutWord x0.my 2) fun c7 =>
  letK (α := Bytes) (i_PutWord x1 4) fun c8 =>
  letK (α := Bytes) (i_PutWord x2 4) fun c9 =>
  letK (α := Bytes) (i_PutWord x3 1) fun c10 =>
  (((((c5 ++ c6) ++ c7) ++ c8) ++ c9) ++ c10)
theorem i_MacInput_lk (x0 : Tupl) (x1 : Int) (x2 : Int) (x3 : Int) : evalFn te (orcOf (P := Try.prog) [i_TupleOk_e, i_WordOk_e, i_within_e, i_PutWord_e]) lorc0 [] Try.f152 (pvs [.st .tupl, .sc (.int .i64), .sc (.int .i64), .sc (.int .i64)] (x0, x1, x2, x3, ())) =
  i_MacInput_N x0 x1 x2 x3 _ none (fun v => some [(false, [RC.c (.str v)])]) := by kernel_rfl
theorem i_MacInput_p (x0 : Tupl) (x1 : Int) (x2 : Int) (x3 : Int) (hx0_ip : inK .i64 x0.ip) (hx0_port : inK .i64 x0.port) (hx0_my : inK .i64 x0.my) (hx1 : inK .i64 x1) (hx2 : inK .i64 x2) (hx3 : inK .i64 x3)  (γ : Type) (fail : γ) (k : Bytes → γ) : i_MacInput_N x0 x1 x2 x3 γ fail k = k (i_MacInput x0 x1 x2 x3) := by
  unfold i_MacInput_N i_MacInput
  exact letT (f := k) (fun c1 hc1 => bifT (f := k) (fun b0 => rfl)
      (fun b0 => letT (f := k) (fun c2 hc2 => bifT (f := k) (fun b1 => rfl)
      (fun b1 => letT (f := k) (fun c3 hc3 => bifT (f := k) (fun b2 => rfl)
      (fun b2 => letT (f := k) (fun c4 hc4 => bifT (f := k) (fun b3 => rfl)
      (fun b3 => letT (f := k) (fun c5 hc5 => letT (f := k) (fun c6 hc6 => bifG (by (try simp only [Nat.ble_eq, Bool.and_eq_true, decide_eq_true_eq]); grind [maxSl, maxStr, toBytes_length, toInts_length, List.length_set, wrap64, i_PutWord_len]) (letT (f := k) (fun c7 hc7 => bifG (by (try simp only [Nat.ble_eq, Bool.and_eq_true, decide_eq_true_eq]); grind [maxSl, maxStr, toBytes_length, toInts_length, List.length_set, wrap64, i_PutWord_len]) (letT (f := k) (fun c8 hc8 => bifG (by (try simp only [Nat.ble_eq, Bool.and_eq_true, decide_eq_true_eq]); grind [maxSl, maxStr, toBytes_length, toInts_length, List.length_set, wrap64, i_PutWord_len]) (letT (f := k) (fun c9 hc9 => bifG (by (try simp only [Nat.ble_eq, Bool.and_eq_true, decide_eq_true_eq]); grind [maxSl, maxStr, toBytes_length, toInts_length, List.length_set, wrap64, i_PutWord_len]) (letT (f := k) (fun c10 hc10 => bifG (by (try simp only [Nat.ble_eq, Bool.and_eq_true, decide_eq_true_eq]); grind [maxSl, maxStr, toBytes_length, toInts_length, List.length_set, wrap64, i_PutWord_len]) (rfl)))))))))))))))))))
theorem i_MacInput_c (x0 : Tupl) (x1 : Int) (x2 : Int) (x3 : Int)  : Con Try.prog 152 (pvs [.st .tupl, .sc (.int .i64), .sc (.int .i64), .sc (.int .i64)] (x0, x1, x2, x3, ())) [rv (.sc .str) [] (i_MacInput x0 x1 x2 x3)] := by
  refine Con.of_facts (enters_of Try.func152 rfl (by kernel_rfl)) fun hf => ?_
  replace hf := factAt hf
  exact evalFn_con0 teFact mixFact (orcOf_ok _) Try.func152 (by kernel_rfl) ((i_MacInput_lk x0 x1 x2 x3).trans (i_MacInput_p x0 x1 x2 x3 ((hf 0 0 rfl rfl).rng) ((hf 0 1 rfl rfl).rng) ((hf 0 2 rfl rfl).rng) ((hf 1 0 rfl rfl).rng) ((hf 2 0 rfl rfl).rng) ((hf 3 0 rfl rfl).rng) _ _ _))
noncomputable def i_MacInput_e : Ent1 Try.prog := entA 152 [.st .tupl, .sc (.int .i64), .sc (.int .i64), .sc (.int .i64)] (fun x => (i_MacInput x.1 x.2.1 x.2.2.1 x.2.2.2.1)) (fun v => [rv (.sc .str) [] v]) (fun x => i_MacInput_c x.1 x.2.1 x.2.2.1 x.2.2.2.1)

theorem i_MacInput_len (x0 : Tupl) (x1 : Int) (x2 : Int) (x3 : Int)   : (fun v : Bytes => v.length ≤ 64) (i_MacInput x0 x1 x2 x3) := by
  unfold i_MacInput
  exact letP (P := (fun v : Bytes => v.length ≤ 64)) (fun c1 hc1 => bifP (P := (fun v : Bytes => v.length ≤ 64)) (fun b0 => (by (try simp only [Nat.ble_eq, Bool.and_eq_true, decide_eq_true_eq]); grind [maxSl, maxStr, toBytes_length, toInts_length, List.length_set, wrap64, i_PutWord_len]))
      (fun b0 => letP (P := (fun v : Bytes => v.length ≤ 64)) (fun c2 hc2 => bifP (P := (fun v : Bytes => v.length ≤ 64)) (fun b1 => (by (try simp only [Nat.ble_eq, Bool.and_eq_true, decide_eq_true_eq]); grind [maxSl, maxStr, toBytes_length, toInts_length, List.length_set, wrap64, i_PutWord_len]))
      (fun b1 => letP (P := (fun v : Bytes => v.length ≤ 64)) (fun c3 hc3 => bifP (P := (fun v : Bytes => v.length ≤ 64)) (fun b2 => (by (try simp only [Nat.ble_eq, Bool.and_eq_true, decide_eq_true_eq]); grind [maxSl, maxStr, toBytes_length, toInts_length, List.length_set, wrap64, i_PutWord_len]))
      (fun b2 => letP (P := (fun v : Bytes => v.length ≤ 64)) (fun c4 hc4 => bifP (P := (fun v : Bytes => v.length ≤ 64)) (fun b3 => (by (try simp only [Nat.ble_eq, Bool.and_eq_true, decide_eq_true_eq]); grind [maxSl, maxStr, toBytes_length, toInts_length, List.length_set, wrap64, i_PutWord_len]))
      (fun b3 => letP (P := (fun v : Bytes => v.length ≤ 64)) (fun c5 hc5 => letP (P := (fun v : Bytes => v.length ≤ 64)) (fun c6 hc6 => letP (P := (fun v : Bytes => v.length ≤ 64)) (fun c7 hc7 => letP (P := (fun v : Bytes => v.length ≤ 64)) (fun c8 hc8 => letP (P := (fun v : Bytes => v.length ≤ 64)) (fun c9 hc9 => letP (P := (fun v : Bytes => v.length ≤ 64)) (fun c10 hc10 => (by (try simp only [Nat.ble_eq, Bool.and_eq_true, decide_eq_true_eq]); grind [maxSl, maxStr, toBytes_length, toInts_length, List.length_set, wrap64, i_PutWord_len])))))))))))))))

/-- laws.toReceiver -/
def w_toReceiver_N (x0 : Recv) (γ : Type) (fail : γ) (k : Recv → γ) : γ :=
  bif (decide (x0.held.length ≤ 4294967296)) then
  letK (α := List Piec) (w_toPieceS x0.held) fun c1 =>
  k ({ x0 with held := c1 } : Recv)
  else fail
def w_toReceiver (x0 : Recv) : Recv :=
  letK (α := List Piec) (w_toPieceS x0.held) fun c1 =>
  ({ x0 with held := c1 } : Recv)
theorem w_toReceiver_lk (x0 : Recv) : evalFn te (orcOf (P := Try.prog) [w_toPieceS_e]) lorc0 [] Try.f186 (pvs [.st .recv] (x0, ())) =
  w_toReceiver_N x0 _ none (fun v => some [(true, [RC.c (.int .i64 v.next), RC.c (.str v.data), RC.own true .piec v.held, RC.c (.int .i64 v.fin), RC.c (.bool v.done)])]) := by kernel_rfl
theorem w_toReceiver_p (x0 : Recv) (hx0_next : inK .i64 x0.next) (hx0_data : List.length x0.data ≤ 4611686018427387904) (hx0_held : x0.held.length ≤ 140737488355328) (hx0_held_e : ∀ y ∈ x0.held, ∀ c ∈ Ty.cells .piec y, FactC c) (hx0_fin : inK .i64 x0.fin) (hp : x0.data.length ≤ 4294967296 ∧ x0.held.length ≤ 4294967296) (γ : Type) (fail : γ) (k : Recv → γ) : w_toReceiver_N x0 γ fail k = k (w_toReceiver x0) := by
  unfold w_toReceiver_N w_toReceiver
  exact bifG (by (try simp only [Nat.ble_eq, Bool.and_eq_true, decide_eq_true_eq]); grind [maxSl, maxStr, toBytes_length, toInts_length, List.length_set, wrap64]) (letT (f := k) (fun c1 hc1 => rfl))
theorem w_toReceiver_c (x0 : Recv) (hp : x0.data.length ≤ 4294967296 ∧ x0.held.length ≤ 4294967296) : Con Try.prog 186 (pvs [.st .recv] (x0, ())) [rv (.st .recv) [.c, .c, .o true, .c, .c] (w_toReceiver x0)] := by
  refine Con.of_facts (enters_of Try.func186 rfl (by kernel_rfl)) fun hf => ?_
  replace hf := factAt hf
  exact evalFn_con0 teFact mixFact (orcOf_ok _) Try.func186 (by kernel_rfl) ((w_toReceiver_lk x0).trans (w_toReceiver_p x0 ((hf 0 0 rfl rfl).rng) ((hf 0 1 rfl rfl).slen) ((hf 0 2 rfl rfl).len) (fun y hy => (hf 0 2 rfl rfl).elem hy) ((hf 0 3 rfl rfl).rng) hp _ _ _))
noncomputable def w_toReceiver_e : Ent1 Try.prog := entP 186 [.st .recv] (fun x => (decide (x.1.data.length ≤ 4294967296 ∧ x.1.held.length ≤ 4294967296))) (fun x => (w_toReceiver x.1)) (fun v => [rv (.st .recv) [.c, .c, .o true, .c, .c] v]) (fun x hx => w_toReceiver_c x.1 (of_decide_eq_true hx))


/-- laws.eqReceiver -/
def w_eqReceiver_N (x0 : Recv) (x1 : Recv) (γ : Type) (fail : γ) (k : Bool → γ) : γ :=
  bif (x0.next != x1.next) then
    k false
  else
  bif (!(x0.data == x1.data)) then
    k false
  else
  letK (α := Bool) (w_eqPieceS x0.held x1.held) fun c1 =>
  bif (!c1) then
    k false
  else
  bif (x0.fin != x1.fin) then
    k false
  else
  bif (!(x0.done == x1.done)) then
    k false
  else
  k true
def w_eqReceiver (x0 : Recv) (x1 : Recv) : Bool :=
  bif (x0.next != x1.next) then
    false
  else
  bif (!(x0.data == x1.data)) then
    false
  else
  letK (α := Bool) (w_eqPieceS x0.held x1.held) fun c1 =>
  bif (!c1) then
    false
  else
  bif (x0.fin != x1.fin) then
    false
  else
  bif (!(x0.done == x1.done)) then
    false
  else
  true
theorem w_eqReceiver_lk (x0 : Recv) (x1 : Recv) : evalFn te (orcOf (P := Try.prog) [w_eqPieceS_e]) lorc0 [] Try.f189 (pvs [.st .recv, .st .recv] (x0, x1, ())) =
  w_eqReceiver_N x0 x1 _ none (fun v => some [(false, [RC.c (.bool v)])]) := by kernel_rfl
theorem w_eqReceiver_p (x0 : Recv) (x1 : Recv)   (γ : Type) (fail : γ) (k : Bool → γ) : w_eqReceiver_N x0 x1 γ fail k = k (w_eqReceiver x0 x1) := by
  unfold w_eqReceiver_N w_eqReceiver
  exact bifT (f := k) (fun b0 => rfl)
      (fun b0 => bifT (f := k) (fun b1 => rfl)
      (fun b1 => letT (f := k) (fun c1 hc1 => bifT (f := k) (fun b2 => rfl)
      (fun b2 => bifT (f := k) (fun b3 => rfl)
      (fun b3 => bifT (f := k) (fun b4 => rfl)
      (fun b4 => rfl))))))
theorem w_eqReceiver_c (x0 : Recv) (x1 : Recv)  : Con Try.prog 189 (pvs [.st .recv, .st .recv] (x0, x1, ())) [rv (.sc .bool) [] (w_eqReceiver x0 x1)] := by
  exact evalFn_con0 teFact mixFact (orcOf_ok _) Try.func189 (by kernel_rfl) ((w_eqReceiver_lk x0 x1).trans (w_eqReceiver_p x0 x1  _ _ _))
noncomputable def w_eqReceiver_e : Ent1 Try.prog := entA 189 [.st .recv, .st .recv] (fun x => (w_eqReceiver x.1 x.2.1)) (fun v => [rv (.sc .bool) [] v]) (fun x => w_eqReceiver_c x.1 x.2.1)


/-- impl.SipWord -/
def i_SipWord_N (x0 : Sipr) (x1 : Int) (γ : Type) (fail : γ) (k : Sipr → γ) : γ :=
  letK (α := Sipr) (i_SipRound ({ x0 with d := (bits .xor .u64 x0.d x1) } : Sipr)) fun c1 =>
  letK (α := Sipr) (i_SipRound c1) fun c2 =>
  k ({ c2 with a := (bits .xor .u64 c2.a x1) } : Sipr)
def i_SipWord (x0 : Sipr) (x1 : Int) : Sipr :=
  letK (α := Sipr) (i_SipRound ({ x0 with d := (bits .xor .u64 x0.d x1) } : Sipr)) fun c1 =>
  letK (α := Sipr) (i_SipRound c1) fun c2 =>
  ({ c2 with a := (bits .xor .u64 c2.a x1) } : Sipr)
theorem i_SipWord_lk (x0 : Sipr) (x1 : Int) : evalFn te (orcOf (P := Try.prog) [i_SipRound_e]) lorc0 [] Try.f194 (pvs [.st .sipr, .sc (.int .u64)] (x0, x1, ())) =
  i_SipWord_N x0 x1 _ none (fun v => some [(true, [RC.c (.int .u64 v.a), RC.c (.int .u64 v.b), RC.c (.int .u64 v.c), RC.c (.int .u64 v.d)])]) := by kernel_rfl
theorem i_SipWord_p (x0 : Sipr) (x1 : Int)   (γ : Type) (fail : γ) (k : Sipr → γ) : i_SipWord_N x0 x1 γ fail k = k (i_SipWord x0 x1) := by
  unfold i_SipWord_N i_SipWord
  exact letT (f := k) (fun c1 hc1 => letT (f := k) (fun c2 hc2 => rfl))
theorem i_SipWord_c (x0 : Sipr) (x1 : Int)  : Con Try.prog 194 (pvs [.st .sipr, .sc (.int .u64)] (x0, x1, ())) [rv (.st .sipr) [] (i_SipWord x0 x1)] := by
  exact evalFn_con0 teFact mixFact (orcOf_ok _) Try.func194 (by kernel_rfl) ((i_SipWord_lk x0 x1).trans (i_SipWord_p x0 x1  _ _ _))
noncomputable def i_SipWord_e : Ent1 Try.prog := entA 194 [.st .sipr, .sc (.int .u64)] (fun x => (i_SipWord x.1 x.2.1)) (fun v => [rv (.st .sipr) [] v]) (fun x => i_SipWord_c x.1 x.2.1)


/-- impl.SipEnd -/
def i_SipEnd_ann : List (Nat × Keep) := [(0, ⟨[1, 7], [], false, 0⟩)]
def i_SipEnd_L0_sh : Sh := ⟨[(1, false, [.ptr 0 0]), (7, false, [.int .i64])], [.box [.int .u64, .int .u64, .int .u64, .int .u64]]⟩
def i_SipEnd_L0_es : List (Ex × Sh) := [(.exit 0, ⟨[(1, false, [.ptr 0 0]), (2, false, [.undef])], [.box [.int .u64, .int .u64, .int .u64, .int .u64]]⟩)]
def i_SipEnd_L0_mk (v0 : Int) (v1 : Int) (v2 : Int) (v3 : Int) (v4 : Int) : i_SipEnd_L0_sh.T := ((((), ()), ((v0, ()), ())), ((v1, (v2, (v3, (v4, ())))), ()))
def i_SipEnd_L0_mx0 (y0 : Int) (y1 : Int) (y2 : Int) (y3 : Int) : Sh.T ⟨[(1, false, [.ptr 0 0]), (2, false, [.undef])], [.box [.int .u64, .int .u64, .int .u64, .int .u64]]⟩ := ((((), ()), (((), ()), ())), ((y0, (y1, (y2, (y3, ())))), ()))
def i_SipEnd_L0_B (v0 : Int) (v1 : Int) (v2 : Int) (v3 : Int) (v4 : Int) (γ : Type) (fail : γ) (next : i_SipEnd_L0_sh.T → γ) (out : WT i_SipEnd_L0_es → γ) : γ :=
  bif (decide (v0 < 4)) then
    letK (α := Sipr) (i_SipRound (⟨v1, v2, v3, v4⟩ : Sipr)) fun c1 =>
    next (i_SipEnd_L0_mk (IntKind.wrap .i64 (v0 + 1)) c1.a c1.b c1.c c1.d)
  else
  out (i_SipEnd_L0_mx0 v1 v2 v3 v4)
theorem i_SipEnd_L0_par (v0 : Int) (v1 : Int) (v2 : Int) (v3 : Int) (v4 : Int) (γ : Type) (fail : γ) (next : i_SipEnd_L0_sh.T → γ) (out : WT i_SipEnd_L0_es → γ) : i_SipEnd_L0_B v0 v1 v2 v3 v4 γ fail next out = optK (i_SipEnd_L0_B v0 v1 v2 v3 v4 _ none (fun v' => some (.inl v')) (fun w => some (.inr w))) fail (fun r => Sum.elim next out r) := by
  unfold i_SipEnd_L0_B
  exact bifT (f := (fun o => optK o fail (fun r => Sum.elim next out r))) (fun _ => letT (f := (fun o => optK o fail (fun r => Sum.elim next out r))) (fun c1 _ => rfl))
      (fun _ => rfl)
def i_SipEnd_L0_r : Round i_SipEnd_L0_sh.T (WT i_SipEnd_L0_es) where
  B v γ fail next out := i_SipEnd_L0_B v.1.2.1.1 v.2.1.1 v.2.1.2.1 v.2.1.2.2.1 v.2.1.2.2.2.1 γ fail next out
  par v γ fail next out := i_SipEnd_L0_par v.1.2.1.1 v.2.1.1 v.2.1.2.1 v.2.1.2.2.1 v.2.1.2.2.2.1 γ fail next out
def i_SipEnd_L0_fu (v0 : Int) (v1 : Int) (v2 : Int) (v3 : Int) (v4 : Int) : Nat := (Int.toNat (4 - v0)) + 1
theorem i_SipEnd_L0_lk (v : i_SipEnd_L0_sh.T) (next : St → Option Res) (k : Ex → St → Option Res) : evalK te (orcOf (P := Try.prog) [i_SipRound_e]) (lorcOf []) Try.f196.ntmps i_SipEnd_ann (nthLoop (bodyOf Try.f196) 0 0) 0 (i_SipEnd_L0_sh.enc v) (endK ⟨[1, 7], [], false, 0⟩ ⟨[1, 2], [], false, 0⟩ next k) =
  i_SipEnd_L0_r.B v _ none (fun v' => next (i_SipEnd_L0_sh.enc v')) (fun w => outK i_SipEnd_L0_es k w) := by kernel_rfl
def i_SipEnd_L0_le : LE := leOf 0 i_SipEnd_L0_sh i_SipEnd_L0_es i_SipEnd_L0_r.step (fun v => i_SipEnd_L0_fu v.1.2.1.1 v.2.1.1 v.2.1.2.1 v.2.1.2.2.1 v.2.1.2.2.2.1)
theorem i_SipEnd_L0_ls (w0 : World) (mo : Mts) (I0 : Nat → Prop) (hmo : mo.length = 0) : LSem Try.prog (Sim w0 mo Try.f196.ntmps I0) (fun b s k => match Nat.beq 0 b with | true => i_SipEnd_L0_le.run s k | false => none) 0 (nthLoop (bodyOf Try.f196) 0 0) :=
  le_sem hmo (lorc := lorcOf []) (ann := i_SipEnd_ann) (keep := ⟨[1, 7], [], false, 0⟩) (kout := ⟨[1, 2], [], false, 0⟩) teFact mixFact (orcOf_ok _) (by kernel_rfl) (allLoops_of (bs := []) (by kernel_rfl) trivial) i_SipEnd_L0_r _ i_SipEnd_L0_lk
def i_SipEnd_L0_f  (v0 : Int) (a : Int × Int × Int × Int) : Stp (Int × Int × Int × Int) (Empty) :=
  letK (α := Sipr) (i_SipRound (⟨a.1, a.2.1, a.2.2.1, a.2.2.2⟩ : Sipr)) fun c1 =>
  .next (c1.a, c1.b, c1.c, c1.d)
theorem i_SipEnd_L0_st (v0 : Int) (v1 : Int) (v2 : Int) (v3 : Int) (v4 : Int) (hlo : 0 ≤ v0) (hhi : v0 < 4) (hN : 4 ≤ 4611686018427387904) : i_SipEnd_L0_r.step (i_SipEnd_L0_mk v0 v1 v2 v3 v4) = Stp.elim (fun a' : Int × Int × Int × Int => some (Sum.inl (i_SipEnd_L0_mk (v0 + 1) a'.1 a'.2.1 a'.2.2.1 a'.2.2.2))) (fun w => some (Sum.inr ((fun p : Empty => nomatch p) w))) (i_SipEnd_L0_f  v0 (v1, v2, v3, v4)) := by
  have hw : (IntKind.wrap .i64 (v0 + 1)) = v0 + 1 := wrap64 (by omega) (by omega)
  show i_SipEnd_L0_B v0 v1 v2 v3 v4 (Option (i_SipEnd_L0_sh.T ⊕ WT i_SipEnd_L0_es)) none (fun v' => some (Sum.inl v')) (fun w => some (Sum.inr w)) = _
  unfold i_SipEnd_L0_B i_SipEnd_L0_f
  exact bifG (by simp only [decide_eq_true_eq]; omega) (letT (f := (Stp.elim (fun a' : Int × Int × Int × Int => some (Sum.inl (i_SipEnd_L0_mk (v0 + 1) a'.1 a'.2.1 a'.2.2.1 a'.2.2.2))) (fun w => some (Sum.inr ((fun p : Empty => nomatch p) w))))) (fun c1 hc1 => (by exact congrArg (fun z => some (Sum.inl (i_SipEnd_L0_mk z c1.a c1.b c1.c c1.d))) hw)))
theorem i_SipEnd_L0_cl (v0 : Int) (v1 : Int) (v2 : Int) (v3 : Int) (v4 : Int) (h0 : 0 ≤ v0) (h1 : 4 ≤ 4611686018427387904) : loopF i_SipEnd_L0_r.step (i_SipEnd_L0_fu v0 v1 v2 v3 v4) (i_SipEnd_L0_mk v0 v1 v2 v3 v4) = some (Stp.elim (fun a => (fun i a => i_SipEnd_L0_mx0 a.1 a.2.1 a.2.2.1 a.2.2.2) (v0 + 1 * (((Int.toNat (4 - v0)) : Nat) : Int)) a) (fun p : Empty => nomatch p) (forN (i_SipEnd_L0_f ) 1 (Int.toNat (4 - v0)) v0 (v1, v2, v3, v4))) :=
  forN_loop (step := i_SipEnd_L0_r.step) (mk := fun v0 a => i_SipEnd_L0_mk v0 a.1 a.2.1 a.2.2.1 a.2.2.2) (f := i_SipEnd_L0_f ) (e := (fun i a => i_SipEnd_L0_mx0 a.1 a.2.1 a.2.2.1 a.2.2.2)) (emb := (fun p : Empty => nomatch p)) (st := 1) (Inv := fun v0 a => True) (Int.toNat (4 - v0)) v0 (v1, v2, v3, v4) _ (Nat.lt_succ_self _) trivial
    (fun j a hj hv => ⟨i_SipEnd_L0_st (v0 + 1 * (j : Int)) a.1 a.2.1 a.2.2.1 a.2.2.2 (by omega) (by omega) (by omega), fun _ _ => trivial⟩)
    (fun a hv => by
      show i_SipEnd_L0_B (v0 + 1 * (((Int.toNat (4 - v0)) : Nat) : Int)) a.1 a.2.1 a.2.2.1 a.2.2.2 (Option (i_SipEnd_L0_sh.T ⊕ WT i_SipEnd_L0_es)) none (fun v' => some (Sum.inl v')) (fun w => some (Sum.inr w)) = _
      unfold i_SipEnd_L0_B
      exact bifN (by simp only [decide_eq_false_iff_not]; omega) rfl)
def i_SipEnd_N (x0 : Sipr) (γ : Type) (fail : γ) (k : Int → γ) : γ :=
  optK (loopF i_SipEnd_L0_r.step (i_SipEnd_L0_fu 0 x0.a x0.b (bits .xor .u64 x0.c 255) x0.d) (i_SipEnd_L0_mk 0 x0.a x0.b (bits .xor .u64 x0.c 255) x0.d)) fail fun w2 =>
    letK (α := Int) (bits .xor .u64 (bits .xor .u64 (bits .xor .u64 w2.2.1.1 w2.2.1.2.1) w2.2.1.2.2.1) w2.2.1.2.2.2.1) fun e3 =>
    k e3
def i_SipEnd (x0 : Sipr) : Int :=
  Stp.elim (fun a4 =>
    letK (α := Int) (bits .xor .u64 (bits .xor .u64 (bits .xor .u64 a4.1 a4.2.1) a4.2.2.1) a4.2.2.2) fun e5 =>
    e5)
    (fun p : Empty => nomatch p)
    (forN (i_SipEnd_L0_f) 1 (Int.toNat (4 - 0)) 0 (x0.a, x0.b, (bits .xor .u64 x0.c 255), x0.d))
theorem i_SipEnd_lk (x0 : Sipr) : evalFn te (orcOf (P := Try.prog) [i_SipRound_e]) (lorcOf [i_SipEnd_L0_le]) i_SipEnd_ann Try.f196 (pvs [.st .sipr] (x0, ())) =
  i_SipEnd_N x0 _ none (fun v => some [(false, [RC.c (.int .u64 v)])]) := by kernel_rfl
theorem i_SipEnd_p (x0 : Sipr) (hx0_a : inK .u64 x0.a) (hx0_b : inK .u64 x0.b) (hx0_c : inK .u64 x0.c) (hx0_d : inK .u64 x0.d)  (γ : Type) (fail : γ) (k : Int → γ) : i_SipEnd_N x0 γ fail k = k (i_SipEnd x0) := by
  unfold i_SipEnd_N i_SipEnd
  exact loopT (f := k) (i_SipEnd_L0_cl 0 x0.a x0.b (bits .xor .u64 x0.c 255) x0.d (by (try simp only [Nat.ble_eq, Bool.and_eq_true, decide_eq_true_eq, i_SipEnd_L0_mx0]); grind [maxSl, maxStr, toBytes_length, toInts_length, List.length_set, wrap64]) (by (try simp only [Nat.ble_eq, Bool.and_eq_true, decide_eq_true_eq, i_SipEnd_L0_mx0]); grind [maxSl, maxStr, toBytes_length, toInts_length, List.length_set, wrap64])) (fun a4 => letT (f := k) (fun e5 he5 => rfl))
      (fun p : Empty => nomatch p)
theorem i_SipEnd_c (x0 : Sipr)  : Con Try.prog 196 (pvs [.st .sipr] (x0, ())) [rv (.sc (.int .u64)) [] (i_SipEnd x0)] := by
  refine Con.of_facts (enters_of Try.func196 rfl (by kernel_rfl)) fun hf => ?_
  replace hf := factAt hf
  exact evalFn_conL teFact mixFact (orcOf_ok _) Try.func196 (by kernel_rfl) (bs := [0]) (by kernel_rfl) (by kernel_rfl) (fun w0 mo I0 hmo => ⟨lsem_of_lorc (i_SipEnd_L0_ls w0 mo I0 hmo) (by kernel_rfl), trivial⟩) ((i_SipEnd_lk x0).trans (i_SipEnd_p x0 ((hf 0 0 rfl rfl).rng) ((hf 0 1 rfl rfl).rng) ((hf 0 2 rfl rfl).rng) ((hf 0 3 rfl rfl).rng) _ _ _))
noncomputable def i_SipEnd_e : Ent1 Try.prog := entA 196 [.st .sipr] (fun x => (i_SipEnd x.1)) (fun v => [rv (.sc (.int .u64)) [] v]) (fun x => i_SipEnd_c x.1)


/-- spec.SipWord -/
def s_SipWord_N (x0 : Sipr) (x1 : Int) (γ : Type) (fail : γ) (k : Sipr → γ) : γ :=
  letK (α := Sipr) (s_SipRound ({ x0 with d := (bits .xor .u64 x0.d x1) } : Sipr)) fun c1 =>
  letK (α := Sipr) (s_SipRound c1) fun c2 =>
  k ({ c2 with a := (bits .xor .u64 c2.a x1) } : Sipr)
def s_SipWord (x0 : Sipr) (x1 : Int) : Sipr :=
  letK (α := Sipr) (s_SipRound ({ x0 with d := (bits .xor .u64 x0.d x1) } : Sipr)) fun c1 =>
  letK (α := Sipr) (s_SipRound c1) fun c2 =>
  ({ c2 with a := (bits .xor .u64 c2.a x1) } : Sipr)
theorem s_SipWord_lk (x0 : Sipr) (x1 : Int) : evalFn te (orcOf (P := Try.prog) [s_SipRound_e]) lorc0 [] Try.f198 (pvs [.st .sipr, .sc (.int .u64)] (x0, x1, ())) =
  s_SipWord_N x0 x1 _ none (fun v => some [(true, [RC.c (.int .u64 v.a), RC.c (.int .u64 v.b), RC.c (.int .u64 v.c), RC.c (.int .u64 v.d)])]) := by kernel_rfl
theorem s_SipWord_p (x0 : Sipr) (x1 : Int)   (γ : Type) (fail : γ) (k : Sipr → γ) : s_SipWord_N x0 x1 γ fail k = k (s_SipWord x0 x1) := by
  unfold s_SipWord_N s_SipWord
  exact letT (f := k) (fun c1 hc1 => letT (f := k) (fun c2 hc2 => rfl))
theorem s_SipWord_c (x0 : Sipr) (x1 : Int)  : Con Try.prog 198 (pvs [.st .sipr, .sc (.int .u64)] (x0, x1, ())) [rv (.st .sipr) [] (s_SipWord x0 x1)] := by
  exact evalFn_con0 teFact mixFact (orcOf_ok _) Try.func198 (by kernel_rfl) ((s_SipWord_lk x0 x1).trans (s_SipWord_p x0 x1  _ _ _))
noncomputable def s_SipWord_e : Ent1 Try.prog := entA 198 [.st .sipr, .sc (.int .u64)] (fun x => (s_SipWord x.1 x.2.1)) (fun v => [rv (.st .sipr) [] v]) (fun x => s_SipWord_c x.1 x.2.1)


/-- spec.SipEnd -/
def s_SipEnd_N (x0 : Sipr) (γ : Type) (fail : γ) (k : Int → γ) : γ :=
  letK (α := Sipr) (s_SipRound ({ x0 with c := (bits .xor .u64 x0.c 255) } : Sipr)) fun c1 =>
  letK (α := Sipr) (s_SipRound c1) fun c2 =>
  letK (α := Sipr) (s_SipRound c2) fun c3 =>
  letK (α := Sipr) (s_SipRound c3) fun c4 =>
  k (bits .xor .u64 (bits .xor .u64 (bits .xor .u64 c4.a c4.b) c4.c) c4.d)
def s_SipEnd (x0 : Sipr) : Int :=
  letK (α := Sipr) (s_SipRound ({ x0 with c := (bits .xor .u64 x0.c 255) } : Sipr)) fun c1 =>
  letK (α := Sipr) (s_SipRound c1) fun c2 =>
  letK (α := Sipr) (s_SipRound c2) fun c3 =>
  letK (α := Sipr) (s_SipRound c3) fun c4 =>
  (bits .xor .u64 (bits .xor .u64 (bits .xor .u64 c4.a c4.b) c4.c) c4.d)
theorem s_SipEnd_lk (x0 : Sipr) : evalFn te (orcOf (P := Try.prog) [s_SipRound_e]) lorc0 [] Try.f200 (pvs [.st .sipr] (x0, ())) =
  s_SipEnd_N x0 _ none (fun v => some [(false, [RC.c (.int .u64 v)])]) := by kernel_rfl
theorem s_SipEnd_p (x0 : Sipr)   (γ : Type) (fail : γ) (k : Int → γ) : s_SipEnd_N x0 γ fail k = k (s_SipEnd x0) := by
  unfold s_SipEnd_N s_SipEnd
  exact letT (f := k) (fun c1 hc1 => letT (f := k) (fun c2 hc2 => letT (f := k) (fun c3 hc3 => letT (f := k) (fun c4 hc4 => rfl))))
theorem s_SipEnd_c (x0 : Sipr)  : Con Try.prog 200 (pvs [.st .sipr] (x0, ())) [rv (.sc (.int .u64)) [] (s_SipEnd x0)] := by
  exact evalFn_con0 teFact mixFact (orcOf_ok _) Try.func200 (by kernel_rfl) ((s_SipEnd_lk x0).trans (s_SipEnd_p x0  _ _ _))
noncomputable def s_SipEnd_e : Ent1 Try.prog := entA 200 [.st .sipr] (fun x => (s_SipEnd x.1)) (fun v => [rv (.sc (.int .u64)) [] v]) (fun x => s_SipEnd_c x.1)


/-- laws.toKeys -/
def w_toKeys_N (x0 : Keys) (γ : Type) (fail : γ) (k : Keys → γ) : γ :=
  bif (decide (x0.now.rows.length ≤ 4294967296)) then
  letK (α := Mac) (w_toMac x0.now) fun c1 =>
  bif (decide (x0.before.rows.length ≤ 4294967296)) then
  letK (α := Mac) (w_toMac x0.before) fun c2 =>
  k (⟨x0.epoch, c1, c2, x0.two⟩ : Keys)
  else fail
  else fail
def w_toKeys (x0 : Keys) : Keys :=
  letK (α := Mac) (w_toMac x0.now) fun c1 =>
  letK (α := Mac) (w_toMac x0.before) fun c2 =>
  (⟨x0.epoch, c1, c2, x0.two⟩ : Keys)
theorem w_toKeys_lk (x0 : Keys) : evalFn te (orcOf (P := Try.prog) [w_toMac_e]) lorc0 [] Try.f72 (pvs [.st .keys] (x0, ())) =
  w_toKeys_N x0 _ none (fun v => some [(true, [RC.c (.int .i64 v.epoch), RC.c (.bool v.now.use), RC.c (.int .u64 v.now.k), RC.c (.int .u64 v.now.l), RC.own true .macRow v.now.rows, RC.c (.bool v.before.use), RC.c (.int .u64 v.before.k), RC.c (.int .u64 v.before.l), RC.own true .macRow v.before.rows, RC.c (.bool v.two)])]) := by kernel_rfl
theorem w_toKeys_p (x0 : Keys) (hx0_epoch : inK .i64 x0.epoch) (hx0_now_k : inK .u64 x0.now.k) (hx0_now_l : inK .u64 x0.now.l) (hx0_now_rows : x0.now.rows.length ≤ 140737488355328) (hx0_now_rows_e : ∀ y ∈ x0.now.rows, ∀ c ∈ Ty.cells .macRow y, FactC c) (hx0_before_k : inK .u64 x0.before.k) (hx0_before_l : inK .u64 x0.before.l) (hx0_before_rows : x0.before.rows.length ≤ 140737488355328) (hx0_before_rows_e : ∀ y ∈ x0.before.rows, ∀ c ∈ Ty.cells .macRow y, FactC c) (hp : x0.now.rows.length ≤ 4294967296 ∧ x0.before.rows.length ≤ 4294967296) (γ : Type) (fail : γ) (k : Keys → γ) : w_toKeys_N x0 γ fail k = k (w_toKeys x0) := by
  unfold w_toKeys_N w_toKeys
  exact bifG (by (try simp only [Nat.ble_eq, Bool.and_eq_true, decide_eq_true_eq]); grind [maxSl, maxStr, toBytes_length, toInts_length, List.length_set, wrap64]) (letT (f := k) (fun c1 hc1 => bifG (by (try simp only [Nat.ble_eq, Bool.and_eq_true, decide_eq_true_eq]); grind [maxSl, maxStr, toBytes_length, toInts_length, List.length_set, wrap64]) (letT (f := k) (fun c2 hc2 => rfl))))
theorem w_toKeys_c (x0 : Keys) (hp : x0.now.rows.length ≤ 4294967296 ∧ x0.before.rows.length ≤ 4294967296) : Con Try.prog 72 (pvs [.st .keys] (x0, ())) [rv (.st .keys) [.c, .c, .c, .c, .o true, .c, .c, .c, .o true, .c] (w_toKeys x0)] := by
  refine Con.of_facts (enters_of Try.func72 rfl (by kernel_rfl)) fun hf => ?_
  replace hf := factAt hf
  exact evalFn_con0 teFact mixFact (orcOf_ok _) Try.func72 (by kernel_rfl) ((w_toKeys_lk x0).trans (w_toKeys_p x0 ((hf 0 0 rfl rfl).rng) ((hf 0 2 rfl rfl).rng) ((hf 0 3 rfl rfl).rng) ((hf 0 4 rfl rfl).len) (fun y hy => (hf 0 4 rfl rfl).elem hy) ((hf 0 6 rfl rfl).rng) ((hf 0 7 rfl rfl).rng) ((hf 0 8 rfl rfl).len) (fun y hy => (hf 0 8 rfl rfl).elem hy) hp _ _ _))
noncomputable def w_toKeys_e : Ent1 Try.prog := entP 72 [.st .keys] (fun x => (decide (x.1.now.rows.length ≤ 4294967296 ∧ x.1.before.rows.length ≤ 4294967296))) (fun x => (w_toKeys x.1)) (fun v => [rv (.st .keys) [.c, .c, .c, .c, .o true, .c, .c, .c, .o true, .c] v]) (fun x hx => w_toKeys_c x.1 (of_decide_eq_true hx))


/-- laws.eqKeys -/
def w_eqKeys_N (x0 : Keys) (x1 : Keys) (γ : Type) (fail : γ) (k : Bool → γ) : γ :=
  bif (x0.epoch != x1.epoch) then
    k false
  else
  letK (α := Bool) (w_eqMac x0.now x1.now) fun c1 =>
  bif (!c1) then
    k false
  else
  letK (α := Bool) (w_eqMac x0.before x1.before) fun c2 =>
  bif (!c2) then
    k false
  else
  bif (!(x0.two == x1.two)) then
    k false
  else
  k true
def w_eqKeys (x0 : Keys) (x1 : Keys) : Bool :=
  bif (x0.epoch != x1.epoch) then
    false
  else
  letK (α := Bool) (w_eqMac x0.now x1.now) fun c1 =>
  bif (!c1) then
    false
  else
  letK (α := Bool) (w_eqMac x0.before x1.before) fun c2 =>
  bif (!c2) then
    false
  else
  bif (!(x0.two == x1.two)) then
    false
  else
  true
theorem w_eqKeys_lk (x0 : Keys) (x1 : Keys) : evalFn te (orcOf (P := Try.prog) [w_eqMac_e]) lorc0 [] Try.f76 (pvs [.st .keys, .st .keys] (x0, x1, ())) =
  w_eqKeys_N x0 x1 _ none (fun v => some [(false, [RC.c (.bool v)])]) := by kernel_rfl
theorem w_eqKeys_p (x0 : Keys) (x1 : Keys)   (γ : Type) (fail : γ) (k : Bool → γ) : w_eqKeys_N x0 x1 γ fail k = k (w_eqKeys x0 x1) := by
  unfold w_eqKeys_N w_eqKeys
  exact bifT (f := k) (fun b0 => rfl)
      (fun b0 => letT (f := k) (fun c1 hc1 => bifT (f := k) (fun b1 => rfl)
      (fun b1 => letT (f := k) (fun c2 hc2 => bifT (f := k) (fun b2 => rfl)
      (fun b2 => bifT (f := k) (fun b3 => rfl)
      (fun b3 => rfl))))))
theorem w_eqKeys_c (x0 : Keys) (x1 : Keys)  : Con Try.prog 76 (pvs [.st .keys, .st .keys] (x0, x1, ())) [rv (.sc .bool) [] (w_eqKeys x0 x1)] := by
  exact evalFn_con0 teFact mixFact (orcOf_ok _) Try.func76 (by kernel_rfl) ((w_eqKeys_lk x0 x1).trans (w_eqKeys_p x0 x1  _ _ _))
noncomputable def w_eqKeys_e : Ent1 Try.prog := entA 76 [.st .keys, .st .keys] (fun x => (w_eqKeys x.1 x.2.1)) (fun v => [rv (.sc .bool) [] v]) (fun x => w_eqKeys_c x.1 x.2.1)


/-- laws.toConn -/
def w_toConn_N (x0 : Conn) (γ : Type) (fail : γ) (k : Conn → γ) : γ :=
  letK (α := Tupl) (w_toTuple x0.tuple) fun c1 =>
  letK (α := Sndr) (w_toSender x0.s) fun c2 =>
  bif (decide (x0.r.data.length ≤ 4294967296 ∧ x0.r.held.length ≤ 4294967296)) then
  letK (α := Recv) (w_toReceiver x0.r) fun c3 =>
  letK (α := Opti) (w_toOptions x0.opts) fun c4 =>
  k (⟨c1, x0.state, c2, c3, x0.window, x0.most, c4, x0.timer, x0.tries⟩ : Conn)
  else fail
def w_toConn (x0 : Conn) : Conn :=
  letK (α := Tupl) (w_toTuple x0.tuple) fun c1 =>
  letK (α := Sndr) (w_toSender x0.s) fun c2 =>
  letK (α := Recv) (w_toReceiver x0.r) fun c3 =>
  letK (α := Opti) (w_toOptions x0.opts) fun c4 =>
  (⟨c1, x0.state, c2, c3, x0.window, x0.most, c4, x0.timer, x0.tries⟩ : Conn)
theorem w_toConn_lk (x0 : Conn) : evalFn te (orcOf (P := Try.prog) [w_toTuple_e, w_toSender_e, w_toReceiver_e, w_toOptions_e]) lorc0 [] Try.f161 (pvs [.st .conn] (x0, ())) =
  w_toConn_N x0 _ none (fun v => some [(true, [RC.c (.int .i64 v.tuple.ip), RC.c (.int .i64 v.tuple.port), RC.c (.int .i64 v.tuple.my), RC.c (.int .i64 v.state), RC.c (.int .i64 v.s.una), RC.c (.str v.s.data), RC.c (.int .i64 v.s.sent), RC.c (.bool v.s.fin), RC.c (.bool v.s.finSent), RC.c (.bool v.s.done), RC.c (.int .i64 v.r.next), RC.c (.str v.r.data), RC.own true .piec v.r.held, RC.c (.int .i64 v.r.fin), RC.c (.bool v.r.done), RC.c (.int .i64 v.window), RC.c (.int .i64 v.most), RC.c (.int .i64 v.opts.mss), RC.c (.int .i64 v.opts.scale), RC.c (.bool v.opts.sack), RC.c (.bool v.opts.stamp), RC.c (.int .i64 v.opts.val), RC.c (.int .i64 v.opts.echo), RC.c (.int .i64 v.timer), RC.c (.int .i64 v.tries)])]) := by kernel_rfl
theorem w_toConn_p (x0 : Conn) (hx0_tuple_ip : inK .i64 x0.tuple.ip) (hx0_tuple_port : inK .i64 x0.tuple.port) (hx0_tuple_my : inK .i64 x0.tuple.my) (hx0_state : inK .i64 x0.state) (hx0_s_una : inK .i64 x0.s.una) (hx0_s_data : List.length x0.s.data ≤ 4611686018427387904) (hx0_s_sent : inK .i64 x0.s.sent) (hx0_r_next : inK .i64 x0.r.next) (hx0_r_data : List.length x0.r.data ≤ 4611686018427387904) (hx0_r_held : x0.r.held.length ≤ 140737488355328) (hx0_r_held_e : ∀ y ∈ x0.r.held, ∀ c ∈ Ty.cells .piec y, FactC c) (hx0_r_fin : inK .i64 x0.r.fin) (hx0_window : inK .i64 x0.window) (hx0_most : inK .i64 x0.most) (hx0_opts_mss : inK .i64 x0.opts.mss) (hx0_opts_scale : inK .i64 x0.opts.scale) (hx0_opts_val : inK .i64 x0.opts.val) (hx0_opts_echo : inK .i64 x0.opts.echo) (hx0_timer : inK .i64 x0.timer) (hx0_tries : inK .i64 x0.tries) (hp : x0.s.data.length ≤ 4294967296 ∧ x0.r.data.length ≤ 4294967296 ∧ x0.r.held.length ≤ 4294967296) (γ : Type) (fail : γ) (k : Conn → γ) : w_toConn_N x0 γ fail k = k (w_toConn x0) := by
  unfold w_toConn_N w_toConn
  exact letT (f := k) (fun c1 hc1 => letT (f := k) (fun c2 hc2 => bifG (by (try simp only [Nat.ble_eq, Bool.and_eq_true, decide_eq_true_eq]); grind [maxSl, maxStr, toBytes_length, toInts_length, List.length_set, wrap64]) (letT (f := k) (fun c3 hc3 => letT (f := k) (fun c4 hc4 => rfl)))))
theorem w_toConn_c (x0 : Conn) (hp : x0.s.data.length ≤ 4294967296 ∧ x0.r.data.length ≤ 4294967296 ∧ x0.r.held.length ≤ 4294967296) : Con Try.prog 161 (pvs [.st .conn] (x0, ())) [rv (.st .conn) [.c, .c, .c, .c, .c, .c, .c, .c, .c, .c, .c, .c, .o true, .c, .c, .c, .c, .c, .c, .c, .c, .c, .c, .c, .c] (w_toConn x0)] := by
  refine Con.of_facts (enters_of Try.func161 rfl (by kernel_rfl)) fun hf => ?_
  replace hf := factAt hf
  exact evalFn_con0 teFact mixFact (orcOf_ok _) Try.func161 (by kernel_rfl) ((w_toConn_lk x0).trans (w_toConn_p x0 ((hf 0 0 rfl rfl).rng) ((hf 0 1 rfl rfl).rng) ((hf 0 2 rfl rfl).rng) ((hf 0 3 rfl rfl).rng) ((hf 0 4 rfl rfl).rng) ((hf 0 5 rfl rfl).slen) ((hf 0 6 rfl rfl).rng) ((hf 0 10 rfl rfl).rng) ((hf 0 11 rfl rfl).slen) ((hf 0 12 rfl rfl).len) (fun y hy => (hf 0 12 rfl rfl).elem hy) ((hf 0 13 rfl rfl).rng) ((hf 0 15 rfl rfl).rng) ((hf 0 16 rfl rfl).rng) ((hf 0 17 rfl rfl).rng) ((hf 0 18 rfl rfl).rng) ((hf 0 21 rfl rfl).rng) ((hf 0 22 rfl rfl).rng) ((hf 0 23 rfl rfl).rng) ((hf 0 24 rfl rfl).rng) hp _ _ _))
noncomputable def w_toConn_e : Ent1 Try.prog := entP 161 [.st .conn] (fun x => (decide (x.1.s.data.length ≤ 4294967296 ∧ x.1.r.data.length ≤ 4294967296 ∧ x.1.r.held.length ≤ 4294967296))) (fun x => (w_toConn x.1)) (fun v => [rv (.st .conn) [.c, .c, .c, .c, .c, .c, .c, .c, .c, .c, .c, .c, .o true, .c, .c, .c, .c, .c, .c, .c, .c, .c, .c, .c, .c] v]) (fun x hx => w_toConn_c x.1 (of_decide_eq_true hx))


/-- laws.eqConn -/
def w_eqConn_N (x0 : Conn) (x1 : Conn) (γ : Type) (fail : γ) (k : Bool → γ) : γ :=
  letK (α := Bool) (w_eqTuple x0.tuple x1.tuple) fun c1 =>
  bif (!c1) then
    k false
  else
  bif (x0.state != x1.state) then
    k false
  else
  letK (α := Bool) (w_eqSender x0.s x1.s) fun c2 =>
  bif (!c2) then
    k false
  else
  letK (α := Bool) (w_eqReceiver x0.r x1.r) fun c3 =>
  bif (!c3) then
    k false
  else
  bif (x0.window != x1.window) then
    k false
  else
  bif (x0.most != x1.most) then
    k false
  else
  letK (α := Bool) (w_eqOptions x0.opts x1.opts) fun c4 =>
  bif (!c4) then
    k false
  else
  bif (x0.timer != x1.timer) then
    k false
  else
  bif (x0.tries != x1.tries) then
    k false
  else
  k true
def w_eqConn (x0 : Conn) (x1 : Conn) : Bool :=
  letK (α := Bool) (w_eqTuple x0.tuple x1.tuple) fun c1 =>
  bif (!c1) then
    false
  else
  bif (x0.state != x1.state) then
    false
  else
  letK (α := Bool) (w_eqSender x0.s x1.s) fun c2 =>
  bif (!c2) then
    false
  else
  letK (α := Bool) (w_eqReceiver x0.r x1.r) fun c3 =>
  bif (!c3) then
    false
  else
  bif (x0.window != x1.window) then
    false
  else
  bif (x0.most != x1.most) then
    false
  else
  letK (α := Bool) (w_eqOptions x0.opts x1.opts) fun c4 =>
  bif (!c4) then
    false
  else
  bif (x0.timer != x1.timer) then
    false
  else
  bif (x0.tries != x1.tries) then
    false
  else
  true
theorem w_eqConn_lk (x0 : Conn) (x1 : Conn) : evalFn te (orcOf (P := Try.prog) [w_eqTuple_e, w_eqSender_e, w_eqReceiver_e, w_eqOptions_e]) lorc0 [] Try.f164 (pvs [.st .conn, .st .conn] (x0, x1, ())) =
  w_eqConn_N x0 x1 _ none (fun v => some [(false, [RC.c (.bool v)])]) := by kernel_rfl
theorem w_eqConn_p (x0 : Conn) (x1 : Conn)   (γ : Type) (fail : γ) (k : Bool → γ) : w_eqConn_N x0 x1 γ fail k = k (w_eqConn x0 x1) := by
  unfold w_eqConn_N w_eqConn
  exact letT (f := k) (fun c1 hc1 => bifT (f := k) (fun b0 => rfl)
      (fun b0 => bifT (f := k) (fun b1 => rfl)
      (fun b1 => letT (f := k) (fun c2 hc2 => bifT (f := k) (fun b2 => rfl)
      (fun b2 => letT (f := k) (fun c3 hc3 => bifT (f := k) (fun b3 => rfl)
      (fun b3 => bifT (f := k) (fun b4 => rfl)
      (fun b4 => bifT (f := k) (fun b5 => rfl)
      (fun b5 => letT (f := k) (fun c4 hc4 => bifT (f := k) (fun b6 => rfl)
      (fun b6 => bifT (f := k) (fun b7 => rfl)
      (fun b7 => bifT (f := k) (fun b8 => rfl)
      (fun b8 => rfl)))))))))))))
theorem w_eqConn_c (x0 : Conn) (x1 : Conn)  : Con Try.prog 164 (pvs [.st .conn, .st .conn] (x0, x1, ())) [rv (.sc .bool) [] (w_eqConn x0 x1)] := by
  exact evalFn_con0 teFact mixFact (orcOf_ok _) Try.func164 (by kernel_rfl) ((w_eqConn_lk x0 x1).trans (w_eqConn_p x0 x1  _ _ _))
noncomputable def w_eqConn_e : Ent1 Try.prog := entA 164 [.st .conn, .st .conn] (fun x => (w_eqConn x.1 x.2.1)) (fun v => [rv (.sc .bool) [] v]) (fun x => w_eqConn_c x.1 x.2.1)


/-- impl.SipHash -/
def i_SipHash_ann : List (Nat × Keep) := [(0, ⟨[2, 7, 8], [.soft 8 0], false, 0⟩)]
def i_SipHash_L0_sh : Sh := ⟨[(2, false, [.str]), (7, false, [.ptr 0 0]), (8, false, [.sl .any .u8])], [.box [.int .u64, .int .u64, .int .u64, .int .u64]]⟩
def i_SipHash_L0_es : List (Ex × Sh) := [(.exit 0, ⟨[(2, false, [.str]), (6, false, [.undef]), (7, false, [.ptr 0 0]), (8, false, [.sl .any .u8])], [.box [.int .u64, .int .u64, .int .u64, .int .u64]]⟩)]
def i_SipHash_L0_mk (v0 : Bytes) (v1 : List Int) (v2 : Int) (v3 : Int) (v4 : Int) (v5 : Int) : i_SipHash_L0_sh.T := (((v0, ()), (((), ()), ((v1, ()), ()))), ((v2, (v3, (v4, (v5, ())))), ()))
def i_SipHash_L0_mx0 (y0 : Bytes) (y1 : List Int) (y2 : Int) (y3 : Int) (y4 : Int) (y5 : Int) : Sh.T ⟨[(2, false, [.str]), (6, false, [.undef]), (7, false, [.ptr 0 0]), (8, false, [.sl .any .u8])], [.box [.int .u64, .int .u64, .int .u64, .int .u64]]⟩ := (((y0, ()), (((), ()), (((), ()), ((y1, ()), ())))), ((y2, (y3, (y4, (y5, ())))), ()))
def i_SipHash_L0_B (v0 : Bytes) (v1 : List Int) (v2 : Int) (v3 : Int) (v4 : Int) (v5 : Int) (γ : Type) (fail : γ) (next : i_SipHash_L0_sh.T → γ) (out : WT i_SipHash_L0_es → γ) : γ :=
  bif (decide (8 ≤ (v1.length : Int))) then
    bif (decide (8 ≤ v1.length)) then
    letK (α := Int) (i_little v1) fun c4 =>
    letK (α := Sipr) (i_SipWord (⟨v2, v3, v4, v5⟩ : Sipr) c4) fun c5 =>
    bif ((decide (8 ≤ (v1.length : Int))) && (decide ((v1.length : Int) ≤ (v1.length : Int)))) then
    next (i_SipHash_L0_mk v0 ((v1.take ((v1.length : Int).toNat)).drop 8) c5.a c5.b c5.c c5.d)
    else fail
    else fail
  else
  out (i_SipHash_L0_mx0 v0 v1 v2 v3 v4 v5)
theorem i_SipHash_L0_par (v0 : Bytes) (v1 : List Int) (v2 : Int) (v3 : Int) (v4 : Int) (v5 : Int) (γ : Type) (fail : γ) (next : i_SipHash_L0_sh.T → γ) (out : WT i_SipHash_L0_es → γ) : i_SipHash_L0_B v0 v1 v2 v3 v4 v5 γ fail next out = optK (i_SipHash_L0_B v0 v1 v2 v3 v4 v5 _ none (fun v' => some (.inl v')) (fun w => some (.inr w))) fail (fun r => Sum.elim next out r) := by
  unfold i_SipHash_L0_B
  exact bifT (f := (fun o => optK o fail (fun r => Sum.elim next out r))) (fun _ => bifT (f := (fun o => optK o fail (fun r => Sum.elim next out r))) (fun _ => letT (f := (fun o => optK o fail (fun r => Sum.elim next out r))) (fun c4 _ => letT (f := (fun o => optK o fail (fun r => Sum.elim next out r))) (fun c5 _ => bifT (f := (fun o => optK o fail (fun r => Sum.elim next out r))) (fun _ => rfl) (fun _ => rfl)))) (fun _ => rfl))
      (fun _ => rfl)
def i_SipHash_L0_r : Round i_SipHash_L0_sh.T (WT i_SipHash_L0_es) where
  B v γ fail next out := i_SipHash_L0_B v.1.1.1 v.1.2.2.1.1 v.2.1.1 v.2.1.2.1 v.2.1.2.2.1 v.2.1.2.2.2.1 γ fail next out
  par v γ fail next out := i_SipHash_L0_par v.1.1.1 v.1.2.2.1.1 v.2.1.1 v.2.1.2.1 v.2.1.2.2.1 v.2.1.2.2.2.1 γ fail next out
def i_SipHash_L0_fu (v0 : Bytes) (v1 : List Int) (v2 : Int) (v3 : Int) (v4 : Int) (v5 : Int) : Nat := v1.length + 1
theorem i_SipHash_L0_lk (v : i_SipHash_L0_sh.T) (next : St → Option Res) (k : Ex → St → Option Res) : evalK te (orcOf (P := Try.prog) [i_SipStart_e, i_little_e, i_SipWord_e, i_SipEnd_e]) (lorcOf []) Try.f179.ntmps i_SipHash_ann (nthLoop (bodyOf Try.f179) 0 0) 0 (i_SipHash_L0_sh.enc v) (endK ⟨[2, 7, 8], [.soft 8 0], false, 0⟩ ⟨[2, 6, 7, 8], [], false, 0⟩ next k) =
  i_SipHash_L0_r.B v _ none (fun v' => next (i_SipHash_L0_sh.enc v')) (fun w => outK i_SipHash_L0_es k w) := by kernel_rfl
def i_SipHash_L0_le : LE := leOf 0 i_SipHash_L0_sh i_SipHash_L0_es i_SipHash_L0_r.step (fun v => i_SipHash_L0_fu v.1.1.1 v.1.2.2.1.1 v.2.1.1 v.2.1.2.1 v.2.1.2.2.1 v.2.1.2.2.2.1)
theorem i_SipHash_L0_ls (w0 : World) (mo : Mts) (I0 : Nat → Prop) (hmo : mo.length = 0) : LSem Try.prog (Sim w0 mo Try.f179.ntmps I0) (fun b s k => match Nat.beq 0 b with | true => i_SipHash_L0_le.run s k | false => none) 0 (nthLoop (bodyOf Try.f179) 0 0) :=
  le_sem hmo (lorc := lorcOf []) (ann := i_SipHash_ann) (keep := ⟨[2, 7, 8], [.soft 8 0], false, 0⟩) (kout := ⟨[2, 6, 7, 8], [], false, 0⟩) teFact mixFact (orcOf_ok _) (by kernel_rfl) (allLoops_of (bs := []) (by kernel_rfl) trivial) i_SipHash_L0_r _ i_SipHash_L0_lk
def i_SipHash_L0_f (v0 : Bytes) (a : List Int × Int × Int × Int × Int) : Stp (List Int × Int × Int × Int × Int) ((List Int × Int × Int × Int × Int)) :=
  bif (decide (8 ≤ (a.1.length : Int))) then
    letK (α := Int) (i_little a.1) fun c4 =>
    letK (α := Sipr) (i_SipWord (⟨a.2.1, a.2.2.1, a.2.2.2.1, a.2.2.2.2⟩ : Sipr) c4) fun c5 =>
    .next (((a.1.take ((a.1.length : Int).toNat)).drop 8), c5.a, c5.b, c5.c, c5.d)
  else
  .out ((a.1, a.2.1, a.2.2.1, a.2.2.2.1, a.2.2.2.2))
def i_SipHash_L0_w (v0 : Bytes) (v1 : List Int) (v2 : Int) (v3 : Int) (v4 : Int) (v5 : Int) : (List Int × Int × Int × Int × Int) := whileN (i_SipHash_L0_f v0) (i_SipHash_L0_fu v0 v1 v2 v3 v4 v5) (v1, v2, v3, v4, v5)
theorem i_SipHash_L0_st (v0 : Bytes) (v1 : List Int) (v2 : Int) (v3 : Int) (v4 : Int) (v5 : Int) (hinv : True) : i_SipHash_L0_r.step (i_SipHash_L0_mk v0 v1 v2 v3 v4 v5) = Stp.elim (fun a' : List Int × Int × Int × Int × Int => some (Sum.inl (i_SipHash_L0_mk v0 a'.1 a'.2.1 a'.2.2.1 a'.2.2.2.1 a'.2.2.2.2))) (fun w => some (Sum.inr ((fun p : List Int × Int × Int × Int × Int => i_SipHash_L0_mx0 v0 p.1 p.2.1 p.2.2.1 p.2.2.2.1 p.2.2.2.2) w))) (i_SipHash_L0_f v0 (v1, v2, v3, v4, v5)) := by
  show i_SipHash_L0_B v0 v1 v2 v3 v4 v5 (Option (i_SipHash_L0_sh.T ⊕ WT i_SipHash_L0_es)) none (fun v' => some (Sum.inl v')) (fun w => some (Sum.inr w)) = _
  unfold i_SipHash_L0_B i_SipHash_L0_f
  exact bifT (f := (Stp.elim (fun a' : List Int × Int × Int × Int × Int => some (Sum.inl (i_SipHash_L0_mk v0 a'.1 a'.2.1 a'.2.2.1 a'.2.2.2.1 a'.2.2.2.2))) (fun w => some (Sum.inr ((fun p : List Int × Int × Int × Int × Int => i_SipHash_L0_mx0 v0 p.1 p.2.1 p.2.2.1 p.2.2.2.1 p.2.2.2.2) w))))) (fun b0 => bifG (by (try simp only [Nat.ble_eq, Bool.and_eq_true, decide_eq_true_eq]); grind [maxSl, maxStr, toBytes_length, toInts_length, List.length_set, wrap64]) (letT (f := (Stp.elim (fun a' : List Int × Int × Int × Int × Int => some (Sum.inl (i_SipHash_L0_mk v0 a'.1 a'.2.1 a'.2.2.1 a'.2.2.2.1 a'.2.2.2.2))) (fun w => some (Sum.inr ((fun p : List Int × Int × Int × Int × Int => i_SipHash_L0_mx0 v0 p.1 p.2.1 p.2.2.1 p.2.2.2.1 p.2.2.2.2) w))))) (fun c4 hc4 => letT (f := (Stp.elim (fun a' : List Int × Int × Int × Int × Int => some (Sum.inl (i_SipHash_L0_mk v0 a'.1 a'.2.1 a'.2.2.1 a'.2.2.2.1 a'.2.2.2.2))) (fun w => some (Sum.inr ((fun p : List Int × Int × Int × Int × Int => i_SipHash_L0_mx0 v0 p.1 p.2.1 p.2.2.1 p.2.2.2.1 p.2.2.2.2) w))))) (fun c5 hc5 => bifG (by (try simp only [Nat.ble_eq, Bool.and_eq_true, decide_eq_true_eq]); grind [maxSl, maxStr, toBytes_length, toInts_length, List.length_set, wrap64]) (rfl)))))
      (fun b0 => rfl)
theorem i_SipHash_L0_dn (v0 : Bytes) (a : List Int × Int × Int × Int × Int) (hv : True) (a' : List Int × Int × Int × Int × Int) (he : i_SipHash_L0_f v0 a = .next a') : (True) ∧ a'.1.length < a.1.length := by
  grind [i_SipHash_L0_f, letK, Stp.elim, wrap64]
theorem i_SipHash_L0_cl (v0 : Bytes) (v1 : List Int) (v2 : Int) (v3 : Int) (v4 : Int) (v5 : Int)  : loopF i_SipHash_L0_r.step (i_SipHash_L0_fu v0 v1 v2 v3 v4 v5) (i_SipHash_L0_mk v0 v1 v2 v3 v4 v5) = some ((fun p : List Int × Int × Int × Int × Int => i_SipHash_L0_mx0 v0 p.1 p.2.1 p.2.2.1 p.2.2.2.1 p.2.2.2.2) (i_SipHash_L0_w v0 v1 v2 v3 v4 v5)) :=
  while_loop (A := List Int × Int × Int × Int × Int) (step := i_SipHash_L0_r.step) (mk := fun a => i_SipHash_L0_mk v0 a.1 a.2.1 a.2.2.1 a.2.2.2.1 a.2.2.2.2) (f := i_SipHash_L0_f v0) (emb := (fun p : List Int × Int × Int × Int × Int => i_SipHash_L0_mx0 v0 p.1 p.2.1 p.2.2.1 p.2.2.2.1 p.2.2.2.2)) (Inv := fun a => True) (meas := fun a => a.1.length)
    (fun a hv => ⟨i_SipHash_L0_st v0 a.1 a.2.1 a.2.2.1 a.2.2.2.1 a.2.2.2.2 hv, i_SipHash_L0_dn v0 a hv⟩) _ (v1, v2, v3, v4, v5) (Nat.lt_succ_self _) trivial
def i_SipHash_N (x0 : Int) (x1 : Int) (x2 : Bytes) (γ : Type) (fail : γ) (k : Int → γ) : γ :=
  letK (α := Sipr) (i_SipStart x0 x1) fun c1 =>
  bif (Nat.ble x2.length maxSl) then
  optK (loopF i_SipHash_L0_r.step (i_SipHash_L0_fu x2 (toInts x2) c1.a c1.b c1.c c1.d) (i_SipHash_L0_mk x2 (toInts x2) c1.a c1.b c1.c c1.d)) fail fun w6 =>
    letK (α := Int) (((w6.1.2.2.2.1.1.take (List.replicate 8 0).length).length : Nat) : Int) fun e7 =>
    letK (α := List Int) ((w6.1.2.2.2.1.1.take (List.replicate 8 0).length) ++ (List.replicate 8 0).drop (w6.1.2.2.2.1.1.take (List.replicate 8 0).length).length) fun l8 =>
    bif (decide (7 < (l8.length : Int))) then
    bif (decide (8 ≤ (l8.set 7 (IntKind.wrap .u8 (w6.1.1.1.length : Int))).length)) then
    letK (α := Int) (i_little (l8.set 7 (IntKind.wrap .u8 (w6.1.1.1.length : Int)))) fun c9 =>
    letK (α := Sipr) (i_SipWord (⟨w6.2.1.1, w6.2.1.2.1, w6.2.1.2.2.1, w6.2.1.2.2.2.1⟩ : Sipr) c9) fun c10 =>
    letK (α := Int) (i_SipEnd c10) fun c11 =>
    k c11
    else fail
    else fail
  else fail
def i_SipHash (x0 : Int) (x1 : Int) (x2 : Bytes) : Int :=
  letK (α := Sipr) (i_SipStart x0 x1) fun c1 =>
  letK (α := (List Int × Int × Int × Int × Int)) (i_SipHash_L0_w x2 (toInts x2) c1.a c1.b c1.c c1.d)
    (fun p12 =>
      letK (α := List Int) ((p12.1.take (List.replicate 8 0).length) ++ (List.replicate 8 0).drop (p12.1.take (List.replicate 8 0).length).length) fun l13 =>
      letK (α := Int) (i_little (l13.set 7 (IntKind.wrap .u8 (x2.length : Int)))) fun c14 =>
      letK (α := Sipr) (i_SipWord (⟨p12.2.1, p12.2.2.1, p12.2.2.2.1, p12.2.2.2.2⟩ : Sipr) c14) fun c15 =>
      letK (α := Int) (i_SipEnd c15) fun c16 =>
      c16)
theorem i_SipHash_lk (x0 : Int) (x1 : Int) (x2 : Bytes) : evalFn te (orcOf (P := Try.prog) [i_SipStart_e, i_little_e, i_SipWord_e, i_SipEnd_e]) (lorcOf [i_SipHash_L0_le]) i_SipHash_ann Try.f179 (pvs [.sc (.int .u64), .sc (.int .u64), .sc .str] (x0, x1, x2, ())) =
  i_SipHash_N x0 x1 x2 _ none (fun v => some [(false, [RC.c (.int .u64 v)])]) := by kernel_rfl
theorem i_SipHash_p (x0 : Int) (x1 : Int) (x2 : Bytes) (hx0 : inK .u64 x0) (hx1 : inK .u64 x1) (hx2 : List.length x2 ≤ 4611686018427387904) (hp : x2.length ≤ 4294967296) (γ : Type) (fail : γ) (k : Int → γ) : i_SipHash_N x0 x1 x2 γ fail k = k (i_SipHash x0 x1 x2) := by
  unfold i_SipHash_N i_SipHash
  exact letT (f := k) (fun c1 hc1 => bifG (by (try simp only [Nat.ble_eq, Bool.and_eq_true, decide_eq_true_eq, i_SipHash_L0_mx0]); grind [maxSl, maxStr, toBytes_length, toInts_length, List.length_set, wrap64]) (loopW (f := k) (emb := (fun p : List Int × Int × Int × Int × Int => i_SipHash_L0_mx0 x2 p.1 p.2.1 p.2.2.1 p.2.2.2.1 p.2.2.2.2)) (i_SipHash_L0_cl x2 (toInts x2) c1.a c1.b c1.c c1.d) (fun p12 hp12 => letL (letT (f := k) (fun l13 hl13 => bifG (by (try simp only [Nat.ble_eq, Bool.and_eq_true, decide_eq_true_eq, i_SipHash_L0_mx0]); grind [maxSl, maxStr, toBytes_length, toInts_length, List.length_set, wrap64]) (bifG (by (try simp only [Nat.ble_eq, Bool.and_eq_true, decide_eq_true_eq, i_SipHash_L0_mx0]); grind [maxSl, maxStr, toBytes_length, toInts_length, List.length_set, wrap64]) (letT (f := k) (fun c14 hc14 => letT (f := k) (fun c15 hc15 => letT (f := k) (fun c16 hc16 => rfl))))))))))
theorem i_SipHash_c (x0 : Int) (x1 : Int) (x2 : Bytes) (hp : x2.length ≤ 4294967296) : Con Try.prog 179 (pvs [.sc (.int .u64), .sc (.int .u64), .sc .str] (x0, x1, x2, ())) [rv (.sc (.int .u64)) [] (i_SipHash x0 x1 x2)] := by
  refine Con.of_facts (enters_of Try.func179 rfl (by kernel_rfl)) fun hf => ?_
  replace hf := factAt hf
  exact evalFn_conL teFact mixFact (orcOf_ok _) Try.func179 (by kernel_rfl) (bs := [0]) (by kernel_rfl) (by kernel_rfl) (fun w0 mo I0 hmo => ⟨lsem_of_lorc (i_SipHash_L0_ls w0 mo I0 hmo) (by kernel_rfl), trivial⟩) ((i_SipHash_lk x0 x1 x2).trans (i_SipHash_p x0 x1 x2 ((hf 0 0 rfl rfl).rng) ((hf 1 0 rfl rfl).rng) ((hf 2 0 rfl rfl).slen) hp _ _ _))
noncomputable def i_SipHash_e : Ent1 Try.prog := entP 179 [.sc (.int .u64), .sc (.int .u64), .sc .str] (fun x => (decide (x.2.2.1.length ≤ 4294967296))) (fun x => (i_SipHash x.1 x.2.1 x.2.2.1)) (fun v => [rv (.sc (.int .u64)) [] v]) (fun x hx => i_SipHash_c x.1 x.2.1 x.2.2.1 (of_decide_eq_true hx))


/-- spec.SipHash -/
def s_SipHash_ann : List (Nat × Keep) := [(0, ⟨[2, 7, 8, 9], [], false, 0⟩)]
def s_SipHash_L0_sh : Sh := ⟨[(2, false, [.str]), (7, false, [.ptr 0 0]), (8, false, [.int .i64]), (9, false, [.int .i64])], [.box [.int .u64, .int .u64, .int .u64, .int .u64]]⟩
def s_SipHash_L0_es : List (Ex × Sh) := [(.exit 0, ⟨[(2, false, [.str]), (6, false, [.undef]), (7, false, [.ptr 0 0]), (8, false, [.int .i64]), (9, false, [.int .i64])], [.box [.int .u64, .int .u64, .int .u64, .int .u64]]⟩)]
def s_SipHash_L0_mk (v0 : Bytes) (v1 : Int) (v2 : Int) (v3 : Int) (v4 : Int) (v5 : Int) (v6 : Int) : s_SipHash_L0_sh.T := (((v0, ()), (((), ()), ((v1, ()), ((v2, ()), ())))), ((v3, (v4, (v5, (v6, ())))), ()))
def s_SipHash_L0_mx0 (y0 : Bytes) (y1 : Int) (y2 : Int) (y3 : Int) (y4 : Int) (y5 : Int) (y6 : Int) : Sh.T ⟨[(2, false, [.str]), (6, false, [.undef]), (7, false, [.ptr 0 0]), (8, false, [.int .i64]), (9, false, [.int .i64])], [.box [.int .u64, .int .u64, .int .u64, .int .u64]]⟩ := (((y0, ()), (((), ()), (((), ()), ((y1, ()), ((y2, ()), ()))))), ((y3, (y4, (y5, (y6, ())))), ()))
def s_SipHash_L0_B (v0 : Bytes) (v1 : Int) (v2 : Int) (v3 : Int) (v4 : Int) (v5 : Int) (v6 : Int) (γ : Type) (fail : γ) (next : s_SipHash_L0_sh.T → γ) (out : WT s_SipHash_L0_es → γ) : γ :=
  bif (decide ((IntKind.wrap .i64 (v2 + 8)) ≤ v1)) then
    bif (((decide (0 ≤ v2)) && (decide (v2 ≤ (IntKind.wrap .i64 (v2 + 8))))) && (decide ((IntKind.wrap .i64 (v2 + 8)) ≤ (v0.length : Int)))) then
    letK (α := Int) (s_l10Low ((v0.take ((IntKind.wrap .i64 (v2 + 8)).toNat)).drop v2.toNat)) fun c2 =>
    letK (α := Sipr) (s_SipWord (⟨v3, v4, v5, v6⟩ : Sipr) c2) fun c3 =>
    next (s_SipHash_L0_mk v0 v1 (IntKind.wrap .i64 (v2 + 8)) c3.a c3.b c3.c c3.d)
    else fail
  else
  out (s_SipHash_L0_mx0 v0 v1 v2 v3 v4 v5 v6)
theorem s_SipHash_L0_par (v0 : Bytes) (v1 : Int) (v2 : Int) (v3 : Int) (v4 : Int) (v5 : Int) (v6 : Int) (γ : Type) (fail : γ) (next : s_SipHash_L0_sh.T → γ) (out : WT s_SipHash_L0_es → γ) : s_SipHash_L0_B v0 v1 v2 v3 v4 v5 v6 γ fail next out = optK (s_SipHash_L0_B v0 v1 v2 v3 v4 v5 v6 _ none (fun v' => some (.inl v')) (fun w => some (.inr w))) fail (fun r => Sum.elim next out r) := by
  unfold s_SipHash_L0_B
  exact bifT (f := (fun o => optK o fail (fun r => Sum.elim next out r))) (fun _ => bifT (f := (fun o => optK o fail (fun r => Sum.elim next out r))) (fun _ => letT (f := (fun o => optK o fail (fun r => Sum.elim next out r))) (fun c2 _ => letT (f := (fun o => optK o fail (fun r => Sum.elim next out r))) (fun c3 _ => rfl))) (fun _ => rfl))
      (fun _ => rfl)
def s_SipHash_L0_r : Round s_SipHash_L0_sh.T (WT s_SipHash_L0_es) where
  B v γ fail next out := s_SipHash_L0_B v.1.1.1 v.1.2.2.1.1 v.1.2.2.2.1.1 v.2.1.1 v.2.1.2.1 v.2.1.2.2.1 v.2.1.2.2.2.1 γ fail next out
  par v γ fail next out := s_SipHash_L0_par v.1.1.1 v.1.2.2.1.1 v.1.2.2.2.1.1 v.2.1.1 v.2.1.2.1 v.2.1.2.2.1 v.2.1.2.2.2.1 γ fail next out
def s_SipHash_L0_fu (v0 : Bytes) (v1 : Int) (v2 : Int) (v3 : Int) (v4 : Int) (v5 : Int) (v6 : Int) : Nat := (Int.toNat (v1 - v2)) + 1
theorem s_SipHash_L0_lk (v : s_SipHash_L0_sh.T) (next : St → Option Res) (k : Ex → St → Option Res) : evalK te (orcOf (P := Try.prog) [s_SipStart_e, s_l10Low_e, s_SipWord_e, s_SipEnd_e]) (lorcOf []) Try.f180.ntmps s_SipHash_ann (nthLoop (bodyOf Try.f180) 0 0) 0 (s_SipHash_L0_sh.enc v) (endK ⟨[2, 7, 8, 9], [], false, 0⟩ ⟨[2, 6, 7, 8, 9], [], false, 0⟩ next k) =
  s_SipHash_L0_r.B v _ none (fun v' => next (s_SipHash_L0_sh.enc v')) (fun w => outK s_SipHash_L0_es k w) := by kernel_rfl
def s_SipHash_L0_le : LE := leOf 0 s_SipHash_L0_sh s_SipHash_L0_es s_SipHash_L0_r.step (fun v => s_SipHash_L0_fu v.1.1.1 v.1.2.2.1.1 v.1.2.2.2.1.1 v.2.1.1 v.2.1.2.1 v.2.1.2.2.1 v.2.1.2.2.2.1)
theorem s_SipHash_L0_ls (w0 : World) (mo : Mts) (I0 : Nat → Prop) (hmo : mo.length = 0) : LSem Try.prog (Sim w0 mo Try.f180.ntmps I0) (fun b s k => match Nat.beq 0 b with | true => s_SipHash_L0_le.run s k | false => none) 0 (nthLoop (bodyOf Try.f180) 0 0) :=
  le_sem hmo (lorc := lorcOf []) (ann := s_SipHash_ann) (keep := ⟨[2, 7, 8, 9], [], false, 0⟩) (kout := ⟨[2, 6, 7, 8, 9], [], false, 0⟩) teFact mixFact (orcOf_ok _) (by kernel_rfl) (allLoops_of (bs := []) (by kernel_rfl) trivial) s_SipHash_L0_r _ s_SipHash_L0_lk
def s_SipHash_L0_f (v0 : Bytes) (v1 : Int) (a : Int × Int × Int × Int × Int) : Stp (Int × Int × Int × Int × Int) ((Int × Int × Int × Int × Int)) :=
  bif (decide ((IntKind.wrap .i64 (a.1 + 8)) ≤ v1)) then
    letK (α := Int) (s_l10Low ((v0.take ((IntKind.wrap .i64 (a.1 + 8)).toNat)).drop a.1.toNat)) fun c2 =>
    letK (α := Sipr) (s_SipWord (⟨a.2.1, a.2.2.1, a.2.2.2.1, a.2.2.2.2⟩ : Sipr) c2) fun c3 =>
    .next ((IntKind.wrap .i64 (a.1 + 8)), c3.a, c3.b, c3.c, c3.d)
  else
  .out ((a.1, a.2.1, a.2.2.1, a.2.2.2.1, a.2.2.2.2))
def s_SipHash_L0_w (v0 : Bytes) (v1 : Int) (v2 : Int) (v3 : Int) (v4 : Int) (v5 : Int) (v6 : Int) : (Int × Int × Int × Int × Int) := whileN (s_SipHash_L0_f v0 v1) (s_SipHash_L0_fu v0 v1 v2 v3 v4 v5 v6) (v2, v3, v4, v5, v6)
theorem s_SipHash_L0_st (v0 : Bytes) (v1 : Int) (v2 : Int) (v3 : Int) (v4 : Int) (v5 : Int) (v6 : Int) (hinv : 0 ≤ v2 ∧ v2 ≤ v1 ∧ v1 = (v0.length : Int) ∧ (v0.length : Int) ≤ 4294967296) : s_SipHash_L0_r.step (s_SipHash_L0_mk v0 v1 v2 v3 v4 v5 v6) = Stp.elim (fun a' : Int × Int × Int × Int × Int => some (Sum.inl (s_SipHash_L0_mk v0 v1 a'.1 a'.2.1 a'.2.2.1 a'.2.2.2.1 a'.2.2.2.2))) (fun w => some (Sum.inr ((fun p : Int × Int × Int × Int × Int => s_SipHash_L0_mx0 v0 v1 p.1 p.2.1 p.2.2.1 p.2.2.2.1 p.2.2.2.2) w))) (s_SipHash_L0_f v0 v1 (v2, v3, v4, v5, v6)) := by
  show s_SipHash_L0_B v0 v1 v2 v3 v4 v5 v6 (Option (s_SipHash_L0_sh.T ⊕ WT s_SipHash_L0_es)) none (fun v' => some (Sum.inl v')) (fun w => some (Sum.inr w)) = _
  unfold s_SipHash_L0_B s_SipHash_L0_f
  exact bifT (f := (Stp.elim (fun a' : Int × Int × Int × Int × Int => some (Sum.inl (s_SipHash_L0_mk v0 v1 a'.1 a'.2.1 a'.2.2.1 a'.2.2.2.1 a'.2.2.2.2))) (fun w => some (Sum.inr ((fun p : Int × Int × Int × Int × Int => s_SipHash_L0_mx0 v0 v1 p.1 p.2.1 p.2.2.1 p.2.2.2.1 p.2.2.2.2) w))))) (fun b0 => bifG (by (try simp only [Nat.ble_eq, Bool.and_eq_true, decide_eq_true_eq]); grind [maxSl, maxStr, toBytes_length, toInts_length, List.length_set, wrap64]) (letT (f := (Stp.elim (fun a' : Int × Int × Int × Int × Int => some (Sum.inl (s_SipHash_L0_mk v0 v1 a'.1 a'.2.1 a'.2.2.1 a'.2.2.2.1 a'.2.2.2.2))) (fun w => some (Sum.inr ((fun p : Int × Int × Int × Int × Int => s_SipHash_L0_mx0 v0 v1 p.1 p.2.1 p.2.2.1 p.2.2.2.1 p.2.2.2.2) w))))) (fun c2 hc2 => letT (f := (Stp.elim (fun a' : Int × Int × Int × Int × Int => some (Sum.inl (s_SipHash_L0_mk v0 v1 a'.1 a'.2.1 a'.2.2.1 a'.2.2.2.1 a'.2.2.2.2))) (fun w => some (Sum.inr ((fun p : Int × Int × Int × Int × Int => s_SipHash_L0_mx0 v0 v1 p.1 p.2.1 p.2.2.1 p.2.2.2.1 p.2.2.2.2) w))))) (fun c3 hc3 => rfl))))
      (fun b0 => rfl)
theorem s_SipHash_L0_dn (v0 : Bytes) (v1 : Int) (a : Int × Int × Int × Int × Int) (hv : 0 ≤ a.1 ∧ a.1 ≤ v1 ∧ v1 = (v0.length : Int) ∧ (v0.length : Int) ≤ 4294967296) (a' : Int × Int × Int × Int × Int) (he : s_SipHash_L0_f v0 v1 a = .next a') : (0 ≤ a'.1 ∧ a'.1 ≤ v1 ∧ v1 = (v0.length : Int) ∧ (v0.length : Int) ≤ 4294967296) ∧ Int.toNat (v1 - a'.1) < Int.toNat (v1 - a.1) := by
  grind [s_SipHash_L0_f, letK, Stp.elim, wrap64]
theorem s_SipHash_L0_cl (v0 : Bytes) (v1 : Int) (v2 : Int) (v3 : Int) (v4 : Int) (v5 : Int) (v6 : Int) (h0 : 0 ≤ v2 ∧ v2 ≤ v1 ∧ v1 = (v0.length : Int) ∧ (v0.length : Int) ≤ 4294967296) : loopF s_SipHash_L0_r.step (s_SipHash_L0_fu v0 v1 v2 v3 v4 v5 v6) (s_SipHash_L0_mk v0 v1 v2 v3 v4 v5 v6) = some ((fun p : Int × Int × Int × Int × Int => s_SipHash_L0_mx0 v0 v1 p.1 p.2.1 p.2.2.1 p.2.2.2.1 p.2.2.2.2) (s_SipHash_L0_w v0 v1 v2 v3 v4 v5 v6)) :=
  while_loop (A := Int × Int × Int × Int × Int) (step := s_SipHash_L0_r.step) (mk := fun a => s_SipHash_L0_mk v0 v1 a.1 a.2.1 a.2.2.1 a.2.2.2.1 a.2.2.2.2) (f := s_SipHash_L0_f v0 v1) (emb := (fun p : Int × Int × Int × Int × Int => s_SipHash_L0_mx0 v0 v1 p.1 p.2.1 p.2.2.1 p.2.2.2.1 p.2.2.2.2)) (Inv := fun a => 0 ≤ a.1 ∧ a.1 ≤ v1 ∧ v1 = (v0.length : Int) ∧ (v0.length : Int) ≤ 4294967296) (meas := fun a => Int.toNat (v1 - a.1))
    (fun a hv => ⟨s_SipHash_L0_st v0 v1 a.1 a.2.1 a.2.2.1 a.2.2.2.1 a.2.2.2.2 hv, s_SipHash_L0_dn v0 v1 a hv⟩) _ (v2, v3, v4, v5, v6) (Nat.lt_succ_self _) h0
theorem s_SipHash_L0_post (v0 : Bytes) (v1 v2 v3 v4 v5 v6 : Int) (h : 0 ≤ v2 ∧ v2 ≤ v1 ∧ v1 = (v0.length : Int) ∧ (v0.length : Int) ≤ 4294967296) : 0 ≤ (s_SipHash_L0_w v0 v1 v2 v3 v4 v5 v6).1 ∧ (s_SipHash_L0_w v0 v1 v2 v3 v4 v5 v6).1 ≤ (v0.length : Int) := by
  refine whileN_post (f := s_SipHash_L0_f v0 v1) (Inv := fun a => 0 ≤ a.1 ∧ a.1 ≤ v1 ∧ v1 = (v0.length : Int) ∧ (v0.length : Int) ≤ 4294967296) (Q := fun w => 0 ≤ w.1 ∧ w.1 ≤ (v0.length : Int)) (meas := fun a => Int.toNat (v1 - a.1)) (fun a hi a' he => s_SipHash_L0_dn v0 v1 a hi a' he) (fun a hi w he => ?_) _ (v2, v3, v4, v5, v6) (Nat.lt_succ_self _) h
  unfold s_SipHash_L0_f at he
  cases hd : decide (IntKind.i64.wrap (a.1 + 8) ≤ v1) <;> rw [hd] at he
  · cases he; have := hi; exact ⟨this.1, by omega⟩
  · cases he

def s_SipHash_N (x0 : Int) (x1 : Int) (x2 : Bytes) (γ : Type) (fail : γ) (k : Int → γ) : γ :=
  letK (α := Sipr) (s_SipStart x0 x1) fun c1 =>
  optK (loopF s_SipHash_L0_r.step (s_SipHash_L0_fu x2 (x2.length : Int) 0 c1.a c1.b c1.c c1.d) (s_SipHash_L0_mk x2 (x2.length : Int) 0 c1.a c1.b c1.c c1.d)) fail fun w4 =>
    bif (((decide (0 ≤ w4.1.2.2.2.2.1.1)) && (decide (w4.1.2.2.2.2.1.1 ≤ (w4.1.1.1.length : Int)))) && (decide ((w4.1.1.1.length : Int) ≤ (w4.1.1.1.length : Int)))) then
    letK (α := Bytes) ((w4.1.1.1.take ((w4.1.1.1.length : Int).toNat)).drop w4.1.2.2.2.2.1.1.toNat) fun e5 =>
    letK (α := Int) (s_l10Low e5) fun c6 =>
    letK (α := Int) (IntKind.wrap .u64 ((IntKind.wrap .u64 (w4.1.2.2.2.1.1.tmod 256)) * 72057594037927936)) fun e7 =>
    letK (α := Sipr) (s_SipWord (⟨w4.2.1.1, w4.2.1.2.1, w4.2.1.2.2.1, w4.2.1.2.2.2.1⟩ : Sipr) (bits .or .u64 c6 e7)) fun c8 =>
    letK (α := Int) (s_SipEnd c8) fun c9 =>
    k c9
    else fail
def s_SipHash (x0 : Int) (x1 : Int) (x2 : Bytes) : Int :=
  letK (α := Sipr) (s_SipStart x0 x1) fun c1 =>
  letK (α := (Int × Int × Int × Int × Int)) (s_SipHash_L0_w x2 (x2.length : Int) 0 c1.a c1.b c1.c c1.d)
    (fun p10 =>
      letK (α := Int) (s_l10Low ((x2.take ((x2.length : Int).toNat)).drop p10.1.toNat)) fun c11 =>
      letK (α := Int) (IntKind.wrap .u64 ((IntKind.wrap .u64 ((x2.length : Int).tmod 256)) * 72057594037927936)) fun e12 =>
      letK (α := Sipr) (s_SipWord (⟨p10.2.1, p10.2.2.1, p10.2.2.2.1, p10.2.2.2.2⟩ : Sipr) (bits .or .u64 c11 e12)) fun c13 =>
      letK (α := Int) (s_SipEnd c13) fun c14 =>
      c14)
theorem s_SipHash_lk (x0 : Int) (x1 : Int) (x2 : Bytes) : evalFn te (orcOf (P := Try.prog) [s_SipStart_e, s_l10Low_e, s_SipWord_e, s_SipEnd_e]) (lorcOf [s_SipHash_L0_le]) s_SipHash_ann Try.f180 (pvs [.sc (.int .u64), .sc (.int .u64), .sc .str] (x0, x1, x2, ())) =
  s_SipHash_N x0 x1 x2 _ none (fun v => some [(false, [RC.c (.int .u64 v)])]) := by kernel_rfl
theorem s_SipHash_p (x0 : Int) (x1 : Int) (x2 : Bytes) (hx0 : inK .u64 x0) (hx1 : inK .u64 x1) (hx2 : List.length x2 ≤ 4611686018427387904) (hp : x2.length ≤ 4294967296) (γ : Type) (fail : γ) (k : Int → γ) : s_SipHash_N x0 x1 x2 γ fail k = k (s_SipHash x0 x1 x2) := by
  unfold s_SipHash_N s_SipHash
  exact letT (f := k) (fun c1 hc1 => loopW (f := k) (emb := (fun p : Int × Int × Int × Int × Int => s_SipHash_L0_mx0 x2 (x2.length : Int) p.1 p.2.1 p.2.2.1 p.2.2.2.1 p.2.2.2.2)) (s_SipHash_L0_cl x2 (x2.length : Int) 0 c1.a c1.b c1.c c1.d (by first | (simp only [decide_eq_true_eq]; omega) | (have hq := s_SipHash_L0_post x2 (x2.length : Int) 0 c1.a c1.b c1.c c1.d (by omega); rw [← hp10] at hq; change ((decide (0 ≤ p10.1) && decide (p10.1 ≤ (x2.length : Int))) && decide ((x2.length : Int) ≤ (x2.length : Int))) = true; simp only [Bool.and_eq_true, decide_eq_true_eq]; omega) | grind)) (fun p10 hp10 => bifG (by first | (simp only [decide_eq_true_eq]; omega) | (have hq := s_SipHash_L0_post x2 (x2.length : Int) 0 c1.a c1.b c1.c c1.d (by omega); rw [← hp10] at hq; change ((decide (0 ≤ p10.1) && decide (p10.1 ≤ (x2.length : Int))) && decide ((x2.length : Int) ≤ (x2.length : Int))) = true; simp only [Bool.and_eq_true, decide_eq_true_eq]; omega) | grind) (letL (letT (f := k) (fun c11 hc11 => letT (f := k) (fun e12 he12 => letT (f := k) (fun c13 hc13 => letT (f := k) (fun c14 hc14 => rfl))))))))
theorem s_SipHash_c (x0 : Int) (x1 : Int) (x2 : Bytes) (hp : x2.length ≤ 4294967296) : Con Try.prog 180 (pvs [.sc (.int .u64), .sc (.int .u64), .sc .str] (x0, x1, x2, ())) [rv (.sc (.int .u64)) [] (s_SipHash x0 x1 x2)] := by
  refine Con.of_facts (enters_of Try.func180 rfl (by kernel_rfl)) fun hf => ?_
  replace hf := factAt hf
  exact evalFn_conL teFact mixFact (orcOf_ok _) Try.func180 (by kernel_rfl) (bs := [0]) (by kernel_rfl) (by kernel_rfl) (fun w0 mo I0 hmo => ⟨lsem_of_lorc (s_SipHash_L0_ls w0 mo I0 hmo) (by kernel_rfl), trivial⟩) ((s_SipHash_lk x0 x1 x2).trans (s_SipHash_p x0 x1 x2 ((hf 0 0 rfl rfl).rng) ((hf 1 0 rfl rfl).rng) ((hf 2 0 rfl rfl).slen) hp _ _ _))
noncomputable def s_SipHash_e : Ent1 Try.prog := entP 180 [.sc (.int .u64), .sc (.int .u64), .sc .str] (fun x => (decide (x.2.2.1.length ≤ 4294967296))) (fun x => (s_SipHash x.1 x.2.1 x.2.2.1)) (fun v => [rv (.sc (.int .u64)) [] v]) (fun x hx => s_SipHash_c x.1 x.2.1 x.2.2.1 (of_decide_eq_true hx))


/-- laws.toConnS -/
def w_toConnS_ann : List (Nat × Keep) := [(0, ⟨[0, 3, 4], [], false, 0⟩)]
def w_toConnS_L0_sh : Sh := ⟨[(0, false, [.sl .arg .conn]), (3, false, [.own 0]), (4, false, [.int .i64])], [.arr .conn false true]⟩
def w_toConnS_L0_es : List (Ex × Sh) := [(.exit 0, ⟨[(2, false, [.undef]), (3, false, [.own 0])], [.arr .conn false true]⟩)]
def w_toConnS_L0_mk (v0 : List Conn) (v1 : Int) (v2 : List Conn) : w_toConnS_L0_sh.T := (((v0, ()), (((), ()), ((v1, ()), ()))), (v2, ()))
def w_toConnS_L0_mx0 (y0 : List Conn) : Sh.T ⟨[(2, false, [.undef]), (3, false, [.own 0])], [.arr .conn false true]⟩ := ((((), ()), (((), ()), ())), (y0, ()))
def w_toConnS_L0_B (v0 : List Conn) (v1 : Int) (v2 : List Conn) (γ : Type) (fail : γ) (next : w_toConnS_L0_sh.T → γ) (out : WT w_toConnS_L0_es → γ) : γ :=
  bif (decide (v1 < (v0.length : Int))) then
    bif ((decide (0 ≤ v1)) && (decide (v1 < (v0.length : Int)))) then
    bif (decide ((v0.getD v1.toNat (Ty.zero .conn)).s.data.length ≤ 4294967296 ∧ (v0.getD v1.toNat (Ty.zero .conn)).r.data.length ≤ 4294967296 ∧ (v0.getD v1.toNat (Ty.zero .conn)).r.held.length ≤ 4294967296)) then
    letK (α := Conn) (w_toConn (v0.getD v1.toNat (Ty.zero .conn))) fun c2 =>
    bif ((decide (0 ≤ v1)) && (decide (v1 < (v2.length : Int)))) then
    next (w_toConnS_L0_mk v0 (IntKind.wrap .i64 (v1 + 1)) (v2.set v1.toNat c2))
    else fail
    else fail
    else fail
  else
  out (w_toConnS_L0_mx0 v2)
theorem w_toConnS_L0_par (v0 : List Conn) (v1 : Int) (v2 : List Conn) (γ : Type) (fail : γ) (next : w_toConnS_L0_sh.T → γ) (out : WT w_toConnS_L0_es → γ) : w_toConnS_L0_B v0 v1 v2 γ fail next out = optK (w_toConnS_L0_B v0 v1 v2 _ none (fun v' => some (.inl v')) (fun w => some (.inr w))) fail (fun r => Sum.elim next out r) := by
  unfold w_toConnS_L0_B
  exact bifT (f := (fun o => optK o fail (fun r => Sum.elim next out r))) (fun _ => bifT (f := (fun o => optK o fail (fun r => Sum.elim next out r))) (fun _ => bifT (f := (fun o => optK o fail (fun r => Sum.elim next out r))) (fun _ => letT (f := (fun o => optK o fail (fun r => Sum.elim next out r))) (fun c2 _ => bifT (f := (fun o => optK o fail (fun r => Sum.elim next out r))) (fun _ => rfl) (fun _ => rfl))) (fun _ => rfl)) (fun _ => rfl))
      (fun _ => rfl)
def w_toConnS_L0_r : Round w_toConnS_L0_sh.T (WT w_toConnS_L0_es) where
  B v γ fail next out := w_toConnS_L0_B v.1.1.1 v.1.2.2.1.1 v.2.1 γ fail next out
  par v γ fail next out := w_toConnS_L0_par v.1.1.1 v.1.2.2.1.1 v.2.1 γ fail next out
def w_toConnS_L0_fu (v0 : List Conn) (v1 : Int) (v2 : List Conn) : Nat := (Int.toNat ((v0.length : Int) - v1)) + 1
theorem w_toConnS_L0_lk (v : w_toConnS_L0_sh.T) (next : St → Option Res) (k : Ex → St → Option Res) : evalK te (orcOf (P := Try.prog) [w_toConn_e]) (lorcOf []) Try.f124.ntmps w_toConnS_ann (nthLoop (bodyOf Try.f124) 0 0) 0 (w_toConnS_L0_sh.enc v) (endK ⟨[0, 3, 4], [], false, 0⟩ ⟨[2, 3], [], false, 0⟩ next k) =
  w_toConnS_L0_r.B v _ none (fun v' => next (w_toConnS_L0_sh.enc v')) (fun w => outK w_toConnS_L0_es k w) := by kernel_rfl
def w_toConnS_L0_le : LE := leOf 0 w_toConnS_L0_sh w_toConnS_L0_es w_toConnS_L0_r.step (fun v => w_toConnS_L0_fu v.1.1.1 v.1.2.2.1.1 v.2.1)
theorem w_toConnS_L0_ls (w0 : World) (mo : Mts) (I0 : Nat → Prop) (hmo : mo.length = 0) : LSem Try.prog (Sim w0 mo Try.f124.ntmps I0) (fun b s k => match Nat.beq 0 b with | true => w_toConnS_L0_le.run s k | false => none) 0 (nthLoop (bodyOf Try.f124) 0 0) :=
  le_sem hmo (lorc := lorcOf []) (ann := w_toConnS_ann) (keep := ⟨[0, 3, 4], [], false, 0⟩) (kout := ⟨[2, 3], [], false, 0⟩) teFact mixFact (orcOf_ok _) (by kernel_rfl) (allLoops_of (bs := []) (by kernel_rfl) trivial) w_toConnS_L0_r _ w_toConnS_L0_lk
def w_toConnS_L0_f (v0 : List Conn) (v1 : Int) (a : List Conn) : Stp (List Conn) (Empty) :=
  letK (α := Conn) (w_toConn (v0.getD v1.toNat (Ty.zero .conn))) fun c2 =>
  .next (a.set v1.toNat c2)
theorem w_toConnS_L0_st (v0 : List Conn) (v1 : Int) (v2 : List Conn) (hlo : 0 ≤ v1) (hhi : v1 < (v0.length : Int)) (hN : (v0.length : Int) ≤ 4611686018427387904) (hi0 : sm_conn v0 = true) (hinv : (v0.length : Int) ≤ (v2.length : Int)) : w_toConnS_L0_r.step (w_toConnS_L0_mk v0 v1 v2) = Stp.elim (fun a' : List Conn => some (Sum.inl (w_toConnS_L0_mk v0 (v1 + 1) a'))) (fun w => some (Sum.inr ((fun p : Empty => nomatch p) w))) (w_toConnS_L0_f v0 v1 v2) := by
  have hw : (IntKind.wrap .i64 (v1 + 1)) = v1 + 1 := wrap64 (by omega) (by omega)
  show w_toConnS_L0_B v0 v1 v2 (Option (w_toConnS_L0_sh.T ⊕ WT w_toConnS_L0_es)) none (fun v' => some (Sum.inl v')) (fun w => some (Sum.inr w)) = _
  unfold w_toConnS_L0_B w_toConnS_L0_f
  exact bifG (by simp only [decide_eq_true_eq]; omega) (bifG (by (try simp only [Nat.ble_eq, Bool.and_eq_true, decide_eq_true_eq]); grind [maxSl, maxStr, toBytes_length, toInts_length, List.length_set, wrap64, sm_conn_at]) (bifG (by (try simp only [Nat.ble_eq, Bool.and_eq_true, decide_eq_true_eq]); grind [maxSl, maxStr, toBytes_length, toInts_length, List.length_set, wrap64, sm_conn_at]) (letT (f := (Stp.elim (fun a' : List Conn => some (Sum.inl (w_toConnS_L0_mk v0 (v1 + 1) a'))) (fun w => some (Sum.inr ((fun p : Empty => nomatch p) w))))) (fun c2 hc2 => bifG (by (try simp only [Nat.ble_eq, Bool.and_eq_true, decide_eq_true_eq]); grind [maxSl, maxStr, toBytes_length, toInts_length, List.length_set, wrap64, sm_conn_at]) ((by exact congrArg (fun z => some (Sum.inl (w_toConnS_L0_mk v0 z (v2.set v1.toNat c2)))) hw))))))
theorem w_toConnS_L0_cl (v0 : List Conn) (v1 : Int) (v2 : List Conn) (h0 : 0 ≤ v1) (h1 : (v0.length : Int) ≤ 4611686018427387904) (h2 : sm_conn v0 = true) (h3 : (v0.length : Int) ≤ (v2.length : Int)) : loopF w_toConnS_L0_r.step (w_toConnS_L0_fu v0 v1 v2) (w_toConnS_L0_mk v0 v1 v2) = some (Stp.elim (fun a => (fun i a => w_toConnS_L0_mx0 a) (v1 + 1 * (((Int.toNat ((v0.length : Int) - v1)) : Nat) : Int)) a) (fun p : Empty => nomatch p) (forN (w_toConnS_L0_f v0) 1 (Int.toNat ((v0.length : Int) - v1)) v1 v2)) :=
  forN_loop (step := w_toConnS_L0_r.step) (mk := fun v1 a => w_toConnS_L0_mk v0 v1 a) (f := w_toConnS_L0_f v0) (e := (fun i a => w_toConnS_L0_mx0 a)) (emb := (fun p : Empty => nomatch p)) (st := 1) (Inv := fun v1 a => (v0.length : Int) ≤ (a.length : Int)) (Int.toNat ((v0.length : Int) - v1)) v1 v2 _ (Nat.lt_succ_self _) h3
    (fun j a hj hv => ⟨w_toConnS_L0_st v0 (v1 + 1 * (j : Int)) a (by omega) (by omega) (by omega) h2 hv, by
      intro a' he
      grind [w_toConnS_L0_f, letK, Stp.elim, wrap64, List.length_set]⟩)
    (fun a hv => by
      show w_toConnS_L0_B v0 (v1 + 1 * (((Int.toNat ((v0.length : Int) - v1)) : Nat) : Int)) a (Option (w_toConnS_L0_sh.T ⊕ WT w_toConnS_L0_es)) none (fun v' => some (Sum.inl v')) (fun w => some (Sum.inr w)) = _
      unfold w_toConnS_L0_B
      exact bifN (by simp only [decide_eq_false_iff_not]; omega) rfl)
theorem w_toConnS_L0_nx (v0 : List Conn) (v1 : Int) (v2 : List Conn) (h0 : 0 ≤ v1) (h1 : (v0.length : Int) ≤ 4611686018427387904) (h2 : sm_conn v0 = true) (h3 : (v0.length : Int) ≤ (v2.length : Int)) : ∀ a', forN (w_toConnS_L0_f v0) 1 (Int.toNat ((v0.length : Int) - v1)) v1 v2 = .next a' → (v0.length : Int) ≤ (a'.length : Int) :=
  forN_inv (f := w_toConnS_L0_f v0) (st := 1) (Inv := fun v1 a => (v0.length : Int) ≤ (a.length : Int)) (Int.toNat ((v0.length : Int) - v1)) v1 v2 h3
    (fun j a hj hv => by
      intro a' he
      grind [w_toConnS_L0_f, letK, Stp.elim, wrap64, List.length_set])
def w_toConnS_N (x0 : List Conn) (γ : Type) (fail : γ) (k : List Conn → γ) : γ :=
  bif ((((decide (0 ≤ (x0.length : Int))) && (decide ((x0.length : Int) = (x0.length : Int)))) && (decide ((x0.length : Int) * 208 ≤ (maxSl : Int)))) && (decide ((x0.length : Int) ≤ (maxSl : Int)))) then
  letK (α := List Conn) (List.replicate ((x0.length : Int).toNat) (⟨⟨0, 0, 0⟩, 0, ⟨0, [], 0, false, false, false⟩, ⟨0, [], [], 0, false⟩, 0, 0, ⟨0, 0, false, false, 0, 0⟩, 0, 0⟩ : Conn)) fun l1 =>
  optK (loopF w_toConnS_L0_r.step (w_toConnS_L0_fu x0 0 l1) (w_toConnS_L0_mk x0 0 l1)) fail fun w3 =>
    k w3.2.1
  else fail
def w_toConnS (x0 : List Conn) : List Conn :=
  letK (α := List Conn) (List.replicate ((x0.length : Int).toNat) (⟨⟨0, 0, 0⟩, 0, ⟨0, [], 0, false, false, false⟩, ⟨0, [], [], 0, false⟩, 0, 0, ⟨0, 0, false, false, 0, 0⟩, 0, 0⟩ : Conn)) fun l1 =>
  Stp.elim (fun a4 =>
    a4)
    (fun p : Empty => nomatch p)
    (forN (w_toConnS_L0_f x0) 1 (Int.toNat ((x0.length : Int) - 0)) 0 l1)
theorem w_toConnS_lk (x0 : List Conn) : evalFn te (orcOf (P := Try.prog) [w_toConn_e]) (lorcOf [w_toConnS_L0_le]) w_toConnS_ann Try.f124 (pvs [.sc (.sl .conn)] (x0, ())) =
  w_toConnS_N x0 _ none (fun v => some [(false, [RC.own true .conn v])]) := by kernel_rfl
theorem w_toConnS_p (x0 : List Conn) (hx0 : x0.length ≤ 140737488355328) (hx0_e : ∀ y ∈ x0, ∀ c ∈ Ty.cells .conn y, FactC c) (hp : x0.length ≤ 4294967296 ∧ sm_conn x0 = true) (γ : Type) (fail : γ) (k : List Conn → γ) : w_toConnS_N x0 γ fail k = k (w_toConnS x0) := by
  unfold w_toConnS_N w_toConnS
  exact bifG (by (try simp only [Nat.ble_eq, Bool.and_eq_true, decide_eq_true_eq, w_toConnS_L0_mx0]); grind [maxSl, maxStr, toBytes_length, toInts_length, List.length_set, wrap64]) (letT (f := k) (fun l1 hl1 => loopX (f := k) (w_toConnS_L0_cl x0 0 l1 (by (try simp only [Nat.ble_eq, Bool.and_eq_true, decide_eq_true_eq, w_toConnS_L0_mx0]); grind [maxSl, maxStr, toBytes_length, toInts_length, List.length_set, wrap64]) (by (try simp only [Nat.ble_eq, Bool.and_eq_true, decide_eq_true_eq, w_toConnS_L0_mx0]); grind [maxSl, maxStr, toBytes_length, toInts_length, List.length_set, wrap64]) (by (try simp only [Nat.ble_eq, Bool.and_eq_true, decide_eq_true_eq, w_toConnS_L0_mx0]); grind [maxSl, maxStr, toBytes_length, toInts_length, List.length_set, wrap64]) (by (try simp only [Nat.ble_eq, Bool.and_eq_true, decide_eq_true_eq, w_toConnS_L0_mx0]); grind [maxSl, maxStr, toBytes_length, toInts_length, List.length_set, wrap64])) (fun a4 ha4 => have ia4 := w_toConnS_L0_nx x0 0 l1 (by (try simp only [Nat.ble_eq, Bool.and_eq_true, decide_eq_true_eq, w_toConnS_L0_mx0]); grind [maxSl, maxStr, toBytes_length, toInts_length, List.length_set, wrap64]) (by (try simp only [Nat.ble_eq, Bool.and_eq_true, decide_eq_true_eq, w_toConnS_L0_mx0]); grind [maxSl, maxStr, toBytes_length, toInts_length, List.length_set, wrap64]) (by (try simp only [Nat.ble_eq, Bool.and_eq_true, decide_eq_true_eq, w_toConnS_L0_mx0]); grind [maxSl, maxStr, toBytes_length, toInts_length, List.length_set, wrap64]) (by (try simp only [Nat.ble_eq, Bool.and_eq_true, decide_eq_true_eq, w_toConnS_L0_mx0]); grind [maxSl, maxStr, toBytes_length, toInts_length, List.length_set, wrap64]) _ ha4; rfl)
      (fun p : Empty => nomatch p)))
theorem w_toConnS_c (x0 : List Conn) (hp : x0.length ≤ 4294967296 ∧ sm_conn x0 = true) : Con Try.prog 124 (pvs [.sc (.sl .conn)] (x0, ())) [rv (.sc (.sl .conn)) [.o true] (w_toConnS x0)] := by
  refine Con.of_facts (enters_of Try.func124 rfl (by kernel_rfl)) fun hf => ?_
  replace hf := factAt hf
  exact evalFn_conL teFact mixFact (orcOf_ok _) Try.func124 (by kernel_rfl) (bs := [0]) (by kernel_rfl) (by kernel_rfl) (fun w0 mo I0 hmo => ⟨lsem_of_lorc (w_toConnS_L0_ls w0 mo I0 hmo) (by kernel_rfl), trivial⟩) ((w_toConnS_lk x0).trans (w_toConnS_p x0 ((hf 0 0 rfl rfl).len) (fun y hy => (hf 0 0 rfl rfl).elem hy) hp _ _ _))
noncomputable def w_toConnS_e : Ent1 Try.prog := entP 124 [.sc (.sl .conn)] (fun x => (decide (x.1.length ≤ 4294967296 ∧ sm_conn x.1 = true))) (fun x => (w_toConnS x.1)) (fun v => [rv (.sc (.sl .conn)) [.o true] v]) (fun x hx => w_toConnS_c x.1 (of_decide_eq_true hx))


/-- laws.eqConnS -/
def w_eqConnS_ann : List (Nat × Keep) := [(0, ⟨[0, 1, 5], [], false, 0⟩)]
def w_eqConnS_L0_sh : Sh := ⟨[(0, false, [.sl .arg .conn]), (1, false, [.sl .arg .conn]), (5, false, [.int .i64])], []⟩
def w_eqConnS_L0_es : List (Ex × Sh) := [(.ret, ⟨[(4, false, [.bool])], []⟩), (.exit 0, ⟨[(4, false, [.undef])], []⟩)]
def w_eqConnS_L0_mk (v0 : List Conn) (v1 : List Conn) (v2 : Int) : w_eqConnS_L0_sh.T := (((v0, ()), ((v1, ()), ((v2, ()), ()))), ())
def w_eqConnS_L0_mx0 (y0 : Bool) : Sh.T ⟨[(4, false, [.bool])], []⟩ := (((y0, ()), ()), ())
def w_eqConnS_L0_mx1  : Sh.T ⟨[(4, false, [.undef])], []⟩ := ((((), ()), ()), ())
def w_eqConnS_L0_B (v0 : List Conn) (v1 : List Conn) (v2 : Int) (γ : Type) (fail : γ) (next : w_eqConnS_L0_sh.T → γ) (out : WT w_eqConnS_L0_es → γ) : γ :=
  bif (decide (v2 < (v0.length : Int))) then
    bif ((decide (0 ≤ v2)) && (decide (v2 < (v0.length : Int)))) then
    bif ((decide (0 ≤ v2)) && (decide (v2 < (v1.length : Int)))) then
    letK (α := Bool) (w_eqConn (v0.getD v2.toNat (Ty.zero .conn)) (v1.getD v2.toNat (Ty.zero .conn))) fun c1 =>
    bif (!c1) then
      out (Sum.inl (w_eqConnS_L0_mx0 false))
    else
    next (w_eqConnS_L0_mk v0 v1 (IntKind.wrap .i64 (v2 + 1)))
    else fail
    else fail
  else
  out (Sum.inr (w_eqConnS_L0_mx1 ))
theorem w_eqConnS_L0_par (v0 : List Conn) (v1 : List Conn) (v2 : Int) (γ : Type) (fail : γ) (next : w_eqConnS_L0_sh.T → γ) (out : WT w_eqConnS_L0_es → γ) : w_eqConnS_L0_B v0 v1 v2 γ fail next out = optK (w_eqConnS_L0_B v0 v1 v2 _ none (fun v' => some (.inl v')) (fun w => some (.inr w))) fail (fun r => Sum.elim next out r) := by
  unfold w_eqConnS_L0_B
  exact bifT (f := (fun o => optK o fail (fun r => Sum.elim next out r))) (fun _ => bifT (f := (fun o => optK o fail (fun r => Sum.elim next out r))) (fun _ => bifT (f := (fun o => optK o fail (fun r => Sum.elim next out r))) (fun _ => letT (f := (fun o => optK o fail (fun r => Sum.elim next out r))) (fun c1 _ => bifT (f := (fun o => optK o fail (fun r => Sum.elim next out r))) (fun _ => rfl)
      (fun _ => rfl))) (fun _ => rfl)) (fun _ => rfl))
      (fun _ => rfl)
def w_eqConnS_L0_r : Round w_eqConnS_L0_sh.T (WT w_eqConnS_L0_es) where
  B v γ fail next out := w_eqConnS_L0_B v.1.1.1 v.1.2.1.1 v.1.2.2.1.1 γ fail next out
  par v γ fail next out := w_eqConnS_L0_par v.1.1.1 v.1.2.1.1 v.1.2.2.1.1 γ fail next out
def w_eqConnS_L0_fu (v0 : List Conn) (v1 : List Conn) (v2 : Int) : Nat := (Int.toNat ((v0.length : Int) - v2)) + 1
theorem w_eqConnS_L0_lk (v : w_eqConnS_L0_sh.T) (next : St → Option Res) (k : Ex → St → Option Res) : evalK te (orcOf (P := Try.prog) [w_eqConn_e]) (lorcOf []) Try.f128.ntmps w_eqConnS_ann (nthLoop (bodyOf Try.f128) 0 0) 0 (w_eqConnS_L0_sh.enc v) (endK ⟨[0, 1, 5], [], false, 0⟩ ⟨[4], [], false, 0⟩ next k) =
  w_eqConnS_L0_r.B v _ none (fun v' => next (w_eqConnS_L0_sh.enc v')) (fun w => outK w_eqConnS_L0_es k w) := by kernel_rfl
def w_eqConnS_L0_le : LE := leOf 0 w_eqConnS_L0_sh w_eqConnS_L0_es w_eqConnS_L0_r.step (fun v => w_eqConnS_L0_fu v.1.1.1 v.1.2.1.1 v.1.2.2.1.1)
theorem w_eqConnS_L0_ls (w0 : World) (mo : Mts) (I0 : Nat → Prop) (hmo : mo.length = 0) : LSem Try.prog (Sim w0 mo Try.f128.ntmps I0) (fun b s k => match Nat.beq 0 b with | true => w_eqConnS_L0_le.run s k | false => none) 0 (nthLoop (bodyOf Try.f128) 0 0) :=
  le_sem hmo (lorc := lorcOf []) (ann := w_eqConnS_ann) (keep := ⟨[0, 1, 5], [], false, 0⟩) (kout := ⟨[4], [], false, 0⟩) teFact mixFact (orcOf_ok _) (by kernel_rfl) (allLoops_of (bs := []) (by kernel_rfl) trivial) w_eqConnS_L0_r _ w_eqConnS_L0_lk
def w_eqConnS_L0_f (v0 : List Conn) (v1 : List Conn) (v2 : Int) (a : Unit) : Stp (Unit) ((Unit)) :=
  letK (α := Bool) (w_eqConn (v0.getD v2.toNat (Ty.zero .conn)) (v1.getD v2.toNat (Ty.zero .conn))) fun c1 =>
  bif (!c1) then
    .out (())
  else
  .next ()
theorem w_eqConnS_L0_st (v0 : List Conn) (v1 : List Conn) (v2 : Int) (hlo : 0 ≤ v2) (hhi : v2 < (v0.length : Int)) (hN : (v0.length : Int) ≤ 4611686018427387904) (hi0 : (v0.length : Int) ≤ (v1.length : Int)) : w_eqConnS_L0_r.step (w_eqConnS_L0_mk v0 v1 v2) = Stp.elim (fun a' : Unit => some (Sum.inl (w_eqConnS_L0_mk v0 v1 (v2 + 1)))) (fun w => some (Sum.inr ((fun p : Unit => Sum.inl (w_eqConnS_L0_mx0 false)) w))) (w_eqConnS_L0_f v0 v1 v2 ()) := by
  have hw : (IntKind.wrap .i64 (v2 + 1)) = v2 + 1 := wrap64 (by omega) (by omega)
  show w_eqConnS_L0_B v0 v1 v2 (Option (w_eqConnS_L0_sh.T ⊕ WT w_eqConnS_L0_es)) none (fun v' => some (Sum.inl v')) (fun w => some (Sum.inr w)) = _
  unfold w_eqConnS_L0_B w_eqConnS_L0_f
  exact bifG (by simp only [decide_eq_true_eq]; omega) (bifG (by (try simp only [Nat.ble_eq, Bool.and_eq_true, decide_eq_true_eq]); grind [maxSl, maxStr, toBytes_length, toInts_length, List.length_set, wrap64]) (bifG (by (try simp only [Nat.ble_eq, Bool.and_eq_true, decide_eq_true_eq]); grind [maxSl, maxStr, toBytes_length, toInts_length, List.length_set, wrap64]) (letT (f := (Stp.elim (fun a' : Unit => some (Sum.inl (w_eqConnS_L0_mk v0 v1 (v2 + 1)))) (fun w => some (Sum.inr ((fun p : Unit => Sum.inl (w_eqConnS_L0_mx0 false)) w))))) (fun c1 hc1 => bifT (f := (Stp.elim (fun a' : Unit => some (Sum.inl (w_eqConnS_L0_mk v0 v1 (v2 + 1)))) (fun w => some (Sum.inr ((fun p : Unit => Sum.inl (w_eqConnS_L0_mx0 false)) w))))) (fun b0 => rfl)
      (fun b0 => (by exact congrArg (fun z => some (Sum.inl (w_eqConnS_L0_mk v0 v1 z))) hw))))))
theorem w_eqConnS_L0_cl (v0 : List Conn) (v1 : List Conn) (v2 : Int) (h0 : 0 ≤ v2) (h1 : (v0.length : Int) ≤ 4611686018427387904) (h2 : (v0.length : Int) ≤ (v1.length : Int)) : loopF w_eqConnS_L0_r.step (w_eqConnS_L0_fu v0 v1 v2) (w_eqConnS_L0_mk v0 v1 v2) = some (Stp.elim (fun a => (fun i a => Sum.inr (w_eqConnS_L0_mx1 )) (v2 + 1 * (((Int.toNat ((v0.length : Int) - v2)) : Nat) : Int)) a) (fun p : Unit => Sum.inl (w_eqConnS_L0_mx0 false)) (forN (w_eqConnS_L0_f v0 v1) 1 (Int.toNat ((v0.length : Int) - v2)) v2 ())) :=
  forN_loop (step := w_eqConnS_L0_r.step) (mk := fun v2 a => w_eqConnS_L0_mk v0 v1 v2) (f := w_eqConnS_L0_f v0 v1) (e := (fun i a => Sum.inr (w_eqConnS_L0_mx1 ))) (emb := (fun p : Unit => Sum.inl (w_eqConnS_L0_mx0 false))) (st := 1) (Inv := fun v2 a => True) (Int.toNat ((v0.length : Int) - v2)) v2 () _ (Nat.lt_succ_self _) trivial
    (fun j a hj hv => ⟨w_eqConnS_L0_st v0 v1 (v2 + 1 * (j : Int)) (by omega) (by omega) (by omega) h2, fun _ _ => trivial⟩)
    (fun a hv => by
      show w_eqConnS_L0_B v0 v1 (v2 + 1 * (((Int.toNat ((v0.length : Int) - v2)) : Nat) : Int)) (Option (w_eqConnS_L0_sh.T ⊕ WT w_eqConnS_L0_es)) none (fun v' => some (Sum.inl v')) (fun w => some (Sum.inr w)) = _
      unfold w_eqConnS_L0_B
      exact bifN (by simp only [decide_eq_false_iff_not]; omega) rfl)
def w_eqConnS_N (x0 : List Conn) (x1 : List Conn) (γ : Type) (fail : γ) (k : Bool → γ) : γ :=
  bif ((x0.length : Int) != (x1.length : Int)) then
    k false
  else
  optK (loopF w_eqConnS_L0_r.step (w_eqConnS_L0_fu x0 x1 0) (w_eqConnS_L0_mk x0 x1 0)) fail fun w2 =>
    Sum.elim (fun w2 =>
      k w2.1.1.1)
    (fun w2 =>
      k true) w2
def w_eqConnS (x0 : List Conn) (x1 : List Conn) : Bool :=
  bif ((x0.length : Int) != (x1.length : Int)) then
    false
  else
  Stp.elim (fun a3 =>
    true)
    (fun p3 =>
      false)
    (forN (w_eqConnS_L0_f x0 x1) 1 (Int.toNat ((x0.length : Int) - 0)) 0 ())
theorem w_eqConnS_lk (x0 : List Conn) (x1 : List Conn) : evalFn te (orcOf (P := Try.prog) [w_eqConn_e]) (lorcOf [w_eqConnS_L0_le]) w_eqConnS_ann Try.f128 (pvs [.sc (.sl .conn), .sc (.sl .conn)] (x0, x1, ())) =
  w_eqConnS_N x0 x1 _ none (fun v => some [(false, [RC.c (.bool v)])]) := by kernel_rfl
theorem w_eqConnS_p (x0 : List Conn) (x1 : List Conn) (hx0 : x0.length ≤ 140737488355328) (hx0_e : ∀ y ∈ x0, ∀ c ∈ Ty.cells .conn y, FactC c) (hx1 : x1.length ≤ 140737488355328) (hx1_e : ∀ y ∈ x1, ∀ c ∈ Ty.cells .conn y, FactC c)  (γ : Type) (fail : γ) (k : Bool → γ) : w_eqConnS_N x0 x1 γ fail k = k (w_eqConnS x0 x1) := by
  unfold w_eqConnS_N w_eqConnS
  exact bifT (f := k) (fun b0 => rfl)
      (fun b0 => loopT (f := k) (w_eqConnS_L0_cl x0 x1 0 (by (try simp only [Nat.ble_eq, Bool.and_eq_true, decide_eq_true_eq, w_eqConnS_L0_mx0, w_eqConnS_L0_mx1]); grind [maxSl, maxStr, toBytes_length, toInts_length, List.length_set, wrap64]) (by (try simp only [Nat.ble_eq, Bool.and_eq_true, decide_eq_true_eq, w_eqConnS_L0_mx0, w_eqConnS_L0_mx1]); grind [maxSl, maxStr, toBytes_length, toInts_length, List.length_set, wrap64]) (by (try simp only [Nat.ble_eq, Bool.and_eq_true, decide_eq_true_eq, w_eqConnS_L0_mx0, w_eqConnS_L0_mx1]); grind [maxSl, maxStr, toBytes_length, toInts_length, List.length_set, wrap64])) (fun a3 => rfl)
      (fun p3 => rfl))
theorem w_eqConnS_c (x0 : List Conn) (x1 : List Conn)  : Con Try.prog 128 (pvs [.sc (.sl .conn), .sc (.sl .conn)] (x0, x1, ())) [rv (.sc .bool) [] (w_eqConnS x0 x1)] := by
  refine Con.of_facts (enters_of Try.func128 rfl (by kernel_rfl)) fun hf => ?_
  replace hf := factAt hf
  exact evalFn_conL teFact mixFact (orcOf_ok _) Try.func128 (by kernel_rfl) (bs := [0]) (by kernel_rfl) (by kernel_rfl) (fun w0 mo I0 hmo => ⟨lsem_of_lorc (w_eqConnS_L0_ls w0 mo I0 hmo) (by kernel_rfl), trivial⟩) ((w_eqConnS_lk x0 x1).trans (w_eqConnS_p x0 x1 ((hf 0 0 rfl rfl).len) (fun y hy => (hf 0 0 rfl rfl).elem hy) ((hf 1 0 rfl rfl).len) (fun y hy => (hf 1 0 rfl rfl).elem hy) _ _ _))
noncomputable def w_eqConnS_e : Ent1 Try.prog := entA 128 [.sc (.sl .conn), .sc (.sl .conn)] (fun x => (w_eqConnS x.1 x.2.1)) (fun v => [rv (.sc .bool) [] v]) (fun x => w_eqConnS_c x.1 x.2.1)


/-- impl.MacOf -/
def i_MacOf_ann : List (Nat × Keep) := [(0, ⟨[1, 19, 20, 21], [], false, 0⟩)]
def i_MacOf_L0_sh : Sh := ⟨[(1, false, [.str]), (19, false, [.sl .arg .macRow]), (20, false, [.int .i64]), (21, false, [.int .i64])], []⟩
def i_MacOf_L0_es : List (Ex × Sh) := [(.ret, ⟨[(4, false, [.int .i64])], []⟩), (.exit 0, ⟨[(4, false, [.undef])], []⟩)]
def i_MacOf_L0_mk (v0 : Bytes) (v1 : List MacRow) (v2 : Int) (v3 : Int) : i_MacOf_L0_sh.T := (((v0, ()), ((v1, ()), ((v2, ()), ((v3, ()), ())))), ())
def i_MacOf_L0_mx0 (y0 : Int) : Sh.T ⟨[(4, false, [.int .i64])], []⟩ := (((y0, ()), ()), ())
def i_MacOf_L0_mx1  : Sh.T ⟨[(4, false, [.undef])], []⟩ := ((((), ()), ()), ())
def i_MacOf_L0_B (v0 : Bytes) (v1 : List MacRow) (v2 : Int) (v3 : Int) (γ : Type) (fail : γ) (next : i_MacOf_L0_sh.T → γ) (out : WT i_MacOf_L0_es → γ) : γ :=
  bif (decide (v3 < v2)) then
    bif ((decide (0 ≤ v3)) && (decide (v3 < (v1.length : Int)))) then
    bif ((v1.getD v3.toNat (Ty.zero .macRow)).input == v0) then
      letK (α := Int) (IntKind.wrap .i64 ((((v1.getD v3.toNat (Ty.zero .macRow)).value).tmod 16777216) + 16777216)) fun e2 =>
      out (Sum.inl (i_MacOf_L0_mx0 (e2.tmod 16777216)))
    else
    next (i_MacOf_L0_mk v0 v1 v2 (IntKind.wrap .i64 (v3 + 1)))
    else fail
  else
  out (Sum.inr (i_MacOf_L0_mx1 ))
theorem i_MacOf_L0_par (v0 : Bytes) (v1 : List MacRow) (v2 : Int) (v3 : Int) (γ : Type) (fail : γ) (next : i_MacOf_L0_sh.T → γ) (out : WT i_MacOf_L0_es → γ) : i_MacOf_L0_B v0 v1 v2 v3 γ fail next out = optK (i_MacOf_L0_B v0 v1 v2 v3 _ none (fun v' => some (.inl v')) (fun w => some (.inr w))) fail (fun r => Sum.elim next out r) := by
  unfold i_MacOf_L0_B
  exact bifT (f := (fun o => optK o fail (fun r => Sum.elim next out r))) (fun _ => bifT (f := (fun o => optK o fail (fun r => Sum.elim next out r))) (fun _ => bifT (f := (fun o => optK o fail (fun r => Sum.elim next out r))) (fun _ => letT (f := (fun o => optK o fail (fun r => Sum.elim next out r))) (fun e2 _ => rfl))
      (fun _ => rfl)) (fun _ => rfl))
      (fun _ => rfl)
def i_MacOf_L0_r : Round i_MacOf_L0_sh.T (WT i_MacOf_L0_es) where
  B v γ fail next out := i_MacOf_L0_B v.1.1.1 v.1.2.1.1 v.1.2.2.1.1 v.1.2.2.2.1.1 γ fail next out
  par v γ fail next out := i_MacOf_L0_par v.1.1.1 v.1.2.1.1 v.1.2.2.1.1 v.1.2.2.2.1.1 γ fail next out
def i_MacOf_L0_fu (v0 : Bytes) (v1 : List MacRow) (v2 : Int) (v3 : Int) : Nat := (Int.toNat (v2 - v3)) + 1
theorem i_MacOf_L0_lk (v : i_MacOf_L0_sh.T) (next : St → Option Res) (k : Ex → St → Option Res) : evalK te (orcOf (P := Try.prog) [i_SipHash_e]) (lorcOf []) Try.f153.ntmps i_MacOf_ann (nthLoop (bodyOf Try.f153) 0 0) 0 (i_MacOf_L0_sh.enc v) (endK ⟨[1, 19, 20, 21], [], false, 0⟩ ⟨[4], [], false, 0⟩ next k) =
  i_MacOf_L0_r.B v _ none (fun v' => next (i_MacOf_L0_sh.enc v')) (fun w => outK i_MacOf_L0_es k w) := by kernel_rfl
def i_MacOf_L0_le : LE := leOf 0 i_MacOf_L0_sh i_MacOf_L0_es i_MacOf_L0_r.step (fun v => i_MacOf_L0_fu v.1.1.1 v.1.2.1.1 v.1.2.2.1.1 v.1.2.2.2.1.1)
theorem i_MacOf_L0_ls (w0 : World) (mo : Mts) (I0 : Nat → Prop) (hmo : mo.length = 0) : LSem Try.prog (Sim w0 mo Try.f153.ntmps I0) (fun b s k => match Nat.beq 0 b with | true => i_MacOf_L0_le.run s k | false => none) 0 (nthLoop (bodyOf Try.f153) 0 0) :=
  le_sem hmo (lorc := lorcOf []) (ann := i_MacOf_ann) (keep := ⟨[1, 19, 20, 21], [], false, 0⟩) (kout := ⟨[4], [], false, 0⟩) teFact mixFact (orcOf_ok _) (by kernel_rfl) (allLoops_of (bs := []) (by kernel_rfl) trivial) i_MacOf_L0_r _ i_MacOf_L0_lk
def i_MacOf_L0_f (v0 : Bytes) (v1 : List MacRow) (v2 : Int) (v3 : Int) (a : Unit) : Stp (Unit) ((Int)) :=
  bif ((v1.getD v3.toNat (Ty.zero .macRow)).input == v0) then
    letK (α := Int) (IntKind.wrap .i64 ((((v1.getD v3.toNat (Ty.zero .macRow)).value).tmod 16777216) + 16777216)) fun e2 =>
    .out ((e2.tmod 16777216))
  else
  .next ()
theorem i_MacOf_L0_st (v0 : Bytes) (v1 : List MacRow) (v2 : Int) (v3 : Int) (hlo : 0 ≤ v3) (hhi : v3 < v2) (hN : v2 ≤ 4611686018427387904) (hi0 : v2 ≤ (v1.length : Int)) : i_MacOf_L0_r.step (i_MacOf_L0_mk v0 v1 v2 v3) = Stp.elim (fun a' : Unit => some (Sum.inl (i_MacOf_L0_mk v0 v1 v2 (v3 + 1)))) (fun w => some (Sum.inr ((fun p : Int => Sum.inl (i_MacOf_L0_mx0 p)) w))) (i_MacOf_L0_f v0 v1 v2 v3 ()) := by
  have hw : (IntKind.wrap .i64 (v3 + 1)) = v3 + 1 := wrap64 (by omega) (by omega)
  show i_MacOf_L0_B v0 v1 v2 v3 (Option (i_MacOf_L0_sh.T ⊕ WT i_MacOf_L0_es)) none (fun v' => some (Sum.inl v')) (fun w => some (Sum.inr w)) = _
  unfold i_MacOf_L0_B i_MacOf_L0_f
  exact bifG (by simp only [decide_eq_true_eq]; omega) (bifG (by (try simp only [Nat.ble_eq, Bool.and_eq_true, decide_eq_true_eq]); grind [maxSl, maxStr, toBytes_length, toInts_length, List.length_set, wrap64]) (bifT (f := (Stp.elim (fun a' : Unit => some (Sum.inl (i_MacOf_L0_mk v0 v1 v2 (v3 + 1)))) (fun w => some (Sum.inr ((fun p : Int => Sum.inl (i_MacOf_L0_mx0 p)) w))))) (fun b0 => letT (f := (Stp.elim (fun a' : Unit => some (Sum.inl (i_MacOf_L0_mk v0 v1 v2 (v3 + 1)))) (fun w => some (Sum.inr ((fun p : Int => Sum.inl (i_MacOf_L0_mx0 p)) w))))) (fun e2 he2 => rfl))
      (fun b0 => (by exact congrArg (fun z => some (Sum.inl (i_MacOf_L0_mk v0 v1 v2 z))) hw))))
theorem i_MacOf_L0_cl (v0 : Bytes) (v1 : List MacRow) (v2 : Int) (v3 : Int) (h0 : 0 ≤ v3) (h1 : v2 ≤ 4611686018427387904) (h2 : v2 ≤ (v1.length : Int)) : loopF i_MacOf_L0_r.step (i_MacOf_L0_fu v0 v1 v2 v3) (i_MacOf_L0_mk v0 v1 v2 v3) = some (Stp.elim (fun a => (fun i a => Sum.inr (i_MacOf_L0_mx1 )) (v3 + 1 * (((Int.toNat (v2 - v3)) : Nat) : Int)) a) (fun p : Int => Sum.inl (i_MacOf_L0_mx0 p)) (forN (i_MacOf_L0_f v0 v1 v2) 1 (Int.toNat (v2 - v3)) v3 ())) :=
  forN_loop (step := i_MacOf_L0_r.step) (mk := fun v3 a => i_MacOf_L0_mk v0 v1 v2 v3) (f := i_MacOf_L0_f v0 v1 v2) (e := (fun i a => Sum.inr (i_MacOf_L0_mx1 ))) (emb := (fun p : Int => Sum.inl (i_MacOf_L0_mx0 p))) (st := 1) (Inv := fun v3 a => True) (Int.toNat (v2 - v3)) v3 () _ (Nat.lt_succ_self _) trivial
    (fun j a hj hv => ⟨i_MacOf_L0_st v0 v1 v2 (v3 + 1 * (j : Int)) (by omega) (by omega) (by omega) h2, fun _ _ => trivial⟩)
    (fun a hv => by
      show i_MacOf_L0_B v0 v1 v2 (v3 + 1 * (((Int.toNat (v2 - v3)) : Nat) : Int)) (Option (i_MacOf_L0_sh.T ⊕ WT i_MacOf_L0_es)) none (fun v' => some (Sum.inl v')) (fun w => some (Sum.inr w)) = _
      unfold i_MacOf_L0_B
      exact bifN (by simp only [decide_eq_false_iff_not]; omega) rfl)
def i_MacOf_N (x0 : Mac) (x1 : Bytes) (γ : Type) (fail : γ) (k : Int → γ) : γ :=
  bif (!x0.use) then
    bif (decide (x1.length ≤ 4294967296)) then
    letK (α := Int) (i_SipHash x0.k x0.l x1) fun c1 =>
    k (IntKind.wrap .i64 (c1.tmod 16777216))
    else fail
  else
  optK (loopF i_MacOf_L0_r.step (i_MacOf_L0_fu x1 x0.rows (x0.rows.length : Int) 0) (i_MacOf_L0_mk x1 x0.rows (x0.rows.length : Int) 0)) fail fun w3 =>
    Sum.elim (fun w3 =>
      k w3.1.1.1)
    (fun w3 =>
      k 0) w3
def i_MacOf (x0 : Mac) (x1 : Bytes) : Int :=
  bif (!x0.use) then
    letK (α := Int) (i_SipHash x0.k x0.l x1) fun c1 =>
    (IntKind.wrap .i64 (c1.tmod 16777216))
  else
  Stp.elim (fun a4 =>
    0)
    (fun p4 =>
      p4)
    (forN (i_MacOf_L0_f x1 x0.rows (x0.rows.length : Int)) 1 (Int.toNat ((x0.rows.length : Int) - 0)) 0 ())
theorem i_MacOf_lk (x0 : Mac) (x1 : Bytes) : evalFn te (orcOf (P := Try.prog) [i_SipHash_e]) (lorcOf [i_MacOf_L0_le]) i_MacOf_ann Try.f153 (pvs [.st .mac, .sc .str] (x0, x1, ())) =
  i_MacOf_N x0 x1 _ none (fun v => some [(false, [RC.c (.int .i64 v)])]) := by kernel_rfl
theorem i_MacOf_p (x0 : Mac) (x1 : Bytes) (hx0_k : inK .u64 x0.k) (hx0_l : inK .u64 x0.l) (hx0_rows : x0.rows.length ≤ 140737488355328) (hx0_rows_e : ∀ y ∈ x0.rows, ∀ c ∈ Ty.cells .macRow y, FactC c) (hx1 : List.length x1 ≤ 4611686018427387904) (hp : x0.rows.length ≤ 4294967296 ∧ x1.length ≤ 4294967296) (γ : Type) (fail : γ) (k : Int → γ) : i_MacOf_N x0 x1 γ fail k = k (i_MacOf x0 x1) := by
  unfold i_MacOf_N i_MacOf
  exact bifT (f := k) (fun b0 => bifG (by (try simp only [Nat.ble_eq, Bool.and_eq_true, decide_eq_true_eq, i_MacOf_L0_mx0, i_MacOf_L0_mx1]); grind [maxSl, maxStr, toBytes_length, toInts_length, List.length_set, wrap64]) (letT (f := k) (fun c1 hc1 => rfl)))
      (fun b0 => loopT (f := k) (i_MacOf_L0_cl x1 x0.rows (x0.rows.length : Int) 0 (by (try simp only [Nat.ble_eq, Bool.and_eq_true, decide_eq_true_eq, i_MacOf_L0_mx0, i_MacOf_L0_mx1]); grind [maxSl, maxStr, toBytes_length, toInts_length, List.length_set, wrap64]) (by (try simp only [Nat.ble_eq, Bool.and_eq_true, decide_eq_true_eq, i_MacOf_L0_mx0, i_MacOf_L0_mx1]); grind [maxSl, maxStr, toBytes_length, toInts_length, List.length_set, wrap64]) (by (try simp only [Nat.ble_eq, Bool.and_eq_true, decide_eq_true_eq, i_MacOf_L0_mx0, i_MacOf_L0_mx1]); grind [maxSl, maxStr, toBytes_length, toInts_length, List.length_set, wrap64])) (fun a4 => rfl)
      (fun p4 => rfl))
theorem i_MacOf_c (x0 : Mac) (x1 : Bytes) (hp : x0.rows.length ≤ 4294967296 ∧ x1.length ≤ 4294967296) : Con Try.prog 153 (pvs [.st .mac, .sc .str] (x0, x1, ())) [rv (.sc (.int .i64)) [] (i_MacOf x0 x1)] := by
  refine Con.of_facts (enters_of Try.func153 rfl (by kernel_rfl)) fun hf => ?_
  replace hf := factAt hf
  exact evalFn_conL teFact mixFact (orcOf_ok _) Try.func153 (by kernel_rfl) (bs := [0]) (by kernel_rfl) (by kernel_rfl) (fun w0 mo I0 hmo => ⟨lsem_of_lorc (i_MacOf_L0_ls w0 mo I0 hmo) (by kernel_rfl), trivial⟩) ((i_MacOf_lk x0 x1).trans (i_MacOf_p x0 x1 ((hf 0 1 rfl rfl).rng) ((hf 0 2 rfl rfl).rng) ((hf 0 3 rfl rfl).len) (fun y hy => (hf 0 3 rfl rfl).elem hy) ((hf 1 0 rfl rfl).slen) hp _ _ _))
noncomputable def i_MacOf_e : Ent1 Try.prog := entP 153 [.st .mac, .sc .str] (fun x => (decide (x.1.rows.length ≤ 4294967296 ∧ x.2.1.length ≤ 4294967296))) (fun x => (i_MacOf x.1 x.2.1)) (fun v => [rv (.sc (.int .i64)) [] v]) (fun x hx => i_MacOf_c x.1 x.2.1 (of_decide_eq_true hx))


/-- spec.MacOf -/
def s_MacOf_ann : List (Nat × Keep) := [(0, ⟨[1, 2, 5], [], false, 0⟩)]
def s_MacOf_L0_sh : Sh := ⟨[(1, false, [.str]), (2, false, [.ptr 0 0]), (5, false, [.int .i64])], [.box [.bool, .int .u64, .int .u64, .sl .arg .macRow]]⟩
def s_MacOf_L0_es : List (Ex × Sh) := [(.ret, ⟨[(4, false, [.int .i64])], []⟩), (.exit 0, ⟨[(4, false, [.undef])], []⟩)]
def s_MacOf_L0_mk (v0 : Bytes) (v1 : Int) (v2 : Bool) (v3 : Int) (v4 : Int) (v5 : List MacRow) : s_MacOf_L0_sh.T := (((v0, ()), (((), ()), ((v1, ()), ()))), ((v2, (v3, (v4, (v5, ())))), ()))
def s_MacOf_L0_mx0 (y0 : Int) : Sh.T ⟨[(4, false, [.int .i64])], []⟩ := (((y0, ()), ()), ())
def s_MacOf_L0_mx1  : Sh.T ⟨[(4, false, [.undef])], []⟩ := ((((), ()), ()), ())
def s_MacOf_L0_B (v0 : Bytes) (v1 : Int) (v2 : Bool) (v3 : Int) (v4 : Int) (v5 : List MacRow) (γ : Type) (fail : γ) (next : s_MacOf_L0_sh.T → γ) (out : WT s_MacOf_L0_es → γ) : γ :=
  bif (decide (v1 < (v5.length : Int))) then
    bif ((decide (0 ≤ v1)) && (decide (v1 < (v5.length : Int)))) then
    bif ((v5.getD v1.toNat (Ty.zero .macRow)).input == v0) then
      bif ((decide (0 ≤ v1)) && (decide (v1 < (v5.length : Int)))) then
      bif (decide ((((v5.getD v1.toNat (Ty.zero .macRow)).value).tmod 16777216) < 0)) then
        letK (α := Int) (IntKind.wrap .i64 ((((v5.getD v1.toNat (Ty.zero .macRow)).value).tmod 16777216) + 16777216)) fun e2 =>
        out (Sum.inl (s_MacOf_L0_mx0 e2))
      else
      out (Sum.inl (s_MacOf_L0_mx0 (((v5.getD v1.toNat (Ty.zero .macRow)).value).tmod 16777216)))
      else fail
    else
    next (s_MacOf_L0_mk v0 (IntKind.wrap .i64 (v1 + 1)) v2 v3 v4 v5)
    else fail
  else
  out (Sum.inr (s_MacOf_L0_mx1 ))
theorem s_MacOf_L0_par (v0 : Bytes) (v1 : Int) (v2 : Bool) (v3 : Int) (v4 : Int) (v5 : List MacRow) (γ : Type) (fail : γ) (next : s_MacOf_L0_sh.T → γ) (out : WT s_MacOf_L0_es → γ) : s_MacOf_L0_B v0 v1 v2 v3 v4 v5 γ fail next out = optK (s_MacOf_L0_B v0 v1 v2 v3 v4 v5 _ none (fun v' => some (.inl v')) (fun w => some (.inr w))) fail (fun r => Sum.elim next out r) := by
  unfold s_MacOf_L0_B
  exact bifT (f := (fun o => optK o fail (fun r => Sum.elim next out r))) (fun _ => bifT (f := (fun o => optK o fail (fun r => Sum.elim next out r))) (fun _ => bifT (f := (fun o => optK o fail (fun r => Sum.elim next out r))) (fun _ => bifT (f := (fun o => optK o fail (fun r => Sum.elim next out r))) (fun _ => bifT (f := (fun o => optK o fail (fun r => Sum.elim next out r))) (fun _ => letT (f := (fun o => optK o fail (fun r => Sum.elim next out r))) (fun e2 _ => rfl))
      (fun _ => rfl)) (fun _ => rfl))
      (fun _ => rfl)) (fun _ => rfl))
      (fun _ => rfl)
def s_MacOf_L0_r : Round s_MacOf_L0_sh.T (WT s_MacOf_L0_es) where
  B v γ fail next out := s_MacOf_L0_B v.1.1.1 v.1.2.2.1.1 v.2.1.1 v.2.1.2.1 v.2.1.2.2.1 v.2.1.2.2.2.1 γ fail next out
  par v γ fail next out := s_MacOf_L0_par v.1.1.1 v.1.2.2.1.1 v.2.1.1 v.2.1.2.1 v.2.1.2.2.1 v.2.1.2.2.2.1 γ fail next out
def s_MacOf_L0_fu (v0 : Bytes) (v1 : Int) (v2 : Bool) (v3 : Int) (v4 : Int) (v5 : List MacRow) : Nat := (Int.toNat ((v5.length : Int) - v1)) + 1
theorem s_MacOf_L0_lk (v : s_MacOf_L0_sh.T) (next : St → Option Res) (k : Ex → St → Option Res) : evalK te (orcOf (P := Try.prog) [s_SipHash_e]) (lorcOf []) Try.f157.ntmps s_MacOf_ann (nthLoop (bodyOf Try.f157) 0 0) 0 (s_MacOf_L0_sh.enc v) (endK ⟨[1, 2, 5], [], false, 0⟩ ⟨[4], [], false, 0⟩ next k) =
  s_MacOf_L0_r.B v _ none (fun v' => next (s_MacOf_L0_sh.enc v')) (fun w => outK s_MacOf_L0_es k w) := by kernel_rfl
def s_MacOf_L0_le : LE := leOf 0 s_MacOf_L0_sh s_MacOf_L0_es s_MacOf_L0_r.step (fun v => s_MacOf_L0_fu v.1.1.1 v.1.2.2.1.1 v.2.1.1 v.2.1.2.1 v.2.1.2.2.1 v.2.1.2.2.2.1)
theorem s_MacOf_L0_ls (w0 : World) (mo : Mts) (I0 : Nat → Prop) (hmo : mo.length = 0) : LSem Try.prog (Sim w0 mo Try.f157.ntmps I0) (fun b s k => match Nat.beq 0 b with | true => s_MacOf_L0_le.run s k | false => none) 0 (nthLoop (bodyOf Try.f157) 0 0) :=
  le_sem hmo (lorc := lorcOf []) (ann := s_MacOf_ann) (keep := ⟨[1, 2, 5], [], false, 0⟩) (kout := ⟨[4], [], false, 0⟩) teFact mixFact (orcOf_ok _) (by kernel_rfl) (allLoops_of (bs := []) (by kernel_rfl) trivial) s_MacOf_L0_r _ s_MacOf_L0_lk
def s_MacOf_L0_f (v0 : Bytes) (v2 : Bool) (v3 : Int) (v4 : Int) (v5 : List MacRow) (v1 : Int) (a : Unit) : Stp (Unit) ((Int)) :=
  bif ((v5.getD v1.toNat (Ty.zero .macRow)).input == v0) then
    bif (decide ((((v5.getD v1.toNat (Ty.zero .macRow)).value).tmod 16777216) < 0)) then
      letK (α := Int) (IntKind.wrap .i64 ((((v5.getD v1.toNat (Ty.zero .macRow)).value).tmod 16777216) + 16777216)) fun e2 =>
      .out (e2)
    else
    .out ((((v5.getD v1.toNat (Ty.zero .macRow)).value).tmod 16777216))
  else
  .next ()
theorem s_MacOf_L0_st (v0 : Bytes) (v1 : Int) (v2 : Bool) (v3 : Int) (v4 : Int) (v5 : List MacRow) (hlo : 0 ≤ v1) (hhi : v1 < (v5.length : Int)) (hN : (v5.length : Int) ≤ 4611686018427387904) : s_MacOf_L0_r.step (s_MacOf_L0_mk v0 v1 v2 v3 v4 v5) = Stp.elim (fun a' : Unit => some (Sum.inl (s_MacOf_L0_mk v0 (v1 + 1) v2 v3 v4 v5))) (fun w => some (Sum.inr ((fun p : Int => Sum.inl (s_MacOf_L0_mx0 p)) w))) (s_MacOf_L0_f v0 v2 v3 v4 v5 v1 ()) := by
  have hw : (IntKind.wrap .i64 (v1 + 1)) = v1 + 1 := wrap64 (by omega) (by omega)
  show s_MacOf_L0_B v0 v1 v2 v3 v4 v5 (Option (s_MacOf_L0_sh.T ⊕ WT s_MacOf_L0_es)) none (fun v' => some (Sum.inl v')) (fun w => some (Sum.inr w)) = _
  unfold s_MacOf_L0_B s_MacOf_L0_f
  exact bifG (by simp only [decide_eq_true_eq]; omega) (bifG (by (try simp only [Nat.ble_eq, Bool.and_eq_true, decide_eq_true_eq]); grind [maxSl, maxStr, toBytes_length, toInts_length, List.length_set, wrap64]) (bifT (f := (Stp.elim (fun a' : Unit => some (Sum.inl (s_MacOf_L0_mk v0 (v1 + 1) v2 v3 v4 v5))) (fun w => some (Sum.inr ((fun p : Int => Sum.inl (s_MacOf_L0_mx0 p)) w))))) (fun b0 => bifG (by (try simp only [Nat.ble_eq, Bool.and_eq_true, decide_eq_true_eq]); grind [maxSl, maxStr, toBytes_length, toInts_length, List.length_set, wrap64]) (bifT (f := (Stp.elim (fun a' : Unit => some (Sum.inl (s_MacOf_L0_mk v0 (v1 + 1) v2 v3 v4 v5))) (fun w => some (Sum.inr ((fun p : Int => Sum.inl (s_MacOf_L0_mx0 p)) w))))) (fun b1 => letT (f := (Stp.elim (fun a' : Unit => some (Sum.inl (s_MacOf_L0_mk v0 (v1 + 1) v2 v3 v4 v5))) (fun w => some (Sum.inr ((fun p : Int => Sum.inl (s_MacOf_L0_mx0 p)) w))))) (fun e2 he2 => rfl))
      (fun b1 => rfl)))
      (fun b0 => (by exact congrArg (fun z => some (Sum.inl (s_MacOf_L0_mk v0 z v2 v3 v4 v5))) hw))))
theorem s_MacOf_L0_cl (v0 : Bytes) (v1 : Int) (v2 : Bool) (v3 : Int) (v4 : Int) (v5 : List MacRow) (h0 : 0 ≤ v1) (h1 : (v5.length : Int) ≤ 4611686018427387904) : loopF s_MacOf_L0_r.step (s_MacOf_L0_fu v0 v1 v2 v3 v4 v5) (s_MacOf_L0_mk v0 v1 v2 v3 v4 v5) = some (Stp.elim (fun a => (fun i a => Sum.inr (s_MacOf_L0_mx1 )) (v1 + 1 * (((Int.toNat ((v5.length : Int) - v1)) : Nat) : Int)) a) (fun p : Int => Sum.inl (s_MacOf_L0_mx0 p)) (forN (s_MacOf_L0_f v0 v2 v3 v4 v5) 1 (Int.toNat ((v5.length : Int) - v1)) v1 ())) :=
  forN_loop (step := s_MacOf_L0_r.step) (mk := fun v1 a => s_MacOf_L0_mk v0 v1 v2 v3 v4 v5) (f := s_MacOf_L0_f v0 v2 v3 v4 v5) (e := (fun i a => Sum.inr (s_MacOf_L0_mx1 ))) (emb := (fun p : Int => Sum.inl (s_MacOf_L0_mx0 p))) (st := 1) (Inv := fun v1 a => True) (Int.toNat ((v5.length : Int) - v1)) v1 () _ (Nat.lt_succ_self _) trivial
    (fun j a hj hv => ⟨s_MacOf_L0_st v0 (v1 + 1 * (j : Int)) v2 v3 v4 v5 (by omega) (by omega) (by omega), fun _ _ => trivial⟩)
    (fun a hv => by
      show s_MacOf_L0_B v0 (v1 + 1 * (((Int.toNat ((v5.length : Int) - v1)) : Nat) : Int)) v2 v3 v4 v5 (Option (s_MacOf_L0_sh.T ⊕ WT s_MacOf_L0_es)) none (fun v' => some (Sum.inl v')) (fun w => some (Sum.inr w)) = _
      unfold s_MacOf_L0_B
      exact bifN (by simp only [decide_eq_false_iff_not]; omega) rfl)
def s_MacOf_N (x0 : Mac) (x1 : Bytes) (γ : Type) (fail : γ) (k : Int → γ) : γ :=
  bif (!x0.use) then
    bif (decide (x1.length ≤ 4294967296)) then
    letK (α := Int) (s_SipHash x0.k x0.l x1) fun c1 =>
    k (IntKind.wrap .i64 (c1.tmod 16777216))
    else fail
  else
  optK (loopF s_MacOf_L0_r.step (s_MacOf_L0_fu x1 0 x0.use x0.k x0.l x0.rows) (s_MacOf_L0_mk x1 0 x0.use x0.k x0.l x0.rows)) fail fun w3 =>
    Sum.elim (fun w3 =>
      k w3.1.1.1)
    (fun w3 =>
      k 0) w3
def s_MacOf (x0 : Mac) (x1 : Bytes) : Int :=
  bif (!x0.use) then
    letK (α := Int) (s_SipHash x0.k x0.l x1) fun c1 =>
    (IntKind.wrap .i64 (c1.tmod 16777216))
  else
  Stp.elim (fun a4 =>
    0)
    (fun p4 =>
      p4)
    (forN (s_MacOf_L0_f x1 x0.use x0.k x0.l x0.rows) 1 (Int.toNat ((x0.rows.length : Int) - 0)) 0 ())
theorem s_MacOf_lk (x0 : Mac) (x1 : Bytes) : evalFn te (orcOf (P := Try.prog) [s_SipHash_e]) (lorcOf [s_MacOf_L0_le]) s_MacOf_ann Try.f157 (pvs [.st .mac, .sc .str] (x0, x1, ())) =
  s_MacOf_N x0 x1 _ none (fun v => some [(false, [RC.c (.int .i64 v)])]) := by kernel_rfl
theorem s_MacOf_p (x0 : Mac) (x1 : Bytes) (hx0_k : inK .u64 x0.k) (hx0_l : inK .u64 x0.l) (hx0_rows : x0.rows.length ≤ 140737488355328) (hx0_rows_e : ∀ y ∈ x0.rows, ∀ c ∈ Ty.cells .macRow y, FactC c) (hx1 : List.length x1 ≤ 4611686018427387904) (hp : x0.rows.length ≤ 4294967296 ∧ x1.length ≤ 4294967296) (γ : Type) (fail : γ) (k : Int → γ) : s_MacOf_N x0 x1 γ fail k = k (s_MacOf x0 x1) := by
  unfold s_MacOf_N s_MacOf
  exact bifT (f := k) (fun b0 => bifG (by (try simp only [Nat.ble_eq, Bool.and_eq_true, decide_eq_true_eq, s_MacOf_L0_mx0, s_MacOf_L0_mx1]); grind [maxSl, maxStr, toBytes_length, toInts_length, List.length_set, wrap64]) (letT (f := k) (fun c1 hc1 => rfl)))
      (fun b0 => loopT (f := k) (s_MacOf_L0_cl x1 0 x0.use x0.k x0.l x0.rows (by (try simp only [Nat.ble_eq, Bool.and_eq_true, decide_eq_true_eq, s_MacOf_L0_mx0, s_MacOf_L0_mx1]); grind [maxSl, maxStr, toBytes_length, toInts_length, List.length_set, wrap64]) (by (try simp only [Nat.ble_eq, Bool.and_eq_true, decide_eq_true_eq, s_MacOf_L0_mx0, s_MacOf_L0_mx1]); grind [maxSl, maxStr, toBytes_length, toInts_length, List.length_set, wrap64])) (fun a4 => rfl)
      (fun p4 => rfl))
theorem s_MacOf_c (x0 : Mac) (x1 : Bytes) (hp : x0.rows.length ≤ 4294967296 ∧ x1.length ≤ 4294967296) : Con Try.prog 157 (pvs [.st .mac, .sc .str] (x0, x1, ())) [rv (.sc (.int .i64)) [] (s_MacOf x0 x1)] := by
  refine Con.of_facts (enters_of Try.func157 rfl (by kernel_rfl)) fun hf => ?_
  replace hf := factAt hf
  exact evalFn_conL teFact mixFact (orcOf_ok _) Try.func157 (by kernel_rfl) (bs := [0]) (by kernel_rfl) (by kernel_rfl) (fun w0 mo I0 hmo => ⟨lsem_of_lorc (s_MacOf_L0_ls w0 mo I0 hmo) (by kernel_rfl), trivial⟩) ((s_MacOf_lk x0 x1).trans (s_MacOf_p x0 x1 ((hf 0 1 rfl rfl).rng) ((hf 0 2 rfl rfl).rng) ((hf 0 3 rfl rfl).len) (fun y hy => (hf 0 3 rfl rfl).elem hy) ((hf 1 0 rfl rfl).slen) hp _ _ _))
noncomputable def s_MacOf_e : Ent1 Try.prog := entP 157 [.st .mac, .sc .str] (fun x => (decide (x.1.rows.length ≤ 4294967296 ∧ x.2.1.length ≤ 4294967296))) (fun x => (s_MacOf x.1 x.2.1)) (fun v => [rv (.sc (.int .i64)) [] v]) (fun x hx => s_MacOf_c x.1 x.2.1 (of_decide_eq_true hx))


/-- laws.toTable -/
def w_toTable_N (x0 : Tabl) (γ : Type) (fail : γ) (k : Tabl → γ) : γ :=
  bif (decide (x0.conns.length ≤ 4294967296 ∧ sm_conn x0.conns = true)) then
  letK (α := List Conn) (w_toConnS x0.conns) fun c1 =>
  bif (decide (x0.waiting.length ≤ 4294967296)) then
  letK (α := List Tupl) (w_toTupleS x0.waiting) fun c2 =>
  k (⟨c1, c2⟩ : Tabl)
  else fail
  else fail
def w_toTable (x0 : Tabl) : Tabl :=
  letK (α := List Conn) (w_toConnS x0.conns) fun c1 =>
  letK (α := List Tupl) (w_toTupleS x0.waiting) fun c2 =>
  (⟨c1, c2⟩ : Tabl)
theorem w_toTable_lk (x0 : Tabl) : evalFn te (orcOf (P := Try.prog) [w_toConnS_e, w_toTupleS_e]) lorc0 [] Try.f75 (pvs [.st .tabl] (x0, ())) =
  w_toTable_N x0 _ none (fun v => some [(true, [RC.own true .conn v.conns, RC.own true .tupl v.waiting])]) := by kernel_rfl
theorem w_toTable_p (x0 : Tabl) (hx0_conns : x0.conns.length ≤ 140737488355328) (hx0_conns_e : ∀ y ∈ x0.conns, ∀ c ∈ Ty.cells .conn y, FactC c) (hx0_waiting : x0.waiting.length ≤ 140737488355328) (hp : x0.conns.length ≤ 4294967296 ∧ sm_conn x0.conns = true ∧ x0.waiting.length ≤ 4294967296) (γ : Type) (fail : γ) (k : Tabl → γ) : w_toTable_N x0 γ fail k = k (w_toTable x0) := by
  unfold w_toTable_N w_toTable
  exact bifG (by (try simp only [Nat.ble_eq, Bool.and_eq_true, decide_eq_true_eq]); grind [maxSl, maxStr, toBytes_length, toInts_length, List.length_set, wrap64]) (letT (f := k) (fun c1 hc1 => bifG (by (try simp only [Nat.ble_eq, Bool.and_eq_true, decide_eq_true_eq]); grind [maxSl, maxStr, toBytes_length, toInts_length, List.length_set, wrap64]) (letT (f := k) (fun c2 hc2 => rfl))))
theorem w_toTable_c (x0 : Tabl) (hp : x0.conns.length ≤ 4294967296 ∧ sm_conn x0.conns = true ∧ x0.waiting.length ≤ 4294967296) : Con Try.prog 75 (pvs [.st .tabl] (x0, ())) [rv (.st .tabl) [.o true, .o true] (w_toTable x0)] := by
  refine Con.of_facts (enters_of Try.func75 rfl (by kernel_rfl)) fun hf => ?_
  replace hf := factAt hf
  exact evalFn_con0 teFact mixFact (orcOf_ok _) Try.func75 (by kernel_rfl) ((w_toTable_lk x0).trans (w_toTable_p x0 ((hf 0 0 rfl rfl).len) (fun y hy => (hf 0 0 rfl rfl).elem hy) ((hf 0 1 rfl rfl).len) hp _ _ _))
noncomputable def w_toTable_e : Ent1 Try.prog := entP 75 [.st .tabl] (fun x => (decide (x.1.conns.length ≤ 4294967296 ∧ sm_conn x.1.conns = true ∧ x.1.waiting.length ≤ 4294967296))) (fun x => (w_toTable x.1)) (fun v => [rv (.st .tabl) [.o true, .o true] v]) (fun x hx => w_toTable_c x.1 (of_decide_eq_true hx))


/-- laws.eqTable -/
def w_eqTable_N (x0 : Tabl) (x1 : Tabl) (γ : Type) (fail : γ) (k : Bool → γ) : γ :=
  letK (α := Bool) (w_eqConnS x0.conns x1.conns) fun c1 =>
  bif (!c1) then
    k false
  else
  letK (α := Bool) (w_eqTupleS x0.waiting x1.waiting) fun c2 =>
  bif (!c2) then
    k false
  else
  k true
def w_eqTable (x0 : Tabl) (x1 : Tabl) : Bool :=
  letK (α := Bool) (w_eqConnS x0.conns x1.conns) fun c1 =>
  bif (!c1) then
    false
  else
  letK (α := Bool) (w_eqTupleS x0.waiting x1.waiting) fun c2 =>
  bif (!c2) then
    false
  else
  true
theorem w_eqTable_lk (x0 : Tabl) (x1 : Tabl) : evalFn te (orcOf (P := Try.prog) [w_eqConnS_e, w_eqTupleS_e]) lorc0 [] Try.f79 (pvs [.st .tabl, .st .tabl] (x0, x1, ())) =
  w_eqTable_N x0 x1 _ none (fun v => some [(false, [RC.c (.bool v)])]) := by kernel_rfl
theorem w_eqTable_p (x0 : Tabl) (x1 : Tabl)   (γ : Type) (fail : γ) (k : Bool → γ) : w_eqTable_N x0 x1 γ fail k = k (w_eqTable x0 x1) := by
  unfold w_eqTable_N w_eqTable
  exact letT (f := k) (fun c1 hc1 => bifT (f := k) (fun b0 => rfl)
      (fun b0 => letT (f := k) (fun c2 hc2 => bifT (f := k) (fun b1 => rfl)
      (fun b1 => rfl))))
theorem w_eqTable_c (x0 : Tabl) (x1 : Tabl)  : Con Try.prog 79 (pvs [.st .tabl, .st .tabl] (x0, x1, ())) [rv (.sc .bool) [] (w_eqTable x0 x1)] := by
  exact evalFn_con0 teFact mixFact (orcOf_ok _) Try.func79 (by kernel_rfl) ((w_eqTable_lk x0 x1).trans (w_eqTable_p x0 x1  _ _ _))
noncomputable def w_eqTable_e : Ent1 Try.prog := entA 79 [.st .tabl, .st .tabl] (fun x => (w_eqTable x.1 x.2.1)) (fun v => [rv (.sc .bool) [] v]) (fun x => w_eqTable_c x.1 x.2.1)


/-- impl.CookieOf -/
def i_CookieOf_N (x0 : Mac) (x1 : Tupl) (x2 : Int) (x3 : Int) (x4 : Int) (γ : Type) (fail : γ) (k : Int → γ) : γ :=
  letK (α := Bytes) (i_MacInput x1 x2 x3 x4) fun c1 =>
  bif (c1 == []) then
    k (-1)
  else
  letK (α := Int) (IntKind.wrap .i64 ((IntKind.wrap .i64 ((x3.tmod 32) * 134217728)) + (IntKind.wrap .i64 (x4 * 16777216)))) fun e2 =>
  bif (decide (x0.rows.length ≤ 4294967296 ∧ c1.length ≤ 4294967296)) then
  letK (α := Int) (i_MacOf x0 c1) fun c3 =>
  k (IntKind.wrap .i64 (e2 + c3))
  else fail
def i_CookieOf (x0 : Mac) (x1 : Tupl) (x2 : Int) (x3 : Int) (x4 : Int) : Int :=
  letK (α := Bytes) (i_MacInput x1 x2 x3 x4) fun c1 =>
  bif (c1 == []) then
    (-1)
  else
  letK (α := Int) (IntKind.wrap .i64 ((IntKind.wrap .i64 ((x3.tmod 32) * 134217728)) + (IntKind.wrap .i64 (x4 * 16777216)))) fun e2 =>
  letK (α := Int) (i_MacOf x0 c1) fun c3 =>
  (IntKind.wrap .i64 (e2 + c3))
theorem i_CookieOf_lk (x0 : Mac) (x1 : Tupl) (x2 : Int) (x3 : Int) (x4 : Int) : evalFn te (orcOf (P := Try.prog) [i_MacInput_e, i_MacOf_e]) lorc0 [] Try.f115 (pvs [.st .mac, .st .tupl, .sc (.int .i64), .sc (.int .i64), .sc (.int .i64)] (x0, x1, x2, x3, x4, ())) =
  i_CookieOf_N x0 x1 x2 x3 x4 _ none (fun v => some [(false, [RC.c (.int .i64 v)])]) := by kernel_rfl
theorem i_CookieOf_p (x0 : Mac) (x1 : Tupl) (x2 : Int) (x3 : Int) (x4 : Int) (hx0_k : inK .u64 x0.k) (hx0_l : inK .u64 x0.l) (hx0_rows : x0.rows.length ≤ 140737488355328) (hx0_rows_e : ∀ y ∈ x0.rows, ∀ c ∈ Ty.cells .macRow y, FactC c) (hx1_ip : inK .i64 x1.ip) (hx1_port : inK .i64 x1.port) (hx1_my : inK .i64 x1.my) (hx2 : inK .i64 x2) (hx3 : inK .i64 x3) (hx4 : inK .i64 x4) (hp : x0.rows.length ≤ 4294967296) (γ : Type) (fail : γ) (k : Int → γ) : i_CookieOf_N x0 x1 x2 x3 x4 γ fail k = k (i_CookieOf x0 x1 x2 x3 x4) := by
  unfold i_CookieOf_N i_CookieOf
  exact letT (f := k) (fun c1 hc1 => bifT (f := k) (fun b0 => rfl)
      (fun b0 => letT (f := k) (fun e2 he2 => bifG (by (try simp only [Nat.ble_eq, Bool.and_eq_true, decide_eq_true_eq]); grind [maxSl, maxStr, toBytes_length, toInts_length, List.length_set, wrap64, i_MacInput_len]) (letT (f := k) (fun c3 hc3 => rfl)))))
theorem i_CookieOf_c (x0 : Mac) (x1 : Tupl) (x2 : Int) (x3 : Int) (x4 : Int) (hp : x0.rows.length ≤ 4294967296) : Con Try.prog 115 (pvs [.st .mac, .st .tupl, .sc (.int .i64), .sc (.int .i64), .sc (.int .i64)] (x0, x1, x2, x3, x4, ())) [rv (.sc (.int .i64)) [] (i_CookieOf x0 x1 x2 x3 x4)] := by
  refine Con.of_facts (enters_of Try.func115 rfl (by kernel_rfl)) fun hf => ?_
  replace hf := factAt hf
  exact evalFn_con0 teFact mixFact (orcOf_ok _) Try.func115 (by kernel_rfl) ((i_CookieOf_lk x0 x1 x2 x3 x4).trans (i_CookieOf_p x0 x1 x2 x3 x4 ((hf 0 1 rfl rfl).rng) ((hf 0 2 rfl rfl).rng) ((hf 0 3 rfl rfl).len) (fun y hy => (hf 0 3 rfl rfl).elem hy) ((hf 1 0 rfl rfl).rng) ((hf 1 1 rfl rfl).rng) ((hf 1 2 rfl rfl).rng) ((hf 2 0 rfl rfl).rng) ((hf 3 0 rfl rfl).rng) ((hf 4 0 rfl rfl).rng) hp _ _ _))
noncomputable def i_CookieOf_e : Ent1 Try.prog := entP 115 [.st .mac, .st .tupl, .sc (.int .i64), .sc (.int .i64), .sc (.int .i64)] (fun x => (decide (x.1.rows.length ≤ 4294967296))) (fun x => (i_CookieOf x.1 x.2.1 x.2.2.1 x.2.2.2.1 x.2.2.2.2.1)) (fun v => [rv (.sc (.int .i64)) [] v]) (fun x hx => i_CookieOf_c x.1 x.2.1 x.2.2.1 x.2.2.2.1 x.2.2.2.2.1 (of_decide_eq_true hx))


/-- spec.CookieOf -/
def s_CookieOf_N (x0 : Mac) (x1 : Tupl) (x2 : Int) (x3 : Int) (x4 : Int) (γ : Type) (fail : γ) (k : Int → γ) : γ :=
  letK (α := Bytes) (s_MacInput x1 x2 x3 x4) fun c1 =>
  bif (c1 == []) then
    k (-1)
  else
  letK (α := Int) (IntKind.wrap .i64 ((IntKind.wrap .i64 ((x3.tmod 32) * 134217728)) + (IntKind.wrap .i64 (x4 * 16777216)))) fun e2 =>
  bif (decide (x0.rows.length ≤ 4294967296 ∧ c1.length ≤ 4294967296)) then
  letK (α := Int) (s_MacOf x0 c1) fun c3 =>
  k (IntKind.wrap .i64 (e2 + c3))
  else fail
def s_CookieOf (x0 : Mac) (x1 : Tupl) (x2 : Int) (x3 : Int) (x4 : Int) : Int :=
  letK (α := Bytes) (s_MacInput x1 x2 x3 x4) fun c1 =>
  bif (c1 == []) then
    (-1)
  else
  letK (α := Int) (IntKind.wrap .i64 ((IntKind.wrap .i64 ((x3.tmod 32) * 134217728)) + (IntKind.wrap .i64 (x4 * 16777216)))) fun e2 =>
  letK (α := Int) (s_MacOf x0 c1) fun c3 =>
  (IntKind.wrap .i64 (e2 + c3))
theorem s_CookieOf_lk (x0 : Mac) (x1 : Tupl) (x2 : Int) (x3 : Int) (x4 : Int) : evalFn te (orcOf (P := Try.prog) [s_MacInput_e, s_MacOf_e]) lorc0 [] Try.f118 (pvs [.st .mac, .st .tupl, .sc (.int .i64), .sc (.int .i64), .sc (.int .i64)] (x0, x1, x2, x3, x4, ())) =
  s_CookieOf_N x0 x1 x2 x3 x4 _ none (fun v => some [(false, [RC.c (.int .i64 v)])]) := by kernel_rfl
theorem s_CookieOf_p (x0 : Mac) (x1 : Tupl) (x2 : Int) (x3 : Int) (x4 : Int) (hx0_k : inK .u64 x0.k) (hx0_l : inK .u64 x0.l) (hx0_rows : x0.rows.length ≤ 140737488355328) (hx0_rows_e : ∀ y ∈ x0.rows, ∀ c ∈ Ty.cells .macRow y, FactC c) (hx1_ip : inK .i64 x1.ip) (hx1_port : inK .i64 x1.port) (hx1_my : inK .i64 x1.my) (hx2 : inK .i64 x2) (hx3 : inK .i64 x3) (hx4 : inK .i64 x4) (hp : x0.rows.length ≤ 4294967296) (γ : Type) (fail : γ) (k : Int → γ) : s_CookieOf_N x0 x1 x2 x3 x4 γ fail k = k (s_CookieOf x0 x1 x2 x3 x4) := by
  unfold s_CookieOf_N s_CookieOf
  exact letT (f := k) (fun c1 hc1 => bifT (f := k) (fun b0 => rfl)
      (fun b0 => letT (f := k) (fun e2 he2 => bifG (by (try simp only [Nat.ble_eq, Bool.and_eq_true, decide_eq_true_eq]); grind [maxSl, maxStr, toBytes_length, toInts_length, List.length_set, wrap64, s_MacInput_len]) (letT (f := k) (fun c3 hc3 => rfl)))))
theorem s_CookieOf_c (x0 : Mac) (x1 : Tupl) (x2 : Int) (x3 : Int) (x4 : Int) (hp : x0.rows.length ≤ 4294967296) : Con Try.prog 118 (pvs [.st .mac, .st .tupl, .sc (.int .i64), .sc (.int .i64), .sc (.int .i64)] (x0, x1, x2, x3, x4, ())) [rv (.sc (.int .i64)) [] (s_CookieOf x0 x1 x2 x3 x4)] := by
  refine Con.of_facts (enters_of Try.func118 rfl (by kernel_rfl)) fun hf => ?_
  replace hf := factAt hf
  exact evalFn_con0 teFact mixFact (orcOf_ok _) Try.func118 (by kernel_rfl) ((s_CookieOf_lk x0 x1 x2 x3 x4).trans (s_CookieOf_p x0 x1 x2 x3 x4 ((hf 0 1 rfl rfl).rng) ((hf 0 2 rfl rfl).rng) ((hf 0 3 rfl rfl).len) (fun y hy => (hf 0 3 rfl rfl).elem hy) ((hf 1 0 rfl rfl).rng) ((hf 1 1 rfl rfl).rng) ((hf 1 2 rfl rfl).rng) ((hf 2 0 rfl rfl).rng) ((hf 3 0 rfl rfl).rng) ((hf 4 0 rfl rfl).rng) hp _ _ _))
noncomputable def s_CookieOf_e : Ent1 Try.prog := entP 118 [.st .mac, .st .tupl, .sc (.int .i64), .sc (.int .i64), .sc (.int .i64)] (fun x => (decide (x.1.rows.length ≤ 4294967296))) (fun x => (s_CookieOf x.1 x.2.1 x.2.2.1 x.2.2.2.1 x.2.2.2.2.1)) (fun v => [rv (.sc (.int .i64)) [] v]) (fun x hx => s_CookieOf_c x.1 x.2.1 x.2.2.1 x.2.2.2.1 x.2.2.2.2.1 (of_decide_eq_true hx))


/-- laws.toDoor -/
def w_toDoor_N (x0 : Door) (γ : Type) (fail : γ) (k : Door → γ) : γ :=
  bif (decide (x0.keys.now.rows.length ≤ 4294967296 ∧ x0.keys.before.rows.length ≤ 4294967296)) then
  letK (α := Keys) (w_toKeys x0.keys) fun c1 =>
  letK (α := Limi) (w_toLimits x0.limits) fun c2 =>
  bif (decide (x0.halves.length ≤ 4294967296)) then
  letK (α := List Half) (w_toHalfS x0.halves) fun c3 =>
  bif (decide (x0.table.conns.length ≤ 4294967296 ∧ sm_conn x0.table.conns = true ∧ x0.table.waiting.length ≤ 4294967296)) then
  letK (α := Tabl) (w_toTable x0.table) fun c4 =>
  k (⟨x0.port, x0.clock, c1, c2, c3, c4, x0.chal⟩ : Door)
  else fail
  else fail
  else fail
def w_toDoor (x0 : Door) : Door :=
  letK (α := Keys) (w_toKeys x0.keys) fun c1 =>
  letK (α := Limi) (w_toLimits x0.limits) fun c2 =>
  letK (α := List Half) (w_toHalfS x0.halves) fun c3 =>
  letK (α := Tabl) (w_toTable x0.table) fun c4 =>
  (⟨x0.port, x0.clock, c1, c2, c3, c4, x0.chal⟩ : Door)
theorem w_toDoor_lk (x0 : Door) : evalFn te (orcOf (P := Try.prog) [w_toKeys_e, w_toLimits_e, w_toHalfS_e, w_toTable_e]) lorc0 [] Try.f25 (pvs [.st .door] (x0, ())) =
  w_toDoor_N x0 _ none (fun v => some [(true, [RC.c (.int .i64 v.port), RC.c (.int .i64 v.clock), RC.c (.int .i64 v.keys.epoch), RC.c (.bool v.keys.now.use), RC.c (.int .u64 v.keys.now.k), RC.c (.int .u64 v.keys.now.l), RC.own true .macRow v.keys.now.rows, RC.c (.bool v.keys.before.use), RC.c (.int .u64 v.keys.before.k), RC.c (.int .u64 v.keys.before.l), RC.own true .macRow v.keys.before.rows, RC.c (.bool v.keys.two), RC.c (.int .i64 v.limits.halves), RC.c (.int .i64 v.limits.waiting), RC.c (.int .i64 v.limits.conns), RC.c (.int .i64 v.limits.chal), RC.own true .half v.halves, RC.own true .conn v.table.conns, RC.own true .tupl v.table.waiting, RC.c (.int .i64 v.chal)])]) := by kernel_rfl
theorem w_toDoor_p (x0 : Door) (hx0_port : inK .i64 x0.port) (hx0_clock : inK .i64 x0.clock) (hx0_keys_epoch : inK .i64 x0.keys.epoch) (hx0_keys_now_k : inK .u64 x0.keys.now.k) (hx0_keys_now_l : inK .u64 x0.keys.now.l) (hx0_keys_now_rows : x0.keys.now.rows.length ≤ 140737488355328) (hx0_keys_now_rows_e : ∀ y ∈ x0.keys.now.rows, ∀ c ∈ Ty.cells .macRow y, FactC c) (hx0_keys_before_k : inK .u64 x0.keys.before.k) (hx0_keys_before_l : inK .u64 x0.keys.before.l) (hx0_keys_before_rows : x0.keys.before.rows.length ≤ 140737488355328) (hx0_keys_before_rows_e : ∀ y ∈ x0.keys.before.rows, ∀ c ∈ Ty.cells .macRow y, FactC c) (hx0_limits_halves : inK .i64 x0.limits.halves) (hx0_limits_waiting : inK .i64 x0.limits.waiting) (hx0_limits_conns : inK .i64 x0.limits.conns) (hx0_limits_chal : inK .i64 x0.limits.chal) (hx0_halves : x0.halves.length ≤ 140737488355328) (hx0_table_conns : x0.table.conns.length ≤ 140737488355328) (hx0_table_conns_e : ∀ y ∈ x0.table.conns, ∀ c ∈ Ty.cells .conn y, FactC c) (hx0_table_waiting : x0.table.waiting.length ≤ 140737488355328) (hx0_chal : inK .i64 x0.chal) (hp : x0.keys.now.rows.length ≤ 4294967296 ∧ x0.keys.before.rows.length ≤ 4294967296 ∧ x0.halves.length ≤ 4294967296 ∧ x0.table.conns.length ≤ 4294967296 ∧ sm_conn x0.table.conns = true ∧ x0.table.waiting.length ≤ 4294967296) (γ : Type) (fail : γ) (k : Door → γ) : w_toDoor_N x0 γ fail k = k (w_toDoor x0) := by
  unfold w_toDoor_N w_toDoor
  exact bifG (by (try simp only [Nat.ble_eq, Bool.and_eq_true, decide_eq_true_eq]); grind [maxSl, maxStr, toBytes_length, toInts_length, List.length_set, wrap64]) (letT (f := k) (fun c1 hc1 => letT (f := k) (fun c2 hc2 => bifG (by (try simp only [Nat.ble_eq, Bool.and_eq_true, decide_eq_true_eq]); grind [maxSl, maxStr, toBytes_length, toInts_length, List.length_set, wrap64]) (letT (f := k) (fun c3 hc3 => bifG (by (try simp only [Nat.ble_eq, Bool.and_eq_true, decide_eq_true_eq]); grind [maxSl, maxStr, toBytes_length, toInts_length, List.length_set, wrap64]) (letT (f := k) (fun c4 hc4 => rfl)))))))
theorem w_toDoor_c (x0 : Door) (hp : x0.keys.now.rows.length ≤ 4294967296 ∧ x0.keys.before.rows.length ≤ 4294967296 ∧ x0.halves.length ≤ 4294967296 ∧ x0.table.conns.length ≤ 4294967296 ∧ sm_conn x0.table.conns = true ∧ x0.table.waiting.length ≤ 4294967296) : Con Try.prog 25 (pvs [.st .door] (x0, ())) [rv (.st .door) [.c, .c, .c, .c, .c, .c, .o true, .c, .c, .c, .o true, .c, .c, .c, .c, .c, .o true, .o true, .o true, .c] (w_toDoor x0)] := by
  refine Con.of_facts (enters_of Try.func25 rfl (by kernel_rfl)) fun hf => ?_
  replace hf := factAt hf
  exact evalFn_con0 teFact mixFact (orcOf_ok _) Try.func25 (by kernel_rfl) ((w_toDoor_lk x0).trans (w_toDoor_p x0 ((hf 0 0 rfl rfl).rng) ((hf 0 1 rfl rfl).rng) ((hf 0 2 rfl rfl).rng) ((hf 0 4 rfl rfl).rng) ((hf 0 5 rfl rfl).rng) ((hf 0 6 rfl rfl).len) (fun y hy => (hf 0 6 rfl rfl).elem hy) ((hf 0 8 rfl rfl).rng) ((hf 0 9 rfl rfl).rng) ((hf 0 10 rfl rfl).len) (fun y hy => (hf 0 10 rfl rfl).elem hy) ((hf 0 12 rfl rfl).rng) ((hf 0 13 rfl rfl).rng) ((hf 0 14 rfl rfl).rng) ((hf 0 15 rfl rfl).rng) ((hf 0 16 rfl rfl).len) ((hf 0 17 rfl rfl).len) (fun y hy => (hf 0 17 rfl rfl).elem hy) ((hf 0 18 rfl rfl).len) ((hf 0 19 rfl rfl).rng) hp _ _ _))
noncomputable def w_toDoor_e : Ent1 Try.prog := entP 25 [.st .door] (fun x => (decide (x.1.keys.now.rows.length ≤ 4294967296 ∧ x.1.keys.before.rows.length ≤ 4294967296 ∧ x.1.halves.length ≤ 4294967296 ∧ x.1.table.conns.length ≤ 4294967296 ∧ sm_conn x.1.table.conns = true ∧ x.1.table.waiting.length ≤ 4294967296))) (fun x => (w_toDoor x.1)) (fun v => [rv (.st .door) [.c, .c, .c, .c, .c, .c, .o true, .c, .c, .c, .o true, .c, .c, .c, .c, .c, .o true, .o true, .o true, .c] v]) (fun x hx => w_toDoor_c x.1 (of_decide_eq_true hx))


/-- laws.eqDoor -/
def w_eqDoor_N (x0 : Door) (x1 : Door) (γ : Type) (fail : γ) (k : Bool → γ) : γ :=
  bif (x0.port != x1.port) then
    k false
  else
  bif (x0.clock != x1.clock) then
    k false
  else
  letK (α := Bool) (w_eqKeys x0.keys x1.keys) fun c1 =>
  bif (!c1) then
    k false
  else
  letK (α := Bool) (w_eqLimits x0.limits x1.limits) fun c2 =>
  bif (!c2) then
    k false
  else
  letK (α := Bool) (w_eqHalfS x0.halves x1.halves) fun c3 =>
  bif (!c3) then
    k false
  else
  letK (α := Bool) (w_eqTable x0.table x1.table) fun c4 =>
  bif (!c4) then
    k false
  else
  bif (x0.chal != x1.chal) then
    k false
  else
  k true
def w_eqDoor (x0 : Door) (x1 : Door) : Bool :=
  bif (x0.port != x1.port) then
    false
  else
  bif (x0.clock != x1.clock) then
    false
  else
  letK (α := Bool) (w_eqKeys x0.keys x1.keys) fun c1 =>
  bif (!c1) then
    false
  else
  letK (α := Bool) (w_eqLimits x0.limits x1.limits) fun c2 =>
  bif (!c2) then
    false
  else
  letK (α := Bool) (w_eqHalfS x0.halves x1.halves) fun c3 =>
  bif (!c3) then
    false
  else
  letK (α := Bool) (w_eqTable x0.table x1.table) fun c4 =>
  bif (!c4) then
    false
  else
  bif (x0.chal != x1.chal) then
    false
  else
  true
theorem w_eqDoor_lk (x0 : Door) (x1 : Door) : evalFn te (orcOf (P := Try.prog) [w_eqKeys_e, w_eqLimits_e, w_eqHalfS_e, w_eqTable_e]) lorc0 [] Try.f27 (pvs [.st .door, .st .door] (x0, x1, ())) =
  w_eqDoor_N x0 x1 _ none (fun v => some [(false, [RC.c (.bool v)])]) := by kernel_rfl
theorem w_eqDoor_p (x0 : Door) (x1 : Door)   (γ : Type) (fail : γ) (k : Bool → γ) : w_eqDoor_N x0 x1 γ fail k = k (w_eqDoor x0 x1) := by
  unfold w_eqDoor_N w_eqDoor
  exact bifT (f := k) (fun b0 => rfl)
      (fun b0 => bifT (f := k) (fun b1 => rfl)
      (fun b1 => letT (f := k) (fun c1 hc1 => bifT (f := k) (fun b2 => rfl)
      (fun b2 => letT (f := k) (fun c2 hc2 => bifT (f := k) (fun b3 => rfl)
      (fun b3 => letT (f := k) (fun c3 hc3 => bifT (f := k) (fun b4 => rfl)
      (fun b4 => letT (f := k) (fun c4 hc4 => bifT (f := k) (fun b5 => rfl)
      (fun b5 => bifT (f := k) (fun b6 => rfl)
      (fun b6 => rfl)))))))))))
theorem w_eqDoor_c (x0 : Door) (x1 : Door)  : Con Try.prog 27 (pvs [.st .door, .st .door] (x0, x1, ())) [rv (.sc .bool) [] (w_eqDoor x0 x1)] := by
  exact evalFn_con0 teFact mixFact (orcOf_ok _) Try.func27 (by kernel_rfl) ((w_eqDoor_lk x0 x1).trans (w_eqDoor_p x0 x1  _ _ _))
noncomputable def w_eqDoor_e : Ent1 Try.prog := entA 27 [.st .door, .st .door] (fun x => (w_eqDoor x.1 x.2.1)) (fun v => [rv (.sc .bool) [] v]) (fun x => w_eqDoor_c x.1 x.2.1)


/-- spec.FirstSeq -/
def s_FirstSeq_N (x0 : Door) (x1 : Tupl) (x2 : Segm) (γ : Type) (fail : γ) (k : Int → γ) : γ :=
  bif (x2.opts.mss == 0) then
    letK (α := Int) (s_MssIndex 536) fun c1 =>
    bif (decide (x0.keys.now.rows.length ≤ 4294967296)) then
    letK (α := Int) (s_CookieOf x0.keys.now x1 x2.seq x0.keys.epoch c1) fun c2 =>
    letK (α := Int) (s_l1Max 0 c2) fun c3 =>
    k c3
    else fail
  else
  letK (α := Int) (s_MssIndex x2.opts.mss) fun c4 =>
  bif (decide (x0.keys.now.rows.length ≤ 4294967296)) then
  letK (α := Int) (s_CookieOf x0.keys.now x1 x2.seq x0.keys.epoch c4) fun c5 =>
  letK (α := Int) (s_l1Max 0 c5) fun c6 =>
  k c6
  else fail
def s_FirstSeq (x0 : Door) (x1 : Tupl) (x2 : Segm) : Int :=
  bif (x2.opts.mss == 0) then
    letK (α := Int) (s_MssIndex 536) fun c1 =>
    letK (α := Int) (s_CookieOf x0.keys.now x1 x2.seq x0.keys.epoch c1) fun c2 =>
    letK (α := Int) (s_l1Max 0 c2) fun c3 =>
    c3
  else
  letK (α := Int) (s_MssIndex x2.opts.mss) fun c4 =>
  letK (α := Int) (s_CookieOf x0.keys.now x1 x2.seq x0.keys.epoch c4) fun c5 =>
  letK (α := Int) (s_l1Max 0 c5) fun c6 =>
  c6
theorem s_FirstSeq_lk (x0 : Door) (x1 : Tupl) (x2 : Segm) : evalFn te (orcOf (P := Try.prog) [s_MssIndex_e, s_CookieOf_e, s_l1Max_e]) lorc0 [] Try.f87 (pvs [.st .door, .st .tupl, .st .segm] (x0, x1, x2, ())) =
  s_FirstSeq_N x0 x1 x2 _ none (fun v => some [(false, [RC.c (.int .i64 v)])]) := by kernel_rfl
theorem s_FirstSeq_p (x0 : Door) (x1 : Tupl) (x2 : Segm) (hx0_port : inK .i64 x0.port) (hx0_clock : inK .i64 x0.clock) (hx0_keys_epoch : inK .i64 x0.keys.epoch) (hx0_keys_now_k : inK .u64 x0.keys.now.k) (hx0_keys_now_l : inK .u64 x0.keys.now.l) (hx0_keys_now_rows : x0.keys.now.rows.length ≤ 140737488355328) (hx0_keys_now_rows_e : ∀ y ∈ x0.keys.now.rows, ∀ c ∈ Ty.cells .macRow y, FactC c) (hx0_keys_before_k : inK .u64 x0.keys.before.k) (hx0_keys_before_l : inK .u64 x0.keys.before.l) (hx0_keys_before_rows : x0.keys.before.rows.length ≤ 140737488355328) (hx0_keys_before_rows_e : ∀ y ∈ x0.keys.before.rows, ∀ c ∈ Ty.cells .macRow y, FactC c) (hx0_limits_halves : inK .i64 x0.limits.halves) (hx0_limits_waiting : inK .i64 x0.limits.waiting) (hx0_limits_conns : inK .i64 x0.limits.conns) (hx0_limits_chal : inK .i64 x0.limits.chal) (hx0_halves : x0.halves.length ≤ 140737488355328) (hx0_table_conns : x0.table.conns.length ≤ 140737488355328) (hx0_table_conns_e : ∀ y ∈ x0.table.conns, ∀ c ∈ Ty.cells .conn y, FactC c) (hx0_table_waiting : x0.table.waiting.length ≤ 140737488355328) (hx0_chal : inK .i64 x0.chal) (hx1_ip : inK .i64 x1.ip) (hx1_port : inK .i64 x1.port) (hx1_my : inK .i64 x1.my) (hx2_from_ : inK .i64 x2.from_) (hx2_to : inK .i64 x2.to) (hx2_seq : inK .i64 x2.seq) (hx2_ack : inK .i64 x2.ack) (hx2_flags : inK .i64 x2.flags) (hx2_window : inK .i64 x2.window) (hx2_opts_mss : inK .i64 x2.opts.mss) (hx2_opts_scale : inK .i64 x2.opts.scale) (hx2_opts_val : inK .i64 x2.opts.val) (hx2_opts_echo : inK .i64 x2.opts.echo) (hx2_body : List.length x2.body ≤ 4611686018427387904) (hp : x0.keys.now.rows.length ≤ 4294967296 ∧ x0.keys.before.rows.length ≤ 4294967296 ∧ x0.halves.length ≤ 4294967296 ∧ x0.table.conns.length ≤ 4294967296 ∧ x0.table.waiting.length ≤ 4294967296 ∧ x2.body.length ≤ 4294967296) (γ : Type) (fail : γ) (k : Int → γ) : s_FirstSeq_N x0 x1 x2 γ fail k = k (s_FirstSeq x0 x1 x2) := by
  unfold s_FirstSeq_N s_FirstSeq
  exact bifT (f := k) (fun b0 => letT (f := k) (fun c1 hc1 => bifG (by (try simp only [Nat.ble_eq, Bool.and_eq_true, decide_eq_true_eq]); grind [maxSl, maxStr, toBytes_length, toInts_length, List.length_set, wrap64]) (letT (f := k) (fun c2 hc2 => letT (f := k) (fun c3 hc3 => rfl)))))
      (fun b0 => letT (f := k) (fun c4 hc4 => bifG (by (try simp only [Nat.ble_eq, Bool.and_eq_true, decide_eq_true_eq]); grind [maxSl, maxStr, toBytes_length, toInts_length, List.length_set, wrap64]) (letT (f := k) (fun c5 hc5 => letT (f := k) (fun c6 hc6 => rfl)))))
theorem s_FirstSeq_c (x0 : Door) (x1 : Tupl) (x2 : Segm) (hp : x0.keys.now.rows.length ≤ 4294967296 ∧ x0.keys.before.rows.length ≤ 4294967296 ∧ x0.halves.length ≤ 4294967296 ∧ x0.table.conns.length ≤ 4294967296 ∧ x0.table.waiting.length ≤ 4294967296 ∧ x2.body.length ≤ 4294967296) : Con Try.prog 87 (pvs [.st .door, .st .tupl, .st .segm] (x0, x1, x2, ())) [rv (.sc (.int .i64)) [] (s_FirstSeq x0 x1 x2)] := by
  refine Con.of_facts (enters_of Try.func87 rfl (by kernel_rfl)) fun hf => ?_
  replace hf := factAt hf
  exact evalFn_con0 teFact mixFact (orcOf_ok _) Try.func87 (by kernel_rfl) ((s_FirstSeq_lk x0 x1 x2).trans (s_FirstSeq_p x0 x1 x2 ((hf 0 0 rfl rfl).rng) ((hf 0 1 rfl rfl).rng) ((hf 0 2 rfl rfl).rng) ((hf 0 4 rfl rfl).rng) ((hf 0 5 rfl rfl).rng) ((hf 0 6 rfl rfl).len) (fun y hy => (hf 0 6 rfl rfl).elem hy) ((hf 0 8 rfl rfl).rng) ((hf 0 9 rfl rfl).rng) ((hf 0 10 rfl rfl).len) (fun y hy => (hf 0 10 rfl rfl).elem hy) ((hf 0 12 rfl rfl).rng) ((hf 0 13 rfl rfl).rng) ((hf 0 14 rfl rfl).rng) ((hf 0 15 rfl rfl).rng) ((hf 0 16 rfl rfl).len) ((hf 0 17 rfl rfl).len) (fun y hy => (hf 0 17 rfl rfl).elem hy) ((hf 0 18 rfl rfl).len) ((hf 0 19 rfl rfl).rng) ((hf 1 0 rfl rfl).rng) ((hf 1 1 rfl rfl).rng) ((hf 1 2 rfl rfl).rng) ((hf 2 0 rfl rfl).rng) ((hf 2 1 rfl rfl).rng) ((hf 2 2 rfl rfl).rng) ((hf 2 3 rfl rfl).rng) ((hf 2 4 rfl rfl).rng) ((hf 2 5 rfl rfl).rng) ((hf 2 6 rfl rfl).rng) ((hf 2 7 rfl rfl).rng) ((hf 2 10 rfl rfl).rng) ((hf 2 11 rfl rfl).rng) ((hf 2 12 rfl rfl).slen) hp _ _ _))
noncomputable def s_FirstSeq_e : Ent1 Try.prog := entP 87 [.st .door, .st .tupl, .st .segm] (fun x => (decide (x.1.keys.now.rows.length ≤ 4294967296 ∧ x.1.keys.before.rows.length ≤ 4294967296 ∧ x.1.halves.length ≤ 4294967296 ∧ x.1.table.conns.length ≤ 4294967296 ∧ x.1.table.waiting.length ≤ 4294967296 ∧ x.2.2.1.body.length ≤ 4294967296))) (fun x => (s_FirstSeq x.1 x.2.1 x.2.2.1)) (fun v => [rv (.sc (.int .i64)) [] v]) (fun x hx => s_FirstSeq_c x.1 x.2.1 x.2.2.1 (of_decide_eq_true hx))


/-- impl.FirstSeq -/
def i_FirstSeq_N (x0 : Door) (x1 : Tupl) (x2 : Segm) (γ : Type) (fail : γ) (k : Int → γ) : γ :=
  letK (α := Int) (i_peerMss x2.opts) fun c1 =>
  letK (α := Int) (i_MssIndex c1) fun c2 =>
  bif (decide (x0.keys.now.rows.length ≤ 4294967296)) then
  letK (α := Int) (i_CookieOf x0.keys.now x1 x2.seq x0.keys.epoch c2) fun c3 =>
  k (if 0 < c3 then c3 else 0)
  else fail
def i_FirstSeq (x0 : Door) (x1 : Tupl) (x2 : Segm) : Int :=
  letK (α := Int) (i_peerMss x2.opts) fun c1 =>
  letK (α := Int) (i_MssIndex c1) fun c2 =>
  letK (α := Int) (i_CookieOf x0.keys.now x1 x2.seq x0.keys.epoch c2) fun c3 =>
  (if 0 < c3 then c3 else 0)
theorem i_FirstSeq_lk (x0 : Door) (x1 : Tupl) (x2 : Segm) : evalFn te (orcOf (P := Try.prog) [i_peerMss_e, i_MssIndex_e, i_CookieOf_e]) lorc0 [] Try.f90 (pvs [.st .door, .st .tupl, .st .segm] (x0, x1, x2, ())) =
  i_FirstSeq_N x0 x1 x2 _ none (fun v => some [(false, [RC.c (.int .i64 v)])]) := by kernel_rfl
theorem i_FirstSeq_p (x0 : Door) (x1 : Tupl) (x2 : Segm) (hx0_port : inK .i64 x0.port) (hx0_clock : inK .i64 x0.clock) (hx0_keys_epoch : inK .i64 x0.keys.epoch) (hx0_keys_now_k : inK .u64 x0.keys.now.k) (hx0_keys_now_l : inK .u64 x0.keys.now.l) (hx0_keys_now_rows : x0.keys.now.rows.length ≤ 140737488355328) (hx0_keys_now_rows_e : ∀ y ∈ x0.keys.now.rows, ∀ c ∈ Ty.cells .macRow y, FactC c) (hx0_keys_before_k : inK .u64 x0.keys.before.k) (hx0_keys_before_l : inK .u64 x0.keys.before.l) (hx0_keys_before_rows : x0.keys.before.rows.length ≤ 140737488355328) (hx0_keys_before_rows_e : ∀ y ∈ x0.keys.before.rows, ∀ c ∈ Ty.cells .macRow y, FactC c) (hx0_limits_halves : inK .i64 x0.limits.halves) (hx0_limits_waiting : inK .i64 x0.limits.waiting) (hx0_limits_conns : inK .i64 x0.limits.conns) (hx0_limits_chal : inK .i64 x0.limits.chal) (hx0_halves : x0.halves.length ≤ 140737488355328) (hx0_table_conns : x0.table.conns.length ≤ 140737488355328) (hx0_table_conns_e : ∀ y ∈ x0.table.conns, ∀ c ∈ Ty.cells .conn y, FactC c) (hx0_table_waiting : x0.table.waiting.length ≤ 140737488355328) (hx0_chal : inK .i64 x0.chal) (hx1_ip : inK .i64 x1.ip) (hx1_port : inK .i64 x1.port) (hx1_my : inK .i64 x1.my) (hx2_from_ : inK .i64 x2.from_) (hx2_to : inK .i64 x2.to) (hx2_seq : inK .i64 x2.seq) (hx2_ack : inK .i64 x2.ack) (hx2_flags : inK .i64 x2.flags) (hx2_window : inK .i64 x2.window) (hx2_opts_mss : inK .i64 x2.opts.mss) (hx2_opts_scale : inK .i64 x2.opts.scale) (hx2_opts_val : inK .i64 x2.opts.val) (hx2_opts_echo : inK .i64 x2.opts.echo) (hx2_body : List.length x2.body ≤ 4611686018427387904) (hp : x0.keys.now.rows.length ≤ 4294967296 ∧ x0.keys.before.rows.length ≤ 4294967296 ∧ x0.halves.length ≤ 4294967296 ∧ x0.table.conns.length ≤ 4294967296 ∧ x0.table.waiting.length ≤ 4294967296 ∧ x2.body.length ≤ 4294967296) (γ : Type) (fail : γ) (k : Int → γ) : i_FirstSeq_N x0 x1 x2 γ fail k = k (i_FirstSeq x0 x1 x2) := by
  unfold i_FirstSeq_N i_FirstSeq
  exact letT (f := k) (fun c1 hc1 => letT (f := k) (fun c2 hc2 => bifG (by (try simp only [Nat.ble_eq, Bool.and_eq_true, decide_eq_true_eq]); grind [maxSl, maxStr, toBytes_length, toInts_length, List.length_set, wrap64]) (letT (f := k) (fun c3 hc3 => rfl))))
theorem i_FirstSeq_c (x0 : Door) (x1 : Tupl) (x2 : Segm) (hp : x0.keys.now.rows.length ≤ 4294967296 ∧ x0.keys.before.rows.length ≤ 4294967296 ∧ x0.halves.length ≤ 4294967296 ∧ x0.table.conns.length ≤ 4294967296 ∧ x0.table.waiting.length ≤ 4294967296 ∧ x2.body.length ≤ 4294967296) : Con Try.prog 90 (pvs [.st .door, .st .tupl, .st .segm] (x0, x1, x2, ())) [rv (.sc (.int .i64)) [] (i_FirstSeq x0 x1 x2)] := by
  refine Con.of_facts (enters_of Try.func90 rfl (by kernel_rfl)) fun hf => ?_
  replace hf := factAt hf
  exact evalFn_con0 teFact mixFact (orcOf_ok _) Try.func90 (by kernel_rfl) ((i_FirstSeq_lk x0 x1 x2).trans (i_FirstSeq_p x0 x1 x2 ((hf 0 0 rfl rfl).rng) ((hf 0 1 rfl rfl).rng) ((hf 0 2 rfl rfl).rng) ((hf 0 4 rfl rfl).rng) ((hf 0 5 rfl rfl).rng) ((hf 0 6 rfl rfl).len) (fun y hy => (hf 0 6 rfl rfl).elem hy) ((hf 0 8 rfl rfl).rng) ((hf 0 9 rfl rfl).rng) ((hf 0 10 rfl rfl).len) (fun y hy => (hf 0 10 rfl rfl).elem hy) ((hf 0 12 rfl rfl).rng) ((hf 0 13 rfl rfl).rng) ((hf 0 14 rfl rfl).rng) ((hf 0 15 rfl rfl).rng) ((hf 0 16 rfl rfl).len) ((hf 0 17 rfl rfl).len) (fun y hy => (hf 0 17 rfl rfl).elem hy) ((hf 0 18 rfl rfl).len) ((hf 0 19 rfl rfl).rng) ((hf 1 0 rfl rfl).rng) ((hf 1 1 rfl rfl).rng) ((hf 1 2 rfl rfl).rng) ((hf 2 0 rfl rfl).rng) ((hf 2 1 rfl rfl).rng) ((hf 2 2 rfl rfl).rng) ((hf 2 3 rfl rfl).rng) ((hf 2 4 rfl rfl).rng) ((hf 2 5 rfl rfl).rng) ((hf 2 6 rfl rfl).rng) ((hf 2 7 rfl rfl).rng) ((hf 2 10 rfl rfl).rng) ((hf 2 11 rfl rfl).rng) ((hf 2 12 rfl rfl).slen) hp _ _ _))
noncomputable def i_FirstSeq_e : Ent1 Try.prog := entP 90 [.st .door, .st .tupl, .st .segm] (fun x => (decide (x.1.keys.now.rows.length ≤ 4294967296 ∧ x.1.keys.before.rows.length ≤ 4294967296 ∧ x.1.halves.length ≤ 4294967296 ∧ x.1.table.conns.length ≤ 4294967296 ∧ x.1.table.waiting.length ≤ 4294967296 ∧ x.2.2.1.body.length ≤ 4294967296))) (fun x => (i_FirstSeq x.1 x.2.1 x.2.2.1)) (fun v => [rv (.sc (.int .i64)) [] v]) (fun x hx => i_FirstSeq_c x.1 x.2.1 x.2.2.1 (of_decide_eq_true hx))


/-- spec.SynAck -/
def s_SynAck_N (x0 : Door) (x1 : Tupl) (x2 : Segm) (γ : Type) (fail : γ) (k : Segm → γ) : γ :=
  bif (decide (x0.keys.now.rows.length ≤ 4294967296 ∧ x0.keys.before.rows.length ≤ 4294967296 ∧ x0.halves.length ≤ 4294967296 ∧ x0.table.conns.length ≤ 4294967296 ∧ x0.table.waiting.length ≤ 4294967296 ∧ x2.body.length ≤ 4294967296)) then
  letK (α := Int) (s_FirstSeq x0 x1 x2) fun c1 =>
  letK (α := Int) (s_SeqAdd x2.seq 1) fun c2 =>
  letK (α := Opti) (s_AnswerOptions x2.opts x0.clock) fun c3 =>
  k (⟨x1.my, x1.port, c1, c2, 18, 32, c3, []⟩ : Segm)
  else fail
def s_SynAck (x0 : Door) (x1 : Tupl) (x2 : Segm) : Segm :=
  letK (α := Int) (s_FirstSeq x0 x1 x2) fun c1 =>
  letK (α := Int) (s_SeqAdd x2.seq 1) fun c2 =>
  letK (α := Opti) (s_AnswerOptions x2.opts x0.clock) fun c3 =>
  (⟨x1.my, x1.port, c1, c2, 18, 32, c3, []⟩ : Segm)
theorem s_SynAck_lk (x0 : Door) (x1 : Tupl) (x2 : Segm) : evalFn te (orcOf (P := Try.prog) [s_FirstSeq_e, s_SeqAdd_e, s_AnswerOptions_e]) lorc0 [] Try.f34 (pvs [.st .door, .st .tupl, .st .segm] (x0, x1, x2, ())) =
  s_SynAck_N x0 x1 x2 _ none (fun v => some [(true, [RC.c (.int .i64 v.from_), RC.c (.int .i64 v.to), RC.c (.int .i64 v.seq), RC.c (.int .i64 v.ack), RC.c (.int .i64 v.flags), RC.c (.int .i64 v.window), RC.c (.int .i64 v.opts.mss), RC.c (.int .i64 v.opts.scale), RC.c (.bool v.opts.sack), RC.c (.bool v.opts.stamp), RC.c (.int .i64 v.opts.val), RC.c (.int .i64 v.opts.echo), RC.c (.str v.body)])]) := by kernel_rfl
theorem s_SynAck_p (x0 : Door) (x1 : Tupl) (x2 : Segm) (hx0_port : inK .i64 x0.port) (hx0_clock : inK .i64 x0.clock) (hx0_keys_epoch : inK .i64 x0.keys.epoch) (hx0_keys_now_k : inK .u64 x0.keys.now.k) (hx0_keys_now_l : inK .u64 x0.keys.now.l) (hx0_keys_now_rows : x0.keys.now.rows.length ≤ 140737488355328) (hx0_keys_now_rows_e : ∀ y ∈ x0.keys.now.rows, ∀ c ∈ Ty.cells .macRow y, FactC c) (hx0_keys_before_k : inK .u64 x0.keys.before.k) (hx0_keys_before_l : inK .u64 x0.keys.before.l) (hx0_keys_before_rows : x0.keys.before.rows.length ≤ 140737488355328) (hx0_keys_before_rows_e : ∀ y ∈ x0.keys.before.rows, ∀ c ∈ Ty.cells .macRow y, FactC c) (hx0_limits_halves : inK .i64 x0.limits.halves) (hx0_limits_waiting : inK .i64 x0.limits.waiting) (hx0_limits_conns : inK .i64 x0.limits.conns) (hx0_limits_chal : inK .i64 x0.limits.chal) (hx0_halves : x0.halves.length ≤ 140737488355328) (hx0_table_conns : x0.table.conns.length ≤ 140737488355328) (hx0_table_conns_e : ∀ y ∈ x0.table.conns, ∀ c ∈ Ty.cells .conn y, FactC c) (hx0_table_waiting : x0.table.waiting.length ≤ 140737488355328) (hx0_chal : inK .i64 x0.chal) (hx1_ip : inK .i64 x1.ip) (hx1_port : inK .i64 x1.port) (hx1_my : inK .i64 x1.my) (hx2_from_ : inK .i64 x2.from_) (hx2_to : inK .i64 x2.to) (hx2_seq : inK .i64 x2.seq) (hx2_ack : inK .i64 x2.ack) (hx2_flags : inK .i64 x2.flags) (hx2_window : inK .i64 x2.window) (hx2_opts_mss : inK .i64 x2.opts.mss) (hx2_opts_scale : inK .i64 x2.opts.scale) (hx2_opts_val : inK .i64 x2.opts.val) (hx2_opts_echo : inK .i64 x2.opts.echo) (hx2_body : List.length x2.body ≤ 4611686018427387904) (hp : x0.keys.now.rows.length ≤ 4294967296 ∧ x0.keys.before.rows.length ≤ 4294967296 ∧ x0.halves.length ≤ 4294967296 ∧ x0.table.conns.length ≤ 4294967296 ∧ x0.table.waiting.length ≤ 4294967296 ∧ x2.body.length ≤ 4294967296) (γ : Type) (fail : γ) (k : Segm → γ) : s_SynAck_N x0 x1 x2 γ fail k = k (s_SynAck x0 x1 x2) := by
  unfold s_SynAck_N s_SynAck
  exact bifG (by (try simp only [Nat.ble_eq, Bool.and_eq_true, decide_eq_true_eq]); grind [maxSl, maxStr, toBytes_length, toInts_length, List.length_set, wrap64]) (letT (f := k) (fun c1 hc1 => letT (f := k) (fun c2 hc2 => letT (f := k) (fun c3 hc3 => rfl))))
theorem s_SynAck_c (x0 : Door) (x1 : Tupl) (x2 : Segm) (hp : x0.keys.now.rows.length ≤ 4294967296 ∧ x0.keys.before.rows.length ≤ 4294967296 ∧ x0.halves.length ≤ 4294967296 ∧ x0.table.conns.length ≤ 4294967296 ∧ x0.table.waiting.length ≤ 4294967296 ∧ x2.body.length ≤ 4294967296) : Con Try.prog 34 (pvs [.st .door, .st .tupl, .st .segm] (x0, x1, x2, ())) [rv (.st .segm) [] (s_SynAck x0 x1 x2)] := by
  refine Con.of_facts (enters_of Try.func34 rfl (by kernel_rfl)) fun hf => ?_
  replace hf := factAt hf
  exact evalFn_con0 teFact mixFact (orcOf_ok _) Try.func34 (by kernel_rfl) ((s_SynAck_lk x0 x1 x2).trans (s_SynAck_p x0 x1 x2 ((hf 0 0 rfl rfl).rng) ((hf 0 1 rfl rfl).rng) ((hf 0 2 rfl rfl).rng) ((hf 0 4 rfl rfl).rng) ((hf 0 5 rfl rfl).rng) ((hf 0 6 rfl rfl).len) (fun y hy => (hf 0 6 rfl rfl).elem hy) ((hf 0 8 rfl rfl).rng) ((hf 0 9 rfl rfl).rng) ((hf 0 10 rfl rfl).len) (fun y hy => (hf 0 10 rfl rfl).elem hy) ((hf 0 12 rfl rfl).rng) ((hf 0 13 rfl rfl).rng) ((hf 0 14 rfl rfl).rng) ((hf 0 15 rfl rfl).rng) ((hf 0 16 rfl rfl).len) ((hf 0 17 rfl rfl).len) (fun y hy => (hf 0 17 rfl rfl).elem hy) ((hf 0 18 rfl rfl).len) ((hf 0 19 rfl rfl).rng) ((hf 1 0 rfl rfl).rng) ((hf 1 1 rfl rfl).rng) ((hf 1 2 rfl rfl).rng) ((hf 2 0 rfl rfl).rng) ((hf 2 1 rfl rfl).rng) ((hf 2 2 rfl rfl).rng) ((hf 2 3 rfl rfl).rng) ((hf 2 4 rfl rfl).rng) ((hf 2 5 rfl rfl).rng) ((hf 2 6 rfl rfl).rng) ((hf 2 7 rfl rfl).rng) ((hf 2 10 rfl rfl).rng) ((hf 2 11 rfl rfl).rng) ((hf 2 12 rfl rfl).slen) hp _ _ _))
noncomputable def s_SynAck_e : Ent1 Try.prog := entP 34 [.st .door, .st .tupl, .st .segm] (fun x => (decide (x.1.keys.now.rows.length ≤ 4294967296 ∧ x.1.keys.before.rows.length ≤ 4294967296 ∧ x.1.halves.length ≤ 4294967296 ∧ x.1.table.conns.length ≤ 4294967296 ∧ x.1.table.waiting.length ≤ 4294967296 ∧ x.2.2.1.body.length ≤ 4294967296))) (fun x => (s_SynAck x.1 x.2.1 x.2.2.1)) (fun v => [rv (.st .segm) [] v]) (fun x hx => s_SynAck_c x.1 x.2.1 x.2.2.1 (of_decide_eq_true hx))


/-- impl.SynAck -/
def i_SynAck_N (x0 : Door) (x1 : Tupl) (x2 : Segm) (γ : Type) (fail : γ) (k : Segm → γ) : γ :=
  bif (decide (x0.keys.now.rows.length ≤ 4294967296 ∧ x0.keys.before.rows.length ≤ 4294967296 ∧ x0.halves.length ≤ 4294967296 ∧ x0.table.conns.length ≤ 4294967296 ∧ x0.table.waiting.length ≤ 4294967296 ∧ x2.body.length ≤ 4294967296)) then
  letK (α := Int) (i_FirstSeq x0 x1 x2) fun c1 =>
  letK (α := Int) (i_SeqAdd x2.seq 1) fun c2 =>
  letK (α := Opti) (i_AnswerOptions x2.opts x0.clock) fun c3 =>
  k (⟨x1.my, x1.port, c1, c2, 18, 32, c3, []⟩ : Segm)
  else fail
def i_SynAck (x0 : Door) (x1 : Tupl) (x2 : Segm) : Segm :=
  letK (α := Int) (i_FirstSeq x0 x1 x2) fun c1 =>
  letK (α := Int) (i_SeqAdd x2.seq 1) fun c2 =>
  letK (α := Opti) (i_AnswerOptions x2.opts x0.clock) fun c3 =>
  (⟨x1.my, x1.port, c1, c2, 18, 32, c3, []⟩ : Segm)
theorem i_SynAck_lk (x0 : Door) (x1 : Tupl) (x2 : Segm) : evalFn te (orcOf (P := Try.prog) [i_FirstSeq_e, i_SeqAdd_e, i_AnswerOptions_e]) lorc0 [] Try.f37 (pvs [.st .door, .st .tupl, .st .segm] (x0, x1, x2, ())) =
  i_SynAck_N x0 x1 x2 _ none (fun v => some [(true, [RC.c (.int .i64 v.from_), RC.c (.int .i64 v.to), RC.c (.int .i64 v.seq), RC.c (.int .i64 v.ack), RC.c (.int .i64 v.flags), RC.c (.int .i64 v.window), RC.c (.int .i64 v.opts.mss), RC.c (.int .i64 v.opts.scale), RC.c (.bool v.opts.sack), RC.c (.bool v.opts.stamp), RC.c (.int .i64 v.opts.val), RC.c (.int .i64 v.opts.echo), RC.c (.str v.body)])]) := by kernel_rfl
theorem i_SynAck_p (x0 : Door) (x1 : Tupl) (x2 : Segm) (hx0_port : inK .i64 x0.port) (hx0_clock : inK .i64 x0.clock) (hx0_keys_epoch : inK .i64 x0.keys.epoch) (hx0_keys_now_k : inK .u64 x0.keys.now.k) (hx0_keys_now_l : inK .u64 x0.keys.now.l) (hx0_keys_now_rows : x0.keys.now.rows.length ≤ 140737488355328) (hx0_keys_now_rows_e : ∀ y ∈ x0.keys.now.rows, ∀ c ∈ Ty.cells .macRow y, FactC c) (hx0_keys_before_k : inK .u64 x0.keys.before.k) (hx0_keys_before_l : inK .u64 x0.keys.before.l) (hx0_keys_before_rows : x0.keys.before.rows.length ≤ 140737488355328) (hx0_keys_before_rows_e : ∀ y ∈ x0.keys.before.rows, ∀ c ∈ Ty.cells .macRow y, FactC c) (hx0_limits_halves : inK .i64 x0.limits.halves) (hx0_limits_waiting : inK .i64 x0.limits.waiting) (hx0_limits_conns : inK .i64 x0.limits.conns) (hx0_limits_chal : inK .i64 x0.limits.chal) (hx0_halves : x0.halves.length ≤ 140737488355328) (hx0_table_conns : x0.table.conns.length ≤ 140737488355328) (hx0_table_conns_e : ∀ y ∈ x0.table.conns, ∀ c ∈ Ty.cells .conn y, FactC c) (hx0_table_waiting : x0.table.waiting.length ≤ 140737488355328) (hx0_chal : inK .i64 x0.chal) (hx1_ip : inK .i64 x1.ip) (hx1_port : inK .i64 x1.port) (hx1_my : inK .i64 x1.my) (hx2_from_ : inK .i64 x2.from_) (hx2_to : inK .i64 x2.to) (hx2_seq : inK .i64 x2.seq) (hx2_ack : inK .i64 x2.ack) (hx2_flags : inK .i64 x2.flags) (hx2_window : inK .i64 x2.window) (hx2_opts_mss : inK .i64 x2.opts.mss) (hx2_opts_scale : inK .i64 x2.opts.scale) (hx2_opts_val : inK .i64 x2.opts.val) (hx2_opts_echo : inK .i64 x2.opts.echo) (hx2_body : List.length x2.body ≤ 4611686018427387904) (hp : x0.keys.now.rows.length ≤ 4294967296 ∧ x0.keys.before.rows.length ≤ 4294967296 ∧ x0.halves.length ≤ 4294967296 ∧ x0.table.conns.length ≤ 4294967296 ∧ x0.table.waiting.length ≤ 4294967296 ∧ x2.body.length ≤ 4294967296) (γ : Type) (fail : γ) (k : Segm → γ) : i_SynAck_N x0 x1 x2 γ fail k = k (i_SynAck x0 x1 x2) := by
  unfold i_SynAck_N i_SynAck
  exact bifG (by (try simp only [Nat.ble_eq, Bool.and_eq_true, decide_eq_true_eq]); grind [maxSl, maxStr, toBytes_length, toInts_length, List.length_set, wrap64]) (letT (f := k) (fun c1 hc1 => letT (f := k) (fun c2 hc2 => letT (f := k) (fun c3 hc3 => rfl))))
theorem i_SynAck_c (x0 : Door) (x1 : Tupl) (x2 : Segm) (hp : x0.keys.now.rows.length ≤ 4294967296 ∧ x0.keys.before.rows.length ≤ 4294967296 ∧ x0.halves.length ≤ 4294967296 ∧ x0.table.conns.length ≤ 4294967296 ∧ x0.table.waiting.length ≤ 4294967296 ∧ x2.body.length ≤ 4294967296) : Con Try.prog 37 (pvs [.st .door, .st .tupl, .st .segm] (x0, x1, x2, ())) [rv (.st .segm) [] (i_SynAck x0 x1 x2)] := by
  refine Con.of_facts (enters_of Try.func37 rfl (by kernel_rfl)) fun hf => ?_
  replace hf := factAt hf
  exact evalFn_con0 teFact mixFact (orcOf_ok _) Try.func37 (by kernel_rfl) ((i_SynAck_lk x0 x1 x2).trans (i_SynAck_p x0 x1 x2 ((hf 0 0 rfl rfl).rng) ((hf 0 1 rfl rfl).rng) ((hf 0 2 rfl rfl).rng) ((hf 0 4 rfl rfl).rng) ((hf 0 5 rfl rfl).rng) ((hf 0 6 rfl rfl).len) (fun y hy => (hf 0 6 rfl rfl).elem hy) ((hf 0 8 rfl rfl).rng) ((hf 0 9 rfl rfl).rng) ((hf 0 10 rfl rfl).len) (fun y hy => (hf 0 10 rfl rfl).elem hy) ((hf 0 12 rfl rfl).rng) ((hf 0 13 rfl rfl).rng) ((hf 0 14 rfl rfl).rng) ((hf 0 15 rfl rfl).rng) ((hf 0 16 rfl rfl).len) ((hf 0 17 rfl rfl).len) (fun y hy => (hf 0 17 rfl rfl).elem hy) ((hf 0 18 rfl rfl).len) ((hf 0 19 rfl rfl).rng) ((hf 1 0 rfl rfl).rng) ((hf 1 1 rfl rfl).rng) ((hf 1 2 rfl rfl).rng) ((hf 2 0 rfl rfl).rng) ((hf 2 1 rfl rfl).rng) ((hf 2 2 rfl rfl).rng) ((hf 2 3 rfl rfl).rng) ((hf 2 4 rfl rfl).rng) ((hf 2 5 rfl rfl).rng) ((hf 2 6 rfl rfl).rng) ((hf 2 7 rfl rfl).rng) ((hf 2 10 rfl rfl).rng) ((hf 2 11 rfl rfl).rng) ((hf 2 12 rfl rfl).slen) hp _ _ _))
noncomputable def i_SynAck_e : Ent1 Try.prog := entP 37 [.st .door, .st .tupl, .st .segm] (fun x => (decide (x.1.keys.now.rows.length ≤ 4294967296 ∧ x.1.keys.before.rows.length ≤ 4294967296 ∧ x.1.halves.length ≤ 4294967296 ∧ x.1.table.conns.length ≤ 4294967296 ∧ x.1.table.waiting.length ≤ 4294967296 ∧ x.2.2.1.body.length ≤ 4294967296))) (fun x => (i_SynAck x.1 x.2.1 x.2.2.1)) (fun v => [rv (.st .segm) [] v]) (fun x hx => i_SynAck_c x.1 x.2.1 x.2.2.1 (of_decide_eq_true hx))



theorem s_WordOk_eq (n b : Int) : s_WordOk n b = bif s_l1In b 1 62 then s_l1In n 0 (IntKind.wrap .i64 ((IntKind.wrap .i64 (1 * 2 ^ (min (IntKind.wrap .u64 b).toNat 64))) - 1)) else false := by
  simp only [s_WordOk, letK]
theorem i_WordOk_eq (n b : Int) : i_WordOk n b = bif i_within b 1 62 then i_within n 0 (IntKind.wrap .i64 ((IntKind.wrap .i64 (1 * 2 ^ (min b.toNat 64))) - 1)) else false := by
  simp only [i_WordOk, letK]
theorem q_WordOk (n b : Int) : s_WordOk n b = i_WordOk n b := by
  rw [s_WordOk_eq, i_WordOk_eq, s_l1In_eq, i_within_eq]
  cases h : (decide (1 ≤ b) && decide (b ≤ 62)) with
  | false => rw [cond_false, cond_false]
  | true =>
    have h1 : 1 ≤ b ∧ b ≤ 62 := by simpa using h
    have h2 : IntKind.u64.wrap b = b := by rw [wrapU_def]; exact Int.emod_eq_of_lt (by omega) (by omega)
    rw [h2, cond_true, cond_true, s_l1In_eq, i_within_eq]


theorem q_within (a b c : Int) : s_l1In a b c = i_within a b c := by rw [s_l1In_eq, i_within_eq]


theorem q_TupleOk (x : Tupl) : s_TupleOk x = i_TupleOk x := by simp only [s_TupleOk, i_TupleOk, q_WordOk]


theorem q_MssOf (x : Int) : s_MssOf x = i_MssOf x := by simp only [s_MssOf, i_MssOf, q_within]


theorem q_mss : i_MssOf 0 = 64 ∧ i_MssOf 1 = 256 ∧ i_MssOf 2 = 536 ∧ i_MssOf 3 = 1024 ∧ i_MssOf 4 = 1300 ∧ i_MssOf 5 = 1400 ∧ i_MssOf 6 = 1440 ∧ i_MssOf 7 = 1460 := by
  simp [i_MssOf, letK, i_within_eq]
theorem q_MssIndex (x : Int) : s_MssIndex x = i_MssIndex x := by
  obtain ⟨h0, h1, h2, h3, h4, h5, h6, h7⟩ := q_mss
  unfold s_MssIndex i_MssIndex
  simp only [show Int.toNat (8 - 0) = 8 from rfl, show Int.toNat (7 - 0) = 7 from rfl, forN, s_MssIndex_L0_f, i_MssIndex_L0_f, letK, q_MssOf]
  simp only [show (0 : Int) + 1 = 1 from rfl, show (1 : Int) + 1 = 2 from rfl, show (2 : Int) + 1 = 3 from rfl, show (3 : Int) + 1 = 4 from rfl, show (4 : Int) + 1 = 5 from rfl, show (5 : Int) + 1 = 6 from rfl, show (6 : Int) + 1 = 7 from rfl,
    show (7 : Int) + -1 = 6 from rfl, show (6 : Int) + -1 = 5 from rfl, show (5 : Int) + -1 = 4 from rfl, show (4 : Int) + -1 = 3 from rfl, show (3 : Int) + -1 = 2 from rfl, show (2 : Int) + -1 = 1 from rfl, h0, h1, h2, h3, h4, h5, h6, h7]
  rcases Int.lt_or_le x 64 with g | g
  · simp [show ¬ (64 ≤ x) by omega, show ¬ (256 ≤ x) by omega, show ¬ (536 ≤ x) by omega, show ¬ (1024 ≤ x) by omega, show ¬ (1300 ≤ x) by omega, show ¬ (1400 ≤ x) by omega, show ¬ (1440 ≤ x) by omega, show ¬ (1460 ≤ x) by omega, Stp.elim]
  rcases Int.lt_or_le x 256 with g1 | g1
  · simp [g, show ¬ (256 ≤ x) by omega, show ¬ (536 ≤ x) by omega, show ¬ (1024 ≤ x) by omega, show ¬ (1300 ≤ x) by omega, show ¬ (1400 ≤ x) by omega, show ¬ (1440 ≤ x) by omega, show ¬ (1460 ≤ x) by omega, Stp.elim]
  rcases Int.lt_or_le x 536 with g2 | g2
  · simp [g, g1, show ¬ (536 ≤ x) by omega, show ¬ (1024 ≤ x) by omega, show ¬ (1300 ≤ x) by omega, show ¬ (1400 ≤ x) by omega, show ¬ (1440 ≤ x) by omega, show ¬ (1460 ≤ x) by omega, Stp.elim]
  rcases Int.lt_or_le x 1024 with g3 | g3
  · simp [g, g1, g2, show ¬ (1024 ≤ x) by omega, show ¬ (1300 ≤ x) by omega, show ¬ (1400 ≤ x) by omega, show ¬ (1440 ≤ x) by omega, show ¬ (1460 ≤ x) by omega, Stp.elim]
  rcases Int.lt_or_le x 1300 with g4 | g4
  · simp [g, g1, g2, g3, show ¬ (1300 ≤ x) by omega, show ¬ (1400 ≤ x) by omega, show ¬ (1440 ≤ x) by omega, show ¬ (1460 ≤ x) by omega, Stp.elim]
  rcases Int.lt_or_le x 1400 with g5 | g5
  · simp [g, g1, g2, g3, g4, show ¬ (1400 ≤ x) by omega, show ¬ (1440 ≤ x) by omega, show ¬ (1460 ≤ x) by omega, Stp.elim]
  rcases Int.lt_or_le x 1440 with g6 | g6
  · simp [g, g1, g2, g3, g4, g5, show ¬ (1440 ≤ x) by omega, show ¬ (1460 ≤ x) by omega, Stp.elim]
  rcases Int.lt_or_le x 1460 with g7 | g7
  · simp [g, g1, g2, g3, g4, g5, g6, show ¬ (1460 ≤ x) by omega, Stp.elim]
  · simp [g, g1, g2, g3, g4, g5, g6, g7, Stp.elim]


theorem l4Rest_eq (x : Int) : s_l4Rest x = x % 4294967296 := by
  unfold s_l4Rest
  rcases Int.lt_or_le x 0 with h | h
  · rw [(tmod_pos 4294967296).2 h, wrap64_def]
    cases hd : decide (-(-x % 4294967296) < 0) with
    | true => simp only [decide_eq_true_eq] at hd; simp only [cond_true]; omega
    | false => simp only [decide_eq_false_iff_not] at hd; simp only [cond_false]; omega
  · rw [(tmod_pos 4294967296).1 h, wrap64_def]
    cases hd : decide (x % 4294967296 < 0) with
    | true => simp only [decide_eq_true_eq] at hd; omega
    | false => rfl


theorem iSeqAdd_eq (a b : Int) : i_SeqAdd a b = (a + b) % 4294967296 := by
  unfold i_SeqAdd
  rw [i64_mask32, wrap64_def]; omega
theorem q_SeqAdd (a b : Int) : s_SeqAdd a b = i_SeqAdd a b := by
  rw [iSeqAdd_eq]
  simp only [s_SeqAdd, letK, l4Rest_eq, wrap64_def]; omega


theorem forN_congrI {A W : Type} {f g : Int → A → Stp A W} {st : Int} {P : A → Prop} (h : ∀ i a, P a → f i a = g i a) (hp : ∀ i a a', P a → f i a = .next a' → P a') : ∀ (k : Nat) (i : Int) (a : A), P a → forN f st k i a = forN g st k i a
  | 0, _, _, _ => rfl
  | k + 1, i, a, ha => by
    simp only [forN, ← h i a ha]
    cases hf : f i a with
    | out w => rfl
    | next a' => simp only [Stp.elim]; exact forN_congrI h hp k _ _ (hp i a a' ha hf)


theorem q_PutWord (n b : Int) : s_PutWord n b = i_PutWord n b := by
  unfold s_PutWord i_PutWord
  simp only [letK, q_within, q_WordOk]
  cases h1 : i_within b 1 6 with
  | false => rfl
  | true =>
    simp only [Bool.not_true, cond_false]
    cases h2 : i_WordOk n (IntKind.wrap .i64 (8 * b)) with
    | false => rfl
    | true =>
      simp only [Bool.not_true, cond_false]
      have hb : 0 ≤ n ∧ n ≤ 9223372036854775807 := by
        rw [i_WordOk_eq, i_within_eq, i_within_eq] at h2
        revert h2
        cases (decide (1 ≤ IntKind.wrap .i64 (8 * b)) && decide (IntKind.wrap .i64 (8 * b) ≤ 62)) with
        | false => simp
        | true =>
          simp only [cond_true, Bool.and_eq_true, decide_eq_true_eq]
          generalize (IntKind.wrap .i64 (1 * 2 ^ (min (IntKind.wrap .i64 (8 * b)).toNat 64))) = z
          rw [wrap64_def]
          omega
      have e : ∀ k i r, forN s_PutWord_L0_f (-1) k i (n, r) = forN i_PutWord_L0_f (-1) k i (n, r) := by
       intro k i r
       refine forN_congrI (P := fun a => 0 ≤ a.1 ∧ a.1 ≤ 9223372036854775807) (fun i a ha => ?_) (fun i a a' ha he => ?_) k i (n, r) hb
       · unfold s_PutWord_L0_f i_PutWord_L0_f
         rw [(tdiv_pos 256).1 ha.1, (tmod_pos 256).1 ha.1, wrap64 (by omega) (by omega), Int.fdiv_eq_ediv_of_nonneg a.1 (by omega), wrap8_def, wrap8_def, Int.emod_emod]
       · unfold s_PutWord_L0_f at he
         cases he
         show 0 ≤ IntKind.wrap .i64 (a.1.tdiv 256) ∧ _
         rw [(tdiv_pos 256).1 ha.1, wrap64 (by omega) (by omega)]
         omega
      rw [e]
      all_goals rfl


theorem q_MacInput (x : Tupl) (a b c : Int) : s_MacInput x a b c = i_MacInput x a b c := by simp only [s_MacInput, i_MacInput, q_PutWord, q_TupleOk, q_WordOk, q_within]


theorem factFl (f : Fl) : FactC (f.cell f.zero) := by
  cases f with
  | int k => exact .int _ _ (by cases k <;> exact ⟨by decide, by decide⟩)
  | bool => exact .bool _
  | str => exact .str _ (Nat.zero_le _)
  | sl t => exact .sl _ _ (Nat.zero_le _) (fun x hx => nomatch hx)
theorem factZeroH : ∀ (fs : List Fl), ∀ c ∈ cellsH fs (zeroH fs), FactC c
  | [], c, hc => nomatch hc
  | f :: fs, c, hc => by
    rcases List.mem_cons.1 hc with rfl | h
    · exact factFl f
    · exact factZeroH fs c h
theorem factZero (t : Ty) : ∀ c ∈ Ty.cells t (Ty.zero t), FactC c := by
  have : Ty.cells t (Ty.zero t) = cellsH t.fl (zeroH t.fl) := by simp only [Ty.cells, Ty.zero, Ty.toH_ofH]
  rw [this]
  exact factZeroH _

theorem toTuple_eq (x : Tupl) : w_toTuple x = x := by
  first | rfl | simp only [w_toTuple, letK] | (simp [w_toTuple, letK])

theorem w_szHalfS_sm (x0 : List Half) (x1 : Int) (hn : 0 ≤ x1 ∧ x1 ≤ 1048576) (hx0 : x0.length ≤ 140737488355328) : 0 ≤ w_szHalfS x0 x1 → w_szHalfS x0 x1 ≤ 1048576 ∧ x0.length ≤ 1048576 := by
  unfold w_szHalfS
  rw [wrap64 (by omega) (by omega)]
  cases hd : decide (x1 - (x0.length : Int) < 0) with
  | true => intro h; simp only [cond_true] at h; omega
  | false =>
    simp only [decide_eq_false_iff_not] at hd
    simp only [cond_false]
    intro h; omega

theorem toLimits_eq (x : Limi) : w_toLimits x = x := by
  first | rfl | simp only [w_toLimits, letK] | (simp [w_toLimits, letK])

theorem eqLimits_refl (x : Limi) : w_eqLimits x x = true := by simp [w_eqLimits, letK]

theorem toOptions_eq (x : Opti) : w_toOptions x = x := by
  first | rfl | simp only [w_toOptions, letK] | (simp [w_toOptions, letK])

theorem eqOptions_refl (x : Opti) : w_eqOptions x x = true := by simp [w_eqOptions, letK]

theorem w_szTupleS_sm (x0 : List Tupl) (x1 : Int) (hn : 0 ≤ x1 ∧ x1 ≤ 1048576) (hx0 : x0.length ≤ 140737488355328) : 0 ≤ w_szTupleS x0 x1 → w_szTupleS x0 x1 ≤ 1048576 ∧ x0.length ≤ 1048576 := by
  unfold w_szTupleS
  rw [wrap64 (by omega) (by omega)]
  cases hd : decide (x1 - (x0.length : Int) < 0) with
  | true => intro h; simp only [cond_true] at h; omega
  | false =>
    simp only [decide_eq_false_iff_not] at hd
    simp only [cond_false]
    intro h; omega

theorem toHalf_eq (x : Half) : w_toHalf x = x := by
  first | rfl | simp only [w_toHalf, letK, toTuple_eq, toOptions_eq] | (simp [w_toHalf, letK, toTuple_eq, toOptions_eq])

theorem toTupleS_eq (xs : List Tupl) : w_toTupleS xs = xs := by
  unfold w_toTupleS
  try simp only [letK_eq]
  rw [toNat_sub0, forN_list xs _ rfl (F := fun j x a => .next (a.set j x)) (by
    intro j x a h
    simp only [w_toTupleS_L0_f, letK_eq, toNat_cast, getD_some h, toTuple_eq])]
  have := fun r hr => listN_fill (W := Empty) (fun x => x) xs 0 r hr
  rw [this _ (by simp)]
  simp [Stp.elim]

theorem w_szMacRowS_sm (x0 : List MacRow) (x1 : Int) (hn : 0 ≤ x1 ∧ x1 ≤ 1048576) (hx0 : x0.length ≤ 140737488355328) (hx0_e : ∀ y ∈ x0, ∀ c ∈ Ty.cells .macRow y, FactC c) : 0 ≤ w_szMacRowS x0 x1 → w_szMacRowS x0 x1 ≤ 1048576 ∧ x0.length ≤ 1048576 := by
  unfold w_szMacRowS
  rw [wrap64 (by omega) (by omega)]
  cases hd : decide (x1 - (x0.length : Int) < 0) with
  | true => intro h; simp only [cond_true] at h; omega
  | false =>
    simp only [decide_eq_false_iff_not] at hd
    simp only [cond_false]
    cases hf : forN (w_szMacRowS_L0_f x0) 1 (Int.toNat ((x0.length : Int) - 0)) 0 (x1 - (x0.length : Int)) with
    | out p => intro h; simp only [Stp.elim] at h; omega
    | next a =>
      have h5 : 0 ≤ a ∧ a ≤ 1048576 := by
        refine forN_inv (Inv := fun _ a => 0 ≤ a ∧ a ≤ 1048576) _ _ _ (by omega) (fun j a _ h a2 he => ?_) a hf
        have hq : ∀ y : MacRow, (∀ c ∈ Ty.cells .macRow y, FactC c) → 0 ≤ w_szMacRow y a → w_szMacRow y a ≤ 1048576 := fun y hy h0 => (w_szMacRow_sm y a h (hy (.str y.input) List.mem_cons_self).slen h0).1
        have hz : ∀ c ∈ Ty.cells .macRow (x0.getD (0 + 1 * (j : Int)).toNat (Ty.zero .macRow)), FactC c := getD_all (p := fun y => ∀ c ∈ Ty.cells .macRow y, FactC c) (factZero _) hx0_e _
        unfold w_szMacRowS_L0_f at he
        simp only [letK] at he
        cases hc : decide (w_szMacRow (x0.getD (0 + 1 * (j : Int)).toNat (Ty.zero .macRow)) a < 0) <;> rw [hc] at he <;> cases he
        simp only [decide_eq_false_iff_not] at hc
        exact ⟨by omega, hq _ hz (by omega)⟩
      intro _; simp only [Stp.elim]; omega

theorem eqTuple_refl (x : Tupl) : w_eqTuple x x = true := by simp [w_eqTuple, letK]

theorem toMacRow_eq (x : MacRow) : w_toMacRow x = x := by
  first | rfl | simp only [w_toMacRow, letK] | (simp [w_toMacRow, letK])

theorem toSender_eq (x : Sndr) : w_toSender x = x := by
  first | rfl | simp only [w_toSender, letK] | (simp [w_toSender, letK])

theorem eqMacRow_refl (x : MacRow) : w_eqMacRow x x = true := by simp [w_eqMacRow, letK]

theorem eqSender_refl (x : Sndr) : w_eqSender x x = true := by simp [w_eqSender, letK]

theorem w_szPieceS_sm (x0 : List Piec) (x1 : Int) (hn : 0 ≤ x1 ∧ x1 ≤ 1048576) (hx0 : x0.length ≤ 140737488355328) (hx0_e : ∀ y ∈ x0, ∀ c ∈ Ty.cells .piec y, FactC c) : 0 ≤ w_szPieceS x0 x1 → w_szPieceS x0 x1 ≤ 1048576 ∧ x0.length ≤ 1048576 := by
  unfold w_szPieceS
  rw [wrap64 (by omega) (by omega)]
  cases hd : decide (x1 - (x0.length : Int) < 0) with
  | true => intro h; simp only [cond_true] at h; omega
  | false =>
    simp only [decide_eq_false_iff_not] at hd
    simp only [cond_false]
    cases hf : forN (w_szPieceS_L0_f x0) 1 (Int.toNat ((x0.length : Int) - 0)) 0 (x1 - (x0.length : Int)) with
    | out p => intro h; simp only [Stp.elim] at h; omega
    | next a =>
      have h5 : 0 ≤ a ∧ a ≤ 1048576 := by
        refine forN_inv (Inv := fun _ a => 0 ≤ a ∧ a ≤ 1048576) _ _ _ (by omega) (fun j a _ h a2 he => ?_) a hf
        have hq : ∀ y : Piec, (∀ c ∈ Ty.cells .piec y, FactC c) → 0 ≤ w_szPiece y a → w_szPiece y a ≤ 1048576 := fun y hy h0 => (w_szPiece_sm y a h (hy (.str y.text) (List.mem_cons_of_mem _ List.mem_cons_self)).slen h0).1
        have hz : ∀ c ∈ Ty.cells .piec (x0.getD (0 + 1 * (j : Int)).toNat (Ty.zero .piec)), FactC c := getD_all (p := fun y => ∀ c ∈ Ty.cells .piec y, FactC c) (factZero _) hx0_e _
        unfold w_szPieceS_L0_f at he
        simp only [letK] at he
        cases hc : decide (w_szPiece (x0.getD (0 + 1 * (j : Int)).toNat (Ty.zero .piec)) a < 0) <;> rw [hc] at he <;> cases he
        simp only [decide_eq_false_iff_not] at hc
        exact ⟨by omega, hq _ hz (by omega)⟩
      intro _; simp only [Stp.elim]; omega

theorem toPiece_eq (x : Piec) : w_toPiece x = x := by
  first | rfl | simp only [w_toPiece, letK] | (simp [w_toPiece, letK])

theorem eqPiece_refl (x : Piec) : w_eqPiece x x = true := by simp [w_eqPiece, letK]

theorem rot_eq (x n : Int) (h : bits .and .u64 (IntKind.wrap .u64 n) 63 = n) : mb_RotateLeft64 x n = s_l10Turn x n := by
  simp only [mb_RotateLeft64, s_l10Turn, letK, h]
theorem q_SipRound (x : Sipr) : s_SipRound x = i_SipRound x := by
  simp only [s_SipRound, i_SipRound, rot_eq _ 13 (by decide +kernel), rot_eq _ 16 (by decide +kernel), rot_eq _ 17 (by decide +kernel), rot_eq _ 21 (by decide +kernel), rot_eq _ 32 (by decide +kernel)]

theorem wraps_u64 (n : Int) (h0 : 0 ≤ n) (h1 : n < 2 ^ 64) : IntKind.u64.wrap n = n := by rw [wrapU_def]; omega
theorem or8 (a b : Int) (ha : 0 ≤ a) (ha1 : a < 72057594037927936) (hb : 0 ≤ b) (hb1 : b < 256) : bits .or .u64 (IntKind.wrap .u64 (a * 256)) (IntKind.wrap .u64 b) = a * 256 + b := by
  rw [wraps_u64 _ (by omega) (by omega), wraps_u64 _ (by omega) (by omega)]
  exact bits_join .u64 64 (by decide) wraps_u64 8 _ _ (by omega) (by omega) (by omega) (by omega) (by omega) (by omega)
/-- bytes from the k-th down, as digits -/
def Rd8 (g : Nat → Int) : Nat → Int → Int
  | 0, a => a
  | k + 1, a => Rd8 g k (a * 256 + g k)
theorem Rd8_congr {g h : Nat → Int} : ∀ (k : Nat) (a : Int), (∀ j, j < k → g j = h j) → Rd8 g k a = Rd8 h k a
  | 0, _, _ => rfl
  | k + 1, a, e => by simp only [Rd8, e k (Nat.lt_succ_self _)]; exact Rd8_congr k _ fun j hj => e j (by omega)
theorem Rd8_lin {g : Nat → Int} : ∀ (k : Nat) (a : Int), Rd8 g k a = a * 256 ^ k + Rd8 g k 0
  | 0, a => by simp [Rd8]
  | k + 1, a => by
    simp only [Rd8]
    rw [Rd8_lin k (a * 256 + g k), Rd8_lin k (0 * 256 + g k), Int.pow_succ, Int.add_mul, Int.zero_mul, Int.zero_add, Int.mul_assoc, Int.mul_comm 256 (256 ^ k), Int.add_assoc]
theorem pow256 (k : Nat) : (1 : Int) ≤ 256 ^ k := by
  have := Int.pow_pos (n := 256) (m := k) (by decide)
  omega
theorem Rd8_bd {g : Nat → Int} (hg : ∀ k, 0 ≤ g k ∧ g k ≤ 255) : ∀ (k : Nat), 0 ≤ Rd8 g k 0 ∧ Rd8 g k 0 < 256 ^ k
  | 0 => by simp [Rd8]
  | k + 1 => by
    have h := Rd8_bd hg k
    simp only [Rd8]
    rw [Rd8_lin, Int.zero_mul, Int.zero_add, Int.pow_succ]
    have h1 := hg k
    have h2 := pow256 k
    have h3 : 0 ≤ g k * 256 ^ k := Int.mul_nonneg h1.1 (by omega)
    have h4 : g k * 256 ^ k ≤ 255 * 256 ^ k := Int.mul_le_mul_of_nonneg_right h1.2 (by omega)
    omega
theorem low_forN {f : Int → Int → Stp Int Empty} {g : Nat → Int} (hg : ∀ k, 0 ≤ g k ∧ g k ≤ 255) (hf : ∀ (k : Nat) a, f (k : Int) a = .next (bits .or .u64 (IntKind.wrap .u64 (a * 256)) (IntKind.wrap .u64 (g k)))) :
    ∀ (k : Nat) (a : Int), 0 ≤ a → (a + 1) * 256 ^ k ≤ 18446744073709551616 → forN f (-1) k ((k : Int) - 1) a = .next (Rd8 g k a)
  | 0, a, _, _ => rfl
  | k + 1, a, h0, h1 => by
    have hp := pow256 k
    rw [Int.pow_succ, Int.mul_comm (256 ^ k) 256, ← Int.mul_assoc] at h1
    have h2 : (a + 1) * 256 * 1 ≤ (a + 1) * 256 * 256 ^ k := Int.mul_le_mul_of_nonneg_left hp (by omega)
    have h3 := hg k
    simp only [forN, Rd8]
    rw [show ((k + 1 : Nat) : Int) - 1 = (k : Int) by omega, hf, or8 a (g k) h0 (by omega) h3.1 (by omega)]
    simp only [Stp.elim]
    rw [show (k : Int) + -1 = (k : Int) - 1 by omega]
    refine low_forN hg hf k _ (by omega) ?_
    have h4 : (a * 256 + g k + 1) * 256 ^ k ≤ (a + 1) * 256 * 256 ^ k := Int.mul_le_mul_of_nonneg_right (by omega) (by omega)
    omega
theorem byteAt_le (s : Bytes) (k : Nat) : 0 ≤ byteAt s k ∧ byteAt s k ≤ 255 := byteAt_rng s k
theorem l10Low_eq (s : Bytes) (h : s.length ≤ 8) : s_l10Low s = Rd8 (byteAt s) s.length 0 := by
  unfold s_l10Low
  rw [wrap64 (by omega) (by omega)]
  rw [show Int.toNat ((s.length : Int) - 1 - 0 + 1) = s.length by omega]
  rw [low_forN (g := byteAt s) (byteAt_le s) (fun k a => rfl) s.length 0 (by omega) ?_]
  · rfl
  · have : ∀ k : Nat, k ≤ 8 → (0 + 1 : Int) * 256 ^ k ≤ 18446744073709551616 := by decide
    exact this _ h
theorem little_eq (l : List Int) (h : ∀ k, 0 ≤ l.getD k 0 ∧ l.getD k 0 ≤ 255) : i_little l = Rd8 (fun k => l.getD k 0) 8 0 := by
  unfold i_little
  rw [show Int.toNat (7 - 0 + 1) = 8 from rfl, show (7 : Int) = ((8 : Nat) : Int) - 1 from rfl]
  rw [low_forN (g := fun k => l.getD k 0) h (fun k a => rfl) 8 0 (by omega) (by decide)]
  rfl

/-- laws.szMac -/
def w_szMac_N (x0 : Mac) (x1 : Int) (γ : Type) (fail : γ) (k : Int → γ) : γ :=
  letK (α := Int) (w_szMacRowS x0.rows x1) fun c1 =>
  bif (decide (c1 < 0)) then
    k (-1)
  else
  k c1
def w_szMac (x0 : Mac) (x1 : Int) : Int :=
  letK (α := Int) (w_szMacRowS x0.rows x1) fun c1 =>
  bif (decide (c1 < 0)) then
    (-1)
  else
  c1
theorem w_szMac_lk (x0 : Mac) (x1 : Int) : evalFn te (orcOf (P := Try.prog) [w_szMacRowS_e]) lorc0 [] Try.f119 (pvs [.st .mac, .sc (.int .i64)] (x0, x1, ())) =
  w_szMac_N x0 x1 _ none (fun v => some [(false, [RC.c (.int .i64 v)])]) := by kernel_rfl
theorem w_szMac_p (x0 : Mac) (x1 : Int)   (γ : Type) (fail : γ) (k : Int → γ) : w_szMac_N x0 x1 γ fail k = k (w_szMac x0 x1) := by
  unfold w_szMac_N w_szMac
  exact letT (f := k) (fun c1 hc1 => bifT (f := k) (fun b0 => rfl)
      (fun b0 => rfl))
theorem w_szMac_c (x0 : Mac) (x1 : Int)  : Con Try.prog 119 (pvs [.st .mac, .sc (.int .i64)] (x0, x1, ())) [rv (.sc (.int .i64)) [] (w_szMac x0 x1)] := by
  exact evalFn_con0 teFact mixFact (orcOf_ok _) Try.func119 (by kernel_rfl) ((w_szMac_lk x0 x1).trans (w_szMac_p x0 x1  _ _ _))
noncomputable def w_szMac_e : Ent1 Try.prog := entA 119 [.st .mac, .sc (.int .i64)] (fun x => (w_szMac x.1 x.2.1)) (fun v => [rv (.sc (.int .i64)) [] v]) (fun x => w_szMac_c x.1 x.2.1)

theorem w_szMac_sm (x0 : Mac) (x1 : Int)  (hn : 0 ≤ x1 ∧ x1 ≤ 1048576) (hx0_rows : x0.rows.length ≤ 140737488355328) (hx0_rows_e : ∀ y ∈ x0.rows, ∀ c ∈ Ty.cells .macRow y, FactC c) : (fun v : Int => 0 ≤ v → v ≤ 1048576 ∧ x0.rows.length ≤ 1048576) (w_szMac x0 x1) := by
  unfold w_szMac
  exact letP (P := (fun v : Int => 0 ≤ v → v ≤ 1048576 ∧ x0.rows.length ≤ 1048576)) (fun c1 hc1 => have kc1 := w_szMacRowS_sm x0.rows x1 (by grind [wrap64]) (by assumption) (by assumption); bifP (P := (fun v : Int => 0 ≤ v → v ≤ 1048576 ∧ x0.rows.length ≤ 1048576)) (fun b0 => (by (try simp only [Nat.ble_eq, Bool.and_eq_true, decide_eq_true_eq]); grind [maxSl, maxStr, toBytes_length, toInts_length, List.length_set, wrap64, w_szMacRowS_sm]))
      (fun b0 => (by (try simp only [Nat.ble_eq, Bool.and_eq_true, decide_eq_true_eq]); grind [maxSl, maxStr, toBytes_length, toInts_length, List.length_set, wrap64, w_szMacRowS_sm])))

/-- laws.szReceiver -/
def w_szReceiver_N (x0 : Recv) (x1 : Int) (γ : Type) (fail : γ) (k : Int → γ) : γ :=
  bif (decide ((IntKind.wrap .i64 (x1 - (x0.data.length : Int))) < 0)) then
    k (-1)
  else
  letK (α := Int) (w_szPieceS x0.held (IntKind.wrap .i64 (x1 - (x0.data.length : Int)))) fun c1 =>
  bif (decide (c1 < 0)) then
    k (-1)
  else
  k c1
def w_szReceiver (x0 : Recv) (x1 : Int) : Int :=
  bif (decide ((IntKind.wrap .i64 (x1 - (x0.data.length : Int))) < 0)) then
    (-1)
  else
  letK (α := Int) (w_szPieceS x0.held (IntKind.wrap .i64 (x1 - (x0.data.length : Int)))) fun c1 =>
  bif (decide (c1 < 0)) then
    (-1)
  else
  c1
theorem w_szReceiver_lk (x0 : Recv) (x1 : Int) : evalFn te (orcOf (P := Try.prog) [w_szPieceS_e]) lorc0 [] Try.f183 (pvs [.st .recv, .sc (.int .i64)] (x0, x1, ())) =
  w_szReceiver_N x0 x1 _ none (fun v => some [(false, [RC.c (.int .i64 v)])]) := by kernel_rfl
theorem w_szReceiver_p (x0 : Recv) (x1 : Int)   (γ : Type) (fail : γ) (k : Int → γ) : w_szReceiver_N x0 x1 γ fail k = k (w_szReceiver x0 x1) := by
  unfold w_szReceiver_N w_szReceiver
  exact bifT (f := k) (fun b0 => rfl)
      (fun b0 => letT (f := k) (fun c1 hc1 => bifT (f := k) (fun b1 => rfl)
      (fun b1 => rfl)))
theorem w_szReceiver_c (x0 : Recv) (x1 : Int)  : Con Try.prog 183 (pvs [.st .recv, .sc (.int .i64)] (x0, x1, ())) [rv (.sc (.int .i64)) [] (w_szReceiver x0 x1)] := by
  exact evalFn_con0 teFact mixFact (orcOf_ok _) Try.func183 (by kernel_rfl) ((w_szReceiver_lk x0 x1).trans (w_szReceiver_p x0 x1  _ _ _))
noncomputable def w_szReceiver_e : Ent1 Try.prog := entA 183 [.st .recv, .sc (.int .i64)] (fun x => (w_szReceiver x.1 x.2.1)) (fun v => [rv (.sc (.int .i64)) [] v]) (fun x => w_szReceiver_c x.1 x.2.1)

theorem w_szReceiver_sm (x0 : Recv) (x1 : Int)  (hn : 0 ≤ x1 ∧ x1 ≤ 1048576) (hx0_data : List.length x0.data ≤ 4611686018427387904) (hx0_held : x0.held.length ≤ 140737488355328) (hx0_held_e : ∀ y ∈ x0.held, ∀ c ∈ Ty.cells .piec y, FactC c) : (fun v : Int => 0 ≤ v → v ≤ 1048576 ∧ List.length x0.data ≤ 1048576 ∧ x0.held.length ≤ 1048576) (w_szReceiver x0 x1) := by
  unfold w_szReceiver
  exact bifP (P := (fun v : Int => 0 ≤ v → v ≤ 1048576 ∧ List.length x0.data ≤ 1048576 ∧ x0.held.length ≤ 1048576)) (fun b0 => (by (try simp only [Nat.ble_eq, Bool.and_eq_true, decide_eq_true_eq]); grind [maxSl, maxStr, toBytes_length, toInts_length, List.length_set, wrap64, w_szPieceS_sm]))
      (fun b0 => letP (P := (fun v : Int => 0 ≤ v → v ≤ 1048576 ∧ List.length x0.data ≤ 1048576 ∧ x0.held.length ≤ 1048576)) (fun c1 hc1 => have kc1 := w_szPieceS_sm x0.held (IntKind.wrap .i64 (x1 - (x0.data.length : Int))) (by grind [wrap64]) (by assumption) (by assumption); bifP (P := (fun v : Int => 0 ≤ v → v ≤ 1048576 ∧ List.length x0.data ≤ 1048576 ∧ x0.held.length ≤ 1048576)) (fun b1 => (by (try simp only [Nat.ble_eq, Bool.and_eq_true, decide_eq_true_eq]); grind [maxSl, maxStr, toBytes_length, toInts_length, List.length_set, wrap64, w_szPieceS_sm]))
      (fun b1 => (by (try simp only [Nat.ble_eq, Bool.and_eq_true, decide_eq_true_eq]); grind [maxSl, maxStr, toBytes_length, toInts_length, List.length_set, wrap64, w_szPieceS_sm]))))

/-- laws.szKeys -/
def w_szKeys_N (x0 : Keys) (x1 : Int) (γ : Type) (fail : γ) (k : Int → γ) : γ :=
  letK (α := Int) (w_szMac x0.now x1) fun c1 =>
  bif (decide (c1 < 0)) then
    k (-1)
  else
  letK (α := Int) (w_szMac x0.before c1) fun c2 =>
  bif (decide (c2 < 0)) then
    k (-1)
  else
  k c2
def w_szKeys (x0 : Keys) (x1 : Int) : Int :=
  letK (α := Int) (w_szMac x0.now x1) fun c1 =>
  bif (decide (c1 < 0)) then
    (-1)
  else
  letK (α := Int) (w_szMac x0.before c1) fun c2 =>
  bif (decide (c2 < 0)) then
    (-1)
  else
  c2
theorem w_szKeys_lk (x0 : Keys) (x1 : Int) : evalFn te (orcOf (P := Try.prog) [w_szMac_e]) lorc0 [] Try.f69 (pvs [.st .keys, .sc (.int .i64)] (x0, x1, ())) =
  w_szKeys_N x0 x1 _ none (fun v => some [(false, [RC.c (.int .i64 v)])]) := by kernel_rfl
theorem w_szKeys_p (x0 : Keys) (x1 : Int)   (γ : Type) (fail : γ) (k : Int → γ) : w_szKeys_N x0 x1 γ fail k = k (w_szKeys x0 x1) := by
  unfold w_szKeys_N w_szKeys
  exact letT (f := k) (fun c1 hc1 => bifT (f := k) (fun b0 => rfl)
      (fun b0 => letT (f := k) (fun c2 hc2 => bifT (f := k) (fun b1 => rfl)
      (fun b1 => rfl))))
theorem w_szKeys_c (x0 : Keys) (x1 : Int)  : Con Try.prog 69 (pvs [.st .keys, .sc (.int .i64)] (x0, x1, ())) [rv (.sc (.int .i64)) [] (w_szKeys x0 x1)] := by
  exact evalFn_con0 teFact mixFact (orcOf_ok _) Try.func69 (by kernel_rfl) ((w_szKeys_lk x0 x1).trans (w_szKeys_p x0 x1  _ _ _))
noncomputable def w_szKeys_e : Ent1 Try.prog := entA 69 [.st .keys, .sc (.int .i64)] (fun x => (w_szKeys x.1 x.2.1)) (fun v => [rv (.sc (.int .i64)) [] v]) (fun x => w_szKeys_c x.1 x.2.1)

theorem w_szKeys_sm (x0 : Keys) (x1 : Int)  (hn : 0 ≤ x1 ∧ x1 ≤ 1048576) (hx0_now_rows : x0.now.rows.length ≤ 140737488355328) (hx0_now_rows_e : ∀ y ∈ x0.now.rows, ∀ c ∈ Ty.cells .macRow y, FactC c) (hx0_before_rows : x0.before.rows.length ≤ 140737488355328) (hx0_before_rows_e : ∀ y ∈ x0.before.rows, ∀ c ∈ Ty.cells .macRow y, FactC c) : (fun v : Int => 0 ≤ v → v ≤ 1048576 ∧ x0.now.rows.length ≤ 1048576 ∧ x0.before.rows.length ≤ 1048576) (w_szKeys x0 x1) := by
  unfold w_szKeys
  exact letP (P := (fun v : Int => 0 ≤ v → v ≤ 1048576 ∧ x0.now.rows.length ≤ 1048576 ∧ x0.before.rows.length ≤ 1048576)) (fun c1 hc1 => have kc1 := w_szMac_sm x0.now x1 (by grind [wrap64]) (by assumption) (by assumption); bifP (P := (fun v : Int => 0 ≤ v → v ≤ 1048576 ∧ x0.now.rows.length ≤ 1048576 ∧ x0.before.rows.length ≤ 1048576)) (fun b0 => (by (try simp only [Nat.ble_eq, Bool.and_eq_true, decide_eq_true_eq]); grind [maxSl, maxStr, toBytes_length, toInts_length, List.length_set, wrap64, w_szMac_sm]))
      (fun b0 => letP (P := (fun v : Int => 0 ≤ v → v ≤ 1048576 ∧ x0.now.rows.length ≤ 1048576 ∧ x0.before.rows.length ≤ 1048576)) (fun c2 hc2 => have kc2 := w_szMac_sm x0.before c1 (by grind [wrap64]) (by assumption) (by assumption); bifP (P := (fun v : Int => 0 ≤ v → v ≤ 1048576 ∧ x0.now.rows.length ≤ 1048576 ∧ x0.before.rows.length ≤ 1048576)) (fun b1 => (by (try simp only [Nat.ble_eq, Bool.and_eq_true, decide_eq_true_eq]); grind [maxSl, maxStr, toBytes_length, toInts_length, List.length_set, wrap64, w_szMac_sm]))
      (fun b1 => (by (try simp only [Nat.ble_eq, Bool.and_eq_true, decide_eq_true_eq]); grind [maxSl, maxStr, toBytes_length, toInts_length, List.length_set, wrap64, w_szMac_sm])))))

/-- laws.szConn -/
def w_szConn_N (x0 : Conn) (x1 : Int) (γ : Type) (fail : γ) (k : Int → γ) : γ :=
  letK (α := Int) (w_szSender x0.s x1) fun c1 =>
  bif (decide (c1 < 0)) then
    k (-1)
  else
  letK (α := Int) (w_szReceiver x0.r c1) fun c2 =>
  bif (decide (c2 < 0)) then
    k (-1)
  else
  k c2
def w_szConn (x0 : Conn) (x1 : Int) : Int :=
  letK (α := Int) (w_szSender x0.s x1) fun c1 =>
  bif (decide (c1 < 0)) then
    (-1)
  else
  letK (α := Int) (w_szReceiver x0.r c1) fun c2 =>
  bif (decide (c2 < 0)) then
    (-1)
  else
  c2
theorem w_szConn_lk (x0 : Conn) (x1 : Int) : evalFn te (orcOf (P := Try.prog) [w_szSender_e, w_szReceiver_e]) lorc0 [] Try.f159 (pvs [.st .conn, .sc (.int .i64)] (x0, x1, ())) =
  w_szConn_N x0 x1 _ none (fun v => some [(false, [RC.c (.int .i64 v)])]) := by kernel_rfl
theorem w_szConn_p (x0 : Conn) (x1 : Int)   (γ : Type) (fail : γ) (k : Int → γ) : w_szConn_N x0 x1 γ fail k = k (w_szConn x0 x1) := by
  unfold w_szConn_N w_szConn
  exact letT (f := k) (fun c1 hc1 => bifT (f := k) (fun b0 => rfl)
      (fun b0 => letT (f := k) (fun c2 hc2 => bifT (f := k) (fun b1 => rfl)
      (fun b1 => rfl))))
theorem w_szConn_c (x0 : Conn) (x1 : Int)  : Con Try.prog 159 (pvs [.st .conn, .sc (.int .i64)] (x0, x1, ())) [rv (.sc (.int .i64)) [] (w_szConn x0 x1)] := by
  exact evalFn_con0 teFact mixFact (orcOf_ok _) Try.func159 (by kernel_rfl) ((w_szConn_lk x0 x1).trans (w_szConn_p x0 x1  _ _ _))
noncomputable def w_szConn_e : Ent1 Try.prog := entA 159 [.st .conn, .sc (.int .i64)] (fun x => (w_szConn x.1 x.2.1)) (fun v => [rv (.sc (.int .i64)) [] v]) (fun x => w_szConn_c x.1 x.2.1)

theorem w_szConn_sm (x0 : Conn) (x1 : Int)  (hn : 0 ≤ x1 ∧ x1 ≤ 1048576) (hx0_s_data : List.length x0.s.data ≤ 4611686018427387904) (hx0_r_data : List.length x0.r.data ≤ 4611686018427387904) (hx0_r_held : x0.r.held.length ≤ 140737488355328) (hx0_r_held_e : ∀ y ∈ x0.r.held, ∀ c ∈ Ty.cells .piec y, FactC c) : (fun v : Int => 0 ≤ v → v ≤ 1048576 ∧ List.length x0.s.data ≤ 1048576 ∧ List.length x0.r.data ≤ 1048576 ∧ x0.r.held.length ≤ 1048576) (w_szConn x0 x1) := by
  unfold w_szConn
  exact letP (P := (fun v : Int => 0 ≤ v → v ≤ 1048576 ∧ List.length x0.s.data ≤ 1048576 ∧ List.length x0.r.data ≤ 1048576 ∧ x0.r.held.length ≤ 1048576)) (fun c1 hc1 => have kc1 := w_szSender_sm x0.s x1 (by grind [wrap64]) (by assumption); bifP (P := (fun v : Int => 0 ≤ v → v ≤ 1048576 ∧ List.length x0.s.data ≤ 1048576 ∧ List.length x0.r.data ≤ 1048576 ∧ x0.r.held.length ≤ 1048576)) (fun b0 => (by (try simp only [Nat.ble_eq, Bool.and_eq_true, decide_eq_true_eq]); grind [maxSl, maxStr, toBytes_length, toInts_length, List.length_set, wrap64, w_szSender_sm, w_szReceiver_sm]))
      (fun b0 => letP (P := (fun v : Int => 0 ≤ v → v ≤ 1048576 ∧ List.length x0.s.data ≤ 1048576 ∧ List.length x0.r.data ≤ 1048576 ∧ x0.r.held.length ≤ 1048576)) (fun c2 hc2 => have kc2 := w_szReceiver_sm x0.r c1 (by grind [wrap64]) (by assumption) (by assumption) (by assumption); bifP (P := (fun v : Int => 0 ≤ v → v ≤ 1048576 ∧ List.length x0.s.data ≤ 1048576 ∧ List.length x0.r.data ≤ 1048576 ∧ x0.r.held.length ≤ 1048576)) (fun b1 => (by (try simp only [Nat.ble_eq, Bool.and_eq_true, decide_eq_true_eq]); grind [maxSl, maxStr, toBytes_length, toInts_length, List.length_set, wrap64, w_szSender_sm, w_szReceiver_sm]))
      (fun b1 => (by (try simp only [Nat.ble_eq, Bool.and_eq_true, decide_eq_true_eq]); grind [maxSl, maxStr, toBytes_length, toInts_length, List.length_set, wrap64, w_szSender_sm, w_szReceiver_sm])))))

/-- laws.szConnS -/
def w_szConnS_ann : List (Nat × Keep) := [(0, ⟨[0, 1, 5], [], false, 0⟩)]
def w_szConnS_L0_sh : Sh := ⟨[(0, false, [.sl .arg .conn]), (1, false, [.int .i64]), (5, false, [.int .i64])], []⟩
def w_szConnS_L0_es : List (Ex × Sh) := [(.ret, ⟨[(1, false, [.int .i64]), (4, false, [.int .i64])], []⟩), (.exit 0, ⟨[(1, false, [.int .i64]), (4, false, [.undef])], []⟩)]
def w_szConnS_L0_mk (v0 : List Conn) (v1 : Int) (v2 : Int) : w_szConnS_L0_sh.T := (((v0, ()), ((v1, ()), ((v2, ()), ()))), ())
def w_szConnS_L0_mx0 (y0 : Int) (y1 : Int) : Sh.T ⟨[(1, false, [.int .i64]), (4, false, [.int .i64])], []⟩ := (((y0, ()), ((y1, ()), ())), ())
def w_szConnS_L0_mx1 (y0 : Int) : Sh.T ⟨[(1, false, [.int .i64]), (4, false, [.undef])], []⟩ := (((y0, ()), (((), ()), ())), ())
def w_szConnS_L0_B (v0 : List Conn) (v1 : Int) (v2 : Int) (γ : Type) (fail : γ) (next : w_szConnS_L0_sh.T → γ) (out : WT w_szConnS_L0_es → γ) : γ :=
  bif (decide (v2 < (v0.length : Int))) then
    bif ((decide (0 ≤ v2)) && (decide (v2 < (v0.length : Int)))) then
    letK (α := Int) (w_szConn (v0.getD v2.toNat (Ty.zero .conn)) v1) fun c1 =>
    bif (decide (c1 < 0)) then
      out (Sum.inl (w_szConnS_L0_mx0 c1 (-1)))
    else
    next (w_szConnS_L0_mk v0 c1 (IntKind.wrap .i64 (v2 + 1)))
    else fail
  else
  out (Sum.inr (w_szConnS_L0_mx1 v1))
theorem w_szConnS_L0_par (v0 : List Conn) (v1 : Int) (v2 : Int) (γ : Type) (fail : γ) (next : w_szConnS_L0_sh.T → γ) (out : WT w_szConnS_L0_es → γ) : w_szConnS_L0_B v0 v1 v2 γ fail next out = optK (w_szConnS_L0_B v0 v1 v2 _ none (fun v' => some (.inl v')) (fun w => some (.inr w))) fail (fun r => Sum.elim next out r) := by
  unfold w_szConnS_L0_B
  exact bifT (f := (fun o => optK o fail (fun r => Sum.elim next out r))) (fun _ => bifT (f := (fun o => optK o fail (fun r => Sum.elim next out r))) (fun _ => letT (f := (fun o => optK o fail (fun r => Sum.elim next out r))) (fun c1 _ => bifT (f := (fun o => optK o fail (fun r => Sum.elim next out r))) (fun _ => rfl)
      (fun _ => rfl))) (fun _ => rfl))
      (fun _ => rfl)
def w_szConnS_L0_r : Round w_szConnS_L0_sh.T (WT w_szConnS_L0_es) where
  B v γ fail next out := w_szConnS_L0_B v.1.1.1 v.1.2.1.1 v.1.2.2.1.1 γ fail next out
  par v γ fail next out := w_szConnS_L0_par v.1.1.1 v.1.2.1.1 v.1.2.2.1.1 γ fail next out
def w_szConnS_L0_fu (v0 : List Conn) (v1 : Int) (v2 : Int) : Nat := (Int.toNat ((v0.length : Int) - v2)) + 1
theorem w_szConnS_L0_lk (v : w_szConnS_L0_sh.T) (next : St → Option Res) (k : Ex → St → Option Res) : evalK te (orcOf (P := Try.prog) [w_szConn_e]) (lorcOf []) Try.f120.ntmps w_szConnS_ann (nthLoop (bodyOf Try.f120) 0 0) 0 (w_szConnS_L0_sh.enc v) (endK ⟨[0, 1, 5], [], false, 0⟩ ⟨[1, 4], [], false, 0⟩ next k) =
  w_szConnS_L0_r.B v _ none (fun v' => next (w_szConnS_L0_sh.enc v')) (fun w => outK w_szConnS_L0_es k w) := by kernel_rfl
def w_szConnS_L0_le : LE := leOf 0 w_szConnS_L0_sh w_szConnS_L0_es w_szConnS_L0_r.step (fun v => w_szConnS_L0_fu v.1.1.1 v.1.2.1.1 v.1.2.2.1.1)
theorem w_szConnS_L0_ls (w0 : World) (mo : Mts) (I0 : Nat → Prop) (hmo : mo.length = 0) : LSem Try.prog (Sim w0 mo Try.f120.ntmps I0) (fun b s k => match Nat.beq 0 b with | true => w_szConnS_L0_le.run s k | false => none) 0 (nthLoop (bodyOf Try.f120) 0 0) :=
  le_sem hmo (lorc := lorcOf []) (ann := w_szConnS_ann) (keep := ⟨[0, 1, 5], [], false, 0⟩) (kout := ⟨[1, 4], [], false, 0⟩) teFact mixFact (orcOf_ok _) (by kernel_rfl) (allLoops_of (bs := []) (by kernel_rfl) trivial) w_szConnS_L0_r _ w_szConnS_L0_lk
def w_szConnS_L0_f (v0 : List Conn) (v2 : Int) (a : Int) : Stp (Int) ((Int)) :=
  letK (α := Int) (w_szConn (v0.getD v2.toNat (Ty.zero .conn)) a) fun c1 =>
  bif (decide (c1 < 0)) then
    .out (c1)
  else
  .next c1
theorem w_szConnS_L0_st (v0 : List Conn) (v1 : Int) (v2 : Int) (hlo : 0 ≤ v2) (hhi : v2 < (v0.length : Int)) (hN : (v0.length : Int) ≤ 4611686018427387904) : w_szConnS_L0_r.step (w_szConnS_L0_mk v0 v1 v2) = Stp.elim (fun a' : Int => some (Sum.inl (w_szConnS_L0_mk v0 a' (v2 + 1)))) (fun w => some (Sum.inr ((fun p : Int => Sum.inl (w_szConnS_L0_mx0 p (-1))) w))) (w_szConnS_L0_f v0 v2 v1) := by
  have hw : (IntKind.wrap .i64 (v2 + 1)) = v2 + 1 := wrap64 (by omega) (by omega)
  show w_szConnS_L0_B v0 v1 v2 (Option (w_szConnS_L0_sh.T ⊕ WT w_szConnS_L0_es)) none (fun v' => some (Sum.inl v')) (fun w => some (Sum.inr w)) = _
  unfold w_szConnS_L0_B w_szConnS_L0_f
  exact bifG (by simp only [decide_eq_true_eq]; omega) (bifG (by (try simp only [Nat.ble_eq, Bool.and_eq_true, decide_eq_true_eq]); grind [maxSl, maxStr, toBytes_length, toInts_length, List.length_set, wrap64, w_szConn_sm]) (letT (f := (Stp.elim (fun a' : Int => some (Sum.inl (w_szConnS_L0_mk v0 a' (v2 + 1)))) (fun w => some (Sum.inr ((fun p : Int => Sum.inl (w_szConnS_L0_mx0 p (-1))) w))))) (fun c1 hc1 => bifT (f := (Stp.elim (fun a' : Int => some (Sum.inl (w_szConnS_L0_mk v0 a' (v2 + 1)))) (fun w => some (Sum.inr ((fun p : Int => Sum.inl (w_szConnS_L0_mx0 p (-1))) w))))) (fun b0 => rfl)
      (fun b0 => (by exact congrArg (fun z => some (Sum.inl (w_szConnS_L0_mk v0 c1 z))) hw)))))
theorem w_szConnS_L0_cl (v0 : List Conn) (v1 : Int) (v2 : Int) (h0 : 0 ≤ v2) (h1 : (v0.length : Int) ≤ 4611686018427387904) : loopF w_szConnS_L0_r.step (w_szConnS_L0_fu v0 v1 v2) (w_szConnS_L0_mk v0 v1 v2) = some (Stp.elim (fun a => (fun i a => Sum.inr (w_szConnS_L0_mx1 a)) (v2 + 1 * (((Int.toNat ((v0.length : Int) - v2)) : Nat) : Int)) a) (fun p : Int => Sum.inl (w_szConnS_L0_mx0 p (-1))) (forN (w_szConnS_L0_f v0) 1 (Int.toNat ((v0.length : Int) - v2)) v2 v1)) :=
  forN_loop (step := w_szConnS_L0_r.step) (mk := fun v2 a => w_szConnS_L0_mk v0 a v2) (f := w_szConnS_L0_f v0) (e := (fun i a => Sum.inr (w_szConnS_L0_mx1 a))) (emb := (fun p : Int => Sum.inl (w_szConnS_L0_mx0 p (-1)))) (st := 1) (Inv := fun v2 a => True) (Int.toNat ((v0.length : Int) - v2)) v2 v1 _ (Nat.lt_succ_self _) trivial
    (fun j a hj hv => ⟨w_szConnS_L0_st v0 a (v2 + 1 * (j : Int)) (by omega) (by omega) (by omega), fun _ _ => trivial⟩)
    (fun a hv => by
      show w_szConnS_L0_B v0 a (v2 + 1 * (((Int.toNat ((v0.length : Int) - v2)) : Nat) : Int)) (Option (w_szConnS_L0_sh.T ⊕ WT w_szConnS_L0_es)) none (fun v' => some (Sum.inl v')) (fun w => some (Sum.inr w)) = _
      unfold w_szConnS_L0_B
      exact bifN (by simp only [decide_eq_false_iff_not]; omega) rfl)
def w_szConnS_N (x0 : List Conn) (x1 : Int) (γ : Type) (fail : γ) (k : Int → γ) : γ :=
  bif (decide ((IntKind.wrap .i64 (x1 - (x0.length : Int))) < 0)) then
    k (-1)
  else
  optK (loopF w_szConnS_L0_r.step (w_szConnS_L0_fu x0 (IntKind.wrap .i64 (x1 - (x0.length : Int))) 0) (w_szConnS_L0_mk x0 (IntKind.wrap .i64 (x1 - (x0.length : Int))) 0)) fail fun w2 =>
    Sum.elim (fun w2 =>
      k w2.1.2.1.1)
    (fun w2 =>
      k w2.1.1.1) w2
def w_szConnS (x0 : List Conn) (x1 : Int) : Int :=
  bif (decide ((IntKind.wrap .i64 (x1 - (x0.length : Int))) < 0)) then
    (-1)
  else
  Stp.elim (fun a3 =>
    a3)
    (fun p3 =>
      (-1))
    (forN (w_szConnS_L0_f x0) 1 (Int.toNat ((x0.length : Int) - 0)) 0 (IntKind.wrap .i64 (x1 - (x0.length : Int))))
theorem w_szConnS_lk (x0 : List Conn) (x1 : Int) : evalFn te (orcOf (P := Try.prog) [w_szConn_e]) (lorcOf [w_szConnS_L0_le]) w_szConnS_ann Try.f120 (pvs [.sc (.sl .conn), .sc (.int .i64)] (x0, x1, ())) =
  w_szConnS_N x0 x1 _ none (fun v => some [(false, [RC.c (.int .i64 v)])]) := by kernel_rfl
theorem w_szConnS_p (x0 : List Conn) (x1 : Int) (hx0 : x0.length ≤ 140737488355328) (hx0_e : ∀ y ∈ x0, ∀ c ∈ Ty.cells .conn y, FactC c) (hx1 : inK .i64 x1)  (γ : Type) (fail : γ) (k : Int → γ) : w_szConnS_N x0 x1 γ fail k = k (w_szConnS x0 x1) := by
  unfold w_szConnS_N w_szConnS
  exact bifT (f := k) (fun b0 => rfl)
      (fun b0 => loopT (f := k) (w_szConnS_L0_cl x0 (IntKind.wrap .i64 (x1 - (x0.length : Int))) 0 (by (try simp only [Nat.ble_eq, Bool.and_eq_true, decide_eq_true_eq, w_szConnS_L0_mx0, w_szConnS_L0_mx1]); grind [maxSl, maxStr, toBytes_length, toInts_length, List.length_set, wrap64, w_szConn_sm]) (by (try simp only [Nat.ble_eq, Bool.and_eq_true, decide_eq_true_eq, w_szConnS_L0_mx0, w_szConnS_L0_mx1]); grind [maxSl, maxStr, toBytes_length, toInts_length, List.length_set, wrap64, w_szConn_sm])) (fun a3 => rfl)
      (fun p3 => rfl))
theorem w_szConnS_c (x0 : List Conn) (x1 : Int)  : Con Try.prog 120 (pvs [.sc (.sl .conn), .sc (.int .i64)] (x0, x1, ())) [rv (.sc (.int .i64)) [] (w_szConnS x0 x1)] := by
  refine Con.of_facts (enters_of Try.func120 rfl (by kernel_rfl)) fun hf => ?_
  replace hf := factAt hf
  exact evalFn_conL teFact mixFact (orcOf_ok _) Try.func120 (by kernel_rfl) (bs := [0]) (by kernel_rfl) (by kernel_rfl) (fun w0 mo I0 hmo => ⟨lsem_of_lorc (w_szConnS_L0_ls w0 mo I0 hmo) (by kernel_rfl), trivial⟩) ((w_szConnS_lk x0 x1).trans (w_szConnS_p x0 x1 ((hf 0 0 rfl rfl).len) (fun y hy => (hf 0 0 rfl rfl).elem hy) ((hf 1 0 rfl rfl).rng) _ _ _))
noncomputable def w_szConnS_e : Ent1 Try.prog := entA 120 [.sc (.sl .conn), .sc (.int .i64)] (fun x => (w_szConnS x.1 x.2.1)) (fun v => [rv (.sc (.int .i64)) [] v]) (fun x => w_szConnS_c x.1 x.2.1)


theorem toSegment_eq (x : Segm) : w_toSegment x = x := by
  first | rfl | simp only [w_toSegment, letK, toOptions_eq] | (simp [w_toSegment, letK, toOptions_eq])

theorem eqSegment_refl (x : Segm) : w_eqSegment x x = true := by simp [w_eqSegment, letK, eqOptions_refl]

theorem toHalfS_eq (xs : List Half) : w_toHalfS xs = xs := by
  unfold w_toHalfS
  try simp only [letK_eq]
  rw [toNat_sub0, forN_list xs _ rfl (F := fun j x a => .next (a.set j x)) (by
    intro j x a h
    simp only [w_toHalfS_L0_f, letK_eq, toNat_cast, getD_some h, toHalf_eq])]
  have := fun r hr => listN_fill (W := Empty) (fun x => x) xs 0 r hr
  rw [this _ (by simp)]
  simp [Stp.elim]

theorem w_szConnS_sm (x0 : List Conn) (x1 : Int) (hn : 0 ≤ x1 ∧ x1 ≤ 1048576) (hx0 : x0.length ≤ 140737488355328) (hx0_e : ∀ y ∈ x0, ∀ c ∈ Ty.cells .conn y, FactC c) : 0 ≤ w_szConnS x0 x1 → w_szConnS x0 x1 ≤ 1048576 ∧ x0.length ≤ 1048576 ∧ sm_conn x0 = true := by
  unfold w_szConnS
  rw [wrap64 (by omega) (by omega)]
  cases hd : decide (x1 - (x0.length : Int) < 0) with
  | true => intro h; simp only [cond_true] at h; omega
  | false =>
    simp only [decide_eq_false_iff_not] at hd
    simp only [cond_false]
    cases hf : forN (w_szConnS_L0_f x0) 1 (Int.toNat ((x0.length : Int) - 0)) 0 (x1 - (x0.length : Int)) with
    | out p => intro h; simp only [Stp.elim] at h; omega
    | next a =>
      have h5 : (0 ≤ a ∧ a ≤ 1048576) ∧ ∀ t : Nat, (t : Int) < 0 + 1 * ((Int.toNat ((x0.length : Int) - 0) : Nat) : Int) → ((x0.getD t (Ty.zero .conn)).s.data).length ≤ 1048576 ∧ ((x0.getD t (Ty.zero .conn)).r.data).length ≤ 1048576 ∧ ((x0.getD t (Ty.zero .conn)).r.held).length ≤ 1048576 := by
        refine forN_inv (Inv := fun j a => (0 ≤ a ∧ a ≤ 1048576) ∧ ∀ t : Nat, (t : Int) < j → ((x0.getD t (Ty.zero .conn)).s.data).length ≤ 1048576 ∧ ((x0.getD t (Ty.zero .conn)).r.data).length ≤ 1048576 ∧ ((x0.getD t (Ty.zero .conn)).r.held).length ≤ 1048576) _ _ _ ⟨by omega, fun t h => by omega⟩ (fun j a hjj h a2 he => ?_) a hf
        have hz : ∀ c ∈ Ty.cells .conn (x0.getD (0 + 1 * (j : Int)).toNat (Ty.zero .conn)), FactC c := getD_all (p := fun y => ∀ c ∈ Ty.cells .conn y, FactC c) (factZero _) hx0_e _
        have hq : ∀ y : Conn, (∀ c ∈ Ty.cells .conn y, FactC c) → 0 ≤ w_szConn y a → w_szConn y a ≤ 1048576 ∧ (y.s.data).length ≤ 1048576 ∧ (y.r.data).length ≤ 1048576 ∧ (y.r.held).length ≤ 1048576 := fun y hy h0 => w_szConn_sm y a h.1 (hy (.str y.s.data) (List.mem_cons_of_mem _ (List.mem_cons_of_mem _ (List.mem_cons_of_mem _ (List.mem_cons_of_mem _ (List.mem_cons_of_mem _ List.mem_cons_self)))))).slen (hy (.str y.r.data) (List.mem_cons_of_mem _ (List.mem_cons_of_mem _ (List.mem_cons_of_mem _ (List.mem_cons_of_mem _ (List.mem_cons_of_mem _ (List.mem_cons_of_mem _ (List.mem_cons_of_mem _ (List.mem_cons_of_mem _ (List.mem_cons_of_mem _ (List.mem_cons_of_mem _ (List.mem_cons_of_mem _ List.mem_cons_self)))))))))))).slen (hy (.sl .piec y.r.held) (List.mem_cons_of_mem _ (List.mem_cons_of_mem _ (List.mem_cons_of_mem _ (List.mem_cons_of_mem _ (List.mem_cons_of_mem _ (List.mem_cons_of_mem _ (List.mem_cons_of_mem _ (List.mem_cons_of_mem _ (List.mem_cons_of_mem _ (List.mem_cons_of_mem _ (List.mem_cons_of_mem _ (List.mem_cons_of_mem _ List.mem_cons_self))))))))))))).len (fun z hz => (hy (.sl .piec y.r.held) (List.mem_cons_of_mem _ (List.mem_cons_of_mem _ (List.mem_cons_of_mem _ (List.mem_cons_of_mem _ (List.mem_cons_of_mem _ (List.mem_cons_of_mem _ (List.mem_cons_of_mem _ (List.mem_cons_of_mem _ (List.mem_cons_of_mem _ (List.mem_cons_of_mem _ (List.mem_cons_of_mem _ (List.mem_cons_of_mem _ List.mem_cons_self))))))))))))).elem hz) h0
        unfold w_szConnS_L0_f at he
        simp only [letK_eq] at he
        cases hc : decide (w_szConn (x0.getD (0 + 1 * (j : Int)).toNat (Ty.zero .conn)) a < 0) <;> rw [hc] at he <;> cases he
        simp only [decide_eq_false_iff_not] at hc
        have h6 := hq _ hz (by omega)
        refine ⟨⟨by omega, h6.1⟩, fun t ht => ?_⟩
        rcases (show (t : Int) < 0 + 1 * (j : Int) ∨ t = j by omega) with h7 | h7
        · exact h.2 t h7
        · subst h7
          have h8 := h6.2
          rw [show (0 + 1 * (t : Int)).toNat = t by omega] at h8
          exact h8
      rw [toNat_sub0] at h5
      intro _; simp only [Stp.elim]; exact ⟨h5.1.2, by omega, sm_conn_of fun t ht => h5.2 t (by omega)⟩

theorem eqHalf_refl (x : Half) : w_eqHalf x x = true := by simp [w_eqHalf, letK, eqTuple_refl, eqOptions_refl]

theorem eqTupleS_refl (xs : List Tupl) : w_eqTupleS xs xs = true := by
  unfold w_eqTupleS
  rw [toNat_sub0, forN_list xs _ rfl (F := fun j x a => bif (fun _ => false) x then .out () else .next ()) (by
    intro j x a h
    simp [w_eqTupleS_L0_f, letK, toNat_cast, eqTuple_refl])]
  rw [listN_all xs 0 (by simp)]
  simp [Stp.elim]

theorem toMacRowS_eq (xs : List MacRow) : w_toMacRowS xs = xs := by
  unfold w_toMacRowS
  try simp only [letK_eq]
  rw [toNat_sub0, forN_list xs _ rfl (F := fun j x a => .next (a.set j x)) (by
    intro j x a h
    simp only [w_toMacRowS_L0_f, letK_eq, toNat_cast, getD_some h, toMacRow_eq])]
  have := fun r hr => listN_fill (W := Empty) (fun x => x) xs 0 r hr
  rw [this _ (by simp)]
  simp [Stp.elim]

theorem eqMacRowS_refl (xs : List MacRow) : w_eqMacRowS xs xs = true := by
  unfold w_eqMacRowS
  rw [toNat_sub0, forN_list xs _ rfl (F := fun j x a => bif (fun _ => false) x then .out () else .next ()) (by
    intro j x a h
    simp [w_eqMacRowS_L0_f, letK, toNat_cast, eqMacRow_refl])]
  rw [listN_all xs 0 (by simp)]
  simp [Stp.elim]

theorem toPieceS_eq (xs : List Piec) : w_toPieceS xs = xs := by
  unfold w_toPieceS
  try simp only [letK_eq]
  rw [toNat_sub0, forN_list xs _ rfl (F := fun j x a => .next (a.set j x)) (by
    intro j x a h
    simp only [w_toPieceS_L0_f, letK_eq, toNat_cast, getD_some h, toPiece_eq])]
  have := fun r hr => listN_fill (W := Empty) (fun x => x) xs 0 r hr
  rw [this _ (by simp)]
  simp [Stp.elim]

theorem eqPieceS_refl (xs : List Piec) : w_eqPieceS xs xs = true := by
  unfold w_eqPieceS
  rw [toNat_sub0, forN_list xs _ rfl (F := fun j x a => bif (fun _ => false) x then .out () else .next ()) (by
    intro j x a h
    simp [w_eqPieceS_L0_f, letK, toNat_cast, eqPiece_refl])]
  rw [listN_all xs 0 (by simp)]
  simp [Stp.elim]

theorem q_SipWord (x : Sipr) (m : Int) : s_SipWord x m = i_SipWord x m := by
  simp only [s_SipWord, i_SipWord, q_SipRound]
theorem q_SipStart (k l : Int) : s_SipStart k l = i_SipStart k l := by simp only [s_SipStart, i_SipStart]
theorem q_SipEnd (x : Sipr) : s_SipEnd x = i_SipEnd x := by
  simp only [s_SipEnd, i_SipEnd, q_SipRound, show Int.toNat (4 - 0) = 4 from rfl, forN, i_SipEnd_L0_f, letK, Stp.elim]

theorem whileN_sim {A B W W' : Type} [Inhabited W] [Inhabited W'] {f : A → Stp A W} {g : B → Stp B W'} {R : A → B → Prop} {Q : W → W' → Prop} {ma : A → Nat} {mb : B → Nat}
    (h : ∀ a b, R a b → (∃ a' b', f a = .next a' ∧ g b = .next b' ∧ R a' b' ∧ ma a' < ma a ∧ mb b' < mb b) ∨ (∃ w w', f a = .out w ∧ g b = .out w' ∧ Q w w')) :
    ∀ (m m' : Nat) (a : A) (b : B), ma a < m → mb b < m' → R a b → Q (whileN f m a) (whileN g m' b)
  | 0, _, _, _, h1, _, _ => absurd h1 (Nat.not_lt_zero _)
  | _ + 1, 0, _, _, _, h2, _ => absurd h2 (Nat.not_lt_zero _)
  | m + 1, m' + 1, a, b, h1, h2, hr => by
    rcases h a b hr with ⟨a', b', e1, e2, hr', l1, l2⟩ | ⟨w, w', e1, e2, hq⟩
    · simp only [whileN, e1, e2, Stp.elim]
      exact whileN_sim h m m' a' b' (by omega) (by omega) hr'
    · simp only [whileN, e1, e2, Stp.elim]
      exact hq
theorem Rd8_succ {g : Nat → Int} (k : Nat) (a : Int) : Rd8 g (k + 1) a = Rd8 g k (a * 256 + g k) := rfl
theorem gset_len {α : Type} {xs : List α} {j : Nat} (h : j < xs.length) (v z : α) : (xs.set j v).getD j z = v := by
  simp [List.getD, List.getElem?_set, h]
theorem toInts_getD (s : Bytes) (k : Nat) : (toInts s).getD k 0 = byteAt s k := by
  simp only [toInts, byteAt, List.getD, List.getElem?_map]
  cases s[k]? <;> rfl
theorem byteAt_drop (s : Bytes) (n k : Nat) : byteAt (s.drop n) k = byteAt s (n + k) := by
  simp only [byteAt, List.getD, List.getElem?_drop]
theorem byteAt_take (s : Bytes) (n k : Nat) (h : k < n) : byteAt (s.take n) k = byteAt s k := by
  simp only [byteAt, List.getD, List.getElem?_take, if_pos h]
theorem byteAt_over (s : Bytes) (k : Nat) (h : s.length ≤ k) : byteAt s k = 0 := by
  simp [byteAt, List.getD, h]
theorem Rd8_pad {g : Nat → Int} (r : Nat) : ∀ (m : Nat), (∀ j, r ≤ j → j < r + m → g j = 0) → Rd8 g (r + m) 0 = Rd8 g r 0
  | 0, _ => rfl
  | m + 1, h => by
    rw [show r + (m + 1) = (r + m) + 1 from rfl]
    simp only [Rd8]
    rw [h (r + m) (by omega) (by omega)]
    exact Rd8_pad r m fun j h1 h2 => h j h1 (by omega)
theorem bits_or_comm (k : IntKind) (a b : Int) : bits .or k a b = bits .or k b a := by
  simp only [bits, BitVec.or_comm]
def SipR (x : Bytes) (a : Int × Int × Int × Int × Int) (b : List Int × Int × Int × Int × Int) : Prop := 0 ≤ a.1 ∧ a.1 ≤ x.length ∧ b.1 = toInts (x.drop a.1.toNat) ∧ a.2 = b.2
theorem toInts_drop (s : Bytes) (n : Nat) : (toInts s).drop n = toInts (s.drop n) := by simp [toInts]
theorem Sip_loops (x : Bytes) (hx : x.length ≤ 4294967296) (z : Sipr) : SipR x (s_SipHash_L0_w x (x.length : Int) 0 z.a z.b z.c z.d) (i_SipHash_L0_w x (toInts x) z.a z.b z.c z.d) ∧ (x.length : Int) < (s_SipHash_L0_w x (x.length : Int) 0 z.a z.b z.c z.d).1 + 8 := by
    unfold s_SipHash_L0_w i_SipHash_L0_w
    refine whileN_sim (R := SipR x) (Q := fun w w' => SipR x w w' ∧ (x.length : Int) < w.1 + 8) (ma := fun a => Int.toNat ((x.length : Int) - a.1)) (mb := fun b => b.1.length) ?_ _ _ _ _ ?_ ?_ ?_
    · intro a b hr
      obtain ⟨h1, h2, h3, h4⟩ := hr
      have hb : (b.1.length : Int) = (x.length : Int) - a.1 := by rw [h3, toInts_length, List.length_drop]; omega
      unfold s_SipHash_L0_f i_SipHash_L0_f
      rw [wrap64 (by omega) (by omega)]
      cases hd : decide (a.1 + 8 ≤ (x.length : Int)) with
      | true =>
        simp only [decide_eq_true_eq] at hd
        rw [show decide (8 ≤ (b.1.length : Int)) = true by simp only [decide_eq_true_eq]; omega]
        refine .inl ⟨_, _, rfl, rfl, ⟨?_, ?_, ?_, ?_⟩, ?_, ?_⟩
        · simp only []; omega
        · simp only []; omega
        · simp only []
          rw [toNat_cast, List.take_length, h3, toInts_drop, List.drop_drop, show (a.1 + 8).toNat = a.1.toNat + 8 by omega]
        · have e : s_l10Low ((x.take (a.1 + 8).toNat).drop a.1.toNat) = i_little b.1 := by
            have hl : ((x.take (a.1 + 8).toNat).drop a.1.toNat).length = 8 := by rw [List.length_drop, List.length_take]; omega
            rw [l10Low_eq _ (by omega), hl, little_eq _ (fun k => by rw [h3, toInts_getD]; exact byteAt_le _ _)]
            refine Rd8_congr 8 0 fun j hj => ?_
            rw [h3, toInts_getD, byteAt_drop, byteAt_drop, byteAt_take _ _ _ (by omega)]
          simp only [letK, e, h4]
          rw [q_SipWord]
        · simp only []; omega
        · simp only [toNat_cast, List.take_length, List.length_drop]; omega
      | false =>
        simp only [decide_eq_false_iff_not] at hd
        rw [show decide (8 ≤ (b.1.length : Int)) = false by simp only [decide_eq_false_iff_not]; omega]
        exact .inr ⟨_, _, rfl, rfl, ⟨h1, h2, h3, h4⟩, by show (x.length : Int) < a.1 + 8; omega⟩
    · exact Nat.lt_succ_self _
    · exact Nat.lt_succ_self _
    · exact ⟨by simp, by simp, by simp, rfl⟩
theorem Sip_last (x : Bytes) (hx : x.length ≤ 4294967296) (p : Int) (q : List Int) (h1 : 0 ≤ p) (h2 : p ≤ x.length) (h3 : q = toInts (x.drop p.toNat)) (h5 : (x.length : Int) < p + 8) :
    bits .or .u64 (s_l10Low (x.drop p.toNat)) (IntKind.wrap .u64 ((IntKind.wrap .u64 ((x.length : Int).tmod 256)) * 72057594037927936)) = i_little ((q ++ (List.replicate 8 0).drop q.length).set 7 (IntKind.wrap .u8 (x.length : Int))) := by
  have hl : (x.drop p.toNat).length = x.length - p.toNat := by simp
  have hq : q.length = x.length - p.toNat := by rw [h3, toInts_length, hl]
  generalize hy : x.drop p.toNat = y at h3 hl
  have hy8 : y.length ≤ 7 := by omega
  rw [l10Low_eq y (by omega)]
  have hb7 : IntKind.u8.wrap (x.length : Int) = (x.length : Int) % 256 := wrap8_def _
  have hm : IntKind.u64.wrap ((x.length : Int).tmod 256) = (x.length : Int) % 256 := by
    rw [(tmod_pos 256).1 (by omega), wraps_u64 _ (by omega) (by omega)]
  rw [hb7, hm]
  have hg : ∀ k, ((q ++ (List.replicate 8 (0 : Int)).drop q.length).set 7 ((x.length : Int) % 256)).getD k 0 = if k = 7 then (x.length : Int) % 256 else byteAt y k := by
    intro k
    by_cases e : k = 7
    · subst e
      rw [if_pos rfl]
      exact gset_len (by simp; omega) _ _
    · rw [if_neg e, List.getD, List.getElem?_set_ne (by omega)]
      by_cases hk : k < q.length
      · rw [List.getElem?_append_left hk, h3, ← List.getD_eq_getElem?_getD, toInts_getD]
      · rw [List.getElem?_append_right (by omega), List.getElem?_drop, List.getElem?_replicate, byteAt_over y k (by omega)]
        split <;> rfl
  rw [little_eq _ (fun k => by
    rw [hg]
    split
    · omega
    · exact byteAt_le _ _)]
  have hbd := Rd8_bd (g := byteAt y) (byteAt_le y) y.length
  have hp7 : (256 : Int) ^ y.length ≤ 72057594037927936 := by
    have : ∀ k : Nat, k ≤ 7 → (256 : Int) ^ k ≤ 72057594037927936 := by decide
    exact this _ hy8
  have e1 : Rd8 (fun k => ((q ++ (List.replicate 8 (0 : Int)).drop q.length).set 7 ((x.length : Int) % 256)).getD k 0) 8 0 = ((x.length : Int) % 256) * 72057594037927936 + Rd8 (byteAt y) y.length 0 := by
    refine (Rd8_succ 7 0).trans ?_
    rw [hg 7, if_pos rfl, Rd8_lin, Int.zero_mul, Int.zero_add, show (256 : Int) ^ 7 = 72057594037927936 from rfl]
    congr 1
    rw [Rd8_congr 7 0 (h := byteAt y) fun j hj => by rw [hg, if_neg (by omega)]]
    have := Rd8_pad (g := byteAt y) y.length (7 - y.length) fun j h1 _ => byteAt_over y j h1
    rw [show y.length + (7 - y.length) = 7 by omega] at this
    exact this
  rw [e1, bits_or_comm, wraps_u64 ((x.length : Int) % 256 * 72057594037927936) (by omega) (by omega)]
  exact bits_join .u64 64 (by decide) wraps_u64 56 _ _ (by omega) (by omega) (by omega) (by omega) (by omega) (by omega)
theorem s_SipHash_eq (k l : Int) (x : Bytes) : s_SipHash k l x = (fun p : Int × Int × Int × Int × Int => s_SipEnd (s_SipWord ⟨p.2.1, p.2.2.1, p.2.2.2.1, p.2.2.2.2⟩ (bits .or .u64 (s_l10Low ((x.take ((x.length : Int).toNat)).drop p.1.toNat)) (IntKind.wrap .u64 ((IntKind.wrap .u64 ((x.length : Int).tmod 256)) * 72057594037927936))))) (s_SipHash_L0_w x (x.length : Int) 0 (s_SipStart k l).a (s_SipStart k l).b (s_SipStart k l).c (s_SipStart k l).d) := by
  unfold s_SipHash
  simp only [letK_eq]
theorem i_SipHash_eq (k l : Int) (x : Bytes) : i_SipHash k l x = (fun p : List Int × Int × Int × Int × Int => i_SipEnd (i_SipWord ⟨p.2.1, p.2.2.1, p.2.2.2.1, p.2.2.2.2⟩ (i_little (((p.1.take 8) ++ (List.replicate 8 0).drop (p.1.take 8).length).set 7 (IntKind.wrap .u8 (x.length : Int)))))) (i_SipHash_L0_w x (toInts x) (i_SipStart k l).a (i_SipStart k l).b (i_SipStart k l).c (i_SipStart k l).d) := by
  unfold i_SipHash
  simp only [letK_eq, List.length_replicate]
theorem q_SipHash (k l : Int) (x : Bytes) (hx : x.length ≤ 4294967296) : s_SipHash k l x = i_SipHash k l x := by
  rw [s_SipHash_eq, i_SipHash_eq, q_SipStart]
  generalize i_SipStart k l = z
  have key := Sip_loops x hx z
  generalize s_SipHash_L0_w x (x.length : Int) 0 z.a z.b z.c z.d = p at key
  generalize i_SipHash_L0_w x (toInts x) z.a z.b z.c z.d = q at key
  obtain ⟨⟨h1, h2, h3, h4⟩, h5⟩ := key
  have hq : q.1.length = x.length - p.1.toNat := by rw [h3, toInts_length, List.length_drop]
  have ht : q.1.take 8 = q.1 := List.take_of_length_le (by omega)
  simp only [ht, h4]
  rw [q_SipEnd, q_SipWord, show ((x.take (x.length : Int).toNat).drop p.1.toNat) = x.drop p.1.toNat by rw [toNat_cast, List.take_length]]
  rw [Sip_last x hx p.1 q.1 h1 h2 h3 h5]

/-- laws.szTable -/
def w_szTable_N (x0 : Tabl) (x1 : Int) (γ : Type) (fail : γ) (k : Int → γ) : γ :=
  letK (α := Int) (w_szConnS x0.conns x1) fun c1 =>
  bif (decide (c1 < 0)) then
    k (-1)
  else
  letK (α := Int) (w_szTupleS x0.waiting c1) fun c2 =>
  bif (decide (c2 < 0)) then
    k (-1)
  else
  k c2
def w_szTable (x0 : Tabl) (x1 : Int) : Int :=
  letK (α := Int) (w_szConnS x0.conns x1) fun c1 =>
  bif (decide (c1 < 0)) then
    (-1)
  else
  letK (α := Int) (w_szTupleS x0.waiting c1) fun c2 =>
  bif (decide (c2 < 0)) then
    (-1)
  else
  c2
theorem w_szTable_lk (x0 : Tabl) (x1 : Int) : evalFn te (orcOf (P := Try.prog) [w_szConnS_e, w_szTupleS_e]) lorc0 [] Try.f71 (pvs [.st .tabl, .sc (.int .i64)] (x0, x1, ())) =
  w_szTable_N x0 x1 _ none (fun v => some [(false, [RC.c (.int .i64 v)])]) := by kernel_rfl
theorem w_szTable_p (x0 : Tabl) (x1 : Int)   (γ : Type) (fail : γ) (k : Int → γ) : w_szTable_N x0 x1 γ fail k = k (w_szTable x0 x1) := by
  unfold w_szTable_N w_szTable
  exact letT (f := k) (fun c1 hc1 => bifT (f := k) (fun b0 => rfl)
      (fun b0 => letT (f := k) (fun c2 hc2 => bifT (f := k) (fun b1 => rfl)
      (fun b1 => rfl))))
theorem w_szTable_c (x0 : Tabl) (x1 : Int)  : Con Try.prog 71 (pvs [.st .tabl, .sc (.int .i64)] (x0, x1, ())) [rv (.sc (.int .i64)) [] (w_szTable x0 x1)] := by
  exact evalFn_con0 teFact mixFact (orcOf_ok _) Try.func71 (by kernel_rfl) ((w_szTable_lk x0 x1).trans (w_szTable_p x0 x1  _ _ _))
noncomputable def w_szTable_e : Ent1 Try.prog := entA 71 [.st .tabl, .sc (.int .i64)] (fun x => (w_szTable x.1 x.2.1)) (fun v => [rv (.sc (.int .i64)) [] v]) (fun x => w_szTable_c x.1 x.2.1)

theorem w_szTable_sm (x0 : Tabl) (x1 : Int)  (hn : 0 ≤ x1 ∧ x1 ≤ 1048576) (hx0_conns : x0.conns.length ≤ 140737488355328) (hx0_conns_e : ∀ y ∈ x0.conns, ∀ c ∈ Ty.cells .conn y, FactC c) (hx0_waiting : x0.waiting.length ≤ 140737488355328) : (fun v : Int => 0 ≤ v → v ≤ 1048576 ∧ x0.conns.length ≤ 1048576 ∧ x0.waiting.length ≤ 1048576 ∧ sm_conn x0.conns = true) (w_szTable x0 x1) := by
  unfold w_szTable
  exact letP (P := (fun v : Int => 0 ≤ v → v ≤ 1048576 ∧ x0.conns.length ≤ 1048576 ∧ x0.waiting.length ≤ 1048576 ∧ sm_conn x0.conns = true)) (fun c1 hc1 => have kc1 := w_szConnS_sm x0.conns x1 (by grind [wrap64]) (by assumption) (by assumption); bifP (P := (fun v : Int => 0 ≤ v → v ≤ 1048576 ∧ x0.conns.length ≤ 1048576 ∧ x0.waiting.length ≤ 1048576 ∧ sm_conn x0.conns = true)) (fun b0 => (by (try simp only [Nat.ble_eq, Bool.and_eq_true, decide_eq_true_eq]); grind [maxSl, maxStr, toBytes_length, toInts_length, List.length_set, wrap64, w_szConnS_sm, w_szTupleS_sm]))
      (fun b0 => letP (P := (fun v : Int => 0 ≤ v → v ≤ 1048576 ∧ x0.conns.length ≤ 1048576 ∧ x0.waiting.length ≤ 1048576 ∧ sm_conn x0.conns = true)) (fun c2 hc2 => have kc2 := w_szTupleS_sm x0.waiting c1 (by grind [wrap64]) (by assumption); bifP (P := (fun v : Int => 0 ≤ v → v ≤ 1048576 ∧ x0.conns.length ≤ 1048576 ∧ x0.waiting.length ≤ 1048576 ∧ sm_conn x0.conns = true)) (fun b1 => (by (try simp only [Nat.ble_eq, Bool.and_eq_true, decide_eq_true_eq]); grind [maxSl, maxStr, toBytes_length, toInts_length, List.length_set, wrap64, w_szConnS_sm, w_szTupleS_sm]))
      (fun b1 => (by (try simp only [Nat.ble_eq, Bool.and_eq_true, decide_eq_true_eq]); grind [maxSl, maxStr, toBytes_length, toInts_length, List.length_set, wrap64, w_szConnS_sm, w_szTupleS_sm])))))

/-- laws.szDoor -/
def w_szDoor_N (x0 : Door) (x1 : Int) (γ : Type) (fail : γ) (k : Int → γ) : γ :=
  letK (α := Int) (w_szKeys x0.keys x1) fun c1 =>
  bif (decide (c1 < 0)) then
    k (-1)
  else
  letK (α := Int) (w_szHalfS x0.halves c1) fun c2 =>
  bif (decide (c2 < 0)) then
    k (-1)
  else
  letK (α := Int) (w_szTable x0.table c2) fun c3 =>
  bif (decide (c3 < 0)) then
    k (-1)
  else
  k c3
def w_szDoor (x0 : Door) (x1 : Int) : Int :=
  letK (α := Int) (w_szKeys x0.keys x1) fun c1 =>
  bif (decide (c1 < 0)) then
    (-1)
  else
  letK (α := Int) (w_szHalfS x0.halves c1) fun c2 =>
  bif (decide (c2 < 0)) then
    (-1)
  else
  letK (α := Int) (w_szTable x0.table c2) fun c3 =>
  bif (decide (c3 < 0)) then
    (-1)
  else
  c3
theorem w_szDoor_lk (x0 : Door) (x1 : Int) : evalFn te (orcOf (P := Try.prog) [w_szKeys_e, w_szHalfS_e, w_szTable_e]) lorc0 [] Try.f23 (pvs [.st .door, .sc (.int .i64)] (x0, x1, ())) =
  w_szDoor_N x0 x1 _ none (fun v => some [(false, [RC.c (.int .i64 v)])]) := by kernel_rfl
theorem w_szDoor_p (x0 : Door) (x1 : Int)   (γ : Type) (fail : γ) (k : Int → γ) : w_szDoor_N x0 x1 γ fail k = k (w_szDoor x0 x1) := by
  unfold w_szDoor_N w_szDoor
  exact letT (f := k) (fun c1 hc1 => bifT (f := k) (fun b0 => rfl)
      (fun b0 => letT (f := k) (fun c2 hc2 => bifT (f := k) (fun b1 => rfl)
      (fun b1 => letT (f := k) (fun c3 hc3 => bifT (f := k) (fun b2 => rfl)
      (fun b2 => rfl))))))
theorem w_szDoor_c (x0 : Door) (x1 : Int)  : Con Try.prog 23 (pvs [.st .door, .sc (.int .i64)] (x0, x1, ())) [rv (.sc (.int .i64)) [] (w_szDoor x0 x1)] := by
  exact evalFn_con0 teFact mixFact (orcOf_ok _) Try.func23 (by kernel_rfl) ((w_szDoor_lk x0 x1).trans (w_szDoor_p x0 x1  _ _ _))
noncomputable def w_szDoor_e : Ent1 Try.prog := entA 23 [.st .door, .sc (.int .i64)] (fun x => (w_szDoor x.1 x.2.1)) (fun v => [rv (.sc (.int .i64)) [] v]) (fun x => w_szDoor_c x.1 x.2.1)

theorem w_szDoor_sm (x0 : Door) (x1 : Int)  (hn : 0 ≤ x1 ∧ x1 ≤ 1048576) (hx0_keys_now_rows : x0.keys.now.rows.length ≤ 140737488355328) (hx0_keys_now_rows_e : ∀ y ∈ x0.keys.now.rows, ∀ c ∈ Ty.cells .macRow y, FactC c) (hx0_keys_before_rows : x0.keys.before.rows.length ≤ 140737488355328) (hx0_keys_before_rows_e : ∀ y ∈ x0.keys.before.rows, ∀ c ∈ Ty.cells .macRow y, FactC c) (hx0_halves : x0.halves.length ≤ 140737488355328) (hx0_table_conns : x0.table.conns.length ≤ 140737488355328) (hx0_table_conns_e : ∀ y ∈ x0.table.conns, ∀ c ∈ Ty.cells .conn y, FactC c) (hx0_table_waiting : x0.table.waiting.length ≤ 140737488355328) : (fun v : Int => 0 ≤ v → v ≤ 1048576 ∧ x0.keys.now.rows.length ≤ 1048576 ∧ x0.keys.before.rows.length ≤ 1048576 ∧ x0.halves.length ≤ 1048576 ∧ x0.table.conns.length ≤ 1048576 ∧ x0.table.waiting.length ≤ 1048576 ∧ sm_conn x0.table.conns = true) (w_szDoor x0 x1) := by
  unfold w_szDoor
  exact letP (P := (fun v : Int => 0 ≤ v → v ≤ 1048576 ∧ x0.keys.now.rows.length ≤ 1048576 ∧ x0.keys.before.rows.length ≤ 1048576 ∧ x0.halves.length ≤ 1048576 ∧ x0.table.conns.length ≤ 1048576 ∧ x0.table.waiting.length ≤ 1048576 ∧ sm_conn x0.table.conns = true)) (fun c1 hc1 => have kc1 := w_szKeys_sm x0.keys x1 (by grind [wrap64]) (by assumption) (by assumption) (by assumption) (by assumption); bifP (P := (fun v : Int => 0 ≤ v → v ≤ 1048576 ∧ x0.keys.now.rows.length ≤ 1048576 ∧ x0.keys.before.rows.length ≤ 1048576 ∧ x0.halves.length ≤ 1048576 ∧ x0.table.conns.length ≤ 1048576 ∧ x0.table.waiting.length ≤ 1048576 ∧ sm_conn x0.table.conns = true)) (fun b0 => (by (try simp only [Nat.ble_eq, Bool.and_eq_true, decide_eq_true_eq]); grind [maxSl, maxStr, toBytes_length, toInts_length, List.length_set, wrap64, w_szKeys_sm, w_szHalfS_sm, w_szTable_sm]))
      (fun b0 => letP (P := (fun v : Int => 0 ≤ v → v ≤ 1048576 ∧ x0.keys.now.rows.length ≤ 1048576 ∧ x0.keys.before.rows.length ≤ 1048576 ∧ x0.halves.length ≤ 1048576 ∧ x0.table.conns.length ≤ 1048576 ∧ x0.table.waiting.length ≤ 1048576 ∧ sm_conn x0.table.conns = true)) (fun c2 hc2 => have kc2 := w_szHalfS_sm x0.halves c1 (by grind [wrap64]) (by assumption); bifP (P := (fun v : Int => 0 ≤ v → v ≤ 1048576 ∧ x0.keys.now.rows.length ≤ 1048576 ∧ x0.keys.before.rows.length ≤ 1048576 ∧ x0.halves.length ≤ 1048576 ∧ x0.table.conns.length ≤ 1048576 ∧ x0.table.waiting.length ≤ 1048576 ∧ sm_conn x0.table.conns = true)) (fun b1 => (by (try simp only [Nat.ble_eq, Bool.and_eq_true, decide_eq_true_eq]); grind [maxSl, maxStr, toBytes_length, toInts_length, List.length_set, wrap64, w_szKeys_sm, w_szHalfS_sm, w_szTable_sm]))
      (fun b1 => letP (P := (fun v : Int => 0 ≤ v → v ≤ 1048576 ∧ x0.keys.now.rows.length ≤ 1048576 ∧ x0.keys.before.rows.length ≤ 1048576 ∧ x0.halves.length ≤ 1048576 ∧ x0.table.conns.length ≤ 1048576 ∧ x0.table.waiting.length ≤ 1048576 ∧ sm_conn x0.table.conns = true)) (fun c3 hc3 => have kc3 := w_szTable_sm x0.table c2 (by grind [wrap64]) (by assumption) (by assumption) (by assumption); bifP (P := (fun v : Int => 0 ≤ v → v ≤ 1048576 ∧ x0.keys.now.rows.length ≤ 1048576 ∧ x0.keys.before.rows.length ≤ 1048576 ∧ x0.halves.length ≤ 1048576 ∧ x0.table.conns.length ≤ 1048576 ∧ x0.table.waiting.length ≤ 1048576 ∧ sm_conn x0.table.conns = true)) (fun b2 => (by (try simp only [Nat.ble_eq, Bool.and_eq_true, decide_eq_true_eq]); grind [maxSl, maxStr, toBytes_length, toInts_length, List.length_set, wrap64, w_szKeys_sm, w_szHalfS_sm, w_szTable_sm]))
      (fun b2 => (by (try simp only [Nat.ble_eq, Bool.and_eq_true, decide_eq_true_eq]); grind [maxSl, maxStr, toBytes_length, toInts_length, List.length_set, wrap64, w_szKeys_sm, w_szHalfS_sm, w_szTable_sm])))))))

theorem eqHalfS_refl (xs : List Half) : w_eqHalfS xs xs = true := by
  unfold w_eqHalfS
  rw [toNat_sub0, forN_list xs _ rfl (F := fun j x a => bif (fun _ => false) x then .out () else .next ()) (by
    intro j x a h
    simp [w_eqHalfS_L0_f, letK, toNat_cast, eqHalf_refl])]
  rw [listN_all xs 0 (by simp)]
  simp [Stp.elim]

theorem toMac_eq (x : Mac) : w_toMac x = x := by
  first | rfl | simp only [w_toMac, letK, toMacRowS_eq] | (simp [w_toMac, letK, toMacRowS_eq])

theorem eqMac_refl (x : Mac) : w_eqMac x x = true := by simp [w_eqMac, letK, eqMacRowS_refl]

theorem toReceiver_eq (x : Recv) : w_toReceiver x = x := by
  first | rfl | simp only [w_toReceiver, letK, toPieceS_eq] | (simp [w_toReceiver, letK, toPieceS_eq])

theorem eqReceiver_refl (x : Recv) : w_eqReceiver x x = true := by simp [w_eqReceiver, letK, eqPieceS_refl]

theorem q_MacOf (m : Mac) (x : Bytes) (hx : x.length ≤ 4294967296) : s_MacOf m x = i_MacOf m x := by
  unfold s_MacOf i_MacOf
  rw [q_SipHash _ _ _ hx]
  rw [show forN (s_MacOf_L0_f x m.use m.k m.l m.rows) 1 (Int.toNat ((m.rows.length : Int) - 0)) 0 () = forN (i_MacOf_L0_f x m.rows (m.rows.length : Int)) 1 (Int.toNat ((m.rows.length : Int) - 0)) 0 () from forN_congr (fun i a => by
    unfold s_MacOf_L0_f i_MacOf_L0_f
    generalize (m.rows.getD i.toNat (Ty.zero .macRow)) = r
    cases (r.input == x) with
    | false => rfl
    | true =>
      simp only [cond_true, letK_eq]
      have h1 := tmod_pos (a := r.value) 16777216
      rcases Int.lt_or_le r.value 0 with h | h
      · have e := h1.2 h
        generalize r.value.tmod 16777216 = t at e
        rw [wrap64 (by omega) (by omega)]
        cases hd : decide (t < 0) with
        | true => simp only [decide_eq_true_eq] at hd; simp only [cond_true]; rw [(tmod_pos 16777216).1 (by omega), Int.emod_eq_of_lt (by omega) (by omega)]
        | false => simp only [decide_eq_false_iff_not] at hd; simp only [cond_false]; rw [(tmod_pos 16777216).1 (by omega), show t = 0 by omega]; rfl
      · have e := h1.1 h
        generalize r.value.tmod 16777216 = t at e
        rw [wrap64 (by omega) (by omega)]
        cases hd : decide (t < 0) with
        | true => simp only [decide_eq_true_eq] at hd; omega
        | false => simp only [cond_false]; rw [(tmod_pos 16777216).1 (by omega)]; congr 1; omega) _ _ _]

theorem toKeys_eq (x : Keys) : w_toKeys x = x := by
  first | rfl | simp only [w_toKeys, letK, toMac_eq] | (simp [w_toKeys, letK, toMac_eq])

theorem eqKeys_refl (x : Keys) : w_eqKeys x x = true := by simp [w_eqKeys, letK, eqMac_refl]

theorem toConn_eq (x : Conn) : w_toConn x = x := by
  first | rfl | simp only [w_toConn, letK, toTuple_eq, toSender_eq, toReceiver_eq, toOptions_eq] | (simp [w_toConn, letK, toTuple_eq, toSender_eq, toReceiver_eq, toOptions_eq])

theorem eqConn_refl (x : Conn) : w_eqConn x x = true := by simp [w_eqConn, letK, eqTuple_refl, eqSender_refl, eqReceiver_refl, eqOptions_refl]

theorem PutWord_len (n b : Int) : (i_PutWord n b).length ≤ 6 := i_PutWord_len n b
theorem MacInput_len (t : Tupl) (a b c : Int) : (i_MacInput t a b c).length ≤ 36 := by
  have h : ∀ n b, (i_PutWord n b).length ≤ 6 := PutWord_len
  unfold i_MacInput
  simp only [letK_eq]
  cases i_TupleOk t <;> cases i_WordOk a 32 <;> cases i_WordOk b 32 <;> cases i_within c 0 7 <;> simp only [Bool.not_true, Bool.not_false, cond_true, cond_false, List.length_nil] <;> try omega
  have h1 := h t.ip 4
  have h2 := h t.port 2
  have h3 := h t.my 2
  have h4 := h a 4
  have h5 := h b 4
  have h6 := h c 1
  simp only [List.length_append]
  omega
theorem q_CookieOf (m : Mac) (t : Tupl) (a b c : Int) : s_CookieOf m t a b c = i_CookieOf m t a b c := by
  unfold s_CookieOf i_CookieOf
  rw [q_MacInput]
  have := MacInput_len t a b c
  generalize i_MacInput t a b c = x at *
  simp only [letK_eq, q_MacOf m x (by omega)]
theorem q_SecretOf (k : Keys) (e : Int) : s_SecretOf k e = i_SecretOf k e := by
  unfold s_SecretOf i_SecretOf
  simp only [s_l11Copy, i_cloneMac, g_Clone_MacRow, letK_eq, List.nil_append]

theorem l1Max0 (x : Int) : s_l1Max 0 x = (if 0 < x then x else 0) := by
  unfold s_l1Max
  by_cases h : 0 < x
  · simp only [h, if_true, decide_eq_false (show ¬ x < 0 by omega), cond_false]
  · simp only [h, if_false]
    by_cases h2 : x < 0
    · simp only [decide_eq_true h2, cond_true]
    · simp only [decide_eq_false h2, cond_false]; omega
theorem q_FirstSeq (d : Door) (t : Tupl) (g : Segm) : s_FirstSeq d t g = i_FirstSeq d t g := by
  unfold s_FirstSeq i_FirstSeq i_peerMss
  simp only [letK_eq, q_MssIndex, q_CookieOf, l1Max0]
  cases (g.opts.mss == 0) <;> rfl
theorem StampOf_wrap (a b : Int) : IntKind.wrap .i64 ((IntKind.wrap .i64 (a * 64)) + b) % 4294967296 = (a * 64 + b) % 4294967296 := by
  simp only [wrap64_def]; omega
theorem q_StampOf (a b : Int) (c : Bool) : s_StampOf a b c = i_StampOf a b c := by
  unfold s_StampOf i_StampOf
  simp only [letK_eq, s_l1In_eq, i_within_eq, l4Rest_eq, i64_mask32]
  cases c <;> cases (decide (0 ≤ b) && decide (b ≤ 14)) <;> simp only [cond_true, cond_false, Bool.not_true, Bool.not_false, wrap64_def] <;> omega
theorem q_AnswerOptions (o : Opti) (c : Int) : s_AnswerOptions o c = i_AnswerOptions o c := by
  unfold s_AnswerOptions i_AnswerOptions
  simp only [letK_eq, s_l1In_eq, i_within_eq, q_StampOf]
theorem q_SynAck (d : Door) (t : Tupl) (g : Segm) : s_SynAck d t g = i_SynAck d t g := by
  unfold s_SynAck i_SynAck
  simp only [letK_eq, q_FirstSeq, q_SeqAdd, q_AnswerOptions]

theorem toConnS_eq (xs : List Conn) : w_toConnS xs = xs := by
  unfold w_toConnS
  try simp only [letK_eq]
  rw [toNat_sub0, forN_list xs _ rfl (F := fun j x a => .next (a.set j x)) (by
    intro j x a h
    simp only [w_toConnS_L0_f, letK_eq, toNat_cast, getD_some h, toConn_eq])]
  have := fun r hr => listN_fill (W := Empty) (fun x => x) xs 0 r hr
  rw [this _ (by simp)]
  simp [Stp.elim]

theorem eqConnS_refl (xs : List Conn) : w_eqConnS xs xs = true := by
  unfold w_eqConnS
  rw [toNat_sub0, forN_list xs _ rfl (F := fun j x a => bif (fun _ => false) x then .out () else .next ()) (by
    intro j x a h
    simp [w_eqConnS_L0_f, letK, toNat_cast, eqConn_refl])]
  rw [listN_all xs 0 (by simp)]
  simp [Stp.elim]

theorem toTable_eq (x : Tabl) : w_toTable x = x := by
  first | rfl | simp only [w_toTable, letK, toConnS_eq, toTupleS_eq] | (simp [w_toTable, letK, toConnS_eq, toTupleS_eq])

theorem eqTable_refl (x : Tabl) : w_eqTable x x = true := by simp [w_eqTable, letK, eqConnS_refl, eqTupleS_refl]

theorem toDoor_eq (x : Door) : w_toDoor x = x := by
  first | rfl | simp only [w_toDoor, letK, toKeys_eq, toLimits_eq, toHalfS_eq, toTable_eq] | (simp [w_toDoor, letK, toKeys_eq, toLimits_eq, toHalfS_eq, toTable_eq])

theorem eqDoor_refl (x : Door) : w_eqDoor x x = true := by simp [w_eqDoor, letK, eqKeys_refl, eqLimits_refl, eqHalfS_refl, eqTable_refl]

/-- laws.FnExactSynAck -/
def w_FnExactSynAck_N (x0 : Door) (x1 : Tupl) (x2 : Segm) (γ : Type) (fail : γ) (k : Bool → γ) : γ :=
  letK (α := Int) (w_szDoor x0 1048576) fun c1 =>
  bif (decide (c1 < 0)) then
    k true
  else
  letK (α := Int) (w_szSegment x2 c1) fun c2 =>
  bif (decide (c2 < 0)) then
    k true
  else
  bif (decide (x0.keys.now.rows.length ≤ 4294967296 ∧ x0.keys.before.rows.length ≤ 4294967296 ∧ x0.halves.length ≤ 4294967296 ∧ x0.table.conns.length ≤ 4294967296 ∧ sm_conn x0.table.conns = true ∧ x0.table.waiting.length ≤ 4294967296)) then
  letK (α := Door) (w_toDoor x0) fun c3 =>
  letK (α := Tupl) (w_toTuple x1) fun c4 =>
  letK (α := Segm) (w_toSegment x2) fun c5 =>
  bif (decide (c3.keys.now.rows.length ≤ 4294967296 ∧ c3.keys.before.rows.length ≤ 4294967296 ∧ c3.halves.length ≤ 4294967296 ∧ c3.table.conns.length ≤ 4294967296 ∧ c3.table.waiting.length ≤ 4294967296 ∧ c5.body.length ≤ 4294967296)) then
  letK (α := Segm) (s_SynAck c3 c4 c5) fun c6 =>
  bif (decide (x0.keys.now.rows.length ≤ 4294967296 ∧ x0.keys.before.rows.length ≤ 4294967296 ∧ x0.halves.length ≤ 4294967296 ∧ x0.table.conns.length ≤ 4294967296 ∧ sm_conn x0.table.conns = true ∧ x0.table.waiting.length ≤ 4294967296)) then
  letK (α := Door) (w_toDoor x0) fun c7 =>
  letK (α := Tupl) (w_toTuple x1) fun c8 =>
  letK (α := Segm) (w_toSegment x2) fun c9 =>
  bif (decide (c7.keys.now.rows.length ≤ 4294967296 ∧ c7.keys.before.rows.length ≤ 4294967296 ∧ c7.halves.length ≤ 4294967296 ∧ c7.table.conns.length ≤ 4294967296 ∧ c7.table.waiting.length ≤ 4294967296 ∧ c9.body.length ≤ 4294967296)) then
  letK (α := Segm) (i_SynAck c7 c8 c9) fun c10 =>
  letK (α := Bool) (w_eqSegment c10 c6) fun c11 =>
  bif (!c11) then
    k false
  else
  bif (decide (x0.keys.now.rows.length ≤ 4294967296 ∧ x0.keys.before.rows.length ≤ 4294967296 ∧ x0.halves.length ≤ 4294967296 ∧ x0.table.conns.length ≤ 4294967296 ∧ sm_conn x0.table.conns = true ∧ x0.table.waiting.length ≤ 4294967296)) then
  letK (α := Door) (w_toDoor x0) fun c12 =>
  letK (α := Bool) (w_eqDoor c7 c12) fun c13 =>
  bif (!c13) then
    k false
  else
  k true
  else fail
  else fail
  else fail
  else fail
  else fail
def w_FnExactSynAck (x0 : Door) (x1 : Tupl) (x2 : Segm) : Bool :=
  letK (α := Int) (w_szDoor x0 1048576) fun c1 =>
  bif (decide (c1 < 0)) then
    true
  else
  letK (α := Int) (w_szSegment x2 c1) fun c2 =>
  bif (decide (c2 < 0)) then
    true
  else
  letK (α := Door) (w_toDoor x0) fun c3 =>
  letK (α := Tupl) (w_toTuple x1) fun c4 =>
  letK (α := Segm) (w_toSegment x2) fun c5 =>
  letK (α := Segm) (s_SynAck c3 c4 c5) fun c6 =>
  letK (α := Door) (w_toDoor x0) fun c7 =>
  letK (α := Tupl) (w_toTuple x1) fun c8 =>
  letK (α := Segm) (w_toSegment x2) fun c9 =>
  letK (α := Segm) (i_SynAck c7 c8 c9) fun c10 =>
  letK (α := Bool) (w_eqSegment c10 c6) fun c11 =>
  bif (!c11) then
    false
  else
  letK (α := Door) (w_toDoor x0) fun c12 =>
  letK (α := Bool) (w_eqDoor c7 c12) fun c13 =>
  bif (!c13) then
    false
  else
  true
theorem w_FnExactSynAck_lk (x0 : Door) (x1 : Tupl) (x2 : Segm) : evalFn te (orcOf (P := Try.prog) [w_szDoor_e, w_szSegment_e, w_toDoor_e, w_toTuple_e, w_toSegment_e, s_SynAck_e, i_SynAck_e, w_eqSegment_e, w_eqDoor_e]) lorc0 [] Try.f7 (pvs [.st .door, .st .tupl, .st .segm] (x0, x1, x2, ())) =
  w_FnExactSynAck_N x0 x1 x2 _ none (fun v => some [(false, [RC.c (.bool v)])]) := by kernel_rfl
theorem w_FnExactSynAck_p (x0 : Door) (x1 : Tupl) (x2 : Segm) (hx0_port : inK .i64 x0.port) (hx0_clock : inK .i64 x0.clock) (hx0_keys_epoch : inK .i64 x0.keys.epoch) (hx0_keys_now_k : inK .u64 x0.keys.now.k) (hx0_keys_now_l : inK .u64 x0.keys.now.l) (hx0_keys_now_rows : x0.keys.now.rows.length ≤ 140737488355328) (hx0_keys_now_rows_e : ∀ y ∈ x0.keys.now.rows, ∀ c ∈ Ty.cells .macRow y, FactC c) (hx0_keys_before_k : inK .u64 x0.keys.before.k) (hx0_keys_before_l : inK .u64 x0.keys.before.l) (hx0_keys_before_rows : x0.keys.before.rows.length ≤ 140737488355328) (hx0_keys_before_rows_e : ∀ y ∈ x0.keys.before.rows, ∀ c ∈ Ty.cells .macRow y, FactC c) (hx0_limits_halves : inK .i64 x0.limits.halves) (hx0_limits_waiting : inK .i64 x0.limits.waiting) (hx0_limits_conns : inK .i64 x0.limits.conns) (hx0_limits_chal : inK .i64 x0.limits.chal) (hx0_halves : x0.halves.length ≤ 140737488355328) (hx0_table_conns : x0.table.conns.length ≤ 140737488355328) (hx0_table_conns_e : ∀ y ∈ x0.table.conns, ∀ c ∈ Ty.cells .conn y, FactC c) (hx0_table_waiting : x0.table.waiting.length ≤ 140737488355328) (hx0_chal : inK .i64 x0.chal) (hx1_ip : inK .i64 x1.ip) (hx1_port : inK .i64 x1.port) (hx1_my : inK .i64 x1.my) (hx2_from_ : inK .i64 x2.from_) (hx2_to : inK .i64 x2.to) (hx2_seq : inK .i64 x2.seq) (hx2_ack : inK .i64 x2.ack) (hx2_flags : inK .i64 x2.flags) (hx2_window : inK .i64 x2.window) (hx2_opts_mss : inK .i64 x2.opts.mss) (hx2_opts_scale : inK .i64 x2.opts.scale) (hx2_opts_val : inK .i64 x2.opts.val) (hx2_opts_echo : inK .i64 x2.opts.echo) (hx2_body : List.length x2.body ≤ 4611686018427387904)  (γ : Type) (fail : γ) (k : Bool → γ) : w_FnExactSynAck_N x0 x1 x2 γ fail k = k (w_FnExactSynAck x0 x1 x2) := by
  unfold w_FnExactSynAck_N w_FnExactSynAck
  exact letT (f := k) (fun c1 hc1 => have kc1 := w_szDoor_sm x0 1048576 (by grind [wrap64]) (by assumption) (by assumption) (by assumption) (by assumption) (by assumption) (by assumption) (by assumption) (by assumption); bifT (f := k) (fun b0 => rfl)
      (fun b0 => letT (f := k) (fun c2 hc2 => have kc2 := w_szSegment_sm x2 c1 (by grind [wrap64]) (by assumption); bifT (f := k) (fun b1 => rfl)
      (fun b1 => bifG (by (try simp only [Nat.ble_eq, Bool.and_eq_true, decide_eq_true_eq]); grind [maxSl, maxStr, toBytes_length, toInts_length, List.length_set, wrap64, w_szDoor_sm, w_szSegment_sm]) (letT (f := k) (fun c3 hc3 => have kc3 := toDoor_eq x0; letT (f := k) (fun c4 hc4 => have kc4 := toTuple_eq x1; letT (f := k) (fun c5 hc5 => have kc5 := toSegment_eq x2; bifG (by (try simp only [Nat.ble_eq, Bool.and_eq_true, decide_eq_true_eq]); grind [maxSl, maxStr, toBytes_length, toInts_length, List.length_set, wrap64, w_szDoor_sm, w_szSegment_sm]) (letT (f := k) (fun c6 hc6 => bifG (by (try simp only [Nat.ble_eq, Bool.and_eq_true, decide_eq_true_eq]); grind [maxSl, maxStr, toBytes_length, toInts_length, List.length_set, wrap64, w_szDoor_sm, w_szSegment_sm]) (letT (f := k) (fun c7 hc7 => have kc7 := toDoor_eq x0; letT (f := k) (fun c8 hc8 => have kc8 := toTuple_eq x1; letT (f := k) (fun c9 hc9 => have kc9 := toSegment_eq x2; bifG (by (try simp only [Nat.ble_eq, Bool.and_eq_true, decide_eq_true_eq]); grind [maxSl, maxStr, toBytes_length, toInts_length, List.length_set, wrap64, w_szDoor_sm, w_szSegment_sm]) (letT (f := k) (fun c10 hc10 => letT (f := k) (fun c11 hc11 => bifT (f := k) (fun b2 => rfl)
      (fun b2 => bifG (by (try simp only [Nat.ble_eq, Bool.and_eq_true, decide_eq_true_eq]); grind [maxSl, maxStr, toBytes_length, toInts_length, List.length_set, wrap64, w_szDoor_sm, w_szSegment_sm]) (letT (f := k) (fun c12 hc12 => have kc12 := toDoor_eq x0; letT (f := k) (fun c13 hc13 => bifT (f := k) (fun b3 => rfl)
      (fun b3 => rfl))))))))))))))))))))))
theorem w_FnExactSynAck_c (x0 : Door) (x1 : Tupl) (x2 : Segm)  : Con Try.prog 7 (pvs [.st .door, .st .tupl, .st .segm] (x0, x1, x2, ())) [rv (.sc .bool) [] (w_FnExactSynAck x0 x1 x2)] := by
  refine Con.of_facts (enters_of Try.func7 rfl (by kernel_rfl)) fun hf => ?_
  replace hf := factAt hf
  exact evalFn_con0 teFact mixFact (orcOf_ok _) Try.func7 (by kernel_rfl) ((w_FnExactSynAck_lk x0 x1 x2).trans (w_FnExactSynAck_p x0 x1 x2 ((hf 0 0 rfl rfl).rng) ((hf 0 1 rfl rfl).rng) ((hf 0 2 rfl rfl).rng) ((hf 0 4 rfl rfl).rng) ((hf 0 5 rfl rfl).rng) ((hf 0 6 rfl rfl).len) (fun y hy => (hf 0 6 rfl rfl).elem hy) ((hf 0 8 rfl rfl).rng) ((hf 0 9 rfl rfl).rng) ((hf 0 10 rfl rfl).len) (fun y hy => (hf 0 10 rfl rfl).elem hy) ((hf 0 12 rfl rfl).rng) ((hf 0 13 rfl rfl).rng) ((hf 0 14 rfl rfl).rng) ((hf 0 15 rfl rfl).rng) ((hf 0 16 rfl rfl).len) ((hf 0 17 rfl rfl).len) (fun y hy => (hf 0 17 rfl rfl).elem hy) ((hf 0 18 rfl rfl).len) ((hf 0 19 rfl rfl).rng) ((hf 1 0 rfl rfl).rng) ((hf 1 1 rfl rfl).rng) ((hf 1 2 rfl rfl).rng) ((hf 2 0 rfl rfl).rng) ((hf 2 1 rfl rfl).rng) ((hf 2 2 rfl rfl).rng) ((hf 2 3 rfl rfl).rng) ((hf 2 4 rfl rfl).rng) ((hf 2 5 rfl rfl).rng) ((hf 2 6 rfl rfl).rng) ((hf 2 7 rfl rfl).rng) ((hf 2 10 rfl rfl).rng) ((hf 2 11 rfl rfl).rng) ((hf 2 12 rfl rfl).slen) _ _ _))
noncomputable def w_FnExactSynAck_e : Ent1 Try.prog := entA 7 [.st .door, .st .tupl, .st .segm] (fun x => (w_FnExactSynAck x.1 x.2.1 x.2.2.1)) (fun v => [rv (.sc .bool) [] v]) (fun x => w_FnExactSynAck_c x.1 x.2.1 x.2.2.1)


theorem t_FnExactSynAck (x : Door) (t : Tupl) (g : Segm) : w_FnExactSynAck x t g = true := by
  unfold w_FnExactSynAck
  simp only [letK_eq, q_SynAck, toDoor_eq, toTuple_eq, toSegment_eq, eqDoor_refl, eqSegment_refl, Bool.not_true, cond_false]
  cases decide (w_szDoor x 1048576 < 0) <;> cases decide (w_szSegment g (w_szDoor x 1048576) < 0) <;> rfl

end Go.Proofs.Ytbikbonhcfbmeaa
