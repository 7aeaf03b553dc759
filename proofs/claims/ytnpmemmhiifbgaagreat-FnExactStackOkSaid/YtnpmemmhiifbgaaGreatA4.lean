/-
  Contracts of functions and plain laws (printed by a program): each theorem says what a function of the program returns; conditions are its hypotheses.
-/
import Derived.Test.YtnpmemmhiifbgaaGreatA3
set_option maxRecDepth 4000
set_option linter.unusedVariables false
set_option linter.unusedSimpArgs false
namespace Go.Proofs.YtnpmemmhiifbgaaGreat
open Go Go.RowKit

theorem eqHalfS_refl (xs : List Half) : w_eqHalfS xs xs = true := by
  unfold w_eqHalfS
  rw [toNat_sub0, forN_list xs _ rfl (F := fun j x a => bif (fun _ => false) x then .out () else .next ()) (by
    intro j x a h
    simp [w_eqHalfS_L0_f, letK, toNat_cast, eqHalf_refl])]
  rw [listN_all xs 0 (by simp)]
  simp [Stp.elim]

theorem toMac_eq (x : Mac) : w_toMac x = x := by
  first | rfl | simp only [w_toMac, letK, toMacRowS_eq] | (simp [w_toMac, letK, toMacRowS_eq])

theorem eqMac_refl (x : Mac) : w_eqMac x x = true := by simp [w_eqMac, letK, eqMacRowS_refl]

theorem toReceiver_eq (x : Recv) : w_toReceiver x = x := by
  first | rfl | simp only [w_toReceiver, letK, toPieceS_eq] | (simp [w_toReceiver, letK, toPieceS_eq])

theorem eqReceiver_refl (x : Recv) : w_eqReceiver x x = true := by simp [w_eqReceiver, letK, eqPieceS_refl]

theorem toKeys_eq (x : Keys) : w_toKeys x = x := by
  first | rfl | simp only [w_toKeys, letK, toMac_eq] | (simp [w_toKeys, letK, toMac_eq])

theorem eqKeys_refl (x : Keys) : w_eqKeys x x = true := by simp [w_eqKeys, letK, eqMac_refl]

theorem toConn_eq (x : Conn) : w_toConn x = x := by
  first | rfl | simp only [w_toConn, letK, toTuple_eq, toSender_eq, toReceiver_eq, toOptions_eq] | (simp [w_toConn, letK, toTuple_eq, toSender_eq, toReceiver_eq, toOptions_eq])

theorem eqConn_refl (x : Conn) : w_eqConn x x = true := by simp [w_eqConn, letK, eqTuple_refl, eqSender_refl, eqReceiver_refl, eqOptions_refl]

theorem toConnS_eq (xs : List Conn) : w_toConnS xs = xs := by
  unfold w_toConnS
  try simp only [letK_eq]
  rw [toNat_sub0, forN_list xs _ rfl (F := fun j x a => .next (a.set j x)) (by
    intro j x a h
    simp only [w_toConnS_L0_f, letK_eq, toNat_cast, getD_some h, toConn_eq])]
  have := fun r hr => listN_fill (W := Empty) (fun x => x) xs 0 r hr
  rw [this _ (by simp)]
  simp [Stp.elim]

theorem eqConnS_refl (xs : List Conn) : w_eqConnS xs xs = true := by
  unfold w_eqConnS
  rw [toNat_sub0, forN_list xs _ rfl (F := fun j x a => bif (fun _ => false) x then .out () else .next ()) (by
    intro j x a h
    simp [w_eqConnS_L0_f, letK, toNat_cast, eqConn_refl])]
  rw [listN_all xs 0 (by simp)]
  simp [Stp.elim]

theorem toTable_eq (x : Tabl) : w_toTable x = x := by
  first | rfl | simp only [w_toTable, letK, toConnS_eq, toTupleS_eq] | (simp [w_toTable, letK, toConnS_eq, toTupleS_eq])

theorem eqTable_refl (x : Tabl) : w_eqTable x x = true := by simp [w_eqTable, letK, eqConnS_refl, eqTupleS_refl]

theorem toDoor_eq (x : Door) : w_toDoor x = x := by
  first | rfl | simp only [w_toDoor, letK, toKeys_eq, toLimits_eq, toHalfS_eq, toTable_eq] | (simp [w_toDoor, letK, toKeys_eq, toLimits_eq, toHalfS_eq, toTable_eq])

theorem eqDoor_refl (x : Door) : w_eqDoor x x = true := by simp [w_eqDoor, letK, eqKeys_refl, eqLimits_refl, eqHalfS_refl, eqTable_refl]

theorem toStack_eq (x : Stac) : w_toStack x = x := by
  first | rfl | simp only [w_toStack, letK, toLink_eq, toDoor_eq] | (simp [w_toStack, letK, toLink_eq, toDoor_eq])

theorem eqStack_refl (x : Stac) : w_eqStack x x = true := by simp [w_eqStack, letK, eqLink_refl, eqDoor_refl]

/-- laws.FnExactStackOk -/
def w_FnExactStackOk_N (x0 : Stac) (γ : Type) (fail : γ) (k : Bool → γ) : γ :=
  letK (α := Int) (w_szStack x0 1048576) fun c1 =>
  bif (decide (c1 < 0)) then
    k true
  else
  bif (decide (x0.link.cache.length ≤ 4294967296 ∧ x0.door.keys.now.rows.length ≤ 4294967296 ∧ x0.door.keys.before.rows.length ≤ 4294967296 ∧ x0.door.halves.length ≤ 4294967296 ∧ x0.door.table.conns.length ≤ 4294967296 ∧ sm_conn x0.door.table.conns = true ∧ x0.door.table.waiting.length ≤ 4294967296)) then
  letK (α := Stac) (w_toStack x0) fun c2 =>
  letK (α := Bool) (s_StackOk c2) fun c3 =>
  bif (decide (x0.link.cache.length ≤ 4294967296 ∧ x0.door.keys.now.rows.length ≤ 4294967296 ∧ x0.door.keys.before.rows.length ≤ 4294967296 ∧ x0.door.halves.length ≤ 4294967296 ∧ x0.door.table.conns.length ≤ 4294967296 ∧ sm_conn x0.door.table.conns = true ∧ x0.door.table.waiting.length ≤ 4294967296)) then
  letK (α := Stac) (w_toStack x0) fun c4 =>
  letK (α := Bool) (i_StackOk c4) fun c5 =>
  bif (!(c5 == c3)) then
    k false
  else
  bif (decide (x0.link.cache.length ≤ 4294967296 ∧ x0.door.keys.now.rows.length ≤ 4294967296 ∧ x0.door.keys.before.rows.length ≤ 4294967296 ∧ x0.door.halves.length ≤ 4294967296 ∧ x0.door.table.conns.length ≤ 4294967296 ∧ sm_conn x0.door.table.conns = true ∧ x0.door.table.waiting.length ≤ 4294967296)) then
  letK (α := Stac) (w_toStack x0) fun c6 =>
  letK (α := Bool) (w_eqStack c4 c6) fun c7 =>
  bif (!c7) then
    k false
  else
  k true
  else fail
  else fail
  else fail
def w_FnExactStackOk (x0 : Stac) : Bool :=
  letK (α := Int) (w_szStack x0 1048576) fun c1 =>
  bif (decide (c1 < 0)) then
    true
  else
  letK (α := Stac) (w_toStack x0) fun c2 =>
  letK (α := Bool) (s_StackOk c2) fun c3 =>
  letK (α := Stac) (w_toStack x0) fun c4 =>
  letK (α := Bool) (i_StackOk c4) fun c5 =>
  bif (!(c5 == c3)) then
    false
  else
  letK (α := Stac) (w_toStack x0) fun c6 =>
  letK (α := Bool) (w_eqStack c4 c6) fun c7 =>
  bif (!c7) then
    false
  else
  true
theorem w_FnExactStackOk_lk (x0 : Stac) : evalFn te (orcOf (P := Tryz.prog) [w_szStack_e, w_toStack_e, s_StackOk_e, i_StackOk_e, w_eqStack_e]) lorc0 [] Tryz.f3 (pvs [.st .stac] (x0, ())) =
  w_FnExactStackOk_N x0 _ none (fun v => some [(false, [RC.c (.bool v)])]) := by kernel_rfl
theorem w_FnExactStackOk_p (x0 : Stac) (hx0_link_mac : inK .i64 x0.link.mac) (hx0_link_ip : inK .i64 x0.link.ip) (hx0_link_cache : x0.link.cache.length ≤ 140737488355328) (hx0_door_port : inK .i64 x0.door.port) (hx0_door_clock : inK .i64 x0.door.clock) (hx0_door_keys_epoch : inK .i64 x0.door.keys.epoch) (hx0_door_keys_now_k : inK .u64 x0.door.keys.now.k) (hx0_door_keys_now_l : inK .u64 x0.door.keys.now.l) (hx0_door_keys_now_rows : x0.door.keys.now.rows.length ≤ 140737488355328) (hx0_door_keys_now_rows_e : ∀ y ∈ x0.door.keys.now.rows, ∀ c ∈ Ty.cells .macRow y, FactC c) (hx0_door_keys_before_k : inK .u64 x0.door.keys.before.k) (hx0_door_keys_before_l : inK .u64 x0.door.keys.before.l) (hx0_door_keys_before_rows : x0.door.keys.before.rows.length ≤ 140737488355328) (hx0_door_keys_before_rows_e : ∀ y ∈ x0.door.keys.before.rows, ∀ c ∈ Ty.cells .macRow y, FactC c) (hx0_door_limits_halves : inK .i64 x0.door.limits.halves) (hx0_door_limits_waiting : inK .i64 x0.door.limits.waiting) (hx0_door_limits_conns : inK .i64 x0.door.limits.conns) (hx0_door_limits_chal : inK .i64 x0.door.limits.chal) (hx0_door_halves : x0.door.halves.length ≤ 140737488355328) (hx0_door_table_conns : x0.door.table.conns.length ≤ 140737488355328) (hx0_door_table_conns_e : ∀ y ∈ x0.door.table.conns, ∀ c ∈ Ty.cells .conn y, FactC c) (hx0_door_table_waiting : x0.door.table.waiting.length ≤ 140737488355328) (hx0_door_chal : inK .i64 x0.door.chal)  (γ : Type) (fail : γ) (k : Bool → γ) : w_FnExactStackOk_N x0 γ fail k = k (w_FnExactStackOk x0) := by
  unfold w_FnExactStackOk_N w_FnExactStackOk
  exact letT (f := k) (fun c1 hc1 => have kc1 := w_szStack_sm x0 1048576 (by grind [wrap64]) (by assumption) (by assumption) (by assumption) (by assumption) (by assumption) (by assumption) (by assumption) (by assumption) (by assumption); bifT (f := k) (fun b0 => rfl)
      (fun b0 => bifG (by (try simp only [Nat.ble_eq, Bool.and_eq_true, decide_eq_true_eq]); grind [maxSl, maxStr, toBytes_length, toInts_length, List.length_set, wrap64, w_szStack_sm]) (letT (f := k) (fun c2 hc2 => have kc2 := toStack_eq x0; letT (f := k) (fun c3 hc3 => bifG (by (try simp only [Nat.ble_eq, Bool.and_eq_true, decide_eq_true_eq]); grind [maxSl, maxStr, toBytes_length, toInts_length, List.length_set, wrap64, w_szStack_sm]) (letT (f := k) (fun c4 hc4 => have kc4 := toStack_eq x0; letT (f := k) (fun c5 hc5 => bifT (f := k) (fun b1 => rfl)
      (fun b1 => bifG (by (try simp only [Nat.ble_eq, Bool.and_eq_true, decide_eq_true_eq]); grind [maxSl, maxStr, toBytes_length, toInts_length, List.length_set, wrap64, w_szStack_sm]) (letT (f := k) (fun c6 hc6 => have kc6 := toStack_eq x0; letT (f := k) (fun c7 hc7 => bifT (f := k) (fun b2 => rfl)
      (fun b2 => rfl)))))))))))))
theorem w_FnExactStackOk_c (x0 : Stac)  : Con Tryz.prog 3 (pvs [.st .stac] (x0, ())) [rv (.sc .bool) [] (w_FnExactStackOk x0)] := by
  refine Con.of_facts (enters_of Tryz.func3 rfl (by kernel_rfl)) fun hf => ?_
  replace hf := factAt hf
  exact evalFn_con0 teFact mixFact (orcOf_ok _) Tryz.func3 (by kernel_rfl) ((w_FnExactStackOk_lk x0).trans (w_FnExactStackOk_p x0 ((hf 0 0 rfl rfl).rng) ((hf 0 1 rfl rfl).rng) ((hf 0 2 rfl rfl).len) ((hf 0 3 rfl rfl).rng) ((hf 0 4 rfl rfl).rng) ((hf 0 5 rfl rfl).rng) ((hf 0 7 rfl rfl).rng) ((hf 0 8 rfl rfl).rng) ((hf 0 9 rfl rfl).len) (fun y hy => (hf 0 9 rfl rfl).elem hy) ((hf 0 11 rfl rfl).rng) ((hf 0 12 rfl rfl).rng) ((hf 0 13 rfl rfl).len) (fun y hy => (hf 0 13 rfl rfl).elem hy) ((hf 0 15 rfl rfl).rng) ((hf 0 16 rfl rfl).rng) ((hf 0 17 rfl rfl).rng) ((hf 0 18 rfl rfl).rng) ((hf 0 19 rfl rfl).len) ((hf 0 20 rfl rfl).len) (fun y hy => (hf 0 20 rfl rfl).elem hy) ((hf 0 21 rfl rfl).len) ((hf 0 22 rfl rfl).rng) _ _ _))
noncomputable def w_FnExactStackOk_e : Ent1 Tryz.prog := entA 3 [.st .stac] (fun x => (w_FnExactStackOk x.1)) (fun v => [rv (.sc .bool) [] v]) (fun x => w_FnExactStackOk_c x.1)


theorem t_FnExactStackOk (x : Stac) (h : ∀ y ∈ x.door.table.conns, ∀ c ∈ Ty.cells .conn y, FactC c) : w_FnExactStackOk x = true := by
  unfold w_FnExactStackOk
  simp only [letK_eq, toStack_eq, q_StackOk x (small_of h), eqStack_refl, beq_self_eq_true, bne_self_eq_false, Bool.not_true, cond_false]
  cases decide (w_szStack x 1048576 < 0) <;> rfl

end Go.Proofs.YtnpmemmhiifbgaaGreat
