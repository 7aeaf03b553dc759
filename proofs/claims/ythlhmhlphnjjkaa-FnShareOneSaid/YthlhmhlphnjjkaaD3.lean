/-
  Contracts of functions and plain laws (printed by a program): each theorem says what a function of the program returns; conditions are its hypotheses.
-/
import Derived.Test.YthlhmhlphnjjkaaD2
set_option maxRecDepth 4000
set_option linter.unusedVariables false
set_option linter.unusedSimpArgs false
namespace Go.Proofs.Ythlhmhlphnjjkaa
open Go Go.RowKit

/-- slices.ContainsFunc[[]impl.Issue,impl.Issue] -/
def g_ContainsFunc_Issue_i_HitBy_1_N (x0 : List Issu) (y1_0 : Keys) (γ : Type) (fail : γ) (k : Bool × Keys → γ) : γ :=
  bif (decide (x0.length ≤ 4294967296 ∧ y1_0.now.rows.length ≤ 4294967296 ∧ y1_0.before.rows.length ≤ 4294967296)) then
  letK (α := Int × Keys) (g_IndexFunc_Issue_i_HitBy_1 x0 y1_0) fun c1 =>
  k ((decide (0 ≤ c1.1)), c1.2)
  else fail
def g_ContainsFunc_Issue_i_HitBy_1 (x0 : List Issu) (y1_0 : Keys) : Bool × Keys :=
  letK (α := Int × Keys) (g_IndexFunc_Issue_i_HitBy_1 x0 y1_0) fun c1 =>
  ((decide (0 ≤ c1.1)), c1.2)
theorem g_ContainsFunc_Issue_i_HitBy_1_lk (x0 : List Issu) (y1_0 : Keys) : evalFnM te (orcOf (P := Try.prog) [g_IndexFunc_Issue_i_HitBy_1_e, i_HitBy_1_e]) lorc0 [] Try.f87 (pvs [.sc (.sl .issu), .fn 88 [0]] (x0, (), ())) (mos [.box [.c (.int .i64), .c .bool, .c (.int .u64), .c (.int .u64), .c (.sl .macRow), .c .bool, .c (.int .u64), .c (.int .u64), .c (.sl .macRow), .c .bool]] ((y1_0.epoch, y1_0.now.use, y1_0.now.k, y1_0.now.l, y1_0.now.rows, y1_0.before.use, y1_0.before.k, y1_0.before.l, y1_0.before.rows, y1_0.two, ()), ())) =
  g_ContainsFunc_Issue_i_HitBy_1_N x0 y1_0 _ none (fun v => some ([(false, [RC.c (.bool v.1)])] ++ (mos [.box [.c (.int .i64), .c .bool, .c (.int .u64), .c (.int .u64), .c (.sl .macRow), .c .bool, .c (.int .u64), .c (.int .u64), .c (.sl .macRow), .c .bool]] ((v.2.epoch, v.2.now.use, v.2.now.k, v.2.now.l, v.2.now.rows, v.2.before.use, v.2.before.k, v.2.before.l, v.2.before.rows, v.2.two, ()), ())).map encO)) := by kernel_rfl
theorem g_ContainsFunc_Issue_i_HitBy_1_p (x0 : List Issu) (y1_0 : Keys) (hx0 : x0.length ≤ 140737488355328) (hy1_0_epoch : inK .i64 y1_0.epoch) (hy1_0_now_k : inK .u64 y1_0.now.k) (hy1_0_now_l : inK .u64 y1_0.now.l) (hy1_0_now_rows : y1_0.now.rows.length ≤ 140737488355328) (hy1_0_now_rows_e : ∀ y ∈ y1_0.now.rows, ∀ c ∈ Ty.cells .macRow y, FactC c) (hy1_0_before_k : inK .u64 y1_0.before.k) (hy1_0_before_l : inK .u64 y1_0.before.l) (hy1_0_before_rows : y1_0.before.rows.length ≤ 140737488355328) (hy1_0_before_rows_e : ∀ y ∈ y1_0.before.rows, ∀ c ∈ Ty.cells .macRow y, FactC c) (hp : x0.length ≤ 4294967296 ∧ y1_0.now.rows.length ≤ 4294967296 ∧ y1_0.before.rows.length ≤ 4294967296) (γ : Type) (fail : γ) (k : Bool × Keys → γ) : g_ContainsFunc_Issue_i_HitBy_1_N x0 y1_0 γ fail k = k (g_ContainsFunc_Issue_i_HitBy_1 x0 y1_0) := by
  unfold g_ContainsFunc_Issue_i_HitBy_1_N g_ContainsFunc_Issue_i_HitBy_1
  exact bifG (by (try simp only [Nat.ble_eq, Bool.and_eq_true, decide_eq_true_eq]); grind [maxSl, maxStr, toBytes_length, toInts_length, List.length_set, wrap64]) (letT (f := k) (fun c1 hc1 => rfl))
theorem g_ContainsFunc_Issue_i_HitBy_1_c (x0 : List Issu) (y1_0 : Keys) (hp : x0.length ≤ 4294967296 ∧ y1_0.now.rows.length ≤ 4294967296 ∧ y1_0.before.rows.length ≤ 4294967296) : ConM Try.prog 87 (pvs [.sc (.sl .issu), .fn 88 [0]] (x0, (), ())) (mos [.box [.c (.int .i64), .c .bool, .c (.int .u64), .c (.int .u64), .c (.sl .macRow), .c .bool, .c (.int .u64), .c (.int .u64), .c (.sl .macRow), .c .bool]] ((y1_0.epoch, y1_0.now.use, y1_0.now.k, y1_0.now.l, y1_0.now.rows, y1_0.before.use, y1_0.before.k, y1_0.before.l, y1_0.before.rows, y1_0.two, ()), ())) [rv (.sc .bool) [] (g_ContainsFunc_Issue_i_HitBy_1 x0 y1_0).1] (mos [.box [.c (.int .i64), .c .bool, .c (.int .u64), .c (.int .u64), .c (.sl .macRow), .c .bool, .c (.int .u64), .c (.int .u64), .c (.sl .macRow), .c .bool]] ((((g_ContainsFunc_Issue_i_HitBy_1 x0 y1_0).2).epoch, ((g_ContainsFunc_Issue_i_HitBy_1 x0 y1_0).2).now.use, ((g_ContainsFunc_Issue_i_HitBy_1 x0 y1_0).2).now.k, ((g_ContainsFunc_Issue_i_HitBy_1 x0 y1_0).2).now.l, ((g_ContainsFunc_Issue_i_HitBy_1 x0 y1_0).2).now.rows, ((g_ContainsFunc_Issue_i_HitBy_1 x0 y1_0).2).before.use, ((g_ContainsFunc_Issue_i_HitBy_1 x0 y1_0).2).before.k, ((g_ContainsFunc_Issue_i_HitBy_1 x0 y1_0).2).before.l, ((g_ContainsFunc_Issue_i_HitBy_1 x0 y1_0).2).before.rows, ((g_ContainsFunc_Issue_i_HitBy_1 x0 y1_0).2).two, ()), ())) := by
  refine ConM.of_facts (enters_of Try.func87 rfl (by kernel_rfl)) fun hf hg => ?_
  replace hf := factAt hf
  exact evalFn_conLM teFact mixFact (orcOf_ok _) Try.func87 (by kernel_rfl) (bs := []) (by kernel_rfl) (by kernel_rfl) (by kernel_rfl) rfl (fun w0 mo I0 hmo => trivial) ((g_ContainsFunc_Issue_i_HitBy_1_lk x0 y1_0).trans (g_ContainsFunc_Issue_i_HitBy_1_p x0 y1_0 ((hf 0 0 rfl rfl).len) ((mbAt hg 0 0 rfl rfl).rng) ((mbAt hg 0 2 rfl rfl).rng) ((mbAt hg 0 3 rfl rfl).rng) ((mbAt hg 0 4 rfl rfl).len) (fun y hy => (mbAt hg 0 4 rfl rfl).elem hy) ((mbAt hg 0 6 rfl rfl).rng) ((mbAt hg 0 7 rfl rfl).rng) ((mbAt hg 0 8 rfl rfl).len) (fun y hy => (mbAt hg 0 8 rfl rfl).elem hy) hp _ _ _))
noncomputable def g_ContainsFunc_Issue_i_HitBy_1_e : Ent1 Try.prog := entM 87 [.sc (.sl .issu), .fn 88 [0]] [.box [.c (.int .i64), .c .bool, .c (.int .u64), .c (.int .u64), .c (.sl .macRow), .c .bool, .c (.int .u64), .c (.int .u64), .c (.sl .macRow), .c .bool]] (fun x y => (decide (x.1.length ≤ 4294967296 ∧ (⟨y.1.1, ⟨y.1.2.1, y.1.2.2.1, y.1.2.2.2.1, y.1.2.2.2.2.1⟩, ⟨y.1.2.2.2.2.2.1, y.1.2.2.2.2.2.2.1, y.1.2.2.2.2.2.2.2.1, y.1.2.2.2.2.2.2.2.2.1⟩, y.1.2.2.2.2.2.2.2.2.2.1⟩ : Keys).now.rows.length ≤ 4294967296 ∧ (⟨y.1.1, ⟨y.1.2.1, y.1.2.2.1, y.1.2.2.2.1, y.1.2.2.2.2.1⟩, ⟨y.1.2.2.2.2.2.1, y.1.2.2.2.2.2.2.1, y.1.2.2.2.2.2.2.2.1, y.1.2.2.2.2.2.2.2.2.1⟩, y.1.2.2.2.2.2.2.2.2.2.1⟩ : Keys).before.rows.length ≤ 4294967296))) (fun x y => (g_ContainsFunc_Issue_i_HitBy_1 x.1 (⟨y.1.1, ⟨y.1.2.1, y.1.2.2.1, y.1.2.2.2.1, y.1.2.2.2.2.1⟩, ⟨y.1.2.2.2.2.2.1, y.1.2.2.2.2.2.2.1, y.1.2.2.2.2.2.2.2.1, y.1.2.2.2.2.2.2.2.2.1⟩, y.1.2.2.2.2.2.2.2.2.2.1⟩ : Keys))) (fun v => [rv (.sc .bool) [] v.1]) (fun x y v => (mos [.box [.c (.int .i64), .c .bool, .c (.int .u64), .c (.int .u64), .c (.sl .macRow), .c .bool, .c (.int .u64), .c (.int .u64), .c (.sl .macRow), .c .bool]] ((v.2.epoch, v.2.now.use, v.2.now.k, v.2.now.l, v.2.now.rows, v.2.before.use, v.2.before.k, v.2.before.l, v.2.before.rows, v.2.two, ()), ()))) (fun x y hx => g_ContainsFunc_Issue_i_HitBy_1_c x.1 (⟨y.1.1, ⟨y.1.2.1, y.1.2.2.1, y.1.2.2.2.1, y.1.2.2.2.2.1⟩, ⟨y.1.2.2.2.2.2.1, y.1.2.2.2.2.2.2.1, y.1.2.2.2.2.2.2.2.1, y.1.2.2.2.2.2.2.2.2.1⟩, y.1.2.2.2.2.2.2.2.2.2.1⟩ : Keys) (of_decide_eq_true hx))


/-- impl.HitBy -/
def i_HitBy_N (x0 : Keys) (x1 : List Issu) (γ : Type) (fail : γ) (k : Bool → γ) : γ :=
  bif (decide (x1.length ≤ 4294967296 ∧ x0.now.rows.length ≤ 4294967296 ∧ x0.before.rows.length ≤ 4294967296)) then
  letK (α := Bool × Keys) (g_ContainsFunc_Issue_i_HitBy_1 x1 x0) fun c1 =>
  k c1.1
  else fail
def i_HitBy (x0 : Keys) (x1 : List Issu) : Bool :=
  letK (α := Bool × Keys) (g_ContainsFunc_Issue_i_HitBy_1 x1 x0) fun c1 =>
  c1.1
theorem i_HitBy_lk (x0 : Keys) (x1 : List Issu) : evalFn te (orcOf (P := Try.prog) [g_ContainsFunc_Issue_i_HitBy_1_e, i_HitBy_1_e]) lorc0 [] Try.f46 (pvs [.st .keys, .sc (.sl .issu)] (x0, x1, ())) =
  i_HitBy_N x0 x1 _ none (fun v => some [(false, [RC.c (.bool v)])]) := by kernel_rfl
theorem i_HitBy_p (x0 : Keys) (x1 : List Issu) (hx0_epoch : inK .i64 x0.epoch) (hx0_now_k : inK .u64 x0.now.k) (hx0_now_l : inK .u64 x0.now.l) (hx0_now_rows : x0.now.rows.length ≤ 140737488355328) (hx0_now_rows_e : ∀ y ∈ x0.now.rows, ∀ c ∈ Ty.cells .macRow y, FactC c) (hx0_before_k : inK .u64 x0.before.k) (hx0_before_l : inK .u64 x0.before.l) (hx0_before_rows : x0.before.rows.length ≤ 140737488355328) (hx0_before_rows_e : ∀ y ∈ x0.before.rows, ∀ c ∈ Ty.cells .macRow y, FactC c) (hx1 : x1.length ≤ 140737488355328) (hp : x0.now.rows.length ≤ 4294967296 ∧ x0.before.rows.length ≤ 4294967296 ∧ x1.length ≤ 4294967296) (γ : Type) (fail : γ) (k : Bool → γ) : i_HitBy_N x0 x1 γ fail k = k (i_HitBy x0 x1) := by
  unfold i_HitBy_N i_HitBy
  exact bifG (by (try simp only [Nat.ble_eq, Bool.and_eq_true, decide_eq_true_eq]); grind [maxSl, maxStr, toBytes_length, toInts_length, List.length_set, wrap64]) (letT (f := k) (fun c1 hc1 => rfl))
theorem i_HitBy_c (x0 : Keys) (x1 : List Issu) (hp : x0.now.rows.length ≤ 4294967296 ∧ x0.before.rows.length ≤ 4294967296 ∧ x1.length ≤ 4294967296) : Con Try.prog 46 (pvs [.st .keys, .sc (.sl .issu)] (x0, x1, ())) [rv (.sc .bool) [] (i_HitBy x0 x1)] := by
  refine Con.of_facts (enters_of Try.func46 rfl (by kernel_rfl)) fun hf => ?_
  replace hf := factAt hf
  exact evalFn_con0 teFact mixFact (orcOf_ok _) Try.func46 (by kernel_rfl) ((i_HitBy_lk x0 x1).trans (i_HitBy_p x0 x1 ((hf 0 0 rfl rfl).rng) ((hf 0 2 rfl rfl).rng) ((hf 0 3 rfl rfl).rng) ((hf 0 4 rfl rfl).len) (fun y hy => (hf 0 4 rfl rfl).elem hy) ((hf 0 6 rfl rfl).rng) ((hf 0 7 rfl rfl).rng) ((hf 0 8 rfl rfl).len) (fun y hy => (hf 0 8 rfl rfl).elem hy) ((hf 1 0 rfl rfl).len) hp _ _ _))
noncomputable def i_HitBy_e : Ent1 Try.prog := entP 46 [.st .keys, .sc (.sl .issu)] (fun x => (decide (x.1.now.rows.length ≤ 4294967296 ∧ x.1.before.rows.length ≤ 4294967296 ∧ x.2.1.length ≤ 4294967296))) (fun x => (i_HitBy x.1 x.2.1)) (fun v => [rv (.sc .bool) [] v]) (fun x hx => i_HitBy_c x.1 x.2.1 (of_decide_eq_true hx))


/-- impl.ShareOf -/
def i_ShareOf_ann : List (Nat × Keep) := [(0, ⟨[0, 1, 2, 8, 9, 29, 30], [], false, 0⟩), (2, ⟨[0, 1, 2, 8, 9, 10, 36, 37], [], false, 0⟩)]
def i_ShareOf_L0_sh : Sh := ⟨[(0, false, [.int .i64]), (1, false, [.sl .arg .issu]), (2, false, [.int .i64]), (8, false, [.own 0]), (9, false, [.int .i64]), (29, false, [.int .i64]), (30, false, [.int .i64])], [.arr .str false true]⟩
def i_ShareOf_L0_es : List (Ex × Sh) := [(.exit 0, ⟨[(0, false, [.int .i64]), (1, false, [.sl .arg .issu]), (2, false, [.int .i64]), (6, false, [.undef]), (7, false, [.undef]), (8, false, [.own 0]), (9, false, [.int .i64])], [.arr .str false true]⟩)]
def i_ShareOf_L0_mk (v0 : Int) (v1 : List Issu) (v2 : Int) (v3 : Int) (v4 : Int) (v5 : Int) (v6 : List Bytes) : i_ShareOf_L0_sh.T := (((v0, ()), ((v1, ()), ((v2, ()), (((), ()), ((v3, ()), ((v4, ()), ((v5, ()), ()))))))), (v6, ()))
def i_ShareOf_L0_mx0 (y0 : Int) (y1 : List Issu) (y2 : Int) (y3 : Int) (y4 : List Bytes) : Sh.T ⟨[(0, false, [.int .i64]), (1, false, [.sl .arg .issu]), (2, false, [.int .i64]), (6, false, [.undef]), (7, false, [.undef]), (8, false, [.own 0]), (9, false, [.int .i64])], [.arr .str false true]⟩ := (((y0, ()), ((y1, ()), ((y2, ()), (((), ()), (((), ()), (((), ()), ((y3, ()), ()))))))), (y4, ()))
def i_ShareOf_L0_B (v0 : Int) (v1 : List Issu) (v2 : Int) (v3 : Int) (v4 : Int) (v5 : Int) (v6 : List Bytes) (γ : Type) (fail : γ) (next : i_ShareOf_L0_sh.T → γ) (out : WT i_ShareOf_L0_es → γ) : γ :=
  bif (decide (v5 < v4)) then
    next (i_ShareOf_L0_mk v0 v1 v2 (IntKind.wrap .i64 (v3 * v2)) v4 (IntKind.wrap .i64 (v5 + 1)) v6)
  else
  out (i_ShareOf_L0_mx0 v0 v1 v2 v3 v6)
theorem i_ShareOf_L0_par (v0 : Int) (v1 : List Issu) (v2 : Int) (v3 : Int) (v4 : Int) (v5 : Int) (v6 : List Bytes) (γ : Type) (fail : γ) (next : i_ShareOf_L0_sh.T → γ) (out : WT i_ShareOf_L0_es → γ) : i_ShareOf_L0_B v0 v1 v2 v3 v4 v5 v6 γ fail next out = optK (i_ShareOf_L0_B v0 v1 v2 v3 v4 v5 v6 _ none (fun v' => some (.inl v')) (fun w => some (.inr w))) fail (fun r => Sum.elim next out r) := by
  unfold i_ShareOf_L0_B
  exact bifT (f := (fun o => optK o fail (fun r => Sum.elim next out r))) (fun _ => rfl)
      (fun _ => rfl)
def i_ShareOf_L0_r : Round i_ShareOf_L0_sh.T (WT i_ShareOf_L0_es) where
  B v γ fail next out := i_ShareOf_L0_B v.1.1.1 v.1.2.1.1 v.1.2.2.1.1 v.1.2.2.2.2.1.1 v.1.2.2.2.2.2.1.1 v.1.2.2.2.2.2.2.1.1 v.2.1 γ fail next out
  par v γ fail next out := i_ShareOf_L0_par v.1.1.1 v.1.2.1.1 v.1.2.2.1.1 v.1.2.2.2.2.1.1 v.1.2.2.2.2.2.1.1 v.1.2.2.2.2.2.2.1.1 v.2.1 γ fail next out
def i_ShareOf_L0_fu (v0 : Int) (v1 : List Issu) (v2 : Int) (v3 : Int) (v4 : Int) (v5 : Int) (v6 : List Bytes) : Nat := (Int.toNat (v4 - v5)) + 1
theorem i_ShareOf_L0_lk (v : i_ShareOf_L0_sh.T) (next : St → Option Res) (k : Ex → St → Option Res) : evalK te (orcOf (P := Try.prog) [i_within_e, i_WordOk_e, i_GuessInputs_e, i_Assigned_e, i_HitBy_e]) (lorcOf []) Try.f42.ntmps i_ShareOf_ann (nthLoop (bodyOf Try.f42) 0 0) 0 (i_ShareOf_L0_sh.enc v) (endK ⟨[0, 1, 2, 8, 9, 29, 30], [], false, 0⟩ ⟨[0, 1, 2, 6, 7, 8, 9], [], false, 0⟩ next k) =
  i_ShareOf_L0_r.B v _ none (fun v' => next (i_ShareOf_L0_sh.enc v')) (fun w => outK i_ShareOf_L0_es k w) := by kernel_rfl
def i_ShareOf_L0_le : LE := leOf 0 i_ShareOf_L0_sh i_ShareOf_L0_es i_ShareOf_L0_r.step (fun v => i_ShareOf_L0_fu v.1.1.1 v.1.2.1.1 v.1.2.2.1.1 v.1.2.2.2.2.1.1 v.1.2.2.2.2.2.1.1 v.1.2.2.2.2.2.2.1.1 v.2.1)
theorem i_ShareOf_L0_ls (w0 : World) (mo : Mts) (I0 : Nat → Prop) (hmo : mo.length = 0) : LSem Try.prog (Sim w0 mo Try.f42.ntmps I0) (fun b s k => match Nat.beq 0 b with | true => i_ShareOf_L0_le.run s k | false => none) 0 (nthLoop (bodyOf Try.f42) 0 0) :=
  le_sem hmo (lorc := lorcOf []) (ann := i_ShareOf_ann) (keep := ⟨[0, 1, 2, 8, 9, 29, 30], [], false, 0⟩) (kout := ⟨[0, 1, 2, 6, 7, 8, 9], [], false, 0⟩) teFact mixFact (orcOf_ok _) (by kernel_rfl) (allLoops_of (bs := []) (by kernel_rfl) trivial) i_ShareOf_L0_r _ i_ShareOf_L0_lk
def i_ShareOf_L0_f (v0 : Int) (v1 : List Issu) (v2 : Int) (v4 : Int) (v6 : List Bytes) (v5 : Int) (a : Int) : Stp (Int) (Empty) :=
  .next (IntKind.wrap .i64 (a * v2))
theorem i_ShareOf_L0_st (v0 : Int) (v1 : List Issu) (v2 : Int) (v3 : Int) (v4 : Int) (v5 : Int) (v6 : List Bytes) (hlo : 0 ≤ v5) (hhi : v5 < v4) (hN : v4 ≤ 4611686018427387904) (hi0 : 1 ≤ v2) (hi1 : v2 ≤ 4) (hi2 : v4 ≤ 4) (hinv : (v5 = 0 ∧ v3 = 1) ∨ (v5 = 1 ∧ 1 ≤ v3 ∧ v3 ≤ 4) ∨ (v5 = 2 ∧ 1 ≤ v3 ∧ v3 ≤ 16) ∨ (v5 = 3 ∧ 1 ≤ v3 ∧ v3 ≤ 64) ∨ (v5 = 4 ∧ 1 ≤ v3 ∧ v3 ≤ 256)) : i_ShareOf_L0_r.step (i_ShareOf_L0_mk v0 v1 v2 v3 v4 v5 v6) = Stp.elim (fun a' : Int => some (Sum.inl (i_ShareOf_L0_mk v0 v1 v2 a' v4 (v5 + 1) v6))) (fun w => some (Sum.inr ((fun p : Empty => nomatch p) w))) (i_ShareOf_L0_f v0 v1 v2 v4 v6 v5 v3) := by
  have hw : (IntKind.wrap .i64 (v5 + 1)) = v5 + 1 := wrap64 (by omega) (by omega)
  show i_ShareOf_L0_B v0 v1 v2 v3 v4 v5 v6 (Option (i_ShareOf_L0_sh.T ⊕ WT i_ShareOf_L0_es)) none (fun v' => some (Sum.inl v')) (fun w => some (Sum.inr w)) = _
  unfold i_ShareOf_L0_B i_ShareOf_L0_f
  exact bifG (by simp only [decide_eq_true_eq]; omega) ((by exact congrArg (fun z => some (Sum.inl (i_ShareOf_L0_mk v0 v1 v2 (IntKind.wrap .i64 (v3 * v2)) v4 z v6))) hw))
theorem i_ShareOf_L0_cl (v0 : Int) (v1 : List Issu) (v2 : Int) (v3 : Int) (v4 : Int) (v5 : Int) (v6 : List Bytes) (h0 : 0 ≤ v5) (h1 : v4 ≤ 4611686018427387904) (h2 : 1 ≤ v2) (h3 : v2 ≤ 4) (h4 : v4 ≤ 4) (h5 : (v5 = 0 ∧ v3 = 1) ∨ (v5 = 1 ∧ 1 ≤ v3 ∧ v3 ≤ 4) ∨ (v5 = 2 ∧ 1 ≤ v3 ∧ v3 ≤ 16) ∨ (v5 = 3 ∧ 1 ≤ v3 ∧ v3 ≤ 64) ∨ (v5 = 4 ∧ 1 ≤ v3 ∧ v3 ≤ 256)) : loopF i_ShareOf_L0_r.step (i_ShareOf_L0_fu v0 v1 v2 v3 v4 v5 v6) (i_ShareOf_L0_mk v0 v1 v2 v3 v4 v5 v6) = some (Stp.elim (fun a => (fun i a => i_ShareOf_L0_mx0 v0 v1 v2 a v6) (v5 + 1 * (((Int.toNat (v4 - v5)) : Nat) : Int)) a) (fun p : Empty => nomatch p) (forN (i_ShareOf_L0_f v0 v1 v2 v4 v6) 1 (Int.toNat (v4 - v5)) v5 v3)) :=
  forN_loop (step := i_ShareOf_L0_r.step) (mk := fun v5 a => i_ShareOf_L0_mk v0 v1 v2 a v4 v5 v6) (f := i_ShareOf_L0_f v0 v1 v2 v4 v6) (e := (fun i a => i_ShareOf_L0_mx0 v0 v1 v2 a v6)) (emb := (fun p : Empty => nomatch p)) (st := 1) (Inv := fun v5 a => (v5 = 0 ∧ a = 1) ∨ (v5 = 1 ∧ 1 ≤ a ∧ a ≤ 4) ∨ (v5 = 2 ∧ 1 ≤ a ∧ a ≤ 16) ∨ (v5 = 3 ∧ 1 ≤ a ∧ a ≤ 64) ∨ (v5 = 4 ∧ 1 ≤ a ∧ a ≤ 256)) (Int.toNat (v4 - v5)) v5 v3 _ (Nat.lt_succ_self _) h5
    (fun j a hj hv => ⟨i_ShareOf_L0_st v0 v1 v2 a v4 (v5 + 1 * (j : Int)) v6 (by omega) (by omega) (by omega) h2 h3 h4 hv, by
      intro a' he
      unfold i_ShareOf_L0_f at he
      cases he
      have hb : v2 = 1 ∨ v2 = 2 ∨ v2 = 3 ∨ v2 = 4 := by omega
      rcases hb with rfl | rfl | rfl | rfl <;> rw [wrap64 (by omega) (by omega)] <;> omega⟩)
    (fun a hv => by
      show i_ShareOf_L0_B v0 v1 v2 a v4 (v5 + 1 * (((Int.toNat (v4 - v5)) : Nat) : Int)) v6 (Option (i_ShareOf_L0_sh.T ⊕ WT i_ShareOf_L0_es)) none (fun v' => some (Sum.inl v')) (fun w => some (Sum.inr w)) = _
      unfold i_ShareOf_L0_B
      exact bifN (by simp only [decide_eq_false_iff_not]; omega) rfl)
theorem i_ShareOf_L0_nx (v0 : Int) (v1 : List Issu) (v2 : Int) (v3 : Int) (v4 : Int) (v5 : Int) (v6 : List Bytes) (h0 : 0 ≤ v5) (h1 : v4 ≤ 4611686018427387904) (h2 : 1 ≤ v2) (h3 : v2 ≤ 4) (h4 : v4 ≤ 4) (h5 : (v5 = 0 ∧ v3 = 1) ∨ (v5 = 1 ∧ 1 ≤ v3 ∧ v3 ≤ 4) ∨ (v5 = 2 ∧ 1 ≤ v3 ∧ v3 ≤ 16) ∨ (v5 = 3 ∧ 1 ≤ v3 ∧ v3 ≤ 64) ∨ (v5 = 4 ∧ 1 ≤ v3 ∧ v3 ≤ 256)) : ∀ a', forN (i_ShareOf_L0_f v0 v1 v2 v4 v6) 1 (Int.toNat (v4 - v5)) v5 v3 = .next a' → ((v5 + 1 * (((Int.toNat (v4 - v5)) : Nat) : Int)) = 0 ∧ a' = 1) ∨ ((v5 + 1 * (((Int.toNat (v4 - v5)) : Nat) : Int)) = 1 ∧ 1 ≤ a' ∧ a' ≤ 4) ∨ ((v5 + 1 * (((Int.toNat (v4 - v5)) : Nat) : Int)) = 2 ∧ 1 ≤ a' ∧ a' ≤ 16) ∨ ((v5 + 1 * (((Int.toNat (v4 - v5)) : Nat) : Int)) = 3 ∧ 1 ≤ a' ∧ a' ≤ 64) ∨ ((v5 + 1 * (((Int.toNat (v4 - v5)) : Nat) : Int)) = 4 ∧ 1 ≤ a' ∧ a' ≤ 256) :=
  forN_inv (f := i_ShareOf_L0_f v0 v1 v2 v4 v6) (st := 1) (Inv := fun v5 a => (v5 = 0 ∧ a = 1) ∨ (v5 = 1 ∧ 1 ≤ a ∧ a ≤ 4) ∨ (v5 = 2 ∧ 1 ≤ a ∧ a ≤ 16) ∨ (v5 = 3 ∧ 1 ≤ a ∧ a ≤ 64) ∨ (v5 = 4 ∧ 1 ≤ a ∧ a ≤ 256)) (Int.toNat (v4 - v5)) v5 v3 h5
    (fun j a hj hv => by
      intro a' he
      unfold i_ShareOf_L0_f at he
      cases he
      have hb : v2 = 1 ∨ v2 = 2 ∨ v2 = 3 ∨ v2 = 4 := by omega
      rcases hb with rfl | rfl | rfl | rfl <;> rw [wrap64 (by omega) (by omega)] <;> omega)
def i_ShareOf_L1_sh : Sh := ⟨[(0, false, [.int .i64]), (1, false, [.sl .arg .issu]), (2, false, [.int .i64]), (8, false, [.own 0]), (9, false, [.int .i64]), (10, false, [.int .i64]), (36, false, [.int .i64]), (37, false, [.int .i64])], [.arr .str false true]⟩
def i_ShareOf_L1_es : List (Ex × Sh) := [(.exit 2, ⟨[(6, false, [.undef]), (7, false, [.undef]), (9, false, [.int .i64]), (10, false, [.int .i64])], []⟩)]
def i_ShareOf_L1_mk (v0 : Int) (v1 : List Issu) (v2 : Int) (v3 : Int) (v4 : Int) (v5 : Int) (v6 : Int) (v7 : List Bytes) : i_ShareOf_L1_sh.T := (((v0, ()), ((v1, ()), ((v2, ()), (((), ()), ((v3, ()), ((v4, ()), ((v5, ()), ((v6, ()), ())))))))), (v7, ()))
def i_ShareOf_L1_mx0 (y0 : Int) (y1 : Int) : Sh.T ⟨[(6, false, [.undef]), (7, false, [.undef]), (9, false, [.int .i64]), (10, false, [.int .i64])], []⟩ := ((((), ()), (((), ()), ((y0, ()), ((y1, ()), ())))), ())
def i_ShareOf_L1_B (v0 : Int) (v1 : List Issu) (v2 : Int) (v3 : Int) (v4 : Int) (v5 : Int) (v6 : Int) (v7 : List Bytes) (γ : Type) (fail : γ) (next : i_ShareOf_L1_sh.T → γ) (out : WT i_ShareOf_L1_es → γ) : γ :=
  bif (decide (v6 < v5)) then
    bif (decide (v7.length ≤ 4294967296)) then
    letK (α := Mac) (i_Assigned v7 v2 v6) fun c5 =>
    bif (decide ((⟨v0, c5, ⟨false, 0, 0, []⟩, false⟩ : Keys).now.rows.length ≤ 4294967296 ∧ (⟨v0, c5, ⟨false, 0, 0, []⟩, false⟩ : Keys).before.rows.length ≤ 4294967296 ∧ v1.length ≤ 4294967296)) then
    letK (α := Bool) (i_HitBy (⟨v0, c5, ⟨false, 0, 0, []⟩, false⟩ : Keys) v1) fun c6 =>
    bif c6 then
      next (i_ShareOf_L1_mk v0 v1 v2 v3 (IntKind.wrap .i64 (v4 + 1)) v5 (IntKind.wrap .i64 (v6 + 1)) v7)
    else
    next (i_ShareOf_L1_mk v0 v1 v2 v3 v4 v5 (IntKind.wrap .i64 (v6 + 1)) v7)
    else fail
    else fail
  else
  out (i_ShareOf_L1_mx0 v3 v4)
theorem i_ShareOf_L1_par (v0 : Int) (v1 : List Issu) (v2 : Int) (v3 : Int) (v4 : Int) (v5 : Int) (v6 : Int) (v7 : List Bytes) (γ : Type) (fail : γ) (next : i_ShareOf_L1_sh.T → γ) (out : WT i_ShareOf_L1_es → γ) : i_ShareOf_L1_B v0 v1 v2 v3 v4 v5 v6 v7 γ fail next out = optK (i_ShareOf_L1_B v0 v1 v2 v3 v4 v5 v6 v7 _ none (fun v' => some (.inl v')) (fun w => some (.inr w))) fail (fun r => Sum.elim next out r) := by
  unfold i_ShareOf_L1_B
  exact bifT (f := (fun o => optK o fail (fun r => Sum.elim next out r))) (fun _ => bifT (f := (fun o => optK o fail (fun r => Sum.elim next out r))) (fun _ => letT (f := (fun o => optK o fail (fun r => Sum.elim next out r))) (fun c5 _ => bifT (f := (fun o => optK o fail (fun r => Sum.elim next out r))) (fun _ => letT (f := (fun o => optK o fail (fun r => Sum.elim next out r))) (fun c6 _ => bifT (f := (fun o => optK o fail (fun r => Sum.elim next out r))) (fun _ => rfl)
      (fun _ => rfl))) (fun _ => rfl))) (fun _ => rfl))
      (fun _ => rfl)
def i_ShareOf_L1_r : Round i_ShareOf_L1_sh.T (WT i_ShareOf_L1_es) where
  B v γ fail next out := i_ShareOf_L1_B v.1.1.1 v.1.2.1.1 v.1.2.2.1.1 v.1.2.2.2.2.1.1 v.1.2.2.2.2.2.1.1 v.1.2.2.2.2.2.2.1.1 v.1.2.2.2.2.2.2.2.1.1 v.2.1 γ fail next out
  par v γ fail next out := i_ShareOf_L1_par v.1.1.1 v.1.2.1.1 v.1.2.2.1.1 v.1.2.2.2.2.1.1 v.1.2.2.2.2.2.1.1 v.1.2.2.2.2.2.2.1.1 v.1.2.2.2.2.2.2.2.1.1 v.2.1 γ fail next out
def i_ShareOf_L1_fu (v0 : Int) (v1 : List Issu) (v2 : Int) (v3 : Int) (v4 : Int) (v5 : Int) (v6 : Int) (v7 : List Bytes) : Nat := (Int.toNat (v5 - v6)) + 1
theorem i_ShareOf_L1_lk (v : i_ShareOf_L1_sh.T) (next : St → Option Res) (k : Ex → St → Option Res) : evalK te (orcOf (P := Try.prog) [i_within_e, i_WordOk_e, i_GuessInputs_e, i_Assigned_e, i_HitBy_e]) (lorcOf []) Try.f42.ntmps i_ShareOf_ann (nthLoop (bodyOf Try.f42) 0 1) 2 (i_ShareOf_L1_sh.enc v) (endK ⟨[0, 1, 2, 8, 9, 10, 36, 37], [], false, 0⟩ ⟨[6, 7, 9, 10], [], false, 0⟩ next k) =
  i_ShareOf_L1_r.B v _ none (fun v' => next (i_ShareOf_L1_sh.enc v')) (fun w => outK i_ShareOf_L1_es k w) := by kernel_rfl
def i_ShareOf_L1_le : LE := leOf 2 i_ShareOf_L1_sh i_ShareOf_L1_es i_ShareOf_L1_r.step (fun v => i_ShareOf_L1_fu v.1.1.1 v.1.2.1.1 v.1.2.2.1.1 v.1.2.2.2.2.1.1 v.1.2.2.2.2.2.1.1 v.1.2.2.2.2.2.2.1.1 v.1.2.2.2.2.2.2.2.1.1 v.2.1)
theorem i_ShareOf_L1_ls (w0 : World) (mo : Mts) (I0 : Nat → Prop) (hmo : mo.length = 0) : LSem Try.prog (Sim w0 mo Try.f42.ntmps I0) (fun b s k => match Nat.beq 2 b with | true => i_ShareOf_L1_le.run s k | false => none) 2 (nthLoop (bodyOf Try.f42) 0 1) :=
  le_sem hmo (lorc := lorcOf []) (ann := i_ShareOf_ann) (keep := ⟨[0, 1, 2, 8, 9, 10, 36, 37], [], false, 0⟩) (kout := ⟨[6, 7, 9, 10], [], false, 0⟩) teFact mixFact (orcOf_ok _) (by kernel_rfl) (allLoops_of (bs := []) (by kernel_rfl) trivial) i_ShareOf_L1_r _ i_ShareOf_L1_lk
def i_ShareOf_L1_f (v0 : Int) (v1 : List Issu) (v2 : Int) (v3 : Int) (v5 : Int) (v7 : List Bytes) (v6 : Int) (a : Int) : Stp (Int) (Empty) :=
  letK (α := Mac) (i_Assigned v7 v2 v6) fun c5 =>
  letK (α := Bool) (i_HitBy (⟨v0, c5, ⟨false, 0, 0, []⟩, false⟩ : Keys) v1) fun c6 =>
  bif c6 then
    .next (IntKind.wrap .i64 (a + 1))
  else
  .next a
theorem i_ShareOf_L1_st (v0 : Int) (v1 : List Issu) (v2 : Int) (v3 : Int) (v4 : Int) (v5 : Int) (v6 : Int) (v7 : List Bytes) (hlo : 0 ≤ v6) (hhi : v6 < v5) (hN : v5 ≤ 4611686018427387904) (hi0 : v7.length ≤ 4294967296) (hi1 : v1.length ≤ 4294967296) : i_ShareOf_L1_r.step (i_ShareOf_L1_mk v0 v1 v2 v3 v4 v5 v6 v7) = Stp.elim (fun a' : Int => some (Sum.inl (i_ShareOf_L1_mk v0 v1 v2 v3 a' v5 (v6 + 1) v7))) (fun w => some (Sum.inr ((fun p : Empty => nomatch p) w))) (i_ShareOf_L1_f v0 v1 v2 v3 v5 v7 v6 v4) := by
  have hw : (IntKind.wrap .i64 (v6 + 1)) = v6 + 1 := wrap64 (by omega) (by omega)
  show i_ShareOf_L1_B v0 v1 v2 v3 v4 v5 v6 v7 (Option (i_ShareOf_L1_sh.T ⊕ WT i_ShareOf_L1_es)) none (fun v' => some (Sum.inl v')) (fun w => some (Sum.inr w)) = _
  unfold i_ShareOf_L1_B i_ShareOf_L1_f
  exact bifG (by simp only [decide_eq_true_eq]; omega) (bifG (by (try simp only [Nat.ble_eq, Bool.and_eq_true, decide_eq_true_eq]); grind [maxSl, maxStr, toBytes_length, toInts_length, List.length_set, wrap64, i_GuessInputs_len, i_Assigned_len]) (letT (f := (Stp.elim (fun a' : Int => some (Sum.inl (i_ShareOf_L1_mk v0 v1 v2 v3 a' v5 (v6 + 1) v7))) (fun w => some (Sum.inr ((fun p : Empty => nomatch p) w))))) (fun c5 hc5 => bifG (by (try simp only [Nat.ble_eq, Bool.and_eq_true, decide_eq_true_eq]); grind [maxSl, maxStr, toBytes_length, toInts_length, List.length_set, wrap64, i_GuessInputs_len, i_Assigned_len]) (letT (f := (Stp.elim (fun a' : Int => some (Sum.inl (i_ShareOf_L1_mk v0 v1 v2 v3 a' v5 (v6 + 1) v7))) (fun w => some (Sum.inr ((fun p : Empty => nomatch p) w))))) (fun c6 hc6 => bifT (f := (Stp.elim (fun a' : Int => some (Sum.inl (i_ShareOf_L1_mk v0 v1 v2 v3 a' v5 (v6 + 1) v7))) (fun w => some (Sum.inr ((fun p : Empty => nomatch p) w))))) (fun b0 => (by exact congrArg (fun z => some (Sum.inl (i_ShareOf_L1_mk v0 v1 v2 v3 (IntKind.wrap .i64 (v4 + 1)) v5 z v7))) hw))
      (fun b0 => (by exact congrArg (fun z => some (Sum.inl (i_ShareOf_L1_mk v0 v1 v2 v3 v4 v5 z v7))) hw)))))))
theorem i_ShareOf_L1_cl (v0 : Int) (v1 : List Issu) (v2 : Int) (v3 : Int) (v4 : Int) (v5 : Int) (v6 : Int) (v7 : List Bytes) (h0 : 0 ≤ v6) (h1 : v5 ≤ 4611686018427387904) (h2 : v7.length ≤ 4294967296) (h3 : v1.length ≤ 4294967296) : loopF i_ShareOf_L1_r.step (i_ShareOf_L1_fu v0 v1 v2 v3 v4 v5 v6 v7) (i_ShareOf_L1_mk v0 v1 v2 v3 v4 v5 v6 v7) = some (Stp.elim (fun a => (fun i a => i_ShareOf_L1_mx0 v3 a) (v6 + 1 * (((Int.toNat (v5 - v6)) : Nat) : Int)) a) (fun p : Empty => nomatch p) (forN (i_ShareOf_L1_f v0 v1 v2 v3 v5 v7) 1 (Int.toNat (v5 - v6)) v6 v4)) :=
  forN_loop (step := i_ShareOf_L1_r.step) (mk := fun v6 a => i_ShareOf_L1_mk v0 v1 v2 v3 a v5 v6 v7) (f := i_ShareOf_L1_f v0 v1 v2 v3 v5 v7) (e := (fun i a => i_ShareOf_L1_mx0 v3 a)) (emb := (fun p : Empty => nomatch p)) (st := 1) (Inv := fun v6 a => True) (Int.toNat (v5 - v6)) v6 v4 _ (Nat.lt_succ_self _) trivial
    (fun j a hj hv => ⟨i_ShareOf_L1_st v0 v1 v2 v3 a v5 (v6 + 1 * (j : Int)) v7 (by omega) (by omega) (by omega) h2 h3, fun _ _ => trivial⟩)
    (fun a hv => by
      show i_ShareOf_L1_B v0 v1 v2 v3 a v5 (v6 + 1 * (((Int.toNat (v5 - v6)) : Nat) : Int)) v7 (Option (i_ShareOf_L1_sh.T ⊕ WT i_ShareOf_L1_es)) none (fun v' => some (Sum.inl v')) (fun w => some (Sum.inr w)) = _
      unfold i_ShareOf_L1_B
      exact bifN (by simp only [decide_eq_false_iff_not]; omega) rfl)
def i_ShareOf_N (x0 : Int) (x1 : List Issu) (x2 : Int) (γ : Type) (fail : γ) (k : Int × Int → γ) : γ :=
  bif (decide (4 < (x1.length : Int))) then
    k (0, 0)
  else
  letK (α := Bool) (i_within x2 1 4) fun c1 =>
  bif (!c1) then
    k (0, 0)
  else
  letK (α := Bool) (i_WordOk x0 32) fun c2 =>
  bif (!c2) then
    k (0, 0)
  else
  bif (decide (x1.length ≤ 4294967296)) then
  letK (α := List Bytes) (i_GuessInputs x0 x1) fun c3 =>
  optK (loopF i_ShareOf_L0_r.step (i_ShareOf_L0_fu x0 x1 x2 1 (c3.length : Int) 0 c3) (i_ShareOf_L0_mk x0 x1 x2 1 (c3.length : Int) 0 c3)) fail fun w4 =>
    optK (loopF i_ShareOf_L1_r.step (i_ShareOf_L1_fu w4.1.1.1 w4.1.2.1.1 w4.1.2.2.1.1 w4.1.2.2.2.2.2.2.1.1 0 w4.1.2.2.2.2.2.2.1.1 0 w4.2.1) (i_ShareOf_L1_mk w4.1.1.1 w4.1.2.1.1 w4.1.2.2.1.1 w4.1.2.2.2.2.2.2.1.1 0 w4.1.2.2.2.2.2.2.1.1 0 w4.2.1)) fail fun w7 =>
      k (w7.1.2.2.2.1.1, w7.1.2.2.1.1)
  else fail
def i_ShareOf (x0 : Int) (x1 : List Issu) (x2 : Int) : Int × Int :=
  bif (decide (4 < (x1.length : Int))) then
    (0, 0)
  else
  letK (α := Bool) (i_within x2 1 4) fun c1 =>
  bif (!c1) then
    (0, 0)
  else
  letK (α := Bool) (i_WordOk x0 32) fun c2 =>
  bif (!c2) then
    (0, 0)
  else
  letK (α := List Bytes) (i_GuessInputs x0 x1) fun c3 =>
  Stp.elim (fun a9 =>
    Stp.elim (fun a11 =>
      (a11, a9))
      (fun p : Empty => nomatch p)
      (forN (i_ShareOf_L1_f x0 x1 x2 a9 a9 c3) 1 (Int.toNat (a9 - 0)) 0 0))
    (fun p : Empty => nomatch p)
    (forN (i_ShareOf_L0_f x0 x1 x2 (c3.length : Int) c3) 1 (Int.toNat ((c3.length : Int) - 0)) 0 1)
theorem i_ShareOf_lk (x0 : Int) (x1 : List Issu) (x2 : Int) : evalFn te (orcOf (P := Try.prog) [i_within_e, i_WordOk_e, i_GuessInputs_e, i_Assigned_e, i_HitBy_e]) (lorcOf [i_ShareOf_L0_le, i_ShareOf_L1_le]) i_ShareOf_ann Try.f42 (pvs [.sc (.int .i64), .sc (.sl .issu), .sc (.int .i64)] (x0, x1, x2, ())) =
  i_ShareOf_N x0 x1 x2 _ none (fun v => some [(false, [RC.c (.int .i64 v.1)]), (false, [RC.c (.int .i64 v.2)])]) := by kernel_rfl
theorem i_ShareOf_p (x0 : Int) (x1 : List Issu) (x2 : Int) (hx0 : inK .i64 x0) (hx1 : x1.length ≤ 140737488355328) (hx2 : inK .i64 x2) (hp : x1.length ≤ 4294967296) (γ : Type) (fail : γ) (k : Int × Int → γ) : i_ShareOf_N x0 x1 x2 γ fail k = k (i_ShareOf x0 x1 x2) := by
  unfold i_ShareOf_N i_ShareOf
  exact bifT (f := k) (fun b0 => rfl)
      (fun b0 => letT (f := k) (fun c1 hc1 => bifT (f := k) (fun b1 => rfl)
      (fun b1 => letT (f := k) (fun c2 hc2 => bifT (f := k) (fun b2 => rfl)
      (fun b2 => bifG (by (try simp only [Nat.ble_eq, Bool.and_eq_true, decide_eq_true_eq, i_ShareOf_L0_mx0, i_ShareOf_L1_mx0]); grind [maxSl, maxStr, toBytes_length, toInts_length, List.length_set, wrap64, i_within_eq, i_GuessInputs_len, i_Assigned_len]) (letT (f := k) (fun c3 hc3 => loopX (f := k) (i_ShareOf_L0_cl x0 x1 x2 1 (c3.length : Int) 0 c3 (by (try simp only [Nat.ble_eq, Bool.and_eq_true, decide_eq_true_eq, i_ShareOf_L0_mx0, i_ShareOf_L1_mx0]); grind [maxSl, maxStr, toBytes_length, toInts_length, List.length_set, wrap64, i_within_eq, i_GuessInputs_len, i_Assigned_len]) (by (try simp only [Nat.ble_eq, Bool.and_eq_true, decide_eq_true_eq, i_ShareOf_L0_mx0, i_ShareOf_L1_mx0]); grind [maxSl, maxStr, toBytes_length, toInts_length, List.length_set, wrap64, i_within_eq, i_GuessInputs_len, i_Assigned_len]) (by (try simp only [Nat.ble_eq, Bool.and_eq_true, decide_eq_true_eq, i_ShareOf_L0_mx0, i_ShareOf_L1_mx0]); grind [maxSl, maxStr, toBytes_length, toInts_length, List.length_set, wrap64, i_within_eq, i_GuessInputs_len, i_Assigned_len]) (by (try simp only [Nat.ble_eq, Bool.and_eq_true, decide_eq_true_eq, i_ShareOf_L0_mx0, i_ShareOf_L1_mx0]); grind [maxSl, maxStr, toBytes_length, toInts_length, List.length_set, wrap64, i_within_eq, i_GuessInputs_len, i_Assigned_len]) (by (try simp only [Nat.ble_eq, Bool.and_eq_true, decide_eq_true_eq, i_ShareOf_L0_mx0, i_ShareOf_L1_mx0]); grind [maxSl, maxStr, toBytes_length, toInts_length, List.length_set, wrap64, i_within_eq, i_GuessInputs_len, i_Assigned_len]) (by (try simp only [Nat.ble_eq, Bool.and_eq_true, decide_eq_true_eq, i_ShareOf_L0_mx0, i_ShareOf_L1_mx0]); grind [maxSl, maxStr, toBytes_length, toInts_length, List.length_set, wrap64, i_within_eq, i_GuessInputs_len, i_Assigned_len])) (fun a9 ha9 => have ia9 := i_ShareOf_L0_nx x0 x1 x2 1 (c3.length : Int) 0 c3 (by (try simp only [Nat.ble_eq, Bool.and_eq_true, decide_eq_true_eq, i_ShareOf_L0_mx0, i_ShareOf_L1_mx0]); grind [maxSl, maxStr, toBytes_length, toInts_length, List.length_set, wrap64, i_within_eq, i_GuessInputs_len, i_Assigned_len]) (by (try simp only [Nat.ble_eq, Bool.and_eq_true, decide_eq_true_eq, i_ShareOf_L0_mx0, i_ShareOf_L1_mx0]); grind [maxSl, maxStr, toBytes_length, toInts_length, List.length_set, wrap64, i_within_eq, i_GuessInputs_len, i_Assigned_len]) (by (try simp only [Nat.ble_eq, Bool.and_eq_true, decide_eq_true_eq, i_ShareOf_L0_mx0, i_ShareOf_L1_mx0]); grind [maxSl, maxStr, toBytes_length, toInts_length, List.length_set, wrap64, i_within_eq, i_GuessInputs_len, i_Assigned_len]) (by (try simp only [Nat.ble_eq, Bool.and_eq_true, decide_eq_true_eq, i_ShareOf_L0_mx0, i_ShareOf_L1_mx0]); grind [maxSl, maxStr, toBytes_length, toInts_length, List.length_set, wrap64, i_within_eq, i_GuessInputs_len, i_Assigned_len]) (by (try simp only [Nat.ble_eq, Bool.and_eq_true, decide_eq_true_eq, i_ShareOf_L0_mx0, i_ShareOf_L1_mx0]); grind [maxSl, maxStr, toBytes_length, toInts_length, List.length_set, wrap64, i_within_eq, i_GuessInputs_len, i_Assigned_len]) (by (try simp only [Nat.ble_eq, Bool.and_eq_true, decide_eq_true_eq, i_ShareOf_L0_mx0, i_ShareOf_L1_mx0]); grind [maxSl, maxStr, toBytes_length, toInts_length, List.length_set, wrap64, i_within_eq, i_GuessInputs_len, i_Assigned_len]) _ ha9; loopT (f := k) (i_ShareOf_L1_cl x0 x1 x2 a9 0 a9 0 c3 (by (try simp only [Nat.ble_eq, Bool.and_eq_true, decide_eq_true_eq, i_ShareOf_L0_mx0, i_ShareOf_L1_mx0]); grind [maxSl, maxStr, toBytes_length, toInts_length, List.length_set, wrap64, i_within_eq, i_GuessInputs_len, i_Assigned_len]) (by (try simp only [Nat.ble_eq, Bool.and_eq_true, decide_eq_true_eq, i_ShareOf_L0_mx0, i_ShareOf_L1_mx0]); grind [maxSl, maxStr, toBytes_length, toInts_length, List.length_set, wrap64, i_within_eq, i_GuessInputs_len, i_Assigned_len]) (by (try simp only [Nat.ble_eq, Bool.and_eq_true, decide_eq_true_eq, i_ShareOf_L0_mx0, i_ShareOf_L1_mx0]); grind [maxSl, maxStr, toBytes_length, toInts_length, List.length_set, wrap64, i_within_eq, i_GuessInputs_len, i_Assigned_len]) (by (try simp only [Nat.ble_eq, Bool.and_eq_true, decide_eq_true_eq, i_ShareOf_L0_mx0, i_ShareOf_L1_mx0]); grind [maxSl, maxStr, toBytes_length, toInts_length, List.length_set, wrap64, i_within_eq, i_GuessInputs_len, i_Assigned_len])) (fun a11 => rfl)
      (fun p : Empty => nomatch p))
      (fun p : Empty => nomatch p))))))))
theorem i_ShareOf_c (x0 : Int) (x1 : List Issu) (x2 : Int) (hp : x1.length ≤ 4294967296) : Con Try.prog 42 (pvs [.sc (.int .i64), .sc (.sl .issu), .sc (.int .i64)] (x0, x1, x2, ())) [rv (.sc (.int .i64)) [] (i_ShareOf x0 x1 x2).1, rv (.sc (.int .i64)) [] (i_ShareOf x0 x1 x2).2] := by
  refine Con.of_facts (enters_of Try.func42 rfl (by kernel_rfl)) fun hf => ?_
  replace hf := factAt hf
  exact evalFn_conL teFact mixFact (orcOf_ok _) Try.func42 (by kernel_rfl) (bs := [0, 2]) (by kernel_rfl) (by kernel_rfl) (fun w0 mo I0 hmo => ⟨lsem_of_lorc (i_ShareOf_L0_ls w0 mo I0 hmo) (by kernel_rfl), lsem_of_lorc (i_ShareOf_L1_ls w0 mo I0 hmo) (by kernel_rfl), trivial⟩) ((i_ShareOf_lk x0 x1 x2).trans (i_ShareOf_p x0 x1 x2 ((hf 0 0 rfl rfl).rng) ((hf 1 0 rfl rfl).len) ((hf 2 0 rfl rfl).rng) hp _ _ _))
noncomputable def i_ShareOf_e : Ent1 Try.prog := entP 42 [.sc (.int .i64), .sc (.sl .issu), .sc (.int .i64)] (fun x => (decide (x.2.1.length ≤ 4294967296))) (fun x => (i_ShareOf x.1 x.2.1 x.2.2.1)) (fun v => [rv (.sc (.int .i64)) [] v.1, rv (.sc (.int .i64)) [] v.2]) (fun x hx => i_ShareOf_c x.1 x.2.1 x.2.2.1 (of_decide_eq_true hx))


/-- spec.l1Whole -/
def s_l1Whole_N (y0 : Curs) (γ : Type) (fail : γ) (k : Int × Curs → γ) : γ :=
  bif (decide (0 ≤ y0.i ∧ y0.b.length ≤ 1048576)) then
  letK (α := Int × Curs) (s_l1Below y0 3) fun c1 =>
  bif (c1.1 == 0) then
    bif (decide ((0 ≤ c1.2.i ∧ c1.2.b.length ≤ 1048576) ∧ 0 < ([0, 1, (-1), 9, 10, 999999999999, 1000000000000, 9223372036854775807, 4294967295, 4294967296, 65535, 65536, (-9223372036854775808)] : List Int).length)) then
    letK (α := Int × Curs) (s_l1PickInt c1.2 [0, 1, (-1), 9, 10, 999999999999, 1000000000000, 9223372036854775807, 4294967295, 4294967296, 65535, 65536, (-9223372036854775808)]) fun c2 =>
    k (c2.1, c2.2)
    else fail
  else
  bif (c1.1 == 1) then
    bif (decide (0 ≤ c1.2.i ∧ c1.2.b.length ≤ 1048576)) then
    letK (α := Int × Curs) (s_l1Below c1.2 1000000) fun c3 =>
    k ((IntKind.wrap .i64 (c3.1 - 500000)), c3.2)
    else fail
  else
  bif (decide (0 ≤ c1.2.i ∧ c1.2.b.length ≤ 1048576)) then
  letK (α := Int × Curs) (s_l1Below c1.2 20) fun c4 =>
  k (c4.1, c4.2)
  else fail
  else fail
def s_l1Whole (y0 : Curs) : Int × Curs :=
  letK (α := Int × Curs) (s_l1Below y0 3) fun c1 =>
  bif (c1.1 == 0) then
    letK (α := Int × Curs) (s_l1PickInt c1.2 [0, 1, (-1), 9, 10, 999999999999, 1000000000000, 9223372036854775807, 4294967295, 4294967296, 65535, 65536, (-9223372036854775808)]) fun c2 =>
    (c2.1, c2.2)
  else
  bif (c1.1 == 1) then
    letK (α := Int × Curs) (s_l1Below c1.2 1000000) fun c3 =>
    ((IntKind.wrap .i64 (c3.1 - 500000)), c3.2)
  else
  letK (α := Int × Curs) (s_l1Below c1.2 20) fun c4 =>
  (c4.1, c4.2)
theorem s_l1Whole_lk (y0 : Curs) : evalFnM te (orcOf (P := Try.prog) [s_l1Below_e, s_l1PickInt_e]) lorc0 [] Try.f126 (pvs [.wr false [.ptr 0]] ((), ())) (mos [.box [.c (.sl .u8), .c (.int .i64), .c (.int .i64)]] ((y0.b, y0.i, y0.h, ()), ())) =
  s_l1Whole_N y0 _ none (fun v => some ([(false, [RC.c (.int .i64 v.1)])] ++ (mos [.box [.c (.sl .u8), .c (.int .i64), .c (.int .i64)]] ((v.2.b, v.2.i, v.2.h, ()), ())).map encO)) := by kernel_rfl
theorem s_l1Whole_p (y0 : Curs) (hy0_b : y0.b.length ≤ 140737488355328) (hy0_i : inK .i64 y0.i) (hy0_h : inK .i64 y0.h) (hp : 0 ≤ y0.i ∧ y0.b.length ≤ 1048576) (γ : Type) (fail : γ) (k : Int × Curs → γ) : s_l1Whole_N y0 γ fail k = k (s_l1Whole y0) := by
  unfold s_l1Whole_N s_l1Whole
  exact bifG (by (try simp only [Nat.ble_eq, Bool.and_eq_true, decide_eq_true_eq]); grind [maxSl, maxStr, toBytes_length, toInts_length, List.length_set, wrap64, s_l1Below_rng, s_l1Below_cur, s_l1PickInt_cur]) (letT (f := k) (fun c1 hc1 => have rc1 := s_l1Below_rng y0 3 (by first | assumption | exact ⟨by assumption, by assumption⟩ | grind [maxSl, wrap64]); have kc1 : 0 ≤ c1.2.i ∧ c1.2.b.length ≤ 1048576 := (by rw [hc1]; exact s_l1Below_cur _ _ (by first | assumption | exact ⟨by assumption, by assumption⟩ | grind [maxSl, wrap64])); bifT (f := k) (fun b0 => bifG (by (try simp only [Nat.ble_eq, Bool.and_eq_true, decide_eq_true_eq]); grind [maxSl, maxStr, toBytes_length, toInts_length, List.length_set, wrap64, s_l1Below_rng, s_l1Below_cur, s_l1PickInt_cur]) (letT (f := k) (fun c2 hc2 => have kc2 : 0 ≤ c2.2.i ∧ c2.2.b.length ≤ 1048576 := (by rw [hc2]; exact s_l1PickInt_cur _ _ (by first | assumption | exact ⟨by assumption, by assumption⟩ | grind [maxSl, wrap64]) (by first | assumption | exact ⟨by assumption, by assumption⟩ | grind [maxSl, wrap64])); rfl)))
      (fun b0 => bifT (f := k) (fun b1 => bifG (by (try simp only [Nat.ble_eq, Bool.and_eq_true, decide_eq_true_eq]); grind [maxSl, maxStr, toBytes_length, toInts_length, List.length_set, wrap64, s_l1Below_rng, s_l1Below_cur, s_l1PickInt_cur]) (letT (f := k) (fun c3 hc3 => have rc3 := s_l1Below_rng c1.2 1000000 (by first | assumption | exact ⟨by assumption, by assumption⟩ | grind [maxSl, wrap64]); have kc3 : 0 ≤ c3.2.i ∧ c3.2.b.length ≤ 1048576 := (by rw [hc3]; exact s_l1Below_cur _ _ (by first | assumption | exact ⟨by assumption, by assumption⟩ | grind [maxSl, wrap64])); rfl)))
      (fun b1 => bifG (by (try simp only [Nat.ble_eq, Bool.and_eq_true, decide_eq_true_eq]); grind [maxSl, maxStr, toBytes_length, toInts_length, List.length_set, wrap64, s_l1Below_rng, s_l1Below_cur, s_l1PickInt_cur]) (letT (f := k) (fun c4 hc4 => have rc4 := s_l1Below_rng c1.2 20 (by first | assumption | exact ⟨by assumption, by assumption⟩ | grind [maxSl, wrap64]); have kc4 : 0 ≤ c4.2.i ∧ c4.2.b.length ≤ 1048576 := (by rw [hc4]; exact s_l1Below_cur _ _ (by first | assumption | exact ⟨by assumption, by assumption⟩ | grind [maxSl, wrap64])); rfl))))))
theorem s_l1Whole_c (y0 : Curs) (hp : 0 ≤ y0.i ∧ y0.b.length ≤ 1048576) : ConM Try.prog 126 (pvs [.wr false [.ptr 0]] ((), ())) (mos [.box [.c (.sl .u8), .c (.int .i64), .c (.int .i64)]] ((y0.b, y0.i, y0.h, ()), ())) [rv (.sc (.int .i64)) [] (s_l1Whole y0).1] (mos [.box [.c (.sl .u8), .c (.int .i64), .c (.int .i64)]] ((((s_l1Whole y0).2).b, ((s_l1Whole y0).2).i, ((s_l1Whole y0).2).h, ()), ())) := by
  refine ConM.of_facts (enters_of Try.func126 rfl (by kernel_rfl)) fun hf hg => ?_
  replace hf := factAt hf
  exact evalFn_conLM teFact mixFact (orcOf_ok _) Try.func126 (by kernel_rfl) (bs := []) (by kernel_rfl) (by kernel_rfl) (by kernel_rfl) rfl (fun w0 mo I0 hmo => trivial) ((s_l1Whole_lk y0).trans (s_l1Whole_p y0 ((mbAt hg 0 0 rfl rfl).len) ((mbAt hg 0 1 rfl rfl).rng) ((mbAt hg 0 2 rfl rfl).rng) hp _ _ _))
noncomputable def s_l1Whole_e : Ent1 Try.prog := entM 126 [.wr false [.ptr 0]] [.box [.c (.sl .u8), .c (.int .i64), .c (.int .i64)]] (fun x y => (decide (0 ≤ (⟨y.1.1, y.1.2.1, y.1.2.2.1⟩ : Curs).i ∧ (⟨y.1.1, y.1.2.1, y.1.2.2.1⟩ : Curs).b.length ≤ 1048576))) (fun x y => (s_l1Whole (⟨y.1.1, y.1.2.1, y.1.2.2.1⟩ : Curs))) (fun v => [rv (.sc (.int .i64)) [] v.1]) (fun x y v => (mos [.box [.c (.sl .u8), .c (.int .i64), .c (.int .i64)]] ((v.2.b, v.2.i, v.2.h, ()), ()))) (fun x y hx => s_l1Whole_c (⟨y.1.1, y.1.2.1, y.1.2.2.1⟩ : Curs) (of_decide_eq_true hx))

theorem s_l1Whole_cur (y0 : Curs)  (hc0 : 0 ≤ y0.i ∧ y0.b.length ≤ 1048576) : 0 ≤ (s_l1Whole y0).2.i ∧ (s_l1Whole y0).2.b.length ≤ 1048576 := by
  unfold s_l1Whole
  exact letP (P := (fun v : Int × Curs => 0 ≤ v.2.i ∧ v.2.b.length ≤ 1048576)) (fun c1 hc1 => have rc1 := s_l1Below_rng y0 3 (by first | assumption | exact ⟨by assumption, by assumption⟩ | grind [maxSl, wrap64]); have kc1 : 0 ≤ c1.2.i ∧ c1.2.b.length ≤ 1048576 := (by rw [hc1]; exact s_l1Below_cur _ _ (by first | assumption | exact ⟨by assumption, by assumption⟩ | grind [maxSl, wrap64])); bifP (P := (fun v : Int × Curs => 0 ≤ v.2.i ∧ v.2.b.length ≤ 1048576)) (fun b0 => letP (P := (fun v : Int × Curs => 0 ≤ v.2.i ∧ v.2.b.length ≤ 1048576)) (fun c2 hc2 => have kc2 : 0 ≤ c2.2.i ∧ c2.2.b.length ≤ 1048576 := (by rw [hc2]; exact s_l1PickInt_cur _ _ (by first | assumption | exact ⟨by assumption, by assumption⟩ | grind [maxSl, wrap64]) (by first | assumption | exact ⟨by assumption, by assumption⟩ | grind [maxSl, wrap64])); (by (try simp only [Nat.ble_eq, Bool.and_eq_true, decide_eq_true_eq]); grind [maxSl, maxStr, toBytes_length, toInts_length, List.length_set, wrap64, s_l1Below_rng, s_l1Below_cur, s_l1PickInt_cur])))
      (fun b0 => bifP (P := (fun v : Int × Curs => 0 ≤ v.2.i ∧ v.2.b.length ≤ 1048576)) (fun b1 => letP (P := (fun v : Int × Curs => 0 ≤ v.2.i ∧ v.2.b.length ≤ 1048576)) (fun c3 hc3 => have rc3 := s_l1Below_rng c1.2 1000000 (by first | assumption | exact ⟨by assumption, by assumption⟩ | grind [maxSl, wrap64]); have kc3 : 0 ≤ c3.2.i ∧ c3.2.b.length ≤ 1048576 := (by rw [hc3]; exact s_l1Below_cur _ _ (by first | assumption | exact ⟨by assumption, by assumption⟩ | grind [maxSl, wrap64])); (by (try simp only [Nat.ble_eq, Bool.and_eq_true, decide_eq_true_eq]); grind [maxSl, maxStr, toBytes_length, toInts_length, List.length_set, wrap64, s_l1Below_rng, s_l1Below_cur, s_l1PickInt_cur])))
      (fun b1 => letP (P := (fun v : Int × Curs => 0 ≤ v.2.i ∧ v.2.b.length ≤ 1048576)) (fun c4 hc4 => have rc4 := s_l1Below_rng c1.2 20 (by first | assumption | exact ⟨by assumption, by assumption⟩ | grind [maxSl, wrap64]); have kc4 : 0 ≤ c4.2.i ∧ c4.2.b.length ≤ 1048576 := (by rw [hc4]; exact s_l1Below_cur _ _ (by first | assumption | exact ⟨by assumption, by assumption⟩ | grind [maxSl, wrap64])); (by (try simp only [Nat.ble_eq, Bool.and_eq_true, decide_eq_true_eq]); grind [maxSl, maxStr, toBytes_length, toInts_length, List.length_set, wrap64, s_l1Below_rng, s_l1Below_cur, s_l1PickInt_cur])))))

/-- spec.l2Deep -/
def s_l2Deep_ann : List (Nat × Keep) := [(0, ⟨[0, 3, 4], [], false, 1⟩)]
def s_l2Deep_L0_sh : Sh := ⟨[(0, false, [.ptr 0 0]), (3, false, [.int .i64]), (4, false, [.int .i64])], [.box [.sl .any .u8, .int .i64, .int .i64]]⟩
def s_l2Deep_L0_es : List (Ex × Sh) := [(.exit 0, ⟨[(2, false, [.undef]), (3, false, [.int .i64])], [.box [.sl .any .u8, .int .i64, .int .i64]]⟩)]
def s_l2Deep_L0_mk (v0 : Int) (v1 : Int) (v2 : List Int) (v3 : Int) (v4 : Int) : s_l2Deep_L0_sh.T := ((((), ()), ((v0, ()), ((v1, ()), ()))), ((v2, (v3, (v4, ()))), ()))
def s_l2Deep_L0_mx0 (y0 : Int) (y1 : List Int) (y2 : Int) (y3 : Int) : Sh.T ⟨[(2, false, [.undef]), (3, false, [.int .i64])], [.box [.sl .any .u8, .int .i64, .int .i64]]⟩ := ((((), ()), ((y0, ()), ())), ((y1, (y2, (y3, ()))), ()))
def s_l2Deep_L0_B (v0 : Int) (v1 : Int) (v2 : List Int) (v3 : Int) (v4 : Int) (γ : Type) (fail : γ) (next : s_l2Deep_L0_sh.T → γ) (out : WT s_l2Deep_L0_es → γ) : γ :=
  bif (decide (v1 < 4)) then
    bif (decide (0 ≤ (⟨v2, v3, v4⟩ : Curs).i ∧ (⟨v2, v3, v4⟩ : Curs).b.length ≤ 1048576)) then
    letK (α := Int × Curs) (s_l1Byte (⟨v2, v3, v4⟩ : Curs)) fun c3 =>
    next (s_l2Deep_L0_mk (IntKind.wrap .i64 ((IntKind.wrap .i64 (256 * v0)) + c3.1)) (IntKind.wrap .i64 (v1 + 1)) c3.2.b c3.2.i c3.2.h)
    else fail
  else
  out (s_l2Deep_L0_mx0 v0 v2 v3 v4)
theorem s_l2Deep_L0_par (v0 : Int) (v1 : Int) (v2 : List Int) (v3 : Int) (v4 : Int) (γ : Type) (fail : γ) (next : s_l2Deep_L0_sh.T → γ) (out : WT s_l2Deep_L0_es → γ) : s_l2Deep_L0_B v0 v1 v2 v3 v4 γ fail next out = optK (s_l2Deep_L0_B v0 v1 v2 v3 v4 _ none (fun v' => some (.inl v')) (fun w => some (.inr w))) fail (fun r => Sum.elim next out r) := by
  unfold s_l2Deep_L0_B
  exact bifT (f := (fun o => optK o fail (fun r => Sum.elim next out r))) (fun _ => bifT (f := (fun o => optK o fail (fun r => Sum.elim next out r))) (fun _ => letT (f := (fun o => optK o fail (fun r => Sum.elim next out r))) (fun c3 _ => rfl)) (fun _ => rfl))
      (fun _ => rfl)
def s_l2Deep_L0_r : Round s_l2Deep_L0_sh.T (WT s_l2Deep_L0_es) where
  B v γ fail next out := s_l2Deep_L0_B v.1.2.1.1 v.1.2.2.1.1 v.2.1.1 v.2.1.2.1 v.2.1.2.2.1 γ fail next out
  par v γ fail next out := s_l2Deep_L0_par v.1.2.1.1 v.1.2.2.1.1 v.2.1.1 v.2.1.2.1 v.2.1.2.2.1 γ fail next out
def s_l2Deep_L0_fu (v0 : Int) (v1 : Int) (v2 : List Int) (v3 : Int) (v4 : Int) : Nat := (Int.toNat (4 - v1)) + 1
theorem s_l2Deep_L0_lk (v : s_l2Deep_L0_sh.T) (next : St → Option Res) (k : Ex → St → Option Res) : evalK te (orcOf (P := Try.prog) [s_l1Once_e, s_l1PickInt_e, s_l1Byte_e]) (lorcOf []) Try.f127.ntmps s_l2Deep_ann (nthLoop (bodyOf Try.f127) 0 0) 0 (s_l2Deep_L0_sh.enc v) (endK ⟨[0, 3, 4], [], false, 1⟩ ⟨[2, 3], [], false, 1⟩ next k) =
  s_l2Deep_L0_r.B v _ none (fun v' => next (s_l2Deep_L0_sh.enc v')) (fun w => outK s_l2Deep_L0_es k w) := by kernel_rfl
def s_l2Deep_L0_le : LE := leOf 0 s_l2Deep_L0_sh s_l2Deep_L0_es s_l2Deep_L0_r.step (fun v => s_l2Deep_L0_fu v.1.2.1.1 v.1.2.2.1.1 v.2.1.1 v.2.1.2.1 v.2.1.2.2.1)
theorem s_l2Deep_L0_ls (w0 : World) (mo : Mts) (I0 : Nat → Prop) (hmo : mo.length = 1) : LSem Try.prog (Sim w0 mo Try.f127.ntmps I0) (fun b s k => match Nat.beq 0 b with | true => s_l2Deep_L0_le.run s k | false => none) 0 (nthLoop (bodyOf Try.f127) 0 0) :=
  le_sem hmo (lorc := lorcOf []) (ann := s_l2Deep_ann) (keep := ⟨[0, 3, 4], [], false, 1⟩) (kout := ⟨[2, 3], [], false, 1⟩) teFact mixFact (orcOf_ok _) (by kernel_rfl) (allLoops_of (bs := []) (by kernel_rfl) trivial) s_l2Deep_L0_r _ s_l2Deep_L0_lk
def s_l2Deep_L0_f  (v1 : Int) (a : Int × List Int × Int × Int) : Stp (Int × List Int × Int × Int) (Empty) :=
  letK (α := Int × Curs) (s_l1Byte (⟨a.2.1, a.2.2.1, a.2.2.2⟩ : Curs)) fun c3 =>
  .next ((IntKind.wrap .i64 ((IntKind.wrap .i64 (256 * a.1)) + c3.1)), c3.2.b, c3.2.i, c3.2.h)
theorem s_l2Deep_L0_st (v0 : Int) (v1 : Int) (v2 : List Int) (v3 : Int) (v4 : Int) (hlo : 0 ≤ v1) (hhi : v1 < 4) (hN : 4 ≤ 4611686018427387904) (hinv : 0 ≤ v3 ∧ v2.length ≤ 1048576) : s_l2Deep_L0_r.step (s_l2Deep_L0_mk v0 v1 v2 v3 v4) = Stp.elim (fun a' : Int × List Int × Int × Int => some (Sum.inl (s_l2Deep_L0_mk a'.1 (v1 + 1) a'.2.1 a'.2.2.1 a'.2.2.2))) (fun w => some (Sum.inr ((fun p : Empty => nomatch p) w))) (s_l2Deep_L0_f  v1 (v0, v2, v3, v4)) := by
  have hw : (IntKind.wrap .i64 (v1 + 1)) = v1 + 1 := wrap64 (by omega) (by omega)
  show s_l2Deep_L0_B v0 v1 v2 v3 v4 (Option (s_l2Deep_L0_sh.T ⊕ WT s_l2Deep_L0_es)) none (fun v' => some (Sum.inl v')) (fun w => some (Sum.inr w)) = _
  unfold s_l2Deep_L0_B s_l2Deep_L0_f
  exact bifG (by simp only [decide_eq_true_eq]; omega) (bifG (by (try simp only [Nat.ble_eq, Bool.and_eq_true, decide_eq_true_eq]); grind [maxSl, maxStr, toBytes_length, toInts_length, List.length_set, wrap64, s_l1Once_cur, s_l1PickInt_cur, s_l1Byte_rng, s_l1Byte_cur]) (letT (f := (Stp.elim (fun a' : Int × List Int × Int × Int => some (Sum.inl (s_l2Deep_L0_mk a'.1 (v1 + 1) a'.2.1 a'.2.2.1 a'.2.2.2))) (fun w => some (Sum.inr ((fun p : Empty => nomatch p) w))))) (fun (c3 : Int × Curs) hc3 => have rc3 := s_l1Byte_rng (⟨v2, v3, v4⟩ : Curs) (by first | assumption | exact ⟨by assumption, by assumption⟩ | grind [maxSl, wrap64, s_l2Deep_L0_mx0]); have kc3 : 0 ≤ c3.2.i ∧ c3.2.b.length ≤ 1048576 := (by rw [hc3]; exact s_l1Byte_cur _ (by first | assumption | exact ⟨by assumption, by assumption⟩ | grind [maxSl, wrap64, s_l2Deep_L0_mx0])); (by exact congrArg (fun z => some (Sum.inl (s_l2Deep_L0_mk (IntKind.wrap .i64 ((IntKind.wrap .i64 (256 * v0)) + c3.1)) z c3.2.b c3.2.i c3.2.h))) hw))))
theorem s_l2Deep_L0_cl (v0 : Int) (v1 : Int) (v2 : List Int) (v3 : Int) (v4 : Int) (h0 : 0 ≤ v1) (h1 : 4 ≤ 4611686018427387904) (h2 : 0 ≤ v3 ∧ v2.length ≤ 1048576) : loopF s_l2Deep_L0_r.step (s_l2Deep_L0_fu v0 v1 v2 v3 v4) (s_l2Deep_L0_mk v0 v1 v2 v3 v4) = some (Stp.elim (fun a => (fun i a => s_l2Deep_L0_mx0 a.1 a.2.1 a.2.2.1 a.2.2.2) (v1 + 1 * (((Int.toNat (4 - v1)) : Nat) : Int)) a) (fun p : Empty => nomatch p) (forN (s_l2Deep_L0_f ) 1 (Int.toNat (4 - v1)) v1 (v0, v2, v3, v4))) :=
  forN_loop (step := s_l2Deep_L0_r.step) (mk := fun v1 a => s_l2Deep_L0_mk a.1 v1 a.2.1 a.2.2.1 a.2.2.2) (f := s_l2Deep_L0_f ) (e := (fun i a => s_l2Deep_L0_mx0 a.1 a.2.1 a.2.2.1 a.2.2.2)) (emb := (fun p : Empty => nomatch p)) (st := 1) (Inv := fun v1 a => 0 ≤ a.2.2.1 ∧ a.2.1.length ≤ 1048576) (Int.toNat (4 - v1)) v1 (v0, v2, v3, v4) _ (Nat.lt_succ_self _) h2
    (fun j a hj hv => ⟨s_l2Deep_L0_st a.1 (v1 + 1 * (j : Int)) a.2.1 a.2.2.1 a.2.2.2 (by omega) (by omega) (by omega) hv, by
      intro a' he
      unfold s_l2Deep_L0_f at he
      simp only [letK] at he
      cases he
      exact s_l1Byte_cur _ hv⟩)
    (fun a hv => by
      show s_l2Deep_L0_B a.1 (v1 + 1 * (((Int.toNat (4 - v1)) : Nat) : Int)) a.2.1 a.2.2.1 a.2.2.2 (Option (s_l2Deep_L0_sh.T ⊕ WT s_l2Deep_L0_es)) none (fun v' => some (Sum.inl v')) (fun w => some (Sum.inr w)) = _
      unfold s_l2Deep_L0_B
      exact bifN (by simp only [decide_eq_false_iff_not]; omega) rfl)
theorem s_l2Deep_L0_nx (v0 : Int) (v1 : Int) (v2 : List Int) (v3 : Int) (v4 : Int) (h0 : 0 ≤ v1) (h1 : 4 ≤ 4611686018427387904) (h2 : 0 ≤ v3 ∧ v2.length ≤ 1048576) : ∀ a', forN (s_l2Deep_L0_f ) 1 (Int.toNat (4 - v1)) v1 (v0, v2, v3, v4) = .next a' → 0 ≤ a'.2.2.1 ∧ a'.2.1.length ≤ 1048576 :=
  forN_inv (f := s_l2Deep_L0_f ) (st := 1) (Inv := fun v1 a => 0 ≤ a.2.2.1 ∧ a.2.1.length ≤ 1048576) (Int.toNat (4 - v1)) v1 (v0, v2, v3, v4) h2
    (fun j a hj hv => by
      intro a' he
      unfold s_l2Deep_L0_f at he
      simp only [letK] at he
      cases he
      exact s_l1Byte_cur _ hv)
def s_l2Deep_N (y0 : Curs) (γ : Type) (fail : γ) (k : Int × Curs → γ) : γ :=
  bif (decide (0 ≤ y0.i ∧ y0.b.length ≤ 1048576)) then
  letK (α := Bool × Curs) (s_l1Once y0 3) fun c1 =>
  bif c1.1 then
    bif (decide ((0 ≤ c1.2.i ∧ c1.2.b.length ≤ 1048576) ∧ 0 < ([0, 1, 4294967295, 2147483647, 2147483648, 4294967294] : List Int).length)) then
    letK (α := Int × Curs) (s_l1PickInt c1.2 [0, 1, 4294967295, 2147483647, 2147483648, 4294967294]) fun c2 =>
    k (c2.1, c2.2)
    else fail
  else
  optK (loopF s_l2Deep_L0_r.step (s_l2Deep_L0_fu 0 0 c1.2.b c1.2.i c1.2.h) (s_l2Deep_L0_mk 0 0 c1.2.b c1.2.i c1.2.h)) fail fun w4 =>
    k (w4.1.2.1.1, (⟨w4.2.1.1, w4.2.1.2.1, w4.2.1.2.2.1⟩ : Curs))
  else fail
def s_l2Deep (y0 : Curs) : Int × Curs :=
  letK (α := Bool × Curs) (s_l1Once y0 3) fun c1 =>
  bif c1.1 then
    letK (α := Int × Curs) (s_l1PickInt c1.2 [0, 1, 4294967295, 2147483647, 2147483648, 4294967294]) fun c2 =>
    (c2.1, c2.2)
  else
  Stp.elim (fun a5 =>
    (a5.1, (⟨a5.2.1, a5.2.2.1, a5.2.2.2⟩ : Curs)))
    (fun p : Empty => nomatch p)
    (forN (s_l2Deep_L0_f) 1 (Int.toNat (4 - 0)) 0 (0, c1.2.b, c1.2.i, c1.2.h))
theorem s_l2Deep_lk (y0 : Curs) : evalFnM te (orcOf (P := Try.prog) [s_l1Once_e, s_l1PickInt_e, s_l1Byte_e]) (lorcOf [s_l2Deep_L0_le]) s_l2Deep_ann Try.f127 (pvs [.wr false [.ptr 0]] ((), ())) (mos [.box [.c (.sl .u8), .c (.int .i64), .c (.int .i64)]] ((y0.b, y0.i, y0.h, ()), ())) =
  s_l2Deep_N y0 _ none (fun v => some ([(false, [RC.c (.int .i64 v.1)])] ++ (mos [.box [.c (.sl .u8), .c (.int .i64), .c (.int .i64)]] ((v.2.b, v.2.i, v.2.h, ()), ())).map encO)) := by kernel_rfl
theorem s_l2Deep_p (y0 : Curs) (hy0_b : y0.b.length ≤ 140737488355328) (hy0_i : inK .i64 y0.i) (hy0_h : inK .i64 y0.h) (hp : 0 ≤ y0.i ∧ y0.b.length ≤ 1048576) (γ : Type) (fail : γ) (k : Int × Curs → γ) : s_l2Deep_N y0 γ fail k = k (s_l2Deep y0) := by
  unfold s_l2Deep_N s_l2Deep
  exact bifG (by (try simp only [Nat.ble_eq, Bool.and_eq_true, decide_eq_true_eq, s_l2Deep_L0_mx0]); grind [maxSl, maxStr, toBytes_length, toInts_length, List.length_set, wrap64, s_l1Once_cur, s_l1PickInt_cur, s_l1Byte_rng, s_l1Byte_cur]) (letT (f := k) (fun c1 hc1 => have kc1 : 0 ≤ c1.2.i ∧ c1.2.b.length ≤ 1048576 := (by rw [hc1]; exact s_l1Once_cur _ _ (by first | assumption | exact ⟨by assumption, by assumption⟩ | grind [maxSl, wrap64, s_l2Deep_L0_mx0])); bifT (f := k) (fun b0 => bifG (by (try simp only [Nat.ble_eq, Bool.and_eq_true, decide_eq_true_eq, s_l2Deep_L0_mx0]); grind [maxSl, maxStr, toBytes_length, toInts_length, List.length_set, wrap64, s_l1Once_cur, s_l1PickInt_cur, s_l1Byte_rng, s_l1Byte_cur]) (letT (f := k) (fun c2 hc2 => have kc2 : 0 ≤ c2.2.i ∧ c2.2.b.length ≤ 1048576 := (by rw [hc2]; exact s_l1PickInt_cur _ _ (by first | assumption | exact ⟨by assumption, by assumption⟩ | grind [maxSl, wrap64, s_l2Deep_L0_mx0]) (by first | assumption | exact ⟨by assumption, by assumption⟩ | grind [maxSl, wrap64, s_l2Deep_L0_mx0])); rfl)))
      (fun b0 => loopX (f := k) (s_l2Deep_L0_cl 0 0 c1.2.b c1.2.i c1.2.h (by (try simp only [Nat.ble_eq, Bool.and_eq_true, decide_eq_true_eq, s_l2Deep_L0_mx0]); grind [maxSl, maxStr, toBytes_length, toInts_length, List.length_set, wrap64, s_l1Once_cur, s_l1PickInt_cur, s_l1Byte_rng, s_l1Byte_cur]) (by (try simp only [Nat.ble_eq, Bool.and_eq_true, decide_eq_true_eq, s_l2Deep_L0_mx0]); grind [maxSl, maxStr, toBytes_length, toInts_length, List.length_set, wrap64, s_l1Once_cur, s_l1PickInt_cur, s_l1Byte_rng, s_l1Byte_cur]) (by (try simp only [Nat.ble_eq, Bool.and_eq_true, decide_eq_true_eq, s_l2Deep_L0_mx0]); grind [maxSl, maxStr, toBytes_length, toInts_length, List.length_set, wrap64, s_l1Once_cur, s_l1PickInt_cur, s_l1Byte_rng, s_l1Byte_cur])) (fun a5 ha5 => have ia5 := s_l2Deep_L0_nx 0 0 c1.2.b c1.2.i c1.2.h (by (try simp only [Nat.ble_eq, Bool.and_eq_true, decide_eq_true_eq, s_l2Deep_L0_mx0]); grind [maxSl, maxStr, toBytes_length, toInts_length, List.length_set, wrap64, s_l1Once_cur, s_l1PickInt_cur, s_l1Byte_rng, s_l1Byte_cur]) (by (try simp only [Nat.ble_eq, Bool.and_eq_true, decide_eq_true_eq, s_l2Deep_L0_mx0]); grind [maxSl, maxStr, toBytes_length, toInts_length, List.length_set, wrap64, s_l1Once_cur, s_l1PickInt_cur, s_l1Byte_rng, s_l1Byte_cur]) (by (try simp only [Nat.ble_eq, Bool.and_eq_true, decide_eq_true_eq, s_l2Deep_L0_mx0]); grind [maxSl, maxStr, toBytes_length, toInts_length, List.length_set, wrap64, s_l1Once_cur, s_l1PickInt_cur, s_l1Byte_rng, s_l1Byte_cur]) _ ha5; rfl)
      (fun p : Empty => nomatch p))))
theorem s_l2Deep_c (y0 : Curs) (hp : 0 ≤ y0.i ∧ y0.b.length ≤ 1048576) : ConM Try.prog 127 (pvs [.wr false [.ptr 0]] ((), ())) (mos [.box [.c (.sl .u8), .c (.int .i64), .c (.int .i64)]] ((y0.b, y0.i, y0.h, ()), ())) [rv (.sc (.int .i64)) [] (s_l2Deep y0).1] (mos [.box [.c (.sl .u8), .c (.int .i64), .c (.int .i64)]] ((((s_l2Deep y0).2).b, ((s_l2Deep y0).2).i, ((s_l2Deep y0).2).h, ()), ())) := by
  refine ConM.of_facts (enters_of Try.func127 rfl (by kernel_rfl)) fun hf hg => ?_
  replace hf := factAt hf
  exact evalFn_conLM teFact mixFact (orcOf_ok _) Try.func127 (by kernel_rfl) (bs := [0]) (by kernel_rfl) (by kernel_rfl) (by kernel_rfl) rfl (fun w0 mo I0 hmo => ⟨lsem_of_lorc (s_l2Deep_L0_ls w0 mo I0 hmo) (by kernel_rfl), trivial⟩) ((s_l2Deep_lk y0).trans (s_l2Deep_p y0 ((mbAt hg 0 0 rfl rfl).len) ((mbAt hg 0 1 rfl rfl).rng) ((mbAt hg 0 2 rfl rfl).rng) hp _ _ _))
noncomputable def s_l2Deep_e : Ent1 Try.prog := entM 127 [.wr false [.ptr 0]] [.box [.c (.sl .u8), .c (.int .i64), .c (.int .i64)]] (fun x y => (decide (0 ≤ (⟨y.1.1, y.1.2.1, y.1.2.2.1⟩ : Curs).i ∧ (⟨y.1.1, y.1.2.1, y.1.2.2.1⟩ : Curs).b.length ≤ 1048576))) (fun x y => (s_l2Deep (⟨y.1.1, y.1.2.1, y.1.2.2.1⟩ : Curs))) (fun v => [rv (.sc (.int .i64)) [] v.1]) (fun x y v => (mos [.box [.c (.sl .u8), .c (.int .i64), .c (.int .i64)]] ((v.2.b, v.2.i, v.2.h, ()), ()))) (fun x y hx => s_l2Deep_c (⟨y.1.1, y.1.2.1, y.1.2.2.1⟩ : Curs) (of_decide_eq_true hx))

theorem s_l2Deep_cur (y0 : Curs)  (hc0 : 0 ≤ y0.i ∧ y0.b.length ≤ 1048576) : 0 ≤ (s_l2Deep y0).2.i ∧ (s_l2Deep y0).2.b.length ≤ 1048576 := by
  unfold s_l2Deep
  exact letP (P := (fun v : Int × Curs => 0 ≤ v.2.i ∧ v.2.b.length ≤ 1048576)) (fun c1 hc1 => have kc1 : 0 ≤ c1.2.i ∧ c1.2.b.length ≤ 1048576 := (by rw [hc1]; exact s_l1Once_cur _ _ (by first | assumption | exact ⟨by assumption, by assumption⟩ | grind [maxSl, wrap64, s_l2Deep_L0_mx0])); bifP (P := (fun v : Int × Curs => 0 ≤ v.2.i ∧ v.2.b.length ≤ 1048576)) (fun b0 => letP (P := (fun v : Int × Curs => 0 ≤ v.2.i ∧ v.2.b.length ≤ 1048576)) (fun c2 hc2 => have kc2 : 0 ≤ c2.2.i ∧ c2.2.b.length ≤ 1048576 := (by rw [hc2]; exact s_l1PickInt_cur _ _ (by first | assumption | exact ⟨by assumption, by assumption⟩ | grind [maxSl, wrap64, s_l2Deep_L0_mx0]) (by first | assumption | exact ⟨by assumption, by assumption⟩ | grind [maxSl, wrap64, s_l2Deep_L0_mx0])); (by (try simp only [Nat.ble_eq, Bool.and_eq_true, decide_eq_true_eq, s_l2Deep_L0_mx0]); grind [maxSl, maxStr, toBytes_length, toInts_length, List.length_set, wrap64, s_l1Once_cur, s_l1PickInt_cur, s_l1Byte_rng, s_l1Byte_cur])))
      (fun b0 => loopP (P := (fun v : Int × Curs => 0 ≤ v.2.i ∧ v.2.b.length ≤ 1048576)) (fun a5 ha5 => have ia5 := s_l2Deep_L0_nx 0 0 c1.2.b c1.2.i c1.2.h (by (try simp only [Nat.ble_eq, Bool.and_eq_true, decide_eq_true_eq, s_l2Deep_L0_mx0]); grind [maxSl, maxStr, toBytes_length, toInts_length, List.length_set, wrap64, s_l1Once_cur, s_l1PickInt_cur, s_l1Byte_rng, s_l1Byte_cur]) (by (try simp only [Nat.ble_eq, Bool.and_eq_true, decide_eq_true_eq, s_l2Deep_L0_mx0]); grind [maxSl, maxStr, toBytes_length, toInts_length, List.length_set, wrap64, s_l1Once_cur, s_l1PickInt_cur, s_l1Byte_rng, s_l1Byte_cur]) (by (try simp only [Nat.ble_eq, Bool.and_eq_true, decide_eq_true_eq, s_l2Deep_L0_mx0]); grind [maxSl, maxStr, toBytes_length, toInts_length, List.length_set, wrap64, s_l1Once_cur, s_l1PickInt_cur, s_l1Byte_rng, s_l1Byte_cur]) _ ha5; (by (try simp only [Nat.ble_eq, Bool.and_eq_true, decide_eq_true_eq, s_l2Deep_L0_mx0]); grind [maxSl, maxStr, toBytes_length, toInts_length, List.length_set, wrap64, s_l1Once_cur, s_l1PickInt_cur, s_l1Byte_rng, s_l1Byte_cur]))
      (fun p _ => nomatch p)))

/-- spec.l4Place -/
def s_l4Place_N (y0 : Curs) (γ : Type) (fail : γ) (k : Int × Curs → γ) : γ :=
  bif (decide (0 ≤ y0.i ∧ y0.b.length ≤ 1048576)) then
  letK (α := Bool × Curs) (s_l1Once y0 12) fun c1 =>
  bif c1.1 then
    bif (decide (0 ≤ c1.2.i ∧ c1.2.b.length ≤ 1048576)) then
    letK (α := Int × Curs) (s_l1Whole c1.2) fun c2 =>
    k (c2.1, c2.2)
    else fail
  else
  bif (decide (0 ≤ c1.2.i ∧ c1.2.b.length ≤ 1048576)) then
  letK (α := Int × Curs) (s_l2Deep c1.2) fun c3 =>
  k (c3.1, c3.2)
  else fail
  else fail
def s_l4Place (y0 : Curs) : Int × Curs :=
  letK (α := Bool × Curs) (s_l1Once y0 12) fun c1 =>
  bif c1.1 then
    letK (α := Int × Curs) (s_l1Whole c1.2) fun c2 =>
    (c2.1, c2.2)
  else
  letK (α := Int × Curs) (s_l2Deep c1.2) fun c3 =>
  (c3.1, c3.2)
theorem s_l4Place_lk (y0 : Curs) : evalFnM te (orcOf (P := Try.prog) [s_l1Once_e, s_l1Whole_e, s_l2Deep_e]) lorc0 [] Try.f115 (pvs [.wr false [.ptr 0]] ((), ())) (mos [.box [.c (.sl .u8), .c (.int .i64), .c (.int .i64)]] ((y0.b, y0.i, y0.h, ()), ())) =
  s_l4Place_N y0 _ none (fun v => some ([(false, [RC.c (.int .i64 v.1)])] ++ (mos [.box [.c (.sl .u8), .c (.int .i64), .c (.int .i64)]] ((v.2.b, v.2.i, v.2.h, ()), ())).map encO)) := by kernel_rfl
theorem s_l4Place_p (y0 : Curs) (hy0_b : y0.b.length ≤ 140737488355328) (hy0_i : inK .i64 y0.i) (hy0_h : inK .i64 y0.h) (hp : 0 ≤ y0.i ∧ y0.b.length ≤ 1048576) (γ : Type) (fail : γ) (k : Int × Curs → γ) : s_l4Place_N y0 γ fail k = k (s_l4Place y0) := by
  unfold s_l4Place_N s_l4Place
  exact bifG (by (try simp only [Nat.ble_eq, Bool.and_eq_true, decide_eq_true_eq]); grind [maxSl, maxStr, toBytes_length, toInts_length, List.length_set, wrap64, s_l1Once_cur, s_l1Whole_cur, s_l2Deep_cur]) (letT (f := k) (fun c1 hc1 => have kc1 : 0 ≤ c1.2.i ∧ c1.2.b.length ≤ 1048576 := (by rw [hc1]; exact s_l1Once_cur _ _ (by first | assumption | exact ⟨by assumption, by assumption⟩ | grind [maxSl, wrap64])); bifT (f := k) (fun b0 => bifG (by (try simp only [Nat.ble_eq, Bool.and_eq_true, decide_eq_true_eq]); grind [maxSl, maxStr, toBytes_length, toInts_length, List.length_set, wrap64, s_l1Once_cur, s_l1Whole_cur, s_l2Deep_cur]) (letT (f := k) (fun c2 hc2 => have kc2 : 0 ≤ c2.2.i ∧ c2.2.b.length ≤ 1048576 := (by rw [hc2]; exact s_l1Whole_cur _ (by first | assumption | exact ⟨by assumption, by assumption⟩ | grind [maxSl, wrap64])); rfl)))
      (fun b0 => bifG (by (try simp only [Nat.ble_eq, Bool.and_eq_true, decide_eq_true_eq]); grind [maxSl, maxStr, toBytes_length, toInts_length, List.length_set, wrap64, s_l1Once_cur, s_l1Whole_cur, s_l2Deep_cur]) (letT (f := k) (fun c3 hc3 => have kc3 : 0 ≤ c3.2.i ∧ c3.2.b.length ≤ 1048576 := (by rw [hc3]; exact s_l2Deep_cur _ (by first | assumption | exact ⟨by assumption, by assumption⟩ | grind [maxSl, wrap64])); rfl)))))
theorem s_l4Place_c (y0 : Curs) (hp : 0 ≤ y0.i ∧ y0.b.length ≤ 1048576) : ConM Try.prog 115 (pvs [.wr false [.ptr 0]] ((), ())) (mos [.box [.c (.sl .u8), .c (.int .i64), .c (.int .i64)]] ((y0.b, y0.i, y0.h, ()), ())) [rv (.sc (.int .i64)) [] (s_l4Place y0).1] (mos [.box [.c (.sl .u8), .c (.int .i64), .c (.int .i64)]] ((((s_l4Place y0).2).b, ((s_l4Place y0).2).i, ((s_l4Place y0).2).h, ()), ())) := by
  refine ConM.of_facts (enters_of Try.func115 rfl (by kernel_rfl)) fun hf hg => ?_
  replace hf := factAt hf
  exact evalFn_conLM teFact mixFact (orcOf_ok _) Try.func115 (by kernel_rfl) (bs := []) (by kernel_rfl) (by kernel_rfl) (by kernel_rfl) rfl (fun w0 mo I0 hmo => trivial) ((s_l4Place_lk y0).trans (s_l4Place_p y0 ((mbAt hg 0 0 rfl rfl).len) ((mbAt hg 0 1 rfl rfl).rng) ((mbAt hg 0 2 rfl rfl).rng) hp _ _ _))
noncomputable def s_l4Place_e : Ent1 Try.prog := entM 115 [.wr false [.ptr 0]] [.box [.c (.sl .u8), .c (.int .i64), .c (.int .i64)]] (fun x y => (decide (0 ≤ (⟨y.1.1, y.1.2.1, y.1.2.2.1⟩ : Curs).i ∧ (⟨y.1.1, y.1.2.1, y.1.2.2.1⟩ : Curs).b.length ≤ 1048576))) (fun x y => (s_l4Place (⟨y.1.1, y.1.2.1, y.1.2.2.1⟩ : Curs))) (fun v => [rv (.sc (.int .i64)) [] v.1]) (fun x y v => (mos [.box [.c (.sl .u8), .c (.int .i64), .c (.int .i64)]] ((v.2.b, v.2.i, v.2.h, ()), ()))) (fun x y hx => s_l4Place_c (⟨y.1.1, y.1.2.1, y.1.2.2.1⟩ : Curs) (of_decide_eq_true hx))

theorem s_l4Place_cur (y0 : Curs)  (hc0 : 0 ≤ y0.i ∧ y0.b.length ≤ 1048576) : 0 ≤ (s_l4Place y0).2.i ∧ (s_l4Place y0).2.b.length ≤ 1048576 := by
  unfold s_l4Place
  exact letP (P := (fun v : Int × Curs => 0 ≤ v.2.i ∧ v.2.b.length ≤ 1048576)) (fun c1 hc1 => have kc1 : 0 ≤ c1.2.i ∧ c1.2.b.length ≤ 1048576 := (by rw [hc1]; exact s_l1Once_cur _ _ (by first | assumption | exact ⟨by assumption, by assumption⟩ | grind [maxSl, wrap64])); bifP (P := (fun v : Int × Curs => 0 ≤ v.2.i ∧ v.2.b.length ≤ 1048576)) (fun b0 => letP (P := (fun v : Int × Curs => 0 ≤ v.2.i ∧ v.2.b.length ≤ 1048576)) (fun c2 hc2 => have kc2 : 0 ≤ c2.2.i ∧ c2.2.b.length ≤ 1048576 := (by rw [hc2]; exact s_l1Whole_cur _ (by first | assumption | exact ⟨by assumption, by assumption⟩ | grind [maxSl, wrap64])); (by (try simp only [Nat.ble_eq, Bool.and_eq_true, decide_eq_true_eq]); grind [maxSl, maxStr, toBytes_length, toInts_length, List.length_set, wrap64, s_l1Once_cur, s_l1Whole_cur, s_l2Deep_cur])))
      (fun b0 => letP (P := (fun v : Int × Curs => 0 ≤ v.2.i ∧ v.2.b.length ≤ 1048576)) (fun c3 hc3 => have kc3 : 0 ≤ c3.2.i ∧ c3.2.b.length ≤ 1048576 := (by rw [hc3]; exact s_l2Deep_cur _ (by first | assumption | exact ⟨by assumption, by assumption⟩ | grind [maxSl, wrap64])); (by (try simp only [Nat.ble_eq, Bool.and_eq_true, decide_eq_true_eq]); grind [maxSl, maxStr, toBytes_length, toInts_length, List.length_set, wrap64, s_l1Once_cur, s_l1Whole_cur, s_l2Deep_cur]))))

/-- spec.l2Word -/
def s_l2Word_N (y0 : Curs) (γ : Type) (fail : γ) (k : Int × Curs → γ) : γ :=
  bif (decide (0 ≤ y0.i ∧ y0.b.length ≤ 1048576)) then
  letK (α := Int × Curs) (s_l1Below y0 3) fun c1 =>
  bif (c1.1 == 0) then
    bif (decide (0 ≤ c1.2.i ∧ c1.2.b.length ≤ 1048576)) then
    letK (α := Int × Curs) (s_l1Whole c1.2) fun c2 =>
    k (c2.1, c2.2)
    else fail
  else
  bif (c1.1 == 1) then
    bif (decide ((0 ≤ c1.2.i ∧ c1.2.b.length ≤ 1048576) ∧ 0 < ([0, 1, 255, 256, 65535, 65536, 16777215, 4294967295, 4294967296, 281474976710655, 281474976710656] : List Int).length)) then
    letK (α := Int × Curs) (s_l1PickInt c1.2 [0, 1, 255, 256, 65535, 65536, 16777215, 4294967295, 4294967296, 281474976710655, 281474976710656]) fun c3 =>
    k (c3.1, c3.2)
    else fail
  else
  bif (decide (0 ≤ c1.2.i ∧ c1.2.b.length ≤ 1048576)) then
  letK (α := Int × Curs) (s_l1Below c1.2 65536) fun c4 =>
  k (c4.1, c4.2)
  else fail
  else fail
def s_l2Word (y0 : Curs) : Int × Curs :=
  letK (α := Int × Curs) (s_l1Below y0 3) fun c1 =>
  bif (c1.1 == 0) then
    letK (α := Int × Curs) (s_l1Whole c1.2) fun c2 =>
    (c2.1, c2.2)
  else
  bif (c1.1 == 1) then
    letK (α := Int × Curs) (s_l1PickInt c1.2 [0, 1, 255, 256, 65535, 65536, 16777215, 4294967295, 4294967296, 281474976710655, 281474976710656]) fun c3 =>
    (c3.1, c3.2)
  else
  letK (α := Int × Curs) (s_l1Below c1.2 65536) fun c4 =>
  (c4.1, c4.2)
theorem s_l2Word_lk (y0 : Curs) : evalFnM te (orcOf (P := Try.prog) [s_l1Below_e, s_l1Whole_e, s_l1PickInt_e]) lorc0 [] Try.f128 (pvs [.wr false [.ptr 0]] ((), ())) (mos [.box [.c (.sl .u8), .c (.int .i64), .c (.int .i64)]] ((y0.b, y0.i, y0.h, ()), ())) =
  s_l2Word_N y0 _ none (fun v => some ([(false, [RC.c (.int .i64 v.1)])] ++ (mos [.box [.c (.sl .u8), .c (.int .i64), .c (.int .i64)]] ((v.2.b, v.2.i, v.2.h, ()), ())).map encO)) := by kernel_rfl
theorem s_l2Word_p (y0 : Curs) (hy0_b : y0.b.length ≤ 140737488355328) (hy0_i : inK .i64 y0.i) (hy0_h : inK .i64 y0.h) (hp : 0 ≤ y0.i ∧ y0.b.length ≤ 1048576) (γ : Type) (fail : γ) (k : Int × Curs → γ) : s_l2Word_N y0 γ fail k = k (s_l2Word y0) := by
  unfold s_l2Word_N s_l2Word
  exact bifG (by (try simp only [Nat.ble_eq, Bool.and_eq_true, decide_eq_true_eq]); grind [maxSl, maxStr, toBytes_length, toInts_length, List.length_set, wrap64, s_l1Below_rng, s_l1Below_cur, s_l1Whole_cur, s_l1PickInt_cur]) (letT (f := k) (fun c1 hc1 => have rc1 := s_l1Below_rng y0 3 (by first | assumption | exact ⟨by assumption, by assumption⟩ | grind [maxSl, wrap64]); have kc1 : 0 ≤ c1.2.i ∧ c1.2.b.length ≤ 1048576 := (by rw [hc1]; exact s_l1Below_cur _ _ (by first | assumption | exact ⟨by assumption, by assumption⟩ | grind [maxSl, wrap64])); bifT (f := k) (fun b0 => bifG (by (try simp only [Nat.ble_eq, Bool.and_eq_true, decide_eq_true_eq]); grind [maxSl, maxStr, toBytes_length, toInts_length, List.length_set, wrap64, s_l1Below_rng, s_l1Below_cur, s_l1Whole_cur, s_l1PickInt_cur]) (letT (f := k) (fun c2 hc2 => have kc2 : 0 ≤ c2.2.i ∧ c2.2.b.length ≤ 1048576 := (by rw [hc2]; exact s_l1Whole_cur _ (by first | assumption | exact ⟨by assumption, by assumption⟩ | grind [maxSl, wrap64])); rfl)))
      (fun b0 => bifT (f := k) (fun b1 => bifG (by (try simp only [Nat.ble_eq, Bool.and_eq_true, decide_eq_true_eq]); grind [maxSl, maxStr, toBytes_length, toInts_length, List.length_set, wrap64, s_l1Below_rng, s_l1Below_cur, s_l1Whole_cur, s_l1PickInt_cur]) (letT (f := k) (fun c3 hc3 => have kc3 : 0 ≤ c3.2.i ∧ c3.2.b.length ≤ 1048576 := (by rw [hc3]; exact s_l1PickInt_cur _ _ (by first | assumption | exact ⟨by assumption, by assumption⟩ | grind [maxSl, wrap64]) (by first | assumption | exact ⟨by assumption, by assumption⟩ | grind [maxSl, wrap64])); rfl)))
      (fun b1 => bifG (by (try simp only [Nat.ble_eq, Bool.and_eq_true, decide_eq_true_eq]); grind [maxSl, maxStr, toBytes_length, toInts_length, List.length_set, wrap64, s_l1Below_rng, s_l1Below_cur, s_l1Whole_cur, s_l1PickInt_cur]) (letT (f := k) (fun c4 hc4 => have rc4 := s_l1Below_rng c1.2 65536 (by first | assumption | exact ⟨by assumption, by assumption⟩ | grind [maxSl, wrap64]); have kc4 : 0 ≤ c4.2.i ∧ c4.2.b.length ≤ 1048576 := (by rw [hc4]; exact s_l1Below_cur _ _ (by first | assumption | exact ⟨by assumption, by assumption⟩ | grind [maxSl, wrap64])); rfl))))))
theorem s_l2Word_c (y0 : Curs) (hp : 0 ≤ y0.i ∧ y0.b.length ≤ 1048576) : ConM Try.prog 128 (pvs [.wr false [.ptr 0]] ((), ())) (mos [.box [.c (.sl .u8), .c (.int .i64), .c (.int .i64)]] ((y0.b, y0.i, y0.h, ()), ())) [rv (.sc (.int .i64)) [] (s_l2Word y0).1] (mos [.box [.c (.sl .u8), .c (.int .i64), .c (.int .i64)]] ((((s_l2Word y0).2).b, ((s_l2Word y0).2).i, ((s_l2Word y0).2).h, ()), ())) := by
  refine ConM.of_facts (enters_of Try.func128 rfl (by kernel_rfl)) fun hf hg => ?_
  replace hf := factAt hf
  exact evalFn_conLM teFact mixFact (orcOf_ok _) Try.func128 (by kernel_rfl) (bs := []) (by kernel_rfl) (by kernel_rfl) (by kernel_rfl) rfl (fun w0 mo I0 hmo => trivial) ((s_l2Word_lk y0).trans (s_l2Word_p y0 ((mbAt hg 0 0 rfl rfl).len) ((mbAt hg 0 1 rfl rfl).rng) ((mbAt hg 0 2 rfl rfl).rng) hp _ _ _))
noncomputable def s_l2Word_e : Ent1 Try.prog := entM 128 [.wr false [.ptr 0]] [.box [.c (.sl .u8), .c (.int .i64), .c (.int .i64)]] (fun x y => (decide (0 ≤ (⟨y.1.1, y.1.2.1, y.1.2.2.1⟩ : Curs).i ∧ (⟨y.1.1, y.1.2.1, y.1.2.2.1⟩ : Curs).b.length ≤ 1048576))) (fun x y => (s_l2Word (⟨y.1.1, y.1.2.1, y.1.2.2.1⟩ : Curs))) (fun v => [rv (.sc (.int .i64)) [] v.1]) (fun x y v => (mos [.box [.c (.sl .u8), .c (.int .i64), .c (.int .i64)]] ((v.2.b, v.2.i, v.2.h, ()), ()))) (fun x y hx => s_l2Word_c (⟨y.1.1, y.1.2.1, y.1.2.2.1⟩ : Curs) (of_decide_eq_true hx))

theorem s_l2Word_cur (y0 : Curs)  (hc0 : 0 ≤ y0.i ∧ y0.b.length ≤ 1048576) : 0 ≤ (s_l2Word y0).2.i ∧ (s_l2Word y0).2.b.length ≤ 1048576 := by
  unfold s_l2Word
  exact letP (P := (fun v : Int × Curs => 0 ≤ v.2.i ∧ v.2.b.length ≤ 1048576)) (fun c1 hc1 => have rc1 := s_l1Below_rng y0 3 (by first | assumption | exact ⟨by assumption, by assumption⟩ | grind [maxSl, wrap64]); have kc1 : 0 ≤ c1.2.i ∧ c1.2.b.length ≤ 1048576 := (by rw [hc1]; exact s_l1Below_cur _ _ (by first | assumption | exact ⟨by assumption, by assumption⟩ | grind [maxSl, wrap64])); bifP (P := (fun v : Int × Curs => 0 ≤ v.2.i ∧ v.2.b.length ≤ 1048576)) (fun b0 => letP (P := (fun v : Int × Curs => 0 ≤ v.2.i ∧ v.2.b.length ≤ 1048576)) (fun c2 hc2 => have kc2 : 0 ≤ c2.2.i ∧ c2.2.b.length ≤ 1048576 := (by rw [hc2]; exact s_l1Whole_cur _ (by first | assumption | exact ⟨by assumption, by assumption⟩ | grind [maxSl, wrap64])); (by (try simp only [Nat.ble_eq, Bool.and_eq_true, decide_eq_true_eq]); grind [maxSl, maxStr, toBytes_length, toInts_length, List.length_set, wrap64, s_l1Below_rng, s_l1Below_cur, s_l1Whole_cur, s_l1PickInt_cur])))
      (fun b0 => bifP (P := (fun v : Int × Curs => 0 ≤ v.2.i ∧ v.2.b.length ≤ 1048576)) (fun b1 => letP (P := (fun v : Int × Curs => 0 ≤ v.2.i ∧ v.2.b.length ≤ 1048576)) (fun c3 hc3 => have kc3 : 0 ≤ c3.2.i ∧ c3.2.b.length ≤ 1048576 := (by rw [hc3]; exact s_l1PickInt_cur _ _ (by first | assumption | exact ⟨by assumption, by assumption⟩ | grind [maxSl, wrap64]) (by first | assumption | exact ⟨by assumption, by assumption⟩ | grind [maxSl, wrap64])); (by (try simp only [Nat.ble_eq, Bool.and_eq_true, decide_eq_true_eq]); grind [maxSl, maxStr, toBytes_length, toInts_length, List.length_set, wrap64, s_l1Below_rng, s_l1Below_cur, s_l1Whole_cur, s_l1PickInt_cur])))
      (fun b1 => letP (P := (fun v : Int × Curs => 0 ≤ v.2.i ∧ v.2.b.length ≤ 1048576)) (fun c4 hc4 => have rc4 := s_l1Below_rng c1.2 65536 (by first | assumption | exact ⟨by assumption, by assumption⟩ | grind [maxSl, wrap64]); have kc4 : 0 ≤ c4.2.i ∧ c4.2.b.length ≤ 1048576 := (by rw [hc4]; exact s_l1Below_cur _ _ (by first | assumption | exact ⟨by assumption, by assumption⟩ | grind [maxSl, wrap64])); (by (try simp only [Nat.ble_eq, Bool.and_eq_true, decide_eq_true_eq]); grind [maxSl, maxStr, toBytes_length, toInts_length, List.length_set, wrap64, s_l1Below_rng, s_l1Below_cur, s_l1Whole_cur, s_l1PickInt_cur])))))

/-- spec.l12Bent -/
def s_l12Bent_N (y0 : Curs) (γ : Type) (fail : γ) (k : Tupl × Curs → γ) : γ :=
  bif (decide (0 ≤ y0.i ∧ y0.b.length ≤ 1048576)) then
  letK (α := Tupl × Curs) (s_l12Tuple y0) fun c1 =>
  bif (decide (0 ≤ c1.2.i ∧ c1.2.b.length ≤ 1048576)) then
  letK (α := Int × Curs) (s_l1Below c1.2 10) fun c2 =>
  bif (c2.1 == 0) then
    bif (decide (0 ≤ c2.2.i ∧ c2.2.b.length ≤ 1048576)) then
    letK (α := Int × Curs) (s_l2Word c2.2) fun c3 =>
    k (({ c1.1 with ip := c3.1 } : Tupl), c3.2)
    else fail
  else
  bif (c2.1 == 1) then
    bif (decide (0 ≤ c2.2.i ∧ c2.2.b.length ≤ 1048576)) then
    letK (α := Int × Curs) (s_l2Word c2.2) fun c4 =>
    k (({ c1.1 with port := c4.1 } : Tupl), c4.2)
    else fail
  else
  bif (c2.1 == 2) then
    bif (decide (0 ≤ c2.2.i ∧ c2.2.b.length ≤ 1048576)) then
    letK (α := Int × Curs) (s_l2Word c2.2) fun c5 =>
    k (({ c1.1 with my := c5.1 } : Tupl), c5.2)
    else fail
  else
  k (c1.1, c2.2)
  else fail
  else fail
def s_l12Bent (y0 : Curs) : Tupl × Curs :=
  letK (α := Tupl × Curs) (s_l12Tuple y0) fun c1 =>
  letK (α := Int × Curs) (s_l1Below c1.2 10) fun c2 =>
  bif (c2.1 == 0) then
    letK (α := Int × Curs) (s_l2Word c2.2) fun c3 =>
    (({ c1.1 with ip := c3.1 } : Tupl), c3.2)
  else
  bif (c2.1 == 1) then
    letK (α := Int × Curs) (s_l2Word c2.2) fun c4 =>
    (({ c1.1 with port := c4.1 } : Tupl), c4.2)
  else
  bif (c2.1 == 2) then
    letK (α := Int × Curs) (s_l2Word c2.2) fun c5 =>
    (({ c1.1 with my := c5.1 } : Tupl), c5.2)
  else
  (c1.1, c2.2)
theorem s_l12Bent_lk (y0 : Curs) : evalFnM te (orcOf (P := Try.prog) [s_l12Tuple_e, s_l1Below_e, s_l2Word_e]) lorc0 [] Try.f116 (pvs [.wr false [.ptr 0]] ((), ())) (mos [.box [.c (.sl .u8), .c (.int .i64), .c (.int .i64)]] ((y0.b, y0.i, y0.h, ()), ())) =
  s_l12Bent_N y0 _ none (fun v => some ([(true, [RC.c (.int .i64 v.1.ip), RC.c (.int .i64 v.1.port), RC.c (.int .i64 v.1.my)])] ++ (mos [.box [.c (.sl .u8), .c (.int .i64), .c (.int .i64)]] ((v.2.b, v.2.i, v.2.h, ()), ())).map encO)) := by kernel_rfl
theorem s_l12Bent_p (y0 : Curs) (hy0_b : y0.b.length ≤ 140737488355328) (hy0_i : inK .i64 y0.i) (hy0_h : inK .i64 y0.h) (hp : 0 ≤ y0.i ∧ y0.b.length ≤ 1048576) (γ : Type) (fail : γ) (k : Tupl × Curs → γ) : s_l12Bent_N y0 γ fail k = k (s_l12Bent y0) := by
  unfold s_l12Bent_N s_l12Bent
  exact bifG (by (try simp only [Nat.ble_eq, Bool.and_eq_true, decide_eq_true_eq]); grind [maxSl, maxStr, toBytes_length, toInts_length, List.length_set, wrap64, s_l12Tuple_cur, s_l1Below_rng, s_l1Below_cur, s_l2Word_cur]) (letT (f := k) (fun c1 hc1 => have kc1 : 0 ≤ c1.2.i ∧ c1.2.b.length ≤ 1048576 := (by rw [hc1]; exact s_l12Tuple_cur _ (by first | assumption | exact ⟨by assumption, by assumption⟩ | grind [maxSl, wrap64])); bifG (by (try simp only [Nat.ble_eq, Bool.and_eq_true, decide_eq_true_eq]); grind [maxSl, maxStr, toBytes_length, toInts_length, List.length_set, wrap64, s_l12Tuple_cur, s_l1Below_rng, s_l1Below_cur, s_l2Word_cur]) (letT (f := k) (fun c2 hc2 => have rc2 := s_l1Below_rng c1.2 10 (by first | assumption | exact ⟨by assumption, by assumption⟩ | grind [maxSl, wrap64]); have kc2 : 0 ≤ c2.2.i ∧ c2.2.b.length ≤ 1048576 := (by rw [hc2]; exact s_l1Below_cur _ _ (by first | assumption | exact ⟨by assumption, by assumption⟩ | grind [maxSl, wrap64])); bifT (f := k) (fun b0 => bifG (by (try simp only [Nat.ble_eq, Bool.and_eq_true, decide_eq_true_eq]); grind [maxSl, maxStr, toBytes_length, toInts_length, List.length_set, wrap64, s_l12Tuple_cur, s_l1Below_rng, s_l1Below_cur, s_l2Word_cur]) (letT (f := k) (fun c3 hc3 => have kc3 : 0 ≤ c3.2.i ∧ c3.2.b.length ≤ 1048576 := (by rw [hc3]; exact s_l2Word_cur _ (by first | assumption | exact ⟨by assumption, by assumption⟩ | grind [maxSl, wrap64])); rfl)))
      (fun b0 => bifT (f := k) (fun b1 => bifG (by (try simp only [Nat.ble_eq, Bool.and_eq_true, decide_eq_true_eq]); grind [maxSl, maxStr, toBytes_length, toInts_length, List.length_set, wrap64, s_l12Tuple_cur, s_l1Below_rng, s_l1Below_cur, s_l2Word_cur]) (letT (f := k) (fun c4 hc4 => have kc4 : 0 ≤ c4.2.i ∧ c4.2.b.length ≤ 1048576 := (by rw [hc4]; exact s_l2Word_cur _ (by first | assumption | exact ⟨by assumption, by assumption⟩ | grind [maxSl, wrap64])); rfl)))
      (fun b1 => bifT (f := k) (fun b2 => bifG (by (try simp only [Nat.ble_eq, Bool.and_eq_true, decide_eq_true_eq]); grind [maxSl, maxStr, toBytes_length, toInts_length, List.length_set, wrap64, s_l12Tuple_cur, s_l1Below_rng, s_l1Below_cur, s_l2Word_cur]) (letT (f := k) (fun c5 hc5 => have kc5 : 0 ≤ c5.2.i ∧ c5.2.b.length ≤ 1048576 := (by rw [hc5]; exact s_l2Word_cur _ (by first | assumption | exact ⟨by assumption, by assumption⟩ | grind [maxSl, wrap64])); rfl)))
      (fun b2 => rfl)))))))
theorem s_l12Bent_c (y0 : Curs) (hp : 0 ≤ y0.i ∧ y0.b.length ≤ 1048576) : ConM Try.prog 116 (pvs [.wr false [.ptr 0]] ((), ())) (mos [.box [.c (.sl .u8), .c (.int .i64), .c (.int .i64)]] ((y0.b, y0.i, y0.h, ()), ())) [rv (.st .tupl) [] (s_l12Bent y0).1] (mos [.box [.c (.sl .u8), .c (.int .i64), .c (.int .i64)]] ((((s_l12Bent y0).2).b, ((s_l12Bent y0).2).i, ((s_l12Bent y0).2).h, ()), ())) := by
  refine ConM.of_facts (enters_of Try.func116 rfl (by kernel_rfl)) fun hf hg => ?_
  replace hf := factAt hf
  exact evalFn_conLM teFact mixFact (orcOf_ok _) Try.func116 (by kernel_rfl) (bs := []) (by kernel_rfl) (by kernel_rfl) (by kernel_rfl) rfl (fun w0 mo I0 hmo => trivial) ((s_l12Bent_lk y0).trans (s_l12Bent_p y0 ((mbAt hg 0 0 rfl rfl).len) ((mbAt hg 0 1 rfl rfl).rng) ((mbAt hg 0 2 rfl rfl).rng) hp _ _ _))
noncomputable def s_l12Bent_e : Ent1 Try.prog := entM 116 [.wr false [.ptr 0]] [.box [.c (.sl .u8), .c (.int .i64), .c (.int .i64)]] (fun x y => (decide (0 ≤ (⟨y.1.1, y.1.2.1, y.1.2.2.1⟩ : Curs).i ∧ (⟨y.1.1, y.1.2.1, y.1.2.2.1⟩ : Curs).b.length ≤ 1048576))) (fun x y => (s_l12Bent (⟨y.1.1, y.1.2.1, y.1.2.2.1⟩ : Curs))) (fun v => [rv (.st .tupl) [] v.1]) (fun x y v => (mos [.box [.c (.sl .u8), .c (.int .i64), .c (.int .i64)]] ((v.2.b, v.2.i, v.2.h, ()), ()))) (fun x y hx => s_l12Bent_c (⟨y.1.1, y.1.2.1, y.1.2.2.1⟩ : Curs) (of_decide_eq_true hx))

theorem s_l12Bent_cur (y0 : Curs)  (hc0 : 0 ≤ y0.i ∧ y0.b.length ≤ 1048576) : 0 ≤ (s_l12Bent y0).2.i ∧ (s_l12Bent y0).2.b.length ≤ 1048576 := by
  unfold s_l12Bent
  exact letP (P := (fun v : Tupl × Curs => 0 ≤ v.2.i ∧ v.2.b.length ≤ 1048576)) (fun c1 hc1 => have kc1 : 0 ≤ c1.2.i ∧ c1.2.b.length ≤ 1048576 := (by rw [hc1]; exact s_l12Tuple_cur _ (by first | assumption | exact ⟨by assumption, by assumption⟩ | grind [maxSl, wrap64])); letP (P := (fun v : Tupl × Curs => 0 ≤ v.2.i ∧ v.2.b.length ≤ 1048576)) (fun c2 hc2 => have rc2 := s_l1Below_rng c1.2 10 (by first | assumption | exact ⟨by assumption, by assumption⟩ | grind [maxSl, wrap64]); have kc2 : 0 ≤ c2.2.i ∧ c2.2.b.length ≤ 1048576 := (by rw [hc2]; exact s_l1Below_cur _ _ (by first | assumption | exact ⟨by assumption, by assumption⟩ | grind [maxSl, wrap64])); bifP (P := (fun v : Tupl × Curs => 0 ≤ v.2.i ∧ v.2.b.length ≤ 1048576)) (fun b0 => letP (P := (fun v : Tupl × Curs => 0 ≤ v.2.i ∧ v.2.b.length ≤ 1048576)) (fun c3 hc3 => have kc3 : 0 ≤ c3.2.i ∧ c3.2.b.length ≤ 1048576 := (by rw [hc3]; exact s_l2Word_cur _ (by first | assumption | exact ⟨by assumption, by assumption⟩ | grind [maxSl, wrap64])); (by (try simp only [Nat.ble_eq, Bool.and_eq_true, decide_eq_true_eq]); grind [maxSl, maxStr, toBytes_length, toInts_length, List.length_set, wrap64, s_l12Tuple_cur, s_l1Below_rng, s_l1Below_cur, s_l2Word_cur])))
      (fun b0 => bifP (P := (fun v : Tupl × Curs => 0 ≤ v.2.i ∧ v.2.b.length ≤ 1048576)) (fun b1 => letP (P := (fun v : Tupl × Curs => 0 ≤ v.2.i ∧ v.2.b.length ≤ 1048576)) (fun c4 hc4 => have kc4 : 0 ≤ c4.2.i ∧ c4.2.b.length ≤ 1048576 := (by rw [hc4]; exact s_l2Word_cur _ (by first | assumption | exact ⟨by assumption, by assumption⟩ | grind [maxSl, wrap64])); (by (try simp only [Nat.ble_eq, Bool.and_eq_true, decide_eq_true_eq]); grind [maxSl, maxStr, toBytes_length, toInts_length, List.length_set, wrap64, s_l12Tuple_cur, s_l1Below_rng, s_l1Below_cur, s_l2Word_cur])))
      (fun b1 => bifP (P := (fun v : Tupl × Curs => 0 ≤ v.2.i ∧ v.2.b.length ≤ 1048576)) (fun b2 => letP (P := (fun v : Tupl × Curs => 0 ≤ v.2.i ∧ v.2.b.length ≤ 1048576)) (fun c5 hc5 => have kc5 : 0 ≤ c5.2.i ∧ c5.2.b.length ≤ 1048576 := (by rw [hc5]; exact s_l2Word_cur _ (by first | assumption | exact ⟨by assumption, by assumption⟩ | grind [maxSl, wrap64])); (by (try simp only [Nat.ble_eq, Bool.and_eq_true, decide_eq_true_eq]); grind [maxSl, maxStr, toBytes_length, toInts_length, List.length_set, wrap64, s_l12Tuple_cur, s_l1Below_rng, s_l1Below_cur, s_l2Word_cur])))
      (fun b2 => (by (try simp only [Nat.ble_eq, Bool.and_eq_true, decide_eq_true_eq]); grind [maxSl, maxStr, toBytes_length, toInts_length, List.length_set, wrap64, s_l12Tuple_cur, s_l1Below_rng, s_l1Below_cur, s_l2Word_cur]))))))

/-- spec.l31Args -/
def s_l31Args_ann : List (Nat × Keep) := [(0, ⟨[0, 4, 5, 6, 7], [], false, 1⟩)]
def s_l31Args_L0_sh : Sh := ⟨[(0, false, [.ptr 0 0]), (4, false, [.int .i64]), (5, false, [.own 1]), (6, false, [.int .i64]), (7, false, [.int .i64])], [.box [.sl .any .u8, .int .i64, .int .i64], .arr .issu false true]⟩
def s_l31Args_L0_es : List (Ex × Sh) := [(.exit 0, ⟨[(0, false, [.ptr 0 0]), (2, false, [.undef]), (3, false, [.undef]), (4, false, [.int .i64]), (5, false, [.own 1])], [.box [.sl .any .u8, .int .i64, .int .i64], .arr .issu false true]⟩)]
def s_l31Args_L0_mk (v0 : Int) (v1 : Int) (v2 : Int) (v3 : List Int) (v4 : Int) (v5 : Int) (v6 : List Issu) : s_l31Args_L0_sh.T := ((((), ()), ((v0, ()), (((), ()), ((v1, ()), ((v2, ()), ()))))), ((v3, (v4, (v5, ()))), (v6, ())))
def s_l31Args_L0_mx0 (y0 : Int) (y1 : List Int) (y2 : Int) (y3 : Int) (y4 : List Issu) : Sh.T ⟨[(0, false, [.ptr 0 0]), (2, false, [.undef]), (3, false, [.undef]), (4, false, [.int .i64]), (5, false, [.own 1])], [.box [.sl .any .u8, .int .i64, .int .i64], .arr .issu false true]⟩ := ((((), ()), (((), ()), (((), ()), ((y0, ()), (((), ()), ()))))), ((y1, (y2, (y3, ()))), (y4, ())))
def s_l31Args_L0_B (v0 : Int) (v1 : Int) (v2 : Int) (v3 : List Int) (v4 : Int) (v5 : Int) (v6 : List Issu) (γ : Type) (fail : γ) (next : s_l31Args_L0_sh.T → γ) (out : WT s_l31Args_L0_es → γ) : γ :=
  bif (decide (v2 < v1)) then
    bif (decide (0 ≤ (⟨v3, v4, v5⟩ : Curs).i ∧ (⟨v3, v4, v5⟩ : Curs).b.length ≤ 1048576)) then
    letK (α := Issu × Curs) (s_l31Guess (⟨v3, v4, v5⟩ : Curs) v0) fun c3 =>
    bif (decide (0 ≤ c3.2.i ∧ c3.2.b.length ≤ 1048576)) then
    letK (α := Bool × Curs) (s_l1Once c3.2 10) fun c4 =>
    bif c4.1 then
      bif (decide (0 ≤ c4.2.i ∧ c4.2.b.length ≤ 1048576)) then
      letK (α := Int × Curs) (s_l4Place c4.2) fun c5 =>
      bif (Nat.ble ((2 * (v6.length + 1) + 1024) * 40) maxSl) then
      next (s_l31Args_L0_mk v0 v1 (IntKind.wrap .i64 (v2 + 1)) c5.2.b c5.2.i c5.2.h (v6 ++ [({ c3.1 with cookie := c5.1 } : Issu)]))
      else fail
      else fail
    else
    bif (Nat.ble ((2 * (v6.length + 1) + 1024) * 40) maxSl) then
    next (s_l31Args_L0_mk v0 v1 (IntKind.wrap .i64 (v2 + 1)) c4.2.b c4.2.i c4.2.h (v6 ++ [c3.1]))
    else fail
    else fail
    else fail
  else
  out (s_l31Args_L0_mx0 v0 v3 v4 v5 v6)
theorem s_l31Args_L0_par (v0 : Int) (v1 : Int) (v2 : Int) (v3 : List Int) (v4 : Int) (v5 : Int) (v6 : List Issu) (γ : Type) (fail : γ) (next : s_l31Args_L0_sh.T → γ) (out : WT s_l31Args_L0_es → γ) : s_l31Args_L0_B v0 v1 v2 v3 v4 v5 v6 γ fail next out = optK (s_l31Args_L0_B v0 v1 v2 v3 v4 v5 v6 _ none (fun v' => some (.inl v')) (fun w => some (.inr w))) fail (fun r => Sum.elim next out r) := by
  unfold s_l31Args_L0_B
  exact bifT (f := (fun o => optK o fail (fun r => Sum.elim next out r))) (fun _ => bifT (f := (fun o => optK o fail (fun r => Sum.elim next out r))) (fun _ => letT (f := (fun o => optK o fail (fun r => Sum.elim next out r))) (fun c3 _ => bifT (f := (fun o => optK o fail (fun r => Sum.elim next out r))) (fun _ => letT (f := (fun o => optK o fail (fun r => Sum.elim next out r))) (fun c4 _ => bifT (f := (fun o => optK o fail (fun r => Sum.elim next out r))) (fun _ => bifT (f := (fun o => optK o fail (fun r => Sum.elim next out r))) (fun _ => letT (f := (fun o => optK o fail (fun r => Sum.elim next out r))) (fun c5 _ => bifT (f := (fun o => optK o fail (fun r => Sum.elim next out r))) (fun _ => rfl) (fun _ => rfl))) (fun _ => rfl))
      (fun _ => bifT (f := (fun o => optK o fail (fun r => Sum.elim next out r))) (fun _ => rfl) (fun _ => rfl)))) (fun _ => rfl))) (fun _ => rfl))
      (fun _ => rfl)
def s_l31Args_L0_r : Round s_l31Args_L0_sh.T (WT s_l31Args_L0_es) where
  B v γ fail next out := s_l31Args_L0_B v.1.2.1.1 v.1.2.2.2.1.1 v.1.2.2.2.2.1.1 v.2.1.1 v.2.1.2.1 v.2.1.2.2.1 v.2.2.1 γ fail next out
  par v γ fail next out := s_l31Args_L0_par v.1.2.1.1 v.1.2.2.2.1.1 v.1.2.2.2.2.1.1 v.2.1.1 v.2.1.2.1 v.2.1.2.2.1 v.2.2.1 γ fail next out
def s_l31Args_L0_fu (v0 : Int) (v1 : Int) (v2 : Int) (v3 : List Int) (v4 : Int) (v5 : Int) (v6 : List Issu) : Nat := (Int.toNat (v1 - v2)) + 1
theorem s_l31Args_L0_lk (v : s_l31Args_L0_sh.T) (next : St → Option Res) (k : Ex → St → Option Res) : evalK te (orcOf (P := Try.prog) [s_l1PickInt_e, s_l1Below_e, s_l31Guess_e, s_l1Once_e, s_l4Place_e, s_l12Bent_e]) (lorcOf []) Try.f90.ntmps s_l31Args_ann (nthLoop (bodyOf Try.f90) 0 0) 0 (s_l31Args_L0_sh.enc v) (endK ⟨[0, 4, 5, 6, 7], [], false, 1⟩ ⟨[0, 2, 3, 4, 5], [], false, 1⟩ next k) =
  s_l31Args_L0_r.B v _ none (fun v' => next (s_l31Args_L0_sh.enc v')) (fun w => outK s_l31Args_L0_es k w) := by kernel_rfl
def s_l31Args_L0_le : LE := leOf 0 s_l31Args_L0_sh s_l31Args_L0_es s_l31Args_L0_r.step (fun v => s_l31Args_L0_fu v.1.2.1.1 v.1.2.2.2.1.1 v.1.2.2.2.2.1.1 v.2.1.1 v.2.1.2.1 v.2.1.2.2.1 v.2.2.1)
theorem s_l31Args_L0_ls (w0 : World) (mo : Mts) (I0 : Nat → Prop) (hmo : mo.length = 1) : LSem Try.prog (Sim w0 mo Try.f90.ntmps I0) (fun b s k => match Nat.beq 0 b with | true => s_l31Args_L0_le.run s k | false => none) 0 (nthLoop (bodyOf Try.f90) 0 0) :=
  le_sem hmo (lorc := lorcOf []) (ann := s_l31Args_ann) (keep := ⟨[0, 4, 5, 6, 7], [], false, 1⟩) (kout := ⟨[0, 2, 3, 4, 5], [], false, 1⟩) teFact mixFact (orcOf_ok _) (by kernel_rfl) (allLoops_of (bs := []) (by kernel_rfl) trivial) s_l31Args_L0_r _ s_l31Args_L0_lk
def s_l31Args_L0_f (v0 : Int) (v1 : Int) (v2 : Int) (a : List Int × Int × Int × List Issu) : Stp (List Int × Int × Int × List Issu) (Empty) :=
  letK (α := Issu × Curs) (s_l31Guess (⟨a.1, a.2.1, a.2.2.1⟩ : Curs) v0) fun c3 =>
  letK (α := Bool × Curs) (s_l1Once c3.2 10) fun c4 =>
  bif c4.1 then
    letK (α := Int × Curs) (s_l4Place c4.2) fun c5 =>
    .next (c5.2.b, c5.2.i, c5.2.h, (a.2.2.2 ++ [({ c3.1 with cookie := c5.1 } : Issu)]))
  else
  .next (c4.2.b, c4.2.i, c4.2.h, (a.2.2.2 ++ [c3.1]))
theorem s_l31Args_L0_st (v0 : Int) (v1 : Int) (v2 : Int) (v3 : List Int) (v4 : Int) (v5 : Int) (v6 : List Issu) (hlo : 0 ≤ v2) (hhi : v2 < v1) (hN : v1 ≤ 4611686018427387904) (hi0 : v1 ≤ 1048576) (hinv : 0 ≤ v4 ∧ v3.length ≤ 1048576 ∧ (v6.length : Int) ≤ v2) : s_l31Args_L0_r.step (s_l31Args_L0_mk v0 v1 v2 v3 v4 v5 v6) = Stp.elim (fun a' : List Int × Int × Int × List Issu => some (Sum.inl (s_l31Args_L0_mk v0 v1 (v2 + 1) a'.1 a'.2.1 a'.2.2.1 a'.2.2.2))) (fun w => some (Sum.inr ((fun p : Empty => nomatch p) w))) (s_l31Args_L0_f v0 v1 v2 (v3, v4, v5, v6)) := by
  have hw : (IntKind.wrap .i64 (v2 + 1)) = v2 + 1 := wrap64 (by omega) (by omega)
  show s_l31Args_L0_B v0 v1 v2 v3 v4 v5 v6 (Option (s_l31Args_L0_sh.T ⊕ WT s_l31Args_L0_es)) none (fun v' => some (Sum.inl v')) (fun w => some (Sum.inr w)) = _
  unfold s_l31Args_L0_B s_l31Args_L0_f
  exact bifG (by simp only [decide_eq_true_eq]; omega) (bifG (by (try simp only [Nat.ble_eq, Bool.and_eq_true, decide_eq_true_eq]); grind [maxSl, maxStr, toBytes_length, toInts_length, List.length_set, wrap64, s_l1PickInt_cur, s_l1Below_rng, s_l1Below_cur, s_l31Guess_cur, s_l1Once_cur, s_l4Place_cur, s_l12Bent_cur]) (letT (f := (Stp.elim (fun a' : List Int × Int × Int × List Issu => some (Sum.inl (s_l31Args_L0_mk v0 v1 (v2 + 1) a'.1 a'.2.1 a'.2.2.1 a'.2.2.2))) (fun w => some (Sum.inr ((fun p : Empty => nomatch p) w))))) (fun (c3 : Issu × Curs) hc3 => have kc3 : 0 ≤ c3.2.i ∧ c3.2.b.length ≤ 1048576 := (by rw [hc3]; exact s_l31Guess_cur _ _ (by first | assumption | exact ⟨by assumption, by assumption⟩ | grind [maxSl, wrap64, s_l31Args_L0_mx0])); bifG (by (try simp only [Nat.ble_eq, Bool.and_eq_true, decide_eq_true_eq]); grind [maxSl, maxStr, toBytes_length, toInts_length, List.length_set, wrap64, s_l1PickInt_cur, s_l1Below_rng, s_l1Below_cur, s_l31Guess_cur, s_l1Once_cur, s_l4Place_cur, s_l12Bent_cur]) (letT (f := (Stp.elim (fun a' : List Int × Int × Int × List Issu => some (Sum.inl (s_l31Args_L0_mk v0 v1 (v2 + 1) a'.1 a'.2.1 a'.2.2.1 a'.2.2.2))) (fun w => some (Sum.inr ((fun p : Empty => nomatch p) w))))) (fun (c4 : Bool × Curs) hc4 => have kc4 : 0 ≤ c4.2.i ∧ c4.2.b.length ≤ 1048576 := (by rw [hc4]; exact s_l1Once_cur _ _ (by first | assumption | exact ⟨by assumption, by assumption⟩ | grind [maxSl, wrap64, s_l31Args_L0_mx0])); bifT (f := (Stp.elim (fun a' : List Int × Int × Int × List Issu => some (Sum.inl (s_l31Args_L0_mk v0 v1 (v2 + 1) a'.1 a'.2.1 a'.2.2.1 a'.2.2.2))) (fun w => some (Sum.inr ((fun p : Empty => nomatch p) w))))) (fun b0 => bifG (by (try simp only [Nat.ble_eq, Bool.and_eq_true, decide_eq_true_eq]); grind [maxSl, maxStr, toBytes_length, toInts_length, List.length_set, wrap64, s_l1PickInt_cur, s_l1Below_rng, s_l1Below_cur, s_l31Guess_cur, s_l1Once_cur, s_l4Place_cur, s_l12Bent_cur]) (letT (f := (Stp.elim (fun a' : List Int × Int × Int × List Issu => some (Sum.inl (s_l31Args_L0_mk v0 v1 (v2 + 1) a'.1 a'.2.1 a'.2.2.1 a'.2.2.2))) (fun w => some (Sum.inr ((fun p : Empty => nomatch p) w))))) (fun (c5 : Int × Curs) hc5 => have kc5 : 0 ≤ c5.2.i ∧ c5.2.b.length ≤ 1048576 := (by rw [hc5]; exact s_l4Place_cur _ (by first | assumption | exact ⟨by assumption, by assumption⟩ | grind [maxSl, wrap64, s_l31Args_L0_mx0])); bifG (by (try simp only [Nat.ble_eq, Bool.and_eq_true, decide_eq_true_eq]); grind [maxSl, maxStr, toBytes_length, toInts_length, List.length_set, wrap64, s_l1PickInt_cur, s_l1Below_rng, s_l1Below_cur, s_l31Guess_cur, s_l1Once_cur, s_l4Place_cur, s_l12Bent_cur]) ((by exact congrArg (fun z => some (Sum.inl (s_l31Args_L0_mk v0 v1 z c5.2.b c5.2.i c5.2.h (v6 ++ [({ c3.1 with cookie := c5.1 } : Issu)])))) hw)))))
      (fun b0 => bifG (by (try simp only [Nat.ble_eq, Bool.and_eq_true, decide_eq_true_eq]); grind [maxSl, maxStr, toBytes_length, toInts_length, List.length_set, wrap64, s_l1PickInt_cur, s_l1Below_rng, s_l1Below_cur, s_l31Guess_cur, s_l1Once_cur, s_l4Place_cur, s_l12Bent_cur]) ((by exact congrArg (fun z => some (Sum.inl (s_l31Args_L0_mk v0 v1 z c4.2.b c4.2.i c4.2.h (v6 ++ [c3.1])))) hw))))))))
theorem s_l31Args_L0_cl (v0 : Int) (v1 : Int) (v2 : Int) (v3 : List Int) (v4 : Int) (v5 : Int) (v6 : List Issu) (h0 : 0 ≤ v2) (h1 : v1 ≤ 4611686018427387904) (h2 : v1 ≤ 1048576) (h3 : 0 ≤ v4 ∧ v3.length ≤ 1048576 ∧ (v6.length : Int) ≤ v2) : loopF s_l31Args_L0_r.step (s_l31Args_L0_fu v0 v1 v2 v3 v4 v5 v6) (s_l31Args_L0_mk v0 v1 v2 v3 v4 v5 v6) = some (Stp.elim (fun a => (fun i a => s_l31Args_L0_mx0 v0 a.1 a.2.1 a.2.2.1 a.2.2.2) (v2 + 1 * (((Int.toNat (v1 - v2)) : Nat) : Int)) a) (fun p : Empty => nomatch p) (forN (s_l31Args_L0_f v0 v1) 1 (Int.toNat (v1 - v2)) v2 (v3, v4, v5, v6))) :=
  forN_loop (step := s_l31Args_L0_r.step) (mk := fun v2 a => s_l31Args_L0_mk v0 v1 v2 a.1 a.2.1 a.2.2.1 a.2.2.2) (f := s_l31Args_L0_f v0 v1) (e := (fun i a => s_l31Args_L0_mx0 v0 a.1 a.2.1 a.2.2.1 a.2.2.2)) (emb := (fun p : Empty => nomatch p)) (st := 1) (Inv := fun v2 a => 0 ≤ a.2.1 ∧ a.1.length ≤ 1048576 ∧ (a.2.2.2.length : Int) ≤ v2) (Int.toNat (v1 - v2)) v2 (v3, v4, v5, v6) _ (Nat.lt_succ_self _) h3
    (fun j a hj hv => ⟨s_l31Args_L0_st v0 v1 (v2 + 1 * (j : Int)) a.1 a.2.1 a.2.2.1 a.2.2.2 (by omega) (by omega) (by omega) h2 hv, by
      intro a' he
      have k1 := s_l31Guess_cur (⟨a.1, a.2.1, a.2.2.1⟩ : Curs) v0 ⟨hv.1, hv.2.1⟩
      have k2 := s_l1Once_cur _ 10 k1
      unfold s_l31Args_L0_f at he
      simp only [letK] at he
      cases hc : (s_l1Once (s_l31Guess (⟨a.1, a.2.1, a.2.2.1⟩ : Curs) v0).2 10).1 <;> rw [hc] at he <;> cases he
      · exact ⟨k2.1, k2.2, by simp only [List.length_append, List.length_singleton]; have := hv.2.2; omega⟩
      · have k3 := s_l4Place_cur _ k2
        exact ⟨k3.1, k3.2, by simp only [List.length_append, List.length_singleton]; have := hv.2.2; omega⟩⟩)
    (fun a hv => by
      show s_l31Args_L0_B v0 v1 (v2 + 1 * (((Int.toNat (v1 - v2)) : Nat) : Int)) a.1 a.2.1 a.2.2.1 a.2.2.2 (Option (s_l31Args_L0_sh.T ⊕ WT s_l31Args_L0_es)) none (fun v' => some (Sum.inl v')) (fun w => some (Sum.inr w)) = _
      unfold s_l31Args_L0_B
      exact bifN (by simp only [decide_eq_false_iff_not]; omega) rfl)
theorem s_l31Args_L0_nx (v0 : Int) (v1 : Int) (v2 : Int) (v3 : List Int) (v4 : Int) (v5 : Int) (v6 : List Issu) (h0 : 0 ≤ v2) (h1 : v1 ≤ 4611686018427387904) (h2 : v1 ≤ 1048576) (h3 : 0 ≤ v4 ∧ v3.length ≤ 1048576 ∧ (v6.length : Int) ≤ v2) : ∀ a', forN (s_l31Args_L0_f v0 v1) 1 (Int.toNat (v1 - v2)) v2 (v3, v4, v5, v6) = .next a' → 0 ≤ a'.2.1 ∧ a'.1.length ≤ 1048576 ∧ (a'.2.2.2.length : Int) ≤ (v2 + 1 * (((Int.toNat (v1 - v2)) : Nat) : Int)) :=
  forN_inv (f := s_l31Args_L0_f v0 v1) (st := 1) (Inv := fun v2 a => 0 ≤ a.2.1 ∧ a.1.length ≤ 1048576 ∧ (a.2.2.2.length : Int) ≤ v2) (Int.toNat (v1 - v2)) v2 (v3, v4, v5, v6) h3
    (fun j a hj hv => by
      intro a' he
      have k1 := s_l31Guess_cur (⟨a.1, a.2.1, a.2.2.1⟩ : Curs) v0 ⟨hv.1, hv.2.1⟩
      have k2 := s_l1Once_cur _ 10 k1
      unfold s_l31Args_L0_f at he
      simp only [letK] at he
      cases hc : (s_l1Once (s_l31Guess (⟨a.1, a.2.1, a.2.2.1⟩ : Curs) v0).2 10).1 <;> rw [hc] at he <;> cases he
      · exact ⟨k2.1, k2.2, by simp only [List.length_append, List.length_singleton]; have := hv.2.2; omega⟩
      · have k3 := s_l4Place_cur _ k2
        exact ⟨k3.1, k3.2, by simp only [List.length_append, List.length_singleton]; have := hv.2.2; omega⟩)
def s_l31Args_N (y0 : Curs) (γ : Type) (fail : γ) (k : Int × List Issu × Curs → γ) : γ :=
  bif (decide ((0 ≤ y0.i ∧ y0.b.length ≤ 1048576) ∧ 0 < ([0, 1, 31, 32, 33, 4294967295] : List Int).length)) then
  letK (α := Int × Curs) (s_l1PickInt y0 [0, 1, 31, 32, 33, 4294967295]) fun c1 =>
  bif (decide (0 ≤ c1.2.i ∧ c1.2.b.length ≤ 1048576)) then
  letK (α := Int × Curs) (s_l1Below c1.2 5) fun c2 =>
  optK (loopF s_l31Args_L0_r.step (s_l31Args_L0_fu c1.1 c2.1 0 c2.2.b c2.2.i c2.2.h []) (s_l31Args_L0_mk c1.1 c2.1 0 c2.2.b c2.2.i c2.2.h [])) fail fun w6 =>
    bif (decide (0 ≤ (⟨w6.2.1.1, w6.2.1.2.1, w6.2.1.2.2.1⟩ : Curs).i ∧ (⟨w6.2.1.1, w6.2.1.2.1, w6.2.1.2.2.1⟩ : Curs).b.length ≤ 1048576)) then
    letK (α := Bool × Curs) (s_l1Once (⟨w6.2.1.1, w6.2.1.2.1, w6.2.1.2.2.1⟩ : Curs) 12) fun c7 =>
    bif c7.1 then
      bif (decide ((0 ≤ c7.2.i ∧ c7.2.b.length ≤ 1048576) ∧ 0 < ([(-1), 4294967296] : List Int).length)) then
      letK (α := Int × Curs) (s_l1PickInt c7.2 [(-1), 4294967296]) fun c8 =>
      bif (decide (0 ≤ c8.2.i ∧ c8.2.b.length ≤ 1048576)) then
      letK (α := Bool × Curs) (s_l1Once c8.2 12) fun c9 =>
      bif c9.1 then
        bif (decide (0 ≤ c9.2.i ∧ c9.2.b.length ≤ 1048576)) then
        letK (α := Tupl × Curs) (s_l12Bent c9.2) fun c10 =>
        bif (decide (0 ≤ c10.2.i ∧ c10.2.b.length ≤ 1048576)) then
        letK (α := Int × Curs) (s_l4Place c10.2) fun c11 =>
        bif (Nat.ble ((2 * (w6.2.2.1.length + 1) + 1024) * 40) maxSl) then
        k (c8.1, (w6.2.2.1 ++ [(⟨c10.1, c11.1, 0⟩ : Issu)]), c11.2)
        else fail
        else fail
        else fail
      else
      k (c8.1, w6.2.2.1, c9.2)
      else fail
      else fail
    else
    bif (decide (0 ≤ c7.2.i ∧ c7.2.b.length ≤ 1048576)) then
    letK (α := Bool × Curs) (s_l1Once c7.2 12) fun c12 =>
    bif c12.1 then
      bif (decide (0 ≤ c12.2.i ∧ c12.2.b.length ≤ 1048576)) then
      letK (α := Tupl × Curs) (s_l12Bent c12.2) fun c13 =>
      bif (decide (0 ≤ c13.2.i ∧ c13.2.b.length ≤ 1048576)) then
      letK (α := Int × Curs) (s_l4Place c13.2) fun c14 =>
      bif (Nat.ble ((2 * (w6.2.2.1.length + 1) + 1024) * 40) maxSl) then
      k (w6.1.2.2.2.1.1, (w6.2.2.1 ++ [(⟨c13.1, c14.1, 0⟩ : Issu)]), c14.2)
      else fail
      else fail
      else fail
    else
    k (w6.1.2.2.2.1.1, w6.2.2.1, c12.2)
    else fail
    else fail
  else fail
  else fail
def s_l31Args (y0 : Curs) : Int × List Issu × Curs :=
  letK (α := Int × Curs) (s_l1PickInt y0 [0, 1, 31, 32, 33, 4294967295]) fun c1 =>
  letK (α := Int × Curs) (s_l1Below c1.2 5) fun c2 =>
  Stp.elim (fun a15 =>
    letK (α := Bool × Curs) (s_l1Once (⟨a15.1, a15.2.1, a15.2.2.1⟩ : Curs) 12) fun c16 =>
    bif c16.1 then
      letK (α := Int × Curs) (s_l1PickInt c16.2 [(-1), 4294967296]) fun c17 =>
      letK (α := Bool × Curs) (s_l1Once c17.2 12) fun c18 =>
      bif c18.1 then
        letK (α := Tupl × Curs) (s_l12Bent c18.2) fun c19 =>
        letK (α := Int × Curs) (s_l4Place c19.2) fun c20 =>
        (c17.1, (a15.2.2.2 ++ [(⟨c19.1, c20.1, 0⟩ : Issu)]), c20.2)
      else
      (c17.1, a15.2.2.2, c18.2)
    else
    letK (α := Bool × Curs) (s_l1Once c16.2 12) fun c21 =>
    bif c21.1 then
      letK (α := Tupl × Curs) (s_l12Bent c21.2) fun c22 =>
      letK (α := Int × Curs) (s_l4Place c22.2) fun c23 =>
      (c1.1, (a15.2.2.2 ++ [(⟨c22.1, c23.1, 0⟩ : Issu)]), c23.2)
    else
    (c1.1, a15.2.2.2, c21.2))
    (fun p : Empty => nomatch p)
    (forN (s_l31Args_L0_f c1.1 c2.1) 1 (Int.toNat (c2.1 - 0)) 0 (c2.2.b, c2.2.i, c2.2.h, []))
theorem s_l31Args_lk (y0 : Curs) : evalFnM te (orcOf (P := Try.prog) [s_l1PickInt_e, s_l1Below_e, s_l31Guess_e, s_l1Once_e, s_l4Place_e, s_l12Bent_e]) (lorcOf [s_l31Args_L0_le]) s_l31Args_ann Try.f90 (pvs [.wr false [.ptr 0]] ((), ())) (mos [.box [.c (.sl .u8), .c (.int .i64), .c (.int .i64)]] ((y0.b, y0.i, y0.h, ()), ())) =
  s_l31Args_N y0 _ none (fun v => some ([(false, [RC.c (.int .i64 v.1)]), (false, [RC.own true .issu v.2.1])] ++ (mos [.box [.c (.sl .u8), .c (.int .i64), .c (.int .i64)]] ((v.2.2.b, v.2.2.i, v.2.2.h, ()), ())).map encO)) := by kernel_rfl
theorem s_l31Args_p (y0 : Curs) (hy0_b : y0.b.length ≤ 140737488355328) (hy0_i : inK .i64 y0.i) (hy0_h : inK .i64 y0.h) (hp : 0 ≤ y0.i ∧ y0.b.length ≤ 1048576) (γ : Type) (fail : γ) (k : Int × List Issu × Curs → γ) : s_l31Args_N y0 γ fail k = k (s_l31Args y0) := by
  unfold s_l31Args_N s_l31Args
  exact bifG (by (try simp only [Nat.ble_eq, Bool.and_eq_true, decide_eq_true_eq, s_l31Args_L0_mx0]); grind [maxSl, maxStr, toBytes_length, toInts_length, List.length_set, wrap64, s_l1PickInt_cur, s_l1Below_rng, s_l1Below_cur, s_l31Guess_cur, s_l1Once_cur, s_l4Place_cur, s_l12Bent_cur]) (letT (f := k) (fun c1 hc1 => have kc1 : 0 ≤ c1.2.i ∧ c1.2.b.length ≤ 1048576 := (by rw [hc1]; exact s_l1PickInt_cur _ _ (by first | assumption | exact ⟨by assumption, by assumption⟩ | grind [maxSl, wrap64, s_l31Args_L0_mx0]) (by first | assumption | exact ⟨by assumption, by assumption⟩ | grind [maxSl, wrap64, s_l31Args_L0_mx0])); bifG (by (try simp only [Nat.ble_eq, Bool.and_eq_true, decide_eq_true_eq, s_l31Args_L0_mx0]); grind [maxSl, maxStr, toBytes_length, toInts_length, List.length_set, wrap64, s_l1PickInt_cur, s_l1Below_rng, s_l1Below_cur, s_l31Guess_cur, s_l1Once_cur, s_l4Place_cur, s_l12Bent_cur]) (letT (f := k) (fun c2 hc2 => have rc2 := s_l1Below_rng c1.2 5 (by first | assumption | exact ⟨by assumption, by assumption⟩ | grind [maxSl, wrap64, s_l31Args_L0_mx0]); have kc2 : 0 ≤ c2.2.i ∧ c2.2.b.length ≤ 1048576 := (by rw [hc2]; exact s_l1Below_cur _ _ (by first | assumption | exact ⟨by assumption, by assumption⟩ | grind [maxSl, wrap64, s_l31Args_L0_mx0])); loopX (f := k) (s_l31Args_L0_cl c1.1 c2.1 0 c2.2.b c2.2.i c2.2.h [] (by (try simp only [Nat.ble_eq, Bool.and_eq_true, decide_eq_true_eq, s_l31Args_L0_mx0]); grind [maxSl, maxStr, toBytes_length, toInts_length, List.length_set, wrap64, s_l1PickInt_cur, s_l1Below_rng, s_l1Below_cur, s_l31Guess_cur, s_l1Once_cur, s_l4Place_cur, s_l12Bent_cur]) (by (try simp only [Nat.ble_eq, Bool.and_eq_true, decide_eq_true_eq, s_l31Args_L0_mx0]); grind [maxSl, maxStr, toBytes_length, toInts_length, List.length_set, wrap64, s_l1PickInt_cur, s_l1Below_rng, s_l1Below_cur, s_l31Guess_cur, s_l1Once_cur, s_l4Place_cur, s_l12Bent_cur]) (by (try simp only [Nat.ble_eq, Bool.and_eq_true, decide_eq_true_eq, s_l31Args_L0_mx0]); grind [maxSl, maxStr, toBytes_length, toInts_length, List.length_set, wrap64, s_l1PickInt_cur, s_l1Below_rng, s_l1Below_cur, s_l31Guess_cur, s_l1Once_cur, s_l4Place_cur, s_l12Bent_cur]) (by (try simp only [Nat.ble_eq, Bool.and_eq_true, decide_eq_true_eq, s_l31Args_L0_mx0]); grind [maxSl, maxStr, toBytes_length, toInts_length, List.length_set, wrap64, s_l1PickInt_cur, s_l1Below_rng, s_l1Below_cur, s_l31Guess_cur, s_l1Once_cur, s_l4Place_cur, s_l12Bent_cur])) (fun a15 ha15 => have ia15 := s_l31Args_L0_nx c1.1 c2.1 0 c2.2.b c2.2.i c2.2.h [] (by (try simp only [Nat.ble_eq, Bool.and_eq_true, decide_eq_true_eq, s_l31Args_L0_mx0]); grind [maxSl, maxStr, toBytes_length, toInts_length, List.length_set, wrap64, s_l1PickInt_cur, s_l1Below_rng, s_l1Below_cur, s_l31Guess_cur, s_l1Once_cur, s_l4Place_cur, s_l12Bent_cur]) (by (try simp only [Nat.ble_eq, Bool.and_eq_true, decide_eq_true_eq, s_l31Args_L0_mx0]); grind [maxSl, maxStr, toBytes_length, toInts_length, List.length_set, wrap64, s_l1PickInt_cur, s_l1Below_rng, s_l1Below_cur, s_l31Guess_cur, s_l1Once_cur, s_l4Place_cur, s_l12Bent_cur]) (by (try simp only [Nat.ble_eq, Bool.and_eq_true, decide_eq_true_eq, s_l31Args_L0_mx0]); grind [maxSl, maxStr, toBytes_length, toInts_length, List.length_set, wrap64, s_l1PickInt_cur, s_l1Below_rng, s_l1Below_cur, s_l31Guess_cur, s_l1Once_cur, s_l4Place_cur, s_l12Bent_cur]) (by (try simp only [Nat.ble_eq, Bool.and_eq_true, decide_eq_true_eq, s_l31Args_L0_mx0]); grind [maxSl, maxStr, toBytes_length, toInts_length, List.length_set, wrap64, s_l1PickInt_cur, s_l1Below_rng, s_l1Below_cur, s_l31Guess_cur, s_l1Once_cur, s_l4Place_cur, s_l12Bent_cur]) _ ha15; bifG (by (try simp only [Nat.ble_eq, Bool.and_eq_true, decide_eq_true_eq, s_l31Args_L0_mx0]); grind [maxSl, maxStr, toBytes_length, toInts_length, List.length_set, wrap64, s_l1PickInt_cur, s_l1Below_rng, s_l1Below_cur, s_l31Guess_cur, s_l1Once_cur, s_l4Place_cur, s_l12Bent_cur]) (letT (f := k) (fun c16 hc16 => have kc16 : 0 ≤ c16.2.i ∧ c16.2.b.length ≤ 1048576 := (by rw [hc16]; exact s_l1Once_cur _ _ (by first | assumption | exact ⟨by assumption, by assumption⟩ | grind [maxSl, wrap64, s_l31Args_L0_mx0])); bifT (f := k) (fun b0 => bifG (by (try simp only [Nat.ble_eq, Bool.and_eq_true, decide_eq_true_eq, s_l31Args_L0_mx0]); grind [maxSl, maxStr, toBytes_length, toInts_length, List.length_set, wrap64, s_l1PickInt_cur, s_l1Below_rng, s_l1Below_cur, s_l31Guess_cur, s_l1Once_cur, s_l4Place_cur, s_l12Bent_cur]) (letT (f := k) (fun c17 hc17 => have kc17 : 0 ≤ c17.2.i ∧ c17.2.b.length ≤ 1048576 := (by rw [hc17]; exact s_l1PickInt_cur _ _ (by first | assumption | exact ⟨by assumption, by assumption⟩ | grind [maxSl, wrap64, s_l31Args_L0_mx0]) (by first | assumption | exact ⟨by assumption, by assumption⟩ | grind [maxSl, wrap64, s_l31Args_L0_mx0])); bifG (by (try simp only [Nat.ble_eq, Bool.and_eq_true, decide_eq_true_eq, s_l31Args_L0_mx0]); grind [maxSl, maxStr, toBytes_length, toInts_length, List.length_set, wrap64, s_l1PickInt_cur, s_l1Below_rng, s_l1Below_cur, s_l31Guess_cur, s_l1Once_cur, s_l4Place_cur, s_l12Bent_cur]) (letT (f := k) (fun c18 hc18 => have kc18 : 0 ≤ c18.2.i ∧ c18.2.b.length ≤ 1048576 := (by rw [hc18]; exact s_l1Once_cur _ _ (by first | assumption | exact ⟨by assumption, by assumption⟩ | grind [maxSl, wrap64, s_l31Args_L0_mx0])); bifT (f := k) (fun b1 => bifG (by (try simp only [Nat.ble_eq, Bool.and_eq_true, decide_eq_true_eq, s_l31Args_L0_mx0]); grind [maxSl, maxStr, toBytes_length, toInts_length, List.length_set, wrap64, s_l1PickInt_cur, s_l1Below_rng, s_l1Below_cur, s_l31Guess_cur, s_l1Once_cur, s_l4Place_cur, s_l12Bent_cur]) (letT (f := k) (fun c19 hc19 => have kc19 : 0 ≤ c19.2.i ∧ c19.2.b.length ≤ 1048576 := (by rw [hc19]; exact s_l12Bent_cur _ (by first | assumption | exact ⟨by assumption, by assumption⟩ | grind [maxSl, wrap64, s_l31Args_L0_mx0])); bifG (by (try simp only [Nat.ble_eq, Bool.and_eq_true, decide_eq_true_eq, s_l31Args_L0_mx0]); grind [maxSl, maxStr, toBytes_length, toInts_length, List.length_set, wrap64, s_l1PickInt_cur, s_l1Below_rng, s_l1Below_cur, s_l31Guess_cur, s_l1Once_cur, s_l4Place_cur, s_l12Bent_cur]) (letT (f := k) (fun c20 hc20 => have kc20 : 0 ≤ c20.2.i ∧ c20.2.b.length ≤ 1048576 := (by rw [hc20]; exact s_l4Place_cur _ (by first | assumption | exact ⟨by assumption, by assumption⟩ | grind [maxSl, wrap64, s_l31Args_L0_mx0])); bifG (by (try simp only [Nat.ble_eq, Bool.and_eq_true, decide_eq_true_eq, s_l31Args_L0_mx0]); grind [maxSl, maxStr, toBytes_length, toInts_length, List.length_set, wrap64, s_l1PickInt_cur, s_l1Below_rng, s_l1Below_cur, s_l31Guess_cur, s_l1Once_cur, s_l4Place_cur, s_l12Bent_cur]) (rfl))))))
      (fun b1 => rfl))))))
      (fun b0 => bifG (by (try simp only [Nat.ble_eq, Bool.and_eq_true, decide_eq_true_eq, s_l31Args_L0_mx0]); grind [maxSl, maxStr, toBytes_length, toInts_length, List.length_set, wrap64, s_l1PickInt_cur, s_l1Below_rng, s_l1Below_cur, s_l31Guess_cur, s_l1Once_cur, s_l4Place_cur, s_l12Bent_cur]) (letT (f := k) (fun c21 hc21 => have kc21 : 0 ≤ c21.2.i ∧ c21.2.b.length ≤ 1048576 := (by rw [hc21]; exact s_l1Once_cur _ _ (by first | assumption | exact ⟨by assumption, by assumption⟩ | grind [maxSl, wrap64, s_l31Args_L0_mx0])); bifT (f := k) (fun b1 => bifG (by (try simp only [Nat.ble_eq, Bool.and_eq_true, decide_eq_true_eq, s_l31Args_L0_mx0]); grind [maxSl, maxStr, toBytes_length, toInts_length, List.length_set, wrap64, s_l1PickInt_cur, s_l1Below_rng, s_l1Below_cur, s_l31Guess_cur, s_l1Once_cur, s_l4Place_cur, s_l12Bent_cur]) (letT (f := k) (fun c22 hc22 => have kc22 : 0 ≤ c22.2.i ∧ c22.2.b.length ≤ 1048576 := (by rw [hc22]; exact s_l12Bent_cur _ (by first | assumption | exact ⟨by assumption, by assumption⟩ | grind [maxSl, wrap64, s_l31Args_L0_mx0])); bifG (by (try simp only [Nat.ble_eq, Bool.and_eq_true, decide_eq_true_eq, s_l31Args_L0_mx0]); grind [maxSl, maxStr, toBytes_length, toInts_length, List.length_set, wrap64, s_l1PickInt_cur, s_l1Below_rng, s_l1Below_cur, s_l31Guess_cur, s_l1Once_cur, s_l4Place_cur, s_l12Bent_cur]) (letT (f := k) (fun c23 hc23 => have kc23 : 0 ≤ c23.2.i ∧ c23.2.b.length ≤ 1048576 := (by rw [hc23]; exact s_l4Place_cur _ (by first | assumption | exact ⟨by assumption, by assumption⟩ | grind [maxSl, wrap64, s_l31Args_L0_mx0])); bifG (by (try simp only [Nat.ble_eq, Bool.and_eq_true, decide_eq_true_eq, s_l31Args_L0_mx0]); grind [maxSl, maxStr, toBytes_length, toInts_length, List.length_set, wrap64, s_l1PickInt_cur, s_l1Below_rng, s_l1Below_cur, s_l31Guess_cur, s_l1Once_cur, s_l4Place_cur, s_l12Bent_cur]) (rfl))))))
      (fun b1 => rfl)))))))
      (fun p : Empty => nomatch p)))))
theorem s_l31Args_c (y0 : Curs) (hp : 0 ≤ y0.i ∧ y0.b.length ≤ 1048576) : ConM Try.prog 90 (pvs [.wr false [.ptr 0]] ((), ())) (mos [.box [.c (.sl .u8), .c (.int .i64), .c (.int .i64)]] ((y0.b, y0.i, y0.h, ()), ())) [rv (.sc (.int .i64)) [] (s_l31Args y0).1, rv (.sc (.sl .issu)) [.o true] (s_l31Args y0).2.1] (mos [.box [.c (.sl .u8), .c (.int .i64), .c (.int .i64)]] ((((s_l31Args y0).2.2).b, ((s_l31Args y0).2.2).i, ((s_l31Args y0).2.2).h, ()), ())) := by
  refine ConM.of_facts (enters_of Try.func90 rfl (by kernel_rfl)) fun hf hg => ?_
  replace hf := factAt hf
  exact evalFn_conLM teFact mixFact (orcOf_ok _) Try.func90 (by kernel_rfl) (bs := [0]) (by kernel_rfl) (by kernel_rfl) (by kernel_rfl) rfl (fun w0 mo I0 hmo => ⟨lsem_of_lorc (s_l31Args_L0_ls w0 mo I0 hmo) (by kernel_rfl), trivial⟩) ((s_l31Args_lk y0).trans (s_l31Args_p y0 ((mbAt hg 0 0 rfl rfl).len) ((mbAt hg 0 1 rfl rfl).rng) ((mbAt hg 0 2 rfl rfl).rng) hp _ _ _))
noncomputable def s_l31Args_e : Ent1 Try.prog := entM 90 [.wr false [.ptr 0]] [.box [.c (.sl .u8), .c (.int .i64), .c (.int .i64)]] (fun x y => (decide (0 ≤ (⟨y.1.1, y.1.2.1, y.1.2.2.1⟩ : Curs).i ∧ (⟨y.1.1, y.1.2.1, y.1.2.2.1⟩ : Curs).b.length ≤ 1048576))) (fun x y => (s_l31Args (⟨y.1.1, y.1.2.1, y.1.2.2.1⟩ : Curs))) (fun v => [rv (.sc (.int .i64)) [] v.1, rv (.sc (.sl .issu)) [.o true] v.2.1]) (fun x y v => (mos [.box [.c (.sl .u8), .c (.int .i64), .c (.int .i64)]] ((v.2.2.b, v.2.2.i, v.2.2.h, ()), ()))) (fun x y hx => s_l31Args_c (⟨y.1.1, y.1.2.1, y.1.2.2.1⟩ : Curs) (of_decide_eq_true hx))

theorem s_l31Args_cur (y0 : Curs)  (hc0 : 0 ≤ y0.i ∧ y0.b.length ≤ 1048576) : 0 ≤ (s_l31Args y0).2.2.i ∧ (s_l31Args y0).2.2.b.length ≤ 1048576 := by
  unfold s_l31Args
  exact letP (P := (fun v : Int × List Issu × Curs => 0 ≤ v.2.2.i ∧ v.2.2.b.length ≤ 1048576)) (fun c1 hc1 => have kc1 : 0 ≤ c1.2.i ∧ c1.2.b.length ≤ 1048576 := (by rw [hc1]; exact s_l1PickInt_cur _ _ (by first | assumption | exact ⟨by assumption, by assumption⟩ | grind [maxSl, wrap64, s_l31Args_L0_mx0]) (by first | assumption | exact ⟨by assumption, by assumption⟩ | grind [maxSl, wrap64, s_l31Args_L0_mx0])); letP (P := (fun v : Int × List Issu × Curs => 0 ≤ v.2.2.i ∧ v.2.2.b.length ≤ 1048576)) (fun c2 hc2 => have rc2 := s_l1Below_rng c1.2 5 (by first | assumption | exact ⟨by assumption, by assumption⟩ | grind [maxSl, wrap64, s_l31Args_L0_mx0]); have kc2 : 0 ≤ c2.2.i ∧ c2.2.b.length ≤ 1048576 := (by rw [hc2]; exact s_l1Below_cur _ _ (by first | assumption | exact ⟨by assumption, by assumption⟩ | grind [maxSl, wrap64, s_l31Args_L0_mx0])); loopP (P := (fun v : Int × List Issu × Curs => 0 ≤ v.2.2.i ∧ v.2.2.b.length ≤ 1048576)) (fun a15 ha15 => have ia15 := s_l31Args_L0_nx c1.1 c2.1 0 c2.2.b c2.2.i c2.2.h [] (by (try simp only [Nat.ble_eq, Bool.and_eq_true, decide_eq_true_eq, s_l31Args_L0_mx0]); grind [maxSl, maxStr, toBytes_length, toInts_length, List.length_set, wrap64, s_l1PickInt_cur, s_l1Below_rng, s_l1Below_cur, s_l31Guess_cur, s_l1Once_cur, s_l4Place_cur, s_l12Bent_cur]) (by (try simp only [Nat.ble_eq, Bool.and_eq_true, decide_eq_true_eq, s_l31Args_L0_mx0]); grind [maxSl, maxStr, toBytes_length, toInts_length, List.length_set, wrap64, s_l1PickInt_cur, s_l1Below_rng, s_l1Below_cur, s_l31Guess_cur, s_l1Once_cur, s_l4Place_cur, s_l12Bent_cur]) (by (try simp only [Nat.ble_eq, Bool.and_eq_true, decide_eq_true_eq, s_l31Args_L0_mx0]); grind [maxSl, maxStr, toBytes_length, toInts_length, List.length_set, wrap64, s_l1PickInt_cur, s_l1Below_rng, s_l1Below_cur, s_l31Guess_cur, s_l1Once_cur, s_l4Place_cur, s_l12Bent_cur]) (by (try simp only [Nat.ble_eq, Bool.and_eq_true, decide_eq_true_eq, s_l31Args_L0_mx0]); grind [maxSl, maxStr, toBytes_length, toInts_length, List.length_set, wrap64, s_l1PickInt_cur, s_l1Below_rng, s_l1Below_cur, s_l31Guess_cur, s_l1Once_cur, s_l4Place_cur, s_l12Bent_cur]) _ ha15; letP (P := (fun v : Int × List Issu × Curs => 0 ≤ v.2.2.i ∧ v.2.2.b.length ≤ 1048576)) (fun c16 hc16 => have kc16 : 0 ≤ c16.2.i ∧ c16.2.b.length ≤ 1048576 := (by rw [hc16]; exact s_l1Once_cur _ _ (by first | assumption | exact ⟨by assumption, by assumption⟩ | grind [maxSl, wrap64, s_l31Args_L0_mx0])); bifP (P := (fun v : Int × List Issu × Curs => 0 ≤ v.2.2.i ∧ v.2.2.b.length ≤ 1048576)) (fun b0 => letP (P := (fun v : Int × List Issu × Curs => 0 ≤ v.2.2.i ∧ v.2.2.b.length ≤ 1048576)) (fun c17 hc17 => have kc17 : 0 ≤ c17.2.i ∧ c17.2.b.length ≤ 1048576 := (by rw [hc17]; exact s_l1PickInt_cur _ _ (by first | assumption | exact ⟨by assumption, by assumption⟩ | grind [maxSl, wrap64, s_l31Args_L0_mx0]) (by first | assumption | exact ⟨by assumption, by assumption⟩ | grind [maxSl, wrap64, s_l31Args_L0_mx0])); letP (P := (fun v : Int × List Issu × Curs => 0 ≤ v.2.2.i ∧ v.2.2.b.length ≤ 1048576)) (fun c18 hc18 => have kc18 : 0 ≤ c18.2.i ∧ c18.2.b.length ≤ 1048576 := (by rw [hc18]; exact s_l1Once_cur _ _ (by first | assumption | exact ⟨by assumption, by assumption⟩ | grind [maxSl, wrap64, s_l31Args_L0_mx0])); bifP (P := (fun v : Int × List Issu × Curs => 0 ≤ v.2.2.i ∧ v.2.2.b.length ≤ 1048576)) (fun b1 => letP (P := (fun v : Int × List Issu × Curs => 0 ≤ v.2.2.i ∧ v.2.2.b.length ≤ 1048576)) (fun c19 hc19 => have kc19 : 0 ≤ c19.2.i ∧ c19.2.b.length ≤ 1048576 := (by rw [hc19]; exact s_l12Bent_cur _ (by first | assumption | exact ⟨by assumption, by assumption⟩ | grind [maxSl, wrap64, s_l31Args_L0_mx0])); letP (P := (fun v : Int × List Issu × Curs => 0 ≤ v.2.2.i ∧ v.2.2.b.length ≤ 1048576)) (fun c20 hc20 => have kc20 : 0 ≤ c20.2.i ∧ c20.2.b.length ≤ 1048576 := (by rw [hc20]; exact s_l4Place_cur _ (by first | assumption | exact ⟨by assumption, by assumption⟩ | grind [maxSl, wrap64, s_l31Args_L0_mx0])); (by (try simp only [Nat.ble_eq, Bool.and_eq_true, decide_eq_true_eq, s_l31Args_L0_mx0]); grind [maxSl, maxStr, toBytes_length, toInts_length, List.length_set, wrap64, s_l1PickInt_cur, s_l1Below_rng, s_l1Below_cur, s_l31Guess_cur, s_l1Once_cur, s_l4Place_cur, s_l12Bent_cur]))))
      (fun b1 => (by (try simp only [Nat.ble_eq, Bool.and_eq_true, decide_eq_true_eq, s_l31Args_L0_mx0]); grind [maxSl, maxStr, toBytes_length, toInts_length, List.length_set, wrap64, s_l1PickInt_cur, s_l1Below_rng, s_l1Below_cur, s_l31Guess_cur, s_l1Once_cur, s_l4Place_cur, s_l12Bent_cur])))))
      (fun b0 => letP (P := (fun v : Int × List Issu × Curs => 0 ≤ v.2.2.i ∧ v.2.2.b.length ≤ 1048576)) (fun c21 hc21 => have kc21 : 0 ≤ c21.2.i ∧ c21.2.b.length ≤ 1048576 := (by rw [hc21]; exact s_l1Once_cur _ _ (by first | assumption | exact ⟨by assumption, by assumption⟩ | grind [maxSl, wrap64, s_l31Args_L0_mx0])); bifP (P := (fun v : Int × List Issu × Curs => 0 ≤ v.2.2.i ∧ v.2.2.b.length ≤ 1048576)) (fun b1 => letP (P := (fun v : Int × List Issu × Curs => 0 ≤ v.2.2.i ∧ v.2.2.b.length ≤ 1048576)) (fun c22 hc22 => have kc22 : 0 ≤ c22.2.i ∧ c22.2.b.length ≤ 1048576 := (by rw [hc22]; exact s_l12Bent_cur _ (by first | assumption | exact ⟨by assumption, by assumption⟩ | grind [maxSl, wrap64, s_l31Args_L0_mx0])); letP (P := (fun v : Int × List Issu × Curs => 0 ≤ v.2.2.i ∧ v.2.2.b.length ≤ 1048576)) (fun c23 hc23 => have kc23 : 0 ≤ c23.2.i ∧ c23.2.b.length ≤ 1048576 := (by rw [hc23]; exact s_l4Place_cur _ (by first | assumption | exact ⟨by assumption, by assumption⟩ | grind [maxSl, wrap64, s_l31Args_L0_mx0])); (by (try simp only [Nat.ble_eq, Bool.and_eq_true, decide_eq_true_eq, s_l31Args_L0_mx0]); grind [maxSl, maxStr, toBytes_length, toInts_length, List.length_set, wrap64, s_l1PickInt_cur, s_l1Below_rng, s_l1Below_cur, s_l31Guess_cur, s_l1Once_cur, s_l4Place_cur, s_l12Bent_cur]))))
      (fun b1 => (by (try simp only [Nat.ble_eq, Bool.and_eq_true, decide_eq_true_eq, s_l31Args_L0_mx0]); grind [maxSl, maxStr, toBytes_length, toInts_length, List.length_set, wrap64, s_l1PickInt_cur, s_l1Below_rng, s_l1Below_cur, s_l31Guess_cur, s_l1Once_cur, s_l4Place_cur, s_l12Bent_cur]))))))
      (fun p _ => nomatch p)))
theorem s_l31Args_len (y0 : Curs) (hp : 0 ≤ y0.i ∧ y0.b.length ≤ 1048576)  : (fun v : Int × List Issu × Curs => v.2.1.length ≤ 8) (s_l31Args y0) := by
  unfold s_l31Args
  exact letP (P := (fun v : Int × List Issu × Curs => v.2.1.length ≤ 8)) (fun c1 hc1 => have kc1 : 0 ≤ c1.2.i ∧ c1.2.b.length ≤ 1048576 := (by rw [hc1]; exact s_l1PickInt_cur _ _ (by first | assumption | exact ⟨by assumption, by assumption⟩ | grind [maxSl, wrap64, s_l31Args_L0_mx0]) (by first | assumption | exact ⟨by assumption, by assumption⟩ | grind [maxSl, wrap64, s_l31Args_L0_mx0])); letP (P := (fun v : Int × List Issu × Curs => v.2.1.length ≤ 8)) (fun c2 hc2 => have rc2 := s_l1Below_rng c1.2 5 (by first | assumption | exact ⟨by assumption, by assumption⟩ | grind [maxSl, wrap64, s_l31Args_L0_mx0]); have kc2 : 0 ≤ c2.2.i ∧ c2.2.b.length ≤ 1048576 := (by rw [hc2]; exact s_l1Below_cur _ _ (by first | assumption | exact ⟨by assumption, by assumption⟩ | grind [maxSl, wrap64, s_l31Args_L0_mx0])); loopP (P := (fun v : Int × List Issu × Curs => v.2.1.length ≤ 8)) (fun a15 ha15 => have ia15 := s_l31Args_L0_nx c1.1 c2.1 0 c2.2.b c2.2.i c2.2.h [] (by (try simp only [Nat.ble_eq, Bool.and_eq_true, decide_eq_true_eq, s_l31Args_L0_mx0]); grind [maxSl, maxStr, toBytes_length, toInts_length, List.length_set, wrap64, s_l1PickInt_cur, s_l1Below_rng, s_l1Below_cur, s_l31Guess_cur, s_l1Once_cur, s_l4Place_cur, s_l12Bent_cur]) (by (try simp only [Nat.ble_eq, Bool.and_eq_true, decide_eq_true_eq, s_l31Args_L0_mx0]); grind [maxSl, maxStr, toBytes_length, toInts_length, List.length_set, wrap64, s_l1PickInt_cur, s_l1Below_rng, s_l1Below_cur, s_l31Guess_cur, s_l1Once_cur, s_l4Place_cur, s_l12Bent_cur]) (by (try simp only [Nat.ble_eq, Bool.and_eq_true, decide_eq_true_eq, s_l31Args_L0_mx0]); grind [maxSl, maxStr, toBytes_length, toInts_length, List.length_set, wrap64, s_l1PickInt_cur, s_l1Below_rng, s_l1Below_cur, s_l31Guess_cur, s_l1Once_cur, s_l4Place_cur, s_l12Bent_cur]) (by (try simp only [Nat.ble_eq, Bool.and_eq_true, decide_eq_true_eq, s_l31Args_L0_mx0]); grind [maxSl, maxStr, toBytes_length, toInts_length, List.length_set, wrap64, s_l1PickInt_cur, s_l1Below_rng, s_l1Below_cur, s_l31Guess_cur, s_l1Once_cur, s_l4Place_cur, s_l12Bent_cur]) _ ha15; letP (P := (fun v : Int × List Issu × Curs => v.2.1.length ≤ 8)) (fun c16 hc16 => have kc16 : 0 ≤ c16.2.i ∧ c16.2.b.length ≤ 1048576 := (by rw [hc16]; exact s_l1Once_cur _ _ (by first | assumption | exact ⟨by assumption, by assumption⟩ | grind [maxSl, wrap64, s_l31Args_L0_mx0])); bifP (P := (fun v : Int × List Issu × Curs => v.2.1.length ≤ 8)) (fun b0 => letP (P := (fun v : Int × List Issu × Curs => v.2.1.length ≤ 8)) (fun c17 hc17 => have kc17 : 0 ≤ c17.2.i ∧ c17.2.b.length ≤ 1048576 := (by rw [hc17]; exact s_l1PickInt_cur _ _ (by first | assumption | exact ⟨by assumption, by assumption⟩ | grind [maxSl, wrap64, s_l31Args_L0_mx0]) (by first | assumption | exact ⟨by assumption, by assumption⟩ | grind [maxSl, wrap64, s_l31Args_L0_mx0])); letP (P := (fun v : Int × List Issu × Curs => v.2.1.length ≤ 8)) (fun c18 hc18 => have kc18 : 0 ≤ c18.2.i ∧ c18.2.b.length ≤ 1048576 := (by rw [hc18]; exact s_l1Once_cur _ _ (by first | assumption | exact ⟨by assumption, by assumption⟩ | grind [maxSl, wrap64, s_l31Args_L0_mx0])); bifP (P := (fun v : Int × List Issu × Curs => v.2.1.length ≤ 8)) (fun b1 => letP (P := (fun v : Int × List Issu × Curs => v.2.1.length ≤ 8)) (fun c19 hc19 => have kc19 : 0 ≤ c19.2.i ∧ c19.2.b.length ≤ 1048576 := (by rw [hc19]; exact s_l12Bent_cur _ (by first | assumption | exact ⟨by assumption, by assumption⟩ | grind [maxSl, wrap64, s_l31Args_L0_mx0])); letP (P := (fun v : Int × List Issu × Curs => v.2.1.length ≤ 8)) (fun c20 hc20 => have kc20 : 0 ≤ c20.2.i ∧ c20.2.b.length ≤ 1048576 := (by rw [hc20]; exact s_l4Place_cur _ (by first | assumption | exact ⟨by assumption, by assumption⟩ | grind [maxSl, wrap64, s_l31Args_L0_mx0])); (by (try simp only [Nat.ble_eq, Bool.and_eq_true, decide_eq_true_eq, s_l31Args_L0_mx0]); grind [maxSl, maxStr, toBytes_length, toInts_length, List.length_set, wrap64, s_l1PickInt_cur, s_l1Below_rng, s_l1Below_cur, s_l31Guess_cur, s_l1Once_cur, s_l4Place_cur, s_l12Bent_cur]))))
      (fun b1 => (by (try simp only [Nat.ble_eq, Bool.and_eq_true, decide_eq_true_eq, s_l31Args_L0_mx0]); grind [maxSl, maxStr, toBytes_length, toInts_length, List.length_set, wrap64, s_l1PickInt_cur, s_l1Below_rng, s_l1Below_cur, s_l31Guess_cur, s_l1Once_cur, s_l4Place_cur, s_l12Bent_cur])))))
      (fun b0 => letP (P := (fun v : Int × List Issu × Curs => v.2.1.length ≤ 8)) (fun c21 hc21 => have kc21 : 0 ≤ c21.2.i ∧ c21.2.b.length ≤ 1048576 := (by rw [hc21]; exact s_l1Once_cur _ _ (by first | assumption | exact ⟨by assumption, by assumption⟩ | grind [maxSl, wrap64, s_l31Args_L0_mx0])); bifP (P := (fun v : Int × List Issu × Curs => v.2.1.length ≤ 8)) (fun b1 => letP (P := (fun v : Int × List Issu × Curs => v.2.1.length ≤ 8)) (fun c22 hc22 => have kc22 : 0 ≤ c22.2.i ∧ c22.2.b.length ≤ 1048576 := (by rw [hc22]; exact s_l12Bent_cur _ (by first | assumption | exact ⟨by assumption, by assumption⟩ | grind [maxSl, wrap64, s_l31Args_L0_mx0])); letP (P := (fun v : Int × List Issu × Curs => v.2.1.length ≤ 8)) (fun c23 hc23 => have kc23 : 0 ≤ c23.2.i ∧ c23.2.b.length ≤ 1048576 := (by rw [hc23]; exact s_l4Place_cur _ (by first | assumption | exact ⟨by assumption, by assumption⟩ | grind [maxSl, wrap64, s_l31Args_L0_mx0])); (by (try simp only [Nat.ble_eq, Bool.and_eq_true, decide_eq_true_eq, s_l31Args_L0_mx0]); grind [maxSl, maxStr, toBytes_length, toInts_length, List.length_set, wrap64, s_l1PickInt_cur, s_l1Below_rng, s_l1Below_cur, s_l31Guess_cur, s_l1Once_cur, s_l4Place_cur, s_l12Bent_cur]))))
      (fun b1 => (by (try simp only [Nat.ble_eq, Bool.and_eq_true, decide_eq_true_eq, s_l31Args_L0_mx0]); grind [maxSl, maxStr, toBytes_length, toInts_length, List.length_set, wrap64, s_l1PickInt_cur, s_l1Below_rng, s_l1Below_cur, s_l31Guess_cur, s_l1Once_cur, s_l4Place_cur, s_l12Bent_cur]))))))
      (fun p _ => nomatch p)))

/-- spec.DrawShareOf -/
def s_DrawShareOf_N (x0 : List Int) (γ : Type) (fail : γ) (k : Int × List Issu × Int → γ) : γ :=
  letK (α := Curs) (s_l1New x0) fun c1 =>
  bif (decide (0 ≤ c1.i ∧ c1.b.length ≤ 1048576)) then
  letK (α := Int × List Issu × Curs) (s_l31Args c1) fun c2 =>
  bif (decide (0 ≤ c2.2.2.i ∧ c2.2.2.b.length ≤ 1048576)) then
  letK (α := Int × Curs) (s_l1Below c2.2.2 6) fun c3 =>
  k (c2.1, c2.2.1, c3.1)
  else fail
  else fail
def s_DrawShareOf (x0 : List Int) : Int × List Issu × Int :=
  letK (α := Curs) (s_l1New x0) fun c1 =>
  letK (α := Int × List Issu × Curs) (s_l31Args c1) fun c2 =>
  letK (α := Int × Curs) (s_l1Below c2.2.2 6) fun c3 =>
  (c2.1, c2.2.1, c3.1)
theorem s_DrawShareOf_lk (x0 : List Int) : evalFn te (orcOf (P := Try.prog) [s_l1New_e, s_l31Args_e, s_l1Below_e]) lorc0 [] Try.f48 (pvs [.sc (.sl .u8)] (x0, ())) =
  s_DrawShareOf_N x0 _ none (fun v => some [(false, [RC.c (.int .i64 v.1)]), (false, [RC.own true .issu v.2.1]), (false, [RC.c (.int .i64 v.2.2)])]) := by kernel_rfl
theorem s_DrawShareOf_p (x0 : List Int) (hx0 : x0.length ≤ 140737488355328) (hp : x0.length ≤ 1048576) (γ : Type) (fail : γ) (k : Int × List Issu × Int → γ) : s_DrawShareOf_N x0 γ fail k = k (s_DrawShareOf x0) := by
  unfold s_DrawShareOf_N s_DrawShareOf
  exact letT (f := k) (fun c1 hc1 => have kc1 : 0 ≤ c1.i ∧ c1.b.length ≤ 1048576 := (by rw [hc1]; exact s_l1New_cur _ (by first | assumption | exact ⟨by assumption, by assumption⟩ | grind [maxSl, wrap64])); bifG (by (try simp only [Nat.ble_eq, Bool.and_eq_true, decide_eq_true_eq]); grind [maxSl, maxStr, toBytes_length, toInts_length, List.length_set, wrap64, s_l1New_cur, s_l31Args_len, s_l31Args_cur, s_l1Below_rng, s_l1Below_cur]) (letT (f := k) (fun c2 hc2 => have kc2 : 0 ≤ c2.2.2.i ∧ c2.2.2.b.length ≤ 1048576 := (by rw [hc2]; exact s_l31Args_cur _ (by first | assumption | exact ⟨by assumption, by assumption⟩ | grind [maxSl, wrap64])); bifG (by (try simp only [Nat.ble_eq, Bool.and_eq_true, decide_eq_true_eq]); grind [maxSl, maxStr, toBytes_length, toInts_length, List.length_set, wrap64, s_l1New_cur, s_l31Args_len, s_l31Args_cur, s_l1Below_rng, s_l1Below_cur]) (letT (f := k) (fun c3 hc3 => have rc3 := s_l1Below_rng c2.2.2 6 (by first | assumption | exact ⟨by assumption, by assumption⟩ | grind [maxSl, wrap64]); have kc3 : 0 ≤ c3.2.i ∧ c3.2.b.length ≤ 1048576 := (by rw [hc3]; exact s_l1Below_cur _ _ (by first | assumption | exact ⟨by assumption, by assumption⟩ | grind [maxSl, wrap64])); rfl)))))
theorem s_DrawShareOf_c (x0 : List Int) (hp : x0.length ≤ 1048576) : Con Try.prog 48 (pvs [.sc (.sl .u8)] (x0, ())) [rv (.sc (.int .i64)) [] (s_DrawShareOf x0).1, rv (.sc (.sl .issu)) [.o true] (s_DrawShareOf x0).2.1, rv (.sc (.int .i64)) [] (s_DrawShareOf x0).2.2] := by
  refine Con.of_facts (enters_of Try.func48 rfl (by kernel_rfl)) fun hf => ?_
  replace hf := factAt hf
  exact evalFn_con0 teFact mixFact (orcOf_ok _) Try.func48 (by kernel_rfl) ((s_DrawShareOf_lk x0).trans (s_DrawShareOf_p x0 ((hf 0 0 rfl rfl).len) hp _ _ _))
noncomputable def s_DrawShareOf_e : Ent1 Try.prog := entP 48 [.sc (.sl .u8)] (fun x => (decide (x.1.length ≤ 1048576))) (fun x => (s_DrawShareOf x.1)) (fun v => [rv (.sc (.int .i64)) [] v.1, rv (.sc (.sl .issu)) [.o true] v.2.1, rv (.sc (.int .i64)) [] v.2.2]) (fun x hx => s_DrawShareOf_c x.1 (of_decide_eq_true hx))

theorem s_DrawShareOf_len (x0 : List Int) (hp : x0.length ≤ 1048576)  : (fun v : Int × List Issu × Int => v.2.1.length ≤ 8) (s_DrawShareOf x0) := by
  unfold s_DrawShareOf
  exact letP (P := (fun v : Int × List Issu × Int => v.2.1.length ≤ 8)) (fun c1 hc1 => have kc1 : 0 ≤ c1.i ∧ c1.b.length ≤ 1048576 := (by rw [hc1]; exact s_l1New_cur _ (by first | assumption | exact ⟨by assumption, by assumption⟩ | grind [maxSl, wrap64])); letP (P := (fun v : Int × List Issu × Int => v.2.1.length ≤ 8)) (fun c2 hc2 => have kc2 : 0 ≤ c2.2.2.i ∧ c2.2.2.b.length ≤ 1048576 := (by rw [hc2]; exact s_l31Args_cur _ (by first | assumption | exact ⟨by assumption, by assumption⟩ | grind [maxSl, wrap64])); letP (P := (fun v : Int × List Issu × Int => v.2.1.length ≤ 8)) (fun c3 hc3 => have rc3 := s_l1Below_rng c2.2.2 6 (by first | assumption | exact ⟨by assumption, by assumption⟩ | grind [maxSl, wrap64]); have kc3 : 0 ≤ c3.2.i ∧ c3.2.b.length ≤ 1048576 := (by rw [hc3]; exact s_l1Below_cur _ _ (by first | assumption | exact ⟨by assumption, by assumption⟩ | grind [maxSl, wrap64])); (by (try simp only [Nat.ble_eq, Bool.and_eq_true, decide_eq_true_eq]); grind [maxSl, maxStr, toBytes_length, toInts_length, List.length_set, wrap64, s_l1New_cur, s_l31Args_len, s_l31Args_cur, s_l1Below_rng, s_l1Below_cur]))))

/-- laws.FnShare -/
def w_FnShare_N (x0 : List Int) (γ : Type) (fail : γ) (k : Bool → γ) : γ :=
  letK (α := Bool) (w_big x0) fun c1 =>
  bif c1 then
    k true
  else
  bif (decide (x0.length ≤ 1048576)) then
  letK (α := Int × List Issu × Int) (s_DrawShareOf x0) fun c2 =>
  bif (decide (c2.2.1.length ≤ 4294967296)) then
  letK (α := Int × Int) (i_ShareOf c2.1 c2.2.1 c2.2.2) fun c3 =>
  bif (decide (c2.2.1.length ≤ 4294967296)) then
  letK (α := Int × Int) (s_ShareOf c2.1 c2.2.1 c2.2.2) fun c4 =>
  bif (c3.1 != c4.1) then
    k false
  else
  bif (c3.2 != c4.2) then
    k false
  else
  bif (c3.2 == 0) then
    k (c3.1 == 0)
  else
  bif (decide ((IntKind.wrap .i64 (c3.1 * c2.2.2)) ≤ (IntKind.wrap .i64 ((c2.2.1.length : Int) * c3.2)))) then
    bif (decide (0 ≤ c3.1)) then
      k (decide (c3.1 ≤ c3.2))
    else
    k false
  else
  k false
  else fail
  else fail
  else fail
def w_FnShare (x0 : List Int) : Bool :=
  letK (α := Bool) (w_big x0) fun c1 =>
  bif c1 then
    true
  else
  letK (α := Int × List Issu × Int) (s_DrawShareOf x0) fun c2 =>
  letK (α := Int × Int) (i_ShareOf c2.1 c2.2.1 c2.2.2) fun c3 =>
  letK (α := Int × Int) (s_ShareOf c2.1 c2.2.1 c2.2.2) fun c4 =>
  bif (c3.1 != c4.1) then
    false
  else
  bif (c3.2 != c4.2) then
    false
  else
  bif (c3.2 == 0) then
    (c3.1 == 0)
  else
  bif (decide ((IntKind.wrap .i64 (c3.1 * c2.2.2)) ≤ (IntKind.wrap .i64 ((c2.2.1.length : Int) * c3.2)))) then
    bif (decide (0 ≤ c3.1)) then
      (decide (c3.1 ≤ c3.2))
    else
    false
  else
  false
theorem w_FnShare_lk (x0 : List Int) : evalFn te (orcOf (P := Try.prog) [w_big_e, s_DrawShareOf_e, i_ShareOf_e, s_ShareOf_e]) lorc0 [] Try.f10 (pvs [.sc (.sl .u8)] (x0, ())) =
  w_FnShare_N x0 _ none (fun v => some [(false, [RC.c (.bool v)])]) := by kernel_rfl
theorem w_FnShare_p (x0 : List Int) (hx0 : x0.length ≤ 140737488355328)  (γ : Type) (fail : γ) (k : Bool → γ) : w_FnShare_N x0 γ fail k = k (w_FnShare x0) := by
  unfold w_FnShare_N w_FnShare
  exact letT (f := k) (fun c1 hc1 => bifT (f := k) (fun b0 => rfl)
      (fun b0 => bifG (by (try simp only [Nat.ble_eq, Bool.and_eq_true, decide_eq_true_eq]); grind [maxSl, maxStr, toBytes_length, toInts_length, List.length_set, wrap64, w_big, s_DrawShareOf_len]) (letT (f := k) (fun c2 hc2 => bifG (by (try simp only [Nat.ble_eq, Bool.and_eq_true, decide_eq_true_eq]); grind [maxSl, maxStr, toBytes_length, toInts_length, List.length_set, wrap64, w_big, s_DrawShareOf_len]) (letT (f := k) (fun c3 hc3 => bifG (by (try simp only [Nat.ble_eq, Bool.and_eq_true, decide_eq_true_eq]); grind [maxSl, maxStr, toBytes_length, toInts_length, List.length_set, wrap64, w_big, s_DrawShareOf_len]) (letT (f := k) (fun c4 hc4 => bifT (f := k) (fun b1 => rfl)
      (fun b1 => bifT (f := k) (fun b2 => rfl)
      (fun b2 => bifT (f := k) (fun b3 => rfl)
      (fun b3 => bifT (f := k) (fun b4 => bifT (f := k) (fun b5 => rfl)
      (fun b5 => rfl))
      (fun b4 => rfl))))))))))))
theorem w_FnShare_c (x0 : List Int)  : Con Try.prog 10 (pvs [.sc (.sl .u8)] (x0, ())) [rv (.sc .bool) [] (w_FnShare x0)] := by
  refine Con.of_facts (enters_of Try.func10 rfl (by kernel_rfl)) fun hf => ?_
  replace hf := factAt hf
  exact evalFn_con0 teFact mixFact (orcOf_ok _) Try.func10 (by kernel_rfl) ((w_FnShare_lk x0).trans (w_FnShare_p x0 ((hf 0 0 rfl rfl).len) _ _ _))
noncomputable def w_FnShare_e : Ent1 Try.prog := entA 10 [.sc (.sl .u8)] (fun x => (w_FnShare x.1)) (fun v => [rv (.sc .bool) [] v]) (fun x => w_FnShare_c x.1)


/-- laws.FnShareOne -/
def w_FnShareOne_N (x0 : List Int) (γ : Type) (fail : γ) (k : Bool → γ) : γ :=
  letK (α := Bool) (w_big x0) fun c1 =>
  bif c1 then
    k true
  else
  bif (decide (x0.length ≤ 1048576)) then
  letK (α := Int × List Issu × Int) (s_DrawShareOf x0) fun c2 =>
  bif ((c2.2.1.length : Int) == 0) then
    bif (decide (([] : List Issu).length ≤ 4294967296)) then
    letK (α := Int × Int) (i_ShareOf c2.1 [] c2.2.2) fun c3 =>
    bif (decide (([] : List Issu).length ≤ 4294967296)) then
    letK (α := Int × Int) (s_ShareOf c2.1 [] c2.2.2) fun c4 =>
    bif (c3.1 == c4.1) then
      k (c3.2 == c4.2)
    else
    k false
    else fail
    else fail
  else
  bif (decide (c2.2.2 < 1)) then
    bif (decide (([] : List Issu).length ≤ 4294967296)) then
    letK (α := Int × Int) (i_ShareOf c2.1 [] c2.2.2) fun c5 =>
    bif (decide (([] : List Issu).length ≤ 4294967296)) then
    letK (α := Int × Int) (s_ShareOf c2.1 [] c2.2.2) fun c6 =>
    bif (c5.1 == c6.1) then
      k (c5.2 == c6.2)
    else
    k false
    else fail
    else fail
  else
  bif (decide (4 < c2.2.2)) then
    bif (decide (([] : List Issu).length ≤ 4294967296)) then
    letK (α := Int × Int) (i_ShareOf c2.1 [] c2.2.2) fun c7 =>
    bif (decide (([] : List Issu).length ≤ 4294967296)) then
    letK (α := Int × Int) (s_ShareOf c2.1 [] c2.2.2) fun c8 =>
    bif (c7.1 == c8.1) then
      k (c7.2 == c8.2)
    else
    k false
    else fail
    else fail
  else
  letK (α := Bool) (s_WordOk c2.1 32) fun c9 =>
  bif (!c9) then
    bif (decide (([] : List Issu).length ≤ 4294967296)) then
    letK (α := Int × Int) (i_ShareOf c2.1 [] c2.2.2) fun c10 =>
    bif (decide (([] : List Issu).length ≤ 4294967296)) then
    letK (α := Int × Int) (s_ShareOf c2.1 [] c2.2.2) fun c11 =>
    bif (c10.1 == c11.1) then
      k (c10.2 == c11.2)
    else
    k false
    else fail
    else fail
  else
  bif (decide (1 ≤ (c2.2.1.length : Int))) then
  bif (decide (((c2.2.1.take 1).drop 0).length ≤ 4294967296)) then
  letK (α := Int × Int) (i_ShareOf c2.1 ((c2.2.1.take 1).drop 0) c2.2.2) fun c12 =>
  bif (decide (0 < (c2.2.1.length : Int))) then
  letK (α := Int × Int × Int) (s_CookieParts ((c2.2.1.getD 0 (Ty.zero .issu)).cookie)) fun c13 =>
  bif (decide (1 ≤ (c2.2.1.length : Int))) then
  bif (decide (((c2.2.1.take 1).drop 0).length ≤ 4294967296)) then
  letK (α := List Bytes) (i_GuessInputs c2.1 ((c2.2.1.take 1).drop 0)) fun c14 =>
  bif ((c14.length : Int) == 0) then
    bif (c12.1 == 0) then
      k (c12.2 == 1)
    else
    k false
  else
  bif (c13.1 == (c2.1.tmod 32)) then
    bif (c12.2 == c2.2.2) then
      bif ((c12.1 == 1) == (decide (c13.2.2 < c2.2.2))) then
        k ((c12.1 == 0) == (!(decide (c13.2.2 < c2.2.2))))
      else
      k false
    else
    k false
  else
  bif (c12.2 == c2.2.2) then
    bif ((c12.1 == 1) == false) then
      k ((c12.1 == 0) == true)
    else
    k false
  else
  k false
  else fail
  else fail
  else fail
  else fail
  else fail
  else fail
def w_FnShareOne (x0 : List Int) : Bool :=
  letK (α := Bool) (w_big x0) fun c1 =>
  bif c1 then
    true
  else
  letK (α := Int × List Issu × Int) (s_DrawShareOf x0) fun c2 =>
  bif ((c2.2.1.length : Int) == 0) then
    letK (α := Int × Int) (i_ShareOf c2.1 [] c2.2.2) fun c3 =>
    letK (α := Int × Int) (s_ShareOf c2.1 [] c2.2.2) fun c4 =>
    bif (c3.1 == c4.1) then
      (c3.2 == c4.2)
    else
    false
  else
  bif (decide (c2.2.2 < 1)) then
    letK (α := Int × Int) (i_ShareOf c2.1 [] c2.2.2) fun c5 =>
    letK (α := Int × Int) (s_ShareOf c2.1 [] c2.2.2) fun c6 =>
    bif (c5.1 == c6.1) then
      (c5.2 == c6.2)
    else
    false
  else
  bif (decide (4 < c2.2.2)) then
    letK (α := Int × Int) (i_ShareOf c2.1 [] c2.2.2) fun c7 =>
    letK (α := Int × Int) (s_ShareOf c2.1 [] c2.2.2) fun c8 =>
    bif (c7.1 == c8.1) then
      (c7.2 == c8.2)
    else
    false
  else
  letK (α := Bool) (s_WordOk c2.1 32) fun c9 =>
  bif (!c9) then
    letK (α := Int × Int) (i_ShareOf c2.1 [] c2.2.2) fun c10 =>
    letK (α := Int × Int) (s_ShareOf c2.1 [] c2.2.2) fun c11 =>
    bif (c10.1 == c11.1) then
      (c10.2 == c11.2)
    else
    false
  else
  letK (α := Int × Int) (i_ShareOf c2.1 ((c2.2.1.take 1).drop 0) c2.2.2) fun c12 =>
  letK (α := Int × Int × Int) (s_CookieParts ((c2.2.1.getD 0 (Ty.zero .issu)).cookie)) fun c13 =>
  letK (α := List Bytes) (i_GuessInputs c2.1 ((c2.2.1.take 1).drop 0)) fun c14 =>
  bif ((c14.length : Int) == 0) then
    bif (c12.1 == 0) then
      (c12.2 == 1)
    else
    false
  else
  bif (c13.1 == (c2.1.tmod 32)) then
    bif (c12.2 == c2.2.2) then
      bif ((c12.1 == 1) == (decide (c13.2.2 < c2.2.2))) then
        ((c12.1 == 0) == (!(decide (c13.2.2 < c2.2.2))))
      else
      false
    else
    false
  else
  bif (c12.2 == c2.2.2) then
    bif ((c12.1 == 1) == false) then
      ((c12.1 == 0) == true)
    else
    false
  else
  false
theorem w_FnShareOne_lk (x0 : List Int) : evalFn te (orcOf (P := Try.prog) [w_big_e, s_DrawShareOf_e, s_WordOk_e, i_ShareOf_e, s_ShareOf_e, s_CookieParts_e, i_GuessInputs_e]) lorc0 [] Try.f11 (pvs [.sc (.sl .u8)] (x0, ())) =
  w_FnShareOne_N x0 _ none (fun v => some [(false, [RC.c (.bool v)])]) := by kernel_rfl
theorem w_FnShareOne_p (x0 : List Int) (hx0 : x0.length ≤ 140737488355328)  (γ : Type) (fail : γ) (k : Bool → γ) : w_FnShareOne_N x0 γ fail k = k (w_FnShareOne x0) := by
  unfold w_FnShareOne_N w_FnShareOne
  exact letT (f := k) (fun c1 hc1 => bifT (f := k) (fun b0 => rfl)
      (fun b0 => bifG (by (try simp only [Nat.ble_eq, Bool.and_eq_true, decide_eq_true_eq]); grind [maxSl, maxStr, toBytes_length, toInts_length, List.length_set, wrap64, w_big, s_DrawShareOf_len, i_GuessInputs_len]) (letT (f := k) (fun c2 hc2 => bifT (f := k) (fun b1 => bifG (by (try simp only [Nat.ble_eq, Bool.and_eq_true, decide_eq_true_eq]); grind [maxSl, maxStr, toBytes_length, toInts_length, List.length_set, wrap64, w_big, s_DrawShareOf_len, i_GuessInputs_len]) (letT (f := k) (fun c3 hc3 => bifG (by (try simp only [Nat.ble_eq, Bool.and_eq_true, decide_eq_true_eq]); grind [maxSl, maxStr, toBytes_length, toInts_length, List.length_set, wrap64, w_big, s_DrawShareOf_len, i_GuessInputs_len]) (letT (f := k) (fun c4 hc4 => bifT (f := k) (fun b2 => rfl)
      (fun b2 => rfl))))))
      (fun b1 => bifT (f := k) (fun b2 => bifG (by (try simp only [Nat.ble_eq, Bool.and_eq_true, decide_eq_true_eq]); grind [maxSl, maxStr, toBytes_length, toInts_length, List.length_set, wrap64, w_big, s_DrawShareOf_len, i_GuessInputs_len]) (letT (f := k) (fun c5 hc5 => bifG (by (try simp only [Nat.ble_eq, Bool.and_eq_true, decide_eq_true_eq]); grind [maxSl, maxStr, toBytes_length, toInts_length, List.length_set, wrap64, w_big, s_DrawShareOf_len, i_GuessInputs_len]) (letT (f := k) (fun c6 hc6 => bifT (f := k) (fun b3 => rfl)
      (fun b3 => rfl))))))
      (fun b2 => bifT (f := k) (fun b3 => bifG (by (try simp only [Nat.ble_eq, Bool.and_eq_true, decide_eq_true_eq]); grind [maxSl, maxStr, toBytes_length, toInts_length, List.length_set, wrap64, w_big, s_DrawShareOf_len, i_GuessInputs_len]) (letT (f := k) (fun c7 hc7 => bifG (by (try simp only [Nat.ble_eq, Bool.and_eq_true, decide_eq_true_eq]); grind [maxSl, maxStr, toBytes_length, toInts_length, List.length_set, wrap64, w_big, s_DrawShareOf_len, i_GuessInputs_len]) (letT (f := k) (fun c8 hc8 => bifT (f := k) (fun b4 => rfl)
      (fun b4 => rfl))))))
      (fun b3 => letT (f := k) (fun c9 hc9 => bifT (f := k) (fun b4 => bifG (by (try simp only [Nat.ble_eq, Bool.and_eq_true, decide_eq_true_eq]); grind [maxSl, maxStr, toBytes_length, toInts_length, List.length_set, wrap64, w_big, s_DrawShareOf_len, i_GuessInputs_len]) (letT (f := k) (fun c10 hc10 => bifG (by (try simp only [Nat.ble_eq, Bool.and_eq_true, decide_eq_true_eq]); grind [maxSl, maxStr, toBytes_length, toInts_length, List.length_set, wrap64, w_big, s_DrawShareOf_len, i_GuessInputs_len]) (letT (f := k) (fun c11 hc11 => bifT (f := k) (fun b5 => rfl)
      (fun b5 => rfl))))))
      (fun b4 => bifG (by (try simp only [Nat.ble_eq, Bool.and_eq_true, decide_eq_true_eq]); grind [maxSl, maxStr, toBytes_length, toInts_length, List.length_set, wrap64, w_big, s_DrawShareOf_len, i_GuessInputs_len]) (bifG (by (try simp only [Nat.ble_eq, Bool.and_eq_true, decide_eq_true_eq]); grind [maxSl, maxStr, toBytes_length, toInts_length, List.length_set, wrap64, w_big, s_DrawShareOf_len, i_GuessInputs_len]) (letT (f := k) (fun c12 hc12 => bifG (by (try simp only [Nat.ble_eq, Bool.and_eq_true, decide_eq_true_eq]); grind [maxSl, maxStr, toBytes_length, toInts_length, List.length_set, wrap64, w_big, s_DrawShareOf_len, i_GuessInputs_len]) (letT (f := k) (fun c13 hc13 => bifG (by (try simp only [Nat.ble_eq, Bool.and_eq_true, decide_eq_true_eq]); grind [maxSl, maxStr, toBytes_length, toInts_length, List.length_set, wrap64, w_big, s_DrawShareOf_len, i_GuessInputs_len]) (bifG (by (try simp only [Nat.ble_eq, Bool.and_eq_true, decide_eq_true_eq]); grind [maxSl, maxStr, toBytes_length, toInts_length, List.length_set, wrap64, w_big, s_DrawShareOf_len, i_GuessInputs_len]) (letT (f := k) (fun c14 hc14 => bifT (f := k) (fun b5 => bifT (f := k) (fun b6 => rfl)
      (fun b6 => rfl))
      (fun b5 => bifT (f := k) (fun b6 => bifT (f := k) (fun b7 => bifT (f := k) (fun b8 => rfl)
      (fun b8 => rfl))
      (fun b7 => rfl))
      (fun b6 => bifT (f := k) (fun b7 => bifT (f := k) (fun b8 => rfl)
      (fun b8 => rfl))
      (fun b7 => rfl))))))))))))))))))))
theorem w_FnShareOne_c (x0 : List Int)  : Con Try.prog 11 (pvs [.sc (.sl .u8)] (x0, ())) [rv (.sc .bool) [] (w_FnShareOne x0)] := by
  refine Con.of_facts (enters_of Try.func11 rfl (by kernel_rfl)) fun hf => ?_
  replace hf := factAt hf
  exact evalFn_con0 teFact mixFact (orcOf_ok _) Try.func11 (by kernel_rfl) ((w_FnShareOne_lk x0).trans (w_FnShareOne_p x0 ((hf 0 0 rfl rfl).len) _ _ _))
noncomputable def w_FnShareOne_e : Ent1 Try.prog := entA 11 [.sc (.sl .u8)] (fun x => (w_FnShareOne x.1)) (fun v => [rv (.sc .bool) [] v]) (fun x => w_FnShareOne_c x.1)



theorem s_WordOk_eq (n b : Int) : s_WordOk n b = bif s_l1In b 1 62 then s_l1In n 0 (IntKind.wrap .i64 ((IntKind.wrap .i64 (1 * 2 ^ (min (IntKind.wrap .u64 b).toNat 64))) - 1)) else false := by
  simp only [s_WordOk, letK]
theorem i_WordOk_eq (n b : Int) : i_WordOk n b = bif i_within b 1 62 then i_within n 0 (IntKind.wrap .i64 ((IntKind.wrap .i64 (1 * 2 ^ (min b.toNat 64))) - 1)) else false := by
  simp only [i_WordOk, letK]
theorem q_WordOk (n b : Int) : s_WordOk n b = i_WordOk n b := by
  rw [s_WordOk_eq, i_WordOk_eq, s_l1In_eq, i_within_eq]
  cases h : (decide (1 ≤ b) && decide (b ≤ 62)) with
  | false => rw [cond_false, cond_false]
  | true =>
    have h1 : 1 ≤ b ∧ b ≤ 62 := by simpa using h
    have h2 : IntKind.u64.wrap b = b := by rw [wrapU_def]; exact Int.emod_eq_of_lt (by omega) (by omega)
    rw [h2, cond_true, cond_true, s_l1In_eq, i_within_eq]


theorem q_within (a b c : Int) : s_l1In a b c = i_within a b c := by rw [s_l1In_eq, i_within_eq]


theorem q_TupleOk (x : Tupl) : s_TupleOk x = i_TupleOk x := by simp only [s_TupleOk, i_TupleOk, q_WordOk]


theorem forN_congrI {A W : Type} {f g : Int → A → Stp A W} {st : Int} {P : A → Prop} (h : ∀ i a, P a → f i a = g i a) (hp : ∀ i a a', P a → f i a = .next a' → P a') : ∀ (k : Nat) (i : Int) (a : A), P a → forN f st k i a = forN g st k i a
  | 0, _, _, _ => rfl
  | k + 1, i, a, ha => by
    simp only [forN, ← h i a ha]
    cases hf : f i a with
    | out w => rfl
    | next a' => simp only [Stp.elim]; exact forN_congrI h hp k _ _ (hp i a a' ha hf)


theorem q_SameMac (x y : Mac) : s_SameMac x y = i_SameMac x y := by
  unfold s_SameMac i_SameMac g_Equal_MacRow letK
  rw [show forN (s_SameMac_L0_f x.use x.k x.l x.rows y.use y.k y.l y.rows) 1 (Int.toNat ((x.rows.length : Int) - 0)) 0 () = forN (g_Equal_MacRow_L0_f x.rows y.rows (x.rows.length : Int)) 1 (Int.toNat ((x.rows.length : Int) - 0)) 0 () from forN_congr (fun _ _ => rfl) _ _ _]
  have e1 : (x.k != y.k) = !(x.k == y.k) := rfl
  have e2 : (x.l != y.l) = !(x.l == y.l) := rfl
  rw [e1, e2]
  cases (x.use == y.use) <;> cases (x.k == y.k) <;> cases (x.l == y.l) <;> rfl
theorem SameMac_refl (x : Mac) : i_SameMac x x = true := by
  unfold i_SameMac g_Equal_MacRow letK
  rw [toNat_sub0, forN_list x.rows _ rfl (F := fun j y a => bif (fun _ => false) y then .out () else .next ()) (by
    intro j y a h
    simp [g_Equal_MacRow_L0_f])]
  rw [listN_all x.rows 0 (by simp)]
  simp [Stp.elim]
theorem SameMac_none (x : Mac) (h : i_SameMac x ⟨false, 0, 0, []⟩ = true) : x = ⟨false, 0, 0, []⟩ := by
  unfold i_SameMac g_Equal_MacRow letK at h
  obtain ⟨u, k, l, r⟩ := x
  cases r with
  | nil => simp [forN, Stp.elim] at h; obtain ⟨h1, h2, h3⟩ := h; subst h1; subst h2; subst h3; rfl
  | cons a b =>
    have : (((a :: b).length : Int) != (([] : List MacRow).length : Int)) = true := by simp; omega
    simp only [this, cond_true] at h
    revert h
    cases (u == false) <;> cases (k == 0) <;> cases (l == 0) <;> simp


theorem forN_ext {A W : Type} {f g : Int → A → Stp A W} : ∀ (k : Nat) (i : Nat) (a : A), (∀ j a, j < i + k → f (j : Int) a = g (j : Int) a) → forN f 1 k (i : Int) a = forN g 1 k (i : Int) a
  | 0, _, _, _ => rfl
  | k + 1, i, a, h => by
    simp only [forN, h i a (by omega)]
    cases g (i : Int) a with
    | out w => rfl
    | next a' => simp only [Stp.elim]; rw [show ((i : Int) + 1) = ((i + 1 : Nat) : Int) by omega]; exact forN_ext k (i + 1) a' (fun j a hj => h j a (by omega))
theorem MacOk_in (r : List MacRow) (u : Bool) (k l : Int) (j : Nat) (hj : j < r.length) :
    Stp.elim (γ := Stp Unit Unit) (fun a3 => .next ()) (fun p3 => .out ()) (forN (s_MacOk_L0_0_f (j : Int) u k l r) 1 (Int.toNat ((j : Int) - 0)) 0 ()) =
    bif (g_ContainsFunc_MacRow_i_MacOk_1 ((r.take j).drop 0) (r.getD j (Ty.zero .macRow))).1 then .out () else .next () := by
  let p : MacRow → Bool := fun y => y.input == (r.getD j (Ty.zero .macRow)).input
  unfold g_ContainsFunc_MacRow_i_MacOk_1 g_IndexFunc_MacRow_i_MacOk_1
  rw [List.drop_zero]
  have hl : (r.take j).length = j := by rw [List.length_take]; omega
  rw [forN_list (r.take j) _ (by rw [hl]; simp) (F := fun q y a => bif p y then .out () else .next ()) (by
    intro q y a h
    have hq : q < j := by
      have := (List.getElem?_eq_some_iff.1 h).1; omega
    have h2 : r[q]? = some y := by rw [List.getElem?_take] at h; simpa [hq] using h
    simp only [s_MacOk_L0_0_f, toNat_cast, getD_some h2, p])]
  rw [forN_list (r.take j) _ (by simp) (F := fun q y a => bif p y then .out (q : Int) else .next ()) (by
    intro q y a h
    simp only [g_IndexFunc_MacRow_i_MacOk_1_L0_f, letK, i_MacOk_1, toNat_cast, getD_some h, p])]
  rw [listN_find (w := fun _ _ => ()), listN_find (w := fun j _ => (j : Int))]
  simp only [letK]
  cases h : (r.take j).findIdx? p with
  | none => simp [Stp.elim]
  | some i =>
    have := (List.findIdx?_eq_some_iff_getElem.1 h).1
    simp only [List.getElem?_eq_getElem this, Stp.elim]
    simp
theorem q_MacOk (x : Mac) : s_MacOk x = i_MacOk x := by
  unfold s_MacOk i_MacOk
  have e : forN (s_MacOk_L0_f x.use x.k x.l x.rows) 1 (Int.toNat ((x.rows.length : Int) - 0)) 0 () = forN (i_MacOk_L0_f x.rows (x.rows.length : Int) x.use x.k x.l x.rows) 1 (Int.toNat ((x.rows.length : Int) - 0)) 0 () := by
    rw [toNat_sub0]
    refine forN_ext x.rows.length 0 () (fun j a hj => ?_)
    have := MacOk_in x.rows x.use x.k x.l j (by omega)
    simp only [s_MacOk_L0_f, i_MacOk_L0_f, letK, toNat_cast, q_within] at this ⊢
    rw [this]
  rw [e]
  have e1 : (x.k != 0) = !(x.k == 0) := rfl
  have e2 : (x.l != 0) = !(x.l == 0) := rfl
  have e3 : decide (64 < (x.rows.length : Int)) = !decide ((x.rows.length : Int) ≤ 64) := by
    rcases Int.lt_or_le 64 (x.rows.length : Int) with h | h
    · simp [h, show ¬ ((x.rows.length : Int) ≤ 64) by omega]
    · simp [h, show ¬ (64 < (x.rows.length : Int)) by omega]
  rw [e1, e2, e3]
  cases x.use with
  | false => rfl
  | true =>
    cases forN (i_MacOk_L0_f x.rows (x.rows.length : Int) true x.k x.l x.rows) 1 (Int.toNat ((x.rows.length : Int) - 0)) 0 () <;> cases (x.k == 0) <;> cases (x.l == 0) <;> cases decide ((x.rows.length : Int) ≤ 64) <;> rfl


theorem q_PutWord (n b : Int) : s_PutWord n b = i_PutWord n b := by
  unfold s_PutWord i_PutWord
  simp only [letK, q_within, q_WordOk]
  cases h1 : i_within b 1 6 with
  | false => rfl
  | true =>
    simp only [Bool.not_true, cond_false]
    cases h2 : i_WordOk n (IntKind.wrap .i64 (8 * b)) with
    | false => rfl
    | true =>
      simp only [Bool.not_true, cond_false]
      have hb : 0 ≤ n ∧ n ≤ 9223372036854775807 := by
        rw [i_WordOk_eq, i_within_eq, i_within_eq] at h2
        revert h2
        cases (decide (1 ≤ IntKind.wrap .i64 (8 * b)) && decide (IntKind.wrap .i64 (8 * b) ≤ 62)) with
        | false => simp
        | true =>
          simp only [cond_true, Bool.and_eq_true, decide_eq_true_eq]
          generalize (IntKind.wrap .i64 (1 * 2 ^ (min (IntKind.wrap .i64 (8 * b)).toNat 64))) = z
          rw [wrap64_def]
          omega
      have e : ∀ k i r, forN s_PutWord_L0_f (-1) k i (n, r) = forN i_PutWord_L0_f (-1) k i (n, r) := by
       intro k i r
       refine forN_congrI (P := fun a => 0 ≤ a.1 ∧ a.1 ≤ 9223372036854775807) (fun i a ha => ?_) (fun i a a' ha he => ?_) k i (n, r) hb
       · unfold s_PutWord_L0_f i_PutWord_L0_f
         rw [(tdiv_pos 256).1 ha.1, (tmod_pos 256).1 ha.1, wrap64 (by omega) (by omega), Int.fdiv_eq_ediv_of_nonneg a.1 (by omega), wrap8_def, wrap8_def, Int.emod_emod]
       · unfold s_PutWord_L0_f at he
         cases he
         show 0 ≤ IntKind.wrap .i64 (a.1.tdiv 256) ∧ _
         rw [(tdiv_pos 256).1 ha.1, wrap64 (by omega) (by omega)]
         omega
      rw [e]
      all_goals rfl


theorem q_CookieParts (x : Int) : s_CookieParts x = i_CookieParts x := by simp only [s_CookieParts, i_CookieParts, q_WordOk]


theorem q_MacInput (x : Tupl) (a b c : Int) : s_MacInput x a b c = i_MacInput x a b c := by simp only [s_MacInput, i_MacInput, q_PutWord, q_TupleOk, q_WordOk, q_within]


theorem q_l1Has (xs : List Bytes) (x : Bytes) : s_l1Has xs x = g_Contains_string xs x := by
  unfold s_l1Has g_Contains_string g_Index_string
  let p : Bytes → Bool := fun y => y == x
  rw [toNat_sub0, forN_list xs _ rfl (F := fun j y a => bif p y then .out () else .next ()) (by
    intro j y a h
    simp only [s_l1Has_L0_f, letK, toNat_cast, getD_some h, p])]
  rw [forN_list xs _ rfl (F := fun j y a => bif p y then .out (j : Int) else .next ()) (by
    intro j y a h
    have : (x == y) = (y == x) := by rw [Bool.eq_iff_iff]; simp only [beq_iff_eq]; exact eq_comm
    simp only [g_Index_string_L0_f, letK, toNat_cast, getD_some h, p, this])]
  rw [listN_find (w := fun _ _ => ()), listN_find (w := fun j _ => (j : Int))]
  simp only [letK]
  cases h : xs.findIdx? p with
  | none => simp [Stp.elim]
  | some i =>
    have := (List.findIdx?_eq_some_iff_getElem.1 h).1
    simp only [List.getElem?_eq_getElem this, Stp.elim]
    simp


theorem q_GuessInputs (e : Int) (xs : List Issu) : s_GuessInputs e xs = i_GuessInputs e xs := by
  unfold s_GuessInputs i_GuessInputs
  rw [show forN (s_GuessInputs_L0_f e xs) 1 (Int.toNat ((xs.length : Int) - 0)) 0 [] = forN (i_GuessInputs_L0_f e xs (xs.length : Int)) 1 (Int.toNat ((xs.length : Int) - 0)) 0 [] from forN_congr (fun _ _ => by simp only [s_GuessInputs_L0_f, i_GuessInputs_L0_f, q_CookieParts, q_MacInput, q_l1Has]) _ _ _]
  all_goals rfl
theorem GuessInputs_len (e : Int) (xs : List Issu) : (i_GuessInputs e xs).length ≤ xs.length := by
  unfold i_GuessInputs
  cases hf : forN (i_GuessInputs_L0_f e xs (xs.length : Int)) 1 (Int.toNat ((xs.length : Int) - 0)) 0 [] with
  | out p => nomatch p
  | next a =>
    have h5 : (a.length : Int) ≤ 0 + 1 * (Int.toNat ((xs.length : Int) - 0) : Int) := by
      refine forN_inv (Inv := fun i a => (a.length : Int) ≤ i) _ _ _ (by simp) (fun j a _ h a2 he => ?_) a hf
      unfold i_GuessInputs_L0_f at he
      simp only [letK] at he
      revert he
      generalize (i_MacInput _ _ _ _) = m
      generalize g_Contains_string a m = c
      cases hm : (m == ([] : Bytes)) <;> cases c <;> intro he <;> simp only [Bool.not_true, Bool.not_false, cond_true, cond_false] at he <;> cases he <;> (try simp only [List.length_append, List.length_singleton]) <;> omega
    simp only [Stp.elim]
    omega


theorem q_Assigned (xs : List Bytes) (n m : Int) : s_Assigned xs n m = i_Assigned xs n m := by
  unfold s_Assigned i_Assigned
  simp only [letK, q_within, s_TableMac, List.nil_append]
  rw [show forN (s_Assigned_L0_f xs n false 0 0) 1 (Int.toNat ((xs.length : Int) - 0)) 0 (m, []) = forN (i_Assigned_L0_f n xs (xs.length : Int) false 0 0 true 0 0) 1 (Int.toNat ((xs.length : Int) - 0)) 0 (m, []) from forN_congr (fun _ _ => rfl) _ _ _]
  all_goals rfl
theorem Assigned_len (xs : List Bytes) (n m : Int) : (i_Assigned xs n m).rows.length ≤ 4 := by
  unfold i_Assigned letK
  cases i_within n 1 4 with
  | false => simp
  | true =>
    cases decide (m < 0) with
    | true => simp
    | false =>
      cases hd : decide (4 < (xs.length : Int)) with
      | true => simp
      | false =>
        simp only [decide_eq_false_iff_not] at hd
        simp only [Bool.not_true, cond_false]
        cases hf : forN (i_Assigned_L0_f n xs (xs.length : Int) false 0 0 true 0 0) 1 (Int.toNat ((xs.length : Int) - 0)) 0 (m, []) with
        | out p => nomatch p
        | next a =>
          have h5 : (a.2.length : Int) ≤ 0 + 1 * (Int.toNat ((xs.length : Int) - 0) : Int) := by
            refine forN_inv (Inv := fun i (a : Int × List MacRow) => (a.2.length : Int) ≤ i) _ _ _ (by simp) (fun j a _ h a2 he => ?_) a hf
            unfold i_Assigned_L0_f at he
            cases he
            simp only [List.length_append, List.length_singleton]
            omega
          simp only [Stp.elim]
          omega

theorem rot_eq (x n : Int) (h : bits .and .u64 (IntKind.wrap .u64 n) 63 = n) : mb_RotateLeft64 x n = s_l10Turn x n := by
  simp only [mb_RotateLeft64, s_l10Turn, letK, h]
theorem q_SipRound (x : Sipr) : s_SipRound x = i_SipRound x := by
  simp only [s_SipRound, i_SipRound, rot_eq _ 13 (by decide +kernel), rot_eq _ 16 (by decide +kernel), rot_eq _ 17 (by decide +kernel), rot_eq _ 21 (by decide +kernel), rot_eq _ 32 (by decide +kernel)]

theorem wraps_u64 (n : Int) (h0 : 0 ≤ n) (h1 : n < 2 ^ 64) : IntKind.u64.wrap n = n := by rw [wrapU_def]; omega
theorem or8 (a b : Int) (ha : 0 ≤ a) (ha1 : a < 72057594037927936) (hb : 0 ≤ b) (hb1 : b < 256) : bits .or .u64 (IntKind.wrap .u64 (a * 256)) (IntKind.wrap .u64 b) = a * 256 + b := by
  rw [wraps_u64 _ (by omega) (by omega), wraps_u64 _ (by omega) (by omega)]
  exact bits_join .u64 64 (by decide) wraps_u64 8 _ _ (by omega) (by omega) (by omega) (by omega) (by omega) (by omega)
/-- bytes from the k-th down, as digits -/
def Rd8 (g : Nat → Int) : Nat → Int → Int
  | 0, a => a
  | k + 1, a => Rd8 g k (a * 256 + g k)
theorem Rd8_congr {g h : Nat → Int} : ∀ (k : Nat) (a : Int), (∀ j, j < k → g j = h j) → Rd8 g k a = Rd8 h k a
  | 0, _, _ => rfl
  | k + 1, a, e => by simp only [Rd8, e k (Nat.lt_succ_self _)]; exact Rd8_congr k _ fun j hj => e j (by omega)
theorem Rd8_lin {g : Nat → Int} : ∀ (k : Nat) (a : Int), Rd8 g k a = a * 256 ^ k + Rd8 g k 0
  | 0, a => by simp [Rd8]
  | k + 1, a => by
    simp only [Rd8]
    rw [Rd8_lin k (a * 256 + g k), Rd8_lin k (0 * 256 + g k), Int.pow_succ, Int.add_mul, Int.zero_mul, Int.zero_add, Int.mul_assoc, Int.mul_comm 256 (256 ^ k), Int.add_assoc]
theorem pow256 (k : Nat) : (1 : Int) ≤ 256 ^ k := by
  have := Int.pow_pos (n := 256) (m := k) (by decide)
  omega
theorem Rd8_bd {g : Nat → Int} (hg : ∀ k, 0 ≤ g k ∧ g k ≤ 255) : ∀ (k : Nat), 0 ≤ Rd8 g k 0 ∧ Rd8 g k 0 < 256 ^ k
  | 0 => by simp [Rd8]
  | k + 1 => by
    have h := Rd8_bd hg k
    simp only [Rd8]
    rw [Rd8_lin, Int.zero_mul, Int.zero_add, Int.pow_succ]
    have h1 := hg k
    have h2 := pow256 k
    have h3 : 0 ≤ g k * 256 ^ k := Int.mul_nonneg h1.1 (by omega)
    have h4 : g k * 256 ^ k ≤ 255 * 256 ^ k := Int.mul_le_mul_of_nonneg_right h1.2 (by omega)
    omega
theorem low_forN {f : Int → Int → Stp Int Empty} {g : Nat → Int} (hg : ∀ k, 0 ≤ g k ∧ g k ≤ 255) (hf : ∀ (k : Nat) a, f (k : Int) a = .next (bits .or .u64 (IntKind.wrap .u64 (a * 256)) (IntKind.wrap .u64 (g k)))) :
    ∀ (k : Nat) (a : Int), 0 ≤ a → (a + 1) * 256 ^ k ≤ 18446744073709551616 → forN f (-1) k ((k : Int) - 1) a = .next (Rd8 g k a)
  | 0, a, _, _ => rfl
  | k + 1, a, h0, h1 => by
    have hp := pow256 k
    rw [Int.pow_succ, Int.mul_comm (256 ^ k) 256, ← Int.mul_assoc] at h1
    have h2 : (a + 1) * 256 * 1 ≤ (a + 1) * 256 * 256 ^ k := Int.mul_le_mul_of_nonneg_left hp (by omega)
    have h3 := hg k
    simp only [forN, Rd8]
    rw [show ((k + 1 : Nat) : Int) - 1 = (k : Int) by omega, hf, or8 a (g k) h0 (by omega) h3.1 (by omega)]
    simp only [Stp.elim]
    rw [show (k : Int) + -1 = (k : Int) - 1 by omega]
    refine low_forN hg hf k _ (by omega) ?_
    have h4 : (a * 256 + g k + 1) * 256 ^ k ≤ (a + 1) * 256 * 256 ^ k := Int.mul_le_mul_of_nonneg_right (by omega) (by omega)
    omega
theorem byteAt_le (s : Bytes) (k : Nat) : 0 ≤ byteAt s k ∧ byteAt s k ≤ 255 := byteAt_rng s k
theorem l10Low_eq (s : Bytes) (h : s.length ≤ 8) : s_l10Low s = Rd8 (byteAt s) s.length 0 := by
  unfold s_l10Low
  rw [wrap64 (by omega) (by omega)]
  rw [show Int.toNat ((s.length : Int) - 1 - 0 + 1) = s.length by omega]
  rw [low_forN (g := byteAt s) (byteAt_le s) (fun k a => rfl) s.length 0 (by omega) ?_]
  · rfl
  · have : ∀ k : Nat, k ≤ 8 → (0 + 1 : Int) * 256 ^ k ≤ 18446744073709551616 := by decide
    exact this _ h
theorem little_eq (l : List Int) (h : ∀ k, 0 ≤ l.getD k 0 ∧ l.getD k 0 ≤ 255) : i_little l = Rd8 (fun k => l.getD k 0) 8 0 := by
  unfold i_little
  rw [show Int.toNat (7 - 0 + 1) = 8 from rfl, show (7 : Int) = ((8 : Nat) : Int) - 1 from rfl]
  rw [low_forN (g := fun k => l.getD k 0) h (fun k a => rfl) 8 0 (by omega) (by decide)]
  rfl

theorem WordOk32 (n : Int) : i_WordOk n 32 = (decide (0 ≤ n) && decide (n ≤ 4294967295)) := by
  rw [i_WordOk_eq, i_within_eq, i_within_eq]
  rfl
theorem q_KeysOk (k : Keys) : s_KeysOk k = i_KeysOk k := by
  unfold s_KeysOk i_KeysOk
  simp only [q_WordOk, q_MacOk, q_SameMac, WordOk32, i_within_eq, letK_eq]
  obtain ⟨e, n, b, t⟩ := k
  simp only []
  cases t <;> cases i_MacOk n <;> cases i_MacOk b <;> simp
  rw [Bool.eq_iff_iff]
  simp
  omega

theorem q_SipWord (x : Sipr) (m : Int) : s_SipWord x m = i_SipWord x m := by
  simp only [s_SipWord, i_SipWord, q_SipRound]
theorem q_SipStart (k l : Int) : s_SipStart k l = i_SipStart k l := by simp only [s_SipStart, i_SipStart]
theorem q_SipEnd (x : Sipr) : s_SipEnd x = i_SipEnd x := by
  simp only [s_SipEnd, i_SipEnd, q_SipRound, show Int.toNat (4 - 0) = 4 from rfl, forN, i_SipEnd_L0_f, letK, Stp.elim]

theorem whileN_sim {A B W W' : Type} [Inhabited W] [Inhabited W'] {f : A → Stp A W} {g : B → Stp B W'} {R : A → B → Prop} {Q : W → W' → Prop} {ma : A → Nat} {mb : B → Nat}
    (h : ∀ a b, R a b → (∃ a' b', f a = .next a' ∧ g b = .next b' ∧ R a' b' ∧ ma a' < ma a ∧ mb b' < mb b) ∨ (∃ w w', f a = .out w ∧ g b = .out w' ∧ Q w w')) :
    ∀ (m m' : Nat) (a : A) (b : B), ma a < m → mb b < m' → R a b → Q (whileN f m a) (whileN g m' b)
  | 0, _, _, _, h1, _, _ => absurd h1 (Nat.not_lt_zero _)
  | _ + 1, 0, _, _, _, h2, _ => absurd h2 (Nat.not_lt_zero _)
  | m + 1, m' + 1, a, b, h1, h2, hr => by
    rcases h a b hr with ⟨a', b', e1, e2, hr', l1, l2⟩ | ⟨w, w', e1, e2, hq⟩
    · simp only [whileN, e1, e2, Stp.elim]
      exact whileN_sim h m m' a' b' (by omega) (by omega) hr'
    · simp only [whileN, e1, e2, Stp.elim]
      exact hq
theorem Rd8_succ {g : Nat → Int} (k : Nat) (a : Int) : Rd8 g (k + 1) a = Rd8 g k (a * 256 + g k) := rfl
theorem gset_len {α : Type} {xs : List α} {j : Nat} (h : j < xs.length) (v z : α) : (xs.set j v).getD j z = v := by
  simp [List.getD, List.getElem?_set, h]
theorem toInts_getD (s : Bytes) (k : Nat) : (toInts s).getD k 0 = byteAt s k := by
  simp only [toInts, byteAt, List.getD, List.getElem?_map]
  cases s[k]? <;> rfl
theorem byteAt_drop (s : Bytes) (n k : Nat) : byteAt (s.drop n) k = byteAt s (n + k) := by
  simp only [byteAt, List.getD, List.getElem?_drop]
theorem byteAt_take (s : Bytes) (n k : Nat) (h : k < n) : byteAt (s.take n) k = byteAt s k := by
  simp only [byteAt, List.getD, List.getElem?_take, if_pos h]
theorem byteAt_over (s : Bytes) (k : Nat) (h : s.length ≤ k) : byteAt s k = 0 := by
  simp [byteAt, List.getD, h]
theorem Rd8_pad {g : Nat → Int} (r : Nat) : ∀ (m : Nat), (∀ j, r ≤ j → j < r + m → g j = 0) → Rd8 g (r + m) 0 = Rd8 g r 0
  | 0, _ => rfl
  | m + 1, h => by
    rw [show r + (m + 1) = (r + m) + 1 from rfl]
    simp only [Rd8]
    rw [h (r + m) (by omega) (by omega)]
    exact Rd8_pad r m fun j h1 h2 => h j h1 (by omega)
theorem bits_or_comm (k : IntKind) (a b : Int) : bits .or k a b = bits .or k b a := by
  simp only [bits, BitVec.or_comm]
def SipR (x : Bytes) (a : Int × Int × Int × Int × Int) (b : List Int × Int × Int × Int × Int) : Prop := 0 ≤ a.1 ∧ a.1 ≤ x.length ∧ b.1 = toInts (x.drop a.1.toNat) ∧ a.2 = b.2
theorem toInts_drop (s : Bytes) (n : Nat) : (toInts s).drop n = toInts (s.drop n) := by simp [toInts]
theorem Sip_loops (x : Bytes) (hx : x.length ≤ 4294967296) (z : Sipr) : SipR x (s_SipHash_L0_w x (x.length : Int) 0 z.a z.b z.c z.d) (i_SipHash_L0_w x (toInts x) z.a z.b z.c z.d) ∧ (x.length : Int) < (s_SipHash_L0_w x (x.length : Int) 0 z.a z.b z.c z.d).1 + 8 := by
    unfold s_SipHash_L0_w i_SipHash_L0_w
    refine whileN_sim (R := SipR x) (Q := fun w w' => SipR x w w' ∧ (x.length : Int) < w.1 + 8) (ma := fun a => Int.toNat ((x.length : Int) - a.1)) (mb := fun b => b.1.length) ?_ _ _ _ _ ?_ ?_ ?_
    · intro a b hr
      obtain ⟨h1, h2, h3, h4⟩ := hr
      have hb : (b.1.length : Int) = (x.length : Int) - a.1 := by rw [h3, toInts_length, List.length_drop]; omega
      unfold s_SipHash_L0_f i_SipHash_L0_f
      rw [wrap64 (by omega) (by omega)]
      cases hd : decide (a.1 + 8 ≤ (x.length : Int)) with
      | true =>
        simp only [decide_eq_true_eq] at hd
        rw [show decide (8 ≤ (b.1.length : Int)) = true by simp only [decide_eq_true_eq]; omega]
        refine .inl ⟨_, _, rfl, rfl, ⟨?_, ?_, ?_, ?_⟩, ?_, ?_⟩
        · simp only []; omega
        · simp only []; omega
        · simp only []
          rw [toNat_cast, List.take_length, h3, toInts_drop, List.drop_drop, show (a.1 + 8).toNat = a.1.toNat + 8 by omega]
        · have e : s_l10Low ((x.take (a.1 + 8).toNat).drop a.1.toNat) = i_little b.1 := by
            have hl : ((x.take (a.1 + 8).toNat).drop a.1.toNat).length = 8 := by rw [List.length_drop, List.length_take]; omega
            rw [l10Low_eq _ (by omega), hl, little_eq _ (fun k => by rw [h3, toInts_getD]; exact byteAt_le _ _)]
            refine Rd8_congr 8 0 fun j hj => ?_
            rw [h3, toInts_getD, byteAt_drop, byteAt_drop, byteAt_take _ _ _ (by omega)]
          simp only [letK, e, h4]
          rw [q_SipWord]
        · simp only []; omega
        · simp only [toNat_cast, List.take_length, List.length_drop]; omega
      | false =>
        simp only [decide_eq_false_iff_not] at hd
        rw [show decide (8 ≤ (b.1.length : Int)) = false by simp only [decide_eq_false_iff_not]; omega]
        exact .inr ⟨_, _, rfl, rfl, ⟨h1, h2, h3, h4⟩, by show (x.length : Int) < a.1 + 8; omega⟩
    · exact Nat.lt_succ_self _
    · exact Nat.lt_succ_self _
    · exact ⟨by simp, by simp, by simp, rfl⟩
theorem Sip_last (x : Bytes) (hx : x.length ≤ 4294967296) (p : Int) (q : List Int) (h1 : 0 ≤ p) (h2 : p ≤ x.length) (h3 : q = toInts (x.drop p.toNat)) (h5 : (x.length : Int) < p + 8) :
    bits .or .u64 (s_l10Low (x.drop p.toNat)) (IntKind.wrap .u64 ((IntKind.wrap .u64 ((x.length : Int).tmod 256)) * 72057594037927936)) = i_little ((q ++ (List.replicate 8 0).drop q.length).set 7 (IntKind.wrap .u8 (x.length : Int))) := by
  have hl : (x.drop p.toNat).length = x.length - p.toNat := by simp
  have hq : q.length = x.length - p.toNat := by rw [h3, toInts_length, hl]
  generalize hy : x.drop p.toNat = y at h3 hl
  have hy8 : y.length ≤ 7 := by omega
  rw [l10Low_eq y (by omega)]
  have hb7 : IntKind.u8.wrap (x.length : Int) = (x.length : Int) % 256 := wrap8_def _
  have hm : IntKind.u64.wrap ((x.length : Int).tmod 256) = (x.length : Int) % 256 := by
    rw [(tmod_pos 256).1 (by omega), wraps_u64 _ (by omega) (by omega)]
  rw [hb7, hm]
  have hg : ∀ k, ((q ++ (List.replicate 8 (0 : Int)).drop q.length).set 7 ((x.length : Int) % 256)).getD k 0 = if k = 7 then (x.length : Int) % 256 else byteAt y k := by
    intro k
    by_cases e : k = 7
    · subst e
      rw [if_pos rfl]
      exact gset_len (by simp; omega) _ _
    · rw [if_neg e, List.getD, List.getElem?_set_ne (by omega)]
      by_cases hk : k < q.length
      · rw [List.getElem?_append_left hk, h3, ← List.getD_eq_getElem?_getD, toInts_getD]
      · rw [List.getElem?_append_right (by omega), List.getElem?_drop, List.getElem?_replicate, byteAt_over y k (by omega)]
        split <;> rfl
  rw [little_eq _ (fun k => by
    rw [hg]
    split
    · omega
    · exact byteAt_le _ _)]
  have hbd := Rd8_bd (g := byteAt y) (byteAt_le y) y.length
  have hp7 : (256 : Int) ^ y.length ≤ 72057594037927936 := by
    have : ∀ k : Nat, k ≤ 7 → (256 : Int) ^ k ≤ 72057594037927936 := by decide
    exact this _ hy8
  have e1 : Rd8 (fun k => ((q ++ (List.replicate 8 (0 : Int)).drop q.length).set 7 ((x.length : Int) % 256)).getD k 0) 8 0 = ((x.length : Int) % 256) * 72057594037927936 + Rd8 (byteAt y) y.length 0 := by
    refine (Rd8_succ 7 0).trans ?_
    rw [hg 7, if_pos rfl, Rd8_lin, Int.zero_mul, Int.zero_add, show (256 : Int) ^ 7 = 72057594037927936 from rfl]
    congr 1
    rw [Rd8_congr 7 0 (h := byteAt y) fun j hj => by rw [hg, if_neg (by omega)]]
    have := Rd8_pad (g := byteAt y) y.length (7 - y.length) fun j h1 _ => byteAt_over y j h1
    rw [show y.length + (7 - y.length) = 7 by omega] at this
    exact this
  rw [e1, bits_or_comm, wraps_u64 ((x.length : Int) % 256 * 72057594037927936) (by omega) (by omega)]
  exact bits_join .u64 64 (by decide) wraps_u64 56 _ _ (by omega) (by omega) (by omega) (by omega) (by omega) (by omega)
theorem s_SipHash_eq (k l : Int) (x : Bytes) : s_SipHash k l x = (fun p : Int × Int × Int × Int × Int => s_SipEnd (s_SipWord ⟨p.2.1, p.2.2.1, p.2.2.2.1, p.2.2.2.2⟩ (bits .or .u64 (s_l10Low ((x.take ((x.length : Int).toNat)).drop p.1.toNat)) (IntKind.wrap .u64 ((IntKind.wrap .u64 ((x.length : Int).tmod 256)) * 72057594037927936))))) (s_SipHash_L0_w x (x.length : Int) 0 (s_SipStart k l).a (s_SipStart k l).b (s_SipStart k l).c (s_SipStart k l).d) := by
  unfold s_SipHash
  simp only [letK_eq]
theorem i_SipHash_eq (k l : Int) (x : Bytes) : i_SipHash k l x = (fun p : List Int × Int × Int × Int × Int => i_SipEnd (i_SipWord ⟨p.2.1, p.2.2.1, p.2.2.2.1, p.2.2.2.2⟩ (i_little (((p.1.take 8) ++ (List.replicate 8 0).drop (p.1.take 8).length).set 7 (IntKind.wrap .u8 (x.length : Int)))))) (i_SipHash_L0_w x (toInts x) (i_SipStart k l).a (i_SipStart k l).b (i_SipStart k l).c (i_SipStart k l).d) := by
  unfold i_SipHash
  simp only [letK_eq, List.length_replicate]
theorem q_SipHash (k l : Int) (x : Bytes) (hx : x.length ≤ 4294967296) : s_SipHash k l x = i_SipHash k l x := by
  rw [s_SipHash_eq, i_SipHash_eq, q_SipStart]
  generalize i_SipStart k l = z
  have key := Sip_loops x hx z
  generalize s_SipHash_L0_w x (x.length : Int) 0 z.a z.b z.c z.d = p at key
  generalize i_SipHash_L0_w x (toInts x) z.a z.b z.c z.d = q at key
  obtain ⟨⟨h1, h2, h3, h4⟩, h5⟩ := key
  have hq : q.1.length = x.length - p.1.toNat := by rw [h3, toInts_length, List.length_drop]
  have ht : q.1.take 8 = q.1 := List.take_of_length_le (by omega)
  simp only [ht, h4]
  rw [q_SipEnd, q_SipWord, show ((x.take (x.length : Int).toNat).drop p.1.toNat) = x.drop p.1.toNat by rw [toNat_cast, List.take_length]]
  rw [Sip_last x hx p.1 q.1 h1 h2 h3 h5]

theorem q_MacOf (m : Mac) (x : Bytes) (hx : x.length ≤ 4294967296) : s_MacOf m x = i_MacOf m x := by
  unfold s_MacOf i_MacOf
  rw [q_SipHash _ _ _ hx]
  rw [show forN (s_MacOf_L0_f x m.use m.k m.l m.rows) 1 (Int.toNat ((m.rows.length : Int) - 0)) 0 () = forN (i_MacOf_L0_f x m.rows (m.rows.length : Int)) 1 (Int.toNat ((m.rows.length : Int) - 0)) 0 () from forN_congr (fun i a => by
    unfold s_MacOf_L0_f i_MacOf_L0_f
    generalize (m.rows.getD i.toNat (Ty.zero .macRow)) = r
    cases (r.input == x) with
    | false => rfl
    | true =>
      simp only [cond_true, letK_eq]
      have h1 := tmod_pos (a := r.value) 16777216
      rcases Int.lt_or_le r.value 0 with h | h
      · have e := h1.2 h
        generalize r.value.tmod 16777216 = t at e
        rw [wrap64 (by omega) (by omega)]
        cases hd : decide (t < 0) with
        | true => simp only [decide_eq_true_eq] at hd; simp only [cond_true]; rw [(tmod_pos 16777216).1 (by omega), Int.emod_eq_of_lt (by omega) (by omega)]
        | false => simp only [decide_eq_false_iff_not] at hd; simp only [cond_false]; rw [(tmod_pos 16777216).1 (by omega), show t = 0 by omega]; rfl
      · have e := h1.1 h
        generalize r.value.tmod 16777216 = t at e
        rw [wrap64 (by omega) (by omega)]
        cases hd : decide (t < 0) with
        | true => simp only [decide_eq_true_eq] at hd; omega
        | false => simp only [cond_false]; rw [(tmod_pos 16777216).1 (by omega)]; congr 1; omega) _ _ _]

theorem PutWord_len (n b : Int) : (i_PutWord n b).length ≤ 6 := i_PutWord_len n b
theorem MacInput_len (t : Tupl) (a b c : Int) : (i_MacInput t a b c).length ≤ 36 := by
  have h : ∀ n b, (i_PutWord n b).length ≤ 6 := PutWord_len
  unfold i_MacInput
  simp only [letK_eq]
  cases i_TupleOk t <;> cases i_WordOk a 32 <;> cases i_WordOk b 32 <;> cases i_within c 0 7 <;> simp only [Bool.not_true, Bool.not_false, cond_true, cond_false, List.length_nil] <;> try omega
  have h1 := h t.ip 4
  have h2 := h t.port 2
  have h3 := h t.my 2
  have h4 := h a 4
  have h5 := h b 4
  have h6 := h c 1
  simp only [List.length_append]
  omega
theorem q_CookieOf (m : Mac) (t : Tupl) (a b c : Int) : s_CookieOf m t a b c = i_CookieOf m t a b c := by
  unfold s_CookieOf i_CookieOf
  rw [q_MacInput]
  have := MacInput_len t a b c
  generalize i_MacInput t a b c = x at *
  simp only [letK_eq, q_MacOf m x (by omega)]
theorem q_SecretOf (k : Keys) (e : Int) : s_SecretOf k e = i_SecretOf k e := by
  unfold s_SecretOf i_SecretOf
  simp only [s_l11Copy, i_cloneMac, g_Clone_MacRow, letK_eq, List.nil_append]

theorem cc_loop (f : Int → Unit → Stp Unit (Int ⊕ Unit)) (g : Int → Unit → Stp Unit Int) (E : Int) (h0 : 0 ≤ E) (h1 : E ≤ 4294967295)
    (hfg : ∀ e, E - 1 ≤ e → f e () = Stp.elim (fun _ => .next ()) (fun w => .out (.inl w)) (g e ())) (hend : ∀ e, e < E - 1 → f e () = .out (.inr ())) (i : Int) :
    Stp.elim (fun _ => ((0 : Int), (0 : Int), false)) (Sum.elim (fun p => (p, i, true)) (fun _ => (0, 0, false))) (forN f (-1) (Int.toNat (E - 0 + 1)) E ()) =
    Stp.elim (fun _ => (0, 0, false)) (fun p => (p, i, true)) (forN g (-1) (Int.toNat (E - (if 0 < (IntKind.wrap .i64 (E - 1)) then (IntKind.wrap .i64 (E - 1)) else 0) + 1)) E ()) := by
  rw [wrap64 (by omega) (by omega)]
  rcases (show E = 0 ∨ E = 1 ∨ 2 ≤ E by omega) with rfl | rfl | h
  · rw [if_neg (by omega), show Int.toNat (0 - 0 + 1) = 1 from rfl]
    simp only [forN, hfg 0 (by omega)]
    cases g 0 () <;> rfl
  · rw [if_neg (by omega), show Int.toNat (1 - 0 + 1) = 2 from rfl]
    simp only [forN, hfg 1 (by omega), show (1 : Int) + -1 = 0 from rfl, hfg 0 (by omega)]
    cases g 1 () with
    | out w => rfl
    | next a => simp only [Stp.elim]; cases g 0 () <;> rfl
  · rw [if_pos (by omega), show Int.toNat (E - (E - 1) + 1) = 2 by omega]
    obtain ⟨m, hm⟩ : ∃ m : Nat, Int.toNat (E - 0 + 1) = m + 3 := ⟨Int.toNat (E - 2), by omega⟩
    rw [hm]
    simp only [forN, hfg E (by omega), hfg (E + -1) (by omega), hend (E + -1 + -1) (by omega)]
    cases g E () with
    | out w => rfl
    | next a => simp only [Stp.elim]; cases g (E + -1) () <;> rfl
theorem CookieParts_neg (x : Int) : decide ((i_CookieParts x).2.1 < 0) = !i_WordOk x 32 := by
  unfold i_CookieParts
  simp only [letK_eq, WordOk32]
  cases hd : (decide (0 ≤ x) && decide (x ≤ 4294967295)) with
  | false => rfl
  | true =>
    simp only [Bool.and_eq_true, decide_eq_true_eq] at hd
    simp only [Bool.not_true, cond_false]
    rw [(tdiv_pos 16777216).1 hd.1, wrap64 (by omega) (by omega), (tmod_pos 8).1 (by omega)]
    simp only [decide_eq_false_iff_not]
    omega
theorem KeysOk_epoch (k : Keys) (h : i_KeysOk k = true) : 0 ≤ k.epoch ∧ k.epoch ≤ 4294967295 := by
  rw [← q_KeysOk] at h
  unfold s_KeysOk at h
  simp only [q_WordOk, WordOk32, letK_eq] at h
  revert h
  cases hd : (decide (0 ≤ k.epoch) && decide (k.epoch ≤ 4294967295)) with
  | false => intro h; cases h
  | true => intro _; simpa using hd
theorem q_CheckCookie (k : Keys) (t : Tupl) (a b : Int) : s_CheckCookie k t a b = i_CheckCookie k t a b := by
  unfold s_CheckCookie i_CheckCookie
  simp only [letK_eq, q_KeysOk, q_CookieParts, CookieParts_neg]
  cases hk : i_KeysOk k with
  | false => rfl
  | true =>
    simp only [Bool.not_true, cond_false]
    cases i_WordOk b 32 with
    | false => rfl
    | true =>
      simp only [Bool.not_true, cond_false]
      have he := KeysOk_epoch k hk
      refine cc_loop _ _ k.epoch he.1 he.2 (fun e h => ?_) (fun e h => ?_) _
      · unfold s_CheckCookie_L0_f i_CheckCookie_L0_f
        rw [wrap64 (by omega) (by omega)]
        simp only [letK_eq, q_SecretOf, q_CookieOf, decide_eq_true h, cond_true]
        cases (i_SecretOf k e).2 with
        | false => rfl
        | true =>
          simp only [cond_true]
          cases (i_CookieOf (i_SecretOf k e).1 t a e (i_CookieParts b).2.1 == b) <;> rfl
      · unfold s_CheckCookie_L0_f
        rw [wrap64 (by omega) (by omega)]
        simp only [decide_eq_false (show ¬ (k.epoch - 1 ≤ e) by omega), cond_false]

def hitP (k : Keys) (x : Issu) : Bool := (i_CheckCookie k x.tuple x.seq x.cookie).2.2
theorem i_HitBy_any (k : Keys) (xs : List Issu) : i_HitBy k xs = xs.any (hitP k) := by
  unfold i_HitBy g_ContainsFunc_Issue_i_HitBy_1 g_IndexFunc_Issue_i_HitBy_1
  rw [toNat_sub0, forN_list xs _ rfl (F := fun j y a => bif hitP k y then .out (j : Int) else .next ()) (by
    intro j y a h
    simp only [g_IndexFunc_Issue_i_HitBy_1_L0_f, letK_eq, i_HitBy_1, toNat_cast, getD_some h, hitP])]
  rw [listN_find (w := fun j _ => (j : Int))]
  simp only [letK_eq]
  cases h : xs.findIdx? (hitP k) with
  | none =>
    rw [List.findIdx?_eq_none_iff] at h
    simp only [Stp.elim]
    symm
    show xs.any (hitP k) = false
    rw [List.any_eq_false]
    intro x hx
    simp [h x hx]
  | some i =>
    obtain ⟨h1, h2, _⟩ := List.findIdx?_eq_some_iff_getElem.1 h
    simp only [List.getElem?_eq_getElem h1, Stp.elim]
    symm
    have : xs.any (hitP k) = true := by rw [List.any_eq_true]; exact ⟨xs[i], List.getElem_mem h1, h2⟩
    rw [this]
    simp
theorem s_HitBy_any (k : Keys) (xs : List Issu) : s_HitBy k xs = xs.any (hitP k) := by
  unfold s_HitBy
  rw [toNat_sub0, forN_list xs _ rfl (F := fun j y a => bif hitP k y then .out () else .next ()) (by
    intro j y a h
    simp only [s_HitBy_L0_f, letK_eq, q_CheckCookie, toNat_cast, getD_some h, hitP])]
  rw [listN_find (w := fun j _ => ())]
  cases h : xs.findIdx? (hitP k) with
  | none =>
    rw [List.findIdx?_eq_none_iff] at h
    simp only [Stp.elim]
    symm
    rw [List.any_eq_false]
    intro x hx
    simp [h x hx]
  | some i =>
    obtain ⟨h1, h2, _⟩ := List.findIdx?_eq_some_iff_getElem.1 h
    simp only [List.getElem?_eq_getElem h1, Stp.elim]
    symm
    rw [List.any_eq_true]; exact ⟨xs[i], List.getElem_mem h1, h2⟩
theorem q_HitBy (k : Keys) (xs : List Issu) : s_HitBy k xs = i_HitBy k xs := by rw [s_HitBy_any, i_HitBy_any]

theorem q_ShareOf (e : Int) (xs : List Issu) (b : Int) : s_ShareOf e xs b = i_ShareOf e xs b := by
  unfold s_ShareOf i_ShareOf
  simp only [letK_eq, q_within, q_WordOk, q_GuessInputs]
  have h1 : ∀ (c : List Bytes) n i a, forN (s_ShareOf_L0_f e xs b c) 1 n i a = forN (i_ShareOf_L0_f e xs b (c.length : Int) c) 1 n i a := fun c => forN_congr fun i a => rfl
  have h2 : ∀ (c : List Bytes) (t : Int) n i a, forN (s_ShareOf_L1_f e xs b t c) 1 n i a = forN (i_ShareOf_L1_f e xs b t t c) 1 n i a := fun c t => forN_congr fun i a => by
    simp only [s_ShareOf_L1_f, i_ShareOf_L1_f, q_Assigned, q_HitBy]
  simp only [h1, h2]
  all_goals rfl

/-! the rows of a table of guesses -/
def rowsOf (b : Int) : List Bytes → Int → List MacRow
  | [], _ => []
  | x :: r, n => ⟨x, n % b⟩ :: rowsOf b r (n / b)
def lookR : List MacRow → Bytes → Int
  | [], _ => 0
  | r :: rs, x => bif r.input == x then r.value else lookR rs x
theorem rowsOf_listN (b : Int) (hb : 1 ≤ b) (hb4 : b ≤ 4) {F : Nat → Bytes → Int × List MacRow → Stp (Int × List MacRow) Empty} (hF : ∀ j x a, F j x a = .next (IntKind.wrap .i64 (a.1.tdiv b), a.2 ++ [⟨x, a.1.tmod b⟩])) :
    ∀ (xs : List Bytes) (j : Nat) (n : Int) (acc : List MacRow), 0 ≤ n → n ≤ 9223372036854775807 → ∃ n', listN F j xs (n, acc) = .next (n', acc ++ rowsOf b xs n)
  | [], _, n, acc, _, _ => ⟨n, by simp [listN, rowsOf]⟩
  | x :: r, j, n, acc, h0, h1 => by
    have hd : 0 ≤ n / b ∧ n / b ≤ n := ⟨Int.ediv_nonneg h0 (by omega), Int.ediv_le_self b h0⟩
    simp only [listN, hF, Stp.elim, rowsOf]
    rw [(tdiv_pos b).1 h0, (tmod_pos b).1 h0, wrap64 (by omega) (by omega)]
    obtain ⟨n', h⟩ := rowsOf_listN b hb hb4 hF r (j + 1) (n / b) (acc ++ [⟨x, n % b⟩]) hd.1 (by omega)
    exact ⟨n', by rw [h, List.append_assoc]; rfl⟩
theorem Assigned_eq (xs : List Bytes) (b n : Int) (hb : 1 ≤ b) (hb4 : b ≤ 4) (h0 : 0 ≤ n) (h1 : n ≤ 9223372036854775807) (hl : xs.length ≤ 4) : i_Assigned xs b n = ⟨true, 0, 0, rowsOf b xs n⟩ := by
  unfold i_Assigned
  rw [i_within_eq]
  simp only [letK_eq, decide_eq_true hb, decide_eq_true hb4, Bool.and_self, Bool.not_true, cond_false, decide_eq_false (show ¬ n < 0 by omega), decide_eq_false (show ¬ 4 < (xs.length : Int) by omega)]
  rw [toNat_sub0, forN_list xs _ rfl (F := fun j x a => .next (IntKind.wrap .i64 (a.1.tdiv b), a.2 ++ [⟨x, a.1.tmod b⟩])) (by
    intro j y a h
    simp only [i_Assigned_L0_f, toNat_cast, getD_some h])]
  obtain ⟨n', h⟩ := rowsOf_listN b hb hb4 (F := fun j x a => .next (IntKind.wrap .i64 (a.1.tdiv b), a.2 ++ [⟨x, a.1.tmod b⟩])) (fun _ _ _ => rfl) xs 0 n [] h0 h1
  rw [h]
  rfl
theorem rowsOf_val (b : Int) (hb : 1 ≤ b) (hb4 : b ≤ 4) : ∀ (xs : List Bytes) (n : Int), ∀ r ∈ rowsOf b xs n, 0 ≤ r.value ∧ r.value < 4
  | [], _, r, h => by simp [rowsOf] at h
  | x :: xs, n, r, h => by
    rcases List.mem_cons.1 h with rfl | h
    · have h1 := Int.emod_nonneg n (show b ≠ 0 by omega)
      have h2 := Int.emod_lt_of_pos n (show 0 < b by omega)
      exact ⟨h1, by show n % b < 4; omega⟩
    · exact rowsOf_val b hb hb4 xs _ r h
theorem rowsOf_len (b : Int) : ∀ (xs : List Bytes) (n : Int), (rowsOf b xs n).length = xs.length
  | [], _ => rfl
  | _ :: xs, _ => by simp [rowsOf, rowsOf_len b xs]
theorem lookR_rng : ∀ (rs : List MacRow) (x : Bytes), (∀ r ∈ rs, 0 ≤ r.value ∧ r.value < 4) → 0 ≤ lookR rs x ∧ lookR rs x < 4
  | [], _, _ => by simp [lookR]
  | r :: rs, x, h => by
    simp only [lookR]
    cases r.input == x with
    | true => exact h r (by simp)
    | false => exact lookR_rng rs x fun r hr => h r (by simp [hr])
theorem lookR_listN {F : Nat → MacRow → Unit → Stp Unit Int} {x : Bytes} (hF : ∀ j y, F j y () = bif y.input == x then .out ((y.value.tmod 16777216 + 16777216).tmod 16777216) else .next ()) : ∀ (rs : List MacRow) (j : Nat), (∀ r ∈ rs, 0 ≤ r.value ∧ r.value < 4) → Stp.elim (fun _ => 0) (fun w => w) (listN F j rs ()) = lookR rs x
  | [], _, _ => rfl
  | r :: rs, j, h => by
    simp only [listN, hF, lookR]
    cases r.input == x with
    | true =>
      have := h r (by simp)
      simp only [cond_true, Stp.elim]
      rw [(tmod_pos 16777216).1 this.1, (tmod_pos 16777216).1 (by omega)]
      omega
    | false => exact lookR_listN hF rs (j + 1) fun r hr => h r (by simp [hr])
theorem MacOf_rows (rs : List MacRow) (x : Bytes) (h : ∀ r ∈ rs, 0 ≤ r.value ∧ r.value < 4) : i_MacOf ⟨true, 0, 0, rs⟩ x = lookR rs x := by
  unfold i_MacOf
  simp only [Bool.not_true, cond_false]
  rw [toNat_sub0, forN_list rs _ rfl (F := fun j y _ => bif y.input == x then .out ((IntKind.wrap .i64 (y.value.tmod 16777216 + 16777216)).tmod 16777216) else .next ()) (by
    intro j y a hj
    simp only [i_MacOf_L0_f, letK_eq, toNat_cast, getD_some hj])]
  refine lookR_listN (fun j y => ?_) rs 0 h
  have := Int.tmod_lt_of_pos y.value (show (0 : Int) < 16777216 by omega)
  have h2 : -16777216 < y.value.tmod 16777216 := by
    rcases Int.lt_or_le y.value 0 with hv | hv
    · rw [(tmod_pos 16777216).2 hv]; omega
    · rw [(tmod_pos 16777216).1 hv]; omega
  rw [wrap64 (by omega) (by omega)]
/-- the digit at a place -/
theorem look_digit (b : Int) (hb : 1 ≤ b) (x : Bytes) : ∀ (xs : List Bytes), x ∈ xs → ∃ j, j < xs.length ∧ ∀ n, lookR (rowsOf b xs n) x = n / b ^ j % b
  | [], h => by cases h
  | y :: r, h => by
    cases he : y == x with
    | true => exact ⟨0, by simp, fun n => by simp [rowsOf, lookR, he]⟩
    | false =>
      have hr : x ∈ r := by
        rcases List.mem_cons.1 h with rfl | h
        · simp at he
        · exact h
      obtain ⟨j, hj, hd⟩ := look_digit b hb x r hr
      refine ⟨j + 1, by simp; omega, fun n => ?_⟩
      simp only [rowsOf, lookR, he, cond_false, hd]
      rw [Int.ediv_ediv_of_nonneg (by omega : (0 : Int) ≤ b), Int.pow_succ, Int.mul_comm b]
/-! what is asked of a guess -/
theorem hitP_eq (k : Keys) (h2 : k.two = false) (x : Issu) : hitP k x = (i_KeysOk k && (i_WordOk x.cookie 32 && (i_CookieOf k.now x.tuple x.seq k.epoch (i_CookieParts x.cookie).2.1 == x.cookie))) := by
  unfold hitP i_CheckCookie
  simp only [letK_eq]
  cases hk : i_KeysOk k with
  | false => rfl
  | true =>
    simp only [Bool.not_true, cond_false, Bool.true_and]
    cases i_WordOk x.cookie 32 with
    | false => rfl
    | true =>
      simp only [Bool.not_true, cond_false, Bool.true_and]
      have he := KeysOk_epoch k hk
      have f1 : i_SecretOf k k.epoch = (k.now, true) := by
        unfold i_SecretOf
        simp only [beq_self_eq_true, cond_true, letK_eq, i_cloneMac, g_Clone_MacRow]
      have f2 : (i_SecretOf k (k.epoch + -1)).2 = false := by
        unfold i_SecretOf
        rw [show (k.epoch + -1 == k.epoch) = false by simp; omega, h2]
        rfl
      have g1 : ∀ e, i_CheckCookie_L0_f x.seq x.cookie (i_CookieParts x.cookie).2.1 k.epoch k.now.use k.now.k k.now.l k.now.rows k.before.use k.before.k k.before.l k.before.rows k.two x.tuple.ip x.tuple.port x.tuple.my e () = bif (i_SecretOf k e).2 then (bif (i_CookieOf (i_SecretOf k e).1 x.tuple x.seq e (i_CookieParts x.cookie).2.1 == x.cookie) then .out e else .next ()) else .next () := fun e => by
        simp only [i_CheckCookie_L0_f, letK_eq]
      rw [wrap64 (by omega) (by omega)]
      rcases (show k.epoch = 0 ∨ 1 ≤ k.epoch by omega) with h | h
      · rw [if_neg (by omega), show Int.toNat (k.epoch - 0 + 1) = 1 by omega]
        simp only [forN, g1, f1, cond_true]
        cases (i_CookieOf k.now x.tuple x.seq k.epoch (i_CookieParts x.cookie).2.1 == x.cookie) <;> rfl
      · rw [show Int.toNat (k.epoch - (if 0 < k.epoch - 1 then k.epoch - 1 else 0) + 1) = 2 by split <;> omega]
        simp only [forN, g1, f1, f2, cond_true, cond_false]
        cases (i_CookieOf k.now x.tuple x.seq k.epoch (i_CookieParts x.cookie).2.1 == x.cookie) <;> rfl
theorem CookieOf_eq (m : Mac) (t : Tupl) (a e i : Int) (he : 0 ≤ e) (hi : 0 ≤ i) (hi7 : i ≤ 7) (hm : 0 ≤ i_MacOf m (i_MacInput t a e i) ∧ i_MacOf m (i_MacInput t a e i) < 16777216) :
    i_CookieOf m t a e i = bif i_MacInput t a e i == [] then -1 else e % 32 * 134217728 + i * 16777216 + i_MacOf m (i_MacInput t a e i) := by
  unfold i_CookieOf
  simp only [letK_eq]
  cases (i_MacInput t a e i == ([] : Bytes)) with
  | true => rfl
  | false =>
    simp only [cond_false]
    rw [(tmod_pos 32).1 he, wrap64 (m := e % 32 * 134217728) (by omega) (by omega), wrap64 (m := i * 16777216) (by omega) (by omega), wrap64 (m := e % 32 * 134217728 + i * 16777216) (by omega) (by omega), wrap64 (by omega) (by omega)]
theorem CookieParts_eq (x : Int) (h : i_WordOk x 32 = true) : i_CookieParts x = (x / 134217728, x / 16777216 % 8, x % 16777216) ∧ 0 ≤ x ∧ x ≤ 4294967295 := by
  have hd := h
  rw [WordOk32] at hd
  simp only [Bool.and_eq_true, decide_eq_true_eq] at hd
  refine ⟨?_, hd⟩
  unfold i_CookieParts
  simp only [letK_eq, h, Bool.not_true, cond_false]
  rw [(tdiv_pos 134217728).1 hd.1, (tdiv_pos 16777216).1 hd.1, wrap64 (by omega) (by omega), wrap64 (by omega) (by omega), (tmod_pos 8).1 (by omega), (tmod_pos 16777216).1 hd.1]
/-- a guess's input -/
def inpOf (e : Int) (x : Issu) : Bytes := i_MacInput x.tuple x.seq e (i_CookieParts x.cookie).2.1
theorem contains_any (xs : List Bytes) (x : Bytes) : g_Contains_string xs x = xs.any (fun y => y == x) := by
  rw [← q_l1Has]
  unfold s_l1Has
  let p : Bytes → Bool := fun y => y == x
  rw [toNat_sub0, forN_list xs _ rfl (F := fun j y a => bif p y then .out () else .next ()) (by
    intro j y a h
    simp only [s_l1Has_L0_f, letK_eq, toNat_cast, getD_some h, p])]
  rw [listN_find (w := fun _ _ => ())]
  cases h : xs.findIdx? p with
  | none =>
    rw [List.findIdx?_eq_none_iff] at h
    simp only [Stp.elim]
    symm
    rw [List.any_eq_false]
    intro y hy
    have := h y hy
    simp only [p] at this
    simp [this]
  | some i =>
    obtain ⟨h1, h2, _⟩ := List.findIdx?_eq_some_iff_getElem.1 h
    simp only [List.getElem?_eq_getElem h1, Stp.elim]
    symm
    rw [List.any_eq_true]; exact ⟨xs[i], List.getElem_mem h1, h2⟩
def guessN (e : Int) : List Issu → List Bytes → List Bytes
  | [], a => a
  | x :: r, a => guessN e r (bif (inpOf e x == []) || a.any (fun y => y == inpOf e x) then a else a ++ [inpOf e x])
theorem guess_listN (e : Int) {F : Nat → Issu → List Bytes → Stp (List Bytes) Empty} (hF : ∀ j x a, F j x a = .next (bif (inpOf e x == []) || a.any (fun y => y == inpOf e x) then a else a ++ [inpOf e x])) : ∀ (xs : List Issu) (j : Nat) (a : List Bytes), listN F j xs a = .next (guessN e xs a)
  | [], _, _ => rfl
  | x :: r, j, a => by simp only [listN, hF, Stp.elim, guessN]; exact guess_listN e hF r (j + 1) _
theorem GuessInputs_eq (e : Int) (xs : List Issu) : i_GuessInputs e xs = guessN e xs [] := by
  unfold i_GuessInputs
  rw [toNat_sub0, forN_list xs _ rfl (F := fun _ x a => .next (bif (inpOf e x == []) || a.any (fun y => y == inpOf e x) then a else a ++ [inpOf e x])) (by
    intro j y a h
    simp only [i_GuessInputs_L0_f, letK_eq, toNat_cast, getD_some h, contains_any]
    show (bif !(inpOf e y == []) then _ else _) = _
    unfold inpOf
    cases (i_MacInput y.tuple y.seq e (i_CookieParts y.cookie).2.1 == ([] : Bytes)) <;> cases a.any (fun z => z == i_MacInput y.tuple y.seq e (i_CookieParts y.cookie).2.1) <;> rfl)]
  rw [guess_listN e (fun _ _ _ => rfl)]
  rfl
theorem guess_mono (e : Int) : ∀ (xs : List Issu) (a : List Bytes) (y : Bytes), y ∈ a → y ∈ guessN e xs a
  | [], _, _, h => h
  | x :: r, a, y, h => by
    simp only [guessN]
    refine guess_mono e r _ y ?_
    cases ((inpOf e x == []) || a.any (fun y => y == inpOf e x)) with
    | true => exact h
    | false => exact List.mem_append_left _ h
theorem guess_mem (e : Int) : ∀ (xs : List Issu) (a : List Bytes) (x : Issu), x ∈ xs → inpOf e x ≠ [] → inpOf e x ∈ guessN e xs a
  | [], _, _, h, _ => by cases h
  | z :: r, a, x, h, hn => by
    simp only [guessN]
    rcases List.mem_cons.1 h with rfl | h
    · refine guess_mono e r _ _ ?_
      have e1 : (inpOf e x == ([] : Bytes)) = false := by simpa using hn
      rw [e1, Bool.false_or]
      cases ha : a.any (fun y => y == inpOf e x) with
      | true =>
        rw [List.any_eq_true] at ha
        obtain ⟨y, hy, he⟩ := ha
        rw [← eq_of_beq he]; exact hy
      | false => exact List.mem_append_right _ (by simp)
    · exact guess_mem e r _ x h hn
/-! counting -/
def cnt (p : Int → Bool) : Nat → Int → Int
  | 0, _ => 0
  | k + 1, i => (bif p i then 1 else 0) + cnt p k (i + 1)
theorem cnt_rng (p : Int → Bool) : ∀ k i, 0 ≤ cnt p k i ∧ cnt p k i ≤ k
  | 0, _ => by simp [cnt]
  | k + 1, i => by
    have := cnt_rng p k (i + 1)
    simp only [cnt]
    cases p i <;> simp only [cond_true, cond_false] <;> omega
theorem cnt_forN {f : Int → Int → Stp Int Empty} {p : Int → Bool} : ∀ (k : Nat) (i a : Int), (∀ j : Nat, j < k → ∀ a, f (i + j) a = bif p (i + j) then .next (IntKind.wrap .i64 (a + 1)) else .next a) → 0 ≤ a → a + k ≤ 4611686018427387904 → forN f 1 k i a = .next (a + cnt p k i)
  | 0, _, a, _, _, _ => by simp [forN, cnt]
  | k + 1, i, a, hf, h0, h1 => by
    have e := hf 0 (by omega) a
    simp only [Int.natCast_zero, Int.add_zero] at e
    have hs : ∀ j : Nat, j < k → ∀ a, f (i + 1 + j) a = bif p (i + 1 + j) then .next (IntKind.wrap .i64 (a + 1)) else .next a := fun j hj a => by
      have := hf (j + 1) (by omega) a
      rwa [show i + ((j + 1 : Nat) : Int) = i + 1 + (j : Int) by omega] at this
    simp only [forN, e, cnt]
    cases p i with
    | true =>
      simp only [cond_true, Stp.elim]
      rw [wrap64 (by omega) (by omega), cnt_forN k (i + 1) (a + 1) hs (by omega) (by omega), Int.add_assoc]
    | false =>
      simp only [cond_false, Stp.elim]
      rw [cnt_forN k (i + 1) a hs h0 (by omega), Int.zero_add]
theorem cnt_le {p q : Int → Bool} : ∀ (k : Nat) (i : Int), (∀ j : Nat, j < k → p (i + j) = true → q (i + j) = true) → cnt p k i ≤ cnt q k i
  | 0, _, _ => Int.le_refl _
  | k + 1, i, h => by
    have e := h 0 (by omega)
    simp only [Int.natCast_zero, Int.add_zero] at e
    have hs := cnt_le (p := p) (q := q) k (i + 1) fun j hj hp => by
      have := h (j + 1) (by omega)
      rw [show i + ((j + 1 : Nat) : Int) = i + 1 + (j : Int) by omega] at this
      exact this hp
    simp only [cnt]
    cases hp : p i with
    | true => rw [e hp]; simp only [cond_true]; omega
    | false => cases q i <;> simp only [cond_true, cond_false] <;> omega
theorem cnt_or (p q : Int → Bool) : ∀ (k : Nat) (i : Int), cnt (fun n => p n || q n) k i ≤ cnt p k i + cnt q k i
  | 0, _ => by simp [cnt]
  | k + 1, i => by
    have := cnt_or p q k (i + 1)
    simp only [cnt]
    cases p i <;> cases q i <;> simp only [Bool.or_false, Bool.or_true, cond_true, cond_false] <;> omega
theorem cnt_false (k : Nat) : ∀ i, cnt (fun _ => false) k i = 0 := by
  induction k with
  | zero => intro i; rfl
  | succ k ih => intro i; simp only [cnt, ih]; rfl
theorem cnt_any {α : Type} {p : Int → α → Bool} {b : Int} (hb : 0 ≤ b) (k : Nat) (T : Int) : ∀ (xs : List α), (∀ x ∈ xs, cnt (fun n => p n x) k 0 * b ≤ T) → cnt (fun n => xs.any (p n)) k 0 * b ≤ xs.length * T
  | [], _ => by simp [cnt_false]
  | x :: r, h => by
    have h1 := cnt_any (p := p) hb k T r fun y hy => h y (by simp [hy])
    have h2 := h x (by simp)
    have h3 := cnt_or (fun n => p n x) (fun n => r.any (p n)) k 0
    have e : (fun n => (x :: r).any (p n)) = fun n => p n x || r.any (p n) := by funext n; rfl
    rw [e]
    have h4 : cnt (fun n => p n x || r.any (p n)) k 0 * b ≤ (cnt (fun n => p n x) k 0 + cnt (fun n => r.any (p n)) k 0) * b := Int.mul_le_mul_of_nonneg_right h3 hb
    rw [Int.add_mul] at h4
    rw [List.length_cons, show ((r.length + 1 : Nat) : Int) = (r.length : Int) + 1 by omega, Int.add_mul, Int.one_mul]
    omega
theorem cnt_dig : ∀ b : Nat, b < 5 → ∀ k : Nat, k < 5 → ∀ j : Nat, j < k → ∀ c : Nat, c < b → cnt (fun n => n / (b : Int) ^ j % b == (c : Int)) (b ^ k) 0 * b ≤ (b : Int) ^ k := by decide +kernel

def mulN (b : Int) : Nat → Int → Int
  | 0, a => a
  | k + 1, a => mulN b k (IntKind.wrap .i64 (a * b))
theorem mul_forN (b : Int) {f : Int → Int → Stp Int Empty} (hf : ∀ i a, f i a = .next (IntKind.wrap .i64 (a * b))) : ∀ (k : Nat) (i a : Int), forN f 1 k i a = .next (mulN b k a)
  | 0, _, _ => rfl
  | k + 1, i, a => by simp only [forN, hf, Stp.elim, mulN]; exact mul_forN b hf k _ _
theorem mulN_pow : ∀ b : Nat, b < 5 → ∀ k : Nat, k < 5 → mulN (b : Int) k 1 = ((b ^ k : Nat) : Int) ∧ b ^ k ≤ 256 ∧ (1 ≤ b → 1 ≤ b ^ k) := by decide +kernel
def shareK (e b : Int) (xs : List Issu) (n : Int) : Keys := ⟨e, ⟨true, 0, 0, rowsOf b (guessN e xs []) n⟩, ⟨false, 0, 0, []⟩, false⟩
theorem guess_len (e : Int) (xs : List Issu) : (guessN e xs []).length ≤ xs.length := by rw [← GuessInputs_eq]; exact GuessInputs_len e xs
theorem ShareOf_eq (e : Int) (xs : List Issu) (b : Nat) (hb : 1 ≤ b) (hb4 : b ≤ 4) (he : i_WordOk e 32 = true) (hl : xs.length ≤ 4) :
    i_ShareOf e xs b = (cnt (fun n => xs.any (hitP (shareK e b xs n))) (b ^ (guessN e xs []).length) 0, ((b ^ (guessN e xs []).length : Nat) : Int)) := by
  have hk := guess_len e xs
  have hg : i_GuessInputs e xs = guessN e xs [] := GuessInputs_eq e xs
  unfold i_ShareOf
  rw [i_within_eq]
  simp only [letK_eq, decide_eq_false (show ¬ 4 < (xs.length : Int) by omega), decide_eq_true (show 1 ≤ (b : Int) by omega), decide_eq_true (show (b : Int) ≤ 4 by omega), Bool.and_self, he, hg, Bool.not_true, cond_false]
  unfold shareK
  generalize guessN e xs [] = g at hk
  rw [toNat_sub0, mul_forN (b : Int) (f := i_ShareOf_L0_f e xs b (g.length : Int) g) (fun i a => rfl)]
  obtain ⟨h1, h2, _⟩ := mulN_pow b (by omega) g.length (by omega)
  simp only [Stp.elim, h1]
  rw [show Int.toNat (((b ^ g.length : Nat) : Int) - 0) = b ^ g.length by rw [Int.sub_zero, Int.toNat_natCast]]
  rw [cnt_forN (p := fun n => xs.any (hitP ⟨e, ⟨true, 0, 0, rowsOf b g n⟩, ⟨false, 0, 0, []⟩, false⟩)) (b ^ g.length) 0 0 ?_ (by omega) (by omega)]
  · simp only [Int.zero_add]
  · intro j hj a
    simp only [i_ShareOf_L1_f, letK_eq, i_HitBy_any]
    rw [Assigned_eq g b (0 + (j : Int)) (by omega) (by omega) (by omega) (by omega) (by omega)]
theorem cookie_word {x : Int} (h : i_WordOk x 32 = true) : 0 ≤ x := by
  rw [WordOk32] at h
  simp only [Bool.and_eq_true, decide_eq_true_eq] at h
  exact h.1
theorem CookieOf_rows (e b : Int) (hb : 1 ≤ b) (hb4 : b ≤ 4) (he : 0 ≤ e) (g : List Bytes) (n : Int) (x : Issu) (hc : i_WordOk x.cookie 32 = true) :
    i_CookieOf ⟨true, 0, 0, rowsOf b g n⟩ x.tuple x.seq e (i_CookieParts x.cookie).2.1 = bif inpOf e x == [] then -1 else e % 32 * 134217728 + (i_CookieParts x.cookie).2.1 * 16777216 + lookR (rowsOf b g n) (inpOf e x) := by
  have hr := rowsOf_val b hb hb4 g n
  have hl := lookR_rng (rowsOf b g n) (inpOf e x) hr
  have hp := (CookieParts_eq x.cookie hc).1
  rw [CookieOf_eq _ _ _ _ _ he (by rw [hp]; simp only []; omega) (by rw [hp]; simp only []; omega) (by rw [MacOf_rows _ _ hr]; unfold inpOf at hl; omega), MacOf_rows _ _ hr]
  rfl
theorem hit_digit (e b : Int) (hb : 1 ≤ b) (hb4 : b ≤ 4) (he : 0 ≤ e) (xs : List Issu) (x : Issu) (hx : x ∈ xs) :
    (∀ n, hitP (shareK e b xs n) x = false) ∨ ∃ j, j < (guessN e xs []).length ∧ ∃ c : Int, ∀ n, hitP (shareK e b xs n) x = true → (n / b ^ j % b == c) = true := by
  cases hc : i_WordOk x.cookie 32 with
  | false => exact .inl fun n => by rw [hitP_eq _ rfl, hc]; simp
  | true =>
    by_cases hi : inpOf e x = []
    · refine .inl fun n => ?_
      rw [hitP_eq _ rfl]
      show (_ && (_ && (i_CookieOf ⟨true, 0, 0, rowsOf b (guessN e xs []) n⟩ x.tuple x.seq e _ == x.cookie))) = false
      rw [CookieOf_rows e b hb hb4 he _ n x hc, hi]
      have := cookie_word hc
      rw [show ((bif (([] : Bytes) == []) then (-1 : Int) else e % 32 * 134217728 + (i_CookieParts x.cookie).2.1 * 16777216 + lookR (rowsOf b (guessN e xs []) n) []) == x.cookie) = false by simp; omega]
      simp
    · obtain ⟨j, hj, hd⟩ := look_digit b hb (inpOf e x) _ (guess_mem e xs [] x hx hi)
      refine .inr ⟨j, hj, x.cookie - e % 32 * 134217728 - (i_CookieParts x.cookie).2.1 * 16777216, fun n hn => ?_⟩
      rw [hitP_eq _ rfl] at hn
      simp only [Bool.and_eq_true] at hn
      have h2 : (i_CookieOf ⟨true, 0, 0, rowsOf b (guessN e xs []) n⟩ x.tuple x.seq e (i_CookieParts x.cookie).2.1 == x.cookie) = true := hn.2.2
      rw [CookieOf_rows e b hb hb4 he _ n x hc, show (inpOf e x == ([] : Bytes)) = false by simpa using hi, cond_false, hd] at h2
      simp only [beq_iff_eq] at h2 ⊢
      omega
theorem share_one (e : Int) (b : Nat) (hb : 1 ≤ b) (hb4 : b ≤ 4) (he : 0 ≤ e) (xs : List Issu) (hl : xs.length ≤ 4) (x : Issu) (hx : x ∈ xs) :
    cnt (fun n => hitP (shareK e b xs n) x) (b ^ (guessN e xs []).length) 0 * b ≤ ((b ^ (guessN e xs []).length : Nat) : Int) := by
  have hk := guess_len e xs
  have hp := (mulN_pow b (by omega) (guessN e xs []).length (by omega)).2.2 hb
  rcases hit_digit e b (by omega) (by omega) he xs x hx with h | ⟨j, hj, c, h⟩
  · simp only [h, cnt_false]
    omega
  · have h1 := cnt_le (p := fun n => hitP (shareK e b xs n) x) (q := fun n => n / (b : Int) ^ j % b == c) (b ^ (guessN e xs []).length) 0 fun q _ hq => h _ hq
    by_cases hcr : 0 ≤ c ∧ c < b
    · have h2 := cnt_dig b (by omega) (guessN e xs []).length (by omega) j hj c.toNat (by omega)
      rw [show ((c.toNat : Nat) : Int) = c by omega] at h2
      have h3 := Int.mul_le_mul_of_nonneg_right h1 (show (0 : Int) ≤ b by omega)
      rw [Int.natCast_pow]
      omega
    · have h2 : cnt (fun n => n / (b : Int) ^ j % b == c) (b ^ (guessN e xs []).length) 0 ≤ 0 := by
        refine Int.le_trans (cnt_le (q := fun _ => false) _ _ fun q _ hq => ?_) (Int.le_of_eq (cnt_false _ 0))
        simp only [beq_iff_eq] at hq
        have g2 := Int.emod_nonneg ((0 + (q : Int)) / (b : Int) ^ j) (show (b : Int) ≠ 0 by omega)
        have g3 := Int.emod_lt_of_pos ((0 + (q : Int)) / (b : Int) ^ j) (show (0 : Int) < b by omega)
        omega
      have h0 := (cnt_rng (fun n => hitP (shareK e b xs n) x) (b ^ (guessN e xs []).length) 0).1
      have : cnt (fun n => hitP (shareK e b xs n) x) (b ^ (guessN e xs []).length) 0 = 0 := by omega
      rw [this]
      omega
theorem ShareOf_none (e : Int) (xs : List Issu) (b : Int) (h : ¬ (xs.length ≤ 4 ∧ 1 ≤ b ∧ b ≤ 4 ∧ i_WordOk e 32 = true)) : i_ShareOf e xs b = (0, 0) := by
  unfold i_ShareOf
  rw [i_within_eq]
  simp only [letK_eq]
  cases h1 : decide (4 < (xs.length : Int)) with
  | true => rfl
  | false =>
    cases h2 : (decide (1 ≤ b) && decide (b ≤ 4)) with
    | false => rfl
    | true =>
      cases h3 : i_WordOk e 32 with
      | false => rfl
      | true =>
        exfalso
        simp only [decide_eq_false_iff_not, Bool.and_eq_true, decide_eq_true_eq] at h1 h2
        exact h ⟨by omega, h2.1, h2.2, h3⟩
theorem t_FnShare (x : List Int) : w_FnShare x = true := by
  unfold w_FnShare
  simp only [letK_eq, q_ShareOf, bne_self_eq_false, cond_false]
  cases w_big x with
  | true => rfl
  | false =>
    simp only [cond_false]
    generalize s_DrawShareOf x = d
    obtain ⟨e, xs, b⟩ := d
    simp only []
    by_cases hv : xs.length ≤ 4 ∧ 1 ≤ b ∧ b ≤ 4 ∧ i_WordOk e 32 = true
    · obtain ⟨hl, hb, hb4, he⟩ := hv
      obtain ⟨b, rfl⟩ := Int.eq_ofNat_of_zero_le (by omega : 0 ≤ b)
      have hb : 1 ≤ b := by omega
      have hb4 : b ≤ 4 := by omega
      have hk := guess_len e xs
      obtain ⟨_, hp2, hp⟩ := mulN_pow b (by omega) (guessN e xs []).length (by omega)
      have hp := hp hb
      have he0 : 0 ≤ e := cookie_word he
      rw [ShareOf_eq e xs b hb hb4 he hl]
      simp only []
      have h1 := cnt_any (p := fun n => hitP (shareK e b xs n)) (b := (b : Int)) (by omega) (b ^ (guessN e xs []).length) _ xs fun x hx => share_one e b hb hb4 he0 xs hl x hx
      have h2 := cnt_rng (fun n => xs.any (hitP (shareK e b xs n))) (b ^ (guessN e xs []).length) 0
      generalize cnt (fun n => xs.any (hitP (shareK e b xs n))) (b ^ (guessN e xs []).length) 0 = c at h1 h2
      generalize b ^ (guessN e xs []).length = T at *
      have h3 : 0 ≤ c * b ∧ c * b ≤ 256 * 4 := ⟨Int.mul_nonneg h2.1 (by omega), by
        have := Int.mul_le_mul (show c ≤ 256 by omega) (show (b : Int) ≤ 4 by omega) (by omega) (by omega)
        omega⟩
      have h4 : (xs.length : Int) * T ≤ 4 * 256 := Int.mul_le_mul (by omega) (by omega) (by omega) (by omega)
      have h5 : 0 ≤ (xs.length : Int) * T := Int.mul_nonneg (by omega) (by omega)
      rw [wrap64 (m := c * b) (by omega) (by omega), wrap64 (by omega) (by omega)]
      simp only [decide_eq_true h1, decide_eq_true h2.1, decide_eq_true h2.2, cond_true, show ((T : Int) == 0) = false by simp; omega, cond_false]
    · rw [ShareOf_none e xs b hv]; rfl

theorem MacOk_one (i : Bytes) (v : Int) (h0 : 0 ≤ v) (h4 : v < 4) : i_MacOk ⟨true, 0, 0, [⟨i, v⟩]⟩ = true := by
  unfold i_MacOk
  simp only [List.length_cons, List.length_nil, Bool.not_true, cond_false, show ((0 : Int) != 0) = false from rfl, show decide (64 < ((0 + 1 : Nat) : Int)) = false from rfl, show Int.toNat (((0 + 1 : Nat) : Int) - 0) = 1 from rfl, forN]
  have e : i_MacOk_L0_f [⟨i, v⟩] ((0 + 1 : Nat) : Int) true 0 0 [⟨i, v⟩] 0 () = .next () := by
    unfold i_MacOk_L0_f
    simp only [letK_eq, i_within_eq, show Int.toNat 0 = 0 from rfl, List.getD_cons_zero, decide_eq_true h0, decide_eq_true (show v ≤ 16777215 by omega), Bool.and_self, Bool.not_true, cond_false, List.take_zero, List.drop_zero]
    rfl
  rw [e]
  rfl
theorem KeysOk_one (e : Int) (i : Bytes) (v : Int) (h0 : 0 ≤ v) (h4 : v < 4) (he : i_WordOk e 32 = true) : i_KeysOk ⟨e, ⟨true, 0, 0, [⟨i, v⟩]⟩, ⟨false, 0, 0, []⟩, false⟩ = true := by
  have he' := he
  rw [WordOk32] at he'
  unfold i_KeysOk
  simp only [letK_eq, i_within_eq, he', MacOk_one i v h0 h4, cond_true, cond_false]
  decide +kernel
theorem cnt_eq (m : Int) : ∀ b : Nat, b < 5 → 1 ≤ b → ∀ p : Bool, cnt (fun n => p && (n % (b : Int) == m)) b 0 = bif p && decide (0 ≤ m) && decide (m < b) then 1 else 0 := by
  intro b hb h1 p
  cases p with
  | false => simp only [Bool.false_and, cond_false]; exact cnt_false _ _
  | true =>
    simp only [Bool.true_and]
    by_cases hm : 0 ≤ m ∧ m < b
    · rw [decide_eq_true hm.1, decide_eq_true hm.2]
      have key : ∀ b : Nat, b < 5 → ∀ m : Nat, m < b → cnt (fun n => n % (b : Int) == (m : Int)) b 0 = 1 := by decide +kernel
      have := key b hb m.toNat (by omega)
      rwa [show ((m.toNat : Nat) : Int) = m by omega] at this
    · rw [show (decide (0 ≤ m) && decide (m < (b : Int))) = false by simp; omega]
      have h2 : cnt (fun n => n % (b : Int) == m) b 0 ≤ 0 := by
        refine Int.le_trans (cnt_le (q := fun _ => false) _ _ fun q _ hq => ?_) (Int.le_of_eq (cnt_false _ 0))
        simp only [beq_iff_eq] at hq
        have g2 := Int.emod_nonneg (0 + (q : Int)) (show (b : Int) ≠ 0 by omega)
        have g3 := Int.emod_lt_of_pos (0 + (q : Int)) (show (0 : Int) < b by omega)
        omega
      have h0 := (cnt_rng (fun n => n % (b : Int) == m) b 0).1
      simp only [cond_false]
      omega
theorem hit_one (e : Int) (b : Nat) (hb : 1 ≤ b) (hb4 : b ≤ 4) (he : i_WordOk e 32 = true) (x : Issu) (n : Int) :
    hitP (shareK e b [x] n) x = ((!(inpOf e x == []) && (i_WordOk x.cookie 32 && (x.cookie / 134217728 == e % 32))) && (n % (b : Int) == x.cookie % 16777216)) := by
  rw [hitP_eq _ rfl]
  have he0 : 0 ≤ e := cookie_word he
  have g2 := Int.emod_nonneg n (show (b : Int) ≠ 0 by omega)
  have g3 := Int.emod_lt_of_pos n (show (0 : Int) < b by omega)
  cases hc : i_WordOk x.cookie 32 with
  | false => simp
  | true =>
    obtain ⟨hp, hx0, hx1⟩ := CookieParts_eq x.cookie hc
    have hco := CookieOf_rows e b (by omega) (by omega) he0 (guessN e [x] []) n x hc
    show (i_KeysOk (shareK e b [x] n) && (true && (i_CookieOf ⟨true, 0, 0, rowsOf b (guessN e [x] []) n⟩ x.tuple x.seq e (i_CookieParts x.cookie).2.1 == x.cookie))) = _
    rw [hco]
    cases hi : (inpOf e x == ([] : Bytes)) with
    | true =>
      rw [show ((bif true then (-1 : Int) else e % 32 * 134217728 + (i_CookieParts x.cookie).2.1 * 16777216 + lookR (rowsOf (b : Int) (guessN e [x] []) n) (inpOf e x)) == x.cookie) = false by simp; omega]
      simp
    | false =>
      have hg : guessN e [x] [] = [inpOf e x] := by simp [guessN, hi]
      have hk : i_KeysOk (shareK e b [x] n) = true := by
        unfold shareK
        rw [hg]
        exact KeysOk_one e (inpOf e x) (n % b) g2 (by omega) he
      rw [hk, hg]
      simp only [rowsOf, lookR, beq_self_eq_true, cond_true, cond_false, hp, Bool.true_and, Bool.not_false]
      rw [Bool.eq_iff_iff]
      simp only [beq_iff_eq, Bool.and_eq_true]
      generalize n % (b : Int) = v at *
      omega
theorem t_FnShareOne (x : List Int) : w_FnShareOne x = true := by
  unfold w_FnShareOne
  simp only [letK_eq, q_ShareOf, q_WordOk, q_CookieParts, beq_self_eq_true, cond_true]
  cases w_big x with
  | true => rfl
  | false =>
    simp only [cond_false]
    generalize s_DrawShareOf x = d
    obtain ⟨e, xs, b⟩ := d
    simp only []
    cases xs with
    | nil => rfl
    | cons y ys =>
      rw [show (((y :: ys).length : Int) == 0) = false by simp; omega]
      simp only [cond_false, List.take_succ_cons, List.take_zero, List.drop_zero, List.getD_cons_zero]
      cases h1 : decide (b < 1) with
      | true => rfl
      | false =>
        cases h2 : decide (4 < b) with
        | true => rfl
        | false =>
          cases he : i_WordOk e 32 with
          | false => rfl
          | true =>
            simp only [cond_false, Bool.not_true]
            simp only [decide_eq_false_iff_not] at h1 h2
            obtain ⟨b, rfl⟩ := Int.eq_ofNat_of_zero_le (by omega : 0 ≤ b)
            have hb : 1 ≤ b := by omega
            have hb4 : b ≤ 4 := by omega
            have he0 : 0 ≤ e := cookie_word he
            rw [ShareOf_eq e [y] b hb hb4 he (by simp), GuessInputs_eq]
            simp only [List.any_cons, List.any_nil, Bool.or_false, hit_one e b hb hb4 he y]
            cases hi : (inpOf e y == ([] : Bytes)) with
            | true =>
              have hg : guessN e [y] [] = [] := by simp [guessN, hi]
              simp only [hg, Bool.not_true, Bool.false_and, cnt_false]
              rfl
            | false =>
              have hg : guessN e [y] [] = [inpOf e y] := by simp [guessN, hi]
              rw [(tmod_pos 32).1 he0]
              have hw : i_WordOk y.cookie 32 = true := by
                cases hw : i_WordOk y.cookie 32 with
                | true => rfl
                | false =>
                  exfalso
                  have : inpOf e y = [] := by
                    unfold inpOf i_CookieParts i_MacInput
                    simp only [letK_eq, hw, Bool.not_false, cond_true, i_within_eq]
                    cases i_TupleOk y.tuple <;> cases i_WordOk y.seq 32 <;> cases i_WordOk e 32 <;> rfl
                  simp [this] at hi
              obtain ⟨hp, hx0, hx1⟩ := CookieParts_eq y.cookie hw
              simp only [hg, List.length_cons, List.length_nil, hp, Bool.not_false, Bool.true_and, hw, Nat.zero_add, Nat.pow_one, cnt_eq _ b (by omega) hb, show (((1 : Nat) : Int) == 0) = false from rfl, cond_false]
              rw [show decide (0 ≤ y.cookie % 16777216) = true by simp; omega]
              cases (y.cookie / 134217728 == e % 32) <;> cases decide (y.cookie % 16777216 < (b : Int)) <;> simp

end Go.Proofs.Ythlhmhlphnjjkaa
