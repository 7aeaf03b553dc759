/-
  Contracts of functions and plain laws (printed by a program): each theorem says what a function of the program returns; conditions are its hypotheses.
-/
import Derived.Test.YthlhmhlphnjjkaaBase
set_option maxRecDepth 4000
set_option linter.unusedVariables false
set_option linter.unusedSimpArgs false
namespace Go.Proofs.Ythlhmhlphnjjkaa
open Go Go.RowKit

/-- laws.big -/
def w_big_N (x0 : List Int) (γ : Type) (fail : γ) (k : Bool → γ) : γ :=
  k (decide (1048576 < (x0.length : Int)))
def w_big (x0 : List Int) : Bool :=
  (decide (1048576 < (x0.length : Int)))
theorem w_big_lk (x0 : List Int) : evalFn te (orcOf (P := Try.prog) []) lorc0 [] Try.f21 (pvs [.sc (.sl .u8)] (x0, ())) =
  w_big_N x0 _ none (fun v => some [(false, [RC.c (.bool v)])]) := by kernel_rfl
theorem w_big_p (x0 : List Int)   (γ : Type) (fail : γ) (k : Bool → γ) : w_big_N x0 γ fail k = k (w_big x0) := by
  unfold w_big_N w_big
  exact rfl
theorem w_big_c (x0 : List Int)  : Con Try.prog 21 (pvs [.sc (.sl .u8)] (x0, ())) [rv (.sc .bool) [] (w_big x0)] := by
  exact evalFn_con0 teFact mixFact (orcOf_ok _) Try.func21 (by kernel_rfl) ((w_big_lk x0).trans (w_big_p x0  _ _ _))
noncomputable def w_big_e : Ent1 Try.prog := entA 21 [.sc (.sl .u8)] (fun x => (w_big x.1)) (fun v => [rv (.sc .bool) [] v]) (fun x => w_big_c x.1)


/-- spec.SameMac -/
def s_SameMac_ann : List (Nat × Keep) := [(0, ⟨[2, 3, 5], [], false, 0⟩)]
def s_SameMac_L0_sh : Sh := ⟨[(2, false, [.ptr 0 0]), (3, false, [.ptr 1 0]), (5, false, [.int .i64])], [.box [.bool, .int .u64, .int .u64, .sl .arg .macRow], .box [.bool, .int .u64, .int .u64, .sl .arg .macRow]]⟩
def s_SameMac_L0_es : List (Ex × Sh) := [(.ret, ⟨[(4, false, [.bool])], []⟩), (.exit 0, ⟨[(4, false, [.undef])], []⟩)]
def s_SameMac_L0_mk (v0 : Int) (v1 : Bool) (v2 : Int) (v3 : Int) (v4 : List MacRow) (v5 : Bool) (v6 : Int) (v7 : Int) (v8 : List MacRow) : s_SameMac_L0_sh.T := ((((), ()), (((), ()), ((v0, ()), ()))), ((v1, (v2, (v3, (v4, ())))), ((v5, (v6, (v7, (v8, ())))), ())))
def s_SameMac_L0_mx0 (y0 : Bool) : Sh.T ⟨[(4, false, [.bool])], []⟩ := (((y0, ()), ()), ())
def s_SameMac_L0_mx1  : Sh.T ⟨[(4, false, [.undef])], []⟩ := ((((), ()), ()), ())
def s_SameMac_L0_B (v0 : Int) (v1 : Bool) (v2 : Int) (v3 : Int) (v4 : List MacRow) (v5 : Bool) (v6 : Int) (v7 : Int) (v8 : List MacRow) (γ : Type) (fail : γ) (next : s_SameMac_L0_sh.T → γ) (out : WT s_SameMac_L0_es → γ) : γ :=
  bif (decide (v0 < (v4.length : Int))) then
    bif ((decide (0 ≤ v0)) && (decide (v0 < (v4.length : Int)))) then
    bif ((decide (0 ≤ v0)) && (decide (v0 < (v8.length : Int)))) then
    bif (!(((v4.getD v0.toNat (Ty.zero .macRow)).input == (v8.getD v0.toNat (Ty.zero .macRow)).input) && (((v4.getD v0.toNat (Ty.zero .macRow)).value == (v8.getD v0.toNat (Ty.zero .macRow)).value) && true))) then
      out (Sum.inl (s_SameMac_L0_mx0 false))
    else
    next (s_SameMac_L0_mk (IntKind.wrap .i64 (v0 + 1)) v1 v2 v3 v4 v5 v6 v7 v8)
    else fail
    else fail
  else
  out (Sum.inr (s_SameMac_L0_mx1 ))
theorem s_SameMac_L0_par (v0 : Int) (v1 : Bool) (v2 : Int) (v3 : Int) (v4 : List MacRow) (v5 : Bool) (v6 : Int) (v7 : Int) (v8 : List MacRow) (γ : Type) (fail : γ) (next : s_SameMac_L0_sh.T → γ) (out : WT s_SameMac_L0_es → γ) : s_SameMac_L0_B v0 v1 v2 v3 v4 v5 v6 v7 v8 γ fail next out = optK (s_SameMac_L0_B v0 v1 v2 v3 v4 v5 v6 v7 v8 _ none (fun v' => some (.inl v')) (fun w => some (.inr w))) fail (fun r => Sum.elim next out r) := by
  unfold s_SameMac_L0_B
  exact bifT (f := (fun o => optK o fail (fun r => Sum.elim next out r))) (fun _ => bifT (f := (fun o => optK o fail (fun r => Sum.elim next out r))) (fun _ => bifT (f := (fun o => optK o fail (fun r => Sum.elim next out r))) (fun _ => bifT (f := (fun o => optK o fail (fun r => Sum.elim next out r))) (fun _ => rfl)
      (fun _ => rfl)) (fun _ => rfl)) (fun _ => rfl))
      (fun _ => rfl)
def s_SameMac_L0_r : Round s_SameMac_L0_sh.T (WT s_SameMac_L0_es) where
  B v γ fail next out := s_SameMac_L0_B v.1.2.2.1.1 v.2.1.1 v.2.1.2.1 v.2.1.2.2.1 v.2.1.2.2.2.1 v.2.2.1.1 v.2.2.1.2.1 v.2.2.1.2.2.1 v.2.2.1.2.2.2.1 γ fail next out
  par v γ fail next out := s_SameMac_L0_par v.1.2.2.1.1 v.2.1.1 v.2.1.2.1 v.2.1.2.2.1 v.2.1.2.2.2.1 v.2.2.1.1 v.2.2.1.2.1 v.2.2.1.2.2.1 v.2.2.1.2.2.2.1 γ fail next out
def s_SameMac_L0_fu (v0 : Int) (v1 : Bool) (v2 : Int) (v3 : Int) (v4 : List MacRow) (v5 : Bool) (v6 : Int) (v7 : Int) (v8 : List MacRow) : Nat := (Int.toNat ((v4.length : Int) - v0)) + 1
theorem s_SameMac_L0_lk (v : s_SameMac_L0_sh.T) (next : St → Option Res) (k : Ex → St → Option Res) : evalK te (orcOf (P := Try.prog) []) (lorcOf []) Try.f23.ntmps s_SameMac_ann (nthLoop (bodyOf Try.f23) 0 0) 0 (s_SameMac_L0_sh.enc v) (endK ⟨[2, 3, 5], [], false, 0⟩ ⟨[4], [], false, 0⟩ next k) =
  s_SameMac_L0_r.B v _ none (fun v' => next (s_SameMac_L0_sh.enc v')) (fun w => outK s_SameMac_L0_es k w) := by kernel_rfl
def s_SameMac_L0_le : LE := leOf 0 s_SameMac_L0_sh s_SameMac_L0_es s_SameMac_L0_r.step (fun v => s_SameMac_L0_fu v.1.2.2.1.1 v.2.1.1 v.2.1.2.1 v.2.1.2.2.1 v.2.1.2.2.2.1 v.2.2.1.1 v.2.2.1.2.1 v.2.2.1.2.2.1 v.2.2.1.2.2.2.1)
theorem s_SameMac_L0_ls (w0 : World) (mo : Mts) (I0 : Nat → Prop) (hmo : mo.length = 0) : LSem Try.prog (Sim w0 mo Try.f23.ntmps I0) (fun b s k => match Nat.beq 0 b with | true => s_SameMac_L0_le.run s k | false => none) 0 (nthLoop (bodyOf Try.f23) 0 0) :=
  le_sem hmo (lorc := lorcOf []) (ann := s_SameMac_ann) (keep := ⟨[2, 3, 5], [], false, 0⟩) (kout := ⟨[4], [], false, 0⟩) teFact mixFact (orcOf_ok _) (by kernel_rfl) (allLoops_of (bs := []) (by kernel_rfl) trivial) s_SameMac_L0_r _ s_SameMac_L0_lk
def s_SameMac_L0_f (v1 : Bool) (v2 : Int) (v3 : Int) (v4 : List MacRow) (v5 : Bool) (v6 : Int) (v7 : Int) (v8 : List MacRow) (v0 : Int) (a : Unit) : Stp (Unit) ((Unit)) :=
  bif (!(((v4.getD v0.toNat (Ty.zero .macRow)).input == (v8.getD v0.toNat (Ty.zero .macRow)).input) && (((v4.getD v0.toNat (Ty.zero .macRow)).value == (v8.getD v0.toNat (Ty.zero .macRow)).value) && true))) then
    .out (())
  else
  .next ()
theorem s_SameMac_L0_st (v0 : Int) (v1 : Bool) (v2 : Int) (v3 : Int) (v4 : List MacRow) (v5 : Bool) (v6 : Int) (v7 : Int) (v8 : List MacRow) (hlo : 0 ≤ v0) (hhi : v0 < (v4.length : Int)) (hN : (v4.length : Int) ≤ 4611686018427387904) (hi0 : (v4.length : Int) ≤ (v8.length : Int)) : s_SameMac_L0_r.step (s_SameMac_L0_mk v0 v1 v2 v3 v4 v5 v6 v7 v8) = Stp.elim (fun a' : Unit => some (Sum.inl (s_SameMac_L0_mk (v0 + 1) v1 v2 v3 v4 v5 v6 v7 v8))) (fun w => some (Sum.inr ((fun p : Unit => Sum.inl (s_SameMac_L0_mx0 false)) w))) (s_SameMac_L0_f v1 v2 v3 v4 v5 v6 v7 v8 v0 ()) := by
  have hw : (IntKind.wrap .i64 (v0 + 1)) = v0 + 1 := wrap64 (by omega) (by omega)
  show s_SameMac_L0_B v0 v1 v2 v3 v4 v5 v6 v7 v8 (Option (s_SameMac_L0_sh.T ⊕ WT s_SameMac_L0_es)) none (fun v' => some (Sum.inl v')) (fun w => some (Sum.inr w)) = _
  unfold s_SameMac_L0_B s_SameMac_L0_f
  exact bifG (by simp only [decide_eq_true_eq]; omega) (bifG (by (try simp only [Nat.ble_eq, Bool.and_eq_true, decide_eq_true_eq]); grind [maxSl, maxStr, toBytes_length, toInts_length, List.length_set, wrap64]) (bifG (by (try simp only [Nat.ble_eq, Bool.and_eq_true, decide_eq_true_eq]); grind [maxSl, maxStr, toBytes_length, toInts_length, List.length_set, wrap64]) (bifT (f := (Stp.elim (fun a' : Unit => some (Sum.inl (s_SameMac_L0_mk (v0 + 1) v1 v2 v3 v4 v5 v6 v7 v8))) (fun w => some (Sum.inr ((fun p : Unit => Sum.inl (s_SameMac_L0_mx0 false)) w))))) (fun b0 => rfl)
      (fun b0 => (by exact congrArg (fun z => some (Sum.inl (s_SameMac_L0_mk z v1 v2 v3 v4 v5 v6 v7 v8))) hw)))))
theorem s_SameMac_L0_cl (v0 : Int) (v1 : Bool) (v2 : Int) (v3 : Int) (v4 : List MacRow) (v5 : Bool) (v6 : Int) (v7 : Int) (v8 : List MacRow) (h0 : 0 ≤ v0) (h1 : (v4.length : Int) ≤ 4611686018427387904) (h2 : (v4.length : Int) ≤ (v8.length : Int)) : loopF s_SameMac_L0_r.step (s_SameMac_L0_fu v0 v1 v2 v3 v4 v5 v6 v7 v8) (s_SameMac_L0_mk v0 v1 v2 v3 v4 v5 v6 v7 v8) = some (Stp.elim (fun a => (fun i a => Sum.inr (s_SameMac_L0_mx1 )) (v0 + 1 * (((Int.toNat ((v4.length : Int) - v0)) : Nat) : Int)) a) (fun p : Unit => Sum.inl (s_SameMac_L0_mx0 false)) (forN (s_SameMac_L0_f v1 v2 v3 v4 v5 v6 v7 v8) 1 (Int.toNat ((v4.length : Int) - v0)) v0 ())) :=
  forN_loop (step := s_SameMac_L0_r.step) (mk := fun v0 a => s_SameMac_L0_mk v0 v1 v2 v3 v4 v5 v6 v7 v8) (f := s_SameMac_L0_f v1 v2 v3 v4 v5 v6 v7 v8) (e := (fun i a => Sum.inr (s_SameMac_L0_mx1 ))) (emb := (fun p : Unit => Sum.inl (s_SameMac_L0_mx0 false))) (st := 1) (Inv := fun v0 a => True) (Int.toNat ((v4.length : Int) - v0)) v0 () _ (Nat.lt_succ_self _) trivial
    (fun j a hj hv => ⟨s_SameMac_L0_st (v0 + 1 * (j : Int)) v1 v2 v3 v4 v5 v6 v7 v8 (by omega) (by omega) (by omega) h2, fun _ _ => trivial⟩)
    (fun a hv => by
      show s_SameMac_L0_B (v0 + 1 * (((Int.toNat ((v4.length : Int) - v0)) : Nat) : Int)) v1 v2 v3 v4 v5 v6 v7 v8 (Option (s_SameMac_L0_sh.T ⊕ WT s_SameMac_L0_es)) none (fun v' => some (Sum.inl v')) (fun w => some (Sum.inr w)) = _
      unfold s_SameMac_L0_B
      exact bifN (by simp only [decide_eq_false_iff_not]; omega) rfl)
def s_SameMac_N (x0 : Mac) (x1 : Mac) (γ : Type) (fail : γ) (k : Bool → γ) : γ :=
  bif (!(x0.use == x1.use)) then
    k false
  else
  bif (x0.k != x1.k) then
    k false
  else
  bif (x0.l != x1.l) then
    k false
  else
  bif ((x0.rows.length : Int) != (x1.rows.length : Int)) then
    k false
  else
  optK (loopF s_SameMac_L0_r.step (s_SameMac_L0_fu 0 x0.use x0.k x0.l x0.rows x1.use x1.k x1.l x1.rows) (s_SameMac_L0_mk 0 x0.use x0.k x0.l x0.rows x1.use x1.k x1.l x1.rows)) fail fun w1 =>
    Sum.elim (fun w1 =>
      k w1.1.1.1)
    (fun w1 =>
      k true) w1
def s_SameMac (x0 : Mac) (x1 : Mac) : Bool :=
  bif (!(x0.use == x1.use)) then
    false
  else
  bif (x0.k != x1.k) then
    false
  else
  bif (x0.l != x1.l) then
    false
  else
  bif ((x0.rows.length : Int) != (x1.rows.length : Int)) then
    false
  else
  Stp.elim (fun a2 =>
    true)
    (fun p2 =>
      false)
    (forN (s_SameMac_L0_f x0.use x0.k x0.l x0.rows x1.use x1.k x1.l x1.rows) 1 (Int.toNat ((x0.rows.length : Int) - 0)) 0 ())
theorem s_SameMac_lk (x0 : Mac) (x1 : Mac) : evalFn te (orcOf (P := Try.prog) []) (lorcOf [s_SameMac_L0_le]) s_SameMac_ann Try.f23 (pvs [.st .mac, .st .mac] (x0, x1, ())) =
  s_SameMac_N x0 x1 _ none (fun v => some [(false, [RC.c (.bool v)])]) := by kernel_rfl
theorem s_SameMac_p (x0 : Mac) (x1 : Mac) (hx0_k : inK .u64 x0.k) (hx0_l : inK .u64 x0.l) (hx0_rows : x0.rows.length ≤ 140737488355328) (hx0_rows_e : ∀ y ∈ x0.rows, ∀ c ∈ Ty.cells .macRow y, FactC c) (hx1_k : inK .u64 x1.k) (hx1_l : inK .u64 x1.l) (hx1_rows : x1.rows.length ≤ 140737488355328) (hx1_rows_e : ∀ y ∈ x1.rows, ∀ c ∈ Ty.cells .macRow y, FactC c)  (γ : Type) (fail : γ) (k : Bool → γ) : s_SameMac_N x0 x1 γ fail k = k (s_SameMac x0 x1) := by
  unfold s_SameMac_N s_SameMac
  exact bifT (f := k) (fun b0 => rfl)
      (fun b0 => bifT (f := k) (fun b1 => rfl)
      (fun b1 => bifT (f := k) (fun b2 => rfl)
      (fun b2 => bifT (f := k) (fun b3 => rfl)
      (fun b3 => loopT (f := k) (s_SameMac_L0_cl 0 x0.use x0.k x0.l x0.rows x1.use x1.k x1.l x1.rows (by (try simp only [Nat.ble_eq, Bool.and_eq_true, decide_eq_true_eq, s_SameMac_L0_mx0, s_SameMac_L0_mx1]); grind [maxSl, maxStr, toBytes_length, toInts_length, List.length_set, wrap64]) (by (try simp only [Nat.ble_eq, Bool.and_eq_true, decide_eq_true_eq, s_SameMac_L0_mx0, s_SameMac_L0_mx1]); grind [maxSl, maxStr, toBytes_length, toInts_length, List.length_set, wrap64]) (by (try simp only [Nat.ble_eq, Bool.and_eq_true, decide_eq_true_eq, s_SameMac_L0_mx0, s_SameMac_L0_mx1]); grind [maxSl, maxStr, toBytes_length, toInts_length, List.length_set, wrap64])) (fun a2 => rfl)
      (fun p2 => rfl)))))
theorem s_SameMac_c (x0 : Mac) (x1 : Mac)  : Con Try.prog 23 (pvs [.st .mac, .st .mac] (x0, x1, ())) [rv (.sc .bool) [] (s_SameMac x0 x1)] := by
  refine Con.of_facts (enters_of Try.func23 rfl (by kernel_rfl)) fun hf => ?_
  replace hf := factAt hf
  exact evalFn_conL teFact mixFact (orcOf_ok _) Try.func23 (by kernel_rfl) (bs := [0]) (by kernel_rfl) (by kernel_rfl) (fun w0 mo I0 hmo => ⟨lsem_of_lorc (s_SameMac_L0_ls w0 mo I0 hmo) (by kernel_rfl), trivial⟩) ((s_SameMac_lk x0 x1).trans (s_SameMac_p x0 x1 ((hf 0 1 rfl rfl).rng) ((hf 0 2 rfl rfl).rng) ((hf 0 3 rfl rfl).len) (fun y hy => (hf 0 3 rfl rfl).elem hy) ((hf 1 1 rfl rfl).rng) ((hf 1 2 rfl rfl).rng) ((hf 1 3 rfl rfl).len) (fun y hy => (hf 1 3 rfl rfl).elem hy) _ _ _))
noncomputable def s_SameMac_e : Ent1 Try.prog := entA 23 [.st .mac, .st .mac] (fun x => (s_SameMac x.1 x.2.1)) (fun v => [rv (.sc .bool) [] v]) (fun x => s_SameMac_c x.1 x.2.1)


/-- spec.l1In -/
def s_l1In_N (x0 : Int) (x1 : Int) (x2 : Int) (γ : Type) (fail : γ) (k : Bool → γ) : γ :=
  bif (decide (x1 ≤ x0)) then
    k (decide (x0 ≤ x2))
  else
  k false
def s_l1In (x0 : Int) (x1 : Int) (x2 : Int) : Bool :=
  bif (decide (x1 ≤ x0)) then
    (decide (x0 ≤ x2))
  else
  false
theorem s_l1In_lk (x0 : Int) (x1 : Int) (x2 : Int) : evalFn te (orcOf (P := Try.prog) []) lorc0 [] Try.f51 (pvs [.sc (.int .i64), .sc (.int .i64), .sc (.int .i64)] (x0, x1, x2, ())) =
  s_l1In_N x0 x1 x2 _ none (fun v => some [(false, [RC.c (.bool v)])]) := by kernel_rfl
theorem s_l1In_p (x0 : Int) (x1 : Int) (x2 : Int)   (γ : Type) (fail : γ) (k : Bool → γ) : s_l1In_N x0 x1 x2 γ fail k = k (s_l1In x0 x1 x2) := by
  unfold s_l1In_N s_l1In
  exact bifT (f := k) (fun b0 => rfl)
      (fun b0 => rfl)
theorem s_l1In_c (x0 : Int) (x1 : Int) (x2 : Int)  : Con Try.prog 51 (pvs [.sc (.int .i64), .sc (.int .i64), .sc (.int .i64)] (x0, x1, x2, ())) [rv (.sc .bool) [] (s_l1In x0 x1 x2)] := by
  exact evalFn_con0 teFact mixFact (orcOf_ok _) Try.func51 (by kernel_rfl) ((s_l1In_lk x0 x1 x2).trans (s_l1In_p x0 x1 x2  _ _ _))
noncomputable def s_l1In_e : Ent1 Try.prog := entA 51 [.sc (.int .i64), .sc (.int .i64), .sc (.int .i64)] (fun x => (s_l1In x.1 x.2.1 x.2.2.1)) (fun v => [rv (.sc .bool) [] v]) (fun x => s_l1In_c x.1 x.2.1 x.2.2.1)

theorem s_l1In_eq (n lo hi : Int) : s_l1In n lo hi = (decide (lo ≤ n) && decide (n ≤ hi)) := by
  unfold s_l1In
  cases decide (lo ≤ n) <;> rfl


/-- spec.TableMac -/
def s_TableMac_N (x0 : List MacRow) (γ : Type) (fail : γ) (k : Mac → γ) : γ :=
  bif (Nat.ble ((2 * (0 + x0.length) + 1024) * 24) maxSl) then
  k (⟨true, 0, 0, ([] ++ x0)⟩ : Mac)
  else fail
def s_TableMac (x0 : List MacRow) : Mac :=
  (⟨true, 0, 0, ([] ++ x0)⟩ : Mac)
theorem s_TableMac_lk (x0 : List MacRow) : evalFn te (orcOf (P := Try.prog) []) lorc0 [] Try.f52 (pvs [.sc (.sl .macRow)] (x0, ())) =
  s_TableMac_N x0 _ none (fun v => some [(true, [RC.c (.bool v.use), RC.c (.int .u64 v.k), RC.c (.int .u64 v.l), RC.own true .macRow v.rows])]) := by kernel_rfl
theorem s_TableMac_p (x0 : List MacRow) (hx0 : x0.length ≤ 140737488355328) (hx0_e : ∀ y ∈ x0, ∀ c ∈ Ty.cells .macRow y, FactC c) (hp : x0.length ≤ 4294967296) (γ : Type) (fail : γ) (k : Mac → γ) : s_TableMac_N x0 γ fail k = k (s_TableMac x0) := by
  unfold s_TableMac_N s_TableMac
  exact bifG (by (try simp only [Nat.ble_eq, Bool.and_eq_true, decide_eq_true_eq]); grind [maxSl, maxStr, toBytes_length, toInts_length, List.length_set, wrap64]) (rfl)
theorem s_TableMac_c (x0 : List MacRow) (hp : x0.length ≤ 4294967296) : Con Try.prog 52 (pvs [.sc (.sl .macRow)] (x0, ())) [rv (.st .mac) [.c, .c, .c, .o true] (s_TableMac x0)] := by
  refine Con.of_facts (enters_of Try.func52 rfl (by kernel_rfl)) fun hf => ?_
  replace hf := factAt hf
  exact evalFn_con0 teFact mixFact (orcOf_ok _) Try.func52 (by kernel_rfl) ((s_TableMac_lk x0).trans (s_TableMac_p x0 ((hf 0 0 rfl rfl).len) (fun y hy => (hf 0 0 rfl rfl).elem hy) hp _ _ _))
noncomputable def s_TableMac_e : Ent1 Try.prog := entP 52 [.sc (.sl .macRow)] (fun x => (decide (x.1.length ≤ 4294967296))) (fun x => (s_TableMac x.1)) (fun v => [rv (.st .mac) [.c, .c, .c, .o true] v]) (fun x hx => s_TableMac_c x.1 (of_decide_eq_true hx))

theorem s_TableMac_len (x0 : List MacRow) (hp : x0.length ≤ 4294967296)  : (fun v : Mac => v.rows.length ≤ x0.length) (s_TableMac x0) := by
  unfold s_TableMac
  exact (by subst_vars; simp)

/-- impl.within -/
def i_within_N (x0 : Int) (x1 : Int) (x2 : Int) (γ : Type) (fail : γ) (k : Bool → γ) : γ :=
  bif (decide (x1 ≤ x0)) then
    k (decide (x0 ≤ x2))
  else
  k false
def i_within (x0 : Int) (x1 : Int) (x2 : Int) : Bool :=
  bif (decide (x1 ≤ x0)) then
    (decide (x0 ≤ x2))
  else
  false
theorem i_within_lk (x0 : Int) (x1 : Int) (x2 : Int) : evalFn te (orcOf (P := Try.prog) []) lorc0 [] Try.f53 (pvs [.sc (.int .i64), .sc (.int .i64), .sc (.int .i64)] (x0, x1, x2, ())) =
  i_within_N x0 x1 x2 _ none (fun v => some [(false, [RC.c (.bool v)])]) := by kernel_rfl
theorem i_within_p (x0 : Int) (x1 : Int) (x2 : Int)   (γ : Type) (fail : γ) (k : Bool → γ) : i_within_N x0 x1 x2 γ fail k = k (i_within x0 x1 x2) := by
  unfold i_within_N i_within
  exact bifT (f := k) (fun b0 => rfl)
      (fun b0 => rfl)
theorem i_within_c (x0 : Int) (x1 : Int) (x2 : Int)  : Con Try.prog 53 (pvs [.sc (.int .i64), .sc (.int .i64), .sc (.int .i64)] (x0, x1, x2, ())) [rv (.sc .bool) [] (i_within x0 x1 x2)] := by
  exact evalFn_con0 teFact mixFact (orcOf_ok _) Try.func53 (by kernel_rfl) ((i_within_lk x0 x1 x2).trans (i_within_p x0 x1 x2  _ _ _))
noncomputable def i_within_e : Ent1 Try.prog := entA 53 [.sc (.int .i64), .sc (.int .i64), .sc (.int .i64)] (fun x => (i_within x.1 x.2.1 x.2.2.1)) (fun v => [rv (.sc .bool) [] v]) (fun x => i_within_c x.1 x.2.1 x.2.2.1)

theorem i_within_eq (n lo hi : Int) : i_within n lo hi = (decide (lo ≤ n) && decide (n ≤ hi)) := by
  unfold i_within
  cases decide (lo ≤ n) <;> rfl


/-- spec.l1New -/
def s_l1New_ann : List (Nat × Keep) := [(0, ⟨[0, 3, 4], [], false, 0⟩)]
def s_l1New_L0_sh : Sh := ⟨[(0, false, [.sl .arg .u8]), (3, false, [.int .i64]), (4, false, [.int .i64])], []⟩
def s_l1New_L0_es : List (Ex × Sh) := [(.exit 0, ⟨[(0, false, [.sl .arg .u8]), (2, false, [.undef]), (3, false, [.int .i64])], []⟩)]
def s_l1New_L0_mk (v0 : List Int) (v1 : Int) (v2 : Int) : s_l1New_L0_sh.T := (((v0, ()), ((v1, ()), ((v2, ()), ()))), ())
def s_l1New_L0_mx0 (y0 : List Int) (y1 : Int) : Sh.T ⟨[(0, false, [.sl .arg .u8]), (2, false, [.undef]), (3, false, [.int .i64])], []⟩ := (((y0, ()), (((), ()), ((y1, ()), ()))), ())
def s_l1New_L0_B (v0 : List Int) (v1 : Int) (v2 : Int) (γ : Type) (fail : γ) (next : s_l1New_L0_sh.T → γ) (out : WT s_l1New_L0_es → γ) : γ :=
  bif (decide (v2 < (v0.length : Int))) then
    bif (decide (v2 < 4000)) then
      bif ((decide (0 ≤ v2)) && (decide (v2 < (v0.length : Int)))) then
      letK (α := Int) (IntKind.wrap .i64 ((IntKind.wrap .i64 (v1 * 131)) + (IntKind.wrap .i64 (v0.getD v2.toNat 0)))) fun e1 =>
      next (s_l1New_L0_mk v0 (bits .and .i64 (IntKind.wrap .i64 (e1 + 7)) 1073741823) (IntKind.wrap .i64 (v2 + 1)))
      else fail
    else
    out (s_l1New_L0_mx0 v0 v1)
  else
  out (s_l1New_L0_mx0 v0 v1)
theorem s_l1New_L0_par (v0 : List Int) (v1 : Int) (v2 : Int) (γ : Type) (fail : γ) (next : s_l1New_L0_sh.T → γ) (out : WT s_l1New_L0_es → γ) : s_l1New_L0_B v0 v1 v2 γ fail next out = optK (s_l1New_L0_B v0 v1 v2 _ none (fun v' => some (.inl v')) (fun w => some (.inr w))) fail (fun r => Sum.elim next out r) := by
  unfold s_l1New_L0_B
  exact bifT (f := (fun o => optK o fail (fun r => Sum.elim next out r))) (fun _ => bifT (f := (fun o => optK o fail (fun r => Sum.elim next out r))) (fun _ => bifT (f := (fun o => optK o fail (fun r => Sum.elim next out r))) (fun _ => letT (f := (fun o => optK o fail (fun r => Sum.elim next out r))) (fun e1 _ => rfl)) (fun _ => rfl))
      (fun _ => rfl))
      (fun _ => rfl)
def s_l1New_L0_r : Round s_l1New_L0_sh.T (WT s_l1New_L0_es) where
  B v γ fail next out := s_l1New_L0_B v.1.1.1 v.1.2.1.1 v.1.2.2.1.1 γ fail next out
  par v γ fail next out := s_l1New_L0_par v.1.1.1 v.1.2.1.1 v.1.2.2.1.1 γ fail next out
def s_l1New_L0_fu (v0 : List Int) (v1 : Int) (v2 : Int) : Nat := (Int.toNat ((v0.length : Int) - v2)) + 1
theorem s_l1New_L0_lk (v : s_l1New_L0_sh.T) (next : St → Option Res) (k : Ex → St → Option Res) : evalK te (orcOf (P := Try.prog) []) (lorcOf []) Try.f58.ntmps s_l1New_ann (nthLoop (bodyOf Try.f58) 0 0) 0 (s_l1New_L0_sh.enc v) (endK ⟨[0, 3, 4], [], false, 0⟩ ⟨[0, 2, 3], [], false, 0⟩ next k) =
  s_l1New_L0_r.B v _ none (fun v' => next (s_l1New_L0_sh.enc v')) (fun w => outK s_l1New_L0_es k w) := by kernel_rfl
def s_l1New_L0_le : LE := leOf 0 s_l1New_L0_sh s_l1New_L0_es s_l1New_L0_r.step (fun v => s_l1New_L0_fu v.1.1.1 v.1.2.1.1 v.1.2.2.1.1)
theorem s_l1New_L0_ls (w0 : World) (mo : Mts) (I0 : Nat → Prop) (hmo : mo.length = 0) : LSem Try.prog (Sim w0 mo Try.f58.ntmps I0) (fun b s k => match Nat.beq 0 b with | true => s_l1New_L0_le.run s k | false => none) 0 (nthLoop (bodyOf Try.f58) 0 0) :=
  le_sem hmo (lorc := lorcOf []) (ann := s_l1New_ann) (keep := ⟨[0, 3, 4], [], false, 0⟩) (kout := ⟨[0, 2, 3], [], false, 0⟩) teFact mixFact (orcOf_ok _) (by kernel_rfl) (allLoops_of (bs := []) (by kernel_rfl) trivial) s_l1New_L0_r _ s_l1New_L0_lk
def s_l1New_L0_f (v0 : List Int) (v2 : Int) (a : Int) : Stp (Int) ((Int)) :=
  bif (decide (v2 < 4000)) then
    letK (α := Int) (IntKind.wrap .i64 ((IntKind.wrap .i64 (a * 131)) + (IntKind.wrap .i64 (v0.getD v2.toNat 0)))) fun e1 =>
    .next (bits .and .i64 (IntKind.wrap .i64 (e1 + 7)) 1073741823)
  else
  .out (a)
theorem s_l1New_L0_st (v0 : List Int) (v1 : Int) (v2 : Int) (hlo : 0 ≤ v2) (hhi : v2 < (v0.length : Int)) (hN : (v0.length : Int) ≤ 4611686018427387904) : s_l1New_L0_r.step (s_l1New_L0_mk v0 v1 v2) = Stp.elim (fun a' : Int => some (Sum.inl (s_l1New_L0_mk v0 a' (v2 + 1)))) (fun w => some (Sum.inr ((fun p : Int => s_l1New_L0_mx0 v0 p) w))) (s_l1New_L0_f v0 v2 v1) := by
  have hw : (IntKind.wrap .i64 (v2 + 1)) = v2 + 1 := wrap64 (by omega) (by omega)
  show s_l1New_L0_B v0 v1 v2 (Option (s_l1New_L0_sh.T ⊕ WT s_l1New_L0_es)) none (fun v' => some (Sum.inl v')) (fun w => some (Sum.inr w)) = _
  unfold s_l1New_L0_B s_l1New_L0_f
  exact bifG (by simp only [decide_eq_true_eq]; omega) (bifT (f := (Stp.elim (fun a' : Int => some (Sum.inl (s_l1New_L0_mk v0 a' (v2 + 1)))) (fun w => some (Sum.inr ((fun p : Int => s_l1New_L0_mx0 v0 p) w))))) (fun b0 => bifG (by (try simp only [Nat.ble_eq, Bool.and_eq_true, decide_eq_true_eq]); grind [maxSl, maxStr, toBytes_length, toInts_length, List.length_set, wrap64]) (letT (f := (Stp.elim (fun a' : Int => some (Sum.inl (s_l1New_L0_mk v0 a' (v2 + 1)))) (fun w => some (Sum.inr ((fun p : Int => s_l1New_L0_mx0 v0 p) w))))) (fun e1 he1 => (by exact congrArg (fun z => some (Sum.inl (s_l1New_L0_mk v0 (bits .and .i64 (IntKind.wrap .i64 (e1 + 7)) 1073741823) z))) hw))))
      (fun b0 => rfl))
theorem s_l1New_L0_cl (v0 : List Int) (v1 : Int) (v2 : Int) (h0 : 0 ≤ v2) (h1 : (v0.length : Int) ≤ 4611686018427387904) : loopF s_l1New_L0_r.step (s_l1New_L0_fu v0 v1 v2) (s_l1New_L0_mk v0 v1 v2) = some (Stp.elim (fun a => (fun i a => s_l1New_L0_mx0 v0 a) (v2 + 1 * (((Int.toNat ((v0.length : Int) - v2)) : Nat) : Int)) a) (fun p : Int => s_l1New_L0_mx0 v0 p) (forN (s_l1New_L0_f v0) 1 (Int.toNat ((v0.length : Int) - v2)) v2 v1)) :=
  forN_loop (step := s_l1New_L0_r.step) (mk := fun v2 a => s_l1New_L0_mk v0 a v2) (f := s_l1New_L0_f v0) (e := (fun i a => s_l1New_L0_mx0 v0 a)) (emb := (fun p : Int => s_l1New_L0_mx0 v0 p)) (st := 1) (Inv := fun v2 a => True) (Int.toNat ((v0.length : Int) - v2)) v2 v1 _ (Nat.lt_succ_self _) trivial
    (fun j a hj hv => ⟨s_l1New_L0_st v0 a (v2 + 1 * (j : Int)) (by omega) (by omega) (by omega), fun _ _ => trivial⟩)
    (fun a hv => by
      show s_l1New_L0_B v0 a (v2 + 1 * (((Int.toNat ((v0.length : Int) - v2)) : Nat) : Int)) (Option (s_l1New_L0_sh.T ⊕ WT s_l1New_L0_es)) none (fun v' => some (Sum.inl v')) (fun w => some (Sum.inr w)) = _
      unfold s_l1New_L0_B
      exact bifN (by simp only [decide_eq_false_iff_not]; omega) rfl)
def s_l1New_N (x0 : List Int) (γ : Type) (fail : γ) (k : Curs → γ) : γ :=
  optK (loopF s_l1New_L0_r.step (s_l1New_L0_fu x0 (IntKind.wrap .i64 (28655 + (x0.length : Int))) 0) (s_l1New_L0_mk x0 (IntKind.wrap .i64 (28655 + (x0.length : Int))) 0)) fail fun w2 =>
    k (⟨w2.1.1.1, 0, w2.1.2.2.1.1⟩ : Curs)
def s_l1New (x0 : List Int) : Curs :=
  Stp.elim (fun a3 =>
    (⟨x0, 0, a3⟩ : Curs))
    (fun p3 =>
      (⟨x0, 0, p3⟩ : Curs))
    (forN (s_l1New_L0_f x0) 1 (Int.toNat ((x0.length : Int) - 0)) 0 (IntKind.wrap .i64 (28655 + (x0.length : Int))))
theorem s_l1New_lk (x0 : List Int) : evalFn te (orcOf (P := Try.prog) []) (lorcOf [s_l1New_L0_le]) s_l1New_ann Try.f58 (pvs [.sc (.sl .u8)] (x0, ())) =
  s_l1New_N x0 _ none (fun v => some [rb .curs v]) := by kernel_rfl
theorem s_l1New_p (x0 : List Int) (hx0 : x0.length ≤ 140737488355328)  (γ : Type) (fail : γ) (k : Curs → γ) : s_l1New_N x0 γ fail k = k (s_l1New x0) := by
  unfold s_l1New_N s_l1New
  exact loopT (f := k) (s_l1New_L0_cl x0 (IntKind.wrap .i64 (28655 + (x0.length : Int))) 0 (by (try simp only [Nat.ble_eq, Bool.and_eq_true, decide_eq_true_eq, s_l1New_L0_mx0]); grind [maxSl, maxStr, toBytes_length, toInts_length, List.length_set, wrap64]) (by (try simp only [Nat.ble_eq, Bool.and_eq_true, decide_eq_true_eq, s_l1New_L0_mx0]); grind [maxSl, maxStr, toBytes_length, toInts_length, List.length_set, wrap64])) (fun a3 => rfl)
      (fun p3 => rfl)
theorem s_l1New_c (x0 : List Int)  : Con Try.prog 58 (pvs [.sc (.sl .u8)] (x0, ())) [rb .curs (s_l1New x0)] := by
  refine Con.of_facts (enters_of Try.func58 rfl (by kernel_rfl)) fun hf => ?_
  replace hf := factAt hf
  exact evalFn_conL teFact mixFact (orcOf_ok _) Try.func58 (by kernel_rfl) (bs := [0]) (by kernel_rfl) (by kernel_rfl) (fun w0 mo I0 hmo => ⟨lsem_of_lorc (s_l1New_L0_ls w0 mo I0 hmo) (by kernel_rfl), trivial⟩) ((s_l1New_lk x0).trans (s_l1New_p x0 ((hf 0 0 rfl rfl).len) _ _ _))
noncomputable def s_l1New_e : Ent1 Try.prog := entA 58 [.sc (.sl .u8)] (fun x => (s_l1New x.1)) (fun v => [rb .curs v]) (fun x => s_l1New_c x.1)

theorem s_l1New_cur (x0 : List Int)  (hc : x0.length ≤ 1048576) : (fun v : Curs => 0 ≤ v.i ∧ v.b.length ≤ 1048576) (s_l1New x0) := by
  unfold s_l1New
  exact loopP (P := (fun v : Curs => 0 ≤ v.i ∧ v.b.length ≤ 1048576)) (fun a3 ha3 => (by (try simp only [Nat.ble_eq, Bool.and_eq_true, decide_eq_true_eq, s_l1New_L0_mx0]); grind [maxSl, maxStr, toBytes_length, toInts_length, List.length_set, wrap64]))
      (fun p3 hp3 => (by (try simp only [Nat.ble_eq, Bool.and_eq_true, decide_eq_true_eq, s_l1New_L0_mx0]); grind [maxSl, maxStr, toBytes_length, toInts_length, List.length_set, wrap64]))

/-- spec.MacOk -/
def s_MacOk_ann : List (Nat × Keep) := [(2, ⟨[1, 3, 4], [], false, 0⟩), (0, ⟨[1, 3], [], false, 0⟩)]
def s_MacOk_L0_0_sh : Sh := ⟨[(1, false, [.ptr 0 0]), (3, false, [.int .i64]), (4, false, [.int .i64])], [.box [.bool, .int .u64, .int .u64, .sl .arg .macRow]]⟩
def s_MacOk_L0_0_es : List (Ex × Sh) := [(.ret, ⟨[(1, false, [.ptr 0 0]), (2, false, [.bool]), (3, false, [.int .i64])], [.box [.bool, .int .u64, .int .u64, .sl .arg .macRow]]⟩), (.exit 2, ⟨[(1, false, [.ptr 0 0]), (2, false, [.undef]), (3, false, [.int .i64])], [.box [.bool, .int .u64, .int .u64, .sl .arg .macRow]]⟩)]
def s_MacOk_L0_0_mk (vb0 : Int) (vb1 : Int) (vb2 : Bool) (vb3 : Int) (vb4 : Int) (vb5 : List MacRow) : s_MacOk_L0_0_sh.T := ((((), ()), ((vb0, ()), ((vb1, ()), ()))), ((vb2, (vb3, (vb4, (vb5, ())))), ()))
def s_MacOk_L0_0_mx0 (y0 : Bool) (y1 : Int) (y2 : Bool) (y3 : Int) (y4 : Int) (y5 : List MacRow) : Sh.T ⟨[(1, false, [.ptr 0 0]), (2, false, [.bool]), (3, false, [.int .i64])], [.box [.bool, .int .u64, .int .u64, .sl .arg .macRow]]⟩ := ((((), ()), ((y0, ()), ((y1, ()), ()))), ((y2, (y3, (y4, (y5, ())))), ()))
def s_MacOk_L0_0_mx1 (y0 : Int) (y1 : Bool) (y2 : Int) (y3 : Int) (y4 : List MacRow) : Sh.T ⟨[(1, false, [.ptr 0 0]), (2, false, [.undef]), (3, false, [.int .i64])], [.box [.bool, .int .u64, .int .u64, .sl .arg .macRow]]⟩ := ((((), ()), (((), ()), ((y0, ()), ()))), ((y1, (y2, (y3, (y4, ())))), ()))
def s_MacOk_L0_0_B (vb0 : Int) (vb1 : Int) (vb2 : Bool) (vb3 : Int) (vb4 : Int) (vb5 : List MacRow) (γ : Type) (fail : γ) (next : s_MacOk_L0_0_sh.T → γ) (out : WT s_MacOk_L0_0_es → γ) : γ :=
  bif (decide (vb1 < vb0)) then
    bif ((decide (0 ≤ vb1)) && (decide (vb1 < (vb5.length : Int)))) then
    bif ((decide (0 ≤ vb0)) && (decide (vb0 < (vb5.length : Int)))) then
    bif ((vb5.getD vb1.toNat (Ty.zero .macRow)).input == (vb5.getD vb0.toNat (Ty.zero .macRow)).input) then
      out (Sum.inl (s_MacOk_L0_0_mx0 false vb0 vb2 vb3 vb4 vb5))
    else
    next (s_MacOk_L0_0_mk vb0 (IntKind.wrap .i64 (vb1 + 1)) vb2 vb3 vb4 vb5)
    else fail
    else fail
  else
  out (Sum.inr (s_MacOk_L0_0_mx1 vb0 vb2 vb3 vb4 vb5))
theorem s_MacOk_L0_0_par (vb0 : Int) (vb1 : Int) (vb2 : Bool) (vb3 : Int) (vb4 : Int) (vb5 : List MacRow) (γ : Type) (fail : γ) (next : s_MacOk_L0_0_sh.T → γ) (out : WT s_MacOk_L0_0_es → γ) : s_MacOk_L0_0_B vb0 vb1 vb2 vb3 vb4 vb5 γ fail next out = optK (s_MacOk_L0_0_B vb0 vb1 vb2 vb3 vb4 vb5 _ none (fun v' => some (.inl v')) (fun w => some (.inr w))) fail (fun r => Sum.elim next out r) := by
  unfold s_MacOk_L0_0_B
  exact bifT (f := (fun o => optK o fail (fun r => Sum.elim next out r))) (fun _ => bifT (f := (fun o => optK o fail (fun r => Sum.elim next out r))) (fun _ => bifT (f := (fun o => optK o fail (fun r => Sum.elim next out r))) (fun _ => bifT (f := (fun o => optK o fail (fun r => Sum.elim next out r))) (fun _ => rfl)
      (fun _ => rfl)) (fun _ => rfl)) (fun _ => rfl))
      (fun _ => rfl)
def s_MacOk_L0_0_r : Round s_MacOk_L0_0_sh.T (WT s_MacOk_L0_0_es) where
  B v γ fail next out := s_MacOk_L0_0_B v.1.2.1.1 v.1.2.2.1.1 v.2.1.1 v.2.1.2.1 v.2.1.2.2.1 v.2.1.2.2.2.1 γ fail next out
  par v γ fail next out := s_MacOk_L0_0_par v.1.2.1.1 v.1.2.2.1.1 v.2.1.1 v.2.1.2.1 v.2.1.2.2.1 v.2.1.2.2.2.1 γ fail next out
def s_MacOk_L0_0_fu (vb0 : Int) (vb1 : Int) (vb2 : Bool) (vb3 : Int) (vb4 : Int) (vb5 : List MacRow) : Nat := (Int.toNat (vb0 - vb1)) + 1
theorem s_MacOk_L0_0_lk (v : s_MacOk_L0_0_sh.T) (next : St → Option Res) (k : Ex → St → Option Res) : evalK te (orcOf (P := Try.prog) [s_l1In_e]) (lorcOf []) Try.f80.ntmps s_MacOk_ann (nthLoop (nthLoop (bodyOf Try.f80) 0 0) 0 0) 2 (s_MacOk_L0_0_sh.enc v) (endK ⟨[1, 3, 4], [], false, 0⟩ ⟨[1, 2, 3], [], false, 0⟩ next k) =
  s_MacOk_L0_0_r.B v _ none (fun v' => next (s_MacOk_L0_0_sh.enc v')) (fun w => outK s_MacOk_L0_0_es k w) := by kernel_rfl
def s_MacOk_L0_0_le : LE := leOf 2 s_MacOk_L0_0_sh s_MacOk_L0_0_es s_MacOk_L0_0_r.step (fun v => s_MacOk_L0_0_fu v.1.2.1.1 v.1.2.2.1.1 v.2.1.1 v.2.1.2.1 v.2.1.2.2.1 v.2.1.2.2.2.1)
theorem s_MacOk_L0_0_ls (w0 : World) (mo : Mts) (I0 : Nat → Prop) (hmo : mo.length = 0) : LSem Try.prog (Sim w0 mo Try.f80.ntmps I0) (fun b s k => match Nat.beq 2 b with | true => s_MacOk_L0_0_le.run s k | false => none) 2 (nthLoop (nthLoop (bodyOf Try.f80) 0 0) 0 0) :=
  le_sem hmo (lorc := lorcOf []) (ann := s_MacOk_ann) (keep := ⟨[1, 3, 4], [], false, 0⟩) (kout := ⟨[1, 2, 3], [], false, 0⟩) teFact mixFact (orcOf_ok _) (by kernel_rfl) (allLoops_of (bs := []) (by kernel_rfl) trivial) s_MacOk_L0_0_r _ s_MacOk_L0_0_lk
def s_MacOk_L0_0_f (vb0 : Int) (vb2 : Bool) (vb3 : Int) (vb4 : Int) (vb5 : List MacRow) (vb1 : Int) (a : Unit) : Stp (Unit) ((Unit)) :=
  bif ((vb5.getD vb1.toNat (Ty.zero .macRow)).input == (vb5.getD vb0.toNat (Ty.zero .macRow)).input) then
    .out (())
  else
  .next ()
theorem s_MacOk_L0_0_st (vb0 : Int) (vb1 : Int) (vb2 : Bool) (vb3 : Int) (vb4 : Int) (vb5 : List MacRow) (hlo : 0 ≤ vb1) (hhi : vb1 < vb0) (hN : vb0 ≤ 4611686018427387904) (hi0 : vb0 ≤ (vb5.length : Int)) (hi1 : 0 ≤ vb0) (hi2 : vb0 < (vb5.length : Int)) : s_MacOk_L0_0_r.step (s_MacOk_L0_0_mk vb0 vb1 vb2 vb3 vb4 vb5) = Stp.elim (fun a' : Unit => some (Sum.inl (s_MacOk_L0_0_mk vb0 (vb1 + 1) vb2 vb3 vb4 vb5))) (fun w => some (Sum.inr ((fun p : Unit => Sum.inl (s_MacOk_L0_0_mx0 false vb0 vb2 vb3 vb4 vb5)) w))) (s_MacOk_L0_0_f vb0 vb2 vb3 vb4 vb5 vb1 ()) := by
  have hw : (IntKind.wrap .i64 (vb1 + 1)) = vb1 + 1 := wrap64 (by omega) (by omega)
  show s_MacOk_L0_0_B vb0 vb1 vb2 vb3 vb4 vb5 (Option (s_MacOk_L0_0_sh.T ⊕ WT s_MacOk_L0_0_es)) none (fun v' => some (Sum.inl v')) (fun w => some (Sum.inr w)) = _
  unfold s_MacOk_L0_0_B s_MacOk_L0_0_f
  exact bifG (by simp only [decide_eq_true_eq]; omega) (bifG (by (try simp only [Nat.ble_eq, Bool.and_eq_true, decide_eq_true_eq]); grind [maxSl, maxStr, toBytes_length, toInts_length, List.length_set, wrap64]) (bifG (by (try simp only [Nat.ble_eq, Bool.and_eq_true, decide_eq_true_eq]); grind [maxSl, maxStr, toBytes_length, toInts_length, List.length_set, wrap64]) (bifT (f := (Stp.elim (fun a' : Unit => some (Sum.inl (s_MacOk_L0_0_mk vb0 (vb1 + 1) vb2 vb3 vb4 vb5))) (fun w => some (Sum.inr ((fun p : Unit => Sum.inl (s_MacOk_L0_0_mx0 false vb0 vb2 vb3 vb4 vb5)) w))))) (fun b0 => rfl)
      (fun b0 => (by exact congrArg (fun z => some (Sum.inl (s_MacOk_L0_0_mk vb0 z vb2 vb3 vb4 vb5))) hw)))))
theorem s_MacOk_L0_0_cl (vb0 : Int) (vb1 : Int) (vb2 : Bool) (vb3 : Int) (vb4 : Int) (vb5 : List MacRow) (h0 : 0 ≤ vb1) (h1 : vb0 ≤ 4611686018427387904) (h2 : vb0 ≤ (vb5.length : Int)) (h3 : 0 ≤ vb0) (h4 : vb0 < (vb5.length : Int)) : loopF s_MacOk_L0_0_r.step (s_MacOk_L0_0_fu vb0 vb1 vb2 vb3 vb4 vb5) (s_MacOk_L0_0_mk vb0 vb1 vb2 vb3 vb4 vb5) = some (Stp.elim (fun a => (fun i a => Sum.inr (s_MacOk_L0_0_mx1 vb0 vb2 vb3 vb4 vb5)) (vb1 + 1 * (((Int.toNat (vb0 - vb1)) : Nat) : Int)) a) (fun p : Unit => Sum.inl (s_MacOk_L0_0_mx0 false vb0 vb2 vb3 vb4 vb5)) (forN (s_MacOk_L0_0_f vb0 vb2 vb3 vb4 vb5) 1 (Int.toNat (vb0 - vb1)) vb1 ())) :=
  forN_loop (step := s_MacOk_L0_0_r.step) (mk := fun vb1 a => s_MacOk_L0_0_mk vb0 vb1 vb2 vb3 vb4 vb5) (f := s_MacOk_L0_0_f vb0 vb2 vb3 vb4 vb5) (e := (fun i a => Sum.inr (s_MacOk_L0_0_mx1 vb0 vb2 vb3 vb4 vb5))) (emb := (fun p : Unit => Sum.inl (s_MacOk_L0_0_mx0 false vb0 vb2 vb3 vb4 vb5))) (st := 1) (Inv := fun vb1 a => True) (Int.toNat (vb0 - vb1)) vb1 () _ (Nat.lt_succ_self _) trivial
    (fun j a hj hv => ⟨s_MacOk_L0_0_st vb0 (vb1 + 1 * (j : Int)) vb2 vb3 vb4 vb5 (by omega) (by omega) (by omega) h2 h3 h4, fun _ _ => trivial⟩)
    (fun a hv => by
      show s_MacOk_L0_0_B vb0 (vb1 + 1 * (((Int.toNat (vb0 - vb1)) : Nat) : Int)) vb2 vb3 vb4 vb5 (Option (s_MacOk_L0_0_sh.T ⊕ WT s_MacOk_L0_0_es)) none (fun v' => some (Sum.inl v')) (fun w => some (Sum.inr w)) = _
      unfold s_MacOk_L0_0_B
      exact bifN (by simp only [decide_eq_false_iff_not]; omega) rfl)
def s_MacOk_L0_sh : Sh := ⟨[(1, false, [.ptr 0 0]), (3, false, [.int .i64])], [.box [.bool, .int .u64, .int .u64, .sl .arg .macRow]]⟩
def s_MacOk_L0_es : List (Ex × Sh) := [(.ret, ⟨[(1, false, [.ptr 0 0]), (2, false, [.bool])], [.box [.bool, .int .u64, .int .u64, .sl .arg .macRow]]⟩), (.exit 0, ⟨[(1, false, [.ptr 0 0]), (2, false, [.undef])], [.box [.bool, .int .u64, .int .u64, .sl .arg .macRow]]⟩)]
def s_MacOk_L0_mk (v0 : Int) (v1 : Bool) (v2 : Int) (v3 : Int) (v4 : List MacRow) : s_MacOk_L0_sh.T := ((((), ()), ((v0, ()), ())), ((v1, (v2, (v3, (v4, ())))), ()))
def s_MacOk_L0_mx0 (y0 : Bool) (y1 : Bool) (y2 : Int) (y3 : Int) (y4 : List MacRow) : Sh.T ⟨[(1, false, [.ptr 0 0]), (2, false, [.bool])], [.box [.bool, .int .u64, .int .u64, .sl .arg .macRow]]⟩ := ((((), ()), ((y0, ()), ())), ((y1, (y2, (y3, (y4, ())))), ()))
def s_MacOk_L0_mx1 (y0 : Bool) (y1 : Int) (y2 : Int) (y3 : List MacRow) : Sh.T ⟨[(1, false, [.ptr 0 0]), (2, false, [.undef])], [.box [.bool, .int .u64, .int .u64, .sl .arg .macRow]]⟩ := ((((), ()), (((), ()), ())), ((y0, (y1, (y2, (y3, ())))), ()))
def s_MacOk_L0_B (v0 : Int) (v1 : Bool) (v2 : Int) (v3 : Int) (v4 : List MacRow) (γ : Type) (fail : γ) (next : s_MacOk_L0_sh.T → γ) (out : WT s_MacOk_L0_es → γ) : γ :=
  bif (decide (v0 < (v4.length : Int))) then
    bif ((decide (0 ≤ v0)) && (decide (v0 < (v4.length : Int)))) then
    letK (α := Bool) (s_l1In ((v4.getD v0.toNat (Ty.zero .macRow)).value) 0 16777215) fun c1 =>
    bif (!c1) then
      out (Sum.inl (s_MacOk_L0_mx0 false v1 v2 v3 v4))
    else
    optK (loopF s_MacOk_L0_0_r.step (s_MacOk_L0_0_fu v0 0 v1 v2 v3 v4) (s_MacOk_L0_0_mk v0 0 v1 v2 v3 v4)) fail fun w2 =>
      Sum.elim (fun w2 =>
        out (Sum.inl (s_MacOk_L0_mx0 w2.1.2.1.1 w2.2.1.1 w2.2.1.2.1 w2.2.1.2.2.1 w2.2.1.2.2.2.1)))
      (fun w2 =>
        next (s_MacOk_L0_mk (IntKind.wrap .i64 (w2.1.2.2.1.1 + 1)) w2.2.1.1 w2.2.1.2.1 w2.2.1.2.2.1 w2.2.1.2.2.2.1)) w2
    else fail
  else
  out (Sum.inr (s_MacOk_L0_mx1 v1 v2 v3 v4))
theorem s_MacOk_L0_par (v0 : Int) (v1 : Bool) (v2 : Int) (v3 : Int) (v4 : List MacRow) (γ : Type) (fail : γ) (next : s_MacOk_L0_sh.T → γ) (out : WT s_MacOk_L0_es → γ) : s_MacOk_L0_B v0 v1 v2 v3 v4 γ fail next out = optK (s_MacOk_L0_B v0 v1 v2 v3 v4 _ none (fun v' => some (.inl v')) (fun w => some (.inr w))) fail (fun r => Sum.elim next out r) := by
  unfold s_MacOk_L0_B
  exact bifT (f := (fun o => optK o fail (fun r => Sum.elim next out r))) (fun _ => bifT (f := (fun o => optK o fail (fun r => Sum.elim next out r))) (fun _ => letT (f := (fun o => optK o fail (fun r => Sum.elim next out r))) (fun c1 _ => bifT (f := (fun o => optK o fail (fun r => Sum.elim next out r))) (fun _ => rfl)
      (fun _ => optT (f := (fun o => optK o fail (fun r => Sum.elim next out r))) rfl (fun w2 => sumT (f := (fun o => optK o fail (fun r => Sum.elim next out r))) (fun w2 => rfl) (fun w2 => rfl))))) (fun _ => rfl))
      (fun _ => rfl)
def s_MacOk_L0_r : Round s_MacOk_L0_sh.T (WT s_MacOk_L0_es) where
  B v γ fail next out := s_MacOk_L0_B v.1.2.1.1 v.2.1.1 v.2.1.2.1 v.2.1.2.2.1 v.2.1.2.2.2.1 γ fail next out
  par v γ fail next out := s_MacOk_L0_par v.1.2.1.1 v.2.1.1 v.2.1.2.1 v.2.1.2.2.1 v.2.1.2.2.2.1 γ fail next out
def s_MacOk_L0_fu (v0 : Int) (v1 : Bool) (v2 : Int) (v3 : Int) (v4 : List MacRow) : Nat := (Int.toNat ((v4.length : Int) - v0)) + 1
theorem s_MacOk_L0_lk (v : s_MacOk_L0_sh.T) (next : St → Option Res) (k : Ex → St → Option Res) : evalK te (orcOf (P := Try.prog) [s_l1In_e]) (lorcOf [s_MacOk_L0_0_le]) Try.f80.ntmps s_MacOk_ann (nthLoop (bodyOf Try.f80) 0 0) 0 (s_MacOk_L0_sh.enc v) (endK ⟨[1, 3], [], false, 0⟩ ⟨[1, 2], [], false, 0⟩ next k) =
  s_MacOk_L0_r.B v _ none (fun v' => next (s_MacOk_L0_sh.enc v')) (fun w => outK s_MacOk_L0_es k w) := by kernel_rfl
def s_MacOk_L0_le : LE := leOf 0 s_MacOk_L0_sh s_MacOk_L0_es s_MacOk_L0_r.step (fun v => s_MacOk_L0_fu v.1.2.1.1 v.2.1.1 v.2.1.2.1 v.2.1.2.2.1 v.2.1.2.2.2.1)
theorem s_MacOk_L0_ls (w0 : World) (mo : Mts) (I0 : Nat → Prop) (hmo : mo.length = 0) : LSem Try.prog (Sim w0 mo Try.f80.ntmps I0) (fun b s k => match Nat.beq 0 b with | true => s_MacOk_L0_le.run s k | false => none) 0 (nthLoop (bodyOf Try.f80) 0 0) :=
  le_sem hmo (lorc := lorcOf [s_MacOk_L0_0_le]) (ann := s_MacOk_ann) (keep := ⟨[1, 3], [], false, 0⟩) (kout := ⟨[1, 2], [], false, 0⟩) teFact mixFact (orcOf_ok _) (by kernel_rfl) (allLoops_of (bs := [2]) (by kernel_rfl) ⟨lsem_of_lorc (s_MacOk_L0_0_ls w0 mo I0 hmo) (by kernel_rfl), trivial⟩) s_MacOk_L0_r _ s_MacOk_L0_lk
def s_MacOk_L0_f (v1 : Bool) (v2 : Int) (v3 : Int) (v4 : List MacRow) (v0 : Int) (a : Unit) : Stp (Unit) ((Unit)) :=
  letK (α := Bool) (s_l1In ((v4.getD v0.toNat (Ty.zero .macRow)).value) 0 16777215) fun c1 =>
  bif (!c1) then
    .out (())
  else
  Stp.elim (fun a3 =>
    .next ())
    (fun p3 =>
      .out (()))
    (forN (s_MacOk_L0_0_f v0 v1 v2 v3 v4) 1 (Int.toNat (v0 - 0)) 0 ())
theorem s_MacOk_L0_st (v0 : Int) (v1 : Bool) (v2 : Int) (v3 : Int) (v4 : List MacRow) (hlo : 0 ≤ v0) (hhi : v0 < (v4.length : Int)) (hN : (v4.length : Int) ≤ 4611686018427387904) : s_MacOk_L0_r.step (s_MacOk_L0_mk v0 v1 v2 v3 v4) = Stp.elim (fun a' : Unit => some (Sum.inl (s_MacOk_L0_mk (v0 + 1) v1 v2 v3 v4))) (fun w => some (Sum.inr ((fun p : Unit => Sum.inl (s_MacOk_L0_mx0 false v1 v2 v3 v4)) w))) (s_MacOk_L0_f v1 v2 v3 v4 v0 ()) := by
  have hw : (IntKind.wrap .i64 (v0 + 1)) = v0 + 1 := wrap64 (by omega) (by omega)
  show s_MacOk_L0_B v0 v1 v2 v3 v4 (Option (s_MacOk_L0_sh.T ⊕ WT s_MacOk_L0_es)) none (fun v' => some (Sum.inl v')) (fun w => some (Sum.inr w)) = _
  unfold s_MacOk_L0_B s_MacOk_L0_f
  exact bifG (by simp only [decide_eq_true_eq]; omega) (bifG (by (try simp only [Nat.ble_eq, Bool.and_eq_true, decide_eq_true_eq, s_MacOk_L0_0_mx0, s_MacOk_L0_0_mx1]); grind [maxSl, maxStr, toBytes_length, toInts_length, List.length_set, wrap64]) (letT (f := (Stp.elim (fun a' : Unit => some (Sum.inl (s_MacOk_L0_mk (v0 + 1) v1 v2 v3 v4))) (fun w => some (Sum.inr ((fun p : Unit => Sum.inl (s_MacOk_L0_mx0 false v1 v2 v3 v4)) w))))) (fun c1 hc1 => bifT (f := (Stp.elim (fun a' : Unit => some (Sum.inl (s_MacOk_L0_mk (v0 + 1) v1 v2 v3 v4))) (fun w => some (Sum.inr ((fun p : Unit => Sum.inl (s_MacOk_L0_mx0 false v1 v2 v3 v4)) w))))) (fun b0 => rfl)
      (fun b0 => loopT (f := (Stp.elim (fun a' : Unit => some (Sum.inl (s_MacOk_L0_mk (v0 + 1) v1 v2 v3 v4))) (fun w => some (Sum.inr ((fun p : Unit => Sum.inl (s_MacOk_L0_mx0 false v1 v2 v3 v4)) w))))) (s_MacOk_L0_0_cl v0 0 v1 v2 v3 v4 (by (try simp only [Nat.ble_eq, Bool.and_eq_true, decide_eq_true_eq, s_MacOk_L0_0_mx0, s_MacOk_L0_0_mx1]); grind [maxSl, maxStr, toBytes_length, toInts_length, List.length_set, wrap64]) (by (try simp only [Nat.ble_eq, Bool.and_eq_true, decide_eq_true_eq, s_MacOk_L0_0_mx0, s_MacOk_L0_0_mx1]); grind [maxSl, maxStr, toBytes_length, toInts_length, List.length_set, wrap64]) (by (try simp only [Nat.ble_eq, Bool.and_eq_true, decide_eq_true_eq, s_MacOk_L0_0_mx0, s_MacOk_L0_0_mx1]); grind [maxSl, maxStr, toBytes_length, toInts_length, List.length_set, wrap64]) (by (try simp only [Nat.ble_eq, Bool.and_eq_true, decide_eq_true_eq, s_MacOk_L0_0_mx0, s_MacOk_L0_0_mx1]); grind [maxSl, maxStr, toBytes_length, toInts_length, List.length_set, wrap64]) (by (try simp only [Nat.ble_eq, Bool.and_eq_true, decide_eq_true_eq, s_MacOk_L0_0_mx0, s_MacOk_L0_0_mx1]); grind [maxSl, maxStr, toBytes_length, toInts_length, List.length_set, wrap64])) (fun a3 => (by exact congrArg (fun z => some (Sum.inl (s_MacOk_L0_mk z v1 v2 v3 v4))) hw))
      (fun p3 => rfl)))))
theorem s_MacOk_L0_cl (v0 : Int) (v1 : Bool) (v2 : Int) (v3 : Int) (v4 : List MacRow) (h0 : 0 ≤ v0) (h1 : (v4.length : Int) ≤ 4611686018427387904) : loopF s_MacOk_L0_r.step (s_MacOk_L0_fu v0 v1 v2 v3 v4) (s_MacOk_L0_mk v0 v1 v2 v3 v4) = some (Stp.elim (fun a => (fun i a => Sum.inr (s_MacOk_L0_mx1 v1 v2 v3 v4)) (v0 + 1 * (((Int.toNat ((v4.length : Int) - v0)) : Nat) : Int)) a) (fun p : Unit => Sum.inl (s_MacOk_L0_mx0 false v1 v2 v3 v4)) (forN (s_MacOk_L0_f v1 v2 v3 v4) 1 (Int.toNat ((v4.length : Int) - v0)) v0 ())) :=
  forN_loop (step := s_MacOk_L0_r.step) (mk := fun v0 a => s_MacOk_L0_mk v0 v1 v2 v3 v4) (f := s_MacOk_L0_f v1 v2 v3 v4) (e := (fun i a => Sum.inr (s_MacOk_L0_mx1 v1 v2 v3 v4))) (emb := (fun p : Unit => Sum.inl (s_MacOk_L0_mx0 false v1 v2 v3 v4))) (st := 1) (Inv := fun v0 a => True) (Int.toNat ((v4.length : Int) - v0)) v0 () _ (Nat.lt_succ_self _) trivial
    (fun j a hj hv => ⟨s_MacOk_L0_st (v0 + 1 * (j : Int)) v1 v2 v3 v4 (by omega) (by omega) (by omega), fun _ _ => trivial⟩)
    (fun a hv => by
      show s_MacOk_L0_B (v0 + 1 * (((Int.toNat ((v4.length : Int) - v0)) : Nat) : Int)) v1 v2 v3 v4 (Option (s_MacOk_L0_sh.T ⊕ WT s_MacOk_L0_es)) none (fun v' => some (Sum.inl v')) (fun w => some (Sum.inr w)) = _
      unfold s_MacOk_L0_B
      exact bifN (by simp only [decide_eq_false_iff_not]; omega) rfl)
def s_MacOk_N (x0 : Mac) (γ : Type) (fail : γ) (k : Bool → γ) : γ :=
  bif (!x0.use) then
    k ((x0.rows.length : Int) == 0)
  else
  optK (loopF s_MacOk_L0_r.step (s_MacOk_L0_fu 0 x0.use x0.k x0.l x0.rows) (s_MacOk_L0_mk 0 x0.use x0.k x0.l x0.rows)) fail fun w4 =>
    Sum.elim (fun w4 =>
      k w4.1.2.1.1)
    (fun w4 =>
      bif (w4.2.1.2.1 == 0) then
        bif (w4.2.1.2.2.1 == 0) then
          k (decide ((w4.2.1.2.2.2.1.length : Int) ≤ 64))
        else
        k false
      else
      k false) w4
def s_MacOk (x0 : Mac) : Bool :=
  bif (!x0.use) then
    ((x0.rows.length : Int) == 0)
  else
  Stp.elim (fun a5 =>
    bif (x0.k == 0) then
      bif (x0.l == 0) then
        (decide ((x0.rows.length : Int) ≤ 64))
      else
      false
    else
    false)
    (fun p5 =>
      false)
    (forN (s_MacOk_L0_f x0.use x0.k x0.l x0.rows) 1 (Int.toNat ((x0.rows.length : Int) - 0)) 0 ())
theorem s_MacOk_lk (x0 : Mac) : evalFn te (orcOf (P := Try.prog) [s_l1In_e]) (lorcOf [s_MacOk_L0_le]) s_MacOk_ann Try.f80 (pvs [.st .mac] (x0, ())) =
  s_MacOk_N x0 _ none (fun v => some [(false, [RC.c (.bool v)])]) := by kernel_rfl
theorem s_MacOk_p (x0 : Mac) (hx0_k : inK .u64 x0.k) (hx0_l : inK .u64 x0.l) (hx0_rows : x0.rows.length ≤ 140737488355328) (hx0_rows_e : ∀ y ∈ x0.rows, ∀ c ∈ Ty.cells .macRow y, FactC c)  (γ : Type) (fail : γ) (k : Bool → γ) : s_MacOk_N x0 γ fail k = k (s_MacOk x0) := by
  unfold s_MacOk_N s_MacOk
  exact bifT (f := k) (fun b0 => rfl)
      (fun b0 => loopT (f := k) (s_MacOk_L0_cl 0 x0.use x0.k x0.l x0.rows (by (try simp only [Nat.ble_eq, Bool.and_eq_true, decide_eq_true_eq, s_MacOk_L0_0_mx0, s_MacOk_L0_0_mx1, s_MacOk_L0_mx0, s_MacOk_L0_mx1]); grind [maxSl, maxStr, toBytes_length, toInts_length, List.length_set, wrap64]) (by (try simp only [Nat.ble_eq, Bool.and_eq_true, decide_eq_true_eq, s_MacOk_L0_0_mx0, s_MacOk_L0_0_mx1, s_MacOk_L0_mx0, s_MacOk_L0_mx1]); grind [maxSl, maxStr, toBytes_length, toInts_length, List.length_set, wrap64])) (fun a5 => bifT (f := k) (fun b1 => bifT (f := k) (fun b2 => rfl)
      (fun b2 => rfl))
      (fun b1 => rfl))
      (fun p5 => rfl))
theorem s_MacOk_c (x0 : Mac)  : Con Try.prog 80 (pvs [.st .mac] (x0, ())) [rv (.sc .bool) [] (s_MacOk x0)] := by
  refine Con.of_facts (enters_of Try.func80 rfl (by kernel_rfl)) fun hf => ?_
  replace hf := factAt hf
  exact evalFn_conL teFact mixFact (orcOf_ok _) Try.func80 (by kernel_rfl) (bs := [0]) (by kernel_rfl) (by kernel_rfl) (fun w0 mo I0 hmo => ⟨lsem_of_lorc (s_MacOk_L0_ls w0 mo I0 hmo) (by kernel_rfl), trivial⟩) ((s_MacOk_lk x0).trans (s_MacOk_p x0 ((hf 0 1 rfl rfl).rng) ((hf 0 2 rfl rfl).rng) ((hf 0 3 rfl rfl).len) (fun y hy => (hf 0 3 rfl rfl).elem hy) _ _ _))
noncomputable def s_MacOk_e : Ent1 Try.prog := entA 80 [.st .mac] (fun x => (s_MacOk x.1)) (fun v => [rv (.sc .bool) [] v]) (fun x => s_MacOk_c x.1)


/-- impl.SipStart -/
def i_SipStart_N (x0 : Int) (x1 : Int) (γ : Type) (fail : γ) (k : Sipr → γ) : γ :=
  k (⟨(bits .xor .u64 x0 8317987319222330741), (bits .xor .u64 x1 7237128888997146477), (bits .xor .u64 x0 7816392313619706465), (bits .xor .u64 x1 8387220255154660723)⟩ : Sipr)
def i_SipStart (x0 : Int) (x1 : Int) : Sipr :=
  (⟨(bits .xor .u64 x0 8317987319222330741), (bits .xor .u64 x1 7237128888997146477), (bits .xor .u64 x0 7816392313619706465), (bits .xor .u64 x1 8387220255154660723)⟩ : Sipr)
theorem i_SipStart_lk (x0 : Int) (x1 : Int) : evalFn te (orcOf (P := Try.prog) []) lorc0 [] Try.f93 (pvs [.sc (.int .u64), .sc (.int .u64)] (x0, x1, ())) =
  i_SipStart_N x0 x1 _ none (fun v => some [(true, [RC.c (.int .u64 v.a), RC.c (.int .u64 v.b), RC.c (.int .u64 v.c), RC.c (.int .u64 v.d)])]) := by kernel_rfl
theorem i_SipStart_p (x0 : Int) (x1 : Int)   (γ : Type) (fail : γ) (k : Sipr → γ) : i_SipStart_N x0 x1 γ fail k = k (i_SipStart x0 x1) := by
  unfold i_SipStart_N i_SipStart
  exact rfl
theorem i_SipStart_c (x0 : Int) (x1 : Int)  : Con Try.prog 93 (pvs [.sc (.int .u64), .sc (.int .u64)] (x0, x1, ())) [rv (.st .sipr) [] (i_SipStart x0 x1)] := by
  exact evalFn_con0 teFact mixFact (orcOf_ok _) Try.func93 (by kernel_rfl) ((i_SipStart_lk x0 x1).trans (i_SipStart_p x0 x1  _ _ _))
noncomputable def i_SipStart_e : Ent1 Try.prog := entA 93 [.sc (.int .u64), .sc (.int .u64)] (fun x => (i_SipStart x.1 x.2.1)) (fun v => [rv (.st .sipr) [] v]) (fun x => i_SipStart_c x.1 x.2.1)


/-- impl.little -/
def i_little_ann : List (Nat × Keep) := [(0, ⟨[0, 3, 4], [], false, 0⟩)]
def i_little_L0_sh : Sh := ⟨[(0, false, [.sl .arg .u8]), (3, false, [.int .u64]), (4, false, [.int .i64])], []⟩
def i_little_L0_es : List (Ex × Sh) := [(.exit 0, ⟨[(2, false, [.undef]), (3, false, [.int .u64])], []⟩)]
def i_little_L0_mk (v0 : List Int) (v1 : Int) (v2 : Int) : i_little_L0_sh.T := (((v0, ()), ((v1, ()), ((v2, ()), ()))), ())
def i_little_L0_mx0 (y0 : Int) : Sh.T ⟨[(2, false, [.undef]), (3, false, [.int .u64])], []⟩ := ((((), ()), ((y0, ()), ())), ())
def i_little_L0_B (v0 : List Int) (v1 : Int) (v2 : Int) (γ : Type) (fail : γ) (next : i_little_L0_sh.T → γ) (out : WT i_little_L0_es → γ) : γ :=
  bif (decide (0 ≤ v2)) then
    bif ((decide (0 ≤ v2)) && (decide (v2 < (v0.length : Int)))) then
    letK (α := Int) (bits .or .u64 (IntKind.wrap .u64 (v1 * 256)) (IntKind.wrap .u64 (v0.getD v2.toNat 0))) fun e1 =>
    next (i_little_L0_mk v0 e1 (IntKind.wrap .i64 (v2 - 1)))
    else fail
  else
  out (i_little_L0_mx0 v1)
theorem i_little_L0_par (v0 : List Int) (v1 : Int) (v2 : Int) (γ : Type) (fail : γ) (next : i_little_L0_sh.T → γ) (out : WT i_little_L0_es → γ) : i_little_L0_B v0 v1 v2 γ fail next out = optK (i_little_L0_B v0 v1 v2 _ none (fun v' => some (.inl v')) (fun w => some (.inr w))) fail (fun r => Sum.elim next out r) := by
  unfold i_little_L0_B
  exact bifT (f := (fun o => optK o fail (fun r => Sum.elim next out r))) (fun _ => bifT (f := (fun o => optK o fail (fun r => Sum.elim next out r))) (fun _ => letT (f := (fun o => optK o fail (fun r => Sum.elim next out r))) (fun e1 _ => rfl)) (fun _ => rfl))
      (fun _ => rfl)
def i_little_L0_r : Round i_little_L0_sh.T (WT i_little_L0_es) where
  B v γ fail next out := i_little_L0_B v.1.1.1 v.1.2.1.1 v.1.2.2.1.1 γ fail next out
  par v γ fail next out := i_little_L0_par v.1.1.1 v.1.2.1.1 v.1.2.2.1.1 γ fail next out
def i_little_L0_fu (v0 : List Int) (v1 : Int) (v2 : Int) : Nat := (Int.toNat (v2 - 0 + 1)) + 1
theorem i_little_L0_lk (v : i_little_L0_sh.T) (next : St → Option Res) (k : Ex → St → Option Res) : evalK te (orcOf (P := Try.prog) []) (lorcOf []) Try.f95.ntmps i_little_ann (nthLoop (bodyOf Try.f95) 0 0) 0 (i_little_L0_sh.enc v) (endK ⟨[0, 3, 4], [], false, 0⟩ ⟨[2, 3], [], false, 0⟩ next k) =
  i_little_L0_r.B v _ none (fun v' => next (i_little_L0_sh.enc v')) (fun w => outK i_little_L0_es k w) := by kernel_rfl
def i_little_L0_le : LE := leOf 0 i_little_L0_sh i_little_L0_es i_little_L0_r.step (fun v => i_little_L0_fu v.1.1.1 v.1.2.1.1 v.1.2.2.1.1)
theorem i_little_L0_ls (w0 : World) (mo : Mts) (I0 : Nat → Prop) (hmo : mo.length = 0) : LSem Try.prog (Sim w0 mo Try.f95.ntmps I0) (fun b s k => match Nat.beq 0 b with | true => i_little_L0_le.run s k | false => none) 0 (nthLoop (bodyOf Try.f95) 0 0) :=
  le_sem hmo (lorc := lorcOf []) (ann := i_little_ann) (keep := ⟨[0, 3, 4], [], false, 0⟩) (kout := ⟨[2, 3], [], false, 0⟩) teFact mixFact (orcOf_ok _) (by kernel_rfl) (allLoops_of (bs := []) (by kernel_rfl) trivial) i_little_L0_r _ i_little_L0_lk
def i_little_L0_f (v0 : List Int) (v2 : Int) (a : Int) : Stp (Int) (Empty) :=
  letK (α := Int) (bits .or .u64 (IntKind.wrap .u64 (a * 256)) (IntKind.wrap .u64 (v0.getD v2.toNat 0))) fun e1 =>
  .next e1
theorem i_little_L0_st (v0 : List Int) (v1 : Int) (v2 : Int) (hlo : 0 ≤ v2) (hhi : v2 ≤ 9223372036854775807) (hN : 0 ≤ 0) (hinv : v2 < (v0.length : Int)) : i_little_L0_r.step (i_little_L0_mk v0 v1 v2) = Stp.elim (fun a' : Int => some (Sum.inl (i_little_L0_mk v0 a' (v2 + (-1))))) (fun w => some (Sum.inr ((fun p : Empty => nomatch p) w))) (i_little_L0_f v0 v2 v1) := by
  have hw : (IntKind.wrap .i64 (v2 - 1)) = v2 + (-1) := wrap64 (by omega) (by omega)
  show i_little_L0_B v0 v1 v2 (Option (i_little_L0_sh.T ⊕ WT i_little_L0_es)) none (fun v' => some (Sum.inl v')) (fun w => some (Sum.inr w)) = _
  unfold i_little_L0_B i_little_L0_f
  exact bifG (by simp only [decide_eq_true_eq]; omega) (bifG (by (try simp only [Nat.ble_eq, Bool.and_eq_true, decide_eq_true_eq]); grind [maxSl, maxStr, toBytes_length, toInts_length, List.length_set, wrap64]) (letT (f := (Stp.elim (fun a' : Int => some (Sum.inl (i_little_L0_mk v0 a' (v2 + (-1))))) (fun w => some (Sum.inr ((fun p : Empty => nomatch p) w))))) (fun e1 he1 => (by exact congrArg (fun z => some (Sum.inl (i_little_L0_mk v0 e1 z))) hw))))
theorem i_little_L0_cl (v0 : List Int) (v1 : Int) (v2 : Int) (h0 : v2 ≤ 9223372036854775807) (h1 : 0 ≤ 0) (h2 : v2 < (v0.length : Int)) : loopF i_little_L0_r.step (i_little_L0_fu v0 v1 v2) (i_little_L0_mk v0 v1 v2) = some (Stp.elim (fun a => (fun i a => i_little_L0_mx0 a) (v2 + (-1) * (((Int.toNat (v2 - 0 + 1)) : Nat) : Int)) a) (fun p : Empty => nomatch p) (forN (i_little_L0_f v0) (-1) (Int.toNat (v2 - 0 + 1)) v2 v1)) :=
  forN_loop (step := i_little_L0_r.step) (mk := fun v2 a => i_little_L0_mk v0 a v2) (f := i_little_L0_f v0) (e := (fun i a => i_little_L0_mx0 a)) (emb := (fun p : Empty => nomatch p)) (st := (-1)) (Inv := fun v2 a => v2 < (v0.length : Int)) (Int.toNat (v2 - 0 + 1)) v2 v1 _ (Nat.lt_succ_self _) h2
    (fun j a hj hv => ⟨i_little_L0_st v0 a (v2 + (-1) * (j : Int)) (by omega) (by omega) (by omega) hv, by
      intro a' he
      grind [i_little_L0_f, letK, Stp.elim, wrap64, List.length_set]⟩)
    (fun a hv => by
      show i_little_L0_B v0 a (v2 + (-1) * (((Int.toNat (v2 - 0 + 1)) : Nat) : Int)) (Option (i_little_L0_sh.T ⊕ WT i_little_L0_es)) none (fun v' => some (Sum.inl v')) (fun w => some (Sum.inr w)) = _
      unfold i_little_L0_B
      exact bifN (by simp only [decide_eq_false_iff_not]; omega) rfl)
theorem i_little_L0_nx (v0 : List Int) (v1 : Int) (v2 : Int) (h0 : v2 ≤ 9223372036854775807) (h1 : 0 ≤ 0) (h2 : v2 < (v0.length : Int)) : ∀ a', forN (i_little_L0_f v0) (-1) (Int.toNat (v2 - 0 + 1)) v2 v1 = .next a' → (v2 + (-1) * (((Int.toNat (v2 - 0 + 1)) : Nat) : Int)) < (v0.length : Int) :=
  forN_inv (f := i_little_L0_f v0) (st := (-1)) (Inv := fun v2 a => v2 < (v0.length : Int)) (Int.toNat (v2 - 0 + 1)) v2 v1 h2
    (fun j a hj hv => by
      intro a' he
      grind [i_little_L0_f, letK, Stp.elim, wrap64, List.length_set])
def i_little_N (x0 : List Int) (γ : Type) (fail : γ) (k : Int → γ) : γ :=
  optK (loopF i_little_L0_r.step (i_little_L0_fu x0 0 7) (i_little_L0_mk x0 0 7)) fail fun w2 =>
    k w2.1.2.1.1
def i_little (x0 : List Int) : Int :=
  Stp.elim (fun a3 =>
    a3)
    (fun p : Empty => nomatch p)
    (forN (i_little_L0_f x0) (-1) (Int.toNat (7 - 0 + 1)) 7 0)
theorem i_little_lk (x0 : List Int) : evalFn te (orcOf (P := Try.prog) []) (lorcOf [i_little_L0_le]) i_little_ann Try.f95 (pvs [.sc (.sl .u8)] (x0, ())) =
  i_little_N x0 _ none (fun v => some [(false, [RC.c (.int .u64 v)])]) := by kernel_rfl
theorem i_little_p (x0 : List Int) (hx0 : x0.length ≤ 140737488355328) (hp : 8 ≤ x0.length) (γ : Type) (fail : γ) (k : Int → γ) : i_little_N x0 γ fail k = k (i_little x0) := by
  unfold i_little_N i_little
  exact loopX (f := k) (i_little_L0_cl x0 0 7 (by (try simp only [Nat.ble_eq, Bool.and_eq_true, decide_eq_true_eq, i_little_L0_mx0]); grind [maxSl, maxStr, toBytes_length, toInts_length, List.length_set, wrap64]) (by (try simp only [Nat.ble_eq, Bool.and_eq_true, decide_eq_true_eq, i_little_L0_mx0]); grind [maxSl, maxStr, toBytes_length, toInts_length, List.length_set, wrap64]) (by (try simp only [Nat.ble_eq, Bool.and_eq_true, decide_eq_true_eq, i_little_L0_mx0]); grind [maxSl, maxStr, toBytes_length, toInts_length, List.length_set, wrap64])) (fun a3 ha3 => have ia3 := i_little_L0_nx x0 0 7 (by (try simp only [Nat.ble_eq, Bool.and_eq_true, decide_eq_true_eq, i_little_L0_mx0]); grind [maxSl, maxStr, toBytes_length, toInts_length, List.length_set, wrap64]) (by (try simp only [Nat.ble_eq, Bool.and_eq_true, decide_eq_true_eq, i_little_L0_mx0]); grind [maxSl, maxStr, toBytes_length, toInts_length, List.length_set, wrap64]) (by (try simp only [Nat.ble_eq, Bool.and_eq_true, decide_eq_true_eq, i_little_L0_mx0]); grind [maxSl, maxStr, toBytes_length, toInts_length, List.length_set, wrap64]) _ ha3; rfl)
      (fun p : Empty => nomatch p)
theorem i_little_c (x0 : List Int) (hp : 8 ≤ x0.length) : Con Try.prog 95 (pvs [.sc (.sl .u8)] (x0, ())) [rv (.sc (.int .u64)) [] (i_little x0)] := by
  refine Con.of_facts (enters_of Try.func95 rfl (by kernel_rfl)) fun hf => ?_
  replace hf := factAt hf
  exact evalFn_conL teFact mixFact (orcOf_ok _) Try.func95 (by kernel_rfl) (bs := [0]) (by kernel_rfl) (by kernel_rfl) (fun w0 mo I0 hmo => ⟨lsem_of_lorc (i_little_L0_ls w0 mo I0 hmo) (by kernel_rfl), trivial⟩) ((i_little_lk x0).trans (i_little_p x0 ((hf 0 0 rfl rfl).len) hp _ _ _))
noncomputable def i_little_e : Ent1 Try.prog := entP 95 [.sc (.sl .u8)] (fun x => (decide (8 ≤ x.1.length))) (fun x => (i_little x.1)) (fun v => [rv (.sc (.int .u64)) [] v]) (fun x hx => i_little_c x.1 (of_decide_eq_true hx))


/-- math/bits.RotateLeft64 -/
def mb_RotateLeft64_N (x0 : Int) (x1 : Int) (γ : Type) (fail : γ) (k : Int → γ) : γ :=
  bif (decide (0 ≤ (bits .and .u64 (IntKind.wrap .u64 x1) 63))) then
  letK (α := Int) (IntKind.wrap .u64 (x0 * 2 ^ (min (bits .and .u64 (IntKind.wrap .u64 x1) 63).toNat 64))) fun e1 =>
  bif (decide (0 ≤ (IntKind.wrap .u64 (64 - (bits .and .u64 (IntKind.wrap .u64 x1) 63))))) then
  letK (α := Int) (x0.fdiv (2 ^ (min (IntKind.wrap .u64 (64 - (bits .and .u64 (IntKind.wrap .u64 x1) 63))).toNat 64))) fun e2 =>
  k (bits .or .u64 e1 e2)
  else fail
  else fail
def mb_RotateLeft64 (x0 : Int) (x1 : Int) : Int :=
  letK (α := Int) (IntKind.wrap .u64 (x0 * 2 ^ (min (bits .and .u64 (IntKind.wrap .u64 x1) 63).toNat 64))) fun e1 =>
  letK (α := Int) (x0.fdiv (2 ^ (min (IntKind.wrap .u64 (64 - (bits .and .u64 (IntKind.wrap .u64 x1) 63))).toNat 64))) fun e2 =>
  (bits .or .u64 e1 e2)
theorem mb_RotateLeft64_lk (x0 : Int) (x1 : Int) : evalFn te (orcOf (P := Try.prog) []) lorc0 [] Try.f129 (pvs [.sc (.int .u64), .sc (.int .i64)] (x0, x1, ())) =
  mb_RotateLeft64_N x0 x1 _ none (fun v => some [(false, [RC.c (.int .u64 v)])]) := by kernel_rfl
theorem mb_RotateLeft64_p (x0 : Int) (x1 : Int) (hx0 : inK .u64 x0) (hx1 : inK .i64 x1)  (γ : Type) (fail : γ) (k : Int → γ) : mb_RotateLeft64_N x0 x1 γ fail k = k (mb_RotateLeft64 x0 x1) := by
  unfold mb_RotateLeft64_N mb_RotateLeft64
  exact bifG (by (try simp only [decide_eq_true_eq]); first | exact andMask_nonneg _ | exact wrapU_nonneg _) (letT (f := k) (fun e1 he1 => bifG (by (try simp only [decide_eq_true_eq]); first | exact andMask_nonneg _ | exact wrapU_nonneg _) (letT (f := k) (fun e2 he2 => rfl))))
theorem mb_RotateLeft64_c (x0 : Int) (x1 : Int)  : Con Try.prog 129 (pvs [.sc (.int .u64), .sc (.int .i64)] (x0, x1, ())) [rv (.sc (.int .u64)) [] (mb_RotateLeft64 x0 x1)] := by
  refine Con.of_facts (enters_of Try.func129 rfl (by kernel_rfl)) fun hf => ?_
  replace hf := factAt hf
  exact evalFn_con0 teFact mixFact (orcOf_ok _) Try.func129 (by kernel_rfl) ((mb_RotateLeft64_lk x0 x1).trans (mb_RotateLeft64_p x0 x1 ((hf 0 0 rfl rfl).rng) ((hf 1 0 rfl rfl).rng) _ _ _))
noncomputable def mb_RotateLeft64_e : Ent1 Try.prog := entA 129 [.sc (.int .u64), .sc (.int .i64)] (fun x => (mb_RotateLeft64 x.1 x.2.1)) (fun v => [rv (.sc (.int .u64)) [] v]) (fun x => mb_RotateLeft64_c x.1 x.2.1)


/-- spec.l10Turn -/
def s_l10Turn_N (x0 : Int) (x1 : Int) (γ : Type) (fail : γ) (k : Int → γ) : γ :=
  bif (decide (0 ≤ x1)) then
  bif (decide (0 ≤ (IntKind.wrap .u64 (64 - x1)))) then
  letK (α := Int) (bits .or .u64 (IntKind.wrap .u64 (x0 * 2 ^ (min x1.toNat 64))) (x0.fdiv (2 ^ (min (IntKind.wrap .u64 (64 - x1)).toNat 64)))) fun e1 =>
  k e1
  else fail
  else fail
def s_l10Turn (x0 : Int) (x1 : Int) : Int :=
  letK (α := Int) (bits .or .u64 (IntKind.wrap .u64 (x0 * 2 ^ (min x1.toNat 64))) (x0.fdiv (2 ^ (min (IntKind.wrap .u64 (64 - x1)).toNat 64)))) fun e1 =>
  e1
theorem s_l10Turn_lk (x0 : Int) (x1 : Int) : evalFn te (orcOf (P := Try.prog) []) lorc0 [] Try.f138 (pvs [.sc (.int .u64), .sc (.int .u64)] (x0, x1, ())) =
  s_l10Turn_N x0 x1 _ none (fun v => some [(false, [RC.c (.int .u64 v)])]) := by kernel_rfl
theorem s_l10Turn_p (x0 : Int) (x1 : Int) (hx0 : inK .u64 x0) (hx1 : inK .u64 x1)  (γ : Type) (fail : γ) (k : Int → γ) : s_l10Turn_N x0 x1 γ fail k = k (s_l10Turn x0 x1) := by
  unfold s_l10Turn_N s_l10Turn
  exact bifG (by (try simp only [decide_eq_true_eq]); have hh := inKU64 hx1; first | omega | exact wrapU_nonneg _) (bifG (by (try simp only [decide_eq_true_eq]); have hh := inKU64 hx1; first | omega | exact wrapU_nonneg _) (letT (f := k) (fun e1 he1 => rfl)))
theorem s_l10Turn_c (x0 : Int) (x1 : Int)  : Con Try.prog 138 (pvs [.sc (.int .u64), .sc (.int .u64)] (x0, x1, ())) [rv (.sc (.int .u64)) [] (s_l10Turn x0 x1)] := by
  refine Con.of_facts (enters_of Try.func138 rfl (by kernel_rfl)) fun hf => ?_
  replace hf := factAt hf
  exact evalFn_con0 teFact mixFact (orcOf_ok _) Try.func138 (by kernel_rfl) ((s_l10Turn_lk x0 x1).trans (s_l10Turn_p x0 x1 ((hf 0 0 rfl rfl).rng) ((hf 1 0 rfl rfl).rng) _ _ _))
noncomputable def s_l10Turn_e : Ent1 Try.prog := entA 138 [.sc (.int .u64), .sc (.int .u64)] (fun x => (s_l10Turn x.1 x.2.1)) (fun v => [rv (.sc (.int .u64)) [] v]) (fun x => s_l10Turn_c x.1 x.2.1)


/-- spec.Assigned -/
def s_Assigned_ann : List (Nat × Keep) := [(0, ⟨[0, 1, 2, 6, 7, 8], [], false, 0⟩)]
def s_Assigned_L0_sh : Sh := ⟨[(0, false, [.sl .arg .str]), (1, false, [.int .i64]), (2, false, [.int .i64]), (6, false, [.ptr 0 0]), (7, false, [.own 1]), (8, false, [.int .i64])], [.box [.bool, .int .u64, .int .u64, .nil], .arr .macRow false true]⟩
def s_Assigned_L0_es : List (Ex × Sh) := [(.exit 0, ⟨[(6, false, [.ptr 0 0]), (7, false, [.own 1])], [.box [.bool, .int .u64, .int .u64, .nil], .arr .macRow false true]⟩)]
def s_Assigned_L0_mk (v0 : List Bytes) (v1 : Int) (v2 : Int) (v3 : Int) (v4 : Bool) (v5 : Int) (v6 : Int) (v7 : List MacRow) : s_Assigned_L0_sh.T := (((v0, ()), ((v1, ()), ((v2, ()), (((), ()), (((), ()), ((v3, ()), ())))))), ((v4, (v5, (v6, ((), ())))), (v7, ())))
def s_Assigned_L0_mx0 (y0 : Bool) (y1 : Int) (y2 : Int) (y3 : List MacRow) : Sh.T ⟨[(6, false, [.ptr 0 0]), (7, false, [.own 1])], [.box [.bool, .int .u64, .int .u64, .nil], .arr .macRow false true]⟩ := ((((), ()), (((), ()), ())), ((y0, (y1, (y2, ((), ())))), (y3, ())))
def s_Assigned_L0_B (v0 : List Bytes) (v1 : Int) (v2 : Int) (v3 : Int) (v4 : Bool) (v5 : Int) (v6 : Int) (v7 : List MacRow) (γ : Type) (fail : γ) (next : s_Assigned_L0_sh.T → γ) (out : WT s_Assigned_L0_es → γ) : γ :=
  bif (decide (v3 < (v0.length : Int))) then
    bif ((decide (0 ≤ v3)) && (decide (v3 < (v0.length : Int)))) then
    bif (v1 != 0) then
    bif (Nat.ble ((2 * (v7.length + 1) + 1024) * 24) maxSl) then
    bif (v1 != 0) then
    next (s_Assigned_L0_mk v0 v1 (IntKind.wrap .i64 (v2.tdiv v1)) (IntKind.wrap .i64 (v3 + 1)) v4 v5 v6 (v7 ++ [(⟨(v0.getD v3.toNat []), (v2.tmod v1)⟩ : MacRow)]))
    else fail
    else fail
    else fail
    else fail
  else
  out (s_Assigned_L0_mx0 v4 v5 v6 v7)
theorem s_Assigned_L0_par (v0 : List Bytes) (v1 : Int) (v2 : Int) (v3 : Int) (v4 : Bool) (v5 : Int) (v6 : Int) (v7 : List MacRow) (γ : Type) (fail : γ) (next : s_Assigned_L0_sh.T → γ) (out : WT s_Assigned_L0_es → γ) : s_Assigned_L0_B v0 v1 v2 v3 v4 v5 v6 v7 γ fail next out = optK (s_Assigned_L0_B v0 v1 v2 v3 v4 v5 v6 v7 _ none (fun v' => some (.inl v')) (fun w => some (.inr w))) fail (fun r => Sum.elim next out r) := by
  unfold s_Assigned_L0_B
  exact bifT (f := (fun o => optK o fail (fun r => Sum.elim next out r))) (fun _ => bifT (f := (fun o => optK o fail (fun r => Sum.elim next out r))) (fun _ => bifT (f := (fun o => optK o fail (fun r => Sum.elim next out r))) (fun _ => bifT (f := (fun o => optK o fail (fun r => Sum.elim next out r))) (fun _ => bifT (f := (fun o => optK o fail (fun r => Sum.elim next out r))) (fun _ => rfl) (fun _ => rfl)) (fun _ => rfl)) (fun _ => rfl)) (fun _ => rfl))
      (fun _ => rfl)
def s_Assigned_L0_r : Round s_Assigned_L0_sh.T (WT s_Assigned_L0_es) where
  B v γ fail next out := s_Assigned_L0_B v.1.1.1 v.1.2.1.1 v.1.2.2.1.1 v.1.2.2.2.2.2.1.1 v.2.1.1 v.2.1.2.1 v.2.1.2.2.1 v.2.2.1 γ fail next out
  par v γ fail next out := s_Assigned_L0_par v.1.1.1 v.1.2.1.1 v.1.2.2.1.1 v.1.2.2.2.2.2.1.1 v.2.1.1 v.2.1.2.1 v.2.1.2.2.1 v.2.2.1 γ fail next out
def s_Assigned_L0_fu (v0 : List Bytes) (v1 : Int) (v2 : Int) (v3 : Int) (v4 : Bool) (v5 : Int) (v6 : Int) (v7 : List MacRow) : Nat := (Int.toNat ((v0.length : Int) - v3)) + 1
theorem s_Assigned_L0_lk (v : s_Assigned_L0_sh.T) (next : St → Option Res) (k : Ex → St → Option Res) : evalK te (orcOf (P := Try.prog) [s_l1In_e, s_TableMac_e]) (lorcOf []) Try.f13.ntmps s_Assigned_ann (nthLoop (bodyOf Try.f13) 0 0) 0 (s_Assigned_L0_sh.enc v) (endK ⟨[0, 1, 2, 6, 7, 8], [], false, 0⟩ ⟨[6, 7], [], false, 0⟩ next k) =
  s_Assigned_L0_r.B v _ none (fun v' => next (s_Assigned_L0_sh.enc v')) (fun w => outK s_Assigned_L0_es k w) := by kernel_rfl
def s_Assigned_L0_le : LE := leOf 0 s_Assigned_L0_sh s_Assigned_L0_es s_Assigned_L0_r.step (fun v => s_Assigned_L0_fu v.1.1.1 v.1.2.1.1 v.1.2.2.1.1 v.1.2.2.2.2.2.1.1 v.2.1.1 v.2.1.2.1 v.2.1.2.2.1 v.2.2.1)
theorem s_Assigned_L0_ls (w0 : World) (mo : Mts) (I0 : Nat → Prop) (hmo : mo.length = 0) : LSem Try.prog (Sim w0 mo Try.f13.ntmps I0) (fun b s k => match Nat.beq 0 b with | true => s_Assigned_L0_le.run s k | false => none) 0 (nthLoop (bodyOf Try.f13) 0 0) :=
  le_sem hmo (lorc := lorcOf []) (ann := s_Assigned_ann) (keep := ⟨[0, 1, 2, 6, 7, 8], [], false, 0⟩) (kout := ⟨[6, 7], [], false, 0⟩) teFact mixFact (orcOf_ok _) (by kernel_rfl) (allLoops_of (bs := []) (by kernel_rfl) trivial) s_Assigned_L0_r _ s_Assigned_L0_lk
def s_Assigned_L0_f (v0 : List Bytes) (v1 : Int) (v4 : Bool) (v5 : Int) (v6 : Int) (v3 : Int) (a : Int × List MacRow) : Stp (Int × List MacRow) (Empty) :=
  .next ((IntKind.wrap .i64 (a.1.tdiv v1)), (a.2 ++ [(⟨(v0.getD v3.toNat []), (a.1.tmod v1)⟩ : MacRow)]))
theorem s_Assigned_L0_st (v0 : List Bytes) (v1 : Int) (v2 : Int) (v3 : Int) (v4 : Bool) (v5 : Int) (v6 : Int) (v7 : List MacRow) (hlo : 0 ≤ v3) (hhi : v3 < (v0.length : Int)) (hN : (v0.length : Int) ≤ 4611686018427387904) (hi0 : v1 ≠ 0) (hi1 : (v0.length : Int) ≤ 4294967296) (hinv : (v7.length : Int) ≤ v3) : s_Assigned_L0_r.step (s_Assigned_L0_mk v0 v1 v2 v3 v4 v5 v6 v7) = Stp.elim (fun a' : Int × List MacRow => some (Sum.inl (s_Assigned_L0_mk v0 v1 a'.1 (v3 + 1) v4 v5 v6 a'.2))) (fun w => some (Sum.inr ((fun p : Empty => nomatch p) w))) (s_Assigned_L0_f v0 v1 v4 v5 v6 v3 (v2, v7)) := by
  have hw : (IntKind.wrap .i64 (v3 + 1)) = v3 + 1 := wrap64 (by omega) (by omega)
  show s_Assigned_L0_B v0 v1 v2 v3 v4 v5 v6 v7 (Option (s_Assigned_L0_sh.T ⊕ WT s_Assigned_L0_es)) none (fun v' => some (Sum.inl v')) (fun w => some (Sum.inr w)) = _
  unfold s_Assigned_L0_B s_Assigned_L0_f
  exact bifG (by simp only [decide_eq_true_eq]; omega) (bifG (by (try simp only [Nat.ble_eq, Bool.and_eq_true, decide_eq_true_eq]); grind [maxSl, maxStr, toBytes_length, toInts_length, List.length_set, wrap64, s_TableMac_len]) (bifG (by (try simp only [Nat.ble_eq, Bool.and_eq_true, decide_eq_true_eq]); grind [maxSl, maxStr, toBytes_length, toInts_length, List.length_set, wrap64, s_TableMac_len]) (bifG (by (try simp only [Nat.ble_eq, Bool.and_eq_true, decide_eq_true_eq]); grind [maxSl, maxStr, toBytes_length, toInts_length, List.length_set, wrap64, s_TableMac_len]) (bifG (by (try simp only [Nat.ble_eq, Bool.and_eq_true, decide_eq_true_eq]); grind [maxSl, maxStr, toBytes_length, toInts_length, List.length_set, wrap64, s_TableMac_len]) ((by exact congrArg (fun z => some (Sum.inl (s_Assigned_L0_mk v0 v1 (IntKind.wrap .i64 (v2.tdiv v1)) z v4 v5 v6 (v7 ++ [(⟨(v0.getD v3.toNat []), (v2.tmod v1)⟩ : MacRow)])))) hw))))))
theorem s_Assigned_L0_cl (v0 : List Bytes) (v1 : Int) (v2 : Int) (v3 : Int) (v4 : Bool) (v5 : Int) (v6 : Int) (v7 : List MacRow) (h0 : 0 ≤ v3) (h1 : (v0.length : Int) ≤ 4611686018427387904) (h2 : v1 ≠ 0) (h3 : (v0.length : Int) ≤ 4294967296) (h4 : (v7.length : Int) ≤ v3) : loopF s_Assigned_L0_r.step (s_Assigned_L0_fu v0 v1 v2 v3 v4 v5 v6 v7) (s_Assigned_L0_mk v0 v1 v2 v3 v4 v5 v6 v7) = some (Stp.elim (fun a => (fun i a => s_Assigned_L0_mx0 v4 v5 v6 a.2) (v3 + 1 * (((Int.toNat ((v0.length : Int) - v3)) : Nat) : Int)) a) (fun p : Empty => nomatch p) (forN (s_Assigned_L0_f v0 v1 v4 v5 v6) 1 (Int.toNat ((v0.length : Int) - v3)) v3 (v2, v7))) :=
  forN_loop (step := s_Assigned_L0_r.step) (mk := fun v3 a => s_Assigned_L0_mk v0 v1 a.1 v3 v4 v5 v6 a.2) (f := s_Assigned_L0_f v0 v1 v4 v5 v6) (e := (fun i a => s_Assigned_L0_mx0 v4 v5 v6 a.2)) (emb := (fun p : Empty => nomatch p)) (st := 1) (Inv := fun v3 a => (a.2.length : Int) ≤ v3) (Int.toNat ((v0.length : Int) - v3)) v3 (v2, v7) _ (Nat.lt_succ_self _) h4
    (fun j a hj hv => ⟨s_Assigned_L0_st v0 v1 a.1 (v3 + 1 * (j : Int)) v4 v5 v6 a.2 (by omega) (by omega) (by omega) h2 h3 hv, by
      intro a' he
      grind [s_Assigned_L0_f, letK, Stp.elim, wrap64, List.length_set, s_TableMac_len]⟩)
    (fun a hv => by
      show s_Assigned_L0_B v0 v1 a.1 (v3 + 1 * (((Int.toNat ((v0.length : Int) - v3)) : Nat) : Int)) v4 v5 v6 a.2 (Option (s_Assigned_L0_sh.T ⊕ WT s_Assigned_L0_es)) none (fun v' => some (Sum.inl v')) (fun w => some (Sum.inr w)) = _
      unfold s_Assigned_L0_B
      exact bifN (by simp only [decide_eq_false_iff_not]; omega) rfl)
theorem s_Assigned_L0_nx (v0 : List Bytes) (v1 : Int) (v2 : Int) (v3 : Int) (v4 : Bool) (v5 : Int) (v6 : Int) (v7 : List MacRow) (h0 : 0 ≤ v3) (h1 : (v0.length : Int) ≤ 4611686018427387904) (h2 : v1 ≠ 0) (h3 : (v0.length : Int) ≤ 4294967296) (h4 : (v7.length : Int) ≤ v3) : ∀ a', forN (s_Assigned_L0_f v0 v1 v4 v5 v6) 1 (Int.toNat ((v0.length : Int) - v3)) v3 (v2, v7) = .next a' → (a'.2.length : Int) ≤ (v3 + 1 * (((Int.toNat ((v0.length : Int) - v3)) : Nat) : Int)) :=
  forN_inv (f := s_Assigned_L0_f v0 v1 v4 v5 v6) (st := 1) (Inv := fun v3 a => (a.2.length : Int) ≤ v3) (Int.toNat ((v0.length : Int) - v3)) v3 (v2, v7) h4
    (fun j a hj hv => by
      intro a' he
      grind [s_Assigned_L0_f, letK, Stp.elim, wrap64, List.length_set, s_TableMac_len])
def s_Assigned_N (x0 : List Bytes) (x1 : Int) (x2 : Int) (γ : Type) (fail : γ) (k : Mac → γ) : γ :=
  letK (α := Bool) (s_l1In x1 1 4) fun c1 =>
  bif (!c1) then
    k (⟨false, 0, 0, []⟩ : Mac)
  else
  bif (decide (x2 < 0)) then
    k (⟨false, 0, 0, []⟩ : Mac)
  else
  bif (decide (4 < (x0.length : Int))) then
    k (⟨false, 0, 0, []⟩ : Mac)
  else
  optK (loopF s_Assigned_L0_r.step (s_Assigned_L0_fu x0 x1 x2 0 false 0 0 []) (s_Assigned_L0_mk x0 x1 x2 0 false 0 0 [])) fail fun w2 =>
    bif (decide (w2.2.2.1.length ≤ 4294967296)) then
    letK (α := Mac) (s_TableMac w2.2.2.1) fun c3 =>
    k c3
    else fail
def s_Assigned (x0 : List Bytes) (x1 : Int) (x2 : Int) : Mac :=
  letK (α := Bool) (s_l1In x1 1 4) fun c1 =>
  bif (!c1) then
    (⟨false, 0, 0, []⟩ : Mac)
  else
  bif (decide (x2 < 0)) then
    (⟨false, 0, 0, []⟩ : Mac)
  else
  bif (decide (4 < (x0.length : Int))) then
    (⟨false, 0, 0, []⟩ : Mac)
  else
  Stp.elim (fun a4 =>
    letK (α := Mac) (s_TableMac a4.2) fun c5 =>
    c5)
    (fun p : Empty => nomatch p)
    (forN (s_Assigned_L0_f x0 x1 false 0 0) 1 (Int.toNat ((x0.length : Int) - 0)) 0 (x2, []))
theorem s_Assigned_lk (x0 : List Bytes) (x1 : Int) (x2 : Int) : evalFn te (orcOf (P := Try.prog) [s_l1In_e, s_TableMac_e]) (lorcOf [s_Assigned_L0_le]) s_Assigned_ann Try.f13 (pvs [.sc (.sl .str), .sc (.int .i64), .sc (.int .i64)] (x0, x1, x2, ())) =
  s_Assigned_N x0 x1 x2 _ none (fun v => some [(true, [RC.c (.bool v.use), RC.c (.int .u64 v.k), RC.c (.int .u64 v.l), RC.own true .macRow v.rows])]) := by kernel_rfl
theorem s_Assigned_p (x0 : List Bytes) (x1 : Int) (x2 : Int) (hx0 : x0.length ≤ 140737488355328) (hx0_e : ∀ y ∈ x0, List.length y ≤ 4611686018427387904) (hx1 : inK .i64 x1) (hx2 : inK .i64 x2) (hp : x0.length ≤ 4294967296) (γ : Type) (fail : γ) (k : Mac → γ) : s_Assigned_N x0 x1 x2 γ fail k = k (s_Assigned x0 x1 x2) := by
  unfold s_Assigned_N s_Assigned
  exact letT (f := k) (fun c1 hc1 => bifT (f := k) (fun b0 => rfl)
      (fun b0 => bifT (f := k) (fun b1 => rfl)
      (fun b1 => bifT (f := k) (fun b2 => rfl)
      (fun b2 => loopX (f := k) (s_Assigned_L0_cl x0 x1 x2 0 false 0 0 [] (by (try simp only [Nat.ble_eq, Bool.and_eq_true, decide_eq_true_eq, s_Assigned_L0_mx0]); grind [maxSl, maxStr, toBytes_length, toInts_length, List.length_set, wrap64, s_l1In_eq, s_TableMac_len]) (by (try simp only [Nat.ble_eq, Bool.and_eq_true, decide_eq_true_eq, s_Assigned_L0_mx0]); grind [maxSl, maxStr, toBytes_length, toInts_length, List.length_set, wrap64, s_l1In_eq, s_TableMac_len]) (by (try simp only [Nat.ble_eq, Bool.and_eq_true, decide_eq_true_eq, s_Assigned_L0_mx0]); grind [maxSl, maxStr, toBytes_length, toInts_length, List.length_set, wrap64, s_l1In_eq, s_TableMac_len]) (by (try simp only [Nat.ble_eq, Bool.and_eq_true, decide_eq_true_eq, s_Assigned_L0_mx0]); grind [maxSl, maxStr, toBytes_length, toInts_length, List.length_set, wrap64, s_l1In_eq, s_TableMac_len]) (by (try simp only [Nat.ble_eq, Bool.and_eq_true, decide_eq_true_eq, s_Assigned_L0_mx0]); grind [maxSl, maxStr, toBytes_length, toInts_length, List.length_set, wrap64, s_l1In_eq, s_TableMac_len])) (fun a4 ha4 => have ia4 := s_Assigned_L0_nx x0 x1 x2 0 false 0 0 [] (by (try simp only [Nat.ble_eq, Bool.and_eq_true, decide_eq_true_eq, s_Assigned_L0_mx0]); grind [maxSl, maxStr, toBytes_length, toInts_length, List.length_set, wrap64, s_l1In_eq, s_TableMac_len]) (by (try simp only [Nat.ble_eq, Bool.and_eq_true, decide_eq_true_eq, s_Assigned_L0_mx0]); grind [maxSl, maxStr, toBytes_length, toInts_length, List.length_set, wrap64, s_l1In_eq, s_TableMac_len]) (by (try simp only [Nat.ble_eq, Bool.and_eq_true, decide_eq_true_eq, s_Assigned_L0_mx0]); grind [maxSl, maxStr, toBytes_length, toInts_length, List.length_set, wrap64, s_l1In_eq, s_TableMac_len]) (by (try simp only [Nat.ble_eq, Bool.and_eq_true, decide_eq_true_eq, s_Assigned_L0_mx0]); grind [maxSl, maxStr, toBytes_length, toInts_length, List.length_set, wrap64, s_l1In_eq, s_TableMac_len]) (by (try simp only [Nat.ble_eq, Bool.and_eq_true, decide_eq_true_eq, s_Assigned_L0_mx0]); grind [maxSl, maxStr, toBytes_length, toInts_length, List.length_set, wrap64, s_l1In_eq, s_TableMac_len]) _ ha4; bifG (by (try simp only [Nat.ble_eq, Bool.and_eq_true, decide_eq_true_eq, s_Assigned_L0_mx0]); grind [maxSl, maxStr, toBytes_length, toInts_length, List.length_set, wrap64, s_l1In_eq, s_TableMac_len]) (letT (f := k) (fun c5 hc5 => rfl)))
      (fun p : Empty => nomatch p)))))
theorem s_Assigned_c (x0 : List Bytes) (x1 : Int) (x2 : Int) (hp : x0.length ≤ 4294967296) : Con Try.prog 13 (pvs [.sc (.sl .str), .sc (.int .i64), .sc (.int .i64)] (x0, x1, x2, ())) [rv (.st .mac) [.c, .c, .c, .o true] (s_Assigned x0 x1 x2)] := by
  refine Con.of_facts (enters_of Try.func13 rfl (by kernel_rfl)) fun hf => ?_
  replace hf := factAt hf
  exact evalFn_conL teFact mixFact (orcOf_ok _) Try.func13 (by kernel_rfl) (bs := [0]) (by kernel_rfl) (by kernel_rfl) (fun w0 mo I0 hmo => ⟨lsem_of_lorc (s_Assigned_L0_ls w0 mo I0 hmo) (by kernel_rfl), trivial⟩) ((s_Assigned_lk x0 x1 x2).trans (s_Assigned_p x0 x1 x2 ((hf 0 0 rfl rfl).len) (fun y hy => ((hf 0 0 rfl rfl).elem hy (.str y) List.mem_cons_self).slen) ((hf 1 0 rfl rfl).rng) ((hf 2 0 rfl rfl).rng) hp _ _ _))
noncomputable def s_Assigned_e : Ent1 Try.prog := entP 13 [.sc (.sl .str), .sc (.int .i64), .sc (.int .i64)] (fun x => (decide (x.1.length ≤ 4294967296))) (fun x => (s_Assigned x.1 x.2.1 x.2.2.1)) (fun v => [rv (.st .mac) [.c, .c, .c, .o true] v]) (fun x hx => s_Assigned_c x.1 x.2.1 x.2.2.1 (of_decide_eq_true hx))

theorem s_Assigned_len (x0 : List Bytes) (x1 : Int) (x2 : Int) (hp : x0.length ≤ 4294967296)  : (fun v : Mac => v.rows.length ≤ 4) (s_Assigned x0 x1 x2) := by
  unfold s_Assigned
  exact letP (P := (fun v : Mac => v.rows.length ≤ 4)) (fun c1 hc1 => bifP (P := (fun v : Mac => v.rows.length ≤ 4)) (fun b0 => (by (try simp only [Nat.ble_eq, Bool.and_eq_true, decide_eq_true_eq, s_Assigned_L0_mx0]); grind [maxSl, maxStr, toBytes_length, toInts_length, List.length_set, wrap64, s_l1In_eq, s_TableMac_len]))
      (fun b0 => bifP (P := (fun v : Mac => v.rows.length ≤ 4)) (fun b1 => (by (try simp only [Nat.ble_eq, Bool.and_eq_true, decide_eq_true_eq, s_Assigned_L0_mx0]); grind [maxSl, maxStr, toBytes_length, toInts_length, List.length_set, wrap64, s_l1In_eq, s_TableMac_len]))
      (fun b1 => bifP (P := (fun v : Mac => v.rows.length ≤ 4)) (fun b2 => (by (try simp only [Nat.ble_eq, Bool.and_eq_true, decide_eq_true_eq, s_Assigned_L0_mx0]); grind [maxSl, maxStr, toBytes_length, toInts_length, List.length_set, wrap64, s_l1In_eq, s_TableMac_len]))
      (fun b2 => loopP (P := (fun v : Mac => v.rows.length ≤ 4)) (fun a4 ha4 => have ia4 := s_Assigned_L0_nx x0 x1 x2 0 false 0 0 [] (by (try simp only [Nat.ble_eq, Bool.and_eq_true, decide_eq_true_eq, s_Assigned_L0_mx0]); grind [maxSl, maxStr, toBytes_length, toInts_length, List.length_set, wrap64, s_l1In_eq, s_TableMac_len]) (by (try simp only [Nat.ble_eq, Bool.and_eq_true, decide_eq_true_eq, s_Assigned_L0_mx0]); grind [maxSl, maxStr, toBytes_length, toInts_length, List.length_set, wrap64, s_l1In_eq, s_TableMac_len]) (by (try simp only [Nat.ble_eq, Bool.and_eq_true, decide_eq_true_eq, s_Assigned_L0_mx0]); grind [maxSl, maxStr, toBytes_length, toInts_length, List.length_set, wrap64, s_l1In_eq, s_TableMac_len]) (by (try simp only [Nat.ble_eq, Bool.and_eq_true, decide_eq_true_eq, s_Assigned_L0_mx0]); grind [maxSl, maxStr, toBytes_length, toInts_length, List.length_set, wrap64, s_l1In_eq, s_TableMac_len]) (by (try simp only [Nat.ble_eq, Bool.and_eq_true, decide_eq_true_eq, s_Assigned_L0_mx0]); grind [maxSl, maxStr, toBytes_length, toInts_length, List.length_set, wrap64, s_l1In_eq, s_TableMac_len]) _ ha4; letP (P := (fun v : Mac => v.rows.length ≤ 4)) (fun c5 hc5 => (by (try simp only [Nat.ble_eq, Bool.and_eq_true, decide_eq_true_eq, s_Assigned_L0_mx0]); grind [maxSl, maxStr, toBytes_length, toInts_length, List.length_set, wrap64, s_l1In_eq, s_TableMac_len])))
      (fun p _ => nomatch p)))))

/-- impl.Assigned -/
def i_Assigned_ann : List (Nat × Keep) := [(0, ⟨[1, 2, 6, 7, 24, 25, 26], [.box 7 3 .macRow], false, 0⟩)]
def i_Assigned_L0_sh : Sh := ⟨[(1, false, [.int .i64]), (2, false, [.int .i64]), (6, false, [.ptr 0 0]), (7, false, [.ptr 1 0]), (24, false, [.sl .arg .str]), (25, false, [.int .i64]), (26, false, [.int .i64])], [.box [.bool, .int .u64, .int .u64, .nil], .box [.bool, .int .u64, .int .u64, .own 2], .arr .macRow false true]⟩
def i_Assigned_L0_es : List (Ex × Sh) := [(.exit 0, ⟨[(6, false, [.ptr 0 0]), (7, false, [.ptr 1 0])], [.box [.bool, .int .u64, .int .u64, .nil], .box [.bool, .int .u64, .int .u64, .own 2], .arr .macRow false true]⟩)]
def i_Assigned_L0_mk (v0 : Int) (v1 : Int) (v2 : List Bytes) (v3 : Int) (v4 : Int) (v5 : Bool) (v6 : Int) (v7 : Int) (v8 : Bool) (v9 : Int) (v10 : Int) (v11 : List MacRow) : i_Assigned_L0_sh.T := (((v0, ()), ((v1, ()), (((), ()), (((), ()), ((v2, ()), ((v3, ()), ((v4, ()), ()))))))), ((v5, (v6, (v7, ((), ())))), ((v8, (v9, (v10, ((), ())))), (v11, ()))))
def i_Assigned_L0_mx0 (y0 : Bool) (y1 : Int) (y2 : Int) (y3 : Bool) (y4 : Int) (y5 : Int) (y6 : List MacRow) : Sh.T ⟨[(6, false, [.ptr 0 0]), (7, false, [.ptr 1 0])], [.box [.bool, .int .u64, .int .u64, .nil], .box [.bool, .int .u64, .int .u64, .own 2], .arr .macRow false true]⟩ := ((((), ()), (((), ()), ())), ((y0, (y1, (y2, ((), ())))), ((y3, (y4, (y5, ((), ())))), (y6, ()))))
def i_Assigned_L0_B (v0 : Int) (v1 : Int) (v2 : List Bytes) (v3 : Int) (v4 : Int) (v5 : Bool) (v6 : Int) (v7 : Int) (v8 : Bool) (v9 : Int) (v10 : Int) (v11 : List MacRow) (γ : Type) (fail : γ) (next : i_Assigned_L0_sh.T → γ) (out : WT i_Assigned_L0_es → γ) : γ :=
  bif (decide (v4 < v3)) then
    bif ((decide (0 ≤ v4)) && (decide (v4 < (v2.length : Int)))) then
    bif (v0 != 0) then
    bif (Nat.ble ((2 * (v11.length + 1) + 1024) * 24) maxSl) then
    bif (v0 != 0) then
    next (i_Assigned_L0_mk v0 (IntKind.wrap .i64 (v1.tdiv v0)) v2 v3 (IntKind.wrap .i64 (v4 + 1)) v5 v6 v7 v8 v9 v10 (v11 ++ [(⟨(v2.getD v4.toNat []), (v1.tmod v0)⟩ : MacRow)]))
    else fail
    else fail
    else fail
    else fail
  else
  out (i_Assigned_L0_mx0 v5 v6 v7 v8 v9 v10 v11)
theorem i_Assigned_L0_par (v0 : Int) (v1 : Int) (v2 : List Bytes) (v3 : Int) (v4 : Int) (v5 : Bool) (v6 : Int) (v7 : Int) (v8 : Bool) (v9 : Int) (v10 : Int) (v11 : List MacRow) (γ : Type) (fail : γ) (next : i_Assigned_L0_sh.T → γ) (out : WT i_Assigned_L0_es → γ) : i_Assigned_L0_B v0 v1 v2 v3 v4 v5 v6 v7 v8 v9 v10 v11 γ fail next out = optK (i_Assigned_L0_B v0 v1 v2 v3 v4 v5 v6 v7 v8 v9 v10 v11 _ none (fun v' => some (.inl v')) (fun w => some (.inr w))) fail (fun r => Sum.elim next out r) := by
  unfold i_Assigned_L0_B
  exact bifT (f := (fun o => optK o fail (fun r => Sum.elim next out r))) (fun _ => bifT (f := (fun o => optK o fail (fun r => Sum.elim next out r))) (fun _ => bifT (f := (fun o => optK o fail (fun r => Sum.elim next out r))) (fun _ => bifT (f := (fun o => optK o fail (fun r => Sum.elim next out r))) (fun _ => bifT (f := (fun o => optK o fail (fun r => Sum.elim next out r))) (fun _ => rfl) (fun _ => rfl)) (fun _ => rfl)) (fun _ => rfl)) (fun _ => rfl))
      (fun _ => rfl)
def i_Assigned_L0_r : Round i_Assigned_L0_sh.T (WT i_Assigned_L0_es) where
  B v γ fail next out := i_Assigned_L0_B v.1.1.1 v.1.2.1.1 v.1.2.2.2.2.1.1 v.1.2.2.2.2.2.1.1 v.1.2.2.2.2.2.2.1.1 v.2.1.1 v.2.1.2.1 v.2.1.2.2.1 v.2.2.1.1 v.2.2.1.2.1 v.2.2.1.2.2.1 v.2.2.2.1 γ fail next out
  par v γ fail next out := i_Assigned_L0_par v.1.1.1 v.1.2.1.1 v.1.2.2.2.2.1.1 v.1.2.2.2.2.2.1.1 v.1.2.2.2.2.2.2.1.1 v.2.1.1 v.2.1.2.1 v.2.1.2.2.1 v.2.2.1.1 v.2.2.1.2.1 v.2.2.1.2.2.1 v.2.2.2.1 γ fail next out
def i_Assigned_L0_fu (v0 : Int) (v1 : Int) (v2 : List Bytes) (v3 : Int) (v4 : Int) (v5 : Bool) (v6 : Int) (v7 : Int) (v8 : Bool) (v9 : Int) (v10 : Int) (v11 : List MacRow) : Nat := (Int.toNat (v3 - v4)) + 1
theorem i_Assigned_L0_lk (v : i_Assigned_L0_sh.T) (next : St → Option Res) (k : Ex → St → Option Res) : evalK te (orcOf (P := Try.prog) [i_within_e]) (lorcOf []) Try.f15.ntmps i_Assigned_ann (nthLoop (bodyOf Try.f15) 0 0) 0 (i_Assigned_L0_sh.enc v) (endK ⟨[1, 2, 6, 7, 24, 25, 26], [.box 7 3 .macRow], false, 0⟩ ⟨[6, 7], [], false, 0⟩ next k) =
  i_Assigned_L0_r.B v _ none (fun v' => next (i_Assigned_L0_sh.enc v')) (fun w => outK i_Assigned_L0_es k w) := by kernel_rfl
def i_Assigned_L0_le : LE := leOf 0 i_Assigned_L0_sh i_Assigned_L0_es i_Assigned_L0_r.step (fun v => i_Assigned_L0_fu v.1.1.1 v.1.2.1.1 v.1.2.2.2.2.1.1 v.1.2.2.2.2.2.1.1 v.1.2.2.2.2.2.2.1.1 v.2.1.1 v.2.1.2.1 v.2.1.2.2.1 v.2.2.1.1 v.2.2.1.2.1 v.2.2.1.2.2.1 v.2.2.2.1)
theorem i_Assigned_L0_ls (w0 : World) (mo : Mts) (I0 : Nat → Prop) (hmo : mo.length = 0) : LSem Try.prog (Sim w0 mo Try.f15.ntmps I0) (fun b s k => match Nat.beq 0 b with | true => i_Assigned_L0_le.run s k | false => none) 0 (nthLoop (bodyOf Try.f15) 0 0) :=
  le_sem hmo (lorc := lorcOf []) (ann := i_Assigned_ann) (keep := ⟨[1, 2, 6, 7, 24, 25, 26], [.box 7 3 .macRow], false, 0⟩) (kout := ⟨[6, 7], [], false, 0⟩) teFact mixFact (orcOf_ok _) (by kernel_rfl) (allLoops_of (bs := []) (by kernel_rfl) trivial) i_Assigned_L0_r _ i_Assigned_L0_lk
def i_Assigned_L0_f (v0 : Int) (v2 : List Bytes) (v3 : Int) (v5 : Bool) (v6 : Int) (v7 : Int) (v8 : Bool) (v9 : Int) (v10 : Int) (v4 : Int) (a : Int × List MacRow) : Stp (Int × List MacRow) (Empty) :=
  .next ((IntKind.wrap .i64 (a.1.tdiv v0)), (a.2 ++ [(⟨(v2.getD v4.toNat []), (a.1.tmod v0)⟩ : MacRow)]))
theorem i_Assigned_L0_st (v0 : Int) (v1 : Int) (v2 : List Bytes) (v3 : Int) (v4 : Int) (v5 : Bool) (v6 : Int) (v7 : Int) (v8 : Bool) (v9 : Int) (v10 : Int) (v11 : List MacRow) (hlo : 0 ≤ v4) (hhi : v4 < v3) (hN : v3 ≤ 4611686018427387904) (hi0 : v0 ≠ 0) (hi1 : v3 ≤ 4294967296) (hi2 : v3 ≤ (v2.length : Int)) (hinv : (v11.length : Int) ≤ v4) : i_Assigned_L0_r.step (i_Assigned_L0_mk v0 v1 v2 v3 v4 v5 v6 v7 v8 v9 v10 v11) = Stp.elim (fun a' : Int × List MacRow => some (Sum.inl (i_Assigned_L0_mk v0 a'.1 v2 v3 (v4 + 1) v5 v6 v7 v8 v9 v10 a'.2))) (fun w => some (Sum.inr ((fun p : Empty => nomatch p) w))) (i_Assigned_L0_f v0 v2 v3 v5 v6 v7 v8 v9 v10 v4 (v1, v11)) := by
  have hw : (IntKind.wrap .i64 (v4 + 1)) = v4 + 1 := wrap64 (by omega) (by omega)
  show i_Assigned_L0_B v0 v1 v2 v3 v4 v5 v6 v7 v8 v9 v10 v11 (Option (i_Assigned_L0_sh.T ⊕ WT i_Assigned_L0_es)) none (fun v' => some (Sum.inl v')) (fun w => some (Sum.inr w)) = _
  unfold i_Assigned_L0_B i_Assigned_L0_f
  exact bifG (by simp only [decide_eq_true_eq]; omega) (bifG (by (try simp only [Nat.ble_eq, Bool.and_eq_true, decide_eq_true_eq]); grind [maxSl, maxStr, toBytes_length, toInts_length, List.length_set, wrap64]) (bifG (by (try simp only [Nat.ble_eq, Bool.and_eq_true, decide_eq_true_eq]); grind [maxSl, maxStr, toBytes_length, toInts_length, List.length_set, wrap64]) (bifG (by (try simp only [Nat.ble_eq, Bool.and_eq_true, decide_eq_true_eq]); grind [maxSl, maxStr, toBytes_length, toInts_length, List.length_set, wrap64]) (bifG (by (try simp only [Nat.ble_eq, Bool.and_eq_true, decide_eq_true_eq]); grind [maxSl, maxStr, toBytes_length, toInts_length, List.length_set, wrap64]) ((by exact congrArg (fun z => some (Sum.inl (i_Assigned_L0_mk v0 (IntKind.wrap .i64 (v1.tdiv v0)) v2 v3 z v5 v6 v7 v8 v9 v10 (v11 ++ [(⟨(v2.getD v4.toNat []), (v1.tmod v0)⟩ : MacRow)])))) hw))))))
theorem i_Assigned_L0_cl (v0 : Int) (v1 : Int) (v2 : List Bytes) (v3 : Int) (v4 : Int) (v5 : Bool) (v6 : Int) (v7 : Int) (v8 : Bool) (v9 : Int) (v10 : Int) (v11 : List MacRow) (h0 : 0 ≤ v4) (h1 : v3 ≤ 4611686018427387904) (h2 : v0 ≠ 0) (h3 : v3 ≤ 4294967296) (h4 : v3 ≤ (v2.length : Int)) (h5 : (v11.length : Int) ≤ v4) : loopF i_Assigned_L0_r.step (i_Assigned_L0_fu v0 v1 v2 v3 v4 v5 v6 v7 v8 v9 v10 v11) (i_Assigned_L0_mk v0 v1 v2 v3 v4 v5 v6 v7 v8 v9 v10 v11) = some (Stp.elim (fun a => (fun i a => i_Assigned_L0_mx0 v5 v6 v7 v8 v9 v10 a.2) (v4 + 1 * (((Int.toNat (v3 - v4)) : Nat) : Int)) a) (fun p : Empty => nomatch p) (forN (i_Assigned_L0_f v0 v2 v3 v5 v6 v7 v8 v9 v10) 1 (Int.toNat (v3 - v4)) v4 (v1, v11))) :=
  forN_loop (step := i_Assigned_L0_r.step) (mk := fun v4 a => i_Assigned_L0_mk v0 a.1 v2 v3 v4 v5 v6 v7 v8 v9 v10 a.2) (f := i_Assigned_L0_f v0 v2 v3 v5 v6 v7 v8 v9 v10) (e := (fun i a => i_Assigned_L0_mx0 v5 v6 v7 v8 v9 v10 a.2)) (emb := (fun p : Empty => nomatch p)) (st := 1) (Inv := fun v4 a => (a.2.length : Int) ≤ v4) (Int.toNat (v3 - v4)) v4 (v1, v11) _ (Nat.lt_succ_self _) h5
    (fun j a hj hv => ⟨i_Assigned_L0_st v0 a.1 v2 v3 (v4 + 1 * (j : Int)) v5 v6 v7 v8 v9 v10 a.2 (by omega) (by omega) (by omega) h2 h3 h4 hv, by
      intro a' he
      grind [i_Assigned_L0_f, letK, Stp.elim, wrap64, List.length_set]⟩)
    (fun a hv => by
      show i_Assigned_L0_B v0 a.1 v2 v3 (v4 + 1 * (((Int.toNat (v3 - v4)) : Nat) : Int)) v5 v6 v7 v8 v9 v10 a.2 (Option (i_Assigned_L0_sh.T ⊕ WT i_Assigned_L0_es)) none (fun v' => some (Sum.inl v')) (fun w => some (Sum.inr w)) = _
      unfold i_Assigned_L0_B
      exact bifN (by simp only [decide_eq_false_iff_not]; omega) rfl)
theorem i_Assigned_L0_nx (v0 : Int) (v1 : Int) (v2 : List Bytes) (v3 : Int) (v4 : Int) (v5 : Bool) (v6 : Int) (v7 : Int) (v8 : Bool) (v9 : Int) (v10 : Int) (v11 : List MacRow) (h0 : 0 ≤ v4) (h1 : v3 ≤ 4611686018427387904) (h2 : v0 ≠ 0) (h3 : v3 ≤ 4294967296) (h4 : v3 ≤ (v2.length : Int)) (h5 : (v11.length : Int) ≤ v4) : ∀ a', forN (i_Assigned_L0_f v0 v2 v3 v5 v6 v7 v8 v9 v10) 1 (Int.toNat (v3 - v4)) v4 (v1, v11) = .next a' → (a'.2.length : Int) ≤ (v4 + 1 * (((Int.toNat (v3 - v4)) : Nat) : Int)) :=
  forN_inv (f := i_Assigned_L0_f v0 v2 v3 v5 v6 v7 v8 v9 v10) (st := 1) (Inv := fun v4 a => (a.2.length : Int) ≤ v4) (Int.toNat (v3 - v4)) v4 (v1, v11) h5
    (fun j a hj hv => by
      intro a' he
      grind [i_Assigned_L0_f, letK, Stp.elim, wrap64, List.length_set])
def i_Assigned_N (x0 : List Bytes) (x1 : Int) (x2 : Int) (γ : Type) (fail : γ) (k : Mac → γ) : γ :=
  letK (α := Bool) (i_within x1 1 4) fun c1 =>
  bif (!c1) then
    k (⟨false, 0, 0, []⟩ : Mac)
  else
  bif (decide (x2 < 0)) then
    k (⟨false, 0, 0, []⟩ : Mac)
  else
  bif (decide (4 < (x0.length : Int))) then
    k (⟨false, 0, 0, []⟩ : Mac)
  else
  optK (loopF i_Assigned_L0_r.step (i_Assigned_L0_fu x1 x2 x0 (x0.length : Int) 0 false 0 0 true 0 0 []) (i_Assigned_L0_mk x1 x2 x0 (x0.length : Int) 0 false 0 0 true 0 0 [])) fail fun w2 =>
    k (⟨w2.2.2.1.1, w2.2.2.1.2.1, w2.2.2.1.2.2.1, w2.2.2.2.1⟩ : Mac)
def i_Assigned (x0 : List Bytes) (x1 : Int) (x2 : Int) : Mac :=
  letK (α := Bool) (i_within x1 1 4) fun c1 =>
  bif (!c1) then
    (⟨false, 0, 0, []⟩ : Mac)
  else
  bif (decide (x2 < 0)) then
    (⟨false, 0, 0, []⟩ : Mac)
  else
  bif (decide (4 < (x0.length : Int))) then
    (⟨false, 0, 0, []⟩ : Mac)
  else
  Stp.elim (fun a3 =>
    (⟨true, 0, 0, a3.2⟩ : Mac))
    (fun p : Empty => nomatch p)
    (forN (i_Assigned_L0_f x1 x0 (x0.length : Int) false 0 0 true 0 0) 1 (Int.toNat ((x0.length : Int) - 0)) 0 (x2, []))
theorem i_Assigned_lk (x0 : List Bytes) (x1 : Int) (x2 : Int) : evalFn te (orcOf (P := Try.prog) [i_within_e]) (lorcOf [i_Assigned_L0_le]) i_Assigned_ann Try.f15 (pvs [.sc (.sl .str), .sc (.int .i64), .sc (.int .i64)] (x0, x1, x2, ())) =
  i_Assigned_N x0 x1 x2 _ none (fun v => some [(true, [RC.c (.bool v.use), RC.c (.int .u64 v.k), RC.c (.int .u64 v.l), RC.own true .macRow v.rows])]) := by kernel_rfl
theorem i_Assigned_p (x0 : List Bytes) (x1 : Int) (x2 : Int) (hx0 : x0.length ≤ 140737488355328) (hx0_e : ∀ y ∈ x0, List.length y ≤ 4611686018427387904) (hx1 : inK .i64 x1) (hx2 : inK .i64 x2) (hp : x0.length ≤ 4294967296) (γ : Type) (fail : γ) (k : Mac → γ) : i_Assigned_N x0 x1 x2 γ fail k = k (i_Assigned x0 x1 x2) := by
  unfold i_Assigned_N i_Assigned
  exact letT (f := k) (fun c1 hc1 => bifT (f := k) (fun b0 => rfl)
      (fun b0 => bifT (f := k) (fun b1 => rfl)
      (fun b1 => bifT (f := k) (fun b2 => rfl)
      (fun b2 => loopX (f := k) (i_Assigned_L0_cl x1 x2 x0 (x0.length : Int) 0 false 0 0 true 0 0 [] (by (try simp only [Nat.ble_eq, Bool.and_eq_true, decide_eq_true_eq, i_Assigned_L0_mx0]); grind [maxSl, maxStr, toBytes_length, toInts_length, List.length_set, wrap64, i_within_eq]) (by (try simp only [Nat.ble_eq, Bool.and_eq_true, decide_eq_true_eq, i_Assigned_L0_mx0]); grind [maxSl, maxStr, toBytes_length, toInts_length, List.length_set, wrap64, i_within_eq]) (by (try simp only [Nat.ble_eq, Bool.and_eq_true, decide_eq_true_eq, i_Assigned_L0_mx0]); grind [maxSl, maxStr, toBytes_length, toInts_length, List.length_set, wrap64, i_within_eq]) (by (try simp only [Nat.ble_eq, Bool.and_eq_true, decide_eq_true_eq, i_Assigned_L0_mx0]); grind [maxSl, maxStr, toBytes_length, toInts_length, List.length_set, wrap64, i_within_eq]) (by (try simp only [Nat.ble_eq, Bool.and_eq_true, decide_eq_true_eq, i_Assigned_L0_mx0]); grind [maxSl, maxStr, toBytes_length, toInts_length, List.length_set, wrap64, i_within_eq]) (by (try simp only [Nat.ble_eq, Bool.and_eq_true, decide_eq_true_eq, i_Assigned_L0_mx0]); grind [maxSl, maxStr, toBytes_length, toInts_length, List.length_set, wrap64, i_within_eq])) (fun a3 ha3 => have ia3 := i_Assigned_L0_nx x1 x2 x0 (x0.length : Int) 0 false 0 0 true 0 0 [] (by (try simp only [Nat.ble_eq, Bool.and_eq_true, decide_eq_true_eq, i_Assigned_L0_mx0]); grind [maxSl, maxStr, toBytes_length, toInts_length, List.length_set, wrap64, i_within_eq]) (by (try simp only [Nat.ble_eq, Bool.and_eq_true, decide_eq_true_eq, i_Assigned_L0_mx0]); grind [maxSl, maxStr, toBytes_length, toInts_length, List.length_set, wrap64, i_within_eq]) (by (try simp only [Nat.ble_eq, Bool.and_eq_true, decide_eq_true_eq, i_Assigned_L0_mx0]); grind [maxSl, maxStr, toBytes_length, toInts_length, List.length_set, wrap64, i_within_eq]) (by (try simp only [Nat.ble_eq, Bool.and_eq_true, decide_eq_true_eq, i_Assigned_L0_mx0]); grind [maxSl, maxStr, toBytes_length, toInts_length, List.length_set, wrap64, i_within_eq]) (by (try simp only [Nat.ble_eq, Bool.and_eq_true, decide_eq_true_eq, i_Assigned_L0_mx0]); grind [maxSl, maxStr, toBytes_length, toInts_length, List.length_set, wrap64, i_within_eq]) (by (try simp only [Nat.ble_eq, Bool.and_eq_true, decide_eq_true_eq, i_Assigned_L0_mx0]); grind [maxSl, maxStr, toBytes_length, toInts_length, List.length_set, wrap64, i_within_eq]) _ ha3; rfl)
      (fun p : Empty => nomatch p)))))
theorem i_Assigned_c (x0 : List Bytes) (x1 : Int) (x2 : Int) (hp : x0.length ≤ 4294967296) : Con Try.prog 15 (pvs [.sc (.sl .str), .sc (.int .i64), .sc (.int .i64)] (x0, x1, x2, ())) [rv (.st .mac) [.c, .c, .c, .o true] (i_Assigned x0 x1 x2)] := by
  refine Con.of_facts (enters_of Try.func15 rfl (by kernel_rfl)) fun hf => ?_
  replace hf := factAt hf
  exact evalFn_conL teFact mixFact (orcOf_ok _) Try.func15 (by kernel_rfl) (bs := [0]) (by kernel_rfl) (by kernel_rfl) (fun w0 mo I0 hmo => ⟨lsem_of_lorc (i_Assigned_L0_ls w0 mo I0 hmo) (by kernel_rfl), trivial⟩) ((i_Assigned_lk x0 x1 x2).trans (i_Assigned_p x0 x1 x2 ((hf 0 0 rfl rfl).len) (fun y hy => ((hf 0 0 rfl rfl).elem hy (.str y) List.mem_cons_self).slen) ((hf 1 0 rfl rfl).rng) ((hf 2 0 rfl rfl).rng) hp _ _ _))
noncomputable def i_Assigned_e : Ent1 Try.prog := entP 15 [.sc (.sl .str), .sc (.int .i64), .sc (.int .i64)] (fun x => (decide (x.1.length ≤ 4294967296))) (fun x => (i_Assigned x.1 x.2.1 x.2.2.1)) (fun v => [rv (.st .mac) [.c, .c, .c, .o true] v]) (fun x hx => i_Assigned_c x.1 x.2.1 x.2.2.1 (of_decide_eq_true hx))

theorem i_Assigned_len (x0 : List Bytes) (x1 : Int) (x2 : Int) (hp : x0.length ≤ 4294967296)  : (fun v : Mac => v.rows.length ≤ 4) (i_Assigned x0 x1 x2) := by
  unfold i_Assigned
  exact letP (P := (fun v : Mac => v.rows.length ≤ 4)) (fun c1 hc1 => bifP (P := (fun v : Mac => v.rows.length ≤ 4)) (fun b0 => (by (try simp only [Nat.ble_eq, Bool.and_eq_true, decide_eq_true_eq, i_Assigned_L0_mx0]); grind [maxSl, maxStr, toBytes_length, toInts_length, List.length_set, wrap64, i_within_eq]))
      (fun b0 => bifP (P := (fun v : Mac => v.rows.length ≤ 4)) (fun b1 => (by (try simp only [Nat.ble_eq, Bool.and_eq_true, decide_eq_true_eq, i_Assigned_L0_mx0]); grind [maxSl, maxStr, toBytes_length, toInts_length, List.length_set, wrap64, i_within_eq]))
      (fun b1 => bifP (P := (fun v : Mac => v.rows.length ≤ 4)) (fun b2 => (by (try simp only [Nat.ble_eq, Bool.and_eq_true, decide_eq_true_eq, i_Assigned_L0_mx0]); grind [maxSl, maxStr, toBytes_length, toInts_length, List.length_set, wrap64, i_within_eq]))
      (fun b2 => loopP (P := (fun v : Mac => v.rows.length ≤ 4)) (fun a3 ha3 => have ia3 := i_Assigned_L0_nx x1 x2 x0 (x0.length : Int) 0 false 0 0 true 0 0 [] (by (try simp only [Nat.ble_eq, Bool.and_eq_true, decide_eq_true_eq, i_Assigned_L0_mx0]); grind [maxSl, maxStr, toBytes_length, toInts_length, List.length_set, wrap64, i_within_eq]) (by (try simp only [Nat.ble_eq, Bool.and_eq_true, decide_eq_true_eq, i_Assigned_L0_mx0]); grind [maxSl, maxStr, toBytes_length, toInts_length, List.length_set, wrap64, i_within_eq]) (by (try simp only [Nat.ble_eq, Bool.and_eq_true, decide_eq_true_eq, i_Assigned_L0_mx0]); grind [maxSl, maxStr, toBytes_length, toInts_length, List.length_set, wrap64, i_within_eq]) (by (try simp only [Nat.ble_eq, Bool.and_eq_true, decide_eq_true_eq, i_Assigned_L0_mx0]); grind [maxSl, maxStr, toBytes_length, toInts_length, List.length_set, wrap64, i_within_eq]) (by (try simp only [Nat.ble_eq, Bool.and_eq_true, decide_eq_true_eq, i_Assigned_L0_mx0]); grind [maxSl, maxStr, toBytes_length, toInts_length, List.length_set, wrap64, i_within_eq]) (by (try simp only [Nat.ble_eq, Bool.and_eq_true, decide_eq_true_eq, i_Assigned_L0_mx0]); grind [maxSl, maxStr, toBytes_length, toInts_length, List.length_set, wrap64, i_within_eq]) _ ha3; (by (try simp only [Nat.ble_eq, Bool.and_eq_true, decide_eq_true_eq, i_Assigned_L0_mx0]); grind [maxSl, maxStr, toBytes_length, toInts_length, List.length_set, wrap64, i_within_eq]))
      (fun p _ => nomatch p)))))

/-- impl.SipRound -/
def i_SipRound_N (x0 : Sipr) (γ : Type) (fail : γ) (k : Sipr → γ) : γ :=
  letK (α := Int) (mb_RotateLeft64 x0.b 13) fun c1 =>
  letK (α := Int) (mb_RotateLeft64 (IntKind.wrap .u64 (x0.a + x0.b)) 32) fun c2 =>
  letK (α := Int) (mb_RotateLeft64 x0.d 16) fun c3 =>
  letK (α := Int) (IntKind.wrap .u64 (c2 + (bits .xor .u64 c3 (IntKind.wrap .u64 (x0.c + x0.d))))) fun e4 =>
  letK (α := Int) (mb_RotateLeft64 (bits .xor .u64 c3 (IntKind.wrap .u64 (x0.c + x0.d))) 21) fun c5 =>
  letK (α := Int) (IntKind.wrap .u64 ((IntKind.wrap .u64 (x0.c + x0.d)) + (bits .xor .u64 c1 (IntKind.wrap .u64 (x0.a + x0.b))))) fun e6 =>
  letK (α := Int) (mb_RotateLeft64 (bits .xor .u64 c1 (IntKind.wrap .u64 (x0.a + x0.b))) 17) fun c7 =>
  letK (α := Int) (mb_RotateLeft64 e6 32) fun c8 =>
  k (⟨e4, (bits .xor .u64 c7 e6), c8, (bits .xor .u64 c5 e4)⟩ : Sipr)
def i_SipRound (x0 : Sipr) : Sipr :=
  letK (α := Int) (mb_RotateLeft64 x0.b 13) fun c1 =>
  letK (α := Int) (mb_RotateLeft64 (IntKind.wrap .u64 (x0.a + x0.b)) 32) fun c2 =>
  letK (α := Int) (mb_RotateLeft64 x0.d 16) fun c3 =>
  letK (α := Int) (IntKind.wrap .u64 (c2 + (bits .xor .u64 c3 (IntKind.wrap .u64 (x0.c + x0.d))))) fun e4 =>
  letK (α := Int) (mb_RotateLeft64 (bits .xor .u64 c3 (IntKind.wrap .u64 (x0.c + x0.d))) 21) fun c5 =>
  letK (α := Int) (IntKind.wrap .u64 ((IntKind.wrap .u64 (x0.c + x0.d)) + (bits .xor .u64 c1 (IntKind.wrap .u64 (x0.a + x0.b))))) fun e6 =>
  letK (α := Int) (mb_RotateLeft64 (bits .xor .u64 c1 (IntKind.wrap .u64 (x0.a + x0.b))) 17) fun c7 =>
  letK (α := Int) (mb_RotateLeft64 e6 32) fun c8 =>
  (⟨e4, (bits .xor .u64 c7 e6), c8, (bits .xor .u64 c5 e4)⟩ : Sipr)
theorem i_SipRound_lk (x0 : Sipr) : evalFn te (orcOf (P := Try.prog) [mb_RotateLeft64_e]) lorc0 [] Try.f117 (pvs [.st .sipr] (x0, ())) =
  i_SipRound_N x0 _ none (fun v => some [(true, [RC.c (.int .u64 v.a), RC.c (.int .u64 v.b), RC.c (.int .u64 v.c), RC.c (.int .u64 v.d)])]) := by kernel_rfl
theorem i_SipRound_p (x0 : Sipr)   (γ : Type) (fail : γ) (k : Sipr → γ) : i_SipRound_N x0 γ fail k = k (i_SipRound x0) := by
  unfold i_SipRound_N i_SipRound
  exact letT (f := k) (fun c1 hc1 => letT (f := k) (fun c2 hc2 => letT (f := k) (fun c3 hc3 => letT (f := k) (fun e4 he4 => letT (f := k) (fun c5 hc5 => letT (f := k) (fun e6 he6 => letT (f := k) (fun c7 hc7 => letT (f := k) (fun c8 hc8 => rfl))))))))
theorem i_SipRound_c (x0 : Sipr)  : Con Try.prog 117 (pvs [.st .sipr] (x0, ())) [rv (.st .sipr) [] (i_SipRound x0)] := by
  exact evalFn_con0 teFact mixFact (orcOf_ok _) Try.func117 (by kernel_rfl) ((i_SipRound_lk x0).trans (i_SipRound_p x0  _ _ _))
noncomputable def i_SipRound_e : Ent1 Try.prog := entA 117 [.st .sipr] (fun x => (i_SipRound x.1)) (fun v => [rv (.st .sipr) [] v]) (fun x => i_SipRound_c x.1)


/-- spec.SipRound -/
def s_SipRound_N (x0 : Sipr) (γ : Type) (fail : γ) (k : Sipr → γ) : γ :=
  letK (α := Int) (s_l10Turn x0.b 13) fun c1 =>
  letK (α := Int) (s_l10Turn (IntKind.wrap .u64 (x0.a + x0.b)) 32) fun c2 =>
  letK (α := Int) (s_l10Turn x0.d 16) fun c3 =>
  letK (α := Int) (IntKind.wrap .u64 (c2 + (bits .xor .u64 c3 (IntKind.wrap .u64 (x0.c + x0.d))))) fun e4 =>
  letK (α := Int) (s_l10Turn (bits .xor .u64 c3 (IntKind.wrap .u64 (x0.c + x0.d))) 21) fun c5 =>
  letK (α := Int) (IntKind.wrap .u64 ((IntKind.wrap .u64 (x0.c + x0.d)) + (bits .xor .u64 c1 (IntKind.wrap .u64 (x0.a + x0.b))))) fun e6 =>
  letK (α := Int) (s_l10Turn (bits .xor .u64 c1 (IntKind.wrap .u64 (x0.a + x0.b))) 17) fun c7 =>
  letK (α := Int) (s_l10Turn e6 32) fun c8 =>
  k (⟨e4, (bits .xor .u64 c7 e6), c8, (bits .xor .u64 c5 e4)⟩ : Sipr)
def s_SipRound (x0 : Sipr) : Sipr :=
  letK (α := Int) (s_l10Turn x0.b 13) fun c1 =>
  letK (α := Int) (s_l10Turn (IntKind.wrap .u64 (x0.a + x0.b)) 32) fun c2 =>
  letK (α := Int) (s_l10Turn x0.d 16) fun c3 =>
  letK (α := Int) (IntKind.wrap .u64 (c2 + (bits .xor .u64 c3 (IntKind.wrap .u64 (x0.c + x0.d))))) fun e4 =>
  letK (α := Int) (s_l10Turn (bits .xor .u64 c3 (IntKind.wrap .u64 (x0.c + x0.d))) 21) fun c5 =>
  letK (α := Int) (IntKind.wrap .u64 ((IntKind.wrap .u64 (x0.c + x0.d)) + (bits .xor .u64 c1 (IntKind.wrap .u64 (x0.a + x0.b))))) fun e6 =>
  letK (α := Int) (s_l10Turn (bits .xor .u64 c1 (IntKind.wrap .u64 (x0.a + x0.b))) 17) fun c7 =>
  letK (α := Int) (s_l10Turn e6 32) fun c8 =>
  (⟨e4, (bits .xor .u64 c7 e6), c8, (bits .xor .u64 c5 e4)⟩ : Sipr)
theorem s_SipRound_lk (x0 : Sipr) : evalFn te (orcOf (P := Try.prog) [s_l10Turn_e]) lorc0 [] Try.f137 (pvs [.st .sipr] (x0, ())) =
  s_SipRound_N x0 _ none (fun v => some [(true, [RC.c (.int .u64 v.a), RC.c (.int .u64 v.b), RC.c (.int .u64 v.c), RC.c (.int .u64 v.d)])]) := by kernel_rfl
theorem s_SipRound_p (x0 : Sipr)   (γ : Type) (fail : γ) (k : Sipr → γ) : s_SipRound_N x0 γ fail k = k (s_SipRound x0) := by
  unfold s_SipRound_N s_SipRound
  exact letT (f := k) (fun c1 hc1 => letT (f := k) (fun c2 hc2 => letT (f := k) (fun c3 hc3 => letT (f := k) (fun e4 he4 => letT (f := k) (fun c5 hc5 => letT (f := k) (fun e6 he6 => letT (f := k) (fun c7 hc7 => letT (f := k) (fun c8 hc8 => rfl))))))))
theorem s_SipRound_c (x0 : Sipr)  : Con Try.prog 137 (pvs [.st .sipr] (x0, ())) [rv (.st .sipr) [] (s_SipRound x0)] := by
  exact evalFn_con0 teFact mixFact (orcOf_ok _) Try.func137 (by kernel_rfl) ((s_SipRound_lk x0).trans (s_SipRound_p x0  _ _ _))
noncomputable def s_SipRound_e : Ent1 Try.prog := entA 137 [.st .sipr] (fun x => (s_SipRound x.1)) (fun v => [rv (.st .sipr) [] v]) (fun x => s_SipRound_c x.1)


/-- impl.SipWord -/
def i_SipWord_N (x0 : Sipr) (x1 : Int) (γ : Type) (fail : γ) (k : Sipr → γ) : γ :=
  letK (α := Sipr) (i_SipRound ({ x0 with d := (bits .xor .u64 x0.d x1) } : Sipr)) fun c1 =>
  letK (α := Sipr) (i_SipRound c1) fun c2 =>
  k ({ c2 with a := (bits .xor .u64 c2.a x1) } : Sipr)
def i_SipWord (x0 : Sipr) (x1 : Int) : Sipr :=
  letK (α := Sipr) (i_SipRound ({ x0 with d := (bits .xor .u64 x0.d x1) } : Sipr)) fun c1 =>
  letK (α := Sipr) (i_SipRound c1) fun c2 =>
  ({ c2 with a := (bits .xor .u64 c2.a x1) } : Sipr)
theorem i_SipWord_lk (x0 : Sipr) (x1 : Int) : evalFn te (orcOf (P := Try.prog) [i_SipRound_e]) lorc0 [] Try.f94 (pvs [.st .sipr, .sc (.int .u64)] (x0, x1, ())) =
  i_SipWord_N x0 x1 _ none (fun v => some [(true, [RC.c (.int .u64 v.a), RC.c (.int .u64 v.b), RC.c (.int .u64 v.c), RC.c (.int .u64 v.d)])]) := by kernel_rfl
theorem i_SipWord_p (x0 : Sipr) (x1 : Int)   (γ : Type) (fail : γ) (k : Sipr → γ) : i_SipWord_N x0 x1 γ fail k = k (i_SipWord x0 x1) := by
  unfold i_SipWord_N i_SipWord
  exact letT (f := k) (fun c1 hc1 => letT (f := k) (fun c2 hc2 => rfl))
theorem i_SipWord_c (x0 : Sipr) (x1 : Int)  : Con Try.prog 94 (pvs [.st .sipr, .sc (.int .u64)] (x0, x1, ())) [rv (.st .sipr) [] (i_SipWord x0 x1)] := by
  exact evalFn_con0 teFact mixFact (orcOf_ok _) Try.func94 (by kernel_rfl) ((i_SipWord_lk x0 x1).trans (i_SipWord_p x0 x1  _ _ _))
noncomputable def i_SipWord_e : Ent1 Try.prog := entA 94 [.st .sipr, .sc (.int .u64)] (fun x => (i_SipWord x.1 x.2.1)) (fun v => [rv (.st .sipr) [] v]) (fun x => i_SipWord_c x.1 x.2.1)


/-- impl.SipEnd -/
def i_SipEnd_ann : List (Nat × Keep) := [(0, ⟨[1, 7], [], false, 0⟩)]
def i_SipEnd_L0_sh : Sh := ⟨[(1, false, [.ptr 0 0]), (7, false, [.int .i64])], [.box [.int .u64, .int .u64, .int .u64, .int .u64]]⟩
def i_SipEnd_L0_es : List (Ex × Sh) := [(.exit 0, ⟨[(1, false, [.ptr 0 0]), (2, false, [.undef])], [.box [.int .u64, .int .u64, .int .u64, .int .u64]]⟩)]
def i_SipEnd_L0_mk (v0 : Int) (v1 : Int) (v2 : Int) (v3 : Int) (v4 : Int) : i_SipEnd_L0_sh.T := ((((), ()), ((v0, ()), ())), ((v1, (v2, (v3, (v4, ())))), ()))
def i_SipEnd_L0_mx0 (y0 : Int) (y1 : Int) (y2 : Int) (y3 : Int) : Sh.T ⟨[(1, false, [.ptr 0 0]), (2, false, [.undef])], [.box [.int .u64, .int .u64, .int .u64, .int .u64]]⟩ := ((((), ()), (((), ()), ())), ((y0, (y1, (y2, (y3, ())))), ()))
def i_SipEnd_L0_B (v0 : Int) (v1 : Int) (v2 : Int) (v3 : Int) (v4 : Int) (γ : Type) (fail : γ) (next : i_SipEnd_L0_sh.T → γ) (out : WT i_SipEnd_L0_es → γ) : γ :=
  bif (decide (v0 < 4)) then
    letK (α := Sipr) (i_SipRound (⟨v1, v2, v3, v4⟩ : Sipr)) fun c1 =>
    next (i_SipEnd_L0_mk (IntKind.wrap .i64 (v0 + 1)) c1.a c1.b c1.c c1.d)
  else
  out (i_SipEnd_L0_mx0 v1 v2 v3 v4)
theorem i_SipEnd_L0_par (v0 : Int) (v1 : Int) (v2 : Int) (v3 : Int) (v4 : Int) (γ : Type) (fail : γ) (next : i_SipEnd_L0_sh.T → γ) (out : WT i_SipEnd_L0_es → γ) : i_SipEnd_L0_B v0 v1 v2 v3 v4 γ fail next out = optK (i_SipEnd_L0_B v0 v1 v2 v3 v4 _ none (fun v' => some (.inl v')) (fun w => some (.inr w))) fail (fun r => Sum.elim next out r) := by
  unfold i_SipEnd_L0_B
  exact bifT (f := (fun o => optK o fail (fun r => Sum.elim next out r))) (fun _ => letT (f := (fun o => optK o fail (fun r => Sum.elim next out r))) (fun c1 _ => rfl))
      (fun _ => rfl)
def i_SipEnd_L0_r : Round i_SipEnd_L0_sh.T (WT i_SipEnd_L0_es) where
  B v γ fail next out := i_SipEnd_L0_B v.1.2.1.1 v.2.1.1 v.2.1.2.1 v.2.1.2.2.1 v.2.1.2.2.2.1 γ fail next out
  par v γ fail next out := i_SipEnd_L0_par v.1.2.1.1 v.2.1.1 v.2.1.2.1 v.2.1.2.2.1 v.2.1.2.2.2.1 γ fail next out
def i_SipEnd_L0_fu (v0 : Int) (v1 : Int) (v2 : Int) (v3 : Int) (v4 : Int) : Nat := (Int.toNat (4 - v0)) + 1
theorem i_SipEnd_L0_lk (v : i_SipEnd_L0_sh.T) (next : St → Option Res) (k : Ex → St → Option Res) : evalK te (orcOf (P := Try.prog) [i_SipRound_e]) (lorcOf []) Try.f96.ntmps i_SipEnd_ann (nthLoop (bodyOf Try.f96) 0 0) 0 (i_SipEnd_L0_sh.enc v) (endK ⟨[1, 7], [], false, 0⟩ ⟨[1, 2], [], false, 0⟩ next k) =
  i_SipEnd_L0_r.B v _ none (fun v' => next (i_SipEnd_L0_sh.enc v')) (fun w => outK i_SipEnd_L0_es k w) := by kernel_rfl
def i_SipEnd_L0_le : LE := leOf 0 i_SipEnd_L0_sh i_SipEnd_L0_es i_SipEnd_L0_r.step (fun v => i_SipEnd_L0_fu v.1.2.1.1 v.2.1.1 v.2.1.2.1 v.2.1.2.2.1 v.2.1.2.2.2.1)
theorem i_SipEnd_L0_ls (w0 : World) (mo : Mts) (I0 : Nat → Prop) (hmo : mo.length = 0) : LSem Try.prog (Sim w0 mo Try.f96.ntmps I0) (fun b s k => match Nat.beq 0 b with | true => i_SipEnd_L0_le.run s k | false => none) 0 (nthLoop (bodyOf Try.f96) 0 0) :=
  le_sem hmo (lorc := lorcOf []) (ann := i_SipEnd_ann) (keep := ⟨[1, 7], [], false, 0⟩) (kout := ⟨[1, 2], [], false, 0⟩) teFact mixFact (orcOf_ok _) (by kernel_rfl) (allLoops_of (bs := []) (by kernel_rfl) trivial) i_SipEnd_L0_r _ i_SipEnd_L0_lk
def i_SipEnd_L0_f  (v0 : Int) (a : Int × Int × Int × Int) : Stp (Int × Int × Int × Int) (Empty) :=
  letK (α := Sipr) (i_SipRound (⟨a.1, a.2.1, a.2.2.1, a.2.2.2⟩ : Sipr)) fun c1 =>
  .next (c1.a, c1.b, c1.c, c1.d)
theorem i_SipEnd_L0_st (v0 : Int) (v1 : Int) (v2 : Int) (v3 : Int) (v4 : Int) (hlo : 0 ≤ v0) (hhi : v0 < 4) (hN : 4 ≤ 4611686018427387904) : i_SipEnd_L0_r.step (i_SipEnd_L0_mk v0 v1 v2 v3 v4) = Stp.elim (fun a' : Int × Int × Int × Int => some (Sum.inl (i_SipEnd_L0_mk (v0 + 1) a'.1 a'.2.1 a'.2.2.1 a'.2.2.2))) (fun w => some (Sum.inr ((fun p : Empty => nomatch p) w))) (i_SipEnd_L0_f  v0 (v1, v2, v3, v4)) := by
  have hw : (IntKind.wrap .i64 (v0 + 1)) = v0 + 1 := wrap64 (by omega) (by omega)
  show i_SipEnd_L0_B v0 v1 v2 v3 v4 (Option (i_SipEnd_L0_sh.T ⊕ WT i_SipEnd_L0_es)) none (fun v' => some (Sum.inl v')) (fun w => some (Sum.inr w)) = _
  unfold i_SipEnd_L0_B i_SipEnd_L0_f
  exact bifG (by simp only [decide_eq_true_eq]; omega) (letT (f := (Stp.elim (fun a' : Int × Int × Int × Int => some (Sum.inl (i_SipEnd_L0_mk (v0 + 1) a'.1 a'.2.1 a'.2.2.1 a'.2.2.2))) (fun w => some (Sum.inr ((fun p : Empty => nomatch p) w))))) (fun c1 hc1 => (by exact congrArg (fun z => some (Sum.inl (i_SipEnd_L0_mk z c1.a c1.b c1.c c1.d))) hw)))
theorem i_SipEnd_L0_cl (v0 : Int) (v1 : Int) (v2 : Int) (v3 : Int) (v4 : Int) (h0 : 0 ≤ v0) (h1 : 4 ≤ 4611686018427387904) : loopF i_SipEnd_L0_r.step (i_SipEnd_L0_fu v0 v1 v2 v3 v4) (i_SipEnd_L0_mk v0 v1 v2 v3 v4) = some (Stp.elim (fun a => (fun i a => i_SipEnd_L0_mx0 a.1 a.2.1 a.2.2.1 a.2.2.2) (v0 + 1 * (((Int.toNat (4 - v0)) : Nat) : Int)) a) (fun p : Empty => nomatch p) (forN (i_SipEnd_L0_f ) 1 (Int.toNat (4 - v0)) v0 (v1, v2, v3, v4))) :=
  forN_loop (step := i_SipEnd_L0_r.step) (mk := fun v0 a => i_SipEnd_L0_mk v0 a.1 a.2.1 a.2.2.1 a.2.2.2) (f := i_SipEnd_L0_f ) (e := (fun i a => i_SipEnd_L0_mx0 a.1 a.2.1 a.2.2.1 a.2.2.2)) (emb := (fun p : Empty => nomatch p)) (st := 1) (Inv := fun v0 a => True) (Int.toNat (4 - v0)) v0 (v1, v2, v3, v4) _ (Nat.lt_succ_self _) trivial
    (fun j a hj hv => ⟨i_SipEnd_L0_st (v0 + 1 * (j : Int)) a.1 a.2.1 a.2.2.1 a.2.2.2 (by omega) (by omega) (by omega), fun _ _ => trivial⟩)
    (fun a hv => by
      show i_SipEnd_L0_B (v0 + 1 * (((Int.toNat (4 - v0)) : Nat) : Int)) a.1 a.2.1 a.2.2.1 a.2.2.2 (Option (i_SipEnd_L0_sh.T ⊕ WT i_SipEnd_L0_es)) none (fun v' => some (Sum.inl v')) (fun w => some (Sum.inr w)) = _
      unfold i_SipEnd_L0_B
      exact bifN (by simp only [decide_eq_false_iff_not]; omega) rfl)
def i_SipEnd_N (x0 : Sipr) (γ : Type) (fail : γ) (k : Int → γ) : γ :=
  optK (loopF i_SipEnd_L0_r.step (i_SipEnd_L0_fu 0 x0.a x0.b (bits .xor .u64 x0.c 255) x0.d) (i_SipEnd_L0_mk 0 x0.a x0.b (bits .xor .u64 x0.c 255) x0.d)) fail fun w2 =>
    letK (α := Int) (bits .xor .u64 (bits .xor .u64 (bits .xor .u64 w2.2.1.1 w2.2.1.2.1) w2.2.1.2.2.1) w2.2.1.2.2.2.1) fun e3 =>
    k e3
def i_SipEnd (x0 : Sipr) : Int :=
  Stp.elim (fun a4 =>
    letK (α := Int) (bits .xor .u64 (bits .xor .u64 (bits .xor .u64 a4.1 a4.2.1) a4.2.2.1) a4.2.2.2) fun e5 =>
    e5)
    (fun p : Empty => nomatch p)
    (forN (i_SipEnd_L0_f) 1 (Int.toNat (4 - 0)) 0 (x0.a, x0.b, (bits .xor .u64 x0.c 255), x0.d))
theorem i_SipEnd_lk (x0 : Sipr) : evalFn te (orcOf (P := Try.prog) [i_SipRound_e]) (lorcOf [i_SipEnd_L0_le]) i_SipEnd_ann Try.f96 (pvs [.st .sipr] (x0, ())) =
  i_SipEnd_N x0 _ none (fun v => some [(false, [RC.c (.int .u64 v)])]) := by kernel_rfl
theorem i_SipEnd_p (x0 : Sipr) (hx0_a : inK .u64 x0.a) (hx0_b : inK .u64 x0.b) (hx0_c : inK .u64 x0.c) (hx0_d : inK .u64 x0.d)  (γ : Type) (fail : γ) (k : Int → γ) : i_SipEnd_N x0 γ fail k = k (i_SipEnd x0) := by
  unfold i_SipEnd_N i_SipEnd
  exact loopT (f := k) (i_SipEnd_L0_cl 0 x0.a x0.b (bits .xor .u64 x0.c 255) x0.d (by (try simp only [Nat.ble_eq, Bool.and_eq_true, decide_eq_true_eq, i_SipEnd_L0_mx0]); grind [maxSl, maxStr, toBytes_length, toInts_length, List.length_set, wrap64]) (by (try simp only [Nat.ble_eq, Bool.and_eq_true, decide_eq_true_eq, i_SipEnd_L0_mx0]); grind [maxSl, maxStr, toBytes_length, toInts_length, List.length_set, wrap64])) (fun a4 => letT (f := k) (fun e5 he5 => rfl))
      (fun p : Empty => nomatch p)
theorem i_SipEnd_c (x0 : Sipr)  : Con Try.prog 96 (pvs [.st .sipr] (x0, ())) [rv (.sc (.int .u64)) [] (i_SipEnd x0)] := by
  refine Con.of_facts (enters_of Try.func96 rfl (by kernel_rfl)) fun hf => ?_
  replace hf := factAt hf
  exact evalFn_conL teFact mixFact (orcOf_ok _) Try.func96 (by kernel_rfl) (bs := [0]) (by kernel_rfl) (by kernel_rfl) (fun w0 mo I0 hmo => ⟨lsem_of_lorc (i_SipEnd_L0_ls w0 mo I0 hmo) (by kernel_rfl), trivial⟩) ((i_SipEnd_lk x0).trans (i_SipEnd_p x0 ((hf 0 0 rfl rfl).rng) ((hf 0 1 rfl rfl).rng) ((hf 0 2 rfl rfl).rng) ((hf 0 3 rfl rfl).rng) _ _ _))
noncomputable def i_SipEnd_e : Ent1 Try.prog := entA 96 [.st .sipr] (fun x => (i_SipEnd x.1)) (fun v => [rv (.sc (.int .u64)) [] v]) (fun x => i_SipEnd_c x.1)


/-- spec.l1Byte -/
def s_l1Byte_N (y0 : Curs) (γ : Type) (fail : γ) (k : Int × Curs → γ) : γ :=
  letK (α := Int) (IntKind.wrap .i64 ((IntKind.wrap .i64 (y0.h * 6364136223846793005)) + 1442695040888963407)) fun e1 =>
  letK (α := Int) (bits .and .i64 (bits .xor .i64 (e1.fdiv 8589934592) (e1.fdiv 35184372088832)) 255) fun e2 =>
  bif (decide (y0.i < (y0.b.length : Int))) then
    bif ((decide (0 ≤ y0.i)) && (decide (y0.i < (y0.b.length : Int)))) then
    letK (α := Int) (IntKind.wrap .i64 (e2 + (IntKind.wrap .i64 (y0.b.getD y0.i.toNat 0)))) fun e3 =>
    k ((bits .and .i64 e3 255), (⟨y0.b, (IntKind.wrap .i64 (y0.i + 1)), e1⟩ : Curs))
    else fail
  else
  k (e2, ({ y0 with h := e1 } : Curs))
def s_l1Byte (y0 : Curs) : Int × Curs :=
  letK (α := Int) (IntKind.wrap .i64 ((IntKind.wrap .i64 (y0.h * 6364136223846793005)) + 1442695040888963407)) fun e1 =>
  letK (α := Int) (bits .and .i64 (bits .xor .i64 (e1.fdiv 8589934592) (e1.fdiv 35184372088832)) 255) fun e2 =>
  bif (decide (y0.i < (y0.b.length : Int))) then
    letK (α := Int) (IntKind.wrap .i64 (e2 + (IntKind.wrap .i64 (y0.b.getD y0.i.toNat 0)))) fun e3 =>
    ((bits .and .i64 e3 255), (⟨y0.b, (IntKind.wrap .i64 (y0.i + 1)), e1⟩ : Curs))
  else
  (e2, ({ y0 with h := e1 } : Curs))
theorem s_l1Byte_lk (y0 : Curs) : evalFnM te (orcOf (P := Try.prog) []) lorc0 [] Try.f92 (pvs [.wr false [.ptr 0]] ((), ())) (mos [.box [.c (.sl .u8), .c (.int .i64), .c (.int .i64)]] ((y0.b, y0.i, y0.h, ()), ())) =
  s_l1Byte_N y0 _ none (fun v => some ([(false, [RC.c (.int .i64 v.1)])] ++ (mos [.box [.c (.sl .u8), .c (.int .i64), .c (.int .i64)]] ((v.2.b, v.2.i, v.2.h, ()), ())).map encO)) := by kernel_rfl
theorem s_l1Byte_p (y0 : Curs) (hy0_b : y0.b.length ≤ 140737488355328) (hy0_i : inK .i64 y0.i) (hy0_h : inK .i64 y0.h) (hp : 0 ≤ y0.i ∧ y0.b.length ≤ 1048576) (γ : Type) (fail : γ) (k : Int × Curs → γ) : s_l1Byte_N y0 γ fail k = k (s_l1Byte y0) := by
  unfold s_l1Byte_N s_l1Byte
  exact letT (f := k) (fun e1 he1 => letT (f := k) (fun e2 he2 => bifT (f := k) (fun b0 => bifG (by (try simp only [Nat.ble_eq, Bool.and_eq_true, decide_eq_true_eq]); grind [maxSl, maxStr, toBytes_length, toInts_length, List.length_set, wrap64, and255]) (letT (f := k) (fun e3 he3 => rfl)))
      (fun b0 => rfl)))
theorem s_l1Byte_c (y0 : Curs) (hp : 0 ≤ y0.i ∧ y0.b.length ≤ 1048576) : ConM Try.prog 92 (pvs [.wr false [.ptr 0]] ((), ())) (mos [.box [.c (.sl .u8), .c (.int .i64), .c (.int .i64)]] ((y0.b, y0.i, y0.h, ()), ())) [rv (.sc (.int .i64)) [] (s_l1Byte y0).1] (mos [.box [.c (.sl .u8), .c (.int .i64), .c (.int .i64)]] ((((s_l1Byte y0).2).b, ((s_l1Byte y0).2).i, ((s_l1Byte y0).2).h, ()), ())) := by
  refine ConM.of_facts (enters_of Try.func92 rfl (by kernel_rfl)) fun hf hg => ?_
  replace hf := factAt hf
  exact evalFn_conLM teFact mixFact (orcOf_ok _) Try.func92 (by kernel_rfl) (bs := []) (by kernel_rfl) (by kernel_rfl) (by kernel_rfl) rfl (fun w0 mo I0 hmo => trivial) ((s_l1Byte_lk y0).trans (s_l1Byte_p y0 ((mbAt hg 0 0 rfl rfl).len) ((mbAt hg 0 1 rfl rfl).rng) ((mbAt hg 0 2 rfl rfl).rng) hp _ _ _))
noncomputable def s_l1Byte_e : Ent1 Try.prog := entM 92 [.wr false [.ptr 0]] [.box [.c (.sl .u8), .c (.int .i64), .c (.int .i64)]] (fun x y => (decide (0 ≤ (⟨y.1.1, y.1.2.1, y.1.2.2.1⟩ : Curs).i ∧ (⟨y.1.1, y.1.2.1, y.1.2.2.1⟩ : Curs).b.length ≤ 1048576))) (fun x y => (s_l1Byte (⟨y.1.1, y.1.2.1, y.1.2.2.1⟩ : Curs))) (fun v => [rv (.sc (.int .i64)) [] v.1]) (fun x y v => (mos [.box [.c (.sl .u8), .c (.int .i64), .c (.int .i64)]] ((v.2.b, v.2.i, v.2.h, ()), ()))) (fun x y hx => s_l1Byte_c (⟨y.1.1, y.1.2.1, y.1.2.2.1⟩ : Curs) (of_decide_eq_true hx))

theorem s_l1Byte_cur (y0 : Curs)  (hc0 : 0 ≤ y0.i ∧ y0.b.length ≤ 1048576) : 0 ≤ (s_l1Byte y0).2.i ∧ (s_l1Byte y0).2.b.length ≤ 1048576 := by
  unfold s_l1Byte
  exact letP (P := (fun v : Int × Curs => 0 ≤ v.2.i ∧ v.2.b.length ≤ 1048576)) (fun e1 he1 => letP (P := (fun v : Int × Curs => 0 ≤ v.2.i ∧ v.2.b.length ≤ 1048576)) (fun e2 he2 => bifP (P := (fun v : Int × Curs => 0 ≤ v.2.i ∧ v.2.b.length ≤ 1048576)) (fun b0 => letP (P := (fun v : Int × Curs => 0 ≤ v.2.i ∧ v.2.b.length ≤ 1048576)) (fun e3 he3 => (by (try simp only [Nat.ble_eq, Bool.and_eq_true, decide_eq_true_eq]); grind [maxSl, maxStr, toBytes_length, toInts_length, List.length_set, wrap64])))
      (fun b0 => (by (try simp only [Nat.ble_eq, Bool.and_eq_true, decide_eq_true_eq]); grind [maxSl, maxStr, toBytes_length, toInts_length, List.length_set, wrap64]))))
theorem s_l1Byte_rng (y0 : Curs) (hp : 0 ≤ y0.i ∧ y0.b.length ≤ 1048576)  : (fun v : Int × Curs => 0 ≤ v.1 ∧ v.1 ≤ 255) (s_l1Byte y0) := by
  unfold s_l1Byte
  exact letP (P := (fun v : Int × Curs => 0 ≤ v.1 ∧ v.1 ≤ 255)) (fun e1 he1 => letP (P := (fun v : Int × Curs => 0 ≤ v.1 ∧ v.1 ≤ 255)) (fun e2 he2 => bifP (P := (fun v : Int × Curs => 0 ≤ v.1 ∧ v.1 ≤ 255)) (fun b0 => letP (P := (fun v : Int × Curs => 0 ≤ v.1 ∧ v.1 ≤ 255)) (fun e3 he3 => (by subst_vars; exact and255 _)))
      (fun b0 => (by subst_vars; exact and255 _))))

/-- impl.SipHash -/
def i_SipHash_ann : List (Nat × Keep) := [(0, ⟨[2, 7, 8], [.soft 8 0], false, 0⟩)]
def i_SipHash_L0_sh : Sh := ⟨[(2, false, [.str]), (7, false, [.ptr 0 0]), (8, false, [.sl .any .u8])], [.box [.int .u64, .int .u64, .int .u64, .int .u64]]⟩
def i_SipHash_L0_es : List (Ex × Sh) := [(.exit 0, ⟨[(2, false, [.str]), (6, false, [.undef]), (7, false, [.ptr 0 0]), (8, false, [.sl .any .u8])], [.box [.int .u64, .int .u64, .int .u64, .int .u64]]⟩)]
def i_SipHash_L0_mk (v0 : Bytes) (v1 : List Int) (v2 : Int) (v3 : Int) (v4 : Int) (v5 : Int) : i_SipHash_L0_sh.T := (((v0, ()), (((), ()), ((v1, ()), ()))), ((v2, (v3, (v4, (v5, ())))), ()))
def i_SipHash_L0_mx0 (y0 : Bytes) (y1 : List Int) (y2 : Int) (y3 : Int) (y4 : Int) (y5 : Int) : Sh.T ⟨[(2, false, [.str]), (6, false, [.undef]), (7, false, [.ptr 0 0]), (8, false, [.sl .any .u8])], [.box [.int .u64, .int .u64, .int .u64, .int .u64]]⟩ := (((y0, ()), (((), ()), (((), ()), ((y1, ()), ())))), ((y2, (y3, (y4, (y5, ())))), ()))
def i_SipHash_L0_B (v0 : Bytes) (v1 : List Int) (v2 : Int) (v3 : Int) (v4 : Int) (v5 : Int) (γ : Type) (fail : γ) (next : i_SipHash_L0_sh.T → γ) (out : WT i_SipHash_L0_es → γ) : γ :=
  bif (decide (8 ≤ (v1.length : Int))) then
    bif (decide (8 ≤ v1.length)) then
    letK (α := Int) (i_little v1) fun c4 =>
    letK (α := Sipr) (i_SipWord (⟨v2, v3, v4, v5⟩ : Sipr) c4) fun c5 =>
    bif ((decide (8 ≤ (v1.length : Int))) && (decide ((v1.length : Int) ≤ (v1.length : Int)))) then
    next (i_SipHash_L0_mk v0 ((v1.take ((v1.length : Int).toNat)).drop 8) c5.a c5.b c5.c c5.d)
    else fail
    else fail
  else
  out (i_SipHash_L0_mx0 v0 v1 v2 v3 v4 v5)
theorem i_SipHash_L0_par (v0 : Bytes) (v1 : List Int) (v2 : Int) (v3 : Int) (v4 : Int) (v5 : Int) (γ : Type) (fail : γ) (next : i_SipHash_L0_sh.T → γ) (out : WT i_SipHash_L0_es → γ) : i_SipHash_L0_B v0 v1 v2 v3 v4 v5 γ fail next out = optK (i_SipHash_L0_B v0 v1 v2 v3 v4 v5 _ none (fun v' => some (.inl v')) (fun w => some (.inr w))) fail (fun r => Sum.elim next out r) := by
  unfold i_SipHash_L0_B
  exact bifT (f := (fun o => optK o fail (fun r => Sum.elim next out r))) (fun _ => bifT (f := (fun o => optK o fail (fun r => Sum.elim next out r))) (fun _ => letT (f := (fun o => optK o fail (fun r => Sum.elim next out r))) (fun c4 _ => letT (f := (fun o => optK o fail (fun r => Sum.elim next out r))) (fun c5 _ => bifT (f := (fun o => optK o fail (fun r => Sum.elim next out r))) (fun _ => rfl) (fun _ => rfl)))) (fun _ => rfl))
      (fun _ => rfl)
def i_SipHash_L0_r : Round i_SipHash_L0_sh.T (WT i_SipHash_L0_es) where
  B v γ fail next out := i_SipHash_L0_B v.1.1.1 v.1.2.2.1.1 v.2.1.1 v.2.1.2.1 v.2.1.2.2.1 v.2.1.2.2.2.1 γ fail next out
  par v γ fail next out := i_SipHash_L0_par v.1.1.1 v.1.2.2.1.1 v.2.1.1 v.2.1.2.1 v.2.1.2.2.1 v.2.1.2.2.2.1 γ fail next out
def i_SipHash_L0_fu (v0 : Bytes) (v1 : List Int) (v2 : Int) (v3 : Int) (v4 : Int) (v5 : Int) : Nat := v1.length + 1
theorem i_SipHash_L0_lk (v : i_SipHash_L0_sh.T) (next : St → Option Res) (k : Ex → St → Option Res) : evalK te (orcOf (P := Try.prog) [i_SipStart_e, i_little_e, i_SipWord_e, i_SipEnd_e]) (lorcOf []) Try.f61.ntmps i_SipHash_ann (nthLoop (bodyOf Try.f61) 0 0) 0 (i_SipHash_L0_sh.enc v) (endK ⟨[2, 7, 8], [.soft 8 0], false, 0⟩ ⟨[2, 6, 7, 8], [], false, 0⟩ next k) =
  i_SipHash_L0_r.B v _ none (fun v' => next (i_SipHash_L0_sh.enc v')) (fun w => outK i_SipHash_L0_es k w) := by kernel_rfl
def i_SipHash_L0_le : LE := leOf 0 i_SipHash_L0_sh i_SipHash_L0_es i_SipHash_L0_r.step (fun v => i_SipHash_L0_fu v.1.1.1 v.1.2.2.1.1 v.2.1.1 v.2.1.2.1 v.2.1.2.2.1 v.2.1.2.2.2.1)
theorem i_SipHash_L0_ls (w0 : World) (mo : Mts) (I0 : Nat → Prop) (hmo : mo.length = 0) : LSem Try.prog (Sim w0 mo Try.f61.ntmps I0) (fun b s k => match Nat.beq 0 b with | true => i_SipHash_L0_le.run s k | false => none) 0 (nthLoop (bodyOf Try.f61) 0 0) :=
  le_sem hmo (lorc := lorcOf []) (ann := i_SipHash_ann) (keep := ⟨[2, 7, 8], [.soft 8 0], false, 0⟩) (kout := ⟨[2, 6, 7, 8], [], false, 0⟩) teFact mixFact (orcOf_ok _) (by kernel_rfl) (allLoops_of (bs := []) (by kernel_rfl) trivial) i_SipHash_L0_r _ i_SipHash_L0_lk
def i_SipHash_L0_f (v0 : Bytes) (a : List Int × Int × Int × Int × Int) : Stp (List Int × Int × Int × Int × Int) ((List Int × Int × Int × Int × Int)) :=
  bif (decide (8 ≤ (a.1.length : Int))) then
    letK (α := Int) (i_little a.1) fun c4 =>
    letK (α := Sipr) (i_SipWord (⟨a.2.1, a.2.2.1, a.2.2.2.1, a.2.2.2.2⟩ : Sipr) c4) fun c5 =>
    .next (((a.1.take ((a.1.length : Int).toNat)).drop 8), c5.a, c5.b, c5.c, c5.d)
  else
  .out ((a.1, a.2.1, a.2.2.1, a.2.2.2.1, a.2.2.2.2))
def i_SipHash_L0_w (v0 : Bytes) (v1 : List Int) (v2 : Int) (v3 : Int) (v4 : Int) (v5 : Int) : (List Int × Int × Int × Int × Int) := whileN (i_SipHash_L0_f v0) (i_SipHash_L0_fu v0 v1 v2 v3 v4 v5) (v1, v2, v3, v4, v5)
theorem i_SipHash_L0_st (v0 : Bytes) (v1 : List Int) (v2 : Int) (v3 : Int) (v4 : Int) (v5 : Int) (hinv : True) : i_SipHash_L0_r.step (i_SipHash_L0_mk v0 v1 v2 v3 v4 v5) = Stp.elim (fun a' : List Int × Int × Int × Int × Int => some (Sum.inl (i_SipHash_L0_mk v0 a'.1 a'.2.1 a'.2.2.1 a'.2.2.2.1 a'.2.2.2.2))) (fun w => some (Sum.inr ((fun p : List Int × Int × Int × Int × Int => i_SipHash_L0_mx0 v0 p.1 p.2.1 p.2.2.1 p.2.2.2.1 p.2.2.2.2) w))) (i_SipHash_L0_f v0 (v1, v2, v3, v4, v5)) := by
  show i_SipHash_L0_B v0 v1 v2 v3 v4 v5 (Option (i_SipHash_L0_sh.T ⊕ WT i_SipHash_L0_es)) none (fun v' => some (Sum.inl v')) (fun w => some (Sum.inr w)) = _
  unfold i_SipHash_L0_B i_SipHash_L0_f
  exact bifT (f := (Stp.elim (fun a' : List Int × Int × Int × Int × Int => some (Sum.inl (i_SipHash_L0_mk v0 a'.1 a'.2.1 a'.2.2.1 a'.2.2.2.1 a'.2.2.2.2))) (fun w => some (Sum.inr ((fun p : List Int × Int × Int × Int × Int => i_SipHash_L0_mx0 v0 p.1 p.2.1 p.2.2.1 p.2.2.2.1 p.2.2.2.2) w))))) (fun b0 => bifG (by (try simp only [Nat.ble_eq, Bool.and_eq_true, decide_eq_true_eq]); grind [maxSl, maxStr, toBytes_length, toInts_length, List.length_set, wrap64]) (letT (f := (Stp.elim (fun a' : List Int × Int × Int × Int × Int => some (Sum.inl (i_SipHash_L0_mk v0 a'.1 a'.2.1 a'.2.2.1 a'.2.2.2.1 a'.2.2.2.2))) (fun w => some (Sum.inr ((fun p : List Int × Int × Int × Int × Int => i_SipHash_L0_mx0 v0 p.1 p.2.1 p.2.2.1 p.2.2.2.1 p.2.2.2.2) w))))) (fun c4 hc4 => letT (f := (Stp.elim (fun a' : List Int × Int × Int × Int × Int => some (Sum.inl (i_SipHash_L0_mk v0 a'.1 a'.2.1 a'.2.2.1 a'.2.2.2.1 a'.2.2.2.2))) (fun w => some (Sum.inr ((fun p : List Int × Int × Int × Int × Int => i_SipHash_L0_mx0 v0 p.1 p.2.1 p.2.2.1 p.2.2.2.1 p.2.2.2.2) w))))) (fun c5 hc5 => bifG (by (try simp only [Nat.ble_eq, Bool.and_eq_true, decide_eq_true_eq]); grind [maxSl, maxStr, toBytes_length, toInts_length, List.length_set, wrap64]) (rfl)))))
      (fun b0 => rfl)
theorem i_SipHash_L0_dn (v0 : Bytes) (a : List Int × Int × Int × Int × Int) (hv : True) (a' : List Int × Int × Int × Int × Int) (he : i_SipHash_L0_f v0 a = .next a') : (True) ∧ a'.1.length < a.1.length := by
  grind [i_SipHash_L0_f, letK, Stp.elim, wrap64]
theorem i_SipHash_L0_cl (v0 : Bytes) (v1 : List Int) (v2 : Int) (v3 : Int) (v4 : Int) (v5 : Int)  : loopF i_SipHash_L0_r.step (i_SipHash_L0_fu v0 v1 v2 v3 v4 v5) (i_SipHash_L0_mk v0 v1 v2 v3 v4 v5) = some ((fun p : List Int × Int × Int × Int × Int => i_SipHash_L0_mx0 v0 p.1 p.2.1 p.2.2.1 p.2.2.2.1 p.2.2.2.2) (i_SipHash_L0_w v0 v1 v2 v3 v4 v5)) :=
  while_loop (A := List Int × Int × Int × Int × Int) (step := i_SipHash_L0_r.step) (mk := fun a => i_SipHash_L0_mk v0 a.1 a.2.1 a.2.2.1 a.2.2.2.1 a.2.2.2.2) (f := i_SipHash_L0_f v0) (emb := (fun p : List Int × Int × Int × Int × Int => i_SipHash_L0_mx0 v0 p.1 p.2.1 p.2.2.1 p.2.2.2.1 p.2.2.2.2)) (Inv := fun a => True) (meas := fun a => a.1.length)
    (fun a hv => ⟨i_SipHash_L0_st v0 a.1 a.2.1 a.2.2.1 a.2.2.2.1 a.2.2.2.2 hv, i_SipHash_L0_dn v0 a hv⟩) _ (v1, v2, v3, v4, v5) (Nat.lt_succ_self _) trivial
def i_SipHash_N (x0 : Int) (x1 : Int) (x2 : Bytes) (γ : Type) (fail : γ) (k : Int → γ) : γ :=
  letK (α := Sipr) (i_SipStart x0 x1) fun c1 =>
  bif (Nat.ble x2.length maxSl) then
  optK (loopF i_SipHash_L0_r.step (i_SipHash_L0_fu x2 (toInts x2) c1.a c1.b c1.c c1.d) (i_SipHash_L0_mk x2 (toInts x2) c1.a c1.b c1.c c1.d)) fail fun w6 =>
    letK (α := Int) (((w6.1.2.2.2.1.1.take (List.replicate 8 0).length).length : Nat) : Int) fun e7 =>
    letK (α := List Int) ((w6.1.2.2.2.1.1.take (List.replicate 8 0).length) ++ (List.replicate 8 0).drop (w6.1.2.2.2.1.1.take (List.replicate 8 0).length).length) fun l8 =>
    bif (decide (7 < (l8.length : Int))) then
    bif (decide (8 ≤ (l8.set 7 (IntKind.wrap .u8 (w6.1.1.1.length : Int))).length)) then
    letK (α := Int) (i_little (l8.set 7 (IntKind.wrap .u8 (w6.1.1.1.length : Int)))) fun c9 =>
    letK (α := Sipr) (i_SipWord (⟨w6.2.1.1, w6.2.1.2.1, w6.2.1.2.2.1, w6.2.1.2.2.2.1⟩ : Sipr) c9) fun c10 =>
    letK (α := Int) (i_SipEnd c10) fun c11 =>
    k c11
    else fail
    else fail
  else fail
def i_SipHash (x0 : Int) (x1 : Int) (x2 : Bytes) : Int :=
  letK (α := Sipr) (i_SipStart x0 x1) fun c1 =>
  letK (α := (List Int × Int × Int × Int × Int)) (i_SipHash_L0_w x2 (toInts x2) c1.a c1.b c1.c c1.d)
    (fun p12 =>
      letK (α := List Int) ((p12.1.take (List.replicate 8 0).length) ++ (List.replicate 8 0).drop (p12.1.take (List.replicate 8 0).length).length) fun l13 =>
      letK (α := Int) (i_little (l13.set 7 (IntKind.wrap .u8 (x2.length : Int)))) fun c14 =>
      letK (α := Sipr) (i_SipWord (⟨p12.2.1, p12.2.2.1, p12.2.2.2.1, p12.2.2.2.2⟩ : Sipr) c14) fun c15 =>
      letK (α := Int) (i_SipEnd c15) fun c16 =>
      c16)
theorem i_SipHash_lk (x0 : Int) (x1 : Int) (x2 : Bytes) : evalFn te (orcOf (P := Try.prog) [i_SipStart_e, i_little_e, i_SipWord_e, i_SipEnd_e]) (lorcOf [i_SipHash_L0_le]) i_SipHash_ann Try.f61 (pvs [.sc (.int .u64), .sc (.int .u64), .sc .str] (x0, x1, x2, ())) =
  i_SipHash_N x0 x1 x2 _ none (fun v => some [(false, [RC.c (.int .u64 v)])]) := by kernel_rfl
theorem i_SipHash_p (x0 : Int) (x1 : Int) (x2 : Bytes) (hx0 : inK .u64 x0) (hx1 : inK .u64 x1) (hx2 : List.length x2 ≤ 4611686018427387904) (hp : x2.length ≤ 4294967296) (γ : Type) (fail : γ) (k : Int → γ) : i_SipHash_N x0 x1 x2 γ fail k = k (i_SipHash x0 x1 x2) := by
  unfold i_SipHash_N i_SipHash
  exact letT (f := k) (fun c1 hc1 => bifG (by (try simp only [Nat.ble_eq, Bool.and_eq_true, decide_eq_true_eq, i_SipHash_L0_mx0]); grind [maxSl, maxStr, toBytes_length, toInts_length, List.length_set, wrap64]) (loopW (f := k) (emb := (fun p : List Int × Int × Int × Int × Int => i_SipHash_L0_mx0 x2 p.1 p.2.1 p.2.2.1 p.2.2.2.1 p.2.2.2.2)) (i_SipHash_L0_cl x2 (toInts x2) c1.a c1.b c1.c c1.d) (fun p12 hp12 => letL (letT (f := k) (fun l13 hl13 => bifG (by (try simp only [Nat.ble_eq, Bool.and_eq_true, decide_eq_true_eq, i_SipHash_L0_mx0]); grind [maxSl, maxStr, toBytes_length, toInts_length, List.length_set, wrap64]) (bifG (by (try simp only [Nat.ble_eq, Bool.and_eq_true, decide_eq_true_eq, i_SipHash_L0_mx0]); grind [maxSl, maxStr, toBytes_length, toInts_length, List.length_set, wrap64]) (letT (f := k) (fun c14 hc14 => letT (f := k) (fun c15 hc15 => letT (f := k) (fun c16 hc16 => rfl))))))))))
theorem i_SipHash_c (x0 : Int) (x1 : Int) (x2 : Bytes) (hp : x2.length ≤ 4294967296) : Con Try.prog 61 (pvs [.sc (.int .u64), .sc (.int .u64), .sc .str] (x0, x1, x2, ())) [rv (.sc (.int .u64)) [] (i_SipHash x0 x1 x2)] := by
  refine Con.of_facts (enters_of Try.func61 rfl (by kernel_rfl)) fun hf => ?_
  replace hf := factAt hf
  exact evalFn_conL teFact mixFact (orcOf_ok _) Try.func61 (by kernel_rfl) (bs := [0]) (by kernel_rfl) (by kernel_rfl) (fun w0 mo I0 hmo => ⟨lsem_of_lorc (i_SipHash_L0_ls w0 mo I0 hmo) (by kernel_rfl), trivial⟩) ((i_SipHash_lk x0 x1 x2).trans (i_SipHash_p x0 x1 x2 ((hf 0 0 rfl rfl).rng) ((hf 1 0 rfl rfl).rng) ((hf 2 0 rfl rfl).slen) hp _ _ _))
noncomputable def i_SipHash_e : Ent1 Try.prog := entP 61 [.sc (.int .u64), .sc (.int .u64), .sc .str] (fun x => (decide (x.2.2.1.length ≤ 4294967296))) (fun x => (i_SipHash x.1 x.2.1 x.2.2.1)) (fun v => [rv (.sc (.int .u64)) [] v]) (fun x hx => i_SipHash_c x.1 x.2.1 x.2.2.1 (of_decide_eq_true hx))


/-- spec.l1Below -/
def s_l1Below_N (y0 : Curs) (x1 : Int) (γ : Type) (fail : γ) (k : Int × Curs → γ) : γ :=
  bif (decide (x1 ≤ 0)) then
    k (0, y0)
  else
  bif (decide (x1 ≤ 256)) then
    bif (decide (0 ≤ y0.i ∧ y0.b.length ≤ 1048576)) then
    letK (α := Int × Curs) (s_l1Byte y0) fun c1 =>
    bif (x1 != 0) then
    k ((c1.1.tmod x1), c1.2)
    else fail
    else fail
  else
  bif (decide (0 ≤ y0.i ∧ y0.b.length ≤ 1048576)) then
  letK (α := Int × Curs) (s_l1Byte y0) fun c2 =>
  bif (decide (0 ≤ c2.2.i ∧ c2.2.b.length ≤ 1048576)) then
  letK (α := Int × Curs) (s_l1Byte c2.2) fun c3 =>
  bif (decide (0 ≤ c3.2.i ∧ c3.2.b.length ≤ 1048576)) then
  letK (α := Int × Curs) (s_l1Byte c3.2) fun c4 =>
  bif (decide (0 ≤ c4.2.i ∧ c4.2.b.length ≤ 1048576)) then
  letK (α := Int × Curs) (s_l1Byte c4.2) fun c5 =>
  letK (α := Int) (IntKind.wrap .i64 ((IntKind.wrap .i64 (c2.1 * 16777216)) + (IntKind.wrap .i64 (c3.1 * 65536)))) fun e6 =>
  letK (α := Int) (IntKind.wrap .i64 ((IntKind.wrap .i64 (e6 + (IntKind.wrap .i64 (c4.1 * 256)))) + c5.1)) fun e7 =>
  bif (x1 != 0) then
  k ((e7.tmod x1), c5.2)
  else fail
  else fail
  else fail
  else fail
  else fail
def s_l1Below (y0 : Curs) (x1 : Int) : Int × Curs :=
  bif (decide (x1 ≤ 0)) then
    (0, y0)
  else
  bif (decide (x1 ≤ 256)) then
    letK (α := Int × Curs) (s_l1Byte y0) fun c1 =>
    ((c1.1.tmod x1), c1.2)
  else
  letK (α := Int × Curs) (s_l1Byte y0) fun c2 =>
  letK (α := Int × Curs) (s_l1Byte c2.2) fun c3 =>
  letK (α := Int × Curs) (s_l1Byte c3.2) fun c4 =>
  letK (α := Int × Curs) (s_l1Byte c4.2) fun c5 =>
  letK (α := Int) (IntKind.wrap .i64 ((IntKind.wrap .i64 (c2.1 * 16777216)) + (IntKind.wrap .i64 (c3.1 * 65536)))) fun e6 =>
  letK (α := Int) (IntKind.wrap .i64 ((IntKind.wrap .i64 (e6 + (IntKind.wrap .i64 (c4.1 * 256)))) + c5.1)) fun e7 =>
  ((e7.tmod x1), c5.2)
theorem s_l1Below_lk (y0 : Curs) (x1 : Int) : evalFnM te (orcOf (P := Try.prog) [s_l1Byte_e]) lorc0 [] Try.f59 (pvs [.wr false [.ptr 0], .sc (.int .i64)] ((), x1, ())) (mos [.box [.c (.sl .u8), .c (.int .i64), .c (.int .i64)]] ((y0.b, y0.i, y0.h, ()), ())) =
  s_l1Below_N y0 x1 _ none (fun v => some ([(false, [RC.c (.int .i64 v.1)])] ++ (mos [.box [.c (.sl .u8), .c (.int .i64), .c (.int .i64)]] ((v.2.b, v.2.i, v.2.h, ()), ())).map encO)) := by kernel_rfl
theorem s_l1Below_p (y0 : Curs) (x1 : Int) (hx1 : inK .i64 x1) (hy0_b : y0.b.length ≤ 140737488355328) (hy0_i : inK .i64 y0.i) (hy0_h : inK .i64 y0.h) (hp : 0 ≤ y0.i ∧ y0.b.length ≤ 1048576) (γ : Type) (fail : γ) (k : Int × Curs → γ) : s_l1Below_N y0 x1 γ fail k = k (s_l1Below y0 x1) := by
  unfold s_l1Below_N s_l1Below
  exact bifT (f := k) (fun b0 => rfl)
      (fun b0 => bifT (f := k) (fun b1 => bifG (by (try simp only [Nat.ble_eq, Bool.and_eq_true, decide_eq_true_eq]); grind [maxSl, maxStr, toBytes_length, toInts_length, List.length_set, wrap64, tmod_nn, tmod_lt, s_l1Byte_rng, s_l1Byte_cur]) (letT (f := k) (fun c1 hc1 => have rc1 := s_l1Byte_rng y0 (by first | assumption | exact ⟨by assumption, by assumption⟩ | grind [maxSl, wrap64]); have kc1 : 0 ≤ c1.2.i ∧ c1.2.b.length ≤ 1048576 := (by rw [hc1]; exact s_l1Byte_cur _ (by first | assumption | exact ⟨by assumption, by assumption⟩ | grind [maxSl, wrap64])); bifG (by (try simp only [Nat.ble_eq, Bool.and_eq_true, decide_eq_true_eq]); grind [maxSl, maxStr, toBytes_length, toInts_length, List.length_set, wrap64, tmod_nn, tmod_lt, s_l1Byte_rng, s_l1Byte_cur]) (rfl))))
      (fun b1 => bifG (by (try simp only [Nat.ble_eq, Bool.and_eq_true, decide_eq_true_eq]); grind [maxSl, maxStr, toBytes_length, toInts_length, List.length_set, wrap64, tmod_nn, tmod_lt, s_l1Byte_rng, s_l1Byte_cur]) (letT (f := k) (fun c2 hc2 => have rc2 := s_l1Byte_rng y0 (by first | assumption | exact ⟨by assumption, by assumption⟩ | grind [maxSl, wrap64]); have kc2 : 0 ≤ c2.2.i ∧ c2.2.b.length ≤ 1048576 := (by rw [hc2]; exact s_l1Byte_cur _ (by first | assumption | exact ⟨by assumption, by assumption⟩ | grind [maxSl, wrap64])); bifG (by (try simp only [Nat.ble_eq, Bool.and_eq_true, decide_eq_true_eq]); grind [maxSl, maxStr, toBytes_length, toInts_length, List.length_set, wrap64, tmod_nn, tmod_lt, s_l1Byte_rng, s_l1Byte_cur]) (letT (f := k) (fun c3 hc3 => have rc3 := s_l1Byte_rng c2.2 (by first | assumption | exact ⟨by assumption, by assumption⟩ | grind [maxSl, wrap64]); have kc3 : 0 ≤ c3.2.i ∧ c3.2.b.length ≤ 1048576 := (by rw [hc3]; exact s_l1Byte_cur _ (by first | assumption | exact ⟨by assumption, by assumption⟩ | grind [maxSl, wrap64])); bifG (by (try simp only [Nat.ble_eq, Bool.and_eq_true, decide_eq_true_eq]); grind [maxSl, maxStr, toBytes_length, toInts_length, List.length_set, wrap64, tmod_nn, tmod_lt, s_l1Byte_rng, s_l1Byte_cur]) (letT (f := k) (fun c4 hc4 => have rc4 := s_l1Byte_rng c3.2 (by first | assumption | exact ⟨by assumption, by assumption⟩ | grind [maxSl, wrap64]); have kc4 : 0 ≤ c4.2.i ∧ c4.2.b.length ≤ 1048576 := (by rw [hc4]; exact s_l1Byte_cur _ (by first | assumption | exact ⟨by assumption, by assumption⟩ | grind [maxSl, wrap64])); bifG (by (try simp only [Nat.ble_eq, Bool.and_eq_true, decide_eq_true_eq]); grind [maxSl, maxStr, toBytes_length, toInts_length, List.length_set, wrap64, tmod_nn, tmod_lt, s_l1Byte_rng, s_l1Byte_cur]) (letT (f := k) (fun c5 hc5 => have rc5 := s_l1Byte_rng c4.2 (by first | assumption | exact ⟨by assumption, by assumption⟩ | grind [maxSl, wrap64]); have kc5 : 0 ≤ c5.2.i ∧ c5.2.b.length ≤ 1048576 := (by rw [hc5]; exact s_l1Byte_cur _ (by first | assumption | exact ⟨by assumption, by assumption⟩ | grind [maxSl, wrap64])); letT (f := k) (fun e6 he6 => letT (f := k) (fun e7 he7 => bifG (by (try simp only [Nat.ble_eq, Bool.and_eq_true, decide_eq_true_eq]); grind [maxSl, maxStr, toBytes_length, toInts_length, List.length_set, wrap64, tmod_nn, tmod_lt, s_l1Byte_rng, s_l1Byte_cur]) (rfl)))))))))))))
theorem s_l1Below_c (y0 : Curs) (x1 : Int) (hp : 0 ≤ y0.i ∧ y0.b.length ≤ 1048576) : ConM Try.prog 59 (pvs [.wr false [.ptr 0], .sc (.int .i64)] ((), x1, ())) (mos [.box [.c (.sl .u8), .c (.int .i64), .c (.int .i64)]] ((y0.b, y0.i, y0.h, ()), ())) [rv (.sc (.int .i64)) [] (s_l1Below y0 x1).1] (mos [.box [.c (.sl .u8), .c (.int .i64), .c (.int .i64)]] ((((s_l1Below y0 x1).2).b, ((s_l1Below y0 x1).2).i, ((s_l1Below y0 x1).2).h, ()), ())) := by
  refine ConM.of_facts (enters_of Try.func59 rfl (by kernel_rfl)) fun hf hg => ?_
  replace hf := factAt hf
  exact evalFn_conLM teFact mixFact (orcOf_ok _) Try.func59 (by kernel_rfl) (bs := []) (by kernel_rfl) (by kernel_rfl) (by kernel_rfl) rfl (fun w0 mo I0 hmo => trivial) ((s_l1Below_lk y0 x1).trans (s_l1Below_p y0 x1 ((hf 1 0 rfl rfl).rng) ((mbAt hg 0 0 rfl rfl).len) ((mbAt hg 0 1 rfl rfl).rng) ((mbAt hg 0 2 rfl rfl).rng) hp _ _ _))
noncomputable def s_l1Below_e : Ent1 Try.prog := entM 59 [.wr false [.ptr 0], .sc (.int .i64)] [.box [.c (.sl .u8), .c (.int .i64), .c (.int .i64)]] (fun x y => (decide (0 ≤ (⟨y.1.1, y.1.2.1, y.1.2.2.1⟩ : Curs).i ∧ (⟨y.1.1, y.1.2.1, y.1.2.2.1⟩ : Curs).b.length ≤ 1048576))) (fun x y => (s_l1Below (⟨y.1.1, y.1.2.1, y.1.2.2.1⟩ : Curs) x.2.1)) (fun v => [rv (.sc (.int .i64)) [] v.1]) (fun x y v => (mos [.box [.c (.sl .u8), .c (.int .i64), .c (.int .i64)]] ((v.2.b, v.2.i, v.2.h, ()), ()))) (fun x y hx => s_l1Below_c (⟨y.1.1, y.1.2.1, y.1.2.2.1⟩ : Curs) x.2.1 (of_decide_eq_true hx))

theorem s_l1Below_cur (y0 : Curs) (x1 : Int)  (hc0 : 0 ≤ y0.i ∧ y0.b.length ≤ 1048576) : 0 ≤ (s_l1Below y0 x1).2.i ∧ (s_l1Below y0 x1).2.b.length ≤ 1048576 := by
  unfold s_l1Below
  exact bifP (P := (fun v : Int × Curs => 0 ≤ v.2.i ∧ v.2.b.length ≤ 1048576)) (fun b0 => (by (try simp only [Nat.ble_eq, Bool.and_eq_true, decide_eq_true_eq]); grind [maxSl, maxStr, toBytes_length, toInts_length, List.length_set, wrap64, s_l1Byte_rng, s_l1Byte_cur]))
      (fun b0 => bifP (P := (fun v : Int × Curs => 0 ≤ v.2.i ∧ v.2.b.length ≤ 1048576)) (fun b1 => letP (P := (fun v : Int × Curs => 0 ≤ v.2.i ∧ v.2.b.length ≤ 1048576)) (fun c1 hc1 => have rc1 := s_l1Byte_rng y0 (by first | assumption | exact ⟨by assumption, by assumption⟩ | grind [maxSl, wrap64]); have kc1 : 0 ≤ c1.2.i ∧ c1.2.b.length ≤ 1048576 := (by rw [hc1]; exact s_l1Byte_cur _ (by first | assumption | exact ⟨by assumption, by assumption⟩ | grind [maxSl, wrap64])); (by (try simp only [Nat.ble_eq, Bool.and_eq_true, decide_eq_true_eq]); grind [maxSl, maxStr, toBytes_length, toInts_length, List.length_set, wrap64, s_l1Byte_rng, s_l1Byte_cur])))
      (fun b1 => letP (P := (fun v : Int × Curs => 0 ≤ v.2.i ∧ v.2.b.length ≤ 1048576)) (fun c2 hc2 => have rc2 := s_l1Byte_rng y0 (by first | assumption | exact ⟨by assumption, by assumption⟩ | grind [maxSl, wrap64]); have kc2 : 0 ≤ c2.2.i ∧ c2.2.b.length ≤ 1048576 := (by rw [hc2]; exact s_l1Byte_cur _ (by first | assumption | exact ⟨by assumption, by assumption⟩ | grind [maxSl, wrap64])); letP (P := (fun v : Int × Curs => 0 ≤ v.2.i ∧ v.2.b.length ≤ 1048576)) (fun c3 hc3 => have rc3 := s_l1Byte_rng c2.2 (by first | assumption | exact ⟨by assumption, by assumption⟩ | grind [maxSl, wrap64]); have kc3 : 0 ≤ c3.2.i ∧ c3.2.b.length ≤ 1048576 := (by rw [hc3]; exact s_l1Byte_cur _ (by first | assumption | exact ⟨by assumption, by assumption⟩ | grind [maxSl, wrap64])); letP (P := (fun v : Int × Curs => 0 ≤ v.2.i ∧ v.2.b.length ≤ 1048576)) (fun c4 hc4 => have rc4 := s_l1Byte_rng c3.2 (by first | assumption | exact ⟨by assumption, by assumption⟩ | grind [maxSl, wrap64]); have kc4 : 0 ≤ c4.2.i ∧ c4.2.b.length ≤ 1048576 := (by rw [hc4]; exact s_l1Byte_cur _ (by first | assumption | exact ⟨by assumption, by assumption⟩ | grind [maxSl, wrap64])); letP (P := (fun v : Int × Curs => 0 ≤ v.2.i ∧ v.2.b.length ≤ 1048576)) (fun c5 hc5 => have rc5 := s_l1Byte_rng c4.2 (by first | assumption | exact ⟨by assumption, by assumption⟩ | grind [maxSl, wrap64]); have kc5 : 0 ≤ c5.2.i ∧ c5.2.b.length ≤ 1048576 := (by rw [hc5]; exact s_l1Byte_cur _ (by first | assumption | exact ⟨by assumption, by assumption⟩ | grind [maxSl, wrap64])); letP (P := (fun v : Int × Curs => 0 ≤ v.2.i ∧ v.2.b.length ≤ 1048576)) (fun e6 he6 => letP (P := (fun v : Int × Curs => 0 ≤ v.2.i ∧ v.2.b.length ≤ 1048576)) (fun e7 he7 => (by (try simp only [Nat.ble_eq, Bool.and_eq_true, decide_eq_true_eq]); grind [maxSl, maxStr, toBytes_length, toInts_length, List.length_set, wrap64, s_l1Byte_rng, s_l1Byte_cur])))))))))
theorem s_l1Below_rng (y0 : Curs) (x1 : Int) (hp : 0 ≤ y0.i ∧ y0.b.length ≤ 1048576)  : (fun v : Int × Curs => 0 ≤ v.1 ∧ (0 < x1 → v.1 < x1)) (s_l1Below y0 x1) := by
  unfold s_l1Below
  exact bifP (P := (fun v : Int × Curs => 0 ≤ v.1 ∧ (0 < x1 → v.1 < x1))) (fun b0 => (by
    first
    | (simp only []; omega)
    | (simp only []; refine ⟨tmod_nn ?_, fun h => tmod_lt h⟩; rw [hc1]; exact (s_l1Byte_rng _ hp).1)
    | (simp only []; refine ⟨tmod_nn ?_, fun h => tmod_lt h⟩; have r2 := s_l1Byte_rng _ hp; have r3 := s_l1Byte_rng _ kc2; have r4 := s_l1Byte_rng _ kc3; have r5 := s_l1Byte_rng _ kc4; rw [← hc2] at r2; rw [← hc3] at r3; rw [← hc4] at r4; rw [← hc5] at r5; rw [he7, he6]; simp only [wrap64_def]; omega)))
      (fun b0 => bifP (P := (fun v : Int × Curs => 0 ≤ v.1 ∧ (0 < x1 → v.1 < x1))) (fun b1 => letP (P := (fun v : Int × Curs => 0 ≤ v.1 ∧ (0 < x1 → v.1 < x1))) (fun c1 hc1 => have rc1 := s_l1Byte_rng y0 (by first | assumption | exact ⟨by assumption, by assumption⟩ | grind [maxSl, wrap64]); have kc1 : 0 ≤ c1.2.i ∧ c1.2.b.length ≤ 1048576 := (by rw [hc1]; exact s_l1Byte_cur _ (by first | assumption | exact ⟨by assumption, by assumption⟩ | grind [maxSl, wrap64])); (by
    first
    | (simp only []; omega)
    | (simp only []; refine ⟨tmod_nn ?_, fun h => tmod_lt h⟩; rw [hc1]; exact (s_l1Byte_rng _ hp).1)
    | (simp only []; refine ⟨tmod_nn ?_, fun h => tmod_lt h⟩; have r2 := s_l1Byte_rng _ hp; have r3 := s_l1Byte_rng _ kc2; have r4 := s_l1Byte_rng _ kc3; have r5 := s_l1Byte_rng _ kc4; rw [← hc2] at r2; rw [← hc3] at r3; rw [← hc4] at r4; rw [← hc5] at r5; rw [he7, he6]; simp only [wrap64_def]; omega))))
      (fun b1 => letP (P := (fun v : Int × Curs => 0 ≤ v.1 ∧ (0 < x1 → v.1 < x1))) (fun c2 hc2 => have rc2 := s_l1Byte_rng y0 (by first | assumption | exact ⟨by assumption, by assumption⟩ | grind [maxSl, wrap64]); have kc2 : 0 ≤ c2.2.i ∧ c2.2.b.length ≤ 1048576 := (by rw [hc2]; exact s_l1Byte_cur _ (by first | assumption | exact ⟨by assumption, by assumption⟩ | grind [maxSl, wrap64])); letP (P := (fun v : Int × Curs => 0 ≤ v.1 ∧ (0 < x1 → v.1 < x1))) (fun c3 hc3 => have rc3 := s_l1Byte_rng c2.2 (by first | assumption | exact ⟨by assumption, by assumption⟩ | grind [maxSl, wrap64]); have kc3 : 0 ≤ c3.2.i ∧ c3.2.b.length ≤ 1048576 := (by rw [hc3]; exact s_l1Byte_cur _ (by first | assumption | exact ⟨by assumption, by assumption⟩ | grind [maxSl, wrap64])); letP (P := (fun v : Int × Curs => 0 ≤ v.1 ∧ (0 < x1 → v.1 < x1))) (fun c4 hc4 => have rc4 := s_l1Byte_rng c3.2 (by first | assumption | exact ⟨by assumption, by assumption⟩ | grind [maxSl, wrap64]); have kc4 : 0 ≤ c4.2.i ∧ c4.2.b.length ≤ 1048576 := (by rw [hc4]; exact s_l1Byte_cur _ (by first | assumption | exact ⟨by assumption, by assumption⟩ | grind [maxSl, wrap64])); letP (P := (fun v : Int × Curs => 0 ≤ v.1 ∧ (0 < x1 → v.1 < x1))) (fun c5 hc5 => have rc5 := s_l1Byte_rng c4.2 (by first | assumption | exact ⟨by assumption, by assumption⟩ | grind [maxSl, wrap64]); have kc5 : 0 ≤ c5.2.i ∧ c5.2.b.length ≤ 1048576 := (by rw [hc5]; exact s_l1Byte_cur _ (by first | assumption | exact ⟨by assumption, by assumption⟩ | grind [maxSl, wrap64])); letP (P := (fun v : Int × Curs => 0 ≤ v.1 ∧ (0 < x1 → v.1 < x1))) (fun e6 he6 => letP (P := (fun v : Int × Curs => 0 ≤ v.1 ∧ (0 < x1 → v.1 < x1))) (fun e7 he7 => (by
    first
    | (simp only []; omega)
    | (simp only []; refine ⟨tmod_nn ?_, fun h => tmod_lt h⟩; rw [hc1]; exact (s_l1Byte_rng _ hp).1)
    | (simp only []; refine ⟨tmod_nn ?_, fun h => tmod_lt h⟩; have r2 := s_l1Byte_rng _ hp; have r3 := s_l1Byte_rng _ kc2; have r4 := s_l1Byte_rng _ kc3; have r5 := s_l1Byte_rng _ kc4; rw [← hc2] at r2; rw [← hc3] at r3; rw [← hc4] at r4; rw [← hc5] at r5; rw [he7, he6]; simp only [wrap64_def]; omega))))))))))

/-- spec.l1PickInt -/
def s_l1PickInt_N (y0 : Curs) (x1 : List Int) (γ : Type) (fail : γ) (k : Int × Curs → γ) : γ :=
  bif (decide (0 ≤ y0.i ∧ y0.b.length ≤ 1048576)) then
  letK (α := Int × Curs) (s_l1Below y0 (x1.length : Int)) fun c1 =>
  bif ((decide (0 ≤ c1.1)) && (decide (c1.1 < (x1.length : Int)))) then
  k ((x1.getD c1.1.toNat 0), c1.2)
  else fail
  else fail
def s_l1PickInt (y0 : Curs) (x1 : List Int) : Int × Curs :=
  letK (α := Int × Curs) (s_l1Below y0 (x1.length : Int)) fun c1 =>
  ((x1.getD c1.1.toNat 0), c1.2)
theorem s_l1PickInt_lk (y0 : Curs) (x1 : List Int) : evalFnM te (orcOf (P := Try.prog) [s_l1Below_e]) lorc0 [] Try.f60 (pvs [.wr false [.ptr 0], .sc (.sl .i64)] ((), x1, ())) (mos [.box [.c (.sl .u8), .c (.int .i64), .c (.int .i64)]] ((y0.b, y0.i, y0.h, ()), ())) =
  s_l1PickInt_N y0 x1 _ none (fun v => some ([(false, [RC.c (.int .i64 v.1)])] ++ (mos [.box [.c (.sl .u8), .c (.int .i64), .c (.int .i64)]] ((v.2.b, v.2.i, v.2.h, ()), ())).map encO)) := by kernel_rfl
theorem s_l1PickInt_p (y0 : Curs) (x1 : List Int) (hx1 : x1.length ≤ 140737488355328) (hy0_b : y0.b.length ≤ 140737488355328) (hy0_i : inK .i64 y0.i) (hy0_h : inK .i64 y0.h) (hp : (0 ≤ y0.i ∧ y0.b.length ≤ 1048576) ∧ 0 < x1.length) (γ : Type) (fail : γ) (k : Int × Curs → γ) : s_l1PickInt_N y0 x1 γ fail k = k (s_l1PickInt y0 x1) := by
  unfold s_l1PickInt_N s_l1PickInt
  exact bifG (by first | ((try simp only [Nat.ble_eq, Bool.and_eq_true, decide_eq_true_eq]); grind [maxSl]) | (have r := s_l1Below_rng y0 (x1.length : Int) hp.1; rw [← hc1] at r; have r2 := r.2 (by omega); have r1 := r.1; change (decide (0 ≤ c1.1) && decide (c1.1 < (x1.length : Int))) = true; simp only [Bool.and_eq_true, decide_eq_true_eq]; exact ⟨r1, r2⟩)) (letT (f := k) (fun c1 hc1 => have rc1 := s_l1Below_rng y0 (x1.length : Int) (by first | assumption | exact ⟨by assumption, by assumption⟩ | grind [maxSl, wrap64]); have kc1 : 0 ≤ c1.2.i ∧ c1.2.b.length ≤ 1048576 := (by rw [hc1]; exact s_l1Below_cur _ _ (by first | assumption | exact ⟨by assumption, by assumption⟩ | grind [maxSl, wrap64])); bifG (by first | ((try simp only [Nat.ble_eq, Bool.and_eq_true, decide_eq_true_eq]); grind [maxSl]) | (have r := s_l1Below_rng y0 (x1.length : Int) hp.1; rw [← hc1] at r; have r2 := r.2 (by omega); have r1 := r.1; change (decide (0 ≤ c1.1) && decide (c1.1 < (x1.length : Int))) = true; simp only [Bool.and_eq_true, decide_eq_true_eq]; exact ⟨r1, r2⟩)) (rfl)))
theorem s_l1PickInt_c (y0 : Curs) (x1 : List Int) (hp : (0 ≤ y0.i ∧ y0.b.length ≤ 1048576) ∧ 0 < x1.length) : ConM Try.prog 60 (pvs [.wr false [.ptr 0], .sc (.sl .i64)] ((), x1, ())) (mos [.box [.c (.sl .u8), .c (.int .i64), .c (.int .i64)]] ((y0.b, y0.i, y0.h, ()), ())) [rv (.sc (.int .i64)) [] (s_l1PickInt y0 x1).1] (mos [.box [.c (.sl .u8), .c (.int .i64), .c (.int .i64)]] ((((s_l1PickInt y0 x1).2).b, ((s_l1PickInt y0 x1).2).i, ((s_l1PickInt y0 x1).2).h, ()), ())) := by
  refine ConM.of_facts (enters_of Try.func60 rfl (by kernel_rfl)) fun hf hg => ?_
  replace hf := factAt hf
  exact evalFn_conLM teFact mixFact (orcOf_ok _) Try.func60 (by kernel_rfl) (bs := []) (by kernel_rfl) (by kernel_rfl) (by kernel_rfl) rfl (fun w0 mo I0 hmo => trivial) ((s_l1PickInt_lk y0 x1).trans (s_l1PickInt_p y0 x1 ((hf 1 0 rfl rfl).len) ((mbAt hg 0 0 rfl rfl).len) ((mbAt hg 0 1 rfl rfl).rng) ((mbAt hg 0 2 rfl rfl).rng) hp _ _ _))
noncomputable def s_l1PickInt_e : Ent1 Try.prog := entM 60 [.wr false [.ptr 0], .sc (.sl .i64)] [.box [.c (.sl .u8), .c (.int .i64), .c (.int .i64)]] (fun x y => (decide ((0 ≤ (⟨y.1.1, y.1.2.1, y.1.2.2.1⟩ : Curs).i ∧ (⟨y.1.1, y.1.2.1, y.1.2.2.1⟩ : Curs).b.length ≤ 1048576) ∧ 0 < x.2.1.length))) (fun x y => (s_l1PickInt (⟨y.1.1, y.1.2.1, y.1.2.2.1⟩ : Curs) x.2.1)) (fun v => [rv (.sc (.int .i64)) [] v.1]) (fun x y v => (mos [.box [.c (.sl .u8), .c (.int .i64), .c (.int .i64)]] ((v.2.b, v.2.i, v.2.h, ()), ()))) (fun x y hx => s_l1PickInt_c (⟨y.1.1, y.1.2.1, y.1.2.2.1⟩ : Curs) x.2.1 (of_decide_eq_true hx))

theorem s_l1PickInt_cur (y0 : Curs) (x1 : List Int) (hp : (0 ≤ y0.i ∧ y0.b.length ≤ 1048576) ∧ 0 < x1.length) (hc0 : 0 ≤ y0.i ∧ y0.b.length ≤ 1048576) : 0 ≤ (s_l1PickInt y0 x1).2.i ∧ (s_l1PickInt y0 x1).2.b.length ≤ 1048576 := by
  unfold s_l1PickInt
  exact letP (P := (fun v : Int × Curs => 0 ≤ v.2.i ∧ v.2.b.length ≤ 1048576)) (fun c1 hc1 => have rc1 := s_l1Below_rng y0 (x1.length : Int) (by first | assumption | exact ⟨by assumption, by assumption⟩ | grind [maxSl, wrap64]); have kc1 : 0 ≤ c1.2.i ∧ c1.2.b.length ≤ 1048576 := (by rw [hc1]; exact s_l1Below_cur _ _ (by first | assumption | exact ⟨by assumption, by assumption⟩ | grind [maxSl, wrap64])); (by (try simp only [Nat.ble_eq, Bool.and_eq_true, decide_eq_true_eq]); grind [maxSl, maxStr, toBytes_length, toInts_length, List.length_set, wrap64, s_l1Below_rng, s_l1Below_cur]))

/-- spec.DrawAssigned -/
def s_DrawAssigned_N (x0 : List Int) (γ : Type) (fail : γ) (k : List Bytes × Int × Int → γ) : γ :=
  letK (α := Curs) (s_l1New x0) fun c1 =>
  bif (decide (0 ≤ c1.i ∧ c1.b.length ≤ 1048576)) then
  letK (α := Int × Curs) (s_l1Below c1 6) fun c2 =>
  bif ((decide (0 ≤ c2.1)) && (decide (c2.1 ≤ 6))) then
  bif (Nat.ble ((2 * (0 + ((([[97], [98], [99, 99], [], [101], [102]] : List Bytes).take c2.1.toNat).drop 0).length) + 1024) * 16) maxSl) then
  bif (decide (0 ≤ c2.2.i ∧ c2.2.b.length ≤ 1048576)) then
  letK (α := Int × Curs) (s_l1Below c2.2 6) fun c3 =>
  bif (decide ((0 ≤ c3.2.i ∧ c3.2.b.length ≤ 1048576) ∧ 0 < ([0, 1, 5, 27, 255, (-1), 9223372036854775807] : List Int).length)) then
  letK (α := Int × Curs) (s_l1PickInt c3.2 [0, 1, 5, 27, 255, (-1), 9223372036854775807]) fun c4 =>
  k (([] ++ ((([[97], [98], [99, 99], [], [101], [102]] : List Bytes).take c2.1.toNat).drop 0)), c3.1, c4.1)
  else fail
  else fail
  else fail
  else fail
  else fail
def s_DrawAssigned (x0 : List Int) : List Bytes × Int × Int :=
  letK (α := Curs) (s_l1New x0) fun c1 =>
  letK (α := Int × Curs) (s_l1Below c1 6) fun c2 =>
  letK (α := Int × Curs) (s_l1Below c2.2 6) fun c3 =>
  letK (α := Int × Curs) (s_l1PickInt c3.2 [0, 1, 5, 27, 255, (-1), 9223372036854775807]) fun c4 =>
  (([] ++ ((([[97], [98], [99, 99], [], [101], [102]] : List Bytes).take c2.1.toNat).drop 0)), c3.1, c4.1)
theorem s_DrawAssigned_lk (x0 : List Int) : evalFn te (orcOf (P := Try.prog) [s_l1New_e, s_l1Below_e, s_l1PickInt_e]) lorc0 [] Try.f22 (pvs [.sc (.sl .u8)] (x0, ())) =
  s_DrawAssigned_N x0 _ none (fun v => some [(false, [RC.own true .str v.1]), (false, [RC.c (.int .i64 v.2.1)]), (false, [RC.c (.int .i64 v.2.2)])]) := by kernel_rfl
theorem s_DrawAssigned_p (x0 : List Int) (hx0 : x0.length ≤ 140737488355328) (hp : x0.length ≤ 1048576) (γ : Type) (fail : γ) (k : List Bytes × Int × Int → γ) : s_DrawAssigned_N x0 γ fail k = k (s_DrawAssigned x0) := by
  unfold s_DrawAssigned_N s_DrawAssigned
  exact letT (f := k) (fun c1 hc1 => have kc1 : 0 ≤ c1.i ∧ c1.b.length ≤ 1048576 := (by rw [hc1]; exact s_l1New_cur _ (by first | assumption | exact ⟨by assumption, by assumption⟩ | grind [maxSl, wrap64])); bifG (by (try simp only [Nat.ble_eq, Bool.and_eq_true, decide_eq_true_eq]); grind [maxSl, maxStr, toBytes_length, toInts_length, List.length_set, wrap64, s_l1New_cur, s_l1Below_rng, s_l1Below_cur, s_l1PickInt_cur]) (letT (f := k) (fun c2 hc2 => have rc2 := s_l1Below_rng c1 6 (by first | assumption | exact ⟨by assumption, by assumption⟩ | grind [maxSl, wrap64]); have kc2 : 0 ≤ c2.2.i ∧ c2.2.b.length ≤ 1048576 := (by rw [hc2]; exact s_l1Below_cur _ _ (by first | assumption | exact ⟨by assumption, by assumption⟩ | grind [maxSl, wrap64])); bifG (by (try simp only [Nat.ble_eq, Bool.and_eq_true, decide_eq_true_eq]); grind [maxSl, maxStr, toBytes_length, toInts_length, List.length_set, wrap64, s_l1New_cur, s_l1Below_rng, s_l1Below_cur, s_l1PickInt_cur]) (bifG (by (try simp only [Nat.ble_eq, Bool.and_eq_true, decide_eq_true_eq]); grind [maxSl, maxStr, toBytes_length, toInts_length, List.length_set, wrap64, s_l1New_cur, s_l1Below_rng, s_l1Below_cur, s_l1PickInt_cur]) (bifG (by (try simp only [Nat.ble_eq, Bool.and_eq_true, decide_eq_true_eq]); grind [maxSl, maxStr, toBytes_length, toInts_length, List.length_set, wrap64, s_l1New_cur, s_l1Below_rng, s_l1Below_cur, s_l1PickInt_cur]) (letT (f := k) (fun c3 hc3 => have rc3 := s_l1Below_rng c2.2 6 (by first | assumption | exact ⟨by assumption, by assumption⟩ | grind [maxSl, wrap64]); have kc3 : 0 ≤ c3.2.i ∧ c3.2.b.length ≤ 1048576 := (by rw [hc3]; exact s_l1Below_cur _ _ (by first | assumption | exact ⟨by assumption, by assumption⟩ | grind [maxSl, wrap64])); bifG (by (try simp only [Nat.ble_eq, Bool.and_eq_true, decide_eq_true_eq]); grind [maxSl, maxStr, toBytes_length, toInts_length, List.length_set, wrap64, s_l1New_cur, s_l1Below_rng, s_l1Below_cur, s_l1PickInt_cur]) (letT (f := k) (fun c4 hc4 => have kc4 : 0 ≤ c4.2.i ∧ c4.2.b.length ≤ 1048576 := (by rw [hc4]; exact s_l1PickInt_cur _ _ (by first | assumption | exact ⟨by assumption, by assumption⟩ | grind [maxSl, wrap64]) (by first | assumption | exact ⟨by assumption, by assumption⟩ | grind [maxSl, wrap64])); rfl)))))))))
theorem s_DrawAssigned_c (x0 : List Int) (hp : x0.length ≤ 1048576) : Con Try.prog 22 (pvs [.sc (.sl .u8)] (x0, ())) [rv (.sc (.sl .str)) [.o true] (s_DrawAssigned x0).1, rv (.sc (.int .i64)) [] (s_DrawAssigned x0).2.1, rv (.sc (.int .i64)) [] (s_DrawAssigned x0).2.2] := by
  refine Con.of_facts (enters_of Try.func22 rfl (by kernel_rfl)) fun hf => ?_
  replace hf := factAt hf
  exact evalFn_con0 teFact mixFact (orcOf_ok _) Try.func22 (by kernel_rfl) ((s_DrawAssigned_lk x0).trans (s_DrawAssigned_p x0 ((hf 0 0 rfl rfl).len) hp _ _ _))
noncomputable def s_DrawAssigned_e : Ent1 Try.prog := entP 22 [.sc (.sl .u8)] (fun x => (decide (x.1.length ≤ 1048576))) (fun x => (s_DrawAssigned x.1)) (fun v => [rv (.sc (.sl .str)) [.o true] v.1, rv (.sc (.int .i64)) [] v.2.1, rv (.sc (.int .i64)) [] v.2.2]) (fun x hx => s_DrawAssigned_c x.1 (of_decide_eq_true hx))

theorem s_DrawAssigned_len (x0 : List Int) (hp : x0.length ≤ 1048576)  : (fun v : List Bytes × Int × Int => v.1.length ≤ 6 ∧ ∀ y ∈ v.1, List.length y ≤ 2) (s_DrawAssigned x0) := by
  unfold s_DrawAssigned
  exact letP (P := (fun v : List Bytes × Int × Int => v.1.length ≤ 6 ∧ ∀ y ∈ v.1, List.length y ≤ 2)) (fun c1 hc1 => have kc1 : 0 ≤ c1.i ∧ c1.b.length ≤ 1048576 := (by rw [hc1]; exact s_l1New_cur _ (by first | assumption | exact ⟨by assumption, by assumption⟩ | grind [maxSl, wrap64])); letP (P := (fun v : List Bytes × Int × Int => v.1.length ≤ 6 ∧ ∀ y ∈ v.1, List.length y ≤ 2)) (fun c2 hc2 => have rc2 := s_l1Below_rng c1 6 (by first | assumption | exact ⟨by assumption, by assumption⟩ | grind [maxSl, wrap64]); have kc2 : 0 ≤ c2.2.i ∧ c2.2.b.length ≤ 1048576 := (by rw [hc2]; exact s_l1Below_cur _ _ (by first | assumption | exact ⟨by assumption, by assumption⟩ | grind [maxSl, wrap64])); letP (P := (fun v : List Bytes × Int × Int => v.1.length ≤ 6 ∧ ∀ y ∈ v.1, List.length y ≤ 2)) (fun c3 hc3 => have rc3 := s_l1Below_rng c2.2 6 (by first | assumption | exact ⟨by assumption, by assumption⟩ | grind [maxSl, wrap64]); have kc3 : 0 ≤ c3.2.i ∧ c3.2.b.length ≤ 1048576 := (by rw [hc3]; exact s_l1Below_cur _ _ (by first | assumption | exact ⟨by assumption, by assumption⟩ | grind [maxSl, wrap64])); letP (P := (fun v : List Bytes × Int × Int => v.1.length ≤ 6 ∧ ∀ y ∈ v.1, List.length y ≤ 2)) (fun c4 hc4 => have kc4 : 0 ≤ c4.2.i ∧ c4.2.b.length ≤ 1048576 := (by rw [hc4]; exact s_l1PickInt_cur _ _ (by first | assumption | exact ⟨by assumption, by assumption⟩ | grind [maxSl, wrap64]) (by first | assumption | exact ⟨by assumption, by assumption⟩ | grind [maxSl, wrap64])); (by subst_vars; refine ⟨by simp only [List.nil_append, List.length_drop, List.length_take, List.length_cons, List.length_nil]; omega, fun y hy => ?_⟩; rw [List.nil_append] at hy; have := List.mem_of_mem_take (List.mem_of_mem_drop hy); simp only [List.mem_cons, List.not_mem_nil, or_false] at this; rcases this with rfl | rfl | rfl | rfl | rfl | rfl <;> simp)))))

/-- impl.MacOf -/
def i_MacOf_ann : List (Nat × Keep) := [(0, ⟨[1, 19, 20, 21], [], false, 0⟩)]
def i_MacOf_L0_sh : Sh := ⟨[(1, false, [.str]), (19, false, [.sl .arg .macRow]), (20, false, [.int .i64]), (21, false, [.int .i64])], []⟩
def i_MacOf_L0_es : List (Ex × Sh) := [(.ret, ⟨[(4, false, [.int .i64])], []⟩), (.exit 0, ⟨[(4, false, [.undef])], []⟩)]
def i_MacOf_L0_mk (v0 : Bytes) (v1 : List MacRow) (v2 : Int) (v3 : Int) : i_MacOf_L0_sh.T := (((v0, ()), ((v1, ()), ((v2, ()), ((v3, ()), ())))), ())
def i_MacOf_L0_mx0 (y0 : Int) : Sh.T ⟨[(4, false, [.int .i64])], []⟩ := (((y0, ()), ()), ())
def i_MacOf_L0_mx1  : Sh.T ⟨[(4, false, [.undef])], []⟩ := ((((), ()), ()), ())
def i_MacOf_L0_B (v0 : Bytes) (v1 : List MacRow) (v2 : Int) (v3 : Int) (γ : Type) (fail : γ) (next : i_MacOf_L0_sh.T → γ) (out : WT i_MacOf_L0_es → γ) : γ :=
  bif (decide (v3 < v2)) then
    bif ((decide (0 ≤ v3)) && (decide (v3 < (v1.length : Int)))) then
    bif ((v1.getD v3.toNat (Ty.zero .macRow)).input == v0) then
      letK (α := Int) (IntKind.wrap .i64 ((((v1.getD v3.toNat (Ty.zero .macRow)).value).tmod 16777216) + 16777216)) fun e2 =>
      out (Sum.inl (i_MacOf_L0_mx0 (e2.tmod 16777216)))
    else
    next (i_MacOf_L0_mk v0 v1 v2 (IntKind.wrap .i64 (v3 + 1)))
    else fail
  else
  out (Sum.inr (i_MacOf_L0_mx1 ))
theorem i_MacOf_L0_par (v0 : Bytes) (v1 : List MacRow) (v2 : Int) (v3 : Int) (γ : Type) (fail : γ) (next : i_MacOf_L0_sh.T → γ) (out : WT i_MacOf_L0_es → γ) : i_MacOf_L0_B v0 v1 v2 v3 γ fail next out = optK (i_MacOf_L0_B v0 v1 v2 v3 _ none (fun v' => some (.inl v')) (fun w => some (.inr w))) fail (fun r => Sum.elim next out r) := by
  unfold i_MacOf_L0_B
  exact bifT (f := (fun o => optK o fail (fun r => Sum.elim next out r))) (fun _ => bifT (f := (fun o => optK o fail (fun r => Sum.elim next out r))) (fun _ => bifT (f := (fun o => optK o fail (fun r => Sum.elim next out r))) (fun _ => letT (f := (fun o => optK o fail (fun r => Sum.elim next out r))) (fun e2 _ => rfl))
      (fun _ => rfl)) (fun _ => rfl))
      (fun _ => rfl)
def i_MacOf_L0_r : Round i_MacOf_L0_sh.T (WT i_MacOf_L0_es) where
  B v γ fail next out := i_MacOf_L0_B v.1.1.1 v.1.2.1.1 v.1.2.2.1.1 v.1.2.2.2.1.1 γ fail next out
  par v γ fail next out := i_MacOf_L0_par v.1.1.1 v.1.2.1.1 v.1.2.2.1.1 v.1.2.2.2.1.1 γ fail next out
def i_MacOf_L0_fu (v0 : Bytes) (v1 : List MacRow) (v2 : Int) (v3 : Int) : Nat := (Int.toNat (v2 - v3)) + 1
theorem i_MacOf_L0_lk (v : i_MacOf_L0_sh.T) (next : St → Option Res) (k : Ex → St → Option Res) : evalK te (orcOf (P := Try.prog) [i_SipHash_e]) (lorcOf []) Try.f24.ntmps i_MacOf_ann (nthLoop (bodyOf Try.f24) 0 0) 0 (i_MacOf_L0_sh.enc v) (endK ⟨[1, 19, 20, 21], [], false, 0⟩ ⟨[4], [], false, 0⟩ next k) =
  i_MacOf_L0_r.B v _ none (fun v' => next (i_MacOf_L0_sh.enc v')) (fun w => outK i_MacOf_L0_es k w) := by kernel_rfl
def i_MacOf_L0_le : LE := leOf 0 i_MacOf_L0_sh i_MacOf_L0_es i_MacOf_L0_r.step (fun v => i_MacOf_L0_fu v.1.1.1 v.1.2.1.1 v.1.2.2.1.1 v.1.2.2.2.1.1)
theorem i_MacOf_L0_ls (w0 : World) (mo : Mts) (I0 : Nat → Prop) (hmo : mo.length = 0) : LSem Try.prog (Sim w0 mo Try.f24.ntmps I0) (fun b s k => match Nat.beq 0 b with | true => i_MacOf_L0_le.run s k | false => none) 0 (nthLoop (bodyOf Try.f24) 0 0) :=
  le_sem hmo (lorc := lorcOf []) (ann := i_MacOf_ann) (keep := ⟨[1, 19, 20, 21], [], false, 0⟩) (kout := ⟨[4], [], false, 0⟩) teFact mixFact (orcOf_ok _) (by kernel_rfl) (allLoops_of (bs := []) (by kernel_rfl) trivial) i_MacOf_L0_r _ i_MacOf_L0_lk
def i_MacOf_L0_f (v0 : Bytes) (v1 : List MacRow) (v2 : Int) (v3 : Int) (a : Unit) : Stp (Unit) ((Int)) :=
  bif ((v1.getD v3.toNat (Ty.zero .macRow)).input == v0) then
    letK (α := Int) (IntKind.wrap .i64 ((((v1.getD v3.toNat (Ty.zero .macRow)).value).tmod 16777216) + 16777216)) fun e2 =>
    .out ((e2.tmod 16777216))
  else
  .next ()
theorem i_MacOf_L0_st (v0 : Bytes) (v1 : List MacRow) (v2 : Int) (v3 : Int) (hlo : 0 ≤ v3) (hhi : v3 < v2) (hN : v2 ≤ 4611686018427387904) (hi0 : v2 ≤ (v1.length : Int)) : i_MacOf_L0_r.step (i_MacOf_L0_mk v0 v1 v2 v3) = Stp.elim (fun a' : Unit => some (Sum.inl (i_MacOf_L0_mk v0 v1 v2 (v3 + 1)))) (fun w => some (Sum.inr ((fun p : Int => Sum.inl (i_MacOf_L0_mx0 p)) w))) (i_MacOf_L0_f v0 v1 v2 v3 ()) := by
  have hw : (IntKind.wrap .i64 (v3 + 1)) = v3 + 1 := wrap64 (by omega) (by omega)
  show i_MacOf_L0_B v0 v1 v2 v3 (Option (i_MacOf_L0_sh.T ⊕ WT i_MacOf_L0_es)) none (fun v' => some (Sum.inl v')) (fun w => some (Sum.inr w)) = _
  unfold i_MacOf_L0_B i_MacOf_L0_f
  exact bifG (by simp only [decide_eq_true_eq]; omega) (bifG (by (try simp only [Nat.ble_eq, Bool.and_eq_true, decide_eq_true_eq]); grind [maxSl, maxStr, toBytes_length, toInts_length, List.length_set, wrap64]) (bifT (f := (Stp.elim (fun a' : Unit => some (Sum.inl (i_MacOf_L0_mk v0 v1 v2 (v3 + 1)))) (fun w => some (Sum.inr ((fun p : Int => Sum.inl (i_MacOf_L0_mx0 p)) w))))) (fun b0 => letT (f := (Stp.elim (fun a' : Unit => some (Sum.inl (i_MacOf_L0_mk v0 v1 v2 (v3 + 1)))) (fun w => some (Sum.inr ((fun p : Int => Sum.inl (i_MacOf_L0_mx0 p)) w))))) (fun e2 he2 => rfl))
      (fun b0 => (by exact congrArg (fun z => some (Sum.inl (i_MacOf_L0_mk v0 v1 v2 z))) hw))))
theorem i_MacOf_L0_cl (v0 : Bytes) (v1 : List MacRow) (v2 : Int) (v3 : Int) (h0 : 0 ≤ v3) (h1 : v2 ≤ 4611686018427387904) (h2 : v2 ≤ (v1.length : Int)) : loopF i_MacOf_L0_r.step (i_MacOf_L0_fu v0 v1 v2 v3) (i_MacOf_L0_mk v0 v1 v2 v3) = some (Stp.elim (fun a => (fun i a => Sum.inr (i_MacOf_L0_mx1 )) (v3 + 1 * (((Int.toNat (v2 - v3)) : Nat) : Int)) a) (fun p : Int => Sum.inl (i_MacOf_L0_mx0 p)) (forN (i_MacOf_L0_f v0 v1 v2) 1 (Int.toNat (v2 - v3)) v3 ())) :=
  forN_loop (step := i_MacOf_L0_r.step) (mk := fun v3 a => i_MacOf_L0_mk v0 v1 v2 v3) (f := i_MacOf_L0_f v0 v1 v2) (e := (fun i a => Sum.inr (i_MacOf_L0_mx1 ))) (emb := (fun p : Int => Sum.inl (i_MacOf_L0_mx0 p))) (st := 1) (Inv := fun v3 a => True) (Int.toNat (v2 - v3)) v3 () _ (Nat.lt_succ_self _) trivial
    (fun j a hj hv => ⟨i_MacOf_L0_st v0 v1 v2 (v3 + 1 * (j : Int)) (by omega) (by omega) (by omega) h2, fun _ _ => trivial⟩)
    (fun a hv => by
      show i_MacOf_L0_B v0 v1 v2 (v3 + 1 * (((Int.toNat (v2 - v3)) : Nat) : Int)) (Option (i_MacOf_L0_sh.T ⊕ WT i_MacOf_L0_es)) none (fun v' => some (Sum.inl v')) (fun w => some (Sum.inr w)) = _
      unfold i_MacOf_L0_B
      exact bifN (by simp only [decide_eq_false_iff_not]; omega) rfl)
def i_MacOf_N (x0 : Mac) (x1 : Bytes) (γ : Type) (fail : γ) (k : Int → γ) : γ :=
  bif (!x0.use) then
    bif (decide (x1.length ≤ 4294967296)) then
    letK (α := Int) (i_SipHash x0.k x0.l x1) fun c1 =>
    k (IntKind.wrap .i64 (c1.tmod 16777216))
    else fail
  else
  optK (loopF i_MacOf_L0_r.step (i_MacOf_L0_fu x1 x0.rows (x0.rows.length : Int) 0) (i_MacOf_L0_mk x1 x0.rows (x0.rows.length : Int) 0)) fail fun w3 =>
    Sum.elim (fun w3 =>
      k w3.1.1.1)
    (fun w3 =>
      k 0) w3
def i_MacOf (x0 : Mac) (x1 : Bytes) : Int :=
  bif (!x0.use) then
    letK (α := Int) (i_SipHash x0.k x0.l x1) fun c1 =>
    (IntKind.wrap .i64 (c1.tmod 16777216))
  else
  Stp.elim (fun a4 =>
    0)
    (fun p4 =>
      p4)
    (forN (i_MacOf_L0_f x1 x0.rows (x0.rows.length : Int)) 1 (Int.toNat ((x0.rows.length : Int) - 0)) 0 ())
theorem i_MacOf_lk (x0 : Mac) (x1 : Bytes) : evalFn te (orcOf (P := Try.prog) [i_SipHash_e]) (lorcOf [i_MacOf_L0_le]) i_MacOf_ann Try.f24 (pvs [.st .mac, .sc .str] (x0, x1, ())) =
  i_MacOf_N x0 x1 _ none (fun v => some [(false, [RC.c (.int .i64 v)])]) := by kernel_rfl
theorem i_MacOf_p (x0 : Mac) (x1 : Bytes) (hx0_k : inK .u64 x0.k) (hx0_l : inK .u64 x0.l) (hx0_rows : x0.rows.length ≤ 140737488355328) (hx0_rows_e : ∀ y ∈ x0.rows, ∀ c ∈ Ty.cells .macRow y, FactC c) (hx1 : List.length x1 ≤ 4611686018427387904) (hp : x0.rows.length ≤ 4294967296 ∧ x1.length ≤ 4294967296) (γ : Type) (fail : γ) (k : Int → γ) : i_MacOf_N x0 x1 γ fail k = k (i_MacOf x0 x1) := by
  unfold i_MacOf_N i_MacOf
  exact bifT (f := k) (fun b0 => bifG (by (try simp only [Nat.ble_eq, Bool.and_eq_true, decide_eq_true_eq, i_MacOf_L0_mx0, i_MacOf_L0_mx1]); grind [maxSl, maxStr, toBytes_length, toInts_length, List.length_set, wrap64]) (letT (f := k) (fun c1 hc1 => rfl)))
      (fun b0 => loopT (f := k) (i_MacOf_L0_cl x1 x0.rows (x0.rows.length : Int) 0 (by (try simp only [Nat.ble_eq, Bool.and_eq_true, decide_eq_true_eq, i_MacOf_L0_mx0, i_MacOf_L0_mx1]); grind [maxSl, maxStr, toBytes_length, toInts_length, List.length_set, wrap64]) (by (try simp only [Nat.ble_eq, Bool.and_eq_true, decide_eq_true_eq, i_MacOf_L0_mx0, i_MacOf_L0_mx1]); grind [maxSl, maxStr, toBytes_length, toInts_length, List.length_set, wrap64]) (by (try simp only [Nat.ble_eq, Bool.and_eq_true, decide_eq_true_eq, i_MacOf_L0_mx0, i_MacOf_L0_mx1]); grind [maxSl, maxStr, toBytes_length, toInts_length, List.length_set, wrap64])) (fun a4 => rfl)
      (fun p4 => rfl))
theorem i_MacOf_c (x0 : Mac) (x1 : Bytes) (hp : x0.rows.length ≤ 4294967296 ∧ x1.length ≤ 4294967296) : Con Try.prog 24 (pvs [.st .mac, .sc .str] (x0, x1, ())) [rv (.sc (.int .i64)) [] (i_MacOf x0 x1)] := by
  refine Con.of_facts (enters_of Try.func24 rfl (by kernel_rfl)) fun hf => ?_
  replace hf := factAt hf
  exact evalFn_conL teFact mixFact (orcOf_ok _) Try.func24 (by kernel_rfl) (bs := [0]) (by kernel_rfl) (by kernel_rfl) (fun w0 mo I0 hmo => ⟨lsem_of_lorc (i_MacOf_L0_ls w0 mo I0 hmo) (by kernel_rfl), trivial⟩) ((i_MacOf_lk x0 x1).trans (i_MacOf_p x0 x1 ((hf 0 1 rfl rfl).rng) ((hf 0 2 rfl rfl).rng) ((hf 0 3 rfl rfl).len) (fun y hy => (hf 0 3 rfl rfl).elem hy) ((hf 1 0 rfl rfl).slen) hp _ _ _))
noncomputable def i_MacOf_e : Ent1 Try.prog := entP 24 [.st .mac, .sc .str] (fun x => (decide (x.1.rows.length ≤ 4294967296 ∧ x.2.1.length ≤ 4294967296))) (fun x => (i_MacOf x.1 x.2.1)) (fun v => [rv (.sc (.int .i64)) [] v]) (fun x hx => i_MacOf_c x.1 x.2.1 (of_decide_eq_true hx))


/-- impl.MacOk$1 -/
def i_MacOk_1_N (x0 : MacRow) (y1 : MacRow) (γ : Type) (fail : γ) (k : Bool → γ) : γ :=
  k (x0.input == y1.input)
def i_MacOk_1 (x0 : MacRow) (y1 : MacRow) : Bool :=
  (x0.input == y1.input)
theorem i_MacOk_1_lk (x0 : MacRow) (y1 : MacRow) : evalFnM te (orcOf (P := Try.prog) []) lorc0 [] Try.f63 (pvs [.st .macRow, .wr false [.ptr 0]] (x0, (), ())) (mos [.box [.c .str, .c (.int .i64)]] ((y1.input, y1.value, ()), ())) =
  i_MacOk_1_N x0 y1 _ none (fun v => some ([(false, [RC.c (.bool v)])] ++ (mos [.box [.c .str, .c (.int .i64)]] ((y1.input, y1.value, ()), ())).map encO)) := by kernel_rfl
theorem i_MacOk_1_p (x0 : MacRow) (y1 : MacRow)   (γ : Type) (fail : γ) (k : Bool → γ) : i_MacOk_1_N x0 y1 γ fail k = k (i_MacOk_1 x0 y1) := by
  unfold i_MacOk_1_N i_MacOk_1
  exact rfl
theorem i_MacOk_1_c (x0 : MacRow) (y1 : MacRow)  : ConM Try.prog 63 (pvs [.st .macRow, .wr false [.ptr 0]] (x0, (), ())) (mos [.box [.c .str, .c (.int .i64)]] ((y1.input, y1.value, ()), ())) [rv (.sc .bool) [] (i_MacOk_1 x0 y1)] (mos [.box [.c .str, .c (.int .i64)]] ((y1.input, y1.value, ()), ())) := by
  exact evalFn_conLM teFact mixFact (orcOf_ok _) Try.func63 (by kernel_rfl) (bs := []) (by kernel_rfl) (by kernel_rfl) (by kernel_rfl) rfl (fun w0 mo I0 hmo => trivial) ((i_MacOk_1_lk x0 y1).trans (i_MacOk_1_p x0 y1  _ _ _))
noncomputable def i_MacOk_1_e : Ent1 Try.prog := entM 63 [.st .macRow, .wr false [.ptr 0]] [.box [.c .str, .c (.int .i64)]] (fun x y => true) (fun x y => (i_MacOk_1 x.1 (⟨y.1.1, y.1.2.1⟩ : MacRow))) (fun v => [rv (.sc .bool) [] v]) (fun x y v => (mos [.box [.c .str, .c (.int .i64)]] (((⟨y.1.1, y.1.2.1⟩ : MacRow).input, (⟨y.1.1, y.1.2.1⟩ : MacRow).value, ()), ()))) (fun x y hx => i_MacOk_1_c x.1 (⟨y.1.1, y.1.2.1⟩ : MacRow))


/-- slices.IndexFunc[[]impl.MacRow,impl.MacRow] -/
def g_IndexFunc_MacRow_i_MacOk_1_ann : List (Nat × Keep) := [(0, ⟨[0, 1, 7, 8], [], false, 1⟩)]
def g_IndexFunc_MacRow_i_MacOk_1_L0_sh : Sh := ⟨[(0, false, [.sl .arg .macRow]), (1, false, [.fn 63 [0]]), (7, false, [.int .i64]), (8, false, [.int .i64])], [.box [.str, .int .i64]]⟩
def g_IndexFunc_MacRow_i_MacOk_1_L0_es : List (Ex × Sh) := [(.ret, ⟨[(4, false, [.int .i64])], [.box [.str, .int .i64]]⟩), (.exit 0, ⟨[(4, false, [.undef])], [.box [.str, .int .i64]]⟩)]
def g_IndexFunc_MacRow_i_MacOk_1_L0_mk (v0 : List MacRow) (v1 : Int) (v2 : Int) (v3 : Bytes) (v4 : Int) : g_IndexFunc_MacRow_i_MacOk_1_L0_sh.T := (((v0, ()), (((), ()), ((v1, ()), ((v2, ()), ())))), ((v3, (v4, ())), ()))
def g_IndexFunc_MacRow_i_MacOk_1_L0_mx0 (y0 : Int) (y1 : Bytes) (y2 : Int) : Sh.T ⟨[(4, false, [.int .i64])], [.box [.str, .int .i64]]⟩ := (((y0, ()), ()), ((y1, (y2, ())), ()))
def g_IndexFunc_MacRow_i_MacOk_1_L0_mx1 (y0 : Bytes) (y1 : Int) : Sh.T ⟨[(4, false, [.undef])], [.box [.str, .int .i64]]⟩ := ((((), ()), ()), ((y0, (y1, ())), ()))
def g_IndexFunc_MacRow_i_MacOk_1_L0_B (v0 : List MacRow) (v1 : Int) (v2 : Int) (v3 : Bytes) (v4 : Int) (γ : Type) (fail : γ) (next : g_IndexFunc_MacRow_i_MacOk_1_L0_sh.T → γ) (out : WT g_IndexFunc_MacRow_i_MacOk_1_L0_es → γ) : γ :=
  bif (decide (v2 < v1)) then
    bif ((decide (0 ≤ v2)) && (decide (v2 < (v0.length : Int)))) then
    letK (α := Bool) (i_MacOk_1 (v0.getD v2.toNat (Ty.zero .macRow)) (⟨v3, v4⟩ : MacRow)) fun c1 =>
    bif c1 then
      out (Sum.inl (g_IndexFunc_MacRow_i_MacOk_1_L0_mx0 v2 v3 v4))
    else
    next (g_IndexFunc_MacRow_i_MacOk_1_L0_mk v0 v1 (IntKind.wrap .i64 (v2 + 1)) v3 v4)
    else fail
  else
  out (Sum.inr (g_IndexFunc_MacRow_i_MacOk_1_L0_mx1 v3 v4))
theorem g_IndexFunc_MacRow_i_MacOk_1_L0_par (v0 : List MacRow) (v1 : Int) (v2 : Int) (v3 : Bytes) (v4 : Int) (γ : Type) (fail : γ) (next : g_IndexFunc_MacRow_i_MacOk_1_L0_sh.T → γ) (out : WT g_IndexFunc_MacRow_i_MacOk_1_L0_es → γ) : g_IndexFunc_MacRow_i_MacOk_1_L0_B v0 v1 v2 v3 v4 γ fail next out = optK (g_IndexFunc_MacRow_i_MacOk_1_L0_B v0 v1 v2 v3 v4 _ none (fun v' => some (.inl v')) (fun w => some (.inr w))) fail (fun r => Sum.elim next out r) := by
  unfold g_IndexFunc_MacRow_i_MacOk_1_L0_B
  exact bifT (f := (fun o => optK o fail (fun r => Sum.elim next out r))) (fun _ => bifT (f := (fun o => optK o fail (fun r => Sum.elim next out r))) (fun _ => letT (f := (fun o => optK o fail (fun r => Sum.elim next out r))) (fun c1 _ => bifT (f := (fun o => optK o fail (fun r => Sum.elim next out r))) (fun _ => rfl)
      (fun _ => rfl))) (fun _ => rfl))
      (fun _ => rfl)
def g_IndexFunc_MacRow_i_MacOk_1_L0_r : Round g_IndexFunc_MacRow_i_MacOk_1_L0_sh.T (WT g_IndexFunc_MacRow_i_MacOk_1_L0_es) where
  B v γ fail next out := g_IndexFunc_MacRow_i_MacOk_1_L0_B v.1.1.1 v.1.2.2.1.1 v.1.2.2.2.1.1 v.2.1.1 v.2.1.2.1 γ fail next out
  par v γ fail next out := g_IndexFunc_MacRow_i_MacOk_1_L0_par v.1.1.1 v.1.2.2.1.1 v.1.2.2.2.1.1 v.2.1.1 v.2.1.2.1 γ fail next out
def g_IndexFunc_MacRow_i_MacOk_1_L0_fu (v0 : List MacRow) (v1 : Int) (v2 : Int) (v3 : Bytes) (v4 : Int) : Nat := (Int.toNat (v1 - v2)) + 1
theorem g_IndexFunc_MacRow_i_MacOk_1_L0_lk (v : g_IndexFunc_MacRow_i_MacOk_1_L0_sh.T) (next : St → Option Res) (k : Ex → St → Option Res) : evalK te (orcOf (P := Try.prog) [i_MacOk_1_e]) (lorcOf []) Try.f97.ntmps g_IndexFunc_MacRow_i_MacOk_1_ann (nthLoop (bodyOf Try.f97) 0 0) 0 (g_IndexFunc_MacRow_i_MacOk_1_L0_sh.enc v) (endK ⟨[0, 1, 7, 8], [], false, 1⟩ ⟨[4], [], false, 1⟩ next k) =
  g_IndexFunc_MacRow_i_MacOk_1_L0_r.B v _ none (fun v' => next (g_IndexFunc_MacRow_i_MacOk_1_L0_sh.enc v')) (fun w => outK g_IndexFunc_MacRow_i_MacOk_1_L0_es k w) := by kernel_rfl
def g_IndexFunc_MacRow_i_MacOk_1_L0_le : LE := leOf 0 g_IndexFunc_MacRow_i_MacOk_1_L0_sh g_IndexFunc_MacRow_i_MacOk_1_L0_es g_IndexFunc_MacRow_i_MacOk_1_L0_r.step (fun v => g_IndexFunc_MacRow_i_MacOk_1_L0_fu v.1.1.1 v.1.2.2.1.1 v.1.2.2.2.1.1 v.2.1.1 v.2.1.2.1)
theorem g_IndexFunc_MacRow_i_MacOk_1_L0_ls (w0 : World) (mo : Mts) (I0 : Nat → Prop) (hmo : mo.length = 1) : LSem Try.prog (Sim w0 mo Try.f97.ntmps I0) (fun b s k => match Nat.beq 0 b with | true => g_IndexFunc_MacRow_i_MacOk_1_L0_le.run s k | false => none) 0 (nthLoop (bodyOf Try.f97) 0 0) :=
  le_sem hmo (lorc := lorcOf []) (ann := g_IndexFunc_MacRow_i_MacOk_1_ann) (keep := ⟨[0, 1, 7, 8], [], false, 1⟩) (kout := ⟨[4], [], false, 1⟩) teFact mixFact (orcOf_ok _) (by kernel_rfl) (allLoops_of (bs := []) (by kernel_rfl) trivial) g_IndexFunc_MacRow_i_MacOk_1_L0_r _ g_IndexFunc_MacRow_i_MacOk_1_L0_lk
def g_IndexFunc_MacRow_i_MacOk_1_L0_f (v0 : List MacRow) (v1 : Int) (v3 : Bytes) (v4 : Int) (v2 : Int) (a : Unit) : Stp (Unit) ((Int)) :=
  letK (α := Bool) (i_MacOk_1 (v0.getD v2.toNat (Ty.zero .macRow)) (⟨v3, v4⟩ : MacRow)) fun c1 =>
  bif c1 then
    .out (v2)
  else
  .next ()
theorem g_IndexFunc_MacRow_i_MacOk_1_L0_st (v0 : List MacRow) (v1 : Int) (v2 : Int) (v3 : Bytes) (v4 : Int) (hlo : 0 ≤ v2) (hhi : v2 < v1) (hN : v1 ≤ 4611686018427387904) (hi0 : v1 ≤ (v0.length : Int)) : g_IndexFunc_MacRow_i_MacOk_1_L0_r.step (g_IndexFunc_MacRow_i_MacOk_1_L0_mk v0 v1 v2 v3 v4) = Stp.elim (fun a' : Unit => some (Sum.inl (g_IndexFunc_MacRow_i_MacOk_1_L0_mk v0 v1 (v2 + 1) v3 v4))) (fun w => some (Sum.inr ((fun p : Int => Sum.inl (g_IndexFunc_MacRow_i_MacOk_1_L0_mx0 p v3 v4)) w))) (g_IndexFunc_MacRow_i_MacOk_1_L0_f v0 v1 v3 v4 v2 ()) := by
  have hw : (IntKind.wrap .i64 (v2 + 1)) = v2 + 1 := wrap64 (by omega) (by omega)
  show g_IndexFunc_MacRow_i_MacOk_1_L0_B v0 v1 v2 v3 v4 (Option (g_IndexFunc_MacRow_i_MacOk_1_L0_sh.T ⊕ WT g_IndexFunc_MacRow_i_MacOk_1_L0_es)) none (fun v' => some (Sum.inl v')) (fun w => some (Sum.inr w)) = _
  unfold g_IndexFunc_MacRow_i_MacOk_1_L0_B g_IndexFunc_MacRow_i_MacOk_1_L0_f
  exact bifG (by simp only [decide_eq_true_eq]; omega) (bifG (by (try simp only [Nat.ble_eq, Bool.and_eq_true, decide_eq_true_eq]); grind [maxSl, maxStr, toBytes_length, toInts_length, List.length_set, wrap64]) (letT (f := (Stp.elim (fun a' : Unit => some (Sum.inl (g_IndexFunc_MacRow_i_MacOk_1_L0_mk v0 v1 (v2 + 1) v3 v4))) (fun w => some (Sum.inr ((fun p : Int => Sum.inl (g_IndexFunc_MacRow_i_MacOk_1_L0_mx0 p v3 v4)) w))))) (fun c1 hc1 => bifT (f := (Stp.elim (fun a' : Unit => some (Sum.inl (g_IndexFunc_MacRow_i_MacOk_1_L0_mk v0 v1 (v2 + 1) v3 v4))) (fun w => some (Sum.inr ((fun p : Int => Sum.inl (g_IndexFunc_MacRow_i_MacOk_1_L0_mx0 p v3 v4)) w))))) (fun b0 => rfl)
      (fun b0 => (by exact congrArg (fun z => some (Sum.inl (g_IndexFunc_MacRow_i_MacOk_1_L0_mk v0 v1 z v3 v4))) hw)))))
theorem g_IndexFunc_MacRow_i_MacOk_1_L0_cl (v0 : List MacRow) (v1 : Int) (v2 : Int) (v3 : Bytes) (v4 : Int) (h0 : 0 ≤ v2) (h1 : v1 ≤ 4611686018427387904) (h2 : v1 ≤ (v0.length : Int)) : loopF g_IndexFunc_MacRow_i_MacOk_1_L0_r.step (g_IndexFunc_MacRow_i_MacOk_1_L0_fu v0 v1 v2 v3 v4) (g_IndexFunc_MacRow_i_MacOk_1_L0_mk v0 v1 v2 v3 v4) = some (Stp.elim (fun a => (fun i a => Sum.inr (g_IndexFunc_MacRow_i_MacOk_1_L0_mx1 v3 v4)) (v2 + 1 * (((Int.toNat (v1 - v2)) : Nat) : Int)) a) (fun p : Int => Sum.inl (g_IndexFunc_MacRow_i_MacOk_1_L0_mx0 p v3 v4)) (forN (g_IndexFunc_MacRow_i_MacOk_1_L0_f v0 v1 v3 v4) 1 (Int.toNat (v1 - v2)) v2 ())) :=
  forN_loop (step := g_IndexFunc_MacRow_i_MacOk_1_L0_r.step) (mk := fun v2 a => g_IndexFunc_MacRow_i_MacOk_1_L0_mk v0 v1 v2 v3 v4) (f := g_IndexFunc_MacRow_i_MacOk_1_L0_f v0 v1 v3 v4) (e := (fun i a => Sum.inr (g_IndexFunc_MacRow_i_MacOk_1_L0_mx1 v3 v4))) (emb := (fun p : Int => Sum.inl (g_IndexFunc_MacRow_i_MacOk_1_L0_mx0 p v3 v4))) (st := 1) (Inv := fun v2 a => True) (Int.toNat (v1 - v2)) v2 () _ (Nat.lt_succ_self _) trivial
    (fun j a hj hv => ⟨g_IndexFunc_MacRow_i_MacOk_1_L0_st v0 v1 (v2 + 1 * (j : Int)) v3 v4 (by omega) (by omega) (by omega) h2, fun _ _ => trivial⟩)
    (fun a hv => by
      show g_IndexFunc_MacRow_i_MacOk_1_L0_B v0 v1 (v2 + 1 * (((Int.toNat (v1 - v2)) : Nat) : Int)) v3 v4 (Option (g_IndexFunc_MacRow_i_MacOk_1_L0_sh.T ⊕ WT g_IndexFunc_MacRow_i_MacOk_1_L0_es)) none (fun v' => some (Sum.inl v')) (fun w => some (Sum.inr w)) = _
      unfold g_IndexFunc_MacRow_i_MacOk_1_L0_B
      exact bifN (by simp only [decide_eq_false_iff_not]; omega) rfl)
def g_IndexFunc_MacRow_i_MacOk_1_N (x0 : List MacRow) (y1_0 : MacRow) (γ : Type) (fail : γ) (k : Int × MacRow → γ) : γ :=
  optK (loopF g_IndexFunc_MacRow_i_MacOk_1_L0_r.step (g_IndexFunc_MacRow_i_MacOk_1_L0_fu x0 (x0.length : Int) 0 y1_0.input y1_0.value) (g_IndexFunc_MacRow_i_MacOk_1_L0_mk x0 (x0.length : Int) 0 y1_0.input y1_0.value)) fail fun w2 =>
    Sum.elim (fun w2 =>
      k (w2.1.1.1, (⟨w2.2.1.1, w2.2.1.2.1⟩ : MacRow)))
    (fun w2 =>
      k ((-1), (⟨w2.2.1.1, w2.2.1.2.1⟩ : MacRow))) w2
def g_IndexFunc_MacRow_i_MacOk_1 (x0 : List MacRow) (y1_0 : MacRow) : Int × MacRow :=
  Stp.elim (fun a3 =>
    ((-1), y1_0))
    (fun p3 =>
      (p3, y1_0))
    (forN (g_IndexFunc_MacRow_i_MacOk_1_L0_f x0 (x0.length : Int) y1_0.input y1_0.value) 1 (Int.toNat ((x0.length : Int) - 0)) 0 ())
theorem g_IndexFunc_MacRow_i_MacOk_1_lk (x0 : List MacRow) (y1_0 : MacRow) : evalFnM te (orcOf (P := Try.prog) [i_MacOk_1_e]) (lorcOf [g_IndexFunc_MacRow_i_MacOk_1_L0_le]) g_IndexFunc_MacRow_i_MacOk_1_ann Try.f97 (pvs [.sc (.sl .macRow), .fn 63 [0]] (x0, (), ())) (mos [.box [.c .str, .c (.int .i64)]] ((y1_0.input, y1_0.value, ()), ())) =
  g_IndexFunc_MacRow_i_MacOk_1_N x0 y1_0 _ none (fun v => some ([(false, [RC.c (.int .i64 v.1)])] ++ (mos [.box [.c .str, .c (.int .i64)]] ((v.2.input, v.2.value, ()), ())).map encO)) := by kernel_rfl
theorem g_IndexFunc_MacRow_i_MacOk_1_p (x0 : List MacRow) (y1_0 : MacRow) (hx0 : x0.length ≤ 140737488355328) (hx0_e : ∀ y ∈ x0, ∀ c ∈ Ty.cells .macRow y, FactC c) (hy1_0_input : List.length y1_0.input ≤ 4611686018427387904) (hy1_0_value : inK .i64 y1_0.value)  (γ : Type) (fail : γ) (k : Int × MacRow → γ) : g_IndexFunc_MacRow_i_MacOk_1_N x0 y1_0 γ fail k = k (g_IndexFunc_MacRow_i_MacOk_1 x0 y1_0) := by
  unfold g_IndexFunc_MacRow_i_MacOk_1_N g_IndexFunc_MacRow_i_MacOk_1
  exact loopT (f := k) (g_IndexFunc_MacRow_i_MacOk_1_L0_cl x0 (x0.length : Int) 0 y1_0.input y1_0.value (by (try simp only [Nat.ble_eq, Bool.and_eq_true, decide_eq_true_eq, g_IndexFunc_MacRow_i_MacOk_1_L0_mx0, g_IndexFunc_MacRow_i_MacOk_1_L0_mx1]); grind [maxSl, maxStr, toBytes_length, toInts_length, List.length_set, wrap64]) (by (try simp only [Nat.ble_eq, Bool.and_eq_true, decide_eq_true_eq, g_IndexFunc_MacRow_i_MacOk_1_L0_mx0, g_IndexFunc_MacRow_i_MacOk_1_L0_mx1]); grind [maxSl, maxStr, toBytes_length, toInts_length, List.length_set, wrap64]) (by (try simp only [Nat.ble_eq, Bool.and_eq_true, decide_eq_true_eq, g_IndexFunc_MacRow_i_MacOk_1_L0_mx0, g_IndexFunc_MacRow_i_MacOk_1_L0_mx1]); grind [maxSl, maxStr, toBytes_length, toInts_length, List.length_set, wrap64])) (fun a3 => rfl)
      (fun p3 => rfl)
theorem g_IndexFunc_MacRow_i_MacOk_1_c (x0 : List MacRow) (y1_0 : MacRow)  : ConM Try.prog 97 (pvs [.sc (.sl .macRow), .fn 63 [0]] (x0, (), ())) (mos [.box [.c .str, .c (.int .i64)]] ((y1_0.input, y1_0.value, ()), ())) [rv (.sc (.int .i64)) [] (g_IndexFunc_MacRow_i_MacOk_1 x0 y1_0).1] (mos [.box [.c .str, .c (.int .i64)]] ((((g_IndexFunc_MacRow_i_MacOk_1 x0 y1_0).2).input, ((g_IndexFunc_MacRow_i_MacOk_1 x0 y1_0).2).value, ()), ())) := by
  refine ConM.of_facts (enters_of Try.func97 rfl (by kernel_rfl)) fun hf hg => ?_
  replace hf := factAt hf
  exact evalFn_conLM teFact mixFact (orcOf_ok _) Try.func97 (by kernel_rfl) (bs := [0]) (by kernel_rfl) (by kernel_rfl) (by kernel_rfl) rfl (fun w0 mo I0 hmo => ⟨lsem_of_lorc (g_IndexFunc_MacRow_i_MacOk_1_L0_ls w0 mo I0 hmo) (by kernel_rfl), trivial⟩) ((g_IndexFunc_MacRow_i_MacOk_1_lk x0 y1_0).trans (g_IndexFunc_MacRow_i_MacOk_1_p x0 y1_0 ((hf 0 0 rfl rfl).len) (fun y hy => (hf 0 0 rfl rfl).elem hy) ((mbAt hg 0 0 rfl rfl).slen) ((mbAt hg 0 1 rfl rfl).rng) _ _ _))
noncomputable def g_IndexFunc_MacRow_i_MacOk_1_e : Ent1 Try.prog := entM 97 [.sc (.sl .macRow), .fn 63 [0]] [.box [.c .str, .c (.int .i64)]] (fun x y => true) (fun x y => (g_IndexFunc_MacRow_i_MacOk_1 x.1 (⟨y.1.1, y.1.2.1⟩ : MacRow))) (fun v => [rv (.sc (.int .i64)) [] v.1]) (fun x y v => (mos [.box [.c .str, .c (.int .i64)]] ((v.2.input, v.2.value, ()), ()))) (fun x y hx => g_IndexFunc_MacRow_i_MacOk_1_c x.1 (⟨y.1.1, y.1.2.1⟩ : MacRow))


/-- slices.ContainsFunc[[]impl.MacRow,impl.MacRow] -/
def g_ContainsFunc_MacRow_i_MacOk_1_N (x0 : List MacRow) (y1_0 : MacRow) (γ : Type) (fail : γ) (k : Bool × MacRow → γ) : γ :=
  letK (α := Int × MacRow) (g_IndexFunc_MacRow_i_MacOk_1 x0 y1_0) fun c1 =>
  k ((decide (0 ≤ c1.1)), c1.2)
def g_ContainsFunc_MacRow_i_MacOk_1 (x0 : List MacRow) (y1_0 : MacRow) : Bool × MacRow :=
  letK (α := Int × MacRow) (g_IndexFunc_MacRow_i_MacOk_1 x0 y1_0) fun c1 =>
  ((decide (0 ≤ c1.1)), c1.2)
theorem g_ContainsFunc_MacRow_i_MacOk_1_lk (x0 : List MacRow) (y1_0 : MacRow) : evalFnM te (orcOf (P := Try.prog) [g_IndexFunc_MacRow_i_MacOk_1_e, i_MacOk_1_e]) lorc0 [] Try.f62 (pvs [.sc (.sl .macRow), .fn 63 [0]] (x0, (), ())) (mos [.box [.c .str, .c (.int .i64)]] ((y1_0.input, y1_0.value, ()), ())) =
  g_ContainsFunc_MacRow_i_MacOk_1_N x0 y1_0 _ none (fun v => some ([(false, [RC.c (.bool v.1)])] ++ (mos [.box [.c .str, .c (.int .i64)]] ((v.2.input, v.2.value, ()), ())).map encO)) := by kernel_rfl
theorem g_ContainsFunc_MacRow_i_MacOk_1_p (x0 : List MacRow) (y1_0 : MacRow)   (γ : Type) (fail : γ) (k : Bool × MacRow → γ) : g_ContainsFunc_MacRow_i_MacOk_1_N x0 y1_0 γ fail k = k (g_ContainsFunc_MacRow_i_MacOk_1 x0 y1_0) := by
  unfold g_ContainsFunc_MacRow_i_MacOk_1_N g_ContainsFunc_MacRow_i_MacOk_1
  exact letT (f := k) (fun c1 hc1 => rfl)
theorem g_ContainsFunc_MacRow_i_MacOk_1_c (x0 : List MacRow) (y1_0 : MacRow)  : ConM Try.prog 62 (pvs [.sc (.sl .macRow), .fn 63 [0]] (x0, (), ())) (mos [.box [.c .str, .c (.int .i64)]] ((y1_0.input, y1_0.value, ()), ())) [rv (.sc .bool) [] (g_ContainsFunc_MacRow_i_MacOk_1 x0 y1_0).1] (mos [.box [.c .str, .c (.int .i64)]] ((((g_ContainsFunc_MacRow_i_MacOk_1 x0 y1_0).2).input, ((g_ContainsFunc_MacRow_i_MacOk_1 x0 y1_0).2).value, ()), ())) := by
  exact evalFn_conLM teFact mixFact (orcOf_ok _) Try.func62 (by kernel_rfl) (bs := []) (by kernel_rfl) (by kernel_rfl) (by kernel_rfl) rfl (fun w0 mo I0 hmo => trivial) ((g_ContainsFunc_MacRow_i_MacOk_1_lk x0 y1_0).trans (g_ContainsFunc_MacRow_i_MacOk_1_p x0 y1_0  _ _ _))
noncomputable def g_ContainsFunc_MacRow_i_MacOk_1_e : Ent1 Try.prog := entM 62 [.sc (.sl .macRow), .fn 63 [0]] [.box [.c .str, .c (.int .i64)]] (fun x y => true) (fun x y => (g_ContainsFunc_MacRow_i_MacOk_1 x.1 (⟨y.1.1, y.1.2.1⟩ : MacRow))) (fun v => [rv (.sc .bool) [] v.1]) (fun x y v => (mos [.box [.c .str, .c (.int .i64)]] ((v.2.input, v.2.value, ()), ()))) (fun x y hx => g_ContainsFunc_MacRow_i_MacOk_1_c x.1 (⟨y.1.1, y.1.2.1⟩ : MacRow))


/-- impl.MacOk -/
def i_MacOk_ann : List (Nat × Keep) := [(0, ⟨[1, 27, 28, 29], [], false, 0⟩)]
def i_MacOk_L0_sh : Sh := ⟨[(1, false, [.ptr 0 0]), (27, false, [.sl .arg .macRow]), (28, false, [.int .i64]), (29, false, [.int .i64])], [.box [.bool, .int .u64, .int .u64, .sl .arg .macRow]]⟩
def i_MacOk_L0_es : List (Ex × Sh) := [(.ret, ⟨[(2, false, [.bool])], []⟩), (.exit 0, ⟨[(2, false, [.undef])], []⟩)]
def i_MacOk_L0_mk (v0 : List MacRow) (v1 : Int) (v2 : Int) (v3 : Bool) (v4 : Int) (v5 : Int) (v6 : List MacRow) : i_MacOk_L0_sh.T := ((((), ()), ((v0, ()), ((v1, ()), ((v2, ()), ())))), ((v3, (v4, (v5, (v6, ())))), ()))
def i_MacOk_L0_mx0 (y0 : Bool) : Sh.T ⟨[(2, false, [.bool])], []⟩ := (((y0, ()), ()), ())
def i_MacOk_L0_mx1  : Sh.T ⟨[(2, false, [.undef])], []⟩ := ((((), ()), ()), ())
def i_MacOk_L0_B (v0 : List MacRow) (v1 : Int) (v2 : Int) (v3 : Bool) (v4 : Int) (v5 : Int) (v6 : List MacRow) (γ : Type) (fail : γ) (next : i_MacOk_L0_sh.T → γ) (out : WT i_MacOk_L0_es → γ) : γ :=
  bif (decide (v2 < v1)) then
    bif ((decide (0 ≤ v2)) && (decide (v2 < (v0.length : Int)))) then
    letK (α := Bool) (i_within ((v0.getD v2.toNat (Ty.zero .macRow)).value) 0 16777215) fun c1 =>
    bif (!c1) then
      out (Sum.inl (i_MacOk_L0_mx0 false))
    else
    bif ((decide (0 ≤ v2)) && (decide (v2 ≤ (v6.length : Int)))) then
    letK (α := Bool × MacRow) (g_ContainsFunc_MacRow_i_MacOk_1 ((v6.take v2.toNat).drop 0) (v0.getD v2.toNat (Ty.zero .macRow))) fun c2 =>
    bif c2.1 then
      out (Sum.inl (i_MacOk_L0_mx0 false))
    else
    next (i_MacOk_L0_mk v0 v1 (IntKind.wrap .i64 (v2 + 1)) v3 v4 v5 v6)
    else fail
    else fail
  else
  out (Sum.inr (i_MacOk_L0_mx1 ))
theorem i_MacOk_L0_par (v0 : List MacRow) (v1 : Int) (v2 : Int) (v3 : Bool) (v4 : Int) (v5 : Int) (v6 : List MacRow) (γ : Type) (fail : γ) (next : i_MacOk_L0_sh.T → γ) (out : WT i_MacOk_L0_es → γ) : i_MacOk_L0_B v0 v1 v2 v3 v4 v5 v6 γ fail next out = optK (i_MacOk_L0_B v0 v1 v2 v3 v4 v5 v6 _ none (fun v' => some (.inl v')) (fun w => some (.inr w))) fail (fun r => Sum.elim next out r) := by
  unfold i_MacOk_L0_B
  exact bifT (f := (fun o => optK o fail (fun r => Sum.elim next out r))) (fun _ => bifT (f := (fun o => optK o fail (fun r => Sum.elim next out r))) (fun _ => letT (f := (fun o => optK o fail (fun r => Sum.elim next out r))) (fun c1 _ => bifT (f := (fun o => optK o fail (fun r => Sum.elim next out r))) (fun _ => rfl)
      (fun _ => bifT (f := (fun o => optK o fail (fun r => Sum.elim next out r))) (fun _ => letT (f := (fun o => optK o fail (fun r => Sum.elim next out r))) (fun c2 _ => bifT (f := (fun o => optK o fail (fun r => Sum.elim next out r))) (fun _ => rfl)
      (fun _ => rfl))) (fun _ => rfl)))) (fun _ => rfl))
      (fun _ => rfl)
def i_MacOk_L0_r : Round i_MacOk_L0_sh.T (WT i_MacOk_L0_es) where
  B v γ fail next out := i_MacOk_L0_B v.1.2.1.1 v.1.2.2.1.1 v.1.2.2.2.1.1 v.2.1.1 v.2.1.2.1 v.2.1.2.2.1 v.2.1.2.2.2.1 γ fail next out
  par v γ fail next out := i_MacOk_L0_par v.1.2.1.1 v.1.2.2.1.1 v.1.2.2.2.1.1 v.2.1.1 v.2.1.2.1 v.2.1.2.2.1 v.2.1.2.2.2.1 γ fail next out
def i_MacOk_L0_fu (v0 : List MacRow) (v1 : Int) (v2 : Int) (v3 : Bool) (v4 : Int) (v5 : Int) (v6 : List MacRow) : Nat := (Int.toNat (v1 - v2)) + 1
theorem i_MacOk_L0_lk (v : i_MacOk_L0_sh.T) (next : St → Option Res) (k : Ex → St → Option Res) : evalK te (orcOf (P := Try.prog) [i_within_e, g_ContainsFunc_MacRow_i_MacOk_1_e, i_MacOk_1_e]) (lorcOf []) Try.f25.ntmps i_MacOk_ann (nthLoop (bodyOf Try.f25) 0 0) 0 (i_MacOk_L0_sh.enc v) (endK ⟨[1, 27, 28, 29], [], false, 0⟩ ⟨[2], [], false, 0⟩ next k) =
  i_MacOk_L0_r.B v _ none (fun v' => next (i_MacOk_L0_sh.enc v')) (fun w => outK i_MacOk_L0_es k w) := by kernel_rfl
def i_MacOk_L0_le : LE := leOf 0 i_MacOk_L0_sh i_MacOk_L0_es i_MacOk_L0_r.step (fun v => i_MacOk_L0_fu v.1.2.1.1 v.1.2.2.1.1 v.1.2.2.2.1.1 v.2.1.1 v.2.1.2.1 v.2.1.2.2.1 v.2.1.2.2.2.1)
theorem i_MacOk_L0_ls (w0 : World) (mo : Mts) (I0 : Nat → Prop) (hmo : mo.length = 0) : LSem Try.prog (Sim w0 mo Try.f25.ntmps I0) (fun b s k => match Nat.beq 0 b with | true => i_MacOk_L0_le.run s k | false => none) 0 (nthLoop (bodyOf Try.f25) 0 0) :=
  le_sem hmo (lorc := lorcOf []) (ann := i_MacOk_ann) (keep := ⟨[1, 27, 28, 29], [], false, 0⟩) (kout := ⟨[2], [], false, 0⟩) teFact mixFact (orcOf_ok _) (by kernel_rfl) (allLoops_of (bs := []) (by kernel_rfl) trivial) i_MacOk_L0_r _ i_MacOk_L0_lk
def i_MacOk_L0_f (v0 : List MacRow) (v1 : Int) (v3 : Bool) (v4 : Int) (v5 : Int) (v6 : List MacRow) (v2 : Int) (a : Unit) : Stp (Unit) ((Unit)) :=
  letK (α := Bool) (i_within ((v0.getD v2.toNat (Ty.zero .macRow)).value) 0 16777215) fun c1 =>
  bif (!c1) then
    .out (())
  else
  letK (α := Bool × MacRow) (g_ContainsFunc_MacRow_i_MacOk_1 ((v6.take v2.toNat).drop 0) (v0.getD v2.toNat (Ty.zero .macRow))) fun c2 =>
  bif c2.1 then
    .out (())
  else
  .next ()
theorem i_MacOk_L0_st (v0 : List MacRow) (v1 : Int) (v2 : Int) (v3 : Bool) (v4 : Int) (v5 : Int) (v6 : List MacRow) (hlo : 0 ≤ v2) (hhi : v2 < v1) (hN : v1 ≤ 4611686018427387904) (hi0 : v1 ≤ (v0.length : Int)) (hi1 : v1 ≤ (v6.length : Int)) : i_MacOk_L0_r.step (i_MacOk_L0_mk v0 v1 v2 v3 v4 v5 v6) = Stp.elim (fun a' : Unit => some (Sum.inl (i_MacOk_L0_mk v0 v1 (v2 + 1) v3 v4 v5 v6))) (fun w => some (Sum.inr ((fun p : Unit => Sum.inl (i_MacOk_L0_mx0 false)) w))) (i_MacOk_L0_f v0 v1 v3 v4 v5 v6 v2 ()) := by
  have hw : (IntKind.wrap .i64 (v2 + 1)) = v2 + 1 := wrap64 (by omega) (by omega)
  show i_MacOk_L0_B v0 v1 v2 v3 v4 v5 v6 (Option (i_MacOk_L0_sh.T ⊕ WT i_MacOk_L0_es)) none (fun v' => some (Sum.inl v')) (fun w => some (Sum.inr w)) = _
  unfold i_MacOk_L0_B i_MacOk_L0_f
  exact bifG (by simp only [decide_eq_true_eq]; omega) (bifG (by (try simp only [Nat.ble_eq, Bool.and_eq_true, decide_eq_true_eq]); grind [maxSl, maxStr, toBytes_length, toInts_length, List.length_set, wrap64]) (letT (f := (Stp.elim (fun a' : Unit => some (Sum.inl (i_MacOk_L0_mk v0 v1 (v2 + 1) v3 v4 v5 v6))) (fun w => some (Sum.inr ((fun p : Unit => Sum.inl (i_MacOk_L0_mx0 false)) w))))) (fun c1 hc1 => bifT (f := (Stp.elim (fun a' : Unit => some (Sum.inl (i_MacOk_L0_mk v0 v1 (v2 + 1) v3 v4 v5 v6))) (fun w => some (Sum.inr ((fun p : Unit => Sum.inl (i_MacOk_L0_mx0 false)) w))))) (fun b0 => rfl)
      (fun b0 => bifG (by (try simp only [Nat.ble_eq, Bool.and_eq_true, decide_eq_true_eq]); grind [maxSl, maxStr, toBytes_length, toInts_length, List.length_set, wrap64]) (letT (f := (Stp.elim (fun a' : Unit => some (Sum.inl (i_MacOk_L0_mk v0 v1 (v2 + 1) v3 v4 v5 v6))) (fun w => some (Sum.inr ((fun p : Unit => Sum.inl (i_MacOk_L0_mx0 false)) w))))) (fun c2 hc2 => bifT (f := (Stp.elim (fun a' : Unit => some (Sum.inl (i_MacOk_L0_mk v0 v1 (v2 + 1) v3 v4 v5 v6))) (fun w => some (Sum.inr ((fun p : Unit => Sum.inl (i_MacOk_L0_mx0 false)) w))))) (fun b1 => rfl)
      (fun b1 => (by exact congrArg (fun z => some (Sum.inl (i_MacOk_L0_mk v0 v1 z v3 v4 v5 v6))) hw))))))))
theorem i_MacOk_L0_cl (v0 : List MacRow) (v1 : Int) (v2 : Int) (v3 : Bool) (v4 : Int) (v5 : Int) (v6 : List MacRow) (h0 : 0 ≤ v2) (h1 : v1 ≤ 4611686018427387904) (h2 : v1 ≤ (v0.length : Int)) (h3 : v1 ≤ (v6.length : Int)) : loopF i_MacOk_L0_r.step (i_MacOk_L0_fu v0 v1 v2 v3 v4 v5 v6) (i_MacOk_L0_mk v0 v1 v2 v3 v4 v5 v6) = some (Stp.elim (fun a => (fun i a => Sum.inr (i_MacOk_L0_mx1 )) (v2 + 1 * (((Int.toNat (v1 - v2)) : Nat) : Int)) a) (fun p : Unit => Sum.inl (i_MacOk_L0_mx0 false)) (forN (i_MacOk_L0_f v0 v1 v3 v4 v5 v6) 1 (Int.toNat (v1 - v2)) v2 ())) :=
  forN_loop (step := i_MacOk_L0_r.step) (mk := fun v2 a => i_MacOk_L0_mk v0 v1 v2 v3 v4 v5 v6) (f := i_MacOk_L0_f v0 v1 v3 v4 v5 v6) (e := (fun i a => Sum.inr (i_MacOk_L0_mx1 ))) (emb := (fun p : Unit => Sum.inl (i_MacOk_L0_mx0 false))) (st := 1) (Inv := fun v2 a => True) (Int.toNat (v1 - v2)) v2 () _ (Nat.lt_succ_self _) trivial
    (fun j a hj hv => ⟨i_MacOk_L0_st v0 v1 (v2 + 1 * (j : Int)) v3 v4 v5 v6 (by omega) (by omega) (by omega) h2 h3, fun _ _ => trivial⟩)
    (fun a hv => by
      show i_MacOk_L0_B v0 v1 (v2 + 1 * (((Int.toNat (v1 - v2)) : Nat) : Int)) v3 v4 v5 v6 (Option (i_MacOk_L0_sh.T ⊕ WT i_MacOk_L0_es)) none (fun v' => some (Sum.inl v')) (fun w => some (Sum.inr w)) = _
      unfold i_MacOk_L0_B
      exact bifN (by simp only [decide_eq_false_iff_not]; omega) rfl)
def i_MacOk_N (x0 : Mac) (γ : Type) (fail : γ) (k : Bool → γ) : γ :=
  bif (!x0.use) then
    k ((x0.rows.length : Int) == 0)
  else
  bif (x0.k != 0) then
    k false
  else
  bif (x0.l != 0) then
    k false
  else
  bif (decide (64 < (x0.rows.length : Int))) then
    k false
  else
  optK (loopF i_MacOk_L0_r.step (i_MacOk_L0_fu x0.rows (x0.rows.length : Int) 0 x0.use x0.k x0.l x0.rows) (i_MacOk_L0_mk x0.rows (x0.rows.length : Int) 0 x0.use x0.k x0.l x0.rows)) fail fun w3 =>
    Sum.elim (fun w3 =>
      k w3.1.1.1)
    (fun w3 =>
      k true) w3
def i_MacOk (x0 : Mac) : Bool :=
  bif (!x0.use) then
    ((x0.rows.length : Int) == 0)
  else
  bif (x0.k != 0) then
    false
  else
  bif (x0.l != 0) then
    false
  else
  bif (decide (64 < (x0.rows.length : Int))) then
    false
  else
  Stp.elim (fun a4 =>
    true)
    (fun p4 =>
      false)
    (forN (i_MacOk_L0_f x0.rows (x0.rows.length : Int) x0.use x0.k x0.l x0.rows) 1 (Int.toNat ((x0.rows.length : Int) - 0)) 0 ())
theorem i_MacOk_lk (x0 : Mac) : evalFn te (orcOf (P := Try.prog) [i_within_e, g_ContainsFunc_MacRow_i_MacOk_1_e, i_MacOk_1_e]) (lorcOf [i_MacOk_L0_le]) i_MacOk_ann Try.f25 (pvs [.st .mac] (x0, ())) =
  i_MacOk_N x0 _ none (fun v => some [(false, [RC.c (.bool v)])]) := by kernel_rfl
theorem i_MacOk_p (x0 : Mac) (hx0_k : inK .u64 x0.k) (hx0_l : inK .u64 x0.l) (hx0_rows : x0.rows.length ≤ 140737488355328) (hx0_rows_e : ∀ y ∈ x0.rows, ∀ c ∈ Ty.cells .macRow y, FactC c)  (γ : Type) (fail : γ) (k : Bool → γ) : i_MacOk_N x0 γ fail k = k (i_MacOk x0) := by
  unfold i_MacOk_N i_MacOk
  exact bifT (f := k) (fun b0 => rfl)
      (fun b0 => bifT (f := k) (fun b1 => rfl)
      (fun b1 => bifT (f := k) (fun b2 => rfl)
      (fun b2 => bifT (f := k) (fun b3 => rfl)
      (fun b3 => loopT (f := k) (i_MacOk_L0_cl x0.rows (x0.rows.length : Int) 0 x0.use x0.k x0.l x0.rows (by (try simp only [Nat.ble_eq, Bool.and_eq_true, decide_eq_true_eq, i_MacOk_L0_mx0, i_MacOk_L0_mx1]); grind [maxSl, maxStr, toBytes_length, toInts_length, List.length_set, wrap64]) (by (try simp only [Nat.ble_eq, Bool.and_eq_true, decide_eq_true_eq, i_MacOk_L0_mx0, i_MacOk_L0_mx1]); grind [maxSl, maxStr, toBytes_length, toInts_length, List.length_set, wrap64]) (by (try simp only [Nat.ble_eq, Bool.and_eq_true, decide_eq_true_eq, i_MacOk_L0_mx0, i_MacOk_L0_mx1]); grind [maxSl, maxStr, toBytes_length, toInts_length, List.length_set, wrap64]) (by (try simp only [Nat.ble_eq, Bool.and_eq_true, decide_eq_true_eq, i_MacOk_L0_mx0, i_MacOk_L0_mx1]); grind [maxSl, maxStr, toBytes_length, toInts_length, List.length_set, wrap64])) (fun a4 => rfl)
      (fun p4 => rfl)))))
theorem i_MacOk_c (x0 : Mac)  : Con Try.prog 25 (pvs [.st .mac] (x0, ())) [rv (.sc .bool) [] (i_MacOk x0)] := by
  refine Con.of_facts (enters_of Try.func25 rfl (by kernel_rfl)) fun hf => ?_
  replace hf := factAt hf
  exact evalFn_conL teFact mixFact (orcOf_ok _) Try.func25 (by kernel_rfl) (bs := [0]) (by kernel_rfl) (by kernel_rfl) (fun w0 mo I0 hmo => ⟨lsem_of_lorc (i_MacOk_L0_ls w0 mo I0 hmo) (by kernel_rfl), trivial⟩) ((i_MacOk_lk x0).trans (i_MacOk_p x0 ((hf 0 1 rfl rfl).rng) ((hf 0 2 rfl rfl).rng) ((hf 0 3 rfl rfl).len) (fun y hy => (hf 0 3 rfl rfl).elem hy) _ _ _))
noncomputable def i_MacOk_e : Ent1 Try.prog := entA 25 [.st .mac] (fun x => (i_MacOk x.1)) (fun v => [rv (.sc .bool) [] v]) (fun x => i_MacOk_c x.1)


/-- laws.FnAssigned -/
def w_FnAssigned_ann : List (Nat × Keep) := [(0, ⟨[3, 4, 5, 6, 7, 8], [], false, 0⟩), (2, ⟨[3, 4, 5, 6, 7, 9, 10], [], false, 0⟩)]
def w_FnAssigned_L0_sh : Sh := ⟨[(3, false, [.own 0]), (4, false, [.int .i64]), (5, false, [.int .i64]), (6, false, [.ptr 1 0]), (7, false, [.int .i64]), (8, false, [.int .i64])], [.arr .str false true, .box [.bool, .int .u64, .int .u64, .own 2], .arr .macRow false true]⟩
def w_FnAssigned_L0_es : List (Ex × Sh) := [(.exit 0, ⟨[(2, false, [.undef]), (3, false, [.own 0]), (4, false, [.int .i64]), (5, false, [.int .i64]), (6, false, [.ptr 1 0]), (7, false, [.int .i64])], [.arr .str false true, .box [.bool, .int .u64, .int .u64, .own 2], .arr .macRow false true]⟩)]
def w_FnAssigned_L0_mk (v0 : Int) (v1 : Int) (v2 : Int) (v3 : Int) (v4 : List Bytes) (v5 : Bool) (v6 : Int) (v7 : Int) (v8 : List MacRow) : w_FnAssigned_L0_sh.T := ((((), ()), ((v0, ()), ((v1, ()), (((), ()), ((v2, ()), ((v3, ()), ())))))), (v4, ((v5, (v6, (v7, ((), ())))), (v8, ()))))
def w_FnAssigned_L0_mx0 (y0 : Int) (y1 : Int) (y2 : Int) (y3 : List Bytes) (y4 : Bool) (y5 : Int) (y6 : Int) (y7 : List MacRow) : Sh.T ⟨[(2, false, [.undef]), (3, false, [.own 0]), (4, false, [.int .i64]), (5, false, [.int .i64]), (6, false, [.ptr 1 0]), (7, false, [.int .i64])], [.arr .str false true, .box [.bool, .int .u64, .int .u64, .own 2], .arr .macRow false true]⟩ := ((((), ()), (((), ()), ((y0, ()), ((y1, ()), (((), ()), ((y2, ()), ())))))), (y3, ((y4, (y5, (y6, ((), ())))), (y7, ()))))
def w_FnAssigned_L0_B (v0 : Int) (v1 : Int) (v2 : Int) (v3 : Int) (v4 : List Bytes) (v5 : Bool) (v6 : Int) (v7 : Int) (v8 : List MacRow) (γ : Type) (fail : γ) (next : w_FnAssigned_L0_sh.T → γ) (out : WT w_FnAssigned_L0_es → γ) : γ :=
  bif (decide (0 ≤ v3)) then
    bif ((decide (0 ≤ v3)) && (decide (v3 < (v4.length : Int)))) then
    bif (decide ((⟨v5, v6, v7, v8⟩ : Mac).rows.length ≤ 4294967296 ∧ (v4.getD v3.toNat []).length ≤ 4294967296)) then
    letK (α := Int) (i_MacOf (⟨v5, v6, v7, v8⟩ : Mac) (v4.getD v3.toNat [])) fun c6 =>
    next (w_FnAssigned_L0_mk v0 v1 (IntKind.wrap .i64 ((IntKind.wrap .i64 (v2 * v0)) + c6)) (IntKind.wrap .i64 (v3 - 1)) v4 v5 v6 v7 v8)
    else fail
    else fail
  else
  out (w_FnAssigned_L0_mx0 v0 v1 v2 v4 v5 v6 v7 v8)
theorem w_FnAssigned_L0_par (v0 : Int) (v1 : Int) (v2 : Int) (v3 : Int) (v4 : List Bytes) (v5 : Bool) (v6 : Int) (v7 : Int) (v8 : List MacRow) (γ : Type) (fail : γ) (next : w_FnAssigned_L0_sh.T → γ) (out : WT w_FnAssigned_L0_es → γ) : w_FnAssigned_L0_B v0 v1 v2 v3 v4 v5 v6 v7 v8 γ fail next out = optK (w_FnAssigned_L0_B v0 v1 v2 v3 v4 v5 v6 v7 v8 _ none (fun v' => some (.inl v')) (fun w => some (.inr w))) fail (fun r => Sum.elim next out r) := by
  unfold w_FnAssigned_L0_B
  exact bifT (f := (fun o => optK o fail (fun r => Sum.elim next out r))) (fun _ => bifT (f := (fun o => optK o fail (fun r => Sum.elim next out r))) (fun _ => bifT (f := (fun o => optK o fail (fun r => Sum.elim next out r))) (fun _ => letT (f := (fun o => optK o fail (fun r => Sum.elim next out r))) (fun c6 _ => rfl)) (fun _ => rfl)) (fun _ => rfl))
      (fun _ => rfl)
def w_FnAssigned_L0_r : Round w_FnAssigned_L0_sh.T (WT w_FnAssigned_L0_es) where
  B v γ fail next out := w_FnAssigned_L0_B v.1.2.1.1 v.1.2.2.1.1 v.1.2.2.2.2.1.1 v.1.2.2.2.2.2.1.1 v.2.1 v.2.2.1.1 v.2.2.1.2.1 v.2.2.1.2.2.1 v.2.2.2.1 γ fail next out
  par v γ fail next out := w_FnAssigned_L0_par v.1.2.1.1 v.1.2.2.1.1 v.1.2.2.2.2.1.1 v.1.2.2.2.2.2.1.1 v.2.1 v.2.2.1.1 v.2.2.1.2.1 v.2.2.1.2.2.1 v.2.2.2.1 γ fail next out
def w_FnAssigned_L0_fu (v0 : Int) (v1 : Int) (v2 : Int) (v3 : Int) (v4 : List Bytes) (v5 : Bool) (v6 : Int) (v7 : Int) (v8 : List MacRow) : Nat := (Int.toNat (v3 - 0 + 1)) + 1
theorem w_FnAssigned_L0_lk (v : w_FnAssigned_L0_sh.T) (next : St → Option Res) (k : Ex → St → Option Res) : evalK te (orcOf (P := Try.prog) [w_big_e, s_DrawAssigned_e, i_Assigned_e, s_Assigned_e, s_SameMac_e, i_MacOf_e, i_MacOk_e]) (lorcOf []) Try.f4.ntmps w_FnAssigned_ann (nthLoop (bodyOf Try.f4) 0 0) 0 (w_FnAssigned_L0_sh.enc v) (endK ⟨[3, 4, 5, 6, 7, 8], [], false, 0⟩ ⟨[2, 3, 4, 5, 6, 7], [], false, 0⟩ next k) =
  w_FnAssigned_L0_r.B v _ none (fun v' => next (w_FnAssigned_L0_sh.enc v')) (fun w => outK w_FnAssigned_L0_es k w) := by kernel_rfl
def w_FnAssigned_L0_le : LE := leOf 0 w_FnAssigned_L0_sh w_FnAssigned_L0_es w_FnAssigned_L0_r.step (fun v => w_FnAssigned_L0_fu v.1.2.1.1 v.1.2.2.1.1 v.1.2.2.2.2.1.1 v.1.2.2.2.2.2.1.1 v.2.1 v.2.2.1.1 v.2.2.1.2.1 v.2.2.1.2.2.1 v.2.2.2.1)
theorem w_FnAssigned_L0_ls (w0 : World) (mo : Mts) (I0 : Nat → Prop) (hmo : mo.length = 0) : LSem Try.prog (Sim w0 mo Try.f4.ntmps I0) (fun b s k => match Nat.beq 0 b with | true => w_FnAssigned_L0_le.run s k | false => none) 0 (nthLoop (bodyOf Try.f4) 0 0) :=
  le_sem hmo (lorc := lorcOf []) (ann := w_FnAssigned_ann) (keep := ⟨[3, 4, 5, 6, 7, 8], [], false, 0⟩) (kout := ⟨[2, 3, 4, 5, 6, 7], [], false, 0⟩) teFact mixFact (orcOf_ok _) (by kernel_rfl) (allLoops_of (bs := []) (by kernel_rfl) trivial) w_FnAssigned_L0_r _ w_FnAssigned_L0_lk
def w_FnAssigned_L0_f (v0 : Int) (v1 : Int) (v4 : List Bytes) (v5 : Bool) (v6 : Int) (v7 : Int) (v8 : List MacRow) (v3 : Int) (a : Int) : Stp (Int) (Empty) :=
  letK (α := Int) (i_MacOf (⟨v5, v6, v7, v8⟩ : Mac) (v4.getD v3.toNat [])) fun c6 =>
  .next (IntKind.wrap .i64 ((IntKind.wrap .i64 (a * v0)) + c6))
theorem w_FnAssigned_L0_st (v0 : Int) (v1 : Int) (v2 : Int) (v3 : Int) (v4 : List Bytes) (v5 : Bool) (v6 : Int) (v7 : Int) (v8 : List MacRow) (hlo : 0 ≤ v3) (hhi : v3 ≤ 9223372036854775807) (hN : 0 ≤ 0) (hi0 : ∀ y ∈ v4, List.length y ≤ 4294967296) (hi1 : (⟨v5, v6, v7, v8⟩ : Mac).rows.length ≤ 4294967296) (hinv : v3 < (v4.length : Int)) : w_FnAssigned_L0_r.step (w_FnAssigned_L0_mk v0 v1 v2 v3 v4 v5 v6 v7 v8) = Stp.elim (fun a' : Int => some (Sum.inl (w_FnAssigned_L0_mk v0 v1 a' (v3 + (-1)) v4 v5 v6 v7 v8))) (fun w => some (Sum.inr ((fun p : Empty => nomatch p) w))) (w_FnAssigned_L0_f v0 v1 v4 v5 v6 v7 v8 v3 v2) := by
  have hw : (IntKind.wrap .i64 (v3 - 1)) = v3 + (-1) := wrap64 (by omega) (by omega)
  show w_FnAssigned_L0_B v0 v1 v2 v3 v4 v5 v6 v7 v8 (Option (w_FnAssigned_L0_sh.T ⊕ WT w_FnAssigned_L0_es)) none (fun v' => some (Sum.inl v')) (fun w => some (Sum.inr w)) = _
  unfold w_FnAssigned_L0_B w_FnAssigned_L0_f
  exact bifG (by simp only [decide_eq_true_eq]; omega) (bifG (by (try simp only [Nat.ble_eq, Bool.and_eq_true, decide_eq_true_eq]); grind [maxSl, maxStr, toBytes_length, toInts_length, List.length_set, wrap64, getD_len, s_DrawAssigned_len, i_Assigned_len, s_Assigned_len]) (bifG (by (try simp only [Nat.ble_eq, Bool.and_eq_true, decide_eq_true_eq]); grind [maxSl, maxStr, toBytes_length, toInts_length, List.length_set, wrap64, getD_len, s_DrawAssigned_len, i_Assigned_len, s_Assigned_len]) (letT (f := (Stp.elim (fun a' : Int => some (Sum.inl (w_FnAssigned_L0_mk v0 v1 a' (v3 + (-1)) v4 v5 v6 v7 v8))) (fun w => some (Sum.inr ((fun p : Empty => nomatch p) w))))) (fun c6 hc6 => (by exact congrArg (fun z => some (Sum.inl (w_FnAssigned_L0_mk v0 v1 (IntKind.wrap .i64 ((IntKind.wrap .i64 (v2 * v0)) + c6)) z v4 v5 v6 v7 v8))) hw)))))
theorem w_FnAssigned_L0_cl (v0 : Int) (v1 : Int) (v2 : Int) (v3 : Int) (v4 : List Bytes) (v5 : Bool) (v6 : Int) (v7 : Int) (v8 : List MacRow) (h0 : v3 ≤ 9223372036854775807) (h1 : 0 ≤ 0) (h2 : ∀ y ∈ v4, List.length y ≤ 4294967296) (h3 : (⟨v5, v6, v7, v8⟩ : Mac).rows.length ≤ 4294967296) (h4 : v3 < (v4.length : Int)) : loopF w_FnAssigned_L0_r.step (w_FnAssigned_L0_fu v0 v1 v2 v3 v4 v5 v6 v7 v8) (w_FnAssigned_L0_mk v0 v1 v2 v3 v4 v5 v6 v7 v8) = some (Stp.elim (fun a => (fun i a => w_FnAssigned_L0_mx0 v0 v1 a v4 v5 v6 v7 v8) (v3 + (-1) * (((Int.toNat (v3 - 0 + 1)) : Nat) : Int)) a) (fun p : Empty => nomatch p) (forN (w_FnAssigned_L0_f v0 v1 v4 v5 v6 v7 v8) (-1) (Int.toNat (v3 - 0 + 1)) v3 v2)) :=
  forN_loop (step := w_FnAssigned_L0_r.step) (mk := fun v3 a => w_FnAssigned_L0_mk v0 v1 a v3 v4 v5 v6 v7 v8) (f := w_FnAssigned_L0_f v0 v1 v4 v5 v6 v7 v8) (e := (fun i a => w_FnAssigned_L0_mx0 v0 v1 a v4 v5 v6 v7 v8)) (emb := (fun p : Empty => nomatch p)) (st := (-1)) (Inv := fun v3 a => v3 < (v4.length : Int)) (Int.toNat (v3 - 0 + 1)) v3 v2 _ (Nat.lt_succ_self _) h4
    (fun j a hj hv => ⟨w_FnAssigned_L0_st v0 v1 a (v3 + (-1) * (j : Int)) v4 v5 v6 v7 v8 (by omega) (by omega) (by omega) h2 h3 hv, by
      intro a' he
      grind [w_FnAssigned_L0_f, letK, Stp.elim, wrap64, List.length_set, s_DrawAssigned_len, i_Assigned_len, s_Assigned_len]⟩)
    (fun a hv => by
      show w_FnAssigned_L0_B v0 v1 a (v3 + (-1) * (((Int.toNat (v3 - 0 + 1)) : Nat) : Int)) v4 v5 v6 v7 v8 (Option (w_FnAssigned_L0_sh.T ⊕ WT w_FnAssigned_L0_es)) none (fun v' => some (Sum.inl v')) (fun w => some (Sum.inr w)) = _
      unfold w_FnAssigned_L0_B
      exact bifN (by simp only [decide_eq_false_iff_not]; omega) rfl)
theorem w_FnAssigned_L0_nx (v0 : Int) (v1 : Int) (v2 : Int) (v3 : Int) (v4 : List Bytes) (v5 : Bool) (v6 : Int) (v7 : Int) (v8 : List MacRow) (h0 : v3 ≤ 9223372036854775807) (h1 : 0 ≤ 0) (h2 : ∀ y ∈ v4, List.length y ≤ 4294967296) (h3 : (⟨v5, v6, v7, v8⟩ : Mac).rows.length ≤ 4294967296) (h4 : v3 < (v4.length : Int)) : ∀ a', forN (w_FnAssigned_L0_f v0 v1 v4 v5 v6 v7 v8) (-1) (Int.toNat (v3 - 0 + 1)) v3 v2 = .next a' → (v3 + (-1) * (((Int.toNat (v3 - 0 + 1)) : Nat) : Int)) < (v4.length : Int) :=
  forN_inv (f := w_FnAssigned_L0_f v0 v1 v4 v5 v6 v7 v8) (st := (-1)) (Inv := fun v3 a => v3 < (v4.length : Int)) (Int.toNat (v3 - 0 + 1)) v3 v2 h4
    (fun j a hj hv => by
      intro a' he
      grind [w_FnAssigned_L0_f, letK, Stp.elim, wrap64, List.length_set, s_DrawAssigned_len, i_Assigned_len, s_Assigned_len])
def w_FnAssigned_L1_sh : Sh := ⟨[(3, false, [.own 0]), (4, false, [.int .i64]), (5, false, [.int .i64]), (6, false, [.ptr 1 0]), (7, false, [.int .i64]), (9, false, [.int .i64]), (10, false, [.int .i64])], [.arr .str false true, .box [.bool, .int .u64, .int .u64, .own 2], .arr .macRow false true]⟩
def w_FnAssigned_L1_es : List (Ex × Sh) := [(.exit 2, ⟨[(2, false, [.undef]), (5, false, [.int .i64]), (6, false, [.ptr 0 0]), (7, false, [.int .i64]), (9, false, [.int .i64])], [.box [.bool, .int .u64, .int .u64, .own 1], .arr .macRow false true]⟩)]
def w_FnAssigned_L1_mk (v0 : Int) (v1 : Int) (v2 : Int) (v3 : Int) (v4 : Int) (v5 : List Bytes) (v6 : Bool) (v7 : Int) (v8 : Int) (v9 : List MacRow) : w_FnAssigned_L1_sh.T := ((((), ()), ((v0, ()), ((v1, ()), (((), ()), ((v2, ()), ((v3, ()), ((v4, ()), ()))))))), (v5, ((v6, (v7, (v8, ((), ())))), (v9, ()))))
def w_FnAssigned_L1_mx0 (y0 : Int) (y1 : Int) (y2 : Int) (y3 : Bool) (y4 : Int) (y5 : Int) (y6 : List MacRow) : Sh.T ⟨[(2, false, [.undef]), (5, false, [.int .i64]), (6, false, [.ptr 0 0]), (7, false, [.int .i64]), (9, false, [.int .i64])], [.box [.bool, .int .u64, .int .u64, .own 1], .arr .macRow false true]⟩ := ((((), ()), ((y0, ()), (((), ()), ((y1, ()), ((y2, ()), ()))))), ((y3, (y4, (y5, ((), ())))), (y6, ())))
def w_FnAssigned_L1_B (v0 : Int) (v1 : Int) (v2 : Int) (v3 : Int) (v4 : Int) (v5 : List Bytes) (v6 : Bool) (v7 : Int) (v8 : Int) (v9 : List MacRow) (γ : Type) (fail : γ) (next : w_FnAssigned_L1_sh.T → γ) (out : WT w_FnAssigned_L1_es → γ) : γ :=
  bif (decide (v4 < (v5.length : Int))) then
    next (w_FnAssigned_L1_mk v0 v1 v2 (IntKind.wrap .i64 (v3 * v0)) (IntKind.wrap .i64 (v4 + 1)) v5 v6 v7 v8 v9)
  else
  out (w_FnAssigned_L1_mx0 v1 v2 v3 v6 v7 v8 v9)
theorem w_FnAssigned_L1_par (v0 : Int) (v1 : Int) (v2 : Int) (v3 : Int) (v4 : Int) (v5 : List Bytes) (v6 : Bool) (v7 : Int) (v8 : Int) (v9 : List MacRow) (γ : Type) (fail : γ) (next : w_FnAssigned_L1_sh.T → γ) (out : WT w_FnAssigned_L1_es → γ) : w_FnAssigned_L1_B v0 v1 v2 v3 v4 v5 v6 v7 v8 v9 γ fail next out = optK (w_FnAssigned_L1_B v0 v1 v2 v3 v4 v5 v6 v7 v8 v9 _ none (fun v' => some (.inl v')) (fun w => some (.inr w))) fail (fun r => Sum.elim next out r) := by
  unfold w_FnAssigned_L1_B
  exact bifT (f := (fun o => optK o fail (fun r => Sum.elim next out r))) (fun _ => rfl)
      (fun _ => rfl)
def w_FnAssigned_L1_r : Round w_FnAssigned_L1_sh.T (WT w_FnAssigned_L1_es) where
  B v γ fail next out := w_FnAssigned_L1_B v.1.2.1.1 v.1.2.2.1.1 v.1.2.2.2.2.1.1 v.1.2.2.2.2.2.1.1 v.1.2.2.2.2.2.2.1.1 v.2.1 v.2.2.1.1 v.2.2.1.2.1 v.2.2.1.2.2.1 v.2.2.2.1 γ fail next out
  par v γ fail next out := w_FnAssigned_L1_par v.1.2.1.1 v.1.2.2.1.1 v.1.2.2.2.2.1.1 v.1.2.2.2.2.2.1.1 v.1.2.2.2.2.2.2.1.1 v.2.1 v.2.2.1.1 v.2.2.1.2.1 v.2.2.1.2.2.1 v.2.2.2.1 γ fail next out
def w_FnAssigned_L1_fu (v0 : Int) (v1 : Int) (v2 : Int) (v3 : Int) (v4 : Int) (v5 : List Bytes) (v6 : Bool) (v7 : Int) (v8 : Int) (v9 : List MacRow) : Nat := (Int.toNat ((v5.length : Int) - v4)) + 1
theorem w_FnAssigned_L1_lk (v : w_FnAssigned_L1_sh.T) (next : St → Option Res) (k : Ex → St → Option Res) : evalK te (orcOf (P := Try.prog) [w_big_e, s_DrawAssigned_e, i_Assigned_e, s_Assigned_e, s_SameMac_e, i_MacOf_e, i_MacOk_e]) (lorcOf []) Try.f4.ntmps w_FnAssigned_ann (nthLoop (bodyOf Try.f4) 0 1) 2 (w_FnAssigned_L1_sh.enc v) (endK ⟨[3, 4, 5, 6, 7, 9, 10], [], false, 0⟩ ⟨[2, 5, 6, 7, 9], [], false, 0⟩ next k) =
  w_FnAssigned_L1_r.B v _ none (fun v' => next (w_FnAssigned_L1_sh.enc v')) (fun w => outK w_FnAssigned_L1_es k w) := by kernel_rfl
def w_FnAssigned_L1_le : LE := leOf 2 w_FnAssigned_L1_sh w_FnAssigned_L1_es w_FnAssigned_L1_r.step (fun v => w_FnAssigned_L1_fu v.1.2.1.1 v.1.2.2.1.1 v.1.2.2.2.2.1.1 v.1.2.2.2.2.2.1.1 v.1.2.2.2.2.2.2.1.1 v.2.1 v.2.2.1.1 v.2.2.1.2.1 v.2.2.1.2.2.1 v.2.2.2.1)
theorem w_FnAssigned_L1_ls (w0 : World) (mo : Mts) (I0 : Nat → Prop) (hmo : mo.length = 0) : LSem Try.prog (Sim w0 mo Try.f4.ntmps I0) (fun b s k => match Nat.beq 2 b with | true => w_FnAssigned_L1_le.run s k | false => none) 2 (nthLoop (bodyOf Try.f4) 0 1) :=
  le_sem hmo (lorc := lorcOf []) (ann := w_FnAssigned_ann) (keep := ⟨[3, 4, 5, 6, 7, 9, 10], [], false, 0⟩) (kout := ⟨[2, 5, 6, 7, 9], [], false, 0⟩) teFact mixFact (orcOf_ok _) (by kernel_rfl) (allLoops_of (bs := []) (by kernel_rfl) trivial) w_FnAssigned_L1_r _ w_FnAssigned_L1_lk
def w_FnAssigned_L1_f (v0 : Int) (v1 : Int) (v2 : Int) (v5 : List Bytes) (v6 : Bool) (v7 : Int) (v8 : Int) (v9 : List MacRow) (v4 : Int) (a : Int) : Stp (Int) (Empty) :=
  .next (IntKind.wrap .i64 (a * v0))
theorem w_FnAssigned_L1_st (v0 : Int) (v1 : Int) (v2 : Int) (v3 : Int) (v4 : Int) (v5 : List Bytes) (v6 : Bool) (v7 : Int) (v8 : Int) (v9 : List MacRow) (hlo : 0 ≤ v4) (hhi : v4 < (v5.length : Int)) (hN : (v5.length : Int) ≤ 4611686018427387904) (hi0 : 1 ≤ v0) (hi1 : v0 ≤ 4) (hi2 : (v5.length : Int) ≤ 4) (hinv : (v4 = 0 ∧ v3 = 1) ∨ (v4 = 1 ∧ 1 ≤ v3 ∧ v3 ≤ 4) ∨ (v4 = 2 ∧ 1 ≤ v3 ∧ v3 ≤ 16) ∨ (v4 = 3 ∧ 1 ≤ v3 ∧ v3 ≤ 64) ∨ (v4 = 4 ∧ 1 ≤ v3 ∧ v3 ≤ 256)) : w_FnAssigned_L1_r.step (w_FnAssigned_L1_mk v0 v1 v2 v3 v4 v5 v6 v7 v8 v9) = Stp.elim (fun a' : Int => some (Sum.inl (w_FnAssigned_L1_mk v0 v1 v2 a' (v4 + 1) v5 v6 v7 v8 v9))) (fun w => some (Sum.inr ((fun p : Empty => nomatch p) w))) (w_FnAssigned_L1_f v0 v1 v2 v5 v6 v7 v8 v9 v4 v3) := by
  have hw : (IntKind.wrap .i64 (v4 + 1)) = v4 + 1 := wrap64 (by omega) (by omega)
  show w_FnAssigned_L1_B v0 v1 v2 v3 v4 v5 v6 v7 v8 v9 (Option (w_FnAssigned_L1_sh.T ⊕ WT w_FnAssigned_L1_es)) none (fun v' => some (Sum.inl v')) (fun w => some (Sum.inr w)) = _
  unfold w_FnAssigned_L1_B w_FnAssigned_L1_f
  exact bifG (by simp only [decide_eq_true_eq]; omega) ((by exact congrArg (fun z => some (Sum.inl (w_FnAssigned_L1_mk v0 v1 v2 (IntKind.wrap .i64 (v3 * v0)) z v5 v6 v7 v8 v9))) hw))
theorem w_FnAssigned_L1_cl (v0 : Int) (v1 : Int) (v2 : Int) (v3 : Int) (v4 : Int) (v5 : List Bytes) (v6 : Bool) (v7 : Int) (v8 : Int) (v9 : List MacRow) (h0 : 0 ≤ v4) (h1 : (v5.length : Int) ≤ 4611686018427387904) (h2 : 1 ≤ v0) (h3 : v0 ≤ 4) (h4 : (v5.length : Int) ≤ 4) (h5 : (v4 = 0 ∧ v3 = 1) ∨ (v4 = 1 ∧ 1 ≤ v3 ∧ v3 ≤ 4) ∨ (v4 = 2 ∧ 1 ≤ v3 ∧ v3 ≤ 16) ∨ (v4 = 3 ∧ 1 ≤ v3 ∧ v3 ≤ 64) ∨ (v4 = 4 ∧ 1 ≤ v3 ∧ v3 ≤ 256)) : loopF w_FnAssigned_L1_r.step (w_FnAssigned_L1_fu v0 v1 v2 v3 v4 v5 v6 v7 v8 v9) (w_FnAssigned_L1_mk v0 v1 v2 v3 v4 v5 v6 v7 v8 v9) = some (Stp.elim (fun a => (fun i a => w_FnAssigned_L1_mx0 v1 v2 a v6 v7 v8 v9) (v4 + 1 * (((Int.toNat ((v5.length : Int) - v4)) : Nat) : Int)) a) (fun p : Empty => nomatch p) (forN (w_FnAssigned_L1_f v0 v1 v2 v5 v6 v7 v8 v9) 1 (Int.toNat ((v5.length : Int) - v4)) v4 v3)) :=
  forN_loop (step := w_FnAssigned_L1_r.step) (mk := fun v4 a => w_FnAssigned_L1_mk v0 v1 v2 a v4 v5 v6 v7 v8 v9) (f := w_FnAssigned_L1_f v0 v1 v2 v5 v6 v7 v8 v9) (e := (fun i a => w_FnAssigned_L1_mx0 v1 v2 a v6 v7 v8 v9)) (emb := (fun p : Empty => nomatch p)) (st := 1) (Inv := fun v4 a => (v4 = 0 ∧ a = 1) ∨ (v4 = 1 ∧ 1 ≤ a ∧ a ≤ 4) ∨ (v4 = 2 ∧ 1 ≤ a ∧ a ≤ 16) ∨ (v4 = 3 ∧ 1 ≤ a ∧ a ≤ 64) ∨ (v4 = 4 ∧ 1 ≤ a ∧ a ≤ 256)) (Int.toNat ((v5.length : Int) - v4)) v4 v3 _ (Nat.lt_succ_self _) h5
    (fun j a hj hv => ⟨w_FnAssigned_L1_st v0 v1 v2 a (v4 + 1 * (j : Int)) v5 v6 v7 v8 v9 (by omega) (by omega) (by omega) h2 h3 h4 hv, by
      intro a' he
      unfold w_FnAssigned_L1_f at he
      cases he
      have hb : v0 = 1 ∨ v0 = 2 ∨ v0 = 3 ∨ v0 = 4 := by omega
      rcases hb with rfl | rfl | rfl | rfl <;> rw [wrap64 (by omega) (by omega)] <;> omega⟩)
    (fun a hv => by
      show w_FnAssigned_L1_B v0 v1 v2 a (v4 + 1 * (((Int.toNat ((v5.length : Int) - v4)) : Nat) : Int)) v5 v6 v7 v8 v9 (Option (w_FnAssigned_L1_sh.T ⊕ WT w_FnAssigned_L1_es)) none (fun v' => some (Sum.inl v')) (fun w => some (Sum.inr w)) = _
      unfold w_FnAssigned_L1_B
      exact bifN (by simp only [decide_eq_false_iff_not]; omega) rfl)
theorem w_FnAssigned_L1_nx (v0 : Int) (v1 : Int) (v2 : Int) (v3 : Int) (v4 : Int) (v5 : List Bytes) (v6 : Bool) (v7 : Int) (v8 : Int) (v9 : List MacRow) (h0 : 0 ≤ v4) (h1 : (v5.length : Int) ≤ 4611686018427387904) (h2 : 1 ≤ v0) (h3 : v0 ≤ 4) (h4 : (v5.length : Int) ≤ 4) (h5 : (v4 = 0 ∧ v3 = 1) ∨ (v4 = 1 ∧ 1 ≤ v3 ∧ v3 ≤ 4) ∨ (v4 = 2 ∧ 1 ≤ v3 ∧ v3 ≤ 16) ∨ (v4 = 3 ∧ 1 ≤ v3 ∧ v3 ≤ 64) ∨ (v4 = 4 ∧ 1 ≤ v3 ∧ v3 ≤ 256)) : ∀ a', forN (w_FnAssigned_L1_f v0 v1 v2 v5 v6 v7 v8 v9) 1 (Int.toNat ((v5.length : Int) - v4)) v4 v3 = .next a' → ((v4 + 1 * (((Int.toNat ((v5.length : Int) - v4)) : Nat) : Int)) = 0 ∧ a' = 1) ∨ ((v4 + 1 * (((Int.toNat ((v5.length : Int) - v4)) : Nat) : Int)) = 1 ∧ 1 ≤ a' ∧ a' ≤ 4) ∨ ((v4 + 1 * (((Int.toNat ((v5.length : Int) - v4)) : Nat) : Int)) = 2 ∧ 1 ≤ a' ∧ a' ≤ 16) ∨ ((v4 + 1 * (((Int.toNat ((v5.length : Int) - v4)) : Nat) : Int)) = 3 ∧ 1 ≤ a' ∧ a' ≤ 64) ∨ ((v4 + 1 * (((Int.toNat ((v5.length : Int) - v4)) : Nat) : Int)) = 4 ∧ 1 ≤ a' ∧ a' ≤ 256) :=
  forN_inv (f := w_FnAssigned_L1_f v0 v1 v2 v5 v6 v7 v8 v9) (st := 1) (Inv := fun v4 a => (v4 = 0 ∧ a = 1) ∨ (v4 = 1 ∧ 1 ≤ a ∧ a ≤ 4) ∨ (v4 = 2 ∧ 1 ≤ a ∧ a ≤ 16) ∨ (v4 = 3 ∧ 1 ≤ a ∧ a ≤ 64) ∨ (v4 = 4 ∧ 1 ≤ a ∧ a ≤ 256)) (Int.toNat ((v5.length : Int) - v4)) v4 v3 h5
    (fun j a hj hv => by
      intro a' he
      unfold w_FnAssigned_L1_f at he
      cases he
      have hb : v0 = 1 ∨ v0 = 2 ∨ v0 = 3 ∨ v0 = 4 := by omega
      rcases hb with rfl | rfl | rfl | rfl <;> rw [wrap64 (by omega) (by omega)] <;> omega)
def w_FnAssigned_N (x0 : List Int) (γ : Type) (fail : γ) (k : Bool → γ) : γ :=
  letK (α := Bool) (w_big x0) fun c1 =>
  bif c1 then
    k true
  else
  bif (decide (x0.length ≤ 1048576)) then
  letK (α := List Bytes × Int × Int) (s_DrawAssigned x0) fun c2 =>
  bif (decide (c2.1.length ≤ 4294967296)) then
  letK (α := Mac) (i_Assigned c2.1 c2.2.1 c2.2.2) fun c3 =>
  bif (decide (c2.1.length ≤ 4294967296)) then
  letK (α := Mac) (s_Assigned c2.1 c2.2.1 c2.2.2) fun c4 =>
  letK (α := Bool) (s_SameMac c3 c4) fun c5 =>
  bif (!c5) then
    k false
  else
  bif (decide (c2.2.1 < 1)) then
    k (!c3.use)
  else
  bif (decide (4 < c2.2.1)) then
    k (!c3.use)
  else
  bif (decide (c2.2.2 < 0)) then
    k (!c3.use)
  else
  bif (decide (4 < (c2.1.length : Int))) then
    k (!c3.use)
  else
  optK (loopF w_FnAssigned_L0_r.step (w_FnAssigned_L0_fu c2.2.1 c2.2.2 0 (IntKind.wrap .i64 ((c2.1.length : Int) - 1)) c2.1 c3.use c3.k c3.l c3.rows) (w_FnAssigned_L0_mk c2.2.1 c2.2.2 0 (IntKind.wrap .i64 ((c2.1.length : Int) - 1)) c2.1 c3.use c3.k c3.l c3.rows)) fail fun w7 =>
    optK (loopF w_FnAssigned_L1_r.step (w_FnAssigned_L1_fu w7.1.2.2.1.1 w7.1.2.2.2.1.1 w7.1.2.2.2.2.2.1.1 1 0 w7.2.1 w7.2.2.1.1 w7.2.2.1.2.1 w7.2.2.1.2.2.1 w7.2.2.2.1) (w_FnAssigned_L1_mk w7.1.2.2.1.1 w7.1.2.2.2.1.1 w7.1.2.2.2.2.2.1.1 1 0 w7.2.1 w7.2.2.1.1 w7.2.2.1.2.1 w7.2.2.1.2.2.1 w7.2.2.2.1)) fail fun w8 =>
      letK (α := Bool) (i_MacOk (⟨w8.2.1.1, w8.2.1.2.1, w8.2.1.2.2.1, w8.2.2.1⟩ : Mac)) fun c9 =>
      bif c9 then
        bif (w8.1.2.2.2.2.1.1 != 0) then
        k (w8.1.2.2.2.1.1 == (w8.1.2.1.1.tmod w8.1.2.2.2.2.1.1))
        else fail
      else
      k false
  else fail
  else fail
  else fail
def w_FnAssigned (x0 : List Int) : Bool :=
  letK (α := Bool) (w_big x0) fun c1 =>
  bif c1 then
    true
  else
  letK (α := List Bytes × Int × Int) (s_DrawAssigned x0) fun c2 =>
  letK (α := Mac) (i_Assigned c2.1 c2.2.1 c2.2.2) fun c3 =>
  letK (α := Mac) (s_Assigned c2.1 c2.2.1 c2.2.2) fun c4 =>
  letK (α := Bool) (s_SameMac c3 c4) fun c5 =>
  bif (!c5) then
    false
  else
  bif (decide (c2.2.1 < 1)) then
    (!c3.use)
  else
  bif (decide (4 < c2.2.1)) then
    (!c3.use)
  else
  bif (decide (c2.2.2 < 0)) then
    (!c3.use)
  else
  bif (decide (4 < (c2.1.length : Int))) then
    (!c3.use)
  else
  Stp.elim (fun a12 =>
    Stp.elim (fun a15 =>
      letK (α := Bool) (i_MacOk c3) fun c16 =>
      bif c16 then
        (a12 == (c2.2.2.tmod a15))
      else
      false)
      (fun p : Empty => nomatch p)
      (forN (w_FnAssigned_L1_f c2.2.1 c2.2.2 a12 c2.1 c3.use c3.k c3.l c3.rows) 1 (Int.toNat ((c2.1.length : Int) - 0)) 0 1))
    (fun p : Empty => nomatch p)
    (forN (w_FnAssigned_L0_f c2.2.1 c2.2.2 c2.1 c3.use c3.k c3.l c3.rows) (-1) (Int.toNat ((IntKind.wrap .i64 ((c2.1.length : Int) - 1)) - 0 + 1)) (IntKind.wrap .i64 ((c2.1.length : Int) - 1)) 0)
theorem w_FnAssigned_lk (x0 : List Int) : evalFn te (orcOf (P := Try.prog) [w_big_e, s_DrawAssigned_e, i_Assigned_e, s_Assigned_e, s_SameMac_e, i_MacOf_e, i_MacOk_e]) (lorcOf [w_FnAssigned_L0_le, w_FnAssigned_L1_le]) w_FnAssigned_ann Try.f4 (pvs [.sc (.sl .u8)] (x0, ())) =
  w_FnAssigned_N x0 _ none (fun v => some [(false, [RC.c (.bool v)])]) := by kernel_rfl
theorem w_FnAssigned_p (x0 : List Int) (hx0 : x0.length ≤ 140737488355328)  (γ : Type) (fail : γ) (k : Bool → γ) : w_FnAssigned_N x0 γ fail k = k (w_FnAssigned x0) := by
  unfold w_FnAssigned_N w_FnAssigned
  exact letT (f := k) (fun c1 hc1 => bifT (f := k) (fun b0 => rfl)
      (fun b0 => bifG (by (try simp only [Nat.ble_eq, Bool.and_eq_true, decide_eq_true_eq, w_FnAssigned_L0_mx0, w_FnAssigned_L1_mx0]); grind [maxSl, maxStr, toBytes_length, toInts_length, List.length_set, wrap64, w_big, s_DrawAssigned_len, i_Assigned_len, s_Assigned_len]) (letT (f := k) (fun c2 hc2 => bifG (by (try simp only [Nat.ble_eq, Bool.and_eq_true, decide_eq_true_eq, w_FnAssigned_L0_mx0, w_FnAssigned_L1_mx0]); grind [maxSl, maxStr, toBytes_length, toInts_length, List.length_set, wrap64, w_big, s_DrawAssigned_len, i_Assigned_len, s_Assigned_len]) (letT (f := k) (fun c3 hc3 => bifG (by (try simp only [Nat.ble_eq, Bool.and_eq_true, decide_eq_true_eq, w_FnAssigned_L0_mx0, w_FnAssigned_L1_mx0]); grind [maxSl, maxStr, toBytes_length, toInts_length, List.length_set, wrap64, w_big, s_DrawAssigned_len, i_Assigned_len, s_Assigned_len]) (letT (f := k) (fun c4 hc4 => letT (f := k) (fun c5 hc5 => bifT (f := k) (fun b1 => rfl)
      (fun b1 => bifT (f := k) (fun b2 => rfl)
      (fun b2 => bifT (f := k) (fun b3 => rfl)
      (fun b3 => bifT (f := k) (fun b4 => rfl)
      (fun b4 => bifT (f := k) (fun b5 => rfl)
      (fun b5 => loopX (f := k) (w_FnAssigned_L0_cl c2.2.1 c2.2.2 0 (IntKind.wrap .i64 ((c2.1.length : Int) - 1)) c2.1 c3.use c3.k c3.l c3.rows (by (try simp only [Nat.ble_eq, Bool.and_eq_true, decide_eq_true_eq, w_FnAssigned_L0_mx0, w_FnAssigned_L1_mx0]); grind [maxSl, maxStr, toBytes_length, toInts_length, List.length_set, wrap64, w_big, s_DrawAssigned_len, i_Assigned_len, s_Assigned_len]) (by (try simp only [Nat.ble_eq, Bool.and_eq_true, decide_eq_true_eq, w_FnAssigned_L0_mx0, w_FnAssigned_L1_mx0]); grind [maxSl, maxStr, toBytes_length, toInts_length, List.length_set, wrap64, w_big, s_DrawAssigned_len, i_Assigned_len, s_Assigned_len]) (by (try simp only [Nat.ble_eq, Bool.and_eq_true, decide_eq_true_eq, w_FnAssigned_L0_mx0, w_FnAssigned_L1_mx0]); grind [maxSl, maxStr, toBytes_length, toInts_length, List.length_set, wrap64, w_big, s_DrawAssigned_len, i_Assigned_len, s_Assigned_len]) (by (try simp only [Nat.ble_eq, Bool.and_eq_true, decide_eq_true_eq, w_FnAssigned_L0_mx0, w_FnAssigned_L1_mx0]); grind [maxSl, maxStr, toBytes_length, toInts_length, List.length_set, wrap64, w_big, s_DrawAssigned_len, i_Assigned_len, s_Assigned_len]) (by (try simp only [Nat.ble_eq, Bool.and_eq_true, decide_eq_true_eq, w_FnAssigned_L0_mx0, w_FnAssigned_L1_mx0]); grind [maxSl, maxStr, toBytes_length, toInts_length, List.length_set, wrap64, w_big, s_DrawAssigned_len, i_Assigned_len, s_Assigned_len])) (fun a12 ha12 => have ia12 := w_FnAssigned_L0_nx c2.2.1 c2.2.2 0 (IntKind.wrap .i64 ((c2.1.length : Int) - 1)) c2.1 c3.use c3.k c3.l c3.rows (by (try simp only [Nat.ble_eq, Bool.and_eq_true, decide_eq_true_eq, w_FnAssigned_L0_mx0, w_FnAssigned_L1_mx0]); grind [maxSl, maxStr, toBytes_length, toInts_length, List.length_set, wrap64, w_big, s_DrawAssigned_len, i_Assigned_len, s_Assigned_len]) (by (try simp only [Nat.ble_eq, Bool.and_eq_true, decide_eq_true_eq, w_FnAssigned_L0_mx0, w_FnAssigned_L1_mx0]); grind [maxSl, maxStr, toBytes_length, toInts_length, List.length_set, wrap64, w_big, s_DrawAssigned_len, i_Assigned_len, s_Assigned_len]) (by (try simp only [Nat.ble_eq, Bool.and_eq_true, decide_eq_true_eq, w_FnAssigned_L0_mx0, w_FnAssigned_L1_mx0]); grind [maxSl, maxStr, toBytes_length, toInts_length, List.length_set, wrap64, w_big, s_DrawAssigned_len, i_Assigned_len, s_Assigned_len]) (by (try simp only [Nat.ble_eq, Bool.and_eq_true, decide_eq_true_eq, w_FnAssigned_L0_mx0, w_FnAssigned_L1_mx0]); grind [maxSl, maxStr, toBytes_length, toInts_length, List.length_set, wrap64, w_big, s_DrawAssigned_len, i_Assigned_len, s_Assigned_len]) (by (try simp only [Nat.ble_eq, Bool.and_eq_true, decide_eq_true_eq, w_FnAssigned_L0_mx0, w_FnAssigned_L1_mx0]); grind [maxSl, maxStr, toBytes_length, toInts_length, List.length_set, wrap64, w_big, s_DrawAssigned_len, i_Assigned_len, s_Assigned_len]) _ ha12; loopX (f := k) (w_FnAssigned_L1_cl c2.2.1 c2.2.2 a12 1 0 c2.1 c3.use c3.k c3.l c3.rows (by (try simp only [Nat.ble_eq, Bool.and_eq_true, decide_eq_true_eq, w_FnAssigned_L0_mx0, w_FnAssigned_L1_mx0]); grind [maxSl, maxStr, toBytes_length, toInts_length, List.length_set, wrap64, w_big, s_DrawAssigned_len, i_Assigned_len, s_Assigned_len]) (by (try simp only [Nat.ble_eq, Bool.and_eq_true, decide_eq_true_eq, w_FnAssigned_L0_mx0, w_FnAssigned_L1_mx0]); grind [maxSl, maxStr, toBytes_length, toInts_length, List.length_set, wrap64, w_big, s_DrawAssigned_len, i_Assigned_len, s_Assigned_len]) (by (try simp only [Nat.ble_eq, Bool.and_eq_true, decide_eq_true_eq, w_FnAssigned_L0_mx0, w_FnAssigned_L1_mx0]); grind [maxSl, maxStr, toBytes_length, toInts_length, List.length_set, wrap64, w_big, s_DrawAssigned_len, i_Assigned_len, s_Assigned_len]) (by (try simp only [Nat.ble_eq, Bool.and_eq_true, decide_eq_true_eq, w_FnAssigned_L0_mx0, w_FnAssigned_L1_mx0]); grind [maxSl, maxStr, toBytes_length, toInts_length, List.length_set, wrap64, w_big, s_DrawAssigned_len, i_Assigned_len, s_Assigned_len]) (by (try simp only [Nat.ble_eq, Bool.and_eq_true, decide_eq_true_eq, w_FnAssigned_L0_mx0, w_FnAssigned_L1_mx0]); grind [maxSl, maxStr, toBytes_length, toInts_length, List.length_set, wrap64, w_big, s_DrawAssigned_len, i_Assigned_len, s_Assigned_len]) (by (try simp only [Nat.ble_eq, Bool.and_eq_true, decide_eq_true_eq, w_FnAssigned_L0_mx0, w_FnAssigned_L1_mx0]); grind [maxSl, maxStr, toBytes_length, toInts_length, List.length_set, wrap64, w_big, s_DrawAssigned_len, i_Assigned_len, s_Assigned_len])) (fun a15 ha15 => have ia15 := w_FnAssigned_L1_nx c2.2.1 c2.2.2 a12 1 0 c2.1 c3.use c3.k c3.l c3.rows (by (try simp only [Nat.ble_eq, Bool.and_eq_true, decide_eq_true_eq, w_FnAssigned_L0_mx0, w_FnAssigned_L1_mx0]); grind [maxSl, maxStr, toBytes_length, toInts_length, List.length_set, wrap64, w_big, s_DrawAssigned_len, i_Assigned_len, s_Assigned_len]) (by (try simp only [Nat.ble_eq, Bool.and_eq_true, decide_eq_true_eq, w_FnAssigned_L0_mx0, w_FnAssigned_L1_mx0]); grind [maxSl, maxStr, toBytes_length, toInts_length, List.length_set, wrap64, w_big, s_DrawAssigned_len, i_Assigned_len, s_Assigned_len]) (by (try simp only [Nat.ble_eq, Bool.and_eq_true, decide_eq_true_eq, w_FnAssigned_L0_mx0, w_FnAssigned_L1_mx0]); grind [maxSl, maxStr, toBytes_length, toInts_length, List.length_set, wrap64, w_big, s_DrawAssigned_len, i_Assigned_len, s_Assigned_len]) (by (try simp only [Nat.ble_eq, Bool.and_eq_true, decide_eq_true_eq, w_FnAssigned_L0_mx0, w_FnAssigned_L1_mx0]); grind [maxSl, maxStr, toBytes_length, toInts_length, List.length_set, wrap64, w_big, s_DrawAssigned_len, i_Assigned_len, s_Assigned_len]) (by (try simp only [Nat.ble_eq, Bool.and_eq_true, decide_eq_true_eq, w_FnAssigned_L0_mx0, w_FnAssigned_L1_mx0]); grind [maxSl, maxStr, toBytes_length, toInts_length, List.length_set, wrap64, w_big, s_DrawAssigned_len, i_Assigned_len, s_Assigned_len]) (by (try simp only [Nat.ble_eq, Bool.and_eq_true, decide_eq_true_eq, w_FnAssigned_L0_mx0, w_FnAssigned_L1_mx0]); grind [maxSl, maxStr, toBytes_length, toInts_length, List.length_set, wrap64, w_big, s_DrawAssigned_len, i_Assigned_len, s_Assigned_len]) _ ha15; letT (f := k) (fun c16 hc16 => bifT (f := k) (fun b6 => bifG (by (try simp only [Nat.ble_eq, Bool.and_eq_true, decide_eq_true_eq, w_FnAssigned_L0_mx0, w_FnAssigned_L1_mx0]); grind [maxSl, maxStr, toBytes_length, toInts_length, List.length_set, wrap64, w_big, s_DrawAssigned_len, i_Assigned_len, s_Assigned_len]) (rfl))
      (fun b6 => rfl)))
      (fun p : Empty => nomatch p))
      (fun p : Empty => nomatch p)))))))))))))))
theorem w_FnAssigned_c (x0 : List Int)  : Con Try.prog 4 (pvs [.sc (.sl .u8)] (x0, ())) [rv (.sc .bool) [] (w_FnAssigned x0)] := by
  refine Con.of_facts (enters_of Try.func4 rfl (by kernel_rfl)) fun hf => ?_
  replace hf := factAt hf
  exact evalFn_conL teFact mixFact (orcOf_ok _) Try.func4 (by kernel_rfl) (bs := [0, 2]) (by kernel_rfl) (by kernel_rfl) (fun w0 mo I0 hmo => ⟨lsem_of_lorc (w_FnAssigned_L0_ls w0 mo I0 hmo) (by kernel_rfl), lsem_of_lorc (w_FnAssigned_L1_ls w0 mo I0 hmo) (by kernel_rfl), trivial⟩) ((w_FnAssigned_lk x0).trans (w_FnAssigned_p x0 ((hf 0 0 rfl rfl).len) _ _ _))
noncomputable def w_FnAssigned_e : Ent1 Try.prog := entA 4 [.sc (.sl .u8)] (fun x => (w_FnAssigned x.1)) (fun v => [rv (.sc .bool) [] v]) (fun x => w_FnAssigned_c x.1)



theorem q_within (a b c : Int) : s_l1In a b c = i_within a b c := by rw [s_l1In_eq, i_within_eq]


theorem forN_ext {A W : Type} {f g : Int → A → Stp A W} : ∀ (k : Nat) (i : Nat) (a : A), (∀ j a, j < i + k → f (j : Int) a = g (j : Int) a) → forN f 1 k (i : Int) a = forN g 1 k (i : Int) a
  | 0, _, _, _ => rfl
  | k + 1, i, a, h => by
    simp only [forN, h i a (by omega)]
    cases g (i : Int) a with
    | out w => rfl
    | next a' => simp only [Stp.elim]; rw [show ((i : Int) + 1) = ((i + 1 : Nat) : Int) by omega]; exact forN_ext k (i + 1) a' (fun j a hj => h j a (by omega))
theorem MacOk_in (r : List MacRow) (u : Bool) (k l : Int) (j : Nat) (hj : j < r.length) :
    Stp.elim (γ := Stp Unit Unit) (fun a3 => .next ()) (fun p3 => .out ()) (forN (s_MacOk_L0_0_f (j : Int) u k l r) 1 (Int.toNat ((j : Int) - 0)) 0 ()) =
    bif (g_ContainsFunc_MacRow_i_MacOk_1 ((r.take j).drop 0) (r.getD j (Ty.zero .macRow))).1 then .out () else .next () := by
  let p : MacRow → Bool := fun y => y.input == (r.getD j (Ty.zero .macRow)).input
  unfold g_ContainsFunc_MacRow_i_MacOk_1 g_IndexFunc_MacRow_i_MacOk_1
  rw [List.drop_zero]
  have hl : (r.take j).length = j := by rw [List.length_take]; omega
  rw [forN_list (r.take j) _ (by rw [hl]; simp) (F := fun q y a => bif p y then .out () else .next ()) (by
    intro q y a h
    have hq : q < j := by
      have := (List.getElem?_eq_some_iff.1 h).1; omega
    have h2 : r[q]? = some y := by rw [List.getElem?_take] at h; simpa [hq] using h
    simp only [s_MacOk_L0_0_f, toNat_cast, getD_some h2, p])]
  rw [forN_list (r.take j) _ (by simp) (F := fun q y a => bif p y then .out (q : Int) else .next ()) (by
    intro q y a h
    simp only [g_IndexFunc_MacRow_i_MacOk_1_L0_f, letK, i_MacOk_1, toNat_cast, getD_some h, p])]
  rw [listN_find (w := fun _ _ => ()), listN_find (w := fun j _ => (j : Int))]
  simp only [letK]
  cases h : (r.take j).findIdx? p with
  | none => simp [Stp.elim]
  | some i =>
    have := (List.findIdx?_eq_some_iff_getElem.1 h).1
    simp only [List.getElem?_eq_getElem this, Stp.elim]
    simp
theorem q_MacOk (x : Mac) : s_MacOk x = i_MacOk x := by
  unfold s_MacOk i_MacOk
  have e : forN (s_MacOk_L0_f x.use x.k x.l x.rows) 1 (Int.toNat ((x.rows.length : Int) - 0)) 0 () = forN (i_MacOk_L0_f x.rows (x.rows.length : Int) x.use x.k x.l x.rows) 1 (Int.toNat ((x.rows.length : Int) - 0)) 0 () := by
    rw [toNat_sub0]
    refine forN_ext x.rows.length 0 () (fun j a hj => ?_)
    have := MacOk_in x.rows x.use x.k x.l j (by omega)
    simp only [s_MacOk_L0_f, i_MacOk_L0_f, letK, toNat_cast, q_within] at this ⊢
    rw [this]
  rw [e]
  have e1 : (x.k != 0) = !(x.k == 0) := rfl
  have e2 : (x.l != 0) = !(x.l == 0) := rfl
  have e3 : decide (64 < (x.rows.length : Int)) = !decide ((x.rows.length : Int) ≤ 64) := by
    rcases Int.lt_or_le 64 (x.rows.length : Int) with h | h
    · simp [h, show ¬ ((x.rows.length : Int) ≤ 64) by omega]
    · simp [h, show ¬ (64 < (x.rows.length : Int)) by omega]
  rw [e1, e2, e3]
  cases x.use with
  | false => rfl
  | true =>
    cases forN (i_MacOk_L0_f x.rows (x.rows.length : Int) true x.k x.l x.rows) 1 (Int.toNat ((x.rows.length : Int) - 0)) 0 () <;> cases (x.k == 0) <;> cases (x.l == 0) <;> cases decide ((x.rows.length : Int) ≤ 64) <;> rfl


theorem q_Assigned (xs : List Bytes) (n m : Int) : s_Assigned xs n m = i_Assigned xs n m := by
  unfold s_Assigned i_Assigned
  simp only [letK, q_within, s_TableMac, List.nil_append]
  rw [show forN (s_Assigned_L0_f xs n false 0 0) 1 (Int.toNat ((xs.length : Int) - 0)) 0 (m, []) = forN (i_Assigned_L0_f n xs (xs.length : Int) false 0 0 true 0 0) 1 (Int.toNat ((xs.length : Int) - 0)) 0 (m, []) from forN_congr (fun _ _ => rfl) _ _ _]
  all_goals rfl
theorem Assigned_len (xs : List Bytes) (n m : Int) : (i_Assigned xs n m).rows.length ≤ 4 := by
  unfold i_Assigned letK
  cases i_within n 1 4 with
  | false => simp
  | true =>
    cases decide (m < 0) with
    | true => simp
    | false =>
      cases hd : decide (4 < (xs.length : Int)) with
      | true => simp
      | false =>
        simp only [decide_eq_false_iff_not] at hd
        simp only [Bool.not_true, cond_false]
        cases hf : forN (i_Assigned_L0_f n xs (xs.length : Int) false 0 0 true 0 0) 1 (Int.toNat ((xs.length : Int) - 0)) 0 (m, []) with
        | out p => nomatch p
        | next a =>
          have h5 : (a.2.length : Int) ≤ 0 + 1 * (Int.toNat ((xs.length : Int) - 0) : Int) := by
            refine forN_inv (Inv := fun i (a : Int × List MacRow) => (a.2.length : Int) ≤ i) _ _ _ (by simp) (fun j a _ h a2 he => ?_) a hf
            unfold i_Assigned_L0_f at he
            cases he
            simp only [List.length_append, List.length_singleton]
            omega
          simp only [Stp.elim]
          omega

theorem rot_eq (x n : Int) (h : bits .and .u64 (IntKind.wrap .u64 n) 63 = n) : mb_RotateLeft64 x n = s_l10Turn x n := by
  simp only [mb_RotateLeft64, s_l10Turn, letK, h]
theorem q_SipRound (x : Sipr) : s_SipRound x = i_SipRound x := by
  simp only [s_SipRound, i_SipRound, rot_eq _ 13 (by decide +kernel), rot_eq _ 16 (by decide +kernel), rot_eq _ 17 (by decide +kernel), rot_eq _ 21 (by decide +kernel), rot_eq _ 32 (by decide +kernel)]

def asgBody (n b m : Int) : Bool :=
  let xs : List Bytes := ([] ++ (([[97], [98], [99, 99], [], [101], [102]].take n.toNat).drop 0))
  let c3 := i_Assigned xs b m
  letK (α := Bool) (s_SameMac c3 (s_Assigned xs b m)) fun c5 =>
  bif (!c5) then false else
  bif (decide (b < 1)) then (!c3.use) else
  bif (decide (4 < b)) then (!c3.use) else
  bif (decide (m < 0)) then (!c3.use) else
  bif (decide (4 < (xs.length : Int))) then (!c3.use) else
  Stp.elim (fun a12 =>
    Stp.elim (fun a15 =>
      letK (α := Bool) (i_MacOk c3) fun c16 =>
      bif c16 then
        (a12 == (m.tmod a15))
      else
      false)
      (fun p : Empty => nomatch p)
      (forN (w_FnAssigned_L1_f b m a12 xs c3.use c3.k c3.l c3.rows) 1 (Int.toNat ((xs.length : Int) - 0)) 0 1))
    (fun p : Empty => nomatch p)
    (forN (w_FnAssigned_L0_f b m xs c3.use c3.k c3.l c3.rows) (-1) (Int.toNat ((IntKind.wrap .i64 ((xs.length : Int) - 1)) - 0 + 1)) (IntKind.wrap .i64 ((xs.length : Int) - 1)) 0)
theorem asg_all : ∀ n : Nat, n < 6 → ∀ b : Nat, b < 6 → ∀ m ∈ [(0 : Int), 1, 5, 27, 255, (-1), 9223372036854775807], asgBody n b m = true := by decide +kernel
theorem pick_mem (c : Curs) (xs : List Int) (hc : 0 ≤ c.i ∧ c.b.length ≤ 1048576) (hx : 0 < xs.length) : (s_l1PickInt c xs).1 ∈ xs := by
  unfold s_l1PickInt
  have h := s_l1Below_rng c (xs.length : Int) hc
  have h1 := h.1
  have h2 := h.2 (by omega)
  simp only [letK_eq]
  generalize (s_l1Below c (xs.length : Int)).1 = v at *
  have hv : v.toNat < xs.length := by omega
  rw [List.getD_eq_getElem?_getD, List.getElem?_eq_getElem hv]
  exact List.getElem_mem hv
theorem t_FnAssigned (x : List Int) : w_FnAssigned x = true := by
  unfold w_FnAssigned
  simp only [letK_eq]
  cases hb : w_big x with
  | true => rfl
  | false =>
    simp only [cond_false]
    have hl : x.length ≤ 1048576 := by
      simp only [w_big, decide_eq_false_iff_not] at hb; omega
    have k0 : 0 ≤ (s_l1New x).i ∧ (s_l1New x).b.length ≤ 1048576 := s_l1New_cur x hl
    unfold s_DrawAssigned
    simp only [letK_eq]
    generalize s_l1New x = c at *
    have r1 := s_l1Below_rng c 6 k0
    have k1 := s_l1Below_cur c 6 k0
    generalize s_l1Below c 6 = p at *
    have r2 := s_l1Below_rng p.2 6 k1
    have k2 := s_l1Below_cur p.2 6 k1
    generalize s_l1Below p.2 6 = q at *
    have r3 := pick_mem q.2 [0, 1, 5, 27, 255, (-1), 9223372036854775807] k2 (by simp)
    generalize s_l1PickInt q.2 [0, 1, 5, 27, 255, (-1), 9223372036854775807] = r at *
    have a1 := r1.1
    have a2 := r1.2 (by omega)
    have b1 := r2.1
    have b2 := r2.2 (by omega)
    have := asg_all p.1.toNat (by omega) q.1.toNat (by omega) r.1 r3
    rw [show ((p.1.toNat : Nat) : Int) = p.1 by omega, show ((q.1.toNat : Nat) : Int) = q.1 by omega] at this
    exact this

end Go.Proofs.Ythlhmhlphnjjkaa
