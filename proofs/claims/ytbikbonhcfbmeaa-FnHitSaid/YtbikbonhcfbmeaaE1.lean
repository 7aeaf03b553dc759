/-
  Contracts of functions and plain laws (printed by a program): each theorem says what a function of the program returns; conditions are its hypotheses.
-/
import Derived.Test.YtbikbonhcfbmeaaBase
set_option maxRecDepth 4000
set_option linter.unusedVariables false
set_option linter.unusedSimpArgs false
namespace Go.Proofs.Ytbikbonhcfbmeaa
open Go Go.RowKit

/-- laws.big -/
def w_big_N (x0 : List Int) (γ : Type) (fail : γ) (k : Bool → γ) : γ :=
  k (decide (1048576 < (x0.length : Int)))
def w_big (x0 : List Int) : Bool :=
  (decide (1048576 < (x0.length : Int)))
theorem w_big_lk (x0 : List Int) : evalFn te (orcOf (P := Try.prog) []) lorc0 [] Try.f8 (pvs [.sc (.sl .u8)] (x0, ())) =
  w_big_N x0 _ none (fun v => some [(false, [RC.c (.bool v)])]) := by kernel_rfl
theorem w_big_p (x0 : List Int)   (γ : Type) (fail : γ) (k : Bool → γ) : w_big_N x0 γ fail k = k (w_big x0) := by
  unfold w_big_N w_big
  exact rfl
theorem w_big_c (x0 : List Int)  : Con Try.prog 8 (pvs [.sc (.sl .u8)] (x0, ())) [rv (.sc .bool) [] (w_big x0)] := by
  exact evalFn_con0 teFact mixFact (orcOf_ok _) Try.func8 (by kernel_rfl) ((w_big_lk x0).trans (w_big_p x0  _ _ _))
noncomputable def w_big_e : Ent1 Try.prog := entA 8 [.sc (.sl .u8)] (fun x => (w_big x.1)) (fun v => [rv (.sc .bool) [] v]) (fun x => w_big_c x.1)


/-- laws.at0 -/
def w_at0_N (x0 : List Int) (x1 : Int) (γ : Type) (fail : γ) (k : Int → γ) : γ :=
  bif (decide (x1 < (x0.length : Int))) then
    bif ((decide (0 ≤ x1)) && (decide (x1 < (x0.length : Int)))) then
    k (IntKind.wrap .i64 (x0.getD x1.toNat 0))
    else fail
  else
  letK (α := Int) ((IntKind.wrap .i64 ((IntKind.wrap .i64 (x1 * 7)) + (x0.length : Int))).tmod 256) fun e1 =>
  k e1
def w_at0 (x0 : List Int) (x1 : Int) : Int :=
  bif (decide (x1 < (x0.length : Int))) then
    (IntKind.wrap .i64 (x0.getD x1.toNat 0))
  else
  letK (α := Int) ((IntKind.wrap .i64 ((IntKind.wrap .i64 (x1 * 7)) + (x0.length : Int))).tmod 256) fun e1 =>
  e1
theorem w_at0_lk (x0 : List Int) (x1 : Int) : evalFn te (orcOf (P := Try.prog) []) lorc0 [] Try.f22 (pvs [.sc (.sl .u8), .sc (.int .i64)] (x0, x1, ())) =
  w_at0_N x0 x1 _ none (fun v => some [(false, [RC.c (.int .i64 v)])]) := by kernel_rfl
theorem w_at0_p (x0 : List Int) (x1 : Int) (hx0 : x0.length ≤ 140737488355328) (hx1 : inK .i64 x1) (hp : 0 ≤ x1) (γ : Type) (fail : γ) (k : Int → γ) : w_at0_N x0 x1 γ fail k = k (w_at0 x0 x1) := by
  unfold w_at0_N w_at0
  exact bifT (f := k) (fun b0 => bifG (by (try simp only [Nat.ble_eq, Bool.and_eq_true, decide_eq_true_eq]); grind [maxSl, maxStr, toBytes_length, toInts_length, List.length_set, wrap64]) (rfl))
      (fun b0 => letT (f := k) (fun e1 he1 => rfl))
theorem w_at0_c (x0 : List Int) (x1 : Int) (hp : 0 ≤ x1) : Con Try.prog 22 (pvs [.sc (.sl .u8), .sc (.int .i64)] (x0, x1, ())) [rv (.sc (.int .i64)) [] (w_at0 x0 x1)] := by
  refine Con.of_facts (enters_of Try.func22 rfl (by kernel_rfl)) fun hf => ?_
  replace hf := factAt hf
  exact evalFn_con0 teFact mixFact (orcOf_ok _) Try.func22 (by kernel_rfl) ((w_at0_lk x0 x1).trans (w_at0_p x0 x1 ((hf 0 0 rfl rfl).len) ((hf 1 0 rfl rfl).rng) hp _ _ _))
noncomputable def w_at0_e : Ent1 Try.prog := entP 22 [.sc (.sl .u8), .sc (.int .i64)] (fun x => (decide (0 ≤ x.2.1))) (fun x => (w_at0 x.1 x.2.1)) (fun v => [rv (.sc (.int .i64)) [] v]) (fun x hx => w_at0_c x.1 x.2.1 (of_decide_eq_true hx))

theorem w_at0_nn (x0 : List Int) (x1 : Int) (h : ∀ y ∈ x0, 0 ≤ y ∧ y ≤ 255) (h1 : 0 ≤ x1 ∧ x1 ≤ 1024) (h2 : x0.length ≤ 140737488355328) : 0 ≤ w_at0 x0 x1 := by
  unfold w_at0
  cases decide (x1 < (x0.length : Int)) with
  | true =>
    have := getD_all (p := fun y : Int => 0 ≤ y ∧ y ≤ 255) (d := 0) (by decide) h x1.toNat
    simp only [cond_true]
    rw [wrap64 (by omega) (by omega)]
    exact this.1
  | false =>
    simp only [cond_false, letK_eq]
    refine tmod_nn ?_
    have e : IntKind.wrap .i64 (x1 * 7) = x1 * 7 := wrap64 (by omega) (by omega)
    rw [e, wrap64 (by omega) (by omega)]; omega


/-- spec.l1New -/
def s_l1New_ann : List (Nat × Keep) := [(0, ⟨[0, 3, 4], [], false, 0⟩)]
def s_l1New_L0_sh : Sh := ⟨[(0, false, [.sl .arg .u8]), (3, false, [.int .i64]), (4, false, [.int .i64])], []⟩
def s_l1New_L0_es : List (Ex × Sh) := [(.exit 0, ⟨[(0, false, [.sl .arg .u8]), (2, false, [.undef]), (3, false, [.int .i64])], []⟩)]
def s_l1New_L0_mk (v0 : List Int) (v1 : Int) (v2 : Int) : s_l1New_L0_sh.T := (((v0, ()), ((v1, ()), ((v2, ()), ()))), ())
def s_l1New_L0_mx0 (y0 : List Int) (y1 : Int) : Sh.T ⟨[(0, false, [.sl .arg .u8]), (2, false, [.undef]), (3, false, [.int .i64])], []⟩ := (((y0, ()), (((), ()), ((y1, ()), ()))), ())
def s_l1New_L0_B (v0 : List Int) (v1 : Int) (v2 : Int) (γ : Type) (fail : γ) (next : s_l1New_L0_sh.T → γ) (out : WT s_l1New_L0_es → γ) : γ :=
  bif (decide (v2 < (v0.length : Int))) then
    bif (decide (v2 < 4000)) then
      bif ((decide (0 ≤ v2)) && (decide (v2 < (v0.length : Int)))) then
      letK (α := Int) (IntKind.wrap .i64 ((IntKind.wrap .i64 (v1 * 131)) + (IntKind.wrap .i64 (v0.getD v2.toNat 0)))) fun e1 =>
      next (s_l1New_L0_mk v0 (bits .and .i64 (IntKind.wrap .i64 (e1 + 7)) 1073741823) (IntKind.wrap .i64 (v2 + 1)))
      else fail
    else
    out (s_l1New_L0_mx0 v0 v1)
  else
  out (s_l1New_L0_mx0 v0 v1)
theorem s_l1New_L0_par (v0 : List Int) (v1 : Int) (v2 : Int) (γ : Type) (fail : γ) (next : s_l1New_L0_sh.T → γ) (out : WT s_l1New_L0_es → γ) : s_l1New_L0_B v0 v1 v2 γ fail next out = optK (s_l1New_L0_B v0 v1 v2 _ none (fun v' => some (.inl v')) (fun w => some (.inr w))) fail (fun r => Sum.elim next out r) := by
  unfold s_l1New_L0_B
  exact bifT (f := (fun o => optK o fail (fun r => Sum.elim next out r))) (fun _ => bifT (f := (fun o => optK o fail (fun r => Sum.elim next out r))) (fun _ => bifT (f := (fun o => optK o fail (fun r => Sum.elim next out r))) (fun _ => letT (f := (fun o => optK o fail (fun r => Sum.elim next out r))) (fun e1 _ => rfl)) (fun _ => rfl))
      (fun _ => rfl))
      (fun _ => rfl)
def s_l1New_L0_r : Round s_l1New_L0_sh.T (WT s_l1New_L0_es) where
  B v γ fail next out := s_l1New_L0_B v.1.1.1 v.1.2.1.1 v.1.2.2.1.1 γ fail next out
  par v γ fail next out := s_l1New_L0_par v.1.1.1 v.1.2.1.1 v.1.2.2.1.1 γ fail next out
def s_l1New_L0_fu (v0 : List Int) (v1 : Int) (v2 : Int) : Nat := (Int.toNat ((v0.length : Int) - v2)) + 1
theorem s_l1New_L0_lk (v : s_l1New_L0_sh.T) (next : St → Option Res) (k : Ex → St → Option Res) : evalK te (orcOf (P := Try.prog) []) (lorcOf []) Try.f39.ntmps s_l1New_ann (nthLoop (bodyOf Try.f39) 0 0) 0 (s_l1New_L0_sh.enc v) (endK ⟨[0, 3, 4], [], false, 0⟩ ⟨[0, 2, 3], [], false, 0⟩ next k) =
  s_l1New_L0_r.B v _ none (fun v' => next (s_l1New_L0_sh.enc v')) (fun w => outK s_l1New_L0_es k w) := by kernel_rfl
def s_l1New_L0_le : LE := leOf 0 s_l1New_L0_sh s_l1New_L0_es s_l1New_L0_r.step (fun v => s_l1New_L0_fu v.1.1.1 v.1.2.1.1 v.1.2.2.1.1)
theorem s_l1New_L0_ls (w0 : World) (mo : Mts) (I0 : Nat → Prop) (hmo : mo.length = 0) : LSem Try.prog (Sim w0 mo Try.f39.ntmps I0) (fun b s k => match Nat.beq 0 b with | true => s_l1New_L0_le.run s k | false => none) 0 (nthLoop (bodyOf Try.f39) 0 0) :=
  le_sem hmo (lorc := lorcOf []) (ann := s_l1New_ann) (keep := ⟨[0, 3, 4], [], false, 0⟩) (kout := ⟨[0, 2, 3], [], false, 0⟩) teFact mixFact (orcOf_ok _) (by kernel_rfl) (allLoops_of (bs := []) (by kernel_rfl) trivial) s_l1New_L0_r _ s_l1New_L0_lk
def s_l1New_L0_f (v0 : List Int) (v2 : Int) (a : Int) : Stp (Int) ((Int)) :=
  bif (decide (v2 < 4000)) then
    letK (α := Int) (IntKind.wrap .i64 ((IntKind.wrap .i64 (a * 131)) + (IntKind.wrap .i64 (v0.getD v2.toNat 0)))) fun e1 =>
    .next (bits .and .i64 (IntKind.wrap .i64 (e1 + 7)) 1073741823)
  else
  .out (a)
theorem s_l1New_L0_st (v0 : List Int) (v1 : Int) (v2 : Int) (hlo : 0 ≤ v2) (hhi : v2 < (v0.length : Int)) (hN : (v0.length : Int) ≤ 4611686018427387904) : s_l1New_L0_r.step (s_l1New_L0_mk v0 v1 v2) = Stp.elim (fun a' : Int => some (Sum.inl (s_l1New_L0_mk v0 a' (v2 + 1)))) (fun w => some (Sum.inr ((fun p : Int => s_l1New_L0_mx0 v0 p) w))) (s_l1New_L0_f v0 v2 v1) := by
  have hw : (IntKind.wrap .i64 (v2 + 1)) = v2 + 1 := wrap64 (by omega) (by omega)
  show s_l1New_L0_B v0 v1 v2 (Option (s_l1New_L0_sh.T ⊕ WT s_l1New_L0_es)) none (fun v' => some (Sum.inl v')) (fun w => some (Sum.inr w)) = _
  unfold s_l1New_L0_B s_l1New_L0_f
  exact bifG (by simp only [decide_eq_true_eq]; omega) (bifT (f := (Stp.elim (fun a' : Int => some (Sum.inl (s_l1New_L0_mk v0 a' (v2 + 1)))) (fun w => some (Sum.inr ((fun p : Int => s_l1New_L0_mx0 v0 p) w))))) (fun b0 => bifG (by (try simp only [Nat.ble_eq, Bool.and_eq_true, decide_eq_true_eq]); grind [maxSl, maxStr, toBytes_length, toInts_length, List.length_set, wrap64]) (letT (f := (Stp.elim (fun a' : Int => some (Sum.inl (s_l1New_L0_mk v0 a' (v2 + 1)))) (fun w => some (Sum.inr ((fun p : Int => s_l1New_L0_mx0 v0 p) w))))) (fun e1 he1 => (by exact congrArg (fun z => some (Sum.inl (s_l1New_L0_mk v0 (bits .and .i64 (IntKind.wrap .i64 (e1 + 7)) 1073741823) z))) hw))))
      (fun b0 => rfl))
theorem s_l1New_L0_cl (v0 : List Int) (v1 : Int) (v2 : Int) (h0 : 0 ≤ v2) (h1 : (v0.length : Int) ≤ 4611686018427387904) : loopF s_l1New_L0_r.step (s_l1New_L0_fu v0 v1 v2) (s_l1New_L0_mk v0 v1 v2) = some (Stp.elim (fun a => (fun i a => s_l1New_L0_mx0 v0 a) (v2 + 1 * (((Int.toNat ((v0.length : Int) - v2)) : Nat) : Int)) a) (fun p : Int => s_l1New_L0_mx0 v0 p) (forN (s_l1New_L0_f v0) 1 (Int.toNat ((v0.length : Int) - v2)) v2 v1)) :=
  forN_loop (step := s_l1New_L0_r.step) (mk := fun v2 a => s_l1New_L0_mk v0 a v2) (f := s_l1New_L0_f v0) (e := (fun i a => s_l1New_L0_mx0 v0 a)) (emb := (fun p : Int => s_l1New_L0_mx0 v0 p)) (st := 1) (Inv := fun v2 a => True) (Int.toNat ((v0.length : Int) - v2)) v2 v1 _ (Nat.lt_succ_self _) trivial
    (fun j a hj hv => ⟨s_l1New_L0_st v0 a (v2 + 1 * (j : Int)) (by omega) (by omega) (by omega), fun _ _ => trivial⟩)
    (fun a hv => by
      show s_l1New_L0_B v0 a (v2 + 1 * (((Int.toNat ((v0.length : Int) - v2)) : Nat) : Int)) (Option (s_l1New_L0_sh.T ⊕ WT s_l1New_L0_es)) none (fun v' => some (Sum.inl v')) (fun w => some (Sum.inr w)) = _
      unfold s_l1New_L0_B
      exact bifN (by simp only [decide_eq_false_iff_not]; omega) rfl)
def s_l1New_N (x0 : List Int) (γ : Type) (fail : γ) (k : Curs → γ) : γ :=
  optK (loopF s_l1New_L0_r.step (s_l1New_L0_fu x0 (IntKind.wrap .i64 (28655 + (x0.length : Int))) 0) (s_l1New_L0_mk x0 (IntKind.wrap .i64 (28655 + (x0.length : Int))) 0)) fail fun w2 =>
    k (⟨w2.1.1.1, 0, w2.1.2.2.1.1⟩ : Curs)
def s_l1New (x0 : List Int) : Curs :=
  Stp.elim (fun a3 =>
    (⟨x0, 0, a3⟩ : Curs))
    (fun p3 =>
      (⟨x0, 0, p3⟩ : Curs))
    (forN (s_l1New_L0_f x0) 1 (Int.toNat ((x0.length : Int) - 0)) 0 (IntKind.wrap .i64 (28655 + (x0.length : Int))))
theorem s_l1New_lk (x0 : List Int) : evalFn te (orcOf (P := Try.prog) []) (lorcOf [s_l1New_L0_le]) s_l1New_ann Try.f39 (pvs [.sc (.sl .u8)] (x0, ())) =
  s_l1New_N x0 _ none (fun v => some [rb .curs v]) := by kernel_rfl
theorem s_l1New_p (x0 : List Int) (hx0 : x0.length ≤ 140737488355328)  (γ : Type) (fail : γ) (k : Curs → γ) : s_l1New_N x0 γ fail k = k (s_l1New x0) := by
  unfold s_l1New_N s_l1New
  exact loopT (f := k) (s_l1New_L0_cl x0 (IntKind.wrap .i64 (28655 + (x0.length : Int))) 0 (by (try simp only [Nat.ble_eq, Bool.and_eq_true, decide_eq_true_eq, s_l1New_L0_mx0]); grind [maxSl, maxStr, toBytes_length, toInts_length, List.length_set, wrap64]) (by (try simp only [Nat.ble_eq, Bool.and_eq_true, decide_eq_true_eq, s_l1New_L0_mx0]); grind [maxSl, maxStr, toBytes_length, toInts_length, List.length_set, wrap64])) (fun a3 => rfl)
      (fun p3 => rfl)
theorem s_l1New_c (x0 : List Int)  : Con Try.prog 39 (pvs [.sc (.sl .u8)] (x0, ())) [rb .curs (s_l1New x0)] := by
  refine Con.of_facts (enters_of Try.func39 rfl (by kernel_rfl)) fun hf => ?_
  replace hf := factAt hf
  exact evalFn_conL teFact mixFact (orcOf_ok _) Try.func39 (by kernel_rfl) (bs := [0]) (by kernel_rfl) (by kernel_rfl) (fun w0 mo I0 hmo => ⟨lsem_of_lorc (s_l1New_L0_ls w0 mo I0 hmo) (by kernel_rfl), trivial⟩) ((s_l1New_lk x0).trans (s_l1New_p x0 ((hf 0 0 rfl rfl).len) _ _ _))
noncomputable def s_l1New_e : Ent1 Try.prog := entA 39 [.sc (.sl .u8)] (fun x => (s_l1New x.1)) (fun v => [rb .curs v]) (fun x => s_l1New_c x.1)

theorem s_l1New_cur (x0 : List Int)  (hc : x0.length ≤ 1048576) : (fun v : Curs => 0 ≤ v.i ∧ v.b.length ≤ 1048576) (s_l1New x0) := by
  unfold s_l1New
  exact loopP (P := (fun v : Curs => 0 ≤ v.i ∧ v.b.length ≤ 1048576)) (fun a3 ha3 => (by (try simp only [Nat.ble_eq, Bool.and_eq_true, decide_eq_true_eq, s_l1New_L0_mx0]); grind [maxSl, maxStr, toBytes_length, toInts_length, List.length_set, wrap64]))
      (fun p3 hp3 => (by (try simp only [Nat.ble_eq, Bool.and_eq_true, decide_eq_true_eq, s_l1New_L0_mx0]); grind [maxSl, maxStr, toBytes_length, toInts_length, List.length_set, wrap64]))

/-- spec.l4Rest -/
def s_l4Rest_N (x0 : Int) (γ : Type) (fail : γ) (k : Int → γ) : γ :=
  bif (decide ((x0.tmod 4294967296) < 0)) then
    k (IntKind.wrap .i64 ((x0.tmod 4294967296) + 4294967296))
  else
  k (x0.tmod 4294967296)
def s_l4Rest (x0 : Int) : Int :=
  bif (decide ((x0.tmod 4294967296) < 0)) then
    (IntKind.wrap .i64 ((x0.tmod 4294967296) + 4294967296))
  else
  (x0.tmod 4294967296)
theorem s_l4Rest_lk (x0 : Int) : evalFn te (orcOf (P := Try.prog) []) lorc0 [] Try.f54 (pvs [.sc (.int .i64)] (x0, ())) =
  s_l4Rest_N x0 _ none (fun v => some [(false, [RC.c (.int .i64 v)])]) := by kernel_rfl
theorem s_l4Rest_p (x0 : Int)   (γ : Type) (fail : γ) (k : Int → γ) : s_l4Rest_N x0 γ fail k = k (s_l4Rest x0) := by
  unfold s_l4Rest_N s_l4Rest
  exact bifT (f := k) (fun b0 => rfl)
      (fun b0 => rfl)
theorem s_l4Rest_c (x0 : Int)  : Con Try.prog 54 (pvs [.sc (.int .i64)] (x0, ())) [rv (.sc (.int .i64)) [] (s_l4Rest x0)] := by
  exact evalFn_con0 teFact mixFact (orcOf_ok _) Try.func54 (by kernel_rfl) ((s_l4Rest_lk x0).trans (s_l4Rest_p x0  _ _ _))
noncomputable def s_l4Rest_e : Ent1 Try.prog := entA 54 [.sc (.int .i64)] (fun x => (s_l4Rest x.1)) (fun v => [rv (.sc (.int .i64)) [] v]) (fun x => s_l4Rest_c x.1)


/-- spec.KeyMac -/
def s_KeyMac_N (x0 : Int) (x1 : Int) (γ : Type) (fail : γ) (k : Mac → γ) : γ :=
  k (⟨false, x0, x1, []⟩ : Mac)
def s_KeyMac (x0 : Int) (x1 : Int) : Mac :=
  (⟨false, x0, x1, []⟩ : Mac)
theorem s_KeyMac_lk (x0 : Int) (x1 : Int) : evalFn te (orcOf (P := Try.prog) []) lorc0 [] Try.f97 (pvs [.sc (.int .u64), .sc (.int .u64)] (x0, x1, ())) =
  s_KeyMac_N x0 x1 _ none (fun v => some [(true, [RC.c (.bool v.use), RC.c (.int .u64 v.k), RC.c (.int .u64 v.l), RC.own true .macRow v.rows])]) := by kernel_rfl
theorem s_KeyMac_p (x0 : Int) (x1 : Int)   (γ : Type) (fail : γ) (k : Mac → γ) : s_KeyMac_N x0 x1 γ fail k = k (s_KeyMac x0 x1) := by
  unfold s_KeyMac_N s_KeyMac
  exact rfl
theorem s_KeyMac_c (x0 : Int) (x1 : Int)  : Con Try.prog 97 (pvs [.sc (.int .u64), .sc (.int .u64)] (x0, x1, ())) [rv (.st .mac) [.c, .c, .c, .o true] (s_KeyMac x0 x1)] := by
  exact evalFn_con0 teFact mixFact (orcOf_ok _) Try.func97 (by kernel_rfl) ((s_KeyMac_lk x0 x1).trans (s_KeyMac_p x0 x1  _ _ _))
noncomputable def s_KeyMac_e : Ent1 Try.prog := entA 97 [.sc (.int .u64), .sc (.int .u64)] (fun x => (s_KeyMac x.1 x.2.1)) (fun v => [rv (.st .mac) [.c, .c, .c, .o true] v]) (fun x => s_KeyMac_c x.1 x.2.1)

theorem s_KeyMac_len (x0 : Int) (x1 : Int)   : (fun v : Mac => v.rows.length ≤ 0) (s_KeyMac x0 x1) := by
  unfold s_KeyMac
  exact (by (try simp only [Nat.ble_eq, Bool.and_eq_true, decide_eq_true_eq]); grind [maxSl, maxStr, toBytes_length, toInts_length, List.length_set, wrap64])

/-- impl.within -/
def i_within_N (x0 : Int) (x1 : Int) (x2 : Int) (γ : Type) (fail : γ) (k : Bool → γ) : γ :=
  bif (decide (x1 ≤ x0)) then
    k (decide (x0 ≤ x2))
  else
  k false
def i_within (x0 : Int) (x1 : Int) (x2 : Int) : Bool :=
  bif (decide (x1 ≤ x0)) then
    (decide (x0 ≤ x2))
  else
  false
theorem i_within_lk (x0 : Int) (x1 : Int) (x2 : Int) : evalFn te (orcOf (P := Try.prog) []) lorc0 [] Try.f102 (pvs [.sc (.int .i64), .sc (.int .i64), .sc (.int .i64)] (x0, x1, x2, ())) =
  i_within_N x0 x1 x2 _ none (fun v => some [(false, [RC.c (.bool v)])]) := by kernel_rfl
theorem i_within_p (x0 : Int) (x1 : Int) (x2 : Int)   (γ : Type) (fail : γ) (k : Bool → γ) : i_within_N x0 x1 x2 γ fail k = k (i_within x0 x1 x2) := by
  unfold i_within_N i_within
  exact bifT (f := k) (fun b0 => rfl)
      (fun b0 => rfl)
theorem i_within_c (x0 : Int) (x1 : Int) (x2 : Int)  : Con Try.prog 102 (pvs [.sc (.int .i64), .sc (.int .i64), .sc (.int .i64)] (x0, x1, x2, ())) [rv (.sc .bool) [] (i_within x0 x1 x2)] := by
  exact evalFn_con0 teFact mixFact (orcOf_ok _) Try.func102 (by kernel_rfl) ((i_within_lk x0 x1 x2).trans (i_within_p x0 x1 x2  _ _ _))
noncomputable def i_within_e : Ent1 Try.prog := entA 102 [.sc (.int .i64), .sc (.int .i64), .sc (.int .i64)] (fun x => (i_within x.1 x.2.1 x.2.2.1)) (fun v => [rv (.sc .bool) [] v]) (fun x => i_within_c x.1 x.2.1 x.2.2.1)

theorem i_within_eq (n lo hi : Int) : i_within n lo hi = (decide (lo ≤ n) && decide (n ≤ hi)) := by
  unfold i_within
  cases decide (lo ≤ n) <;> rfl


/-- spec.l1In -/
def s_l1In_N (x0 : Int) (x1 : Int) (x2 : Int) (γ : Type) (fail : γ) (k : Bool → γ) : γ :=
  bif (decide (x1 ≤ x0)) then
    k (decide (x0 ≤ x2))
  else
  k false
def s_l1In (x0 : Int) (x1 : Int) (x2 : Int) : Bool :=
  bif (decide (x1 ≤ x0)) then
    (decide (x0 ≤ x2))
  else
  false
theorem s_l1In_lk (x0 : Int) (x1 : Int) (x2 : Int) : evalFn te (orcOf (P := Try.prog) []) lorc0 [] Try.f103 (pvs [.sc (.int .i64), .sc (.int .i64), .sc (.int .i64)] (x0, x1, x2, ())) =
  s_l1In_N x0 x1 x2 _ none (fun v => some [(false, [RC.c (.bool v)])]) := by kernel_rfl
theorem s_l1In_p (x0 : Int) (x1 : Int) (x2 : Int)   (γ : Type) (fail : γ) (k : Bool → γ) : s_l1In_N x0 x1 x2 γ fail k = k (s_l1In x0 x1 x2) := by
  unfold s_l1In_N s_l1In
  exact bifT (f := k) (fun b0 => rfl)
      (fun b0 => rfl)
theorem s_l1In_c (x0 : Int) (x1 : Int) (x2 : Int)  : Con Try.prog 103 (pvs [.sc (.int .i64), .sc (.int .i64), .sc (.int .i64)] (x0, x1, x2, ())) [rv (.sc .bool) [] (s_l1In x0 x1 x2)] := by
  exact evalFn_con0 teFact mixFact (orcOf_ok _) Try.func103 (by kernel_rfl) ((s_l1In_lk x0 x1 x2).trans (s_l1In_p x0 x1 x2  _ _ _))
noncomputable def s_l1In_e : Ent1 Try.prog := entA 103 [.sc (.int .i64), .sc (.int .i64), .sc (.int .i64)] (fun x => (s_l1In x.1 x.2.1 x.2.2.1)) (fun v => [rv (.sc .bool) [] v]) (fun x => s_l1In_c x.1 x.2.1 x.2.2.1)

theorem s_l1In_eq (n lo hi : Int) : s_l1In n lo hi = (decide (lo ≤ n) && decide (n ≤ hi)) := by
  unfold s_l1In
  cases decide (lo ≤ n) <;> rfl


/-- spec.TableMac -/
def s_TableMac_N (x0 : List MacRow) (γ : Type) (fail : γ) (k : Mac → γ) : γ :=
  bif (Nat.ble ((2 * (0 + x0.length) + 1024) * 24) maxSl) then
  k (⟨true, 0, 0, ([] ++ x0)⟩ : Mac)
  else fail
def s_TableMac (x0 : List MacRow) : Mac :=
  (⟨true, 0, 0, ([] ++ x0)⟩ : Mac)
theorem s_TableMac_lk (x0 : List MacRow) : evalFn te (orcOf (P := Try.prog) []) lorc0 [] Try.f105 (pvs [.sc (.sl .macRow)] (x0, ())) =
  s_TableMac_N x0 _ none (fun v => some [(true, [RC.c (.bool v.use), RC.c (.int .u64 v.k), RC.c (.int .u64 v.l), RC.own true .macRow v.rows])]) := by kernel_rfl
theorem s_TableMac_p (x0 : List MacRow) (hx0 : x0.length ≤ 140737488355328) (hx0_e : ∀ y ∈ x0, ∀ c ∈ Ty.cells .macRow y, FactC c) (hp : x0.length ≤ 4294967296) (γ : Type) (fail : γ) (k : Mac → γ) : s_TableMac_N x0 γ fail k = k (s_TableMac x0) := by
  unfold s_TableMac_N s_TableMac
  exact bifG (by (try simp only [Nat.ble_eq, Bool.and_eq_true, decide_eq_true_eq]); grind [maxSl, maxStr, toBytes_length, toInts_length, List.length_set, wrap64]) (rfl)
theorem s_TableMac_c (x0 : List MacRow) (hp : x0.length ≤ 4294967296) : Con Try.prog 105 (pvs [.sc (.sl .macRow)] (x0, ())) [rv (.st .mac) [.c, .c, .c, .o true] (s_TableMac x0)] := by
  refine Con.of_facts (enters_of Try.func105 rfl (by kernel_rfl)) fun hf => ?_
  replace hf := factAt hf
  exact evalFn_con0 teFact mixFact (orcOf_ok _) Try.func105 (by kernel_rfl) ((s_TableMac_lk x0).trans (s_TableMac_p x0 ((hf 0 0 rfl rfl).len) (fun y hy => (hf 0 0 rfl rfl).elem hy) hp _ _ _))
noncomputable def s_TableMac_e : Ent1 Try.prog := entP 105 [.sc (.sl .macRow)] (fun x => (decide (x.1.length ≤ 4294967296))) (fun x => (s_TableMac x.1)) (fun v => [rv (.st .mac) [.c, .c, .c, .o true] v]) (fun x hx => s_TableMac_c x.1 (of_decide_eq_true hx))

theorem s_TableMac_len (x0 : List MacRow) (hp : x0.length ≤ 4294967296)  : (fun v : Mac => v.rows.length ≤ x0.length) (s_TableMac x0) := by
  unfold s_TableMac
  exact (by subst_vars; simp)

/-- spec.l1Has -/
def s_l1Has_ann : List (Nat × Keep) := [(0, ⟨[0, 1, 5], [], false, 0⟩)]
def s_l1Has_L0_sh : Sh := ⟨[(0, false, [.sl .arg .str]), (1, false, [.str]), (5, false, [.int .i64])], []⟩
def s_l1Has_L0_es : List (Ex × Sh) := [(.ret, ⟨[(4, false, [.bool])], []⟩), (.exit 0, ⟨[(4, false, [.undef])], []⟩)]
def s_l1Has_L0_mk (v0 : List Bytes) (v1 : Bytes) (v2 : Int) : s_l1Has_L0_sh.T := (((v0, ()), ((v1, ()), ((v2, ()), ()))), ())
def s_l1Has_L0_mx0 (y0 : Bool) : Sh.T ⟨[(4, false, [.bool])], []⟩ := (((y0, ()), ()), ())
def s_l1Has_L0_mx1  : Sh.T ⟨[(4, false, [.undef])], []⟩ := ((((), ()), ()), ())
def s_l1Has_L0_B (v0 : List Bytes) (v1 : Bytes) (v2 : Int) (γ : Type) (fail : γ) (next : s_l1Has_L0_sh.T → γ) (out : WT s_l1Has_L0_es → γ) : γ :=
  bif (decide (v2 < (v0.length : Int))) then
    bif ((decide (0 ≤ v2)) && (decide (v2 < (v0.length : Int)))) then
    bif ((v0.getD v2.toNat []) == v1) then
      out (Sum.inl (s_l1Has_L0_mx0 true))
    else
    next (s_l1Has_L0_mk v0 v1 (IntKind.wrap .i64 (v2 + 1)))
    else fail
  else
  out (Sum.inr (s_l1Has_L0_mx1 ))
theorem s_l1Has_L0_par (v0 : List Bytes) (v1 : Bytes) (v2 : Int) (γ : Type) (fail : γ) (next : s_l1Has_L0_sh.T → γ) (out : WT s_l1Has_L0_es → γ) : s_l1Has_L0_B v0 v1 v2 γ fail next out = optK (s_l1Has_L0_B v0 v1 v2 _ none (fun v' => some (.inl v')) (fun w => some (.inr w))) fail (fun r => Sum.elim next out r) := by
  unfold s_l1Has_L0_B
  exact bifT (f := (fun o => optK o fail (fun r => Sum.elim next out r))) (fun _ => bifT (f := (fun o => optK o fail (fun r => Sum.elim next out r))) (fun _ => bifT (f := (fun o => optK o fail (fun r => Sum.elim next out r))) (fun _ => rfl)
      (fun _ => rfl)) (fun _ => rfl))
      (fun _ => rfl)
def s_l1Has_L0_r : Round s_l1Has_L0_sh.T (WT s_l1Has_L0_es) where
  B v γ fail next out := s_l1Has_L0_B v.1.1.1 v.1.2.1.1 v.1.2.2.1.1 γ fail next out
  par v γ fail next out := s_l1Has_L0_par v.1.1.1 v.1.2.1.1 v.1.2.2.1.1 γ fail next out
def s_l1Has_L0_fu (v0 : List Bytes) (v1 : Bytes) (v2 : Int) : Nat := (Int.toNat ((v0.length : Int) - v2)) + 1
theorem s_l1Has_L0_lk (v : s_l1Has_L0_sh.T) (next : St → Option Res) (k : Ex → St → Option Res) : evalK te (orcOf (P := Try.prog) []) (lorcOf []) Try.f108.ntmps s_l1Has_ann (nthLoop (bodyOf Try.f108) 0 0) 0 (s_l1Has_L0_sh.enc v) (endK ⟨[0, 1, 5], [], false, 0⟩ ⟨[4], [], false, 0⟩ next k) =
  s_l1Has_L0_r.B v _ none (fun v' => next (s_l1Has_L0_sh.enc v')) (fun w => outK s_l1Has_L0_es k w) := by kernel_rfl
def s_l1Has_L0_le : LE := leOf 0 s_l1Has_L0_sh s_l1Has_L0_es s_l1Has_L0_r.step (fun v => s_l1Has_L0_fu v.1.1.1 v.1.2.1.1 v.1.2.2.1.1)
theorem s_l1Has_L0_ls (w0 : World) (mo : Mts) (I0 : Nat → Prop) (hmo : mo.length = 0) : LSem Try.prog (Sim w0 mo Try.f108.ntmps I0) (fun b s k => match Nat.beq 0 b with | true => s_l1Has_L0_le.run s k | false => none) 0 (nthLoop (bodyOf Try.f108) 0 0) :=
  le_sem hmo (lorc := lorcOf []) (ann := s_l1Has_ann) (keep := ⟨[0, 1, 5], [], false, 0⟩) (kout := ⟨[4], [], false, 0⟩) teFact mixFact (orcOf_ok _) (by kernel_rfl) (allLoops_of (bs := []) (by kernel_rfl) trivial) s_l1Has_L0_r _ s_l1Has_L0_lk
def s_l1Has_L0_f (v0 : List Bytes) (v1 : Bytes) (v2 : Int) (a : Unit) : Stp (Unit) ((Unit)) :=
  bif ((v0.getD v2.toNat []) == v1) then
    .out (())
  else
  .next ()
theorem s_l1Has_L0_st (v0 : List Bytes) (v1 : Bytes) (v2 : Int) (hlo : 0 ≤ v2) (hhi : v2 < (v0.length : Int)) (hN : (v0.length : Int) ≤ 4611686018427387904) : s_l1Has_L0_r.step (s_l1Has_L0_mk v0 v1 v2) = Stp.elim (fun a' : Unit => some (Sum.inl (s_l1Has_L0_mk v0 v1 (v2 + 1)))) (fun w => some (Sum.inr ((fun p : Unit => Sum.inl (s_l1Has_L0_mx0 true)) w))) (s_l1Has_L0_f v0 v1 v2 ()) := by
  have hw : (IntKind.wrap .i64 (v2 + 1)) = v2 + 1 := wrap64 (by omega) (by omega)
  show s_l1Has_L0_B v0 v1 v2 (Option (s_l1Has_L0_sh.T ⊕ WT s_l1Has_L0_es)) none (fun v' => some (Sum.inl v')) (fun w => some (Sum.inr w)) = _
  unfold s_l1Has_L0_B s_l1Has_L0_f
  exact bifG (by simp only [decide_eq_true_eq]; omega) (bifG (by (try simp only [Nat.ble_eq, Bool.and_eq_true, decide_eq_true_eq]); grind [maxSl, maxStr, toBytes_length, toInts_length, List.length_set, wrap64]) (bifT (f := (Stp.elim (fun a' : Unit => some (Sum.inl (s_l1Has_L0_mk v0 v1 (v2 + 1)))) (fun w => some (Sum.inr ((fun p : Unit => Sum.inl (s_l1Has_L0_mx0 true)) w))))) (fun b0 => rfl)
      (fun b0 => (by exact congrArg (fun z => some (Sum.inl (s_l1Has_L0_mk v0 v1 z))) hw))))
theorem s_l1Has_L0_cl (v0 : List Bytes) (v1 : Bytes) (v2 : Int) (h0 : 0 ≤ v2) (h1 : (v0.length : Int) ≤ 4611686018427387904) : loopF s_l1Has_L0_r.step (s_l1Has_L0_fu v0 v1 v2) (s_l1Has_L0_mk v0 v1 v2) = some (Stp.elim (fun a => (fun i a => Sum.inr (s_l1Has_L0_mx1 )) (v2 + 1 * (((Int.toNat ((v0.length : Int) - v2)) : Nat) : Int)) a) (fun p : Unit => Sum.inl (s_l1Has_L0_mx0 true)) (forN (s_l1Has_L0_f v0 v1) 1 (Int.toNat ((v0.length : Int) - v2)) v2 ())) :=
  forN_loop (step := s_l1Has_L0_r.step) (mk := fun v2 a => s_l1Has_L0_mk v0 v1 v2) (f := s_l1Has_L0_f v0 v1) (e := (fun i a => Sum.inr (s_l1Has_L0_mx1 ))) (emb := (fun p : Unit => Sum.inl (s_l1Has_L0_mx0 true))) (st := 1) (Inv := fun v2 a => True) (Int.toNat ((v0.length : Int) - v2)) v2 () _ (Nat.lt_succ_self _) trivial
    (fun j a hj hv => ⟨s_l1Has_L0_st v0 v1 (v2 + 1 * (j : Int)) (by omega) (by omega) (by omega), fun _ _ => trivial⟩)
    (fun a hv => by
      show s_l1Has_L0_B v0 v1 (v2 + 1 * (((Int.toNat ((v0.length : Int) - v2)) : Nat) : Int)) (Option (s_l1Has_L0_sh.T ⊕ WT s_l1Has_L0_es)) none (fun v' => some (Sum.inl v')) (fun w => some (Sum.inr w)) = _
      unfold s_l1Has_L0_B
      exact bifN (by simp only [decide_eq_false_iff_not]; omega) rfl)
def s_l1Has_N (x0 : List Bytes) (x1 : Bytes) (γ : Type) (fail : γ) (k : Bool → γ) : γ :=
  optK (loopF s_l1Has_L0_r.step (s_l1Has_L0_fu x0 x1 0) (s_l1Has_L0_mk x0 x1 0)) fail fun w1 =>
    Sum.elim (fun w1 =>
      k w1.1.1.1)
    (fun w1 =>
      k false) w1
def s_l1Has (x0 : List Bytes) (x1 : Bytes) : Bool :=
  Stp.elim (fun a2 =>
    false)
    (fun p2 =>
      true)
    (forN (s_l1Has_L0_f x0 x1) 1 (Int.toNat ((x0.length : Int) - 0)) 0 ())
theorem s_l1Has_lk (x0 : List Bytes) (x1 : Bytes) : evalFn te (orcOf (P := Try.prog) []) (lorcOf [s_l1Has_L0_le]) s_l1Has_ann Try.f108 (pvs [.sc (.sl .str), .sc .str] (x0, x1, ())) =
  s_l1Has_N x0 x1 _ none (fun v => some [(false, [RC.c (.bool v)])]) := by kernel_rfl
theorem s_l1Has_p (x0 : List Bytes) (x1 : Bytes) (hx0 : x0.length ≤ 140737488355328) (hx0_e : ∀ y ∈ x0, List.length y ≤ 4611686018427387904) (hx1 : List.length x1 ≤ 4611686018427387904)  (γ : Type) (fail : γ) (k : Bool → γ) : s_l1Has_N x0 x1 γ fail k = k (s_l1Has x0 x1) := by
  unfold s_l1Has_N s_l1Has
  exact loopT (f := k) (s_l1Has_L0_cl x0 x1 0 (by (try simp only [Nat.ble_eq, Bool.and_eq_true, decide_eq_true_eq, s_l1Has_L0_mx0, s_l1Has_L0_mx1]); grind [maxSl, maxStr, toBytes_length, toInts_length, List.length_set, wrap64]) (by (try simp only [Nat.ble_eq, Bool.and_eq_true, decide_eq_true_eq, s_l1Has_L0_mx0, s_l1Has_L0_mx1]); grind [maxSl, maxStr, toBytes_length, toInts_length, List.length_set, wrap64])) (fun a2 => rfl)
      (fun p2 => rfl)
theorem s_l1Has_c (x0 : List Bytes) (x1 : Bytes)  : Con Try.prog 108 (pvs [.sc (.sl .str), .sc .str] (x0, x1, ())) [rv (.sc .bool) [] (s_l1Has x0 x1)] := by
  refine Con.of_facts (enters_of Try.func108 rfl (by kernel_rfl)) fun hf => ?_
  replace hf := factAt hf
  exact evalFn_conL teFact mixFact (orcOf_ok _) Try.func108 (by kernel_rfl) (bs := [0]) (by kernel_rfl) (by kernel_rfl) (fun w0 mo I0 hmo => ⟨lsem_of_lorc (s_l1Has_L0_ls w0 mo I0 hmo) (by kernel_rfl), trivial⟩) ((s_l1Has_lk x0 x1).trans (s_l1Has_p x0 x1 ((hf 0 0 rfl rfl).len) (fun y hy => ((hf 0 0 rfl rfl).elem hy (.str y) List.mem_cons_self).slen) ((hf 1 0 rfl rfl).slen) _ _ _))
noncomputable def s_l1Has_e : Ent1 Try.prog := entA 108 [.sc (.sl .str), .sc .str] (fun x => (s_l1Has x.1 x.2.1)) (fun v => [rv (.sc .bool) [] v]) (fun x => s_l1Has_c x.1 x.2.1)


/-- spec.MacOk -/
def s_MacOk_ann : List (Nat × Keep) := [(2, ⟨[1, 3, 4], [], false, 0⟩), (0, ⟨[1, 3], [], false, 0⟩)]
def s_MacOk_L0_0_sh : Sh := ⟨[(1, false, [.ptr 0 0]), (3, false, [.int .i64]), (4, false, [.int .i64])], [.box [.bool, .int .u64, .int .u64, .sl .arg .macRow]]⟩
def s_MacOk_L0_0_es : List (Ex × Sh) := [(.ret, ⟨[(1, false, [.ptr 0 0]), (2, false, [.bool]), (3, false, [.int .i64])], [.box [.bool, .int .u64, .int .u64, .sl .arg .macRow]]⟩), (.exit 2, ⟨[(1, false, [.ptr 0 0]), (2, false, [.undef]), (3, false, [.int .i64])], [.box [.bool, .int .u64, .int .u64, .sl .arg .macRow]]⟩)]
def s_MacOk_L0_0_mk (vb0 : Int) (vb1 : Int) (vb2 : Bool) (vb3 : Int) (vb4 : Int) (vb5 : List MacRow) : s_MacOk_L0_0_sh.T := ((((), ()), ((vb0, ()), ((vb1, ()), ()))), ((vb2, (vb3, (vb4, (vb5, ())))), ()))
def s_MacOk_L0_0_mx0 (y0 : Bool) (y1 : Int) (y2 : Bool) (y3 : Int) (y4 : Int) (y5 : List MacRow) : Sh.T ⟨[(1, false, [.ptr 0 0]), (2, false, [.bool]), (3, false, [.int .i64])], [.box [.bool, .int .u64, .int .u64, .sl .arg .macRow]]⟩ := ((((), ()), ((y0, ()), ((y1, ()), ()))), ((y2, (y3, (y4, (y5, ())))), ()))
def s_MacOk_L0_0_mx1 (y0 : Int) (y1 : Bool) (y2 : Int) (y3 : Int) (y4 : List MacRow) : Sh.T ⟨[(1, false, [.ptr 0 0]), (2, false, [.undef]), (3, false, [.int .i64])], [.box [.bool, .int .u64, .int .u64, .sl .arg .macRow]]⟩ := ((((), ()), (((), ()), ((y0, ()), ()))), ((y1, (y2, (y3, (y4, ())))), ()))
def s_MacOk_L0_0_B (vb0 : Int) (vb1 : Int) (vb2 : Bool) (vb3 : Int) (vb4 : Int) (vb5 : List MacRow) (γ : Type) (fail : γ) (next : s_MacOk_L0_0_sh.T → γ) (out : WT s_MacOk_L0_0_es → γ) : γ :=
  bif (decide (vb1 < vb0)) then
    bif ((decide (0 ≤ vb1)) && (decide (vb1 < (vb5.length : Int)))) then
    bif ((decide (0 ≤ vb0)) && (decide (vb0 < (vb5.length : Int)))) then
    bif ((vb5.getD vb1.toNat (Ty.zero .macRow)).input == (vb5.getD vb0.toNat (Ty.zero .macRow)).input) then
      out (Sum.inl (s_MacOk_L0_0_mx0 false vb0 vb2 vb3 vb4 vb5))
    else
    next (s_MacOk_L0_0_mk vb0 (IntKind.wrap .i64 (vb1 + 1)) vb2 vb3 vb4 vb5)
    else fail
    else fail
  else
  out (Sum.inr (s_MacOk_L0_0_mx1 vb0 vb2 vb3 vb4 vb5))
theorem s_MacOk_L0_0_par (vb0 : Int) (vb1 : Int) (vb2 : Bool) (vb3 : Int) (vb4 : Int) (vb5 : List MacRow) (γ : Type) (fail : γ) (next : s_MacOk_L0_0_sh.T → γ) (out : WT s_MacOk_L0_0_es → γ) : s_MacOk_L0_0_B vb0 vb1 vb2 vb3 vb4 vb5 γ fail next out = optK (s_MacOk_L0_0_B vb0 vb1 vb2 vb3 vb4 vb5 _ none (fun v' => some (.inl v')) (fun w => some (.inr w))) fail (fun r => Sum.elim next out r) := by
  unfold s_MacOk_L0_0_B
  exact bifT (f := (fun o => optK o fail (fun r => Sum.elim next out r))) (fun _ => bifT (f := (fun o => optK o fail (fun r => Sum.elim next out r))) (fun _ => bifT (f := (fun o => optK o fail (fun r => Sum.elim next out r))) (fun _ => bifT (f := (fun o => optK o fail (fun r => Sum.elim next out r))) (fun _ => rfl)
      (fun _ => rfl)) (fun _ => rfl)) (fun _ => rfl))
      (fun _ => rfl)
def s_MacOk_L0_0_r : Round s_MacOk_L0_0_sh.T (WT s_MacOk_L0_0_es) where
  B v γ fail next out := s_MacOk_L0_0_B v.1.2.1.1 v.1.2.2.1.1 v.2.1.1 v.2.1.2.1 v.2.1.2.2.1 v.2.1.2.2.2.1 γ fail next out
  par v γ fail next out := s_MacOk_L0_0_par v.1.2.1.1 v.1.2.2.1.1 v.2.1.1 v.2.1.2.1 v.2.1.2.2.1 v.2.1.2.2.2.1 γ fail next out
def s_MacOk_L0_0_fu (vb0 : Int) (vb1 : Int) (vb2 : Bool) (vb3 : Int) (vb4 : Int) (vb5 : List MacRow) : Nat := (Int.toNat (vb0 - vb1)) + 1
theorem s_MacOk_L0_0_lk (v : s_MacOk_L0_0_sh.T) (next : St → Option Res) (k : Ex → St → Option Res) : evalK te (orcOf (P := Try.prog) [s_l1In_e]) (lorcOf []) Try.f154.ntmps s_MacOk_ann (nthLoop (nthLoop (bodyOf Try.f154) 0 0) 0 0) 2 (s_MacOk_L0_0_sh.enc v) (endK ⟨[1, 3, 4], [], false, 0⟩ ⟨[1, 2, 3], [], false, 0⟩ next k) =
  s_MacOk_L0_0_r.B v _ none (fun v' => next (s_MacOk_L0_0_sh.enc v')) (fun w => outK s_MacOk_L0_0_es k w) := by kernel_rfl
def s_MacOk_L0_0_le : LE := leOf 2 s_MacOk_L0_0_sh s_MacOk_L0_0_es s_MacOk_L0_0_r.step (fun v => s_MacOk_L0_0_fu v.1.2.1.1 v.1.2.2.1.1 v.2.1.1 v.2.1.2.1 v.2.1.2.2.1 v.2.1.2.2.2.1)
theorem s_MacOk_L0_0_ls (w0 : World) (mo : Mts) (I0 : Nat → Prop) (hmo : mo.length = 0) : LSem Try.prog (Sim w0 mo Try.f154.ntmps I0) (fun b s k => match Nat.beq 2 b with | true => s_MacOk_L0_0_le.run s k | false => none) 2 (nthLoop (nthLoop (bodyOf Try.f154) 0 0) 0 0) :=
  le_sem hmo (lorc := lorcOf []) (ann := s_MacOk_ann) (keep := ⟨[1, 3, 4], [], false, 0⟩) (kout := ⟨[1, 2, 3], [], false, 0⟩) teFact mixFact (orcOf_ok _) (by kernel_rfl) (allLoops_of (bs := []) (by kernel_rfl) trivial) s_MacOk_L0_0_r _ s_MacOk_L0_0_lk
def s_MacOk_L0_0_f (vb0 : Int) (vb2 : Bool) (vb3 : Int) (vb4 : Int) (vb5 : List MacRow) (vb1 : Int) (a : Unit) : Stp (Unit) ((Unit)) :=
  bif ((vb5.getD vb1.toNat (Ty.zero .macRow)).input == (vb5.getD vb0.toNat (Ty.zero .macRow)).input) then
    .out (())
  else
  .next ()
theorem s_MacOk_L0_0_st (vb0 : Int) (vb1 : Int) (vb2 : Bool) (vb3 : Int) (vb4 : Int) (vb5 : List MacRow) (hlo : 0 ≤ vb1) (hhi : vb1 < vb0) (hN : vb0 ≤ 4611686018427387904) (hi0 : vb0 ≤ (vb5.length : Int)) (hi1 : 0 ≤ vb0) (hi2 : vb0 < (vb5.length : Int)) : s_MacOk_L0_0_r.step (s_MacOk_L0_0_mk vb0 vb1 vb2 vb3 vb4 vb5) = Stp.elim (fun a' : Unit => some (Sum.inl (s_MacOk_L0_0_mk vb0 (vb1 + 1) vb2 vb3 vb4 vb5))) (fun w => some (Sum.inr ((fun p : Unit => Sum.inl (s_MacOk_L0_0_mx0 false vb0 vb2 vb3 vb4 vb5)) w))) (s_MacOk_L0_0_f vb0 vb2 vb3 vb4 vb5 vb1 ()) := by
  have hw : (IntKind.wrap .i64 (vb1 + 1)) = vb1 + 1 := wrap64 (by omega) (by omega)
  show s_MacOk_L0_0_B vb0 vb1 vb2 vb3 vb4 vb5 (Option (s_MacOk_L0_0_sh.T ⊕ WT s_MacOk_L0_0_es)) none (fun v' => some (Sum.inl v')) (fun w => some (Sum.inr w)) = _
  unfold s_MacOk_L0_0_B s_MacOk_L0_0_f
  exact bifG (by simp only [decide_eq_true_eq]; omega) (bifG (by (try simp only [Nat.ble_eq, Bool.and_eq_true, decide_eq_true_eq]); grind [maxSl, maxStr, toBytes_length, toInts_length, List.length_set, wrap64]) (bifG (by (try simp only [Nat.ble_eq, Bool.and_eq_true, decide_eq_true_eq]); grind [maxSl, maxStr, toBytes_length, toInts_length, List.length_set, wrap64]) (bifT (f := (Stp.elim (fun a' : Unit => some (Sum.inl (s_MacOk_L0_0_mk vb0 (vb1 + 1) vb2 vb3 vb4 vb5))) (fun w => some (Sum.inr ((fun p : Unit => Sum.inl (s_MacOk_L0_0_mx0 false vb0 vb2 vb3 vb4 vb5)) w))))) (fun b0 => rfl)
      (fun b0 => (by exact congrArg (fun z => some (Sum.inl (s_MacOk_L0_0_mk vb0 z vb2 vb3 vb4 vb5))) hw)))))
theorem s_MacOk_L0_0_cl (vb0 : Int) (vb1 : Int) (vb2 : Bool) (vb3 : Int) (vb4 : Int) (vb5 : List MacRow) (h0 : 0 ≤ vb1) (h1 : vb0 ≤ 4611686018427387904) (h2 : vb0 ≤ (vb5.length : Int)) (h3 : 0 ≤ vb0) (h4 : vb0 < (vb5.length : Int)) : loopF s_MacOk_L0_0_r.step (s_MacOk_L0_0_fu vb0 vb1 vb2 vb3 vb4 vb5) (s_MacOk_L0_0_mk vb0 vb1 vb2 vb3 vb4 vb5) = some (Stp.elim (fun a => (fun i a => Sum.inr (s_MacOk_L0_0_mx1 vb0 vb2 vb3 vb4 vb5)) (vb1 + 1 * (((Int.toNat (vb0 - vb1)) : Nat) : Int)) a) (fun p : Unit => Sum.inl (s_MacOk_L0_0_mx0 false vb0 vb2 vb3 vb4 vb5)) (forN (s_MacOk_L0_0_f vb0 vb2 vb3 vb4 vb5) 1 (Int.toNat (vb0 - vb1)) vb1 ())) :=
  forN_loop (step := s_MacOk_L0_0_r.step) (mk := fun vb1 a => s_MacOk_L0_0_mk vb0 vb1 vb2 vb3 vb4 vb5) (f := s_MacOk_L0_0_f vb0 vb2 vb3 vb4 vb5) (e := (fun i a => Sum.inr (s_MacOk_L0_0_mx1 vb0 vb2 vb3 vb4 vb5))) (emb := (fun p : Unit => Sum.inl (s_MacOk_L0_0_mx0 false vb0 vb2 vb3 vb4 vb5))) (st := 1) (Inv := fun vb1 a => True) (Int.toNat (vb0 - vb1)) vb1 () _ (Nat.lt_succ_self _) trivial
    (fun j a hj hv => ⟨s_MacOk_L0_0_st vb0 (vb1 + 1 * (j : Int)) vb2 vb3 vb4 vb5 (by omega) (by omega) (by omega) h2 h3 h4, fun _ _ => trivial⟩)
    (fun a hv => by
      show s_MacOk_L0_0_B vb0 (vb1 + 1 * (((Int.toNat (vb0 - vb1)) : Nat) : Int)) vb2 vb3 vb4 vb5 (Option (s_MacOk_L0_0_sh.T ⊕ WT s_MacOk_L0_0_es)) none (fun v' => some (Sum.inl v')) (fun w => some (Sum.inr w)) = _
      unfold s_MacOk_L0_0_B
      exact bifN (by simp only [decide_eq_false_iff_not]; omega) rfl)
def s_MacOk_L0_sh : Sh := ⟨[(1, false, [.ptr 0 0]), (3, false, [.int .i64])], [.box [.bool, .int .u64, .int .u64, .sl .arg .macRow]]⟩
def s_MacOk_L0_es : List (Ex × Sh) := [(.ret, ⟨[(1, false, [.ptr 0 0]), (2, false, [.bool])], [.box [.bool, .int .u64, .int .u64, .sl .arg .macRow]]⟩), (.exit 0, ⟨[(1, false, [.ptr 0 0]), (2, false, [.undef])], [.box [.bool, .int .u64, .int .u64, .sl .arg .macRow]]⟩)]
def s_MacOk_L0_mk (v0 : Int) (v1 : Bool) (v2 : Int) (v3 : Int) (v4 : List MacRow) : s_MacOk_L0_sh.T := ((((), ()), ((v0, ()), ())), ((v1, (v2, (v3, (v4, ())))), ()))
def s_MacOk_L0_mx0 (y0 : Bool) (y1 : Bool) (y2 : Int) (y3 : Int) (y4 : List MacRow) : Sh.T ⟨[(1, false, [.ptr 0 0]), (2, false, [.bool])], [.box [.bool, .int .u64, .int .u64, .sl .arg .macRow]]⟩ := ((((), ()), ((y0, ()), ())), ((y1, (y2, (y3, (y4, ())))), ()))
def s_MacOk_L0_mx1 (y0 : Bool) (y1 : Int) (y2 : Int) (y3 : List MacRow) : Sh.T ⟨[(1, false, [.ptr 0 0]), (2, false, [.undef])], [.box [.bool, .int .u64, .int .u64, .sl .arg .macRow]]⟩ := ((((), ()), (((), ()), ())), ((y0, (y1, (y2, (y3, ())))), ()))
def s_MacOk_L0_B (v0 : Int) (v1 : Bool) (v2 : Int) (v3 : Int) (v4 : List MacRow) (γ : Type) (fail : γ) (next : s_MacOk_L0_sh.T → γ) (out : WT s_MacOk_L0_es → γ) : γ :=
  bif (decide (v0 < (v4.length : Int))) then
    bif ((decide (0 ≤ v0)) && (decide (v0 < (v4.length : Int)))) then
    letK (α := Bool) (s_l1In ((v4.getD v0.toNat (Ty.zero .macRow)).value) 0 16777215) fun c1 =>
    bif (!c1) then
      out (Sum.inl (s_MacOk_L0_mx0 false v1 v2 v3 v4))
    else
    optK (loopF s_MacOk_L0_0_r.step (s_MacOk_L0_0_fu v0 0 v1 v2 v3 v4) (s_MacOk_L0_0_mk v0 0 v1 v2 v3 v4)) fail fun w2 =>
      Sum.elim (fun w2 =>
        out (Sum.inl (s_MacOk_L0_mx0 w2.1.2.1.1 w2.2.1.1 w2.2.1.2.1 w2.2.1.2.2.1 w2.2.1.2.2.2.1)))
      (fun w2 =>
        next (s_MacOk_L0_mk (IntKind.wrap .i64 (w2.1.2.2.1.1 + 1)) w2.2.1.1 w2.2.1.2.1 w2.2.1.2.2.1 w2.2.1.2.2.2.1)) w2
    else fail
  else
  out (Sum.inr (s_MacOk_L0_mx1 v1 v2 v3 v4))
theorem s_MacOk_L0_par (v0 : Int) (v1 : Bool) (v2 : Int) (v3 : Int) (v4 : List MacRow) (γ : Type) (fail : γ) (next : s_MacOk_L0_sh.T → γ) (out : WT s_MacOk_L0_es → γ) : s_MacOk_L0_B v0 v1 v2 v3 v4 γ fail next out = optK (s_MacOk_L0_B v0 v1 v2 v3 v4 _ none (fun v' => some (.inl v')) (fun w => some (.inr w))) fail (fun r => Sum.elim next out r) := by
  unfold s_MacOk_L0_B
  exact bifT (f := (fun o => optK o fail (fun r => Sum.elim next out r))) (fun _ => bifT (f := (fun o => optK o fail (fun r => Sum.elim next out r))) (fun _ => letT (f := (fun o => optK o fail (fun r => Sum.elim next out r))) (fun c1 _ => bifT (f := (fun o => optK o fail (fun r => Sum.elim next out r))) (fun _ => rfl)
      (fun _ => optT (f := (fun o => optK o fail (fun r => Sum.elim next out r))) rfl (fun w2 => sumT (f := (fun o => optK o fail (fun r => Sum.elim next out r))) (fun w2 => rfl) (fun w2 => rfl))))) (fun _ => rfl))
      (fun _ => rfl)
def s_MacOk_L0_r : Round s_MacOk_L0_sh.T (WT s_MacOk_L0_es) where
  B v γ fail next out := s_MacOk_L0_B v.1.2.1.1 v.2.1.1 v.2.1.2.1 v.2.1.2.2.1 v.2.1.2.2.2.1 γ fail next out
  par v γ fail next out := s_MacOk_L0_par v.1.2.1.1 v.2.1.1 v.2.1.2.1 v.2.1.2.2.1 v.2.1.2.2.2.1 γ fail next out
def s_MacOk_L0_fu (v0 : Int) (v1 : Bool) (v2 : Int) (v3 : Int) (v4 : List MacRow) : Nat := (Int.toNat ((v4.length : Int) - v0)) + 1
theorem s_MacOk_L0_lk (v : s_MacOk_L0_sh.T) (next : St → Option Res) (k : Ex → St → Option Res) : evalK te (orcOf (P := Try.prog) [s_l1In_e]) (lorcOf [s_MacOk_L0_0_le]) Try.f154.ntmps s_MacOk_ann (nthLoop (bodyOf Try.f154) 0 0) 0 (s_MacOk_L0_sh.enc v) (endK ⟨[1, 3], [], false, 0⟩ ⟨[1, 2], [], false, 0⟩ next k) =
  s_MacOk_L0_r.B v _ none (fun v' => next (s_MacOk_L0_sh.enc v')) (fun w => outK s_MacOk_L0_es k w) := by kernel_rfl
def s_MacOk_L0_le : LE := leOf 0 s_MacOk_L0_sh s_MacOk_L0_es s_MacOk_L0_r.step (fun v => s_MacOk_L0_fu v.1.2.1.1 v.2.1.1 v.2.1.2.1 v.2.1.2.2.1 v.2.1.2.2.2.1)
theorem s_MacOk_L0_ls (w0 : World) (mo : Mts) (I0 : Nat → Prop) (hmo : mo.length = 0) : LSem Try.prog (Sim w0 mo Try.f154.ntmps I0) (fun b s k => match Nat.beq 0 b with | true => s_MacOk_L0_le.run s k | false => none) 0 (nthLoop (bodyOf Try.f154) 0 0) :=
  le_sem hmo (lorc := lorcOf [s_MacOk_L0_0_le]) (ann := s_MacOk_ann) (keep := ⟨[1, 3], [], false, 0⟩) (kout := ⟨[1, 2], [], false, 0⟩) teFact mixFact (orcOf_ok _) (by kernel_rfl) (allLoops_of (bs := [2]) (by kernel_rfl) ⟨lsem_of_lorc (s_MacOk_L0_0_ls w0 mo I0 hmo) (by kernel_rfl), trivial⟩) s_MacOk_L0_r _ s_MacOk_L0_lk
def s_MacOk_L0_f (v1 : Bool) (v2 : Int) (v3 : Int) (v4 : List MacRow) (v0 : Int) (a : Unit) : Stp (Unit) ((Unit)) :=
  letK (α := Bool) (s_l1In ((v4.getD v0.toNat (Ty.zero .macRow)).value) 0 16777215) fun c1 =>
  bif (!c1) then
    .out (())
  else
  Stp.elim (fun a3 =>
    .next ())
    (fun p3 =>
      .out (()))
    (forN (s_MacOk_L0_0_f v0 v1 v2 v3 v4) 1 (Int.toNat (v0 - 0)) 0 ())
theorem s_MacOk_L0_st (v0 : Int) (v1 : Bool) (v2 : Int) (v3 : Int) (v4 : List MacRow) (hlo : 0 ≤ v0) (hhi : v0 < (v4.length : Int)) (hN : (v4.length : Int) ≤ 4611686018427387904) : s_MacOk_L0_r.step (s_MacOk_L0_mk v0 v1 v2 v3 v4) = Stp.elim (fun a' : Unit => some (Sum.inl (s_MacOk_L0_mk (v0 + 1) v1 v2 v3 v4))) (fun w => some (Sum.inr ((fun p : Unit => Sum.inl (s_MacOk_L0_mx0 false v1 v2 v3 v4)) w))) (s_MacOk_L0_f v1 v2 v3 v4 v0 ()) := by
  have hw : (IntKind.wrap .i64 (v0 + 1)) = v0 + 1 := wrap64 (by omega) (by omega)
  show s_MacOk_L0_B v0 v1 v2 v3 v4 (Option (s_MacOk_L0_sh.T ⊕ WT s_MacOk_L0_es)) none (fun v' => some (Sum.inl v')) (fun w => some (Sum.inr w)) = _
  unfold s_MacOk_L0_B s_MacOk_L0_f
  exact bifG (by simp only [decide_eq_true_eq]; omega) (bifG (by (try simp only [Nat.ble_eq, Bool.and_eq_true, decide_eq_true_eq, s_MacOk_L0_0_mx0, s_MacOk_L0_0_mx1]); grind [maxSl, maxStr, toBytes_length, toInts_length, List.length_set, wrap64]) (letT (f := (Stp.elim (fun a' : Unit => some (Sum.inl (s_MacOk_L0_mk (v0 + 1) v1 v2 v3 v4))) (fun w => some (Sum.inr ((fun p : Unit => Sum.inl (s_MacOk_L0_mx0 false v1 v2 v3 v4)) w))))) (fun c1 hc1 => bifT (f := (Stp.elim (fun a' : Unit => some (Sum.inl (s_MacOk_L0_mk (v0 + 1) v1 v2 v3 v4))) (fun w => some (Sum.inr ((fun p : Unit => Sum.inl (s_MacOk_L0_mx0 false v1 v2 v3 v4)) w))))) (fun b0 => rfl)
      (fun b0 => loopT (f := (Stp.elim (fun a' : Unit => some (Sum.inl (s_MacOk_L0_mk (v0 + 1) v1 v2 v3 v4))) (fun w => some (Sum.inr ((fun p : Unit => Sum.inl (s_MacOk_L0_mx0 false v1 v2 v3 v4)) w))))) (s_MacOk_L0_0_cl v0 0 v1 v2 v3 v4 (by (try simp only [Nat.ble_eq, Bool.and_eq_true, decide_eq_true_eq, s_MacOk_L0_0_mx0, s_MacOk_L0_0_mx1]); grind [maxSl, maxStr, toBytes_length, toInts_length, List.length_set, wrap64]) (by (try simp only [Nat.ble_eq, Bool.and_eq_true, decide_eq_true_eq, s_MacOk_L0_0_mx0, s_MacOk_L0_0_mx1]); grind [maxSl, maxStr, toBytes_length, toInts_length, List.length_set, wrap64]) (by (try simp only [Nat.ble_eq, Bool.and_eq_true, decide_eq_true_eq, s_MacOk_L0_0_mx0, s_MacOk_L0_0_mx1]); grind [maxSl, maxStr, toBytes_length, toInts_length, List.length_set, wrap64]) (by (try simp only [Nat.ble_eq, Bool.and_eq_true, decide_eq_true_eq, s_MacOk_L0_0_mx0, s_MacOk_L0_0_mx1]); grind [maxSl, maxStr, toBytes_length, toInts_length, List.length_set, wrap64]) (by (try simp only [Nat.ble_eq, Bool.and_eq_true, decide_eq_true_eq, s_MacOk_L0_0_mx0, s_MacOk_L0_0_mx1]); grind [maxSl, maxStr, toBytes_length, toInts_length, List.length_set, wrap64])) (fun a3 => (by exact congrArg (fun z => some (Sum.inl (s_MacOk_L0_mk z v1 v2 v3 v4))) hw))
      (fun p3 => rfl)))))
theorem s_MacOk_L0_cl (v0 : Int) (v1 : Bool) (v2 : Int) (v3 : Int) (v4 : List MacRow) (h0 : 0 ≤ v0) (h1 : (v4.length : Int) ≤ 4611686018427387904) : loopF s_MacOk_L0_r.step (s_MacOk_L0_fu v0 v1 v2 v3 v4) (s_MacOk_L0_mk v0 v1 v2 v3 v4) = some (Stp.elim (fun a => (fun i a => Sum.inr (s_MacOk_L0_mx1 v1 v2 v3 v4)) (v0 + 1 * (((Int.toNat ((v4.length : Int) - v0)) : Nat) : Int)) a) (fun p : Unit => Sum.inl (s_MacOk_L0_mx0 false v1 v2 v3 v4)) (forN (s_MacOk_L0_f v1 v2 v3 v4) 1 (Int.toNat ((v4.length : Int) - v0)) v0 ())) :=
  forN_loop (step := s_MacOk_L0_r.step) (mk := fun v0 a => s_MacOk_L0_mk v0 v1 v2 v3 v4) (f := s_MacOk_L0_f v1 v2 v3 v4) (e := (fun i a => Sum.inr (s_MacOk_L0_mx1 v1 v2 v3 v4))) (emb := (fun p : Unit => Sum.inl (s_MacOk_L0_mx0 false v1 v2 v3 v4))) (st := 1) (Inv := fun v0 a => True) (Int.toNat ((v4.length : Int) - v0)) v0 () _ (Nat.lt_succ_self _) trivial
    (fun j a hj hv => ⟨s_MacOk_L0_st (v0 + 1 * (j : Int)) v1 v2 v3 v4 (by omega) (by omega) (by omega), fun _ _ => trivial⟩)
    (fun a hv => by
      show s_MacOk_L0_B (v0 + 1 * (((Int.toNat ((v4.length : Int) - v0)) : Nat) : Int)) v1 v2 v3 v4 (Option (s_MacOk_L0_sh.T ⊕ WT s_MacOk_L0_es)) none (fun v' => some (Sum.inl v')) (fun w => some (Sum.inr w)) = _
      unfold s_MacOk_L0_B
      exact bifN (by simp only [decide_eq_false_iff_not]; omega) rfl)
def s_MacOk_N (x0 : Mac) (γ : Type) (fail : γ) (k : Bool → γ) : γ :=
  bif (!x0.use) then
    k ((x0.rows.length : Int) == 0)
  else
  optK (loopF s_MacOk_L0_r.step (s_MacOk_L0_fu 0 x0.use x0.k x0.l x0.rows) (s_MacOk_L0_mk 0 x0.use x0.k x0.l x0.rows)) fail fun w4 =>
    Sum.elim (fun w4 =>
      k w4.1.2.1.1)
    (fun w4 =>
      bif (w4.2.1.2.1 == 0) then
        bif (w4.2.1.2.2.1 == 0) then
          k (decide ((w4.2.1.2.2.2.1.length : Int) ≤ 64))
        else
        k false
      else
      k false) w4
def s_MacOk (x0 : Mac) : Bool :=
  bif (!x0.use) then
    ((x0.rows.length : Int) == 0)
  else
  Stp.elim (fun a5 =>
    bif (x0.k == 0) then
      bif (x0.l == 0) then
        (decide ((x0.rows.length : Int) ≤ 64))
      else
      false
    else
    false)
    (fun p5 =>
      false)
    (forN (s_MacOk_L0_f x0.use x0.k x0.l x0.rows) 1 (Int.toNat ((x0.rows.length : Int) - 0)) 0 ())
theorem s_MacOk_lk (x0 : Mac) : evalFn te (orcOf (P := Try.prog) [s_l1In_e]) (lorcOf [s_MacOk_L0_le]) s_MacOk_ann Try.f154 (pvs [.st .mac] (x0, ())) =
  s_MacOk_N x0 _ none (fun v => some [(false, [RC.c (.bool v)])]) := by kernel_rfl
theorem s_MacOk_p (x0 : Mac) (hx0_k : inK .u64 x0.k) (hx0_l : inK .u64 x0.l) (hx0_rows : x0.rows.length ≤ 140737488355328) (hx0_rows_e : ∀ y ∈ x0.rows, ∀ c ∈ Ty.cells .macRow y, FactC c)  (γ : Type) (fail : γ) (k : Bool → γ) : s_MacOk_N x0 γ fail k = k (s_MacOk x0) := by
  unfold s_MacOk_N s_MacOk
  exact bifT (f := k) (fun b0 => rfl)
      (fun b0 => loopT (f := k) (s_MacOk_L0_cl 0 x0.use x0.k x0.l x0.rows (by (try simp only [Nat.ble_eq, Bool.and_eq_true, decide_eq_true_eq, s_MacOk_L0_0_mx0, s_MacOk_L0_0_mx1, s_MacOk_L0_mx0, s_MacOk_L0_mx1]); grind [maxSl, maxStr, toBytes_length, toInts_length, List.length_set, wrap64]) (by (try simp only [Nat.ble_eq, Bool.and_eq_true, decide_eq_true_eq, s_MacOk_L0_0_mx0, s_MacOk_L0_0_mx1, s_MacOk_L0_mx0, s_MacOk_L0_mx1]); grind [maxSl, maxStr, toBytes_length, toInts_length, List.length_set, wrap64])) (fun a5 => bifT (f := k) (fun b1 => bifT (f := k) (fun b2 => rfl)
      (fun b2 => rfl))
      (fun b1 => rfl))
      (fun p5 => rfl))
theorem s_MacOk_c (x0 : Mac)  : Con Try.prog 154 (pvs [.st .mac] (x0, ())) [rv (.sc .bool) [] (s_MacOk x0)] := by
  refine Con.of_facts (enters_of Try.func154 rfl (by kernel_rfl)) fun hf => ?_
  replace hf := factAt hf
  exact evalFn_conL teFact mixFact (orcOf_ok _) Try.func154 (by kernel_rfl) (bs := [0]) (by kernel_rfl) (by kernel_rfl) (fun w0 mo I0 hmo => ⟨lsem_of_lorc (s_MacOk_L0_ls w0 mo I0 hmo) (by kernel_rfl), trivial⟩) ((s_MacOk_lk x0).trans (s_MacOk_p x0 ((hf 0 1 rfl rfl).rng) ((hf 0 2 rfl rfl).rng) ((hf 0 3 rfl rfl).len) (fun y hy => (hf 0 3 rfl rfl).elem hy) _ _ _))
noncomputable def s_MacOk_e : Ent1 Try.prog := entA 154 [.st .mac] (fun x => (s_MacOk x.1)) (fun v => [rv (.sc .bool) [] v]) (fun x => s_MacOk_c x.1)


/-- spec.SameMac -/
def s_SameMac_ann : List (Nat × Keep) := [(0, ⟨[2, 3, 5], [], false, 0⟩)]
def s_SameMac_L0_sh : Sh := ⟨[(2, false, [.ptr 0 0]), (3, false, [.ptr 1 0]), (5, false, [.int .i64])], [.box [.bool, .int .u64, .int .u64, .sl .arg .macRow], .box [.bool, .int .u64, .int .u64, .sl .arg .macRow]]⟩
def s_SameMac_L0_es : List (Ex × Sh) := [(.ret, ⟨[(4, false, [.bool])], []⟩), (.exit 0, ⟨[(4, false, [.undef])], []⟩)]
def s_SameMac_L0_mk (v0 : Int) (v1 : Bool) (v2 : Int) (v3 : Int) (v4 : List MacRow) (v5 : Bool) (v6 : Int) (v7 : Int) (v8 : List MacRow) : s_SameMac_L0_sh.T := ((((), ()), (((), ()), ((v0, ()), ()))), ((v1, (v2, (v3, (v4, ())))), ((v5, (v6, (v7, (v8, ())))), ())))
def s_SameMac_L0_mx0 (y0 : Bool) : Sh.T ⟨[(4, false, [.bool])], []⟩ := (((y0, ()), ()), ())
def s_SameMac_L0_mx1  : Sh.T ⟨[(4, false, [.undef])], []⟩ := ((((), ()), ()), ())
def s_SameMac_L0_B (v0 : Int) (v1 : Bool) (v2 : Int) (v3 : Int) (v4 : List MacRow) (v5 : Bool) (v6 : Int) (v7 : Int) (v8 : List MacRow) (γ : Type) (fail : γ) (next : s_SameMac_L0_sh.T → γ) (out : WT s_SameMac_L0_es → γ) : γ :=
  bif (decide (v0 < (v4.length : Int))) then
    bif ((decide (0 ≤ v0)) && (decide (v0 < (v4.length : Int)))) then
    bif ((decide (0 ≤ v0)) && (decide (v0 < (v8.length : Int)))) then
    bif (!(((v4.getD v0.toNat (Ty.zero .macRow)).input == (v8.getD v0.toNat (Ty.zero .macRow)).input) && (((v4.getD v0.toNat (Ty.zero .macRow)).value == (v8.getD v0.toNat (Ty.zero .macRow)).value) && true))) then
      out (Sum.inl (s_SameMac_L0_mx0 false))
    else
    next (s_SameMac_L0_mk (IntKind.wrap .i64 (v0 + 1)) v1 v2 v3 v4 v5 v6 v7 v8)
    else fail
    else fail
  else
  out (Sum.inr (s_SameMac_L0_mx1 ))
theorem s_SameMac_L0_par (v0 : Int) (v1 : Bool) (v2 : Int) (v3 : Int) (v4 : List MacRow) (v5 : Bool) (v6 : Int) (v7 : Int) (v8 : List MacRow) (γ : Type) (fail : γ) (next : s_SameMac_L0_sh.T → γ) (out : WT s_SameMac_L0_es → γ) : s_SameMac_L0_B v0 v1 v2 v3 v4 v5 v6 v7 v8 γ fail next out = optK (s_SameMac_L0_B v0 v1 v2 v3 v4 v5 v6 v7 v8 _ none (fun v' => some (.inl v')) (fun w => some (.inr w))) fail (fun r => Sum.elim next out r) := by
  unfold s_SameMac_L0_B
  exact bifT (f := (fun o => optK o fail (fun r => Sum.elim next out r))) (fun _ => bifT (f := (fun o => optK o fail (fun r => Sum.elim next out r))) (fun _ => bifT (f := (fun o => optK o fail (fun r => Sum.elim next out r))) (fun _ => bifT (f := (fun o => optK o fail (fun r => Sum.elim next out r))) (fun _ => rfl)
      (fun _ => rfl)) (fun _ => rfl)) (fun _ => rfl))
      (fun _ => rfl)
def s_SameMac_L0_r : Round s_SameMac_L0_sh.T (WT s_SameMac_L0_es) where
  B v γ fail next out := s_SameMac_L0_B v.1.2.2.1.1 v.2.1.1 v.2.1.2.1 v.2.1.2.2.1 v.2.1.2.2.2.1 v.2.2.1.1 v.2.2.1.2.1 v.2.2.1.2.2.1 v.2.2.1.2.2.2.1 γ fail next out
  par v γ fail next out := s_SameMac_L0_par v.1.2.2.1.1 v.2.1.1 v.2.1.2.1 v.2.1.2.2.1 v.2.1.2.2.2.1 v.2.2.1.1 v.2.2.1.2.1 v.2.2.1.2.2.1 v.2.2.1.2.2.2.1 γ fail next out
def s_SameMac_L0_fu (v0 : Int) (v1 : Bool) (v2 : Int) (v3 : Int) (v4 : List MacRow) (v5 : Bool) (v6 : Int) (v7 : Int) (v8 : List MacRow) : Nat := (Int.toNat ((v4.length : Int) - v0)) + 1
theorem s_SameMac_L0_lk (v : s_SameMac_L0_sh.T) (next : St → Option Res) (k : Ex → St → Option Res) : evalK te (orcOf (P := Try.prog) []) (lorcOf []) Try.f155.ntmps s_SameMac_ann (nthLoop (bodyOf Try.f155) 0 0) 0 (s_SameMac_L0_sh.enc v) (endK ⟨[2, 3, 5], [], false, 0⟩ ⟨[4], [], false, 0⟩ next k) =
  s_SameMac_L0_r.B v _ none (fun v' => next (s_SameMac_L0_sh.enc v')) (fun w => outK s_SameMac_L0_es k w) := by kernel_rfl
def s_SameMac_L0_le : LE := leOf 0 s_SameMac_L0_sh s_SameMac_L0_es s_SameMac_L0_r.step (fun v => s_SameMac_L0_fu v.1.2.2.1.1 v.2.1.1 v.2.1.2.1 v.2.1.2.2.1 v.2.1.2.2.2.1 v.2.2.1.1 v.2.2.1.2.1 v.2.2.1.2.2.1 v.2.2.1.2.2.2.1)
theorem s_SameMac_L0_ls (w0 : World) (mo : Mts) (I0 : Nat → Prop) (hmo : mo.length = 0) : LSem Try.prog (Sim w0 mo Try.f155.ntmps I0) (fun b s k => match Nat.beq 0 b with | true => s_SameMac_L0_le.run s k | false => none) 0 (nthLoop (bodyOf Try.f155) 0 0) :=
  le_sem hmo (lorc := lorcOf []) (ann := s_SameMac_ann) (keep := ⟨[2, 3, 5], [], false, 0⟩) (kout := ⟨[4], [], false, 0⟩) teFact mixFact (orcOf_ok _) (by kernel_rfl) (allLoops_of (bs := []) (by kernel_rfl) trivial) s_SameMac_L0_r _ s_SameMac_L0_lk
def s_SameMac_L0_f (v1 : Bool) (v2 : Int) (v3 : Int) (v4 : List MacRow) (v5 : Bool) (v6 : Int) (v7 : Int) (v8 : List MacRow) (v0 : Int) (a : Unit) : Stp (Unit) ((Unit)) :=
  bif (!(((v4.getD v0.toNat (Ty.zero .macRow)).input == (v8.getD v0.toNat (Ty.zero .macRow)).input) && (((v4.getD v0.toNat (Ty.zero .macRow)).value == (v8.getD v0.toNat (Ty.zero .macRow)).value) && true))) then
    .out (())
  else
  .next ()
theorem s_SameMac_L0_st (v0 : Int) (v1 : Bool) (v2 : Int) (v3 : Int) (v4 : List MacRow) (v5 : Bool) (v6 : Int) (v7 : Int) (v8 : List MacRow) (hlo : 0 ≤ v0) (hhi : v0 < (v4.length : Int)) (hN : (v4.length : Int) ≤ 4611686018427387904) (hi0 : (v4.length : Int) ≤ (v8.length : Int)) : s_SameMac_L0_r.step (s_SameMac_L0_mk v0 v1 v2 v3 v4 v5 v6 v7 v8) = Stp.elim (fun a' : Unit => some (Sum.inl (s_SameMac_L0_mk (v0 + 1) v1 v2 v3 v4 v5 v6 v7 v8))) (fun w => some (Sum.inr ((fun p : Unit => Sum.inl (s_SameMac_L0_mx0 false)) w))) (s_SameMac_L0_f v1 v2 v3 v4 v5 v6 v7 v8 v0 ()) := by
  have hw : (IntKind.wrap .i64 (v0 + 1)) = v0 + 1 := wrap64 (by omega) (by omega)
  show s_SameMac_L0_B v0 v1 v2 v3 v4 v5 v6 v7 v8 (Option (s_SameMac_L0_sh.T ⊕ WT s_SameMac_L0_es)) none (fun v' => some (Sum.inl v')) (fun w => some (Sum.inr w)) = _
  unfold s_SameMac_L0_B s_SameMac_L0_f
  exact bifG (by simp only [decide_eq_true_eq]; omega) (bifG (by (try simp only [Nat.ble_eq, Bool.and_eq_true, decide_eq_true_eq]); grind [maxSl, maxStr, toBytes_length, toInts_length, List.length_set, wrap64]) (bifG (by (try simp only [Nat.ble_eq, Bool.and_eq_true, decide_eq_true_eq]); grind [maxSl, maxStr, toBytes_length, toInts_length, List.length_set, wrap64]) (bifT (f := (Stp.elim (fun a' : Unit => some (Sum.inl (s_SameMac_L0_mk (v0 + 1) v1 v2 v3 v4 v5 v6 v7 v8))) (fun w => some (Sum.inr ((fun p : Unit => Sum.inl (s_SameMac_L0_mx0 false)) w))))) (fun b0 => rfl)
      (fun b0 => (by exact congrArg (fun z => some (Sum.inl (s_SameMac_L0_mk z v1 v2 v3 v4 v5 v6 v7 v8))) hw)))))
theorem s_SameMac_L0_cl (v0 : Int) (v1 : Bool) (v2 : Int) (v3 : Int) (v4 : List MacRow) (v5 : Bool) (v6 : Int) (v7 : Int) (v8 : List MacRow) (h0 : 0 ≤ v0) (h1 : (v4.length : Int) ≤ 4611686018427387904) (h2 : (v4.length : Int) ≤ (v8.length : Int)) : loopF s_SameMac_L0_r.step (s_SameMac_L0_fu v0 v1 v2 v3 v4 v5 v6 v7 v8) (s_SameMac_L0_mk v0 v1 v2 v3 v4 v5 v6 v7 v8) = some (Stp.elim (fun a => (fun i a => Sum.inr (s_SameMac_L0_mx1 )) (v0 + 1 * (((Int.toNat ((v4.length : Int) - v0)) : Nat) : Int)) a) (fun p : Unit => Sum.inl (s_SameMac_L0_mx0 false)) (forN (s_SameMac_L0_f v1 v2 v3 v4 v5 v6 v7 v8) 1 (Int.toNat ((v4.length : Int) - v0)) v0 ())) :=
  forN_loop (step := s_SameMac_L0_r.step) (mk := fun v0 a => s_SameMac_L0_mk v0 v1 v2 v3 v4 v5 v6 v7 v8) (f := s_SameMac_L0_f v1 v2 v3 v4 v5 v6 v7 v8) (e := (fun i a => Sum.inr (s_SameMac_L0_mx1 ))) (emb := (fun p : Unit => Sum.inl (s_SameMac_L0_mx0 false))) (st := 1) (Inv := fun v0 a => True) (Int.toNat ((v4.length : Int) - v0)) v0 () _ (Nat.lt_succ_self _) trivial
    (fun j a hj hv => ⟨s_SameMac_L0_st (v0 + 1 * (j : Int)) v1 v2 v3 v4 v5 v6 v7 v8 (by omega) (by omega) (by omega) h2, fun _ _ => trivial⟩)
    (fun a hv => by
      show s_SameMac_L0_B (v0 + 1 * (((Int.toNat ((v4.length : Int) - v0)) : Nat) : Int)) v1 v2 v3 v4 v5 v6 v7 v8 (Option (s_SameMac_L0_sh.T ⊕ WT s_SameMac_L0_es)) none (fun v' => some (Sum.inl v')) (fun w => some (Sum.inr w)) = _
      unfold s_SameMac_L0_B
      exact bifN (by simp only [decide_eq_false_iff_not]; omega) rfl)
def s_SameMac_N (x0 : Mac) (x1 : Mac) (γ : Type) (fail : γ) (k : Bool → γ) : γ :=
  bif (!(x0.use == x1.use)) then
    k false
  else
  bif (x0.k != x1.k) then
    k false
  else
  bif (x0.l != x1.l) then
    k false
  else
  bif ((x0.rows.length : Int) != (x1.rows.length : Int)) then
    k false
  else
  optK (loopF s_SameMac_L0_r.step (s_SameMac_L0_fu 0 x0.use x0.k x0.l x0.rows x1.use x1.k x1.l x1.rows) (s_SameMac_L0_mk 0 x0.use x0.k x0.l x0.rows x1.use x1.k x1.l x1.rows)) fail fun w1 =>
    Sum.elim (fun w1 =>
      k w1.1.1.1)
    (fun w1 =>
      k true) w1
def s_SameMac (x0 : Mac) (x1 : Mac) : Bool :=
  bif (!(x0.use == x1.use)) then
    false
  else
  bif (x0.k != x1.k) then
    false
  else
  bif (x0.l != x1.l) then
    false
  else
  bif ((x0.rows.length : Int) != (x1.rows.length : Int)) then
    false
  else
  Stp.elim (fun a2 =>
    true)
    (fun p2 =>
      false)
    (forN (s_SameMac_L0_f x0.use x0.k x0.l x0.rows x1.use x1.k x1.l x1.rows) 1 (Int.toNat ((x0.rows.length : Int) - 0)) 0 ())
theorem s_SameMac_lk (x0 : Mac) (x1 : Mac) : evalFn te (orcOf (P := Try.prog) []) (lorcOf [s_SameMac_L0_le]) s_SameMac_ann Try.f155 (pvs [.st .mac, .st .mac] (x0, x1, ())) =
  s_SameMac_N x0 x1 _ none (fun v => some [(false, [RC.c (.bool v)])]) := by kernel_rfl
theorem s_SameMac_p (x0 : Mac) (x1 : Mac) (hx0_k : inK .u64 x0.k) (hx0_l : inK .u64 x0.l) (hx0_rows : x0.rows.length ≤ 140737488355328) (hx0_rows_e : ∀ y ∈ x0.rows, ∀ c ∈ Ty.cells .macRow y, FactC c) (hx1_k : inK .u64 x1.k) (hx1_l : inK .u64 x1.l) (hx1_rows : x1.rows.length ≤ 140737488355328) (hx1_rows_e : ∀ y ∈ x1.rows, ∀ c ∈ Ty.cells .macRow y, FactC c)  (γ : Type) (fail : γ) (k : Bool → γ) : s_SameMac_N x0 x1 γ fail k = k (s_SameMac x0 x1) := by
  unfold s_SameMac_N s_SameMac
  exact bifT (f := k) (fun b0 => rfl)
      (fun b0 => bifT (f := k) (fun b1 => rfl)
      (fun b1 => bifT (f := k) (fun b2 => rfl)
      (fun b2 => bifT (f := k) (fun b3 => rfl)
      (fun b3 => loopT (f := k) (s_SameMac_L0_cl 0 x0.use x0.k x0.l x0.rows x1.use x1.k x1.l x1.rows (by (try simp only [Nat.ble_eq, Bool.and_eq_true, decide_eq_true_eq, s_SameMac_L0_mx0, s_SameMac_L0_mx1]); grind [maxSl, maxStr, toBytes_length, toInts_length, List.length_set, wrap64]) (by (try simp only [Nat.ble_eq, Bool.and_eq_true, decide_eq_true_eq, s_SameMac_L0_mx0, s_SameMac_L0_mx1]); grind [maxSl, maxStr, toBytes_length, toInts_length, List.length_set, wrap64]) (by (try simp only [Nat.ble_eq, Bool.and_eq_true, decide_eq_true_eq, s_SameMac_L0_mx0, s_SameMac_L0_mx1]); grind [maxSl, maxStr, toBytes_length, toInts_length, List.length_set, wrap64])) (fun a2 => rfl)
      (fun p2 => rfl)))))
theorem s_SameMac_c (x0 : Mac) (x1 : Mac)  : Con Try.prog 155 (pvs [.st .mac, .st .mac] (x0, x1, ())) [rv (.sc .bool) [] (s_SameMac x0 x1)] := by
  refine Con.of_facts (enters_of Try.func155 rfl (by kernel_rfl)) fun hf => ?_
  replace hf := factAt hf
  exact evalFn_conL teFact mixFact (orcOf_ok _) Try.func155 (by kernel_rfl) (bs := [0]) (by kernel_rfl) (by kernel_rfl) (fun w0 mo I0 hmo => ⟨lsem_of_lorc (s_SameMac_L0_ls w0 mo I0 hmo) (by kernel_rfl), trivial⟩) ((s_SameMac_lk x0 x1).trans (s_SameMac_p x0 x1 ((hf 0 1 rfl rfl).rng) ((hf 0 2 rfl rfl).rng) ((hf 0 3 rfl rfl).len) (fun y hy => (hf 0 3 rfl rfl).elem hy) ((hf 1 1 rfl rfl).rng) ((hf 1 2 rfl rfl).rng) ((hf 1 3 rfl rfl).len) (fun y hy => (hf 1 3 rfl rfl).elem hy) _ _ _))
noncomputable def s_SameMac_e : Ent1 Try.prog := entA 155 [.st .mac, .st .mac] (fun x => (s_SameMac x.1 x.2.1)) (fun v => [rv (.sc .bool) [] v]) (fun x => s_SameMac_c x.1 x.2.1)


/-- spec.l11Copy -/
def s_l11Copy_N (x0 : Mac) (γ : Type) (fail : γ) (k : Mac → γ) : γ :=
  bif (Nat.ble ((2 * (0 + x0.rows.length) + 1024) * 24) maxSl) then
  k ({ x0 with rows := ([] ++ x0.rows) } : Mac)
  else fail
def s_l11Copy (x0 : Mac) : Mac :=
  ({ x0 with rows := ([] ++ x0.rows) } : Mac)
theorem s_l11Copy_lk (x0 : Mac) : evalFn te (orcOf (P := Try.prog) []) lorc0 [] Try.f156 (pvs [.st .mac] (x0, ())) =
  s_l11Copy_N x0 _ none (fun v => some [(true, [RC.c (.bool v.use), RC.c (.int .u64 v.k), RC.c (.int .u64 v.l), RC.own true .macRow v.rows])]) := by kernel_rfl
theorem s_l11Copy_p (x0 : Mac) (hx0_k : inK .u64 x0.k) (hx0_l : inK .u64 x0.l) (hx0_rows : x0.rows.length ≤ 140737488355328) (hx0_rows_e : ∀ y ∈ x0.rows, ∀ c ∈ Ty.cells .macRow y, FactC c) (hp : x0.rows.length ≤ 4294967296) (γ : Type) (fail : γ) (k : Mac → γ) : s_l11Copy_N x0 γ fail k = k (s_l11Copy x0) := by
  unfold s_l11Copy_N s_l11Copy
  exact bifG (by (try simp only [Nat.ble_eq, Bool.and_eq_true, decide_eq_true_eq]); grind [maxSl, maxStr, toBytes_length, toInts_length, List.length_set, wrap64]) (rfl)
theorem s_l11Copy_c (x0 : Mac) (hp : x0.rows.length ≤ 4294967296) : Con Try.prog 156 (pvs [.st .mac] (x0, ())) [rv (.st .mac) [.c, .c, .c, .o true] (s_l11Copy x0)] := by
  refine Con.of_facts (enters_of Try.func156 rfl (by kernel_rfl)) fun hf => ?_
  replace hf := factAt hf
  exact evalFn_con0 teFact mixFact (orcOf_ok _) Try.func156 (by kernel_rfl) ((s_l11Copy_lk x0).trans (s_l11Copy_p x0 ((hf 0 1 rfl rfl).rng) ((hf 0 2 rfl rfl).rng) ((hf 0 3 rfl rfl).len) (fun y hy => (hf 0 3 rfl rfl).elem hy) hp _ _ _))
noncomputable def s_l11Copy_e : Ent1 Try.prog := entP 156 [.st .mac] (fun x => (decide (x.1.rows.length ≤ 4294967296))) (fun x => (s_l11Copy x.1)) (fun v => [rv (.st .mac) [.c, .c, .c, .o true] v]) (fun x hx => s_l11Copy_c x.1 (of_decide_eq_true hx))

theorem s_l11Copy_len (x0 : Mac) (hp : x0.rows.length ≤ 4294967296)  : (fun v : Mac => v.rows.length ≤ x0.rows.length) (s_l11Copy x0) := by
  unfold s_l11Copy
  exact (by simp)

/-- slices.Equal[[]impl.MacRow,impl.MacRow] -/
def g_Equal_MacRow_ann : List (Nat × Keep) := [(0, ⟨[0, 1, 12, 13], [], false, 0⟩)]
def g_Equal_MacRow_L0_sh : Sh := ⟨[(0, false, [.sl .arg .macRow]), (1, false, [.sl .arg .macRow]), (12, false, [.int .i64]), (13, false, [.int .i64])], []⟩
def g_Equal_MacRow_L0_es : List (Ex × Sh) := [(.ret, ⟨[(4, false, [.bool])], []⟩), (.exit 0, ⟨[(4, false, [.undef])], []⟩)]
def g_Equal_MacRow_L0_mk (v0 : List MacRow) (v1 : List MacRow) (v2 : Int) (v3 : Int) : g_Equal_MacRow_L0_sh.T := (((v0, ()), ((v1, ()), ((v2, ()), ((v3, ()), ())))), ())
def g_Equal_MacRow_L0_mx0 (y0 : Bool) : Sh.T ⟨[(4, false, [.bool])], []⟩ := (((y0, ()), ()), ())
def g_Equal_MacRow_L0_mx1  : Sh.T ⟨[(4, false, [.undef])], []⟩ := ((((), ()), ()), ())
def g_Equal_MacRow_L0_B (v0 : List MacRow) (v1 : List MacRow) (v2 : Int) (v3 : Int) (γ : Type) (fail : γ) (next : g_Equal_MacRow_L0_sh.T → γ) (out : WT g_Equal_MacRow_L0_es → γ) : γ :=
  bif (decide (v3 < v2)) then
    bif ((decide (0 ≤ v3)) && (decide (v3 < (v0.length : Int)))) then
    bif ((decide (0 ≤ v3)) && (decide (v3 < (v1.length : Int)))) then
    bif (!(((v0.getD v3.toNat (Ty.zero .macRow)).input == (v1.getD v3.toNat (Ty.zero .macRow)).input) && (((v0.getD v3.toNat (Ty.zero .macRow)).value == (v1.getD v3.toNat (Ty.zero .macRow)).value) && true))) then
      out (Sum.inl (g_Equal_MacRow_L0_mx0 false))
    else
    next (g_Equal_MacRow_L0_mk v0 v1 v2 (IntKind.wrap .i64 (v3 + 1)))
    else fail
    else fail
  else
  out (Sum.inr (g_Equal_MacRow_L0_mx1 ))
theorem g_Equal_MacRow_L0_par (v0 : List MacRow) (v1 : List MacRow) (v2 : Int) (v3 : Int) (γ : Type) (fail : γ) (next : g_Equal_MacRow_L0_sh.T → γ) (out : WT g_Equal_MacRow_L0_es → γ) : g_Equal_MacRow_L0_B v0 v1 v2 v3 γ fail next out = optK (g_Equal_MacRow_L0_B v0 v1 v2 v3 _ none (fun v' => some (.inl v')) (fun w => some (.inr w))) fail (fun r => Sum.elim next out r) := by
  unfold g_Equal_MacRow_L0_B
  exact bifT (f := (fun o => optK o fail (fun r => Sum.elim next out r))) (fun _ => bifT (f := (fun o => optK o fail (fun r => Sum.elim next out r))) (fun _ => bifT (f := (fun o => optK o fail (fun r => Sum.elim next out r))) (fun _ => bifT (f := (fun o => optK o fail (fun r => Sum.elim next out r))) (fun _ => rfl)
      (fun _ => rfl)) (fun _ => rfl)) (fun _ => rfl))
      (fun _ => rfl)
def g_Equal_MacRow_L0_r : Round g_Equal_MacRow_L0_sh.T (WT g_Equal_MacRow_L0_es) where
  B v γ fail next out := g_Equal_MacRow_L0_B v.1.1.1 v.1.2.1.1 v.1.2.2.1.1 v.1.2.2.2.1.1 γ fail next out
  par v γ fail next out := g_Equal_MacRow_L0_par v.1.1.1 v.1.2.1.1 v.1.2.2.1.1 v.1.2.2.2.1.1 γ fail next out
def g_Equal_MacRow_L0_fu (v0 : List MacRow) (v1 : List MacRow) (v2 : Int) (v3 : Int) : Nat := (Int.toNat (v2 - v3)) + 1
theorem g_Equal_MacRow_L0_lk (v : g_Equal_MacRow_L0_sh.T) (next : St → Option Res) (k : Ex → St → Option Res) : evalK te (orcOf (P := Try.prog) []) (lorcOf []) Try.f176.ntmps g_Equal_MacRow_ann (nthLoop (bodyOf Try.f176) 0 0) 0 (g_Equal_MacRow_L0_sh.enc v) (endK ⟨[0, 1, 12, 13], [], false, 0⟩ ⟨[4], [], false, 0⟩ next k) =
  g_Equal_MacRow_L0_r.B v _ none (fun v' => next (g_Equal_MacRow_L0_sh.enc v')) (fun w => outK g_Equal_MacRow_L0_es k w) := by kernel_rfl
def g_Equal_MacRow_L0_le : LE := leOf 0 g_Equal_MacRow_L0_sh g_Equal_MacRow_L0_es g_Equal_MacRow_L0_r.step (fun v => g_Equal_MacRow_L0_fu v.1.1.1 v.1.2.1.1 v.1.2.2.1.1 v.1.2.2.2.1.1)
theorem g_Equal_MacRow_L0_ls (w0 : World) (mo : Mts) (I0 : Nat → Prop) (hmo : mo.length = 0) : LSem Try.prog (Sim w0 mo Try.f176.ntmps I0) (fun b s k => match Nat.beq 0 b with | true => g_Equal_MacRow_L0_le.run s k | false => none) 0 (nthLoop (bodyOf Try.f176) 0 0) :=
  le_sem hmo (lorc := lorcOf []) (ann := g_Equal_MacRow_ann) (keep := ⟨[0, 1, 12, 13], [], false, 0⟩) (kout := ⟨[4], [], false, 0⟩) teFact mixFact (orcOf_ok _) (by kernel_rfl) (allLoops_of (bs := []) (by kernel_rfl) trivial) g_Equal_MacRow_L0_r _ g_Equal_MacRow_L0_lk
def g_Equal_MacRow_L0_f (v0 : List MacRow) (v1 : List MacRow) (v2 : Int) (v3 : Int) (a : Unit) : Stp (Unit) ((Unit)) :=
  bif (!(((v0.getD v3.toNat (Ty.zero .macRow)).input == (v1.getD v3.toNat (Ty.zero .macRow)).input) && (((v0.getD v3.toNat (Ty.zero .macRow)).value == (v1.getD v3.toNat (Ty.zero .macRow)).value) && true))) then
    .out (())
  else
  .next ()
theorem g_Equal_MacRow_L0_st (v0 : List MacRow) (v1 : List MacRow) (v2 : Int) (v3 : Int) (hlo : 0 ≤ v3) (hhi : v3 < v2) (hN : v2 ≤ 4611686018427387904) (hi0 : v2 ≤ (v0.length : Int)) (hi1 : v2 ≤ (v1.length : Int)) : g_Equal_MacRow_L0_r.step (g_Equal_MacRow_L0_mk v0 v1 v2 v3) = Stp.elim (fun a' : Unit => some (Sum.inl (g_Equal_MacRow_L0_mk v0 v1 v2 (v3 + 1)))) (fun w => some (Sum.inr ((fun p : Unit => Sum.inl (g_Equal_MacRow_L0_mx0 false)) w))) (g_Equal_MacRow_L0_f v0 v1 v2 v3 ()) := by
  have hw : (IntKind.wrap .i64 (v3 + 1)) = v3 + 1 := wrap64 (by omega) (by omega)
  show g_Equal_MacRow_L0_B v0 v1 v2 v3 (Option (g_Equal_MacRow_L0_sh.T ⊕ WT g_Equal_MacRow_L0_es)) none (fun v' => some (Sum.inl v')) (fun w => some (Sum.inr w)) = _
  unfold g_Equal_MacRow_L0_B g_Equal_MacRow_L0_f
  exact bifG (by simp only [decide_eq_true_eq]; omega) (bifG (by (try simp only [Nat.ble_eq, Bool.and_eq_true, decide_eq_true_eq]); grind [maxSl, maxStr, toBytes_length, toInts_length, List.length_set, wrap64]) (bifG (by (try simp only [Nat.ble_eq, Bool.and_eq_true, decide_eq_true_eq]); grind [maxSl, maxStr, toBytes_length, toInts_length, List.length_set, wrap64]) (bifT (f := (Stp.elim (fun a' : Unit => some (Sum.inl (g_Equal_MacRow_L0_mk v0 v1 v2 (v3 + 1)))) (fun w => some (Sum.inr ((fun p : Unit => Sum.inl (g_Equal_MacRow_L0_mx0 false)) w))))) (fun b0 => rfl)
      (fun b0 => (by exact congrArg (fun z => some (Sum.inl (g_Equal_MacRow_L0_mk v0 v1 v2 z))) hw)))))
theorem g_Equal_MacRow_L0_cl (v0 : List MacRow) (v1 : List MacRow) (v2 : Int) (v3 : Int) (h0 : 0 ≤ v3) (h1 : v2 ≤ 4611686018427387904) (h2 : v2 ≤ (v0.length : Int)) (h3 : v2 ≤ (v1.length : Int)) : loopF g_Equal_MacRow_L0_r.step (g_Equal_MacRow_L0_fu v0 v1 v2 v3) (g_Equal_MacRow_L0_mk v0 v1 v2 v3) = some (Stp.elim (fun a => (fun i a => Sum.inr (g_Equal_MacRow_L0_mx1 )) (v3 + 1 * (((Int.toNat (v2 - v3)) : Nat) : Int)) a) (fun p : Unit => Sum.inl (g_Equal_MacRow_L0_mx0 false)) (forN (g_Equal_MacRow_L0_f v0 v1 v2) 1 (Int.toNat (v2 - v3)) v3 ())) :=
  forN_loop (step := g_Equal_MacRow_L0_r.step) (mk := fun v3 a => g_Equal_MacRow_L0_mk v0 v1 v2 v3) (f := g_Equal_MacRow_L0_f v0 v1 v2) (e := (fun i a => Sum.inr (g_Equal_MacRow_L0_mx1 ))) (emb := (fun p : Unit => Sum.inl (g_Equal_MacRow_L0_mx0 false))) (st := 1) (Inv := fun v3 a => True) (Int.toNat (v2 - v3)) v3 () _ (Nat.lt_succ_self _) trivial
    (fun j a hj hv => ⟨g_Equal_MacRow_L0_st v0 v1 v2 (v3 + 1 * (j : Int)) (by omega) (by omega) (by omega) h2 h3, fun _ _ => trivial⟩)
    (fun a hv => by
      show g_Equal_MacRow_L0_B v0 v1 v2 (v3 + 1 * (((Int.toNat (v2 - v3)) : Nat) : Int)) (Option (g_Equal_MacRow_L0_sh.T ⊕ WT g_Equal_MacRow_L0_es)) none (fun v' => some (Sum.inl v')) (fun w => some (Sum.inr w)) = _
      unfold g_Equal_MacRow_L0_B
      exact bifN (by simp only [decide_eq_false_iff_not]; omega) rfl)
def g_Equal_MacRow_N (x0 : List MacRow) (x1 : List MacRow) (γ : Type) (fail : γ) (k : Bool → γ) : γ :=
  bif ((x0.length : Int) != (x1.length : Int)) then
    k false
  else
  optK (loopF g_Equal_MacRow_L0_r.step (g_Equal_MacRow_L0_fu x0 x1 (x0.length : Int) 0) (g_Equal_MacRow_L0_mk x0 x1 (x0.length : Int) 0)) fail fun w1 =>
    Sum.elim (fun w1 =>
      k w1.1.1.1)
    (fun w1 =>
      k true) w1
def g_Equal_MacRow (x0 : List MacRow) (x1 : List MacRow) : Bool :=
  bif ((x0.length : Int) != (x1.length : Int)) then
    false
  else
  Stp.elim (fun a2 =>
    true)
    (fun p2 =>
      false)
    (forN (g_Equal_MacRow_L0_f x0 x1 (x0.length : Int)) 1 (Int.toNat ((x0.length : Int) - 0)) 0 ())
theorem g_Equal_MacRow_lk (x0 : List MacRow) (x1 : List MacRow) : evalFn te (orcOf (P := Try.prog) []) (lorcOf [g_Equal_MacRow_L0_le]) g_Equal_MacRow_ann Try.f176 (pvs [.sc (.sl .macRow), .sc (.sl .macRow)] (x0, x1, ())) =
  g_Equal_MacRow_N x0 x1 _ none (fun v => some [(false, [RC.c (.bool v)])]) := by kernel_rfl
theorem g_Equal_MacRow_p (x0 : List MacRow) (x1 : List MacRow) (hx0 : x0.length ≤ 140737488355328) (hx0_e : ∀ y ∈ x0, ∀ c ∈ Ty.cells .macRow y, FactC c) (hx1 : x1.length ≤ 140737488355328) (hx1_e : ∀ y ∈ x1, ∀ c ∈ Ty.cells .macRow y, FactC c)  (γ : Type) (fail : γ) (k : Bool → γ) : g_Equal_MacRow_N x0 x1 γ fail k = k (g_Equal_MacRow x0 x1) := by
  unfold g_Equal_MacRow_N g_Equal_MacRow
  exact bifT (f := k) (fun b0 => rfl)
      (fun b0 => loopT (f := k) (g_Equal_MacRow_L0_cl x0 x1 (x0.length : Int) 0 (by (try simp only [Nat.ble_eq, Bool.and_eq_true, decide_eq_true_eq, g_Equal_MacRow_L0_mx0, g_Equal_MacRow_L0_mx1]); grind [maxSl, maxStr, toBytes_length, toInts_length, List.length_set, wrap64]) (by (try simp only [Nat.ble_eq, Bool.and_eq_true, decide_eq_true_eq, g_Equal_MacRow_L0_mx0, g_Equal_MacRow_L0_mx1]); grind [maxSl, maxStr, toBytes_length, toInts_length, List.length_set, wrap64]) (by (try simp only [Nat.ble_eq, Bool.and_eq_true, decide_eq_true_eq, g_Equal_MacRow_L0_mx0, g_Equal_MacRow_L0_mx1]); grind [maxSl, maxStr, toBytes_length, toInts_length, List.length_set, wrap64]) (by (try simp only [Nat.ble_eq, Bool.and_eq_true, decide_eq_true_eq, g_Equal_MacRow_L0_mx0, g_Equal_MacRow_L0_mx1]); grind [maxSl, maxStr, toBytes_length, toInts_length, List.length_set, wrap64])) (fun a2 => rfl)
      (fun p2 => rfl))
theorem g_Equal_MacRow_c (x0 : List MacRow) (x1 : List MacRow)  : Con Try.prog 176 (pvs [.sc (.sl .macRow), .sc (.sl .macRow)] (x0, x1, ())) [rv (.sc .bool) [] (g_Equal_MacRow x0 x1)] := by
  refine Con.of_facts (enters_of Try.func176 rfl (by kernel_rfl)) fun hf => ?_
  replace hf := factAt hf
  exact evalFn_conL teFact mixFact (orcOf_ok _) Try.func176 (by kernel_rfl) (bs := [0]) (by kernel_rfl) (by kernel_rfl) (fun w0 mo I0 hmo => ⟨lsem_of_lorc (g_Equal_MacRow_L0_ls w0 mo I0 hmo) (by kernel_rfl), trivial⟩) ((g_Equal_MacRow_lk x0 x1).trans (g_Equal_MacRow_p x0 x1 ((hf 0 0 rfl rfl).len) (fun y hy => (hf 0 0 rfl rfl).elem hy) ((hf 1 0 rfl rfl).len) (fun y hy => (hf 1 0 rfl rfl).elem hy) _ _ _))
noncomputable def g_Equal_MacRow_e : Ent1 Try.prog := entA 176 [.sc (.sl .macRow), .sc (.sl .macRow)] (fun x => (g_Equal_MacRow x.1 x.2.1)) (fun v => [rv (.sc .bool) [] v]) (fun x => g_Equal_MacRow_c x.1 x.2.1)


/-- slices.Clone[[]impl.MacRow,impl.MacRow] -/
def g_Clone_MacRow (x0 : List MacRow) : List MacRow := x0
theorem g_Clone_MacRow_c (x0 : List MacRow) (hp : x0.length ≤ 4294967296) : Con Try.prog 177 (pvs [.sc (.sl .macRow)] (x0, ())) [rv (.sc (.sl .macRow)) [.o true] (g_Clone_MacRow x0)] := by
  refine Con.byNil (t := .macRow) (xs := x0) (fun h => ?_) ?_
  · subst h
    exact evalFn_con0 teFact mixFact (orcOf_ok []) Try.func177 (by kernel_rfl) (by kernel_rfl)
  · exact evalFn_con0 teFact mixFact (orcOf_ok []) Try.func177 (by kernel_rfl) (Eq.trans (b := bif Nat.ble ((2 * (0 + x0.length) + 1024) * 24) maxSl then some [rv (.sc (.sl .macRow)) [.o true] (g_Clone_MacRow x0)] else none) (by kernel_rfl) (bifG (by simp only [Nat.ble_eq, maxSl]; omega) rfl))
noncomputable def g_Clone_MacRow_e : Ent1 Try.prog := entP 177 [.sc (.sl .macRow)] (fun x => (decide (x.1.length ≤ 4294967296))) (fun x => g_Clone_MacRow x.1) (fun v => [rv (.sc (.sl .macRow)) [.o true] v]) (fun x hx => g_Clone_MacRow_c x.1 (of_decide_eq_true hx))


/-- impl.SipStart -/
def i_SipStart_N (x0 : Int) (x1 : Int) (γ : Type) (fail : γ) (k : Sipr → γ) : γ :=
  k (⟨(bits .xor .u64 x0 8317987319222330741), (bits .xor .u64 x1 7237128888997146477), (bits .xor .u64 x0 7816392313619706465), (bits .xor .u64 x1 8387220255154660723)⟩ : Sipr)
def i_SipStart (x0 : Int) (x1 : Int) : Sipr :=
  (⟨(bits .xor .u64 x0 8317987319222330741), (bits .xor .u64 x1 7237128888997146477), (bits .xor .u64 x0 7816392313619706465), (bits .xor .u64 x1 8387220255154660723)⟩ : Sipr)
theorem i_SipStart_lk (x0 : Int) (x1 : Int) : evalFn te (orcOf (P := Try.prog) []) lorc0 [] Try.f193 (pvs [.sc (.int .u64), .sc (.int .u64)] (x0, x1, ())) =
  i_SipStart_N x0 x1 _ none (fun v => some [(true, [RC.c (.int .u64 v.a), RC.c (.int .u64 v.b), RC.c (.int .u64 v.c), RC.c (.int .u64 v.d)])]) := by kernel_rfl
theorem i_SipStart_p (x0 : Int) (x1 : Int)   (γ : Type) (fail : γ) (k : Sipr → γ) : i_SipStart_N x0 x1 γ fail k = k (i_SipStart x0 x1) := by
  unfold i_SipStart_N i_SipStart
  exact rfl
theorem i_SipStart_c (x0 : Int) (x1 : Int)  : Con Try.prog 193 (pvs [.sc (.int .u64), .sc (.int .u64)] (x0, x1, ())) [rv (.st .sipr) [] (i_SipStart x0 x1)] := by
  exact evalFn_con0 teFact mixFact (orcOf_ok _) Try.func193 (by kernel_rfl) ((i_SipStart_lk x0 x1).trans (i_SipStart_p x0 x1  _ _ _))
noncomputable def i_SipStart_e : Ent1 Try.prog := entA 193 [.sc (.int .u64), .sc (.int .u64)] (fun x => (i_SipStart x.1 x.2.1)) (fun v => [rv (.st .sipr) [] v]) (fun x => i_SipStart_c x.1 x.2.1)


/-- impl.little -/
def i_little_ann : List (Nat × Keep) := [(0, ⟨[0, 3, 4], [], false, 0⟩)]
def i_little_L0_sh : Sh := ⟨[(0, false, [.sl .arg .u8]), (3, false, [.int .u64]), (4, false, [.int .i64])], []⟩
def i_little_L0_es : List (Ex × Sh) := [(.exit 0, ⟨[(2, false, [.undef]), (3, false, [.int .u64])], []⟩)]
def i_little_L0_mk (v0 : List Int) (v1 : Int) (v2 : Int) : i_little_L0_sh.T := (((v0, ()), ((v1, ()), ((v2, ()), ()))), ())
def i_little_L0_mx0 (y0 : Int) : Sh.T ⟨[(2, false, [.undef]), (3, false, [.int .u64])], []⟩ := ((((), ()), ((y0, ()), ())), ())
def i_little_L0_B (v0 : List Int) (v1 : Int) (v2 : Int) (γ : Type) (fail : γ) (next : i_little_L0_sh.T → γ) (out : WT i_little_L0_es → γ) : γ :=
  bif (decide (0 ≤ v2)) then
    bif ((decide (0 ≤ v2)) && (decide (v2 < (v0.length : Int)))) then
    letK (α := Int) (bits .or .u64 (IntKind.wrap .u64 (v1 * 256)) (IntKind.wrap .u64 (v0.getD v2.toNat 0))) fun e1 =>
    next (i_little_L0_mk v0 e1 (IntKind.wrap .i64 (v2 - 1)))
    else fail
  else
  out (i_little_L0_mx0 v1)
theorem i_little_L0_par (v0 : List Int) (v1 : Int) (v2 : Int) (γ : Type) (fail : γ) (next : i_little_L0_sh.T → γ) (out : WT i_little_L0_es → γ) : i_little_L0_B v0 v1 v2 γ fail next out = optK (i_little_L0_B v0 v1 v2 _ none (fun v' => some (.inl v')) (fun w => some (.inr w))) fail (fun r => Sum.elim next out r) := by
  unfold i_little_L0_B
  exact bifT (f := (fun o => optK o fail (fun r => Sum.elim next out r))) (fun _ => bifT (f := (fun o => optK o fail (fun r => Sum.elim next out r))) (fun _ => letT (f := (fun o => optK o fail (fun r => Sum.elim next out r))) (fun e1 _ => rfl)) (fun _ => rfl))
      (fun _ => rfl)
def i_little_L0_r : Round i_little_L0_sh.T (WT i_little_L0_es) where
  B v γ fail next out := i_little_L0_B v.1.1.1 v.1.2.1.1 v.1.2.2.1.1 γ fail next out
  par v γ fail next out := i_little_L0_par v.1.1.1 v.1.2.1.1 v.1.2.2.1.1 γ fail next out
def i_little_L0_fu (v0 : List Int) (v1 : Int) (v2 : Int) : Nat := (Int.toNat (v2 - 0 + 1)) + 1
theorem i_little_L0_lk (v : i_little_L0_sh.T) (next : St → Option Res) (k : Ex → St → Option Res) : evalK te (orcOf (P := Try.prog) []) (lorcOf []) Try.f195.ntmps i_little_ann (nthLoop (bodyOf Try.f195) 0 0) 0 (i_little_L0_sh.enc v) (endK ⟨[0, 3, 4], [], false, 0⟩ ⟨[2, 3], [], false, 0⟩ next k) =
  i_little_L0_r.B v _ none (fun v' => next (i_little_L0_sh.enc v')) (fun w => outK i_little_L0_es k w) := by kernel_rfl
def i_little_L0_le : LE := leOf 0 i_little_L0_sh i_little_L0_es i_little_L0_r.step (fun v => i_little_L0_fu v.1.1.1 v.1.2.1.1 v.1.2.2.1.1)
theorem i_little_L0_ls (w0 : World) (mo : Mts) (I0 : Nat → Prop) (hmo : mo.length = 0) : LSem Try.prog (Sim w0 mo Try.f195.ntmps I0) (fun b s k => match Nat.beq 0 b with | true => i_little_L0_le.run s k | false => none) 0 (nthLoop (bodyOf Try.f195) 0 0) :=
  le_sem hmo (lorc := lorcOf []) (ann := i_little_ann) (keep := ⟨[0, 3, 4], [], false, 0⟩) (kout := ⟨[2, 3], [], false, 0⟩) teFact mixFact (orcOf_ok _) (by kernel_rfl) (allLoops_of (bs := []) (by kernel_rfl) trivial) i_little_L0_r _ i_little_L0_lk
def i_little_L0_f (v0 : List Int) (v2 : Int) (a : Int) : Stp (Int) (Empty) :=
  letK (α := Int) (bits .or .u64 (IntKind.wrap .u64 (a * 256)) (IntKind.wrap .u64 (v0.getD v2.toNat 0))) fun e1 =>
  .next e1
theorem i_little_L0_st (v0 : List Int) (v1 : Int) (v2 : Int) (hlo : 0 ≤ v2) (hhi : v2 ≤ 9223372036854775807) (hN : 0 ≤ 0) (hinv : v2 < (v0.length : Int)) : i_little_L0_r.step (i_little_L0_mk v0 v1 v2) = Stp.elim (fun a' : Int => some (Sum.inl (i_little_L0_mk v0 a' (v2 + (-1))))) (fun w => some (Sum.inr ((fun p : Empty => nomatch p) w))) (i_little_L0_f v0 v2 v1) := by
  have hw : (IntKind.wrap .i64 (v2 - 1)) = v2 + (-1) := wrap64 (by omega) (by omega)
  show i_little_L0_B v0 v1 v2 (Option (i_little_L0_sh.T ⊕ WT i_little_L0_es)) none (fun v' => some (Sum.inl v')) (fun w => some (Sum.inr w)) = _
  unfold i_little_L0_B i_little_L0_f
  exact bifG (by simp only [decide_eq_true_eq]; omega) (bifG (by (try simp only [Nat.ble_eq, Bool.and_eq_true, decide_eq_true_eq]); grind [maxSl, maxStr, toBytes_length, toInts_length, List.length_set, wrap64]) (letT (f := (Stp.elim (fun a' : Int => some (Sum.inl (i_little_L0_mk v0 a' (v2 + (-1))))) (fun w => some (Sum.inr ((fun p : Empty => nomatch p) w))))) (fun e1 he1 => (by exact congrArg (fun z => some (Sum.inl (i_little_L0_mk v0 e1 z))) hw))))
theorem i_little_L0_cl (v0 : List Int) (v1 : Int) (v2 : Int) (h0 : v2 ≤ 9223372036854775807) (h1 : 0 ≤ 0) (h2 : v2 < (v0.length : Int)) : loopF i_little_L0_r.step (i_little_L0_fu v0 v1 v2) (i_little_L0_mk v0 v1 v2) = some (Stp.elim (fun a => (fun i a => i_little_L0_mx0 a) (v2 + (-1) * (((Int.toNat (v2 - 0 + 1)) : Nat) : Int)) a) (fun p : Empty => nomatch p) (forN (i_little_L0_f v0) (-1) (Int.toNat (v2 - 0 + 1)) v2 v1)) :=
  forN_loop (step := i_little_L0_r.step) (mk := fun v2 a => i_little_L0_mk v0 a v2) (f := i_little_L0_f v0) (e := (fun i a => i_little_L0_mx0 a)) (emb := (fun p : Empty => nomatch p)) (st := (-1)) (Inv := fun v2 a => v2 < (v0.length : Int)) (Int.toNat (v2 - 0 + 1)) v2 v1 _ (Nat.lt_succ_self _) h2
    (fun j a hj hv => ⟨i_little_L0_st v0 a (v2 + (-1) * (j : Int)) (by omega) (by omega) (by omega) hv, by
      intro a' he
      grind [i_little_L0_f, letK, Stp.elim, wrap64, List.length_set]⟩)
    (fun a hv => by
      show i_little_L0_B v0 a (v2 + (-1) * (((Int.toNat (v2 - 0 + 1)) : Nat) : Int)) (Option (i_little_L0_sh.T ⊕ WT i_little_L0_es)) none (fun v' => some (Sum.inl v')) (fun w => some (Sum.inr w)) = _
      unfold i_little_L0_B
      exact bifN (by simp only [decide_eq_false_iff_not]; omega) rfl)
theorem i_little_L0_nx (v0 : List Int) (v1 : Int) (v2 : Int) (h0 : v2 ≤ 9223372036854775807) (h1 : 0 ≤ 0) (h2 : v2 < (v0.length : Int)) : ∀ a', forN (i_little_L0_f v0) (-1) (Int.toNat (v2 - 0 + 1)) v2 v1 = .next a' → (v2 + (-1) * (((Int.toNat (v2 - 0 + 1)) : Nat) : Int)) < (v0.length : Int) :=
  forN_inv (f := i_little_L0_f v0) (st := (-1)) (Inv := fun v2 a => v2 < (v0.length : Int)) (Int.toNat (v2 - 0 + 1)) v2 v1 h2
    (fun j a hj hv => by
      intro a' he
      grind [i_little_L0_f, letK, Stp.elim, wrap64, List.length_set])
def i_little_N (x0 : List Int) (γ : Type) (fail : γ) (k : Int → γ) : γ :=
  optK (loopF i_little_L0_r.step (i_little_L0_fu x0 0 7) (i_little_L0_mk x0 0 7)) fail fun w2 =>
    k w2.1.2.1.1
def i_little (x0 : List Int) : Int :=
  Stp.elim (fun a3 =>
    a3)
    (fun p : Empty => nomatch p)
    (forN (i_little_L0_f x0) (-1) (Int.toNat (7 - 0 + 1)) 7 0)
theorem i_little_lk (x0 : List Int) : evalFn te (orcOf (P := Try.prog) []) (lorcOf [i_little_L0_le]) i_little_ann Try.f195 (pvs [.sc (.sl .u8)] (x0, ())) =
  i_little_N x0 _ none (fun v => some [(false, [RC.c (.int .u64 v)])]) := by kernel_rfl
theorem i_little_p (x0 : List Int) (hx0 : x0.length ≤ 140737488355328) (hp : 8 ≤ x0.length) (γ : Type) (fail : γ) (k : Int → γ) : i_little_N x0 γ fail k = k (i_little x0) := by
  unfold i_little_N i_little
  exact loopX (f := k) (i_little_L0_cl x0 0 7 (by (try simp only [Nat.ble_eq, Bool.and_eq_true, decide_eq_true_eq, i_little_L0_mx0]); grind [maxSl, maxStr, toBytes_length, toInts_length, List.length_set, wrap64]) (by (try simp only [Nat.ble_eq, Bool.and_eq_true, decide_eq_true_eq, i_little_L0_mx0]); grind [maxSl, maxStr, toBytes_length, toInts_length, List.length_set, wrap64]) (by (try simp only [Nat.ble_eq, Bool.and_eq_true, decide_eq_true_eq, i_little_L0_mx0]); grind [maxSl, maxStr, toBytes_length, toInts_length, List.length_set, wrap64])) (fun a3 ha3 => have ia3 := i_little_L0_nx x0 0 7 (by (try simp only [Nat.ble_eq, Bool.and_eq_true, decide_eq_true_eq, i_little_L0_mx0]); grind [maxSl, maxStr, toBytes_length, toInts_length, List.length_set, wrap64]) (by (try simp only [Nat.ble_eq, Bool.and_eq_true, decide_eq_true_eq, i_little_L0_mx0]); grind [maxSl, maxStr, toBytes_length, toInts_length, List.length_set, wrap64]) (by (try simp only [Nat.ble_eq, Bool.and_eq_true, decide_eq_true_eq, i_little_L0_mx0]); grind [maxSl, maxStr, toBytes_length, toInts_length, List.length_set, wrap64]) _ ha3; rfl)
      (fun p : Empty => nomatch p)
theorem i_little_c (x0 : List Int) (hp : 8 ≤ x0.length) : Con Try.prog 195 (pvs [.sc (.sl .u8)] (x0, ())) [rv (.sc (.int .u64)) [] (i_little x0)] := by
  refine Con.of_facts (enters_of Try.func195 rfl (by kernel_rfl)) fun hf => ?_
  replace hf := factAt hf
  exact evalFn_conL teFact mixFact (orcOf_ok _) Try.func195 (by kernel_rfl) (bs := [0]) (by kernel_rfl) (by kernel_rfl) (fun w0 mo I0 hmo => ⟨lsem_of_lorc (i_little_L0_ls w0 mo I0 hmo) (by kernel_rfl), trivial⟩) ((i_little_lk x0).trans (i_little_p x0 ((hf 0 0 rfl rfl).len) hp _ _ _))
noncomputable def i_little_e : Ent1 Try.prog := entP 195 [.sc (.sl .u8)] (fun x => (decide (8 ≤ x.1.length))) (fun x => (i_little x.1)) (fun v => [rv (.sc (.int .u64)) [] v]) (fun x hx => i_little_c x.1 (of_decide_eq_true hx))


/-- spec.SipStart -/
def s_SipStart_N (x0 : Int) (x1 : Int) (γ : Type) (fail : γ) (k : Sipr → γ) : γ :=
  k (⟨(bits .xor .u64 x0 8317987319222330741), (bits .xor .u64 x1 7237128888997146477), (bits .xor .u64 x0 7816392313619706465), (bits .xor .u64 x1 8387220255154660723)⟩ : Sipr)
def s_SipStart (x0 : Int) (x1 : Int) : Sipr :=
  (⟨(bits .xor .u64 x0 8317987319222330741), (bits .xor .u64 x1 7237128888997146477), (bits .xor .u64 x0 7816392313619706465), (bits .xor .u64 x1 8387220255154660723)⟩ : Sipr)
theorem s_SipStart_lk (x0 : Int) (x1 : Int) : evalFn te (orcOf (P := Try.prog) []) lorc0 [] Try.f197 (pvs [.sc (.int .u64), .sc (.int .u64)] (x0, x1, ())) =
  s_SipStart_N x0 x1 _ none (fun v => some [(true, [RC.c (.int .u64 v.a), RC.c (.int .u64 v.b), RC.c (.int .u64 v.c), RC.c (.int .u64 v.d)])]) := by kernel_rfl
theorem s_SipStart_p (x0 : Int) (x1 : Int)   (γ : Type) (fail : γ) (k : Sipr → γ) : s_SipStart_N x0 x1 γ fail k = k (s_SipStart x0 x1) := by
  unfold s_SipStart_N s_SipStart
  exact rfl
theorem s_SipStart_c (x0 : Int) (x1 : Int)  : Con Try.prog 197 (pvs [.sc (.int .u64), .sc (.int .u64)] (x0, x1, ())) [rv (.st .sipr) [] (s_SipStart x0 x1)] := by
  exact evalFn_con0 teFact mixFact (orcOf_ok _) Try.func197 (by kernel_rfl) ((s_SipStart_lk x0 x1).trans (s_SipStart_p x0 x1  _ _ _))
noncomputable def s_SipStart_e : Ent1 Try.prog := entA 197 [.sc (.int .u64), .sc (.int .u64)] (fun x => (s_SipStart x.1 x.2.1)) (fun v => [rv (.st .sipr) [] v]) (fun x => s_SipStart_c x.1 x.2.1)


/-- spec.l10Low -/
def s_l10Low_ann : List (Nat × Keep) := [(0, ⟨[0, 3, 4], [], false, 0⟩)]
def s_l10Low_L0_sh : Sh := ⟨[(0, false, [.str]), (3, false, [.int .u64]), (4, false, [.int .i64])], []⟩
def s_l10Low_L0_es : List (Ex × Sh) := [(.exit 0, ⟨[(2, false, [.undef]), (3, false, [.int .u64])], []⟩)]
def s_l10Low_L0_mk (v0 : Bytes) (v1 : Int) (v2 : Int) : s_l10Low_L0_sh.T := (((v0, ()), ((v1, ()), ((v2, ()), ()))), ())
def s_l10Low_L0_mx0 (y0 : Int) : Sh.T ⟨[(2, false, [.undef]), (3, false, [.int .u64])], []⟩ := ((((), ()), ((y0, ()), ())), ())
def s_l10Low_L0_B (v0 : Bytes) (v1 : Int) (v2 : Int) (γ : Type) (fail : γ) (next : s_l10Low_L0_sh.T → γ) (out : WT s_l10Low_L0_es → γ) : γ :=
  bif (decide (0 ≤ v2)) then
    bif ((decide (0 ≤ v2)) && (decide (v2 < (v0.length : Int)))) then
    letK (α := Int) (bits .or .u64 (IntKind.wrap .u64 (v1 * 256)) (IntKind.wrap .u64 (byteAt v0 v2.toNat))) fun e1 =>
    next (s_l10Low_L0_mk v0 e1 (IntKind.wrap .i64 (v2 - 1)))
    else fail
  else
  out (s_l10Low_L0_mx0 v1)
theorem s_l10Low_L0_par (v0 : Bytes) (v1 : Int) (v2 : Int) (γ : Type) (fail : γ) (next : s_l10Low_L0_sh.T → γ) (out : WT s_l10Low_L0_es → γ) : s_l10Low_L0_B v0 v1 v2 γ fail next out = optK (s_l10Low_L0_B v0 v1 v2 _ none (fun v' => some (.inl v')) (fun w => some (.inr w))) fail (fun r => Sum.elim next out r) := by
  unfold s_l10Low_L0_B
  exact bifT (f := (fun o => optK o fail (fun r => Sum.elim next out r))) (fun _ => bifT (f := (fun o => optK o fail (fun r => Sum.elim next out r))) (fun _ => letT (f := (fun o => optK o fail (fun r => Sum.elim next out r))) (fun e1 _ => rfl)) (fun _ => rfl))
      (fun _ => rfl)
def s_l10Low_L0_r : Round s_l10Low_L0_sh.T (WT s_l10Low_L0_es) where
  B v γ fail next out := s_l10Low_L0_B v.1.1.1 v.1.2.1.1 v.1.2.2.1.1 γ fail next out
  par v γ fail next out := s_l10Low_L0_par v.1.1.1 v.1.2.1.1 v.1.2.2.1.1 γ fail next out
def s_l10Low_L0_fu (v0 : Bytes) (v1 : Int) (v2 : Int) : Nat := (Int.toNat (v2 - 0 + 1)) + 1
theorem s_l10Low_L0_lk (v : s_l10Low_L0_sh.T) (next : St → Option Res) (k : Ex → St → Option Res) : evalK te (orcOf (P := Try.prog) []) (lorcOf []) Try.f199.ntmps s_l10Low_ann (nthLoop (bodyOf Try.f199) 0 0) 0 (s_l10Low_L0_sh.enc v) (endK ⟨[0, 3, 4], [], false, 0⟩ ⟨[2, 3], [], false, 0⟩ next k) =
  s_l10Low_L0_r.B v _ none (fun v' => next (s_l10Low_L0_sh.enc v')) (fun w => outK s_l10Low_L0_es k w) := by kernel_rfl
def s_l10Low_L0_le : LE := leOf 0 s_l10Low_L0_sh s_l10Low_L0_es s_l10Low_L0_r.step (fun v => s_l10Low_L0_fu v.1.1.1 v.1.2.1.1 v.1.2.2.1.1)
theorem s_l10Low_L0_ls (w0 : World) (mo : Mts) (I0 : Nat → Prop) (hmo : mo.length = 0) : LSem Try.prog (Sim w0 mo Try.f199.ntmps I0) (fun b s k => match Nat.beq 0 b with | true => s_l10Low_L0_le.run s k | false => none) 0 (nthLoop (bodyOf Try.f199) 0 0) :=
  le_sem hmo (lorc := lorcOf []) (ann := s_l10Low_ann) (keep := ⟨[0, 3, 4], [], false, 0⟩) (kout := ⟨[2, 3], [], false, 0⟩) teFact mixFact (orcOf_ok _) (by kernel_rfl) (allLoops_of (bs := []) (by kernel_rfl) trivial) s_l10Low_L0_r _ s_l10Low_L0_lk
def s_l10Low_L0_f (v0 : Bytes) (v2 : Int) (a : Int) : Stp (Int) (Empty) :=
  letK (α := Int) (bits .or .u64 (IntKind.wrap .u64 (a * 256)) (IntKind.wrap .u64 (byteAt v0 v2.toNat))) fun e1 =>
  .next e1
theorem s_l10Low_L0_st (v0 : Bytes) (v1 : Int) (v2 : Int) (hlo : 0 ≤ v2) (hhi : v2 ≤ 9223372036854775807) (hN : 0 ≤ 0) (hinv : v2 < (v0.length : Int)) : s_l10Low_L0_r.step (s_l10Low_L0_mk v0 v1 v2) = Stp.elim (fun a' : Int => some (Sum.inl (s_l10Low_L0_mk v0 a' (v2 + (-1))))) (fun w => some (Sum.inr ((fun p : Empty => nomatch p) w))) (s_l10Low_L0_f v0 v2 v1) := by
  have hw : (IntKind.wrap .i64 (v2 - 1)) = v2 + (-1) := wrap64 (by omega) (by omega)
  show s_l10Low_L0_B v0 v1 v2 (Option (s_l10Low_L0_sh.T ⊕ WT s_l10Low_L0_es)) none (fun v' => some (Sum.inl v')) (fun w => some (Sum.inr w)) = _
  unfold s_l10Low_L0_B s_l10Low_L0_f
  exact bifG (by simp only [decide_eq_true_eq]; omega) (bifG (by (try simp only [Nat.ble_eq, Bool.and_eq_true, decide_eq_true_eq]); grind [maxSl, maxStr, toBytes_length, toInts_length, List.length_set, wrap64]) (letT (f := (Stp.elim (fun a' : Int => some (Sum.inl (s_l10Low_L0_mk v0 a' (v2 + (-1))))) (fun w => some (Sum.inr ((fun p : Empty => nomatch p) w))))) (fun e1 he1 => (by exact congrArg (fun z => some (Sum.inl (s_l10Low_L0_mk v0 e1 z))) hw))))
theorem s_l10Low_L0_cl (v0 : Bytes) (v1 : Int) (v2 : Int) (h0 : v2 ≤ 9223372036854775807) (h1 : 0 ≤ 0) (h2 : v2 < (v0.length : Int)) : loopF s_l10Low_L0_r.step (s_l10Low_L0_fu v0 v1 v2) (s_l10Low_L0_mk v0 v1 v2) = some (Stp.elim (fun a => (fun i a => s_l10Low_L0_mx0 a) (v2 + (-1) * (((Int.toNat (v2 - 0 + 1)) : Nat) : Int)) a) (fun p : Empty => nomatch p) (forN (s_l10Low_L0_f v0) (-1) (Int.toNat (v2 - 0 + 1)) v2 v1)) :=
  forN_loop (step := s_l10Low_L0_r.step) (mk := fun v2 a => s_l10Low_L0_mk v0 a v2) (f := s_l10Low_L0_f v0) (e := (fun i a => s_l10Low_L0_mx0 a)) (emb := (fun p : Empty => nomatch p)) (st := (-1)) (Inv := fun v2 a => v2 < (v0.length : Int)) (Int.toNat (v2 - 0 + 1)) v2 v1 _ (Nat.lt_succ_self _) h2
    (fun j a hj hv => ⟨s_l10Low_L0_st v0 a (v2 + (-1) * (j : Int)) (by omega) (by omega) (by omega) hv, by
      intro a' he
      grind [s_l10Low_L0_f, letK, Stp.elim, wrap64, List.length_set]⟩)
    (fun a hv => by
      show s_l10Low_L0_B v0 a (v2 + (-1) * (((Int.toNat (v2 - 0 + 1)) : Nat) : Int)) (Option (s_l10Low_L0_sh.T ⊕ WT s_l10Low_L0_es)) none (fun v' => some (Sum.inl v')) (fun w => some (Sum.inr w)) = _
      unfold s_l10Low_L0_B
      exact bifN (by simp only [decide_eq_false_iff_not]; omega) rfl)
theorem s_l10Low_L0_nx (v0 : Bytes) (v1 : Int) (v2 : Int) (h0 : v2 ≤ 9223372036854775807) (h1 : 0 ≤ 0) (h2 : v2 < (v0.length : Int)) : ∀ a', forN (s_l10Low_L0_f v0) (-1) (Int.toNat (v2 - 0 + 1)) v2 v1 = .next a' → (v2 + (-1) * (((Int.toNat (v2 - 0 + 1)) : Nat) : Int)) < (v0.length : Int) :=
  forN_inv (f := s_l10Low_L0_f v0) (st := (-1)) (Inv := fun v2 a => v2 < (v0.length : Int)) (Int.toNat (v2 - 0 + 1)) v2 v1 h2
    (fun j a hj hv => by
      intro a' he
      grind [s_l10Low_L0_f, letK, Stp.elim, wrap64, List.length_set])
def s_l10Low_N (x0 : Bytes) (γ : Type) (fail : γ) (k : Int → γ) : γ :=
  optK (loopF s_l10Low_L0_r.step (s_l10Low_L0_fu x0 0 (IntKind.wrap .i64 ((x0.length : Int) - 1))) (s_l10Low_L0_mk x0 0 (IntKind.wrap .i64 ((x0.length : Int) - 1)))) fail fun w2 =>
    k w2.1.2.1.1
def s_l10Low (x0 : Bytes) : Int :=
  Stp.elim (fun a3 =>
    a3)
    (fun p : Empty => nomatch p)
    (forN (s_l10Low_L0_f x0) (-1) (Int.toNat ((IntKind.wrap .i64 ((x0.length : Int) - 1)) - 0 + 1)) (IntKind.wrap .i64 ((x0.length : Int) - 1)) 0)
theorem s_l10Low_lk (x0 : Bytes) : evalFn te (orcOf (P := Try.prog) []) (lorcOf [s_l10Low_L0_le]) s_l10Low_ann Try.f199 (pvs [.sc .str] (x0, ())) =
  s_l10Low_N x0 _ none (fun v => some [(false, [RC.c (.int .u64 v)])]) := by kernel_rfl
theorem s_l10Low_p (x0 : Bytes) (hx0 : List.length x0 ≤ 4611686018427387904)  (γ : Type) (fail : γ) (k : Int → γ) : s_l10Low_N x0 γ fail k = k (s_l10Low x0) := by
  unfold s_l10Low_N s_l10Low
  exact loopX (f := k) (s_l10Low_L0_cl x0 0 (IntKind.wrap .i64 ((x0.length : Int) - 1)) (by (try simp only [Nat.ble_eq, Bool.and_eq_true, decide_eq_true_eq, s_l10Low_L0_mx0]); grind [maxSl, maxStr, toBytes_length, toInts_length, List.length_set, wrap64]) (by (try simp only [Nat.ble_eq, Bool.and_eq_true, decide_eq_true_eq, s_l10Low_L0_mx0]); grind [maxSl, maxStr, toBytes_length, toInts_length, List.length_set, wrap64]) (by (try simp only [Nat.ble_eq, Bool.and_eq_true, decide_eq_true_eq, s_l10Low_L0_mx0]); grind [maxSl, maxStr, toBytes_length, toInts_length, List.length_set, wrap64])) (fun a3 ha3 => have ia3 := s_l10Low_L0_nx x0 0 (IntKind.wrap .i64 ((x0.length : Int) - 1)) (by (try simp only [Nat.ble_eq, Bool.and_eq_true, decide_eq_true_eq, s_l10Low_L0_mx0]); grind [maxSl, maxStr, toBytes_length, toInts_length, List.length_set, wrap64]) (by (try simp only [Nat.ble_eq, Bool.and_eq_true, decide_eq_true_eq, s_l10Low_L0_mx0]); grind [maxSl, maxStr, toBytes_length, toInts_length, List.length_set, wrap64]) (by (try simp only [Nat.ble_eq, Bool.and_eq_true, decide_eq_true_eq, s_l10Low_L0_mx0]); grind [maxSl, maxStr, toBytes_length, toInts_length, List.length_set, wrap64]) _ ha3; rfl)
      (fun p : Empty => nomatch p)
theorem s_l10Low_c (x0 : Bytes)  : Con Try.prog 199 (pvs [.sc .str] (x0, ())) [rv (.sc (.int .u64)) [] (s_l10Low x0)] := by
  refine Con.of_facts (enters_of Try.func199 rfl (by kernel_rfl)) fun hf => ?_
  replace hf := factAt hf
  exact evalFn_conL teFact mixFact (orcOf_ok _) Try.func199 (by kernel_rfl) (bs := [0]) (by kernel_rfl) (by kernel_rfl) (fun w0 mo I0 hmo => ⟨lsem_of_lorc (s_l10Low_L0_ls w0 mo I0 hmo) (by kernel_rfl), trivial⟩) ((s_l10Low_lk x0).trans (s_l10Low_p x0 ((hf 0 0 rfl rfl).slen) _ _ _))
noncomputable def s_l10Low_e : Ent1 Try.prog := entA 199 [.sc .str] (fun x => (s_l10Low x.1)) (fun v => [rv (.sc (.int .u64)) [] v]) (fun x => s_l10Low_c x.1)


/-- math/bits.RotateLeft64 -/
def mb_RotateLeft64_N (x0 : Int) (x1 : Int) (γ : Type) (fail : γ) (k : Int → γ) : γ :=
  bif (decide (0 ≤ (bits .and .u64 (IntKind.wrap .u64 x1) 63))) then
  letK (α := Int) (IntKind.wrap .u64 (x0 * 2 ^ (min (bits .and .u64 (IntKind.wrap .u64 x1) 63).toNat 64))) fun e1 =>
  bif (decide (0 ≤ (IntKind.wrap .u64 (64 - (bits .and .u64 (IntKind.wrap .u64 x1) 63))))) then
  letK (α := Int) (x0.fdiv (2 ^ (min (IntKind.wrap .u64 (64 - (bits .and .u64 (IntKind.wrap .u64 x1) 63))).toNat 64))) fun e2 =>
  k (bits .or .u64 e1 e2)
  else fail
  else fail
def mb_RotateLeft64 (x0 : Int) (x1 : Int) : Int :=
  letK (α := Int) (IntKind.wrap .u64 (x0 * 2 ^ (min (bits .and .u64 (IntKind.wrap .u64 x1) 63).toNat 64))) fun e1 =>
  letK (α := Int) (x0.fdiv (2 ^ (min (IntKind.wrap .u64 (64 - (bits .and .u64 (IntKind.wrap .u64 x1) 63))).toNat 64))) fun e2 =>
  (bits .or .u64 e1 e2)
theorem mb_RotateLeft64_lk (x0 : Int) (x1 : Int) : evalFn te (orcOf (P := Try.prog) []) lorc0 [] Try.f210 (pvs [.sc (.int .u64), .sc (.int .i64)] (x0, x1, ())) =
  mb_RotateLeft64_N x0 x1 _ none (fun v => some [(false, [RC.c (.int .u64 v)])]) := by kernel_rfl
theorem mb_RotateLeft64_p (x0 : Int) (x1 : Int) (hx0 : inK .u64 x0) (hx1 : inK .i64 x1)  (γ : Type) (fail : γ) (k : Int → γ) : mb_RotateLeft64_N x0 x1 γ fail k = k (mb_RotateLeft64 x0 x1) := by
  unfold mb_RotateLeft64_N mb_RotateLeft64
  exact bifG (by (try simp only [decide_eq_true_eq]); first | exact andMask_nonneg _ | exact wrapU_nonneg _) (letT (f := k) (fun e1 he1 => bifG (by (try simp only [decide_eq_true_eq]); first | exact andMask_nonneg _ | exact wrapU_nonneg _) (letT (f := k) (fun e2 he2 => rfl))))
theorem mb_RotateLeft64_c (x0 : Int) (x1 : Int)  : Con Try.prog 210 (pvs [.sc (.int .u64), .sc (.int .i64)] (x0, x1, ())) [rv (.sc (.int .u64)) [] (mb_RotateLeft64 x0 x1)] := by
  refine Con.of_facts (enters_of Try.func210 rfl (by kernel_rfl)) fun hf => ?_
  replace hf := factAt hf
  exact evalFn_con0 teFact mixFact (orcOf_ok _) Try.func210 (by kernel_rfl) ((mb_RotateLeft64_lk x0 x1).trans (mb_RotateLeft64_p x0 x1 ((hf 0 0 rfl rfl).rng) ((hf 1 0 rfl rfl).rng) _ _ _))
noncomputable def mb_RotateLeft64_e : Ent1 Try.prog := entA 210 [.sc (.int .u64), .sc (.int .i64)] (fun x => (mb_RotateLeft64 x.1 x.2.1)) (fun v => [rv (.sc (.int .u64)) [] v]) (fun x => mb_RotateLeft64_c x.1 x.2.1)


/-- spec.l10Turn -/
def s_l10Turn_N (x0 : Int) (x1 : Int) (γ : Type) (fail : γ) (k : Int → γ) : γ :=
  bif (decide (0 ≤ x1)) then
  bif (decide (0 ≤ (IntKind.wrap .u64 (64 - x1)))) then
  letK (α := Int) (bits .or .u64 (IntKind.wrap .u64 (x0 * 2 ^ (min x1.toNat 64))) (x0.fdiv (2 ^ (min (IntKind.wrap .u64 (64 - x1)).toNat 64)))) fun e1 =>
  k e1
  else fail
  else fail
def s_l10Turn (x0 : Int) (x1 : Int) : Int :=
  letK (α := Int) (bits .or .u64 (IntKind.wrap .u64 (x0 * 2 ^ (min x1.toNat 64))) (x0.fdiv (2 ^ (min (IntKind.wrap .u64 (64 - x1)).toNat 64)))) fun e1 =>
  e1
theorem s_l10Turn_lk (x0 : Int) (x1 : Int) : evalFn te (orcOf (P := Try.prog) []) lorc0 [] Try.f211 (pvs [.sc (.int .u64), .sc (.int .u64)] (x0, x1, ())) =
  s_l10Turn_N x0 x1 _ none (fun v => some [(false, [RC.c (.int .u64 v)])]) := by kernel_rfl
theorem s_l10Turn_p (x0 : Int) (x1 : Int) (hx0 : inK .u64 x0) (hx1 : inK .u64 x1)  (γ : Type) (fail : γ) (k : Int → γ) : s_l10Turn_N x0 x1 γ fail k = k (s_l10Turn x0 x1) := by
  unfold s_l10Turn_N s_l10Turn
  exact bifG (by (try simp only [decide_eq_true_eq]); have hh := inKU64 hx1; first | omega | exact wrapU_nonneg _) (bifG (by (try simp only [decide_eq_true_eq]); have hh := inKU64 hx1; first | omega | exact wrapU_nonneg _) (letT (f := k) (fun e1 he1 => rfl)))
theorem s_l10Turn_c (x0 : Int) (x1 : Int)  : Con Try.prog 211 (pvs [.sc (.int .u64), .sc (.int .u64)] (x0, x1, ())) [rv (.sc (.int .u64)) [] (s_l10Turn x0 x1)] := by
  refine Con.of_facts (enters_of Try.func211 rfl (by kernel_rfl)) fun hf => ?_
  replace hf := factAt hf
  exact evalFn_con0 teFact mixFact (orcOf_ok _) Try.func211 (by kernel_rfl) ((s_l10Turn_lk x0 x1).trans (s_l10Turn_p x0 x1 ((hf 0 0 rfl rfl).rng) ((hf 1 0 rfl rfl).rng) _ _ _))
noncomputable def s_l10Turn_e : Ent1 Try.prog := entA 211 [.sc (.int .u64), .sc (.int .u64)] (fun x => (s_l10Turn x.1 x.2.1)) (fun v => [rv (.sc (.int .u64)) [] v]) (fun x => s_l10Turn_c x.1 x.2.1)


/-- impl.WordOk -/
def i_WordOk_N (x0 : Int) (x1 : Int) (γ : Type) (fail : γ) (k : Bool → γ) : γ :=
  letK (α := Bool) (i_within x1 1 62) fun c1 =>
  bif c1 then
    bif (decide (0 ≤ x1)) then
    letK (α := Int) (IntKind.wrap .i64 ((IntKind.wrap .i64 (1 * 2 ^ (min x1.toNat 64))) - 1)) fun e2 =>
    letK (α := Bool) (i_within x0 0 e2) fun c3 =>
    k c3
    else fail
  else
  k false
def i_WordOk (x0 : Int) (x1 : Int) : Bool :=
  letK (α := Bool) (i_within x1 1 62) fun c1 =>
  bif c1 then
    letK (α := Int) (IntKind.wrap .i64 ((IntKind.wrap .i64 (1 * 2 ^ (min x1.toNat 64))) - 1)) fun e2 =>
    letK (α := Bool) (i_within x0 0 e2) fun c3 =>
    c3
  else
  false
theorem i_WordOk_lk (x0 : Int) (x1 : Int) : evalFn te (orcOf (P := Try.prog) [i_within_e]) lorc0 [] Try.f50 (pvs [.sc (.int .i64), .sc (.int .i64)] (x0, x1, ())) =
  i_WordOk_N x0 x1 _ none (fun v => some [(false, [RC.c (.bool v)])]) := by kernel_rfl
theorem i_WordOk_p (x0 : Int) (x1 : Int) (hx0 : inK .i64 x0) (hx1 : inK .i64 x1)  (γ : Type) (fail : γ) (k : Bool → γ) : i_WordOk_N x0 x1 γ fail k = k (i_WordOk x0 x1) := by
  unfold i_WordOk_N i_WordOk
  exact letT (f := k) (fun c1 hc1 => bifT (f := k) (fun b0 => bifG (by (try simp only [Nat.ble_eq, Bool.and_eq_true, decide_eq_true_eq]); grind [maxSl, maxStr, toBytes_length, toInts_length, List.length_set, wrap64, i_within_eq]) (letT (f := k) (fun e2 he2 => letT (f := k) (fun c3 hc3 => rfl))))
      (fun b0 => rfl))
theorem i_WordOk_c (x0 : Int) (x1 : Int)  : Con Try.prog 50 (pvs [.sc (.int .i64), .sc (.int .i64)] (x0, x1, ())) [rv (.sc .bool) [] (i_WordOk x0 x1)] := by
  refine Con.of_facts (enters_of Try.func50 rfl (by kernel_rfl)) fun hf => ?_
  replace hf := factAt hf
  exact evalFn_con0 teFact mixFact (orcOf_ok _) Try.func50 (by kernel_rfl) ((i_WordOk_lk x0 x1).trans (i_WordOk_p x0 x1 ((hf 0 0 rfl rfl).rng) ((hf 1 0 rfl rfl).rng) _ _ _))
noncomputable def i_WordOk_e : Ent1 Try.prog := entA 50 [.sc (.int .i64), .sc (.int .i64)] (fun x => (i_WordOk x.1 x.2.1)) (fun v => [rv (.sc .bool) [] v]) (fun x => i_WordOk_c x.1 x.2.1)


/-- spec.WordOk -/
def s_WordOk_N (x0 : Int) (x1 : Int) (γ : Type) (fail : γ) (k : Bool → γ) : γ :=
  letK (α := Bool) (s_l1In x1 1 62) fun c1 =>
  bif c1 then
    bif (decide (0 ≤ (IntKind.wrap .u64 x1))) then
    letK (α := Int) (IntKind.wrap .i64 ((IntKind.wrap .i64 (1 * 2 ^ (min (IntKind.wrap .u64 x1).toNat 64))) - 1)) fun e2 =>
    letK (α := Bool) (s_l1In x0 0 e2) fun c3 =>
    k c3
    else fail
  else
  k false
def s_WordOk (x0 : Int) (x1 : Int) : Bool :=
  letK (α := Bool) (s_l1In x1 1 62) fun c1 =>
  bif c1 then
    letK (α := Int) (IntKind.wrap .i64 ((IntKind.wrap .i64 (1 * 2 ^ (min (IntKind.wrap .u64 x1).toNat 64))) - 1)) fun e2 =>
    letK (α := Bool) (s_l1In x0 0 e2) fun c3 =>
    c3
  else
  false
theorem s_WordOk_lk (x0 : Int) (x1 : Int) : evalFn te (orcOf (P := Try.prog) [s_l1In_e]) lorc0 [] Try.f53 (pvs [.sc (.int .i64), .sc (.int .i64)] (x0, x1, ())) =
  s_WordOk_N x0 x1 _ none (fun v => some [(false, [RC.c (.bool v)])]) := by kernel_rfl
theorem s_WordOk_p (x0 : Int) (x1 : Int) (hx0 : inK .i64 x0) (hx1 : inK .i64 x1)  (γ : Type) (fail : γ) (k : Bool → γ) : s_WordOk_N x0 x1 γ fail k = k (s_WordOk x0 x1) := by
  unfold s_WordOk_N s_WordOk
  exact letT (f := k) (fun c1 hc1 => bifT (f := k) (fun b0 => bifG (by simp only [decide_eq_true_eq]; exact wrapU_nonneg _) (letT (f := k) (fun e2 he2 => letT (f := k) (fun c3 hc3 => rfl))))
      (fun b0 => rfl))
theorem s_WordOk_c (x0 : Int) (x1 : Int)  : Con Try.prog 53 (pvs [.sc (.int .i64), .sc (.int .i64)] (x0, x1, ())) [rv (.sc .bool) [] (s_WordOk x0 x1)] := by
  refine Con.of_facts (enters_of Try.func53 rfl (by kernel_rfl)) fun hf => ?_
  replace hf := factAt hf
  exact evalFn_con0 teFact mixFact (orcOf_ok _) Try.func53 (by kernel_rfl) ((s_WordOk_lk x0 x1).trans (s_WordOk_p x0 x1 ((hf 0 0 rfl rfl).rng) ((hf 1 0 rfl rfl).rng) _ _ _))
noncomputable def s_WordOk_e : Ent1 Try.prog := entA 53 [.sc (.int .i64), .sc (.int .i64)] (fun x => (s_WordOk x.1 x.2.1)) (fun v => [rv (.sc .bool) [] v]) (fun x => s_WordOk_c x.1 x.2.1)


/-- spec.Assigned -/
def s_Assigned_ann : List (Nat × Keep) := [(0, ⟨[0, 1, 2, 6, 7, 8], [], false, 0⟩)]
def s_Assigned_L0_sh : Sh := ⟨[(0, false, [.sl .arg .str]), (1, false, [.int .i64]), (2, false, [.int .i64]), (6, false, [.ptr 0 0]), (7, false, [.own 1]), (8, false, [.int .i64])], [.box [.bool, .int .u64, .int .u64, .nil], .arr .macRow false true]⟩
def s_Assigned_L0_es : List (Ex × Sh) := [(.exit 0, ⟨[(6, false, [.ptr 0 0]), (7, false, [.own 1])], [.box [.bool, .int .u64, .int .u64, .nil], .arr .macRow false true]⟩)]
def s_Assigned_L0_mk (v0 : List Bytes) (v1 : Int) (v2 : Int) (v3 : Int) (v4 : Bool) (v5 : Int) (v6 : Int) (v7 : List MacRow) : s_Assigned_L0_sh.T := (((v0, ()), ((v1, ()), ((v2, ()), (((), ()), (((), ()), ((v3, ()), ())))))), ((v4, (v5, (v6, ((), ())))), (v7, ())))
def s_Assigned_L0_mx0 (y0 : Bool) (y1 : Int) (y2 : Int) (y3 : List MacRow) : Sh.T ⟨[(6, false, [.ptr 0 0]), (7, false, [.own 1])], [.box [.bool, .int .u64, .int .u64, .nil], .arr .macRow false true]⟩ := ((((), ()), (((), ()), ())), ((y0, (y1, (y2, ((), ())))), (y3, ())))
def s_Assigned_L0_B (v0 : List Bytes) (v1 : Int) (v2 : Int) (v3 : Int) (v4 : Bool) (v5 : Int) (v6 : Int) (v7 : List MacRow) (γ : Type) (fail : γ) (next : s_Assigned_L0_sh.T → γ) (out : WT s_Assigned_L0_es → γ) : γ :=
  bif (decide (v3 < (v0.length : Int))) then
    bif ((decide (0 ≤ v3)) && (decide (v3 < (v0.length : Int)))) then
    bif (v1 != 0) then
    bif (Nat.ble ((2 * (v7.length + 1) + 1024) * 24) maxSl) then
    bif (v1 != 0) then
    next (s_Assigned_L0_mk v0 v1 (IntKind.wrap .i64 (v2.tdiv v1)) (IntKind.wrap .i64 (v3 + 1)) v4 v5 v6 (v7 ++ [(⟨(v0.getD v3.toNat []), (v2.tmod v1)⟩ : MacRow)]))
    else fail
    else fail
    else fail
    else fail
  else
  out (s_Assigned_L0_mx0 v4 v5 v6 v7)
theorem s_Assigned_L0_par (v0 : List Bytes) (v1 : Int) (v2 : Int) (v3 : Int) (v4 : Bool) (v5 : Int) (v6 : Int) (v7 : List MacRow) (γ : Type) (fail : γ) (next : s_Assigned_L0_sh.T → γ) (out : WT s_Assigned_L0_es → γ) : s_Assigned_L0_B v0 v1 v2 v3 v4 v5 v6 v7 γ fail next out = optK (s_Assigned_L0_B v0 v1 v2 v3 v4 v5 v6 v7 _ none (fun v' => some (.inl v')) (fun w => some (.inr w))) fail (fun r => Sum.elim next out r) := by
  unfold s_Assigned_L0_B
  exact bifT (f := (fun o => optK o fail (fun r => Sum.elim next out r))) (fun _ => bifT (f := (fun o => optK o fail (fun r => Sum.elim next out r))) (fun _ => bifT (f := (fun o => optK o fail (fun r => Sum.elim next out r))) (fun _ => bifT (f := (fun o => optK o fail (fun r => Sum.elim next out r))) (fun _ => bifT (f := (fun o => optK o fail (fun r => Sum.elim next out r))) (fun _ => rfl) (fun _ => rfl)) (fun _ => rfl)) (fun _ => rfl)) (fun _ => rfl))
      (fun _ => rfl)
def s_Assigned_L0_r : Round s_Assigned_L0_sh.T (WT s_Assigned_L0_es) where
  B v γ fail next out := s_Assigned_L0_B v.1.1.1 v.1.2.1.1 v.1.2.2.1.1 v.1.2.2.2.2.2.1.1 v.2.1.1 v.2.1.2.1 v.2.1.2.2.1 v.2.2.1 γ fail next out
  par v γ fail next out := s_Assigned_L0_par v.1.1.1 v.1.2.1.1 v.1.2.2.1.1 v.1.2.2.2.2.2.1.1 v.2.1.1 v.2.1.2.1 v.2.1.2.2.1 v.2.2.1 γ fail next out
def s_Assigned_L0_fu (v0 : List Bytes) (v1 : Int) (v2 : Int) (v3 : Int) (v4 : Bool) (v5 : Int) (v6 : Int) (v7 : List MacRow) : Nat := (Int.toNat ((v0.length : Int) - v3)) + 1
theorem s_Assigned_L0_lk (v : s_Assigned_L0_sh.T) (next : St → Option Res) (k : Ex → St → Option Res) : evalK te (orcOf (P := Try.prog) [s_l1In_e, s_TableMac_e]) (lorcOf []) Try.f61.ntmps s_Assigned_ann (nthLoop (bodyOf Try.f61) 0 0) 0 (s_Assigned_L0_sh.enc v) (endK ⟨[0, 1, 2, 6, 7, 8], [], false, 0⟩ ⟨[6, 7], [], false, 0⟩ next k) =
  s_Assigned_L0_r.B v _ none (fun v' => next (s_Assigned_L0_sh.enc v')) (fun w => outK s_Assigned_L0_es k w) := by kernel_rfl
def s_Assigned_L0_le : LE := leOf 0 s_Assigned_L0_sh s_Assigned_L0_es s_Assigned_L0_r.step (fun v => s_Assigned_L0_fu v.1.1.1 v.1.2.1.1 v.1.2.2.1.1 v.1.2.2.2.2.2.1.1 v.2.1.1 v.2.1.2.1 v.2.1.2.2.1 v.2.2.1)
theorem s_Assigned_L0_ls (w0 : World) (mo : Mts) (I0 : Nat → Prop) (hmo : mo.length = 0) : LSem Try.prog (Sim w0 mo Try.f61.ntmps I0) (fun b s k => match Nat.beq 0 b with | true => s_Assigned_L0_le.run s k | false => none) 0 (nthLoop (bodyOf Try.f61) 0 0) :=
  le_sem hmo (lorc := lorcOf []) (ann := s_Assigned_ann) (keep := ⟨[0, 1, 2, 6, 7, 8], [], false, 0⟩) (kout := ⟨[6, 7], [], false, 0⟩) teFact mixFact (orcOf_ok _) (by kernel_rfl) (allLoops_of (bs := []) (by kernel_rfl) trivial) s_Assigned_L0_r _ s_Assigned_L0_lk
def s_Assigned_L0_f (v0 : List Bytes) (v1 : Int) (v4 : Bool) (v5 : Int) (v6 : Int) (v3 : Int) (a : Int × List MacRow) : Stp (Int × List MacRow) (Empty) :=
  .next ((IntKind.wrap .i64 (a.1.tdiv v1)), (a.2 ++ [(⟨(v0.getD v3.toNat []), (a.1.tmod v1)⟩ : MacRow)]))
theorem s_Assigned_L0_st (v0 : List Bytes) (v1 : Int) (v2 : Int) (v3 : Int) (v4 : Bool) (v5 : Int) (v6 : Int) (v7 : List MacRow) (hlo : 0 ≤ v3) (hhi : v3 < (v0.length : Int)) (hN : (v0.length : Int) ≤ 4611686018427387904) (hi0 : v1 ≠ 0) (hi1 : (v0.length : Int) ≤ 4294967296) (hinv : (v7.length : Int) ≤ v3) : s_Assigned_L0_r.step (s_Assigned_L0_mk v0 v1 v2 v3 v4 v5 v6 v7) = Stp.elim (fun a' : Int × List MacRow => some (Sum.inl (s_Assigned_L0_mk v0 v1 a'.1 (v3 + 1) v4 v5 v6 a'.2))) (fun w => some (Sum.inr ((fun p : Empty => nomatch p) w))) (s_Assigned_L0_f v0 v1 v4 v5 v6 v3 (v2, v7)) := by
  have hw : (IntKind.wrap .i64 (v3 + 1)) = v3 + 1 := wrap64 (by omega) (by omega)
  show s_Assigned_L0_B v0 v1 v2 v3 v4 v5 v6 v7 (Option (s_Assigned_L0_sh.T ⊕ WT s_Assigned_L0_es)) none (fun v' => some (Sum.inl v')) (fun w => some (Sum.inr w)) = _
  unfold s_Assigned_L0_B s_Assigned_L0_f
  exact bifG (by simp only [decide_eq_true_eq]; omega) (bifG (by (try simp only [Nat.ble_eq, Bool.and_eq_true, decide_eq_true_eq]); grind [maxSl, maxStr, toBytes_length, toInts_length, List.length_set, wrap64, s_TableMac_len]) (bifG (by (try simp only [Nat.ble_eq, Bool.and_eq_true, decide_eq_true_eq]); grind [maxSl, maxStr, toBytes_length, toInts_length, List.length_set, wrap64, s_TableMac_len]) (bifG (by (try simp only [Nat.ble_eq, Bool.and_eq_true, decide_eq_true_eq]); grind [maxSl, maxStr, toBytes_length, toInts_length, List.length_set, wrap64, s_TableMac_len]) (bifG (by (try simp only [Nat.ble_eq, Bool.and_eq_true, decide_eq_true_eq]); grind [maxSl, maxStr, toBytes_length, toInts_length, List.length_set, wrap64, s_TableMac_len]) ((by exact congrArg (fun z => some (Sum.inl (s_Assigned_L0_mk v0 v1 (IntKind.wrap .i64 (v2.tdiv v1)) z v4 v5 v6 (v7 ++ [(⟨(v0.getD v3.toNat []), (v2.tmod v1)⟩ : MacRow)])))) hw))))))
theorem s_Assigned_L0_cl (v0 : List Bytes) (v1 : Int) (v2 : Int) (v3 : Int) (v4 : Bool) (v5 : Int) (v6 : Int) (v7 : List MacRow) (h0 : 0 ≤ v3) (h1 : (v0.length : Int) ≤ 4611686018427387904) (h2 : v1 ≠ 0) (h3 : (v0.length : Int) ≤ 4294967296) (h4 : (v7.length : Int) ≤ v3) : loopF s_Assigned_L0_r.step (s_Assigned_L0_fu v0 v1 v2 v3 v4 v5 v6 v7) (s_Assigned_L0_mk v0 v1 v2 v3 v4 v5 v6 v7) = some (Stp.elim (fun a => (fun i a => s_Assigned_L0_mx0 v4 v5 v6 a.2) (v3 + 1 * (((Int.toNat ((v0.length : Int) - v3)) : Nat) : Int)) a) (fun p : Empty => nomatch p) (forN (s_Assigned_L0_f v0 v1 v4 v5 v6) 1 (Int.toNat ((v0.length : Int) - v3)) v3 (v2, v7))) :=
  forN_loop (step := s_Assigned_L0_r.step) (mk := fun v3 a => s_Assigned_L0_mk v0 v1 a.1 v3 v4 v5 v6 a.2) (f := s_Assigned_L0_f v0 v1 v4 v5 v6) (e := (fun i a => s_Assigned_L0_mx0 v4 v5 v6 a.2)) (emb := (fun p : Empty => nomatch p)) (st := 1) (Inv := fun v3 a => (a.2.length : Int) ≤ v3) (Int.toNat ((v0.length : Int) - v3)) v3 (v2, v7) _ (Nat.lt_succ_self _) h4
    (fun j a hj hv => ⟨s_Assigned_L0_st v0 v1 a.1 (v3 + 1 * (j : Int)) v4 v5 v6 a.2 (by omega) (by omega) (by omega) h2 h3 hv, by
      intro a' he
      grind [s_Assigned_L0_f, letK, Stp.elim, wrap64, List.length_set, s_TableMac_len]⟩)
    (fun a hv => by
      show s_Assigned_L0_B v0 v1 a.1 (v3 + 1 * (((Int.toNat ((v0.length : Int) - v3)) : Nat) : Int)) v4 v5 v6 a.2 (Option (s_Assigned_L0_sh.T ⊕ WT s_Assigned_L0_es)) none (fun v' => some (Sum.inl v')) (fun w => some (Sum.inr w)) = _
      unfold s_Assigned_L0_B
      exact bifN (by simp only [decide_eq_false_iff_not]; omega) rfl)
theorem s_Assigned_L0_nx (v0 : List Bytes) (v1 : Int) (v2 : Int) (v3 : Int) (v4 : Bool) (v5 : Int) (v6 : Int) (v7 : List MacRow) (h0 : 0 ≤ v3) (h1 : (v0.length : Int) ≤ 4611686018427387904) (h2 : v1 ≠ 0) (h3 : (v0.length : Int) ≤ 4294967296) (h4 : (v7.length : Int) ≤ v3) : ∀ a', forN (s_Assigned_L0_f v0 v1 v4 v5 v6) 1 (Int.toNat ((v0.length : Int) - v3)) v3 (v2, v7) = .next a' → (a'.2.length : Int) ≤ (v3 + 1 * (((Int.toNat ((v0.length : Int) - v3)) : Nat) : Int)) :=
  forN_inv (f := s_Assigned_L0_f v0 v1 v4 v5 v6) (st := 1) (Inv := fun v3 a => (a.2.length : Int) ≤ v3) (Int.toNat ((v0.length : Int) - v3)) v3 (v2, v7) h4
    (fun j a hj hv => by
      intro a' he
      grind [s_Assigned_L0_f, letK, Stp.elim, wrap64, List.length_set, s_TableMac_len])
def s_Assigned_N (x0 : List Bytes) (x1 : Int) (x2 : Int) (γ : Type) (fail : γ) (k : Mac → γ) : γ :=
  letK (α := Bool) (s_l1In x1 1 4) fun c1 =>
  bif (!c1) then
    k (⟨false, 0, 0, []⟩ : Mac)
  else
  bif (decide (x2 < 0)) then
    k (⟨false, 0, 0, []⟩ : Mac)
  else
  bif (decide (4 < (x0.length : Int))) then
    k (⟨false, 0, 0, []⟩ : Mac)
  else
  optK (loopF s_Assigned_L0_r.step (s_Assigned_L0_fu x0 x1 x2 0 false 0 0 []) (s_Assigned_L0_mk x0 x1 x2 0 false 0 0 [])) fail fun w2 =>
    bif (decide (w2.2.2.1.length ≤ 4294967296)) then
    letK (α := Mac) (s_TableMac w2.2.2.1) fun c3 =>
    k c3
    else fail
def s_Assigned (x0 : List Bytes) (x1 : Int) (x2 : Int) : Mac :=
  letK (α := Bool) (s_l1In x1 1 4) fun c1 =>
  bif (!c1) then
    (⟨false, 0, 0, []⟩ : Mac)
  else
  bif (decide (x2 < 0)) then
    (⟨false, 0, 0, []⟩ : Mac)
  else
  bif (decide (4 < (x0.length : Int))) then
    (⟨false, 0, 0, []⟩ : Mac)
  else
  Stp.elim (fun a4 =>
    letK (α := Mac) (s_TableMac a4.2) fun c5 =>
    c5)
    (fun p : Empty => nomatch p)
    (forN (s_Assigned_L0_f x0 x1 false 0 0) 1 (Int.toNat ((x0.length : Int) - 0)) 0 (x2, []))
theorem s_Assigned_lk (x0 : List Bytes) (x1 : Int) (x2 : Int) : evalFn te (orcOf (P := Try.prog) [s_l1In_e, s_TableMac_e]) (lorcOf [s_Assigned_L0_le]) s_Assigned_ann Try.f61 (pvs [.sc (.sl .str), .sc (.int .i64), .sc (.int .i64)] (x0, x1, x2, ())) =
  s_Assigned_N x0 x1 x2 _ none (fun v => some [(true, [RC.c (.bool v.use), RC.c (.int .u64 v.k), RC.c (.int .u64 v.l), RC.own true .macRow v.rows])]) := by kernel_rfl
theorem s_Assigned_p (x0 : List Bytes) (x1 : Int) (x2 : Int) (hx0 : x0.length ≤ 140737488355328) (hx0_e : ∀ y ∈ x0, List.length y ≤ 4611686018427387904) (hx1 : inK .i64 x1) (hx2 : inK .i64 x2) (hp : x0.length ≤ 4294967296) (γ : Type) (fail : γ) (k : Mac → γ) : s_Assigned_N x0 x1 x2 γ fail k = k (s_Assigned x0 x1 x2) := by
  unfold s_Assigned_N s_Assigned
  exact letT (f := k) (fun c1 hc1 => bifT (f := k) (fun b0 => rfl)
      (fun b0 => bifT (f := k) (fun b1 => rfl)
      (fun b1 => bifT (f := k) (fun b2 => rfl)
      (fun b2 => loopX (f := k) (s_Assigned_L0_cl x0 x1 x2 0 false 0 0 [] (by (try simp only [Nat.ble_eq, Bool.and_eq_true, decide_eq_true_eq, s_Assigned_L0_mx0]); grind [maxSl, maxStr, toBytes_length, toInts_length, List.length_set, wrap64, s_l1In_eq, s_TableMac_len]) (by (try simp only [Nat.ble_eq, Bool.and_eq_true, decide_eq_true_eq, s_Assigned_L0_mx0]); grind [maxSl, maxStr, toBytes_length, toInts_length, List.length_set, wrap64, s_l1In_eq, s_TableMac_len]) (by (try simp only [Nat.ble_eq, Bool.and_eq_true, decide_eq_true_eq, s_Assigned_L0_mx0]); grind [maxSl, maxStr, toBytes_length, toInts_length, List.length_set, wrap64, s_l1In_eq, s_TableMac_len]) (by (try simp only [Nat.ble_eq, Bool.and_eq_true, decide_eq_true_eq, s_Assigned_L0_mx0]); grind [maxSl, maxStr, toBytes_length, toInts_length, List.length_set, wrap64, s_l1In_eq, s_TableMac_len]) (by (try simp only [Nat.ble_eq, Bool.and_eq_true, decide_eq_true_eq, s_Assigned_L0_mx0]); grind [maxSl, maxStr, toBytes_length, toInts_length, List.length_set, wrap64, s_l1In_eq, s_TableMac_len])) (fun a4 ha4 => have ia4 := s_Assigned_L0_nx x0 x1 x2 0 false 0 0 [] (by (try simp only [Nat.ble_eq, Bool.and_eq_true, decide_eq_true_eq, s_Assigned_L0_mx0]); grind [maxSl, maxStr, toBytes_length, toInts_length, List.length_set, wrap64, s_l1In_eq, s_TableMac_len]) (by (try simp only [Nat.ble_eq, Bool.and_eq_true, decide_eq_true_eq, s_Assigned_L0_mx0]); grind [maxSl, maxStr, toBytes_length, toInts_length, List.length_set, wrap64, s_l1In_eq, s_TableMac_len]) (by (try simp only [Nat.ble_eq, Bool.and_eq_true, decide_eq_true_eq, s_Assigned_L0_mx0]); grind [maxSl, maxStr, toBytes_length, toInts_length, List.length_set, wrap64, s_l1In_eq, s_TableMac_len]) (by (try simp only [Nat.ble_eq, Bool.and_eq_true, decide_eq_true_eq, s_Assigned_L0_mx0]); grind [maxSl, maxStr, toBytes_length, toInts_length, List.length_set, wrap64, s_l1In_eq, s_TableMac_len]) (by (try simp only [Nat.ble_eq, Bool.and_eq_true, decide_eq_true_eq, s_Assigned_L0_mx0]); grind [maxSl, maxStr, toBytes_length, toInts_length, List.length_set, wrap64, s_l1In_eq, s_TableMac_len]) _ ha4; bifG (by (try simp only [Nat.ble_eq, Bool.and_eq_true, decide_eq_true_eq, s_Assigned_L0_mx0]); grind [maxSl, maxStr, toBytes_length, toInts_length, List.length_set, wrap64, s_l1In_eq, s_TableMac_len]) (letT (f := k) (fun c5 hc5 => rfl)))
      (fun p : Empty => nomatch p)))))
theorem s_Assigned_c (x0 : List Bytes) (x1 : Int) (x2 : Int) (hp : x0.length ≤ 4294967296) : Con Try.prog 61 (pvs [.sc (.sl .str), .sc (.int .i64), .sc (.int .i64)] (x0, x1, x2, ())) [rv (.st .mac) [.c, .c, .c, .o true] (s_Assigned x0 x1 x2)] := by
  refine Con.of_facts (enters_of Try.func61 rfl (by kernel_rfl)) fun hf => ?_
  replace hf := factAt hf
  exact evalFn_conL teFact mixFact (orcOf_ok _) Try.func61 (by kernel_rfl) (bs := [0]) (by kernel_rfl) (by kernel_rfl) (fun w0 mo I0 hmo => ⟨lsem_of_lorc (s_Assigned_L0_ls w0 mo I0 hmo) (by kernel_rfl), trivial⟩) ((s_Assigned_lk x0 x1 x2).trans (s_Assigned_p x0 x1 x2 ((hf 0 0 rfl rfl).len) (fun y hy => ((hf 0 0 rfl rfl).elem hy (.str y) List.mem_cons_self).slen) ((hf 1 0 rfl rfl).rng) ((hf 2 0 rfl rfl).rng) hp _ _ _))
noncomputable def s_Assigned_e : Ent1 Try.prog := entP 61 [.sc (.sl .str), .sc (.int .i64), .sc (.int .i64)] (fun x => (decide (x.1.length ≤ 4294967296))) (fun x => (s_Assigned x.1 x.2.1 x.2.2.1)) (fun v => [rv (.st .mac) [.c, .c, .c, .o true] v]) (fun x hx => s_Assigned_c x.1 x.2.1 x.2.2.1 (of_decide_eq_true hx))

theorem s_Assigned_len (x0 : List Bytes) (x1 : Int) (x2 : Int) (hp : x0.length ≤ 4294967296)  : (fun v : Mac => v.rows.length ≤ 4) (s_Assigned x0 x1 x2) := by
  unfold s_Assigned
  exact letP (P := (fun v : Mac => v.rows.length ≤ 4)) (fun c1 hc1 => bifP (P := (fun v : Mac => v.rows.length ≤ 4)) (fun b0 => (by (try simp only [Nat.ble_eq, Bool.and_eq_true, decide_eq_true_eq, s_Assigned_L0_mx0]); grind [maxSl, maxStr, toBytes_length, toInts_length, List.length_set, wrap64, s_l1In_eq, s_TableMac_len]))
      (fun b0 => bifP (P := (fun v : Mac => v.rows.length ≤ 4)) (fun b1 => (by (try simp only [Nat.ble_eq, Bool.and_eq_true, decide_eq_true_eq, s_Assigned_L0_mx0]); grind [maxSl, maxStr, toBytes_length, toInts_length, List.length_set, wrap64, s_l1In_eq, s_TableMac_len]))
      (fun b1 => bifP (P := (fun v : Mac => v.rows.length ≤ 4)) (fun b2 => (by (try simp only [Nat.ble_eq, Bool.and_eq_true, decide_eq_true_eq, s_Assigned_L0_mx0]); grind [maxSl, maxStr, toBytes_length, toInts_length, List.length_set, wrap64, s_l1In_eq, s_TableMac_len]))
      (fun b2 => loopP (P := (fun v : Mac => v.rows.length ≤ 4)) (fun a4 ha4 => have ia4 := s_Assigned_L0_nx x0 x1 x2 0 false 0 0 [] (by (try simp only [Nat.ble_eq, Bool.and_eq_true, decide_eq_true_eq, s_Assigned_L0_mx0]); grind [maxSl, maxStr, toBytes_length, toInts_length, List.length_set, wrap64, s_l1In_eq, s_TableMac_len]) (by (try simp only [Nat.ble_eq, Bool.and_eq_true, decide_eq_true_eq, s_Assigned_L0_mx0]); grind [maxSl, maxStr, toBytes_length, toInts_length, List.length_set, wrap64, s_l1In_eq, s_TableMac_len]) (by (try simp only [Nat.ble_eq, Bool.and_eq_true, decide_eq_true_eq, s_Assigned_L0_mx0]); grind [maxSl, maxStr, toBytes_length, toInts_length, List.length_set, wrap64, s_l1In_eq, s_TableMac_len]) (by (try simp only [Nat.ble_eq, Bool.and_eq_true, decide_eq_true_eq, s_Assigned_L0_mx0]); grind [maxSl, maxStr, toBytes_length, toInts_length, List.length_set, wrap64, s_l1In_eq, s_TableMac_len]) (by (try simp only [Nat.ble_eq, Bool.and_eq_true, decide_eq_true_eq, s_Assigned_L0_mx0]); grind [maxSl, maxStr, toBytes_length, toInts_length, List.length_set, wrap64, s_l1In_eq, s_TableMac_len]) _ ha4; letP (P := (fun v : Mac => v.rows.length ≤ 4)) (fun c5 hc5 => (by (try simp only [Nat.ble_eq, Bool.and_eq_true, decide_eq_true_eq, s_Assigned_L0_mx0]); grind [maxSl, maxStr, toBytes_length, toInts_length, List.length_set, wrap64, s_l1In_eq, s_TableMac_len])))
      (fun p _ => nomatch p)))))

/-- spec.CookieParts -/
def s_CookieParts_N (x0 : Int) (γ : Type) (fail : γ) (k : Int × Int × Int → γ) : γ :=
  letK (α := Bool) (s_WordOk x0 32) fun c1 =>
  bif (!c1) then
    k ((-1), (-1), (-1))
  else
  k ((IntKind.wrap .i64 (x0.tdiv 134217728)), ((IntKind.wrap .i64 (x0.tdiv 16777216)).tmod 8), (x0.tmod 16777216))
def s_CookieParts (x0 : Int) : Int × Int × Int :=
  letK (α := Bool) (s_WordOk x0 32) fun c1 =>
  bif (!c1) then
    ((-1), (-1), (-1))
  else
  ((IntKind.wrap .i64 (x0.tdiv 134217728)), ((IntKind.wrap .i64 (x0.tdiv 16777216)).tmod 8), (x0.tmod 16777216))
theorem s_CookieParts_lk (x0 : Int) : evalFn te (orcOf (P := Try.prog) [s_WordOk_e]) lorc0 [] Try.f106 (pvs [.sc (.int .i64)] (x0, ())) =
  s_CookieParts_N x0 _ none (fun v => some [(false, [RC.c (.int .i64 v.1)]), (false, [RC.c (.int .i64 v.2.1)]), (false, [RC.c (.int .i64 v.2.2)])]) := by kernel_rfl
theorem s_CookieParts_p (x0 : Int)   (γ : Type) (fail : γ) (k : Int × Int × Int → γ) : s_CookieParts_N x0 γ fail k = k (s_CookieParts x0) := by
  unfold s_CookieParts_N s_CookieParts
  exact letT (f := k) (fun c1 hc1 => bifT (f := k) (fun b0 => rfl)
      (fun b0 => rfl))
theorem s_CookieParts_c (x0 : Int)  : Con Try.prog 106 (pvs [.sc (.int .i64)] (x0, ())) [rv (.sc (.int .i64)) [] (s_CookieParts x0).1, rv (.sc (.int .i64)) [] (s_CookieParts x0).2.1, rv (.sc (.int .i64)) [] (s_CookieParts x0).2.2] := by
  exact evalFn_con0 teFact mixFact (orcOf_ok _) Try.func106 (by kernel_rfl) ((s_CookieParts_lk x0).trans (s_CookieParts_p x0  _ _ _))
noncomputable def s_CookieParts_e : Ent1 Try.prog := entA 106 [.sc (.int .i64)] (fun x => (s_CookieParts x.1)) (fun v => [rv (.sc (.int .i64)) [] v.1, rv (.sc (.int .i64)) [] v.2.1, rv (.sc (.int .i64)) [] v.2.2]) (fun x => s_CookieParts_c x.1)


/-- impl.CookieParts -/
def i_CookieParts_N (x0 : Int) (γ : Type) (fail : γ) (k : Int × Int × Int → γ) : γ :=
  letK (α := Bool) (i_WordOk x0 32) fun c1 =>
  bif (!c1) then
    k ((-1), (-1), (-1))
  else
  k ((IntKind.wrap .i64 (x0.tdiv 134217728)), ((IntKind.wrap .i64 (x0.tdiv 16777216)).tmod 8), (x0.tmod 16777216))
def i_CookieParts (x0 : Int) : Int × Int × Int :=
  letK (α := Bool) (i_WordOk x0 32) fun c1 =>
  bif (!c1) then
    ((-1), (-1), (-1))
  else
  ((IntKind.wrap .i64 (x0.tdiv 134217728)), ((IntKind.wrap .i64 (x0.tdiv 16777216)).tmod 8), (x0.tmod 16777216))
theorem i_CookieParts_lk (x0 : Int) : evalFn te (orcOf (P := Try.prog) [i_WordOk_e]) lorc0 [] Try.f113 (pvs [.sc (.int .i64)] (x0, ())) =
  i_CookieParts_N x0 _ none (fun v => some [(false, [RC.c (.int .i64 v.1)]), (false, [RC.c (.int .i64 v.2.1)]), (false, [RC.c (.int .i64 v.2.2)])]) := by kernel_rfl
theorem i_CookieParts_p (x0 : Int)   (γ : Type) (fail : γ) (k : Int × Int × Int → γ) : i_CookieParts_N x0 γ fail k = k (i_CookieParts x0) := by
  unfold i_CookieParts_N i_CookieParts
  exact letT (f := k) (fun c1 hc1 => bifT (f := k) (fun b0 => rfl)
      (fun b0 => rfl))
theorem i_CookieParts_c (x0 : Int)  : Con Try.prog 113 (pvs [.sc (.int .i64)] (x0, ())) [rv (.sc (.int .i64)) [] (i_CookieParts x0).1, rv (.sc (.int .i64)) [] (i_CookieParts x0).2.1, rv (.sc (.int .i64)) [] (i_CookieParts x0).2.2] := by
  exact evalFn_con0 teFact mixFact (orcOf_ok _) Try.func113 (by kernel_rfl) ((i_CookieParts_lk x0).trans (i_CookieParts_p x0  _ _ _))
noncomputable def i_CookieParts_e : Ent1 Try.prog := entA 113 [.sc (.int .i64)] (fun x => (i_CookieParts x.1)) (fun v => [rv (.sc (.int .i64)) [] v.1, rv (.sc (.int .i64)) [] v.2.1, rv (.sc (.int .i64)) [] v.2.2]) (fun x => i_CookieParts_c x.1)


/-- spec.KeysOk -/
def s_KeysOk_N (x0 : Keys) (γ : Type) (fail : γ) (k : Bool → γ) : γ :=
  letK (α := Bool) (s_WordOk x0.epoch 32) fun c1 =>
  bif (!c1) then
    k false
  else
  letK (α := Bool) (s_MacOk x0.now) fun c2 =>
  bif (!c2) then
    k false
  else
  letK (α := Bool) (s_MacOk x0.before) fun c3 =>
  bif (!c3) then
    k false
  else
  bif x0.two then
    k (decide (1 ≤ x0.epoch))
  else
  letK (α := Bool) (s_SameMac x0.before (⟨false, 0, 0, []⟩ : Mac)) fun c4 =>
  k c4
def s_KeysOk (x0 : Keys) : Bool :=
  letK (α := Bool) (s_WordOk x0.epoch 32) fun c1 =>
  bif (!c1) then
    false
  else
  letK (α := Bool) (s_MacOk x0.now) fun c2 =>
  bif (!c2) then
    false
  else
  letK (α := Bool) (s_MacOk x0.before) fun c3 =>
  bif (!c3) then
    false
  else
  bif x0.two then
    (decide (1 ≤ x0.epoch))
  else
  letK (α := Bool) (s_SameMac x0.before (⟨false, 0, 0, []⟩ : Mac)) fun c4 =>
  c4
theorem s_KeysOk_lk (x0 : Keys) : evalFn te (orcOf (P := Try.prog) [s_WordOk_e, s_MacOk_e, s_SameMac_e]) lorc0 [] Try.f116 (pvs [.st .keys] (x0, ())) =
  s_KeysOk_N x0 _ none (fun v => some [(false, [RC.c (.bool v)])]) := by kernel_rfl
theorem s_KeysOk_p (x0 : Keys)   (γ : Type) (fail : γ) (k : Bool → γ) : s_KeysOk_N x0 γ fail k = k (s_KeysOk x0) := by
  unfold s_KeysOk_N s_KeysOk
  exact letT (f := k) (fun c1 hc1 => bifT (f := k) (fun b0 => rfl)
      (fun b0 => letT (f := k) (fun c2 hc2 => bifT (f := k) (fun b1 => rfl)
      (fun b1 => letT (f := k) (fun c3 hc3 => bifT (f := k) (fun b2 => rfl)
      (fun b2 => bifT (f := k) (fun b3 => rfl)
      (fun b3 => letT (f := k) (fun c4 hc4 => rfl))))))))
theorem s_KeysOk_c (x0 : Keys)  : Con Try.prog 116 (pvs [.st .keys] (x0, ())) [rv (.sc .bool) [] (s_KeysOk x0)] := by
  exact evalFn_con0 teFact mixFact (orcOf_ok _) Try.func116 (by kernel_rfl) ((s_KeysOk_lk x0).trans (s_KeysOk_p x0  _ _ _))
noncomputable def s_KeysOk_e : Ent1 Try.prog := entA 116 [.st .keys] (fun x => (s_KeysOk x.1)) (fun v => [rv (.sc .bool) [] v]) (fun x => s_KeysOk_c x.1)


/-- spec.SecretOf -/
def s_SecretOf_N (x0 : Keys) (x1 : Int) (γ : Type) (fail : γ) (k : Mac × Bool → γ) : γ :=
  bif (x1 == x0.epoch) then
    bif (decide (x0.now.rows.length ≤ 4294967296)) then
    letK (α := Mac) (s_l11Copy x0.now) fun c1 =>
    k (c1, true)
    else fail
  else
  bif x0.two then
    bif (x1 == (IntKind.wrap .i64 (x0.epoch - 1))) then
      bif (decide (x0.before.rows.length ≤ 4294967296)) then
      letK (α := Mac) (s_l11Copy x0.before) fun c2 =>
      k (c2, true)
      else fail
    else
    k ((⟨false, 0, 0, []⟩ : Mac), false)
  else
  k ((⟨false, 0, 0, []⟩ : Mac), false)
def s_SecretOf (x0 : Keys) (x1 : Int) : Mac × Bool :=
  bif (x1 == x0.epoch) then
    letK (α := Mac) (s_l11Copy x0.now) fun c1 =>
    (c1, true)
  else
  bif x0.two then
    bif (x1 == (IntKind.wrap .i64 (x0.epoch - 1))) then
      letK (α := Mac) (s_l11Copy x0.before) fun c2 =>
      (c2, true)
    else
    ((⟨false, 0, 0, []⟩ : Mac), false)
  else
  ((⟨false, 0, 0, []⟩ : Mac), false)
theorem s_SecretOf_lk (x0 : Keys) (x1 : Int) : evalFn te (orcOf (P := Try.prog) [s_l11Copy_e]) lorc0 [] Try.f117 (pvs [.st .keys, .sc (.int .i64)] (x0, x1, ())) =
  s_SecretOf_N x0 x1 _ none (fun v => some [(true, [RC.c (.bool v.1.use), RC.c (.int .u64 v.1.k), RC.c (.int .u64 v.1.l), RC.own true .macRow v.1.rows]), (false, [RC.c (.bool v.2)])]) := by kernel_rfl
theorem s_SecretOf_p (x0 : Keys) (x1 : Int) (hx0_epoch : inK .i64 x0.epoch) (hx0_now_k : inK .u64 x0.now.k) (hx0_now_l : inK .u64 x0.now.l) (hx0_now_rows : x0.now.rows.length ≤ 140737488355328) (hx0_now_rows_e : ∀ y ∈ x0.now.rows, ∀ c ∈ Ty.cells .macRow y, FactC c) (hx0_before_k : inK .u64 x0.before.k) (hx0_before_l : inK .u64 x0.before.l) (hx0_before_rows : x0.before.rows.length ≤ 140737488355328) (hx0_before_rows_e : ∀ y ∈ x0.before.rows, ∀ c ∈ Ty.cells .macRow y, FactC c) (hx1 : inK .i64 x1) (hp : x0.now.rows.length ≤ 4294967296 ∧ x0.before.rows.length ≤ 4294967296) (γ : Type) (fail : γ) (k : Mac × Bool → γ) : s_SecretOf_N x0 x1 γ fail k = k (s_SecretOf x0 x1) := by
  unfold s_SecretOf_N s_SecretOf
  exact bifT (f := k) (fun b0 => bifG (by (try simp only [Nat.ble_eq, Bool.and_eq_true, decide_eq_true_eq]); grind [maxSl, maxStr, toBytes_length, toInts_length, List.length_set, wrap64, s_l11Copy_len]) (letT (f := k) (fun c1 hc1 => rfl)))
      (fun b0 => bifT (f := k) (fun b1 => bifT (f := k) (fun b2 => bifG (by (try simp only [Nat.ble_eq, Bool.and_eq_true, decide_eq_true_eq]); grind [maxSl, maxStr, toBytes_length, toInts_length, List.length_set, wrap64, s_l11Copy_len]) (letT (f := k) (fun c2 hc2 => rfl)))
      (fun b2 => rfl))
      (fun b1 => rfl))
theorem s_SecretOf_c (x0 : Keys) (x1 : Int) (hp : x0.now.rows.length ≤ 4294967296 ∧ x0.before.rows.length ≤ 4294967296) : Con Try.prog 117 (pvs [.st .keys, .sc (.int .i64)] (x0, x1, ())) [rv (.st .mac) [.c, .c, .c, .o true] (s_SecretOf x0 x1).1, rv (.sc .bool) [] (s_SecretOf x0 x1).2] := by
  refine Con.of_facts (enters_of Try.func117 rfl (by kernel_rfl)) fun hf => ?_
  replace hf := factAt hf
  exact evalFn_con0 teFact mixFact (orcOf_ok _) Try.func117 (by kernel_rfl) ((s_SecretOf_lk x0 x1).trans (s_SecretOf_p x0 x1 ((hf 0 0 rfl rfl).rng) ((hf 0 2 rfl rfl).rng) ((hf 0 3 rfl rfl).rng) ((hf 0 4 rfl rfl).len) (fun y hy => (hf 0 4 rfl rfl).elem hy) ((hf 0 6 rfl rfl).rng) ((hf 0 7 rfl rfl).rng) ((hf 0 8 rfl rfl).len) (fun y hy => (hf 0 8 rfl rfl).elem hy) ((hf 1 0 rfl rfl).rng) hp _ _ _))
noncomputable def s_SecretOf_e : Ent1 Try.prog := entP 117 [.st .keys, .sc (.int .i64)] (fun x => (decide (x.1.now.rows.length ≤ 4294967296 ∧ x.1.before.rows.length ≤ 4294967296))) (fun x => (s_SecretOf x.1 x.2.1)) (fun v => [rv (.st .mac) [.c, .c, .c, .o true] v.1, rv (.sc .bool) [] v.2]) (fun x hx => s_SecretOf_c x.1 x.2.1 (of_decide_eq_true hx))

theorem s_SecretOf_len (x0 : Keys) (x1 : Int) (hp : x0.now.rows.length ≤ 4294967296 ∧ x0.before.rows.length ≤ 4294967296) (h : x0.now.rows.length ≤ 4294967296 ∧ x0.before.rows.length ≤ 4294967296) : (fun v : Mac × Bool => v.1.rows.length ≤ 4294967296) (s_SecretOf x0 x1) := by
  unfold s_SecretOf
  exact bifP (P := (fun v : Mac × Bool => v.1.rows.length ≤ 4294967296)) (fun b0 => letP (P := (fun v : Mac × Bool => v.1.rows.length ≤ 4294967296)) (fun c1 hc1 => (by (try simp only [Nat.ble_eq, Bool.and_eq_true, decide_eq_true_eq]); grind [maxSl, maxStr, toBytes_length, toInts_length, List.length_set, wrap64, s_l11Copy_len])))
      (fun b0 => bifP (P := (fun v : Mac × Bool => v.1.rows.length ≤ 4294967296)) (fun b1 => bifP (P := (fun v : Mac × Bool => v.1.rows.length ≤ 4294967296)) (fun b2 => letP (P := (fun v : Mac × Bool => v.1.rows.length ≤ 4294967296)) (fun c2 hc2 => (by (try simp only [Nat.ble_eq, Bool.and_eq_true, decide_eq_true_eq]); grind [maxSl, maxStr, toBytes_length, toInts_length, List.length_set, wrap64, s_l11Copy_len])))
      (fun b2 => (by (try simp only [Nat.ble_eq, Bool.and_eq_true, decide_eq_true_eq]); grind [maxSl, maxStr, toBytes_length, toInts_length, List.length_set, wrap64, s_l11Copy_len])))
      (fun b1 => (by (try simp only [Nat.ble_eq, Bool.and_eq_true, decide_eq_true_eq]); grind [maxSl, maxStr, toBytes_length, toInts_length, List.length_set, wrap64, s_l11Copy_len])))

/-- spec.PutWord -/
def s_PutWord_ann : List (Nat × Keep) := [(0, ⟨[0, 5, 6], [], false, 0⟩)]
def s_PutWord_L0_sh : Sh := ⟨[(0, false, [.int .i64]), (5, false, [.own 0]), (6, false, [.int .i64])], [.arr .u8 false true]⟩
def s_PutWord_L0_es : List (Ex × Sh) := [(.exit 0, ⟨[(4, false, [.undef]), (5, false, [.own 0])], [.arr .u8 false true]⟩)]
def s_PutWord_L0_mk (v0 : Int) (v1 : Int) (v2 : List Int) : s_PutWord_L0_sh.T := (((v0, ()), (((), ()), ((v1, ()), ()))), (v2, ()))
def s_PutWord_L0_mx0 (y0 : List Int) : Sh.T ⟨[(4, false, [.undef]), (5, false, [.own 0])], [.arr .u8 false true]⟩ := ((((), ()), (((), ()), ())), (y0, ()))
def s_PutWord_L0_B (v0 : Int) (v1 : Int) (v2 : List Int) (γ : Type) (fail : γ) (next : s_PutWord_L0_sh.T → γ) (out : WT s_PutWord_L0_es → γ) : γ :=
  bif (decide (0 ≤ v1)) then
    bif ((decide (0 ≤ v1)) && (decide (v1 < (v2.length : Int)))) then
    next (s_PutWord_L0_mk (IntKind.wrap .i64 (v0.tdiv 256)) (IntKind.wrap .i64 (v1 - 1)) (v2.set v1.toNat (IntKind.wrap .u8 (v0.tmod 256))))
    else fail
  else
  out (s_PutWord_L0_mx0 v2)
theorem s_PutWord_L0_par (v0 : Int) (v1 : Int) (v2 : List Int) (γ : Type) (fail : γ) (next : s_PutWord_L0_sh.T → γ) (out : WT s_PutWord_L0_es → γ) : s_PutWord_L0_B v0 v1 v2 γ fail next out = optK (s_PutWord_L0_B v0 v1 v2 _ none (fun v' => some (.inl v')) (fun w => some (.inr w))) fail (fun r => Sum.elim next out r) := by
  unfold s_PutWord_L0_B
  exact bifT (f := (fun o => optK o fail (fun r => Sum.elim next out r))) (fun _ => bifT (f := (fun o => optK o fail (fun r => Sum.elim next out r))) (fun _ => rfl) (fun _ => rfl))
      (fun _ => rfl)
def s_PutWord_L0_r : Round s_PutWord_L0_sh.T (WT s_PutWord_L0_es) where
  B v γ fail next out := s_PutWord_L0_B v.1.1.1 v.1.2.2.1.1 v.2.1 γ fail next out
  par v γ fail next out := s_PutWord_L0_par v.1.1.1 v.1.2.2.1.1 v.2.1 γ fail next out
def s_PutWord_L0_fu (v0 : Int) (v1 : Int) (v2 : List Int) : Nat := (Int.toNat (v1 - 0 + 1)) + 1
theorem s_PutWord_L0_lk (v : s_PutWord_L0_sh.T) (next : St → Option Res) (k : Ex → St → Option Res) : evalK te (orcOf (P := Try.prog) [s_l1In_e, s_WordOk_e]) (lorcOf []) Try.f147.ntmps s_PutWord_ann (nthLoop (bodyOf Try.f147) 0 0) 0 (s_PutWord_L0_sh.enc v) (endK ⟨[0, 5, 6], [], false, 0⟩ ⟨[4, 5], [], false, 0⟩ next k) =
  s_PutWord_L0_r.B v _ none (fun v' => next (s_PutWord_L0_sh.enc v')) (fun w => outK s_PutWord_L0_es k w) := by kernel_rfl
def s_PutWord_L0_le : LE := leOf 0 s_PutWord_L0_sh s_PutWord_L0_es s_PutWord_L0_r.step (fun v => s_PutWord_L0_fu v.1.1.1 v.1.2.2.1.1 v.2.1)
theorem s_PutWord_L0_ls (w0 : World) (mo : Mts) (I0 : Nat → Prop) (hmo : mo.length = 0) : LSem Try.prog (Sim w0 mo Try.f147.ntmps I0) (fun b s k => match Nat.beq 0 b with | true => s_PutWord_L0_le.run s k | false => none) 0 (nthLoop (bodyOf Try.f147) 0 0) :=
  le_sem hmo (lorc := lorcOf []) (ann := s_PutWord_ann) (keep := ⟨[0, 5, 6], [], false, 0⟩) (kout := ⟨[4, 5], [], false, 0⟩) teFact mixFact (orcOf_ok _) (by kernel_rfl) (allLoops_of (bs := []) (by kernel_rfl) trivial) s_PutWord_L0_r _ s_PutWord_L0_lk
def s_PutWord_L0_f  (v1 : Int) (a : Int × List Int) : Stp (Int × List Int) (Empty) :=
  .next ((IntKind.wrap .i64 (a.1.tdiv 256)), (a.2.set v1.toNat (IntKind.wrap .u8 (a.1.tmod 256))))
theorem s_PutWord_L0_st (v0 : Int) (v1 : Int) (v2 : List Int) (hlo : 0 ≤ v1) (hhi : v1 ≤ 9223372036854775807) (hN : 0 ≤ 0) (hinv : v1 < (v2.length : Int)) : s_PutWord_L0_r.step (s_PutWord_L0_mk v0 v1 v2) = Stp.elim (fun a' : Int × List Int => some (Sum.inl (s_PutWord_L0_mk a'.1 (v1 + (-1)) a'.2))) (fun w => some (Sum.inr ((fun p : Empty => nomatch p) w))) (s_PutWord_L0_f  v1 (v0, v2)) := by
  have hw : (IntKind.wrap .i64 (v1 - 1)) = v1 + (-1) := wrap64 (by omega) (by omega)
  show s_PutWord_L0_B v0 v1 v2 (Option (s_PutWord_L0_sh.T ⊕ WT s_PutWord_L0_es)) none (fun v' => some (Sum.inl v')) (fun w => some (Sum.inr w)) = _
  unfold s_PutWord_L0_B s_PutWord_L0_f
  exact bifG (by simp only [decide_eq_true_eq]; omega) (bifG (by (try simp only [Nat.ble_eq, Bool.and_eq_true, decide_eq_true_eq]); grind [maxSl, maxStr, toBytes_length, toInts_length, List.length_set, wrap64]) ((by exact congrArg (fun z => some (Sum.inl (s_PutWord_L0_mk (IntKind.wrap .i64 (v0.tdiv 256)) z (v2.set v1.toNat (IntKind.wrap .u8 (v0.tmod 256)))))) hw)))
theorem s_PutWord_L0_cl (v0 : Int) (v1 : Int) (v2 : List Int) (h0 : v1 ≤ 9223372036854775807) (h1 : 0 ≤ 0) (h2 : v1 < (v2.length : Int)) : loopF s_PutWord_L0_r.step (s_PutWord_L0_fu v0 v1 v2) (s_PutWord_L0_mk v0 v1 v2) = some (Stp.elim (fun a => (fun i a => s_PutWord_L0_mx0 a.2) (v1 + (-1) * (((Int.toNat (v1 - 0 + 1)) : Nat) : Int)) a) (fun p : Empty => nomatch p) (forN (s_PutWord_L0_f ) (-1) (Int.toNat (v1 - 0 + 1)) v1 (v0, v2))) :=
  forN_loop (step := s_PutWord_L0_r.step) (mk := fun v1 a => s_PutWord_L0_mk a.1 v1 a.2) (f := s_PutWord_L0_f ) (e := (fun i a => s_PutWord_L0_mx0 a.2)) (emb := (fun p : Empty => nomatch p)) (st := (-1)) (Inv := fun v1 a => v1 < (a.2.length : Int)) (Int.toNat (v1 - 0 + 1)) v1 (v0, v2) _ (Nat.lt_succ_self _) h2
    (fun j a hj hv => ⟨s_PutWord_L0_st a.1 (v1 + (-1) * (j : Int)) a.2 (by omega) (by omega) (by omega) hv, by
      intro a' he
      grind [s_PutWord_L0_f, letK, Stp.elim, wrap64, List.length_set]⟩)
    (fun a hv => by
      show s_PutWord_L0_B a.1 (v1 + (-1) * (((Int.toNat (v1 - 0 + 1)) : Nat) : Int)) a.2 (Option (s_PutWord_L0_sh.T ⊕ WT s_PutWord_L0_es)) none (fun v' => some (Sum.inl v')) (fun w => some (Sum.inr w)) = _
      unfold s_PutWord_L0_B
      exact bifN (by simp only [decide_eq_false_iff_not]; omega) rfl)
theorem s_PutWord_L0_nx (v0 : Int) (v1 : Int) (v2 : List Int) (h0 : v1 ≤ 9223372036854775807) (h1 : 0 ≤ 0) (h2 : v1 < (v2.length : Int)) : ∀ a', forN (s_PutWord_L0_f ) (-1) (Int.toNat (v1 - 0 + 1)) v1 (v0, v2) = .next a' → (v1 + (-1) * (((Int.toNat (v1 - 0 + 1)) : Nat) : Int)) < (a'.2.length : Int) :=
  forN_inv (f := s_PutWord_L0_f ) (st := (-1)) (Inv := fun v1 a => v1 < (a.2.length : Int)) (Int.toNat (v1 - 0 + 1)) v1 (v0, v2) h2
    (fun j a hj hv => by
      intro a' he
      grind [s_PutWord_L0_f, letK, Stp.elim, wrap64, List.length_set])
def s_PutWord_N (x0 : Int) (x1 : Int) (γ : Type) (fail : γ) (k : Bytes → γ) : γ :=
  letK (α := Bool) (s_l1In x1 1 6) fun c1 =>
  bif (!c1) then
    k []
  else
  letK (α := Bool) (s_WordOk x0 (IntKind.wrap .i64 (8 * x1))) fun c2 =>
  bif (!c2) then
    k []
  else
  bif ((((decide (0 ≤ x1)) && (decide (x1 = x1))) && (decide (x1 * 1 ≤ (maxSl : Int)))) && (decide (x1 ≤ (maxSl : Int)))) then
  optK (loopF s_PutWord_L0_r.step (s_PutWord_L0_fu x0 (IntKind.wrap .i64 (x1 - 1)) (List.replicate x1.toNat 0)) (s_PutWord_L0_mk x0 (IntKind.wrap .i64 (x1 - 1)) (List.replicate x1.toNat 0))) fail fun w3 =>
    k (toBytes w3.2.1)
  else fail
def s_PutWord (x0 : Int) (x1 : Int) : Bytes :=
  letK (α := Bool) (s_l1In x1 1 6) fun c1 =>
  bif (!c1) then
    []
  else
  letK (α := Bool) (s_WordOk x0 (IntKind.wrap .i64 (8 * x1))) fun c2 =>
  bif (!c2) then
    []
  else
  Stp.elim (fun a4 =>
    (toBytes a4.2))
    (fun p : Empty => nomatch p)
    (forN (s_PutWord_L0_f) (-1) (Int.toNat ((IntKind.wrap .i64 (x1 - 1)) - 0 + 1)) (IntKind.wrap .i64 (x1 - 1)) (x0, (List.replicate x1.toNat 0)))
theorem s_PutWord_lk (x0 : Int) (x1 : Int) : evalFn te (orcOf (P := Try.prog) [s_l1In_e, s_WordOk_e]) (lorcOf [s_PutWord_L0_le]) s_PutWord_ann Try.f147 (pvs [.sc (.int .i64), .sc (.int .i64)] (x0, x1, ())) =
  s_PutWord_N x0 x1 _ none (fun v => some [(false, [RC.c (.str v)])]) := by kernel_rfl
theorem s_PutWord_p (x0 : Int) (x1 : Int) (hx0 : inK .i64 x0) (hx1 : inK .i64 x1)  (γ : Type) (fail : γ) (k : Bytes → γ) : s_PutWord_N x0 x1 γ fail k = k (s_PutWord x0 x1) := by
  unfold s_PutWord_N s_PutWord
  exact letT (f := k) (fun c1 hc1 => bifT (f := k) (fun b0 => rfl)
      (fun b0 => letT (f := k) (fun c2 hc2 => bifT (f := k) (fun b1 => rfl)
      (fun b1 => bifG (by (try simp only [Nat.ble_eq, Bool.and_eq_true, decide_eq_true_eq, s_PutWord_L0_mx0]); grind [maxSl, maxStr, toBytes_length, toInts_length, List.length_set, wrap64, s_l1In_eq, wrap64]) (loopX (f := k) (s_PutWord_L0_cl x0 (IntKind.wrap .i64 (x1 - 1)) (List.replicate x1.toNat 0) (by (try simp only [Nat.ble_eq, Bool.and_eq_true, decide_eq_true_eq, s_PutWord_L0_mx0]); grind [maxSl, maxStr, toBytes_length, toInts_length, List.length_set, wrap64, s_l1In_eq, wrap64]) (by (try simp only [Nat.ble_eq, Bool.and_eq_true, decide_eq_true_eq, s_PutWord_L0_mx0]); grind [maxSl, maxStr, toBytes_length, toInts_length, List.length_set, wrap64, s_l1In_eq, wrap64]) (by (try simp only [Nat.ble_eq, Bool.and_eq_true, decide_eq_true_eq, s_PutWord_L0_mx0]); grind [maxSl, maxStr, toBytes_length, toInts_length, List.length_set, wrap64, s_l1In_eq, wrap64])) (fun a4 ha4 => have ia4 := s_PutWord_L0_nx x0 (IntKind.wrap .i64 (x1 - 1)) (List.replicate x1.toNat 0) (by (try simp only [Nat.ble_eq, Bool.and_eq_true, decide_eq_true_eq, s_PutWord_L0_mx0]); grind [maxSl, maxStr, toBytes_length, toInts_length, List.length_set, wrap64, s_l1In_eq, wrap64]) (by (try simp only [Nat.ble_eq, Bool.and_eq_true, decide_eq_true_eq, s_PutWord_L0_mx0]); grind [maxSl, maxStr, toBytes_length, toInts_length, List.length_set, wrap64, s_l1In_eq, wrap64]) (by (try simp only [Nat.ble_eq, Bool.and_eq_true, decide_eq_true_eq, s_PutWord_L0_mx0]); grind [maxSl, maxStr, toBytes_length, toInts_length, List.length_set, wrap64, s_l1In_eq, wrap64]) _ ha4; rfl)
      (fun p : Empty => nomatch p))))))
theorem s_PutWord_c (x0 : Int) (x1 : Int)  : Con Try.prog 147 (pvs [.sc (.int .i64), .sc (.int .i64)] (x0, x1, ())) [rv (.sc .str) [] (s_PutWord x0 x1)] := by
  refine Con.of_facts (enters_of Try.func147 rfl (by kernel_rfl)) fun hf => ?_
  replace hf := factAt hf
  exact evalFn_conL teFact mixFact (orcOf_ok _) Try.func147 (by kernel_rfl) (bs := [0]) (by kernel_rfl) (by kernel_rfl) (fun w0 mo I0 hmo => ⟨lsem_of_lorc (s_PutWord_L0_ls w0 mo I0 hmo) (by kernel_rfl), trivial⟩) ((s_PutWord_lk x0 x1).trans (s_PutWord_p x0 x1 ((hf 0 0 rfl rfl).rng) ((hf 1 0 rfl rfl).rng) _ _ _))
noncomputable def s_PutWord_e : Ent1 Try.prog := entA 147 [.sc (.int .i64), .sc (.int .i64)] (fun x => (s_PutWord x.1 x.2.1)) (fun v => [rv (.sc .str) [] v]) (fun x => s_PutWord_c x.1 x.2.1)

theorem s_PutWord_len (x0 x1 : Int) : (s_PutWord x0 x1).length ≤ 6 := by
  unfold s_PutWord
  cases hw : s_l1In x1 1 6 with
  | false => simp [letK]
  | true =>
    rw [s_l1In_eq] at hw
    simp only [Bool.and_eq_true, decide_eq_true_eq] at hw
    simp only [letK, Bool.not_true, cond_false]
    cases s_WordOk x0 (IntKind.wrap .i64 (8 * x1)) with
    | false => simp
    | true =>
      simp only [Bool.not_true, cond_false]
      cases hf : forN (s_PutWord_L0_f) (-1) (Int.toNat ((IntKind.wrap .i64 (x1 - 1)) - 0 + 1)) (IntKind.wrap .i64 (x1 - 1)) (x0, (List.replicate x1.toNat 0)) with
      | out p => nomatch p
      | next a =>
        have := forN_inv (Inv := fun _ a => a.2.length = x1.toNat) _ _ _ (by simp) (fun j a _ h a' he => by unfold s_PutWord_L0_f at he; cases he; simpa using h) a hf
        simp only [Stp.elim, toBytes_length]
        omega


/-- impl.SameMac -/
def i_SameMac_N (x0 : Mac) (x1 : Mac) (γ : Type) (fail : γ) (k : Bool → γ) : γ :=
  bif (x0.use == x1.use) then
    bif (x0.k == x1.k) then
      bif (x0.l == x1.l) then
        letK (α := Bool) (g_Equal_MacRow x0.rows x1.rows) fun c1 =>
        k c1
      else
      k false
    else
    k false
  else
  k false
def i_SameMac (x0 : Mac) (x1 : Mac) : Bool :=
  bif (x0.use == x1.use) then
    bif (x0.k == x1.k) then
      bif (x0.l == x1.l) then
        letK (α := Bool) (g_Equal_MacRow x0.rows x1.rows) fun c1 =>
        c1
      else
      false
    else
    false
  else
  false
theorem i_SameMac_lk (x0 : Mac) (x1 : Mac) : evalFn te (orcOf (P := Try.prog) [g_Equal_MacRow_e]) lorc0 [] Try.f150 (pvs [.st .mac, .st .mac] (x0, x1, ())) =
  i_SameMac_N x0 x1 _ none (fun v => some [(false, [RC.c (.bool v)])]) := by kernel_rfl
theorem i_SameMac_p (x0 : Mac) (x1 : Mac)   (γ : Type) (fail : γ) (k : Bool → γ) : i_SameMac_N x0 x1 γ fail k = k (i_SameMac x0 x1) := by
  unfold i_SameMac_N i_SameMac
  exact bifT (f := k) (fun b0 => bifT (f := k) (fun b1 => bifT (f := k) (fun b2 => letT (f := k) (fun c1 hc1 => rfl))
      (fun b2 => rfl))
      (fun b1 => rfl))
      (fun b0 => rfl)
theorem i_SameMac_c (x0 : Mac) (x1 : Mac)  : Con Try.prog 150 (pvs [.st .mac, .st .mac] (x0, x1, ())) [rv (.sc .bool) [] (i_SameMac x0 x1)] := by
  exact evalFn_con0 teFact mixFact (orcOf_ok _) Try.func150 (by kernel_rfl) ((i_SameMac_lk x0 x1).trans (i_SameMac_p x0 x1  _ _ _))
noncomputable def i_SameMac_e : Ent1 Try.prog := entA 150 [.st .mac, .st .mac] (fun x => (i_SameMac x.1 x.2.1)) (fun v => [rv (.sc .bool) [] v]) (fun x => i_SameMac_c x.1 x.2.1)


/-- impl.cloneMac -/
def i_cloneMac_N (x0 : Mac) (γ : Type) (fail : γ) (k : Mac → γ) : γ :=
  bif (decide (x0.rows.length ≤ 4294967296)) then
  letK (α := List MacRow) (g_Clone_MacRow x0.rows) fun c1 =>
  k ({ x0 with rows := c1 } : Mac)
  else fail
def i_cloneMac (x0 : Mac) : Mac :=
  letK (α := List MacRow) (g_Clone_MacRow x0.rows) fun c1 =>
  ({ x0 with rows := c1 } : Mac)
theorem i_cloneMac_lk (x0 : Mac) : evalFn te (orcOf (P := Try.prog) [g_Clone_MacRow_e]) lorc0 [] Try.f151 (pvs [.st .mac] (x0, ())) =
  i_cloneMac_N x0 _ none (fun v => some [(true, [RC.c (.bool v.use), RC.c (.int .u64 v.k), RC.c (.int .u64 v.l), RC.own true .macRow v.rows])]) := by kernel_rfl
theorem i_cloneMac_p (x0 : Mac) (hx0_k : inK .u64 x0.k) (hx0_l : inK .u64 x0.l) (hx0_rows : x0.rows.length ≤ 140737488355328) (hx0_rows_e : ∀ y ∈ x0.rows, ∀ c ∈ Ty.cells .macRow y, FactC c) (hp : x0.rows.length ≤ 4294967296) (γ : Type) (fail : γ) (k : Mac → γ) : i_cloneMac_N x0 γ fail k = k (i_cloneMac x0) := by
  unfold i_cloneMac_N i_cloneMac
  exact bifG (by (try simp only [Nat.ble_eq, Bool.and_eq_true, decide_eq_true_eq]); grind [maxSl, maxStr, toBytes_length, toInts_length, List.length_set, wrap64]) (letT (f := k) (fun c1 hc1 => rfl))
theorem i_cloneMac_c (x0 : Mac) (hp : x0.rows.length ≤ 4294967296) : Con Try.prog 151 (pvs [.st .mac] (x0, ())) [rv (.st .mac) [.c, .c, .c, .o true] (i_cloneMac x0)] := by
  refine Con.of_facts (enters_of Try.func151 rfl (by kernel_rfl)) fun hf => ?_
  replace hf := factAt hf
  exact evalFn_con0 teFact mixFact (orcOf_ok _) Try.func151 (by kernel_rfl) ((i_cloneMac_lk x0).trans (i_cloneMac_p x0 ((hf 0 1 rfl rfl).rng) ((hf 0 2 rfl rfl).rng) ((hf 0 3 rfl rfl).len) (fun y hy => (hf 0 3 rfl rfl).elem hy) hp _ _ _))
noncomputable def i_cloneMac_e : Ent1 Try.prog := entP 151 [.st .mac] (fun x => (decide (x.1.rows.length ≤ 4294967296))) (fun x => (i_cloneMac x.1)) (fun v => [rv (.st .mac) [.c, .c, .c, .o true] v]) (fun x hx => i_cloneMac_c x.1 (of_decide_eq_true hx))

theorem i_cloneMac_len (x0 : Mac) (hp : x0.rows.length ≤ 4294967296)  : (fun v : Mac => v.rows.length ≤ x0.rows.length) (i_cloneMac x0) := by
  unfold i_cloneMac
  exact letP (P := (fun v : Mac => v.rows.length ≤ x0.rows.length)) (fun c1 hc1 => (by subst_vars; exact Nat.le_refl _))

/-- impl.PutWord -/
def i_PutWord_ann : List (Nat × Keep) := [(0, ⟨[0, 5, 6], [], false, 0⟩)]
def i_PutWord_L0_sh : Sh := ⟨[(0, false, [.int .i64]), (5, false, [.own 0]), (6, false, [.int .i64])], [.arr .u8 false true]⟩
def i_PutWord_L0_es : List (Ex × Sh) := [(.exit 0, ⟨[(4, false, [.undef]), (5, false, [.own 0])], [.arr .u8 false true]⟩)]
def i_PutWord_L0_mk (v0 : Int) (v1 : Int) (v2 : List Int) : i_PutWord_L0_sh.T := (((v0, ()), (((), ()), ((v1, ()), ()))), (v2, ()))
def i_PutWord_L0_mx0 (y0 : List Int) : Sh.T ⟨[(4, false, [.undef]), (5, false, [.own 0])], [.arr .u8 false true]⟩ := ((((), ()), (((), ()), ())), (y0, ()))
def i_PutWord_L0_B (v0 : Int) (v1 : Int) (v2 : List Int) (γ : Type) (fail : γ) (next : i_PutWord_L0_sh.T → γ) (out : WT i_PutWord_L0_es → γ) : γ :=
  bif (decide (0 ≤ v1)) then
    bif ((decide (0 ≤ v1)) && (decide (v1 < (v2.length : Int)))) then
    next (i_PutWord_L0_mk (v0.fdiv 256) (IntKind.wrap .i64 (v1 - 1)) (v2.set v1.toNat (IntKind.wrap .u8 v0)))
    else fail
  else
  out (i_PutWord_L0_mx0 v2)
theorem i_PutWord_L0_par (v0 : Int) (v1 : Int) (v2 : List Int) (γ : Type) (fail : γ) (next : i_PutWord_L0_sh.T → γ) (out : WT i_PutWord_L0_es → γ) : i_PutWord_L0_B v0 v1 v2 γ fail next out = optK (i_PutWord_L0_B v0 v1 v2 _ none (fun v' => some (.inl v')) (fun w => some (.inr w))) fail (fun r => Sum.elim next out r) := by
  unfold i_PutWord_L0_B
  exact bifT (f := (fun o => optK o fail (fun r => Sum.elim next out r))) (fun _ => bifT (f := (fun o => optK o fail (fun r => Sum.elim next out r))) (fun _ => rfl) (fun _ => rfl))
      (fun _ => rfl)
def i_PutWord_L0_r : Round i_PutWord_L0_sh.T (WT i_PutWord_L0_es) where
  B v γ fail next out := i_PutWord_L0_B v.1.1.1 v.1.2.2.1.1 v.2.1 γ fail next out
  par v γ fail next out := i_PutWord_L0_par v.1.1.1 v.1.2.2.1.1 v.2.1 γ fail next out
def i_PutWord_L0_fu (v0 : Int) (v1 : Int) (v2 : List Int) : Nat := (Int.toNat (v1 - 0 + 1)) + 1
theorem i_PutWord_L0_lk (v : i_PutWord_L0_sh.T) (next : St → Option Res) (k : Ex → St → Option Res) : evalK te (orcOf (P := Try.prog) [i_within_e, i_WordOk_e]) (lorcOf []) Try.f178.ntmps i_PutWord_ann (nthLoop (bodyOf Try.f178) 0 0) 0 (i_PutWord_L0_sh.enc v) (endK ⟨[0, 5, 6], [], false, 0⟩ ⟨[4, 5], [], false, 0⟩ next k) =
  i_PutWord_L0_r.B v _ none (fun v' => next (i_PutWord_L0_sh.enc v')) (fun w => outK i_PutWord_L0_es k w) := by kernel_rfl
def i_PutWord_L0_le : LE := leOf 0 i_PutWord_L0_sh i_PutWord_L0_es i_PutWord_L0_r.step (fun v => i_PutWord_L0_fu v.1.1.1 v.1.2.2.1.1 v.2.1)
theorem i_PutWord_L0_ls (w0 : World) (mo : Mts) (I0 : Nat → Prop) (hmo : mo.length = 0) : LSem Try.prog (Sim w0 mo Try.f178.ntmps I0) (fun b s k => match Nat.beq 0 b with | true => i_PutWord_L0_le.run s k | false => none) 0 (nthLoop (bodyOf Try.f178) 0 0) :=
  le_sem hmo (lorc := lorcOf []) (ann := i_PutWord_ann) (keep := ⟨[0, 5, 6], [], false, 0⟩) (kout := ⟨[4, 5], [], false, 0⟩) teFact mixFact (orcOf_ok _) (by kernel_rfl) (allLoops_of (bs := []) (by kernel_rfl) trivial) i_PutWord_L0_r _ i_PutWord_L0_lk
def i_PutWord_L0_f  (v1 : Int) (a : Int × List Int) : Stp (Int × List Int) (Empty) :=
  .next ((a.1.fdiv 256), (a.2.set v1.toNat (IntKind.wrap .u8 a.1)))
theorem i_PutWord_L0_st (v0 : Int) (v1 : Int) (v2 : List Int) (hlo : 0 ≤ v1) (hhi : v1 ≤ 9223372036854775807) (hN : 0 ≤ 0) (hinv : v1 < (v2.length : Int)) : i_PutWord_L0_r.step (i_PutWord_L0_mk v0 v1 v2) = Stp.elim (fun a' : Int × List Int => some (Sum.inl (i_PutWord_L0_mk a'.1 (v1 + (-1)) a'.2))) (fun w => some (Sum.inr ((fun p : Empty => nomatch p) w))) (i_PutWord_L0_f  v1 (v0, v2)) := by
  have hw : (IntKind.wrap .i64 (v1 - 1)) = v1 + (-1) := wrap64 (by omega) (by omega)
  show i_PutWord_L0_B v0 v1 v2 (Option (i_PutWord_L0_sh.T ⊕ WT i_PutWord_L0_es)) none (fun v' => some (Sum.inl v')) (fun w => some (Sum.inr w)) = _
  unfold i_PutWord_L0_B i_PutWord_L0_f
  exact bifG (by simp only [decide_eq_true_eq]; omega) (bifG (by (try simp only [Nat.ble_eq, Bool.and_eq_true, decide_eq_true_eq]); grind [maxSl, maxStr, toBytes_length, toInts_length, List.length_set, wrap64]) ((by exact congrArg (fun z => some (Sum.inl (i_PutWord_L0_mk (v0.fdiv 256) z (v2.set v1.toNat (IntKind.wrap .u8 v0))))) hw)))
theorem i_PutWord_L0_cl (v0 : Int) (v1 : Int) (v2 : List Int) (h0 : v1 ≤ 9223372036854775807) (h1 : 0 ≤ 0) (h2 : v1 < (v2.length : Int)) : loopF i_PutWord_L0_r.step (i_PutWord_L0_fu v0 v1 v2) (i_PutWord_L0_mk v0 v1 v2) = some (Stp.elim (fun a => (fun i a => i_PutWord_L0_mx0 a.2) (v1 + (-1) * (((Int.toNat (v1 - 0 + 1)) : Nat) : Int)) a) (fun p : Empty => nomatch p) (forN (i_PutWord_L0_f ) (-1) (Int.toNat (v1 - 0 + 1)) v1 (v0, v2))) :=
  forN_loop (step := i_PutWord_L0_r.step) (mk := fun v1 a => i_PutWord_L0_mk a.1 v1 a.2) (f := i_PutWord_L0_f ) (e := (fun i a => i_PutWord_L0_mx0 a.2)) (emb := (fun p : Empty => nomatch p)) (st := (-1)) (Inv := fun v1 a => v1 < (a.2.length : Int)) (Int.toNat (v1 - 0 + 1)) v1 (v0, v2) _ (Nat.lt_succ_self _) h2
    (fun j a hj hv => ⟨i_PutWord_L0_st a.1 (v1 + (-1) * (j : Int)) a.2 (by omega) (by omega) (by omega) hv, by
      intro a' he
      grind [i_PutWord_L0_f, letK, Stp.elim, wrap64, List.length_set]⟩)
    (fun a hv => by
      show i_PutWord_L0_B a.1 (v1 + (-1) * (((Int.toNat (v1 - 0 + 1)) : Nat) : Int)) a.2 (Option (i_PutWord_L0_sh.T ⊕ WT i_PutWord_L0_es)) none (fun v' => some (Sum.inl v')) (fun w => some (Sum.inr w)) = _
      unfold i_PutWord_L0_B
      exact bifN (by simp only [decide_eq_false_iff_not]; omega) rfl)
theorem i_PutWord_L0_nx (v0 : Int) (v1 : Int) (v2 : List Int) (h0 : v1 ≤ 9223372036854775807) (h1 : 0 ≤ 0) (h2 : v1 < (v2.length : Int)) : ∀ a', forN (i_PutWord_L0_f ) (-1) (Int.toNat (v1 - 0 + 1)) v1 (v0, v2) = .next a' → (v1 + (-1) * (((Int.toNat (v1 - 0 + 1)) : Nat) : Int)) < (a'.2.length : Int) :=
  forN_inv (f := i_PutWord_L0_f ) (st := (-1)) (Inv := fun v1 a => v1 < (a.2.length : Int)) (Int.toNat (v1 - 0 + 1)) v1 (v0, v2) h2
    (fun j a hj hv => by
      intro a' he
      grind [i_PutWord_L0_f, letK, Stp.elim, wrap64, List.length_set])
def i_PutWord_N (x0 : Int) (x1 : Int) (γ : Type) (fail : γ) (k : Bytes → γ) : γ :=
  letK (α := Bool) (i_within x1 1 6) fun c1 =>
  bif (!c1) then
    k []
  else
  letK (α := Bool) (i_WordOk x0 (IntKind.wrap .i64 (8 * x1))) fun c2 =>
  bif (!c2) then
    k []
  else
  bif ((((decide (0 ≤ x1)) && (decide (x1 = x1))) && (decide (x1 * 1 ≤ (maxSl : Int)))) && (decide (x1 ≤ (maxSl : Int)))) then
  optK (loopF i_PutWord_L0_r.step (i_PutWord_L0_fu x0 (IntKind.wrap .i64 (x1 - 1)) (List.replicate x1.toNat 0)) (i_PutWord_L0_mk x0 (IntKind.wrap .i64 (x1 - 1)) (List.replicate x1.toNat 0))) fail fun w3 =>
    k (toBytes w3.2.1)
  else fail
def i_PutWord (x0 : Int) (x1 : Int) : Bytes :=
  letK (α := Bool) (i_within x1 1 6) fun c1 =>
  bif (!c1) then
    []
  else
  letK (α := Bool) (i_WordOk x0 (IntKind.wrap .i64 (8 * x1))) fun c2 =>
  bif (!c2) then
    []
  else
  Stp.elim (fun a4 =>
    (toBytes a4.2))
    (fun p : Empty => nomatch p)
    (forN (i_PutWord_L0_f) (-1) (Int.toNat ((IntKind.wrap .i64 (x1 - 1)) - 0 + 1)) (IntKind.wrap .i64 (x1 - 1)) (x0, (List.replicate x1.toNat 0)))
theorem i_PutWord_lk (x0 : Int) (x1 : Int) : evalFn te (orcOf (P := Try.prog) [i_within_e, i_WordOk_e]) (lorcOf [i_PutWord_L0_le]) i_PutWord_ann Try.f178 (pvs [.sc (.int .i64), .sc (.int .i64)] (x0, x1, ())) =
  i_PutWord_N x0 x1 _ none (fun v => some [(false, [RC.c (.str v)])]) := by kernel_rfl
theorem i_PutWord_p (x0 : Int) (x1 : Int) (hx0 : inK .i64 x0) (hx1 : inK .i64 x1)  (γ : Type) (fail : γ) (k : Bytes → γ) : i_PutWord_N x0 x1 γ fail k = k (i_PutWord x0 x1) := by
  unfold i_PutWord_N i_PutWord
  exact letT (f := k) (fun c1 hc1 => bifT (f := k) (fun b0 => rfl)
      (fun b0 => letT (f := k) (fun c2 hc2 => bifT (f := k) (fun b1 => rfl)
      (fun b1 => bifG (by (try simp only [Nat.ble_eq, Bool.and_eq_true, decide_eq_true_eq, i_PutWord_L0_mx0]); grind [maxSl, maxStr, toBytes_length, toInts_length, List.length_set, wrap64, i_within_eq, wrap64]) (loopX (f := k) (i_PutWord_L0_cl x0 (IntKind.wrap .i64 (x1 - 1)) (List.replicate x1.toNat 0) (by (try simp only [Nat.ble_eq, Bool.and_eq_true, decide_eq_true_eq, i_PutWord_L0_mx0]); grind [maxSl, maxStr, toBytes_length, toInts_length, List.length_set, wrap64, i_within_eq, wrap64]) (by (try simp only [Nat.ble_eq, Bool.and_eq_true, decide_eq_true_eq, i_PutWord_L0_mx0]); grind [maxSl, maxStr, toBytes_length, toInts_length, List.length_set, wrap64, i_within_eq, wrap64]) (by (try simp only [Nat.ble_eq, Bool.and_eq_true, decide_eq_true_eq, i_PutWord_L0_mx0]); grind [maxSl, maxStr, toBytes_length, toInts_length, List.length_set, wrap64, i_within_eq, wrap64])) (fun a4 ha4 => have ia4 := i_PutWord_L0_nx x0 (IntKind.wrap .i64 (x1 - 1)) (List.replicate x1.toNat 0) (by (try simp only [Nat.ble_eq, Bool.and_eq_true, decide_eq_true_eq, i_PutWord_L0_mx0]); grind [maxSl, maxStr, toBytes_length, toInts_length, List.length_set, wrap64, i_within_eq, wrap64]) (by (try simp only [Nat.ble_eq, Bool.and_eq_true, decide_eq_true_eq, i_PutWord_L0_mx0]); grind [maxSl, maxStr, toBytes_length, toInts_length, List.length_set, wrap64, i_within_eq, wrap64]) (by (try simp only [Nat.ble_eq, Bool.and_eq_true, decide_eq_true_eq, i_PutWord_L0_mx0]); grind [maxSl, maxStr, toBytes_length, toInts_length, List.length_set, wrap64, i_within_eq, wrap64]) _ ha4; rfl)
      (fun p : Empty => nomatch p))))))
theorem i_PutWord_c (x0 : Int) (x1 : Int)  : Con Try.prog 178 (pvs [.sc (.int .i64), .sc (.int .i64)] (x0, x1, ())) [rv (.sc .str) [] (i_PutWord x0 x1)] := by
  refine Con.of_facts (enters_of Try.func178 rfl (by kernel_rfl)) fun hf => ?_
  replace hf := factAt hf
  exact evalFn_conL teFact mixFact (orcOf_ok _) Try.func178 (by kernel_rfl) (bs := [0]) (by kernel_rfl) (by kernel_rfl) (fun w0 mo I0 hmo => ⟨lsem_of_lorc (i_PutWord_L0_ls w0 mo I0 hmo) (by kernel_rfl), trivial⟩) ((i_PutWord_lk x0 x1).trans (i_PutWord_p x0 x1 ((hf 0 0 rfl rfl).rng) ((hf 1 0 rfl rfl).rng) _ _ _))
noncomputable def i_PutWord_e : Ent1 Try.prog := entA 178 [.sc (.int .i64), .sc (.int .i64)] (fun x => (i_PutWord x.1 x.2.1)) (fun v => [rv (.sc .str) [] v]) (fun x => i_PutWord_c x.1 x.2.1)

theorem i_PutWord_len (x0 x1 : Int) : (i_PutWord x0 x1).length ≤ 6 := by
  unfold i_PutWord
  cases hw : i_within x1 1 6 with
  | false => simp [letK]
  | true =>
    rw [i_within_eq] at hw
    simp only [Bool.and_eq_true, decide_eq_true_eq] at hw
    simp only [letK, Bool.not_true, cond_false]
    cases i_WordOk x0 (IntKind.wrap .i64 (8 * x1)) with
    | false => simp
    | true =>
      simp only [Bool.not_true, cond_false]
      cases hf : forN (i_PutWord_L0_f) (-1) (Int.toNat ((IntKind.wrap .i64 (x1 - 1)) - 0 + 1)) (IntKind.wrap .i64 (x1 - 1)) (x0, (List.replicate x1.toNat 0)) with
      | out p => nomatch p
      | next a =>
        have := forN_inv (Inv := fun _ a => a.2.length = x1.toNat) _ _ _ (by simp) (fun j a _ h a' he => by unfold i_PutWord_L0_f at he; cases he; simpa using h) a hf
        simp only [Stp.elim, toBytes_length]
        omega


/-- impl.SipRound -/
def i_SipRound_N (x0 : Sipr) (γ : Type) (fail : γ) (k : Sipr → γ) : γ :=
  letK (α := Int) (mb_RotateLeft64 x0.b 13) fun c1 =>
  letK (α := Int) (mb_RotateLeft64 (IntKind.wrap .u64 (x0.a + x0.b)) 32) fun c2 =>
  letK (α := Int) (mb_RotateLeft64 x0.d 16) fun c3 =>
  letK (α := Int) (IntKind.wrap .u64 (c2 + (bits .xor .u64 c3 (IntKind.wrap .u64 (x0.c + x0.d))))) fun e4 =>
  letK (α := Int) (mb_RotateLeft64 (bits .xor .u64 c3 (IntKind.wrap .u64 (x0.c + x0.d))) 21) fun c5 =>
  letK (α := Int) (IntKind.wrap .u64 ((IntKind.wrap .u64 (x0.c + x0.d)) + (bits .xor .u64 c1 (IntKind.wrap .u64 (x0.a + x0.b))))) fun e6 =>
  letK (α := Int) (mb_RotateLeft64 (bits .xor .u64 c1 (IntKind.wrap .u64 (x0.a + x0.b))) 17) fun c7 =>
  letK (α := Int) (mb_RotateLeft64 e6 32) fun c8 =>
  k (⟨e4, (bits .xor .u64 c7 e6), c8, (bits .xor .u64 c5 e4)⟩ : Sipr)
def i_SipRound (x0 : Sipr) : Sipr :=
  letK (α := Int) (mb_RotateLeft64 x0.b 13) fun c1 =>
  letK (α := Int) (mb_RotateLeft64 (IntKind.wrap .u64 (x0.a + x0.b)) 32) fun c2 =>
  letK (α := Int) (mb_RotateLeft64 x0.d 16) fun c3 =>
  letK (α := Int) (IntKind.wrap .u64 (c2 + (bits .xor .u64 c3 (IntKind.wrap .u64 (x0.c + x0.d))))) fun e4 =>
  letK (α := Int) (mb_RotateLeft64 (bits .xor .u64 c3 (IntKind.wrap .u64 (x0.c + x0.d))) 21) fun c5 =>
  letK (α := Int) (IntKind.wrap .u64 ((IntKind.wrap .u64 (x0.c + x0.d)) + (bits .xor .u64 c1 (IntKind.wrap .u64 (x0.a + x0.b))))) fun e6 =>
  letK (α := Int) (mb_RotateLeft64 (bits .xor .u64 c1 (IntKind.wrap .u64 (x0.a + x0.b))) 17) fun c7 =>
  letK (α := Int) (mb_RotateLeft64 e6 32) fun c8 =>
  (⟨e4, (bits .xor .u64 c7 e6), c8, (bits .xor .u64 c5 e4)⟩ : Sipr)
theorem i_SipRound_lk (x0 : Sipr) : evalFn te (orcOf (P := Try.prog) [mb_RotateLeft64_e]) lorc0 [] Try.f205 (pvs [.st .sipr] (x0, ())) =
  i_SipRound_N x0 _ none (fun v => some [(true, [RC.c (.int .u64 v.a), RC.c (.int .u64 v.b), RC.c (.int .u64 v.c), RC.c (.int .u64 v.d)])]) := by kernel_rfl
theorem i_SipRound_p (x0 : Sipr)   (γ : Type) (fail : γ) (k : Sipr → γ) : i_SipRound_N x0 γ fail k = k (i_SipRound x0) := by
  unfold i_SipRound_N i_SipRound
  exact letT (f := k) (fun c1 hc1 => letT (f := k) (fun c2 hc2 => letT (f := k) (fun c3 hc3 => letT (f := k) (fun e4 he4 => letT (f := k) (fun c5 hc5 => letT (f := k) (fun e6 he6 => letT (f := k) (fun c7 hc7 => letT (f := k) (fun c8 hc8 => rfl))))))))
theorem i_SipRound_c (x0 : Sipr)  : Con Try.prog 205 (pvs [.st .sipr] (x0, ())) [rv (.st .sipr) [] (i_SipRound x0)] := by
  exact evalFn_con0 teFact mixFact (orcOf_ok _) Try.func205 (by kernel_rfl) ((i_SipRound_lk x0).trans (i_SipRound_p x0  _ _ _))
noncomputable def i_SipRound_e : Ent1 Try.prog := entA 205 [.st .sipr] (fun x => (i_SipRound x.1)) (fun v => [rv (.st .sipr) [] v]) (fun x => i_SipRound_c x.1)


/-- spec.SipRound -/
def s_SipRound_N (x0 : Sipr) (γ : Type) (fail : γ) (k : Sipr → γ) : γ :=
  letK (α := Int) (s_l10Turn x0.b 13) fun c1 =>
  letK (α := Int) (s_l10Turn (IntKind.wrap .u64 (x0.a + x0.b)) 32) fun c2 =>
  letK (α := Int) (s_l10Turn x0.d 16) fun c3 =>
  letK (α := Int) (IntKind.wrap .u64 (c2 + (bits .xor .u64 c3 (IntKind.wrap .u64 (x0.c + x0.d))))) fun e4 =>
  letK (α := Int) (s_l10Turn (bits .xor .u64 c3 (IntKind.wrap .u64 (x0.c + x0.d))) 21) fun c5 =>
  letK (α := Int) (IntKind.wrap .u64 ((IntKind.wrap .u64 (x0.c + x0.d)) + (bits .xor .u64 c1 (IntKind.wrap .u64 (x0.a + x0.b))))) fun e6 =>
  letK (α := Int) (s_l10Turn (bits .xor .u64 c1 (IntKind.wrap .u64 (x0.a + x0.b))) 17) fun c7 =>
  letK (α := Int) (s_l10Turn e6 32) fun c8 =>
  k (⟨e4, (bits .xor .u64 c7 e6), c8, (bits .xor .u64 c5 e4)⟩ : Sipr)
def s_SipRound (x0 : Sipr) : Sipr :=
  letK (α := Int) (s_l10Turn x0.b 13) fun c1 =>
  letK (α := Int) (s_l10Turn (IntKind.wrap .u64 (x0.a + x0.b)) 32) fun c2 =>
  letK (α := Int) (s_l10Turn x0.d 16) fun c3 =>
  letK (α := Int) (IntKind.wrap .u64 (c2 + (bits .xor .u64 c3 (IntKind.wrap .u64 (x0.c + x0.d))))) fun e4 =>
  letK (α := Int) (s_l10Turn (bits .xor .u64 c3 (IntKind.wrap .u64 (x0.c + x0.d))) 21) fun c5 =>
  letK (α := Int) (IntKind.wrap .u64 ((IntKind.wrap .u64 (x0.c + x0.d)) + (bits .xor .u64 c1 (IntKind.wrap .u64 (x0.a + x0.b))))) fun e6 =>
  letK (α := Int) (s_l10Turn (bits .xor .u64 c1 (IntKind.wrap .u64 (x0.a + x0.b))) 17) fun c7 =>
  letK (α := Int) (s_l10Turn e6 32) fun c8 =>
  (⟨e4, (bits .xor .u64 c7 e6), c8, (bits .xor .u64 c5 e4)⟩ : Sipr)
theorem s_SipRound_lk (x0 : Sipr) : evalFn te (orcOf (P := Try.prog) [s_l10Turn_e]) lorc0 [] Try.f206 (pvs [.st .sipr] (x0, ())) =
  s_SipRound_N x0 _ none (fun v => some [(true, [RC.c (.int .u64 v.a), RC.c (.int .u64 v.b), RC.c (.int .u64 v.c), RC.c (.int .u64 v.d)])]) := by kernel_rfl
theorem s_SipRound_p (x0 : Sipr)   (γ : Type) (fail : γ) (k : Sipr → γ) : s_SipRound_N x0 γ fail k = k (s_SipRound x0) := by
  unfold s_SipRound_N s_SipRound
  exact letT (f := k) (fun c1 hc1 => letT (f := k) (fun c2 hc2 => letT (f := k) (fun c3 hc3 => letT (f := k) (fun e4 he4 => letT (f := k) (fun c5 hc5 => letT (f := k) (fun e6 he6 => letT (f := k) (fun c7 hc7 => letT (f := k) (fun c8 hc8 => rfl))))))))
theorem s_SipRound_c (x0 : Sipr)  : Con Try.prog 206 (pvs [.st .sipr] (x0, ())) [rv (.st .sipr) [] (s_SipRound x0)] := by
  exact evalFn_con0 teFact mixFact (orcOf_ok _) Try.func206 (by kernel_rfl) ((s_SipRound_lk x0).trans (s_SipRound_p x0  _ _ _))
noncomputable def s_SipRound_e : Ent1 Try.prog := entA 206 [.st .sipr] (fun x => (s_SipRound x.1)) (fun v => [rv (.st .sipr) [] v]) (fun x => s_SipRound_c x.1)


/-- impl.TupleOk -/
def i_TupleOk_N (x0 : Tupl) (γ : Type) (fail : γ) (k : Bool → γ) : γ :=
  letK (α := Bool) (i_WordOk x0.ip 32) fun c1 =>
  bif c1 then
    letK (α := Bool) (i_WordOk x0.port 16) fun c2 =>
    bif c2 then
      letK (α := Bool) (i_WordOk x0.my 16) fun c3 =>
      k c3
    else
    k false
  else
  k false
def i_TupleOk (x0 : Tupl) : Bool :=
  letK (α := Bool) (i_WordOk x0.ip 32) fun c1 =>
  bif c1 then
    letK (α := Bool) (i_WordOk x0.port 16) fun c2 =>
    bif c2 then
      letK (α := Bool) (i_WordOk x0.my 16) fun c3 =>
      c3
    else
    false
  else
  false
theorem i_TupleOk_lk (x0 : Tupl) : evalFn te (orcOf (P := Try.prog) [i_WordOk_e]) lorc0 [] Try.f48 (pvs [.st .tupl] (x0, ())) =
  i_TupleOk_N x0 _ none (fun v => some [(false, [RC.c (.bool v)])]) := by kernel_rfl
theorem i_TupleOk_p (x0 : Tupl)   (γ : Type) (fail : γ) (k : Bool → γ) : i_TupleOk_N x0 γ fail k = k (i_TupleOk x0) := by
  unfold i_TupleOk_N i_TupleOk
  exact letT (f := k) (fun c1 hc1 => bifT (f := k) (fun b0 => letT (f := k) (fun c2 hc2 => bifT (f := k) (fun b1 => letT (f := k) (fun c3 hc3 => rfl))
      (fun b1 => rfl)))
      (fun b0 => rfl))
theorem i_TupleOk_c (x0 : Tupl)  : Con Try.prog 48 (pvs [.st .tupl] (x0, ())) [rv (.sc .bool) [] (i_TupleOk x0)] := by
  exact evalFn_con0 teFact mixFact (orcOf_ok _) Try.func48 (by kernel_rfl) ((i_TupleOk_lk x0).trans (i_TupleOk_p x0  _ _ _))
noncomputable def i_TupleOk_e : Ent1 Try.prog := entA 48 [.st .tupl] (fun x => (i_TupleOk x.1)) (fun v => [rv (.sc .bool) [] v]) (fun x => i_TupleOk_c x.1)


/-- spec.TupleOk -/
def s_TupleOk_N (x0 : Tupl) (γ : Type) (fail : γ) (k : Bool → γ) : γ :=
  letK (α := Bool) (s_WordOk x0.ip 32) fun c1 =>
  bif c1 then
    letK (α := Bool) (s_WordOk x0.port 16) fun c2 =>
    bif c2 then
      letK (α := Bool) (s_WordOk x0.my 16) fun c3 =>
      k c3
    else
    k false
  else
  k false
def s_TupleOk (x0 : Tupl) : Bool :=
  letK (α := Bool) (s_WordOk x0.ip 32) fun c1 =>
  bif c1 then
    letK (α := Bool) (s_WordOk x0.port 16) fun c2 =>
    bif c2 then
      letK (α := Bool) (s_WordOk x0.my 16) fun c3 =>
      c3
    else
    false
  else
  false
theorem s_TupleOk_lk (x0 : Tupl) : evalFn te (orcOf (P := Try.prog) [s_WordOk_e]) lorc0 [] Try.f51 (pvs [.st .tupl] (x0, ())) =
  s_TupleOk_N x0 _ none (fun v => some [(false, [RC.c (.bool v)])]) := by kernel_rfl
theorem s_TupleOk_p (x0 : Tupl)   (γ : Type) (fail : γ) (k : Bool → γ) : s_TupleOk_N x0 γ fail k = k (s_TupleOk x0) := by
  unfold s_TupleOk_N s_TupleOk
  exact letT (f := k) (fun c1 hc1 => bifT (f := k) (fun b0 => letT (f := k) (fun c2 hc2 => bifT (f := k) (fun b1 => letT (f := k) (fun c3 hc3 => rfl))
      (fun b1 => rfl)))
      (fun b0 => rfl))
theorem s_TupleOk_c (x0 : Tupl)  : Con Try.prog 51 (pvs [.st .tupl] (x0, ())) [rv (.sc .bool) [] (s_TupleOk x0)] := by
  exact evalFn_con0 teFact mixFact (orcOf_ok _) Try.func51 (by kernel_rfl) ((s_TupleOk_lk x0).trans (s_TupleOk_p x0  _ _ _))
noncomputable def s_TupleOk_e : Ent1 Try.prog := entA 51 [.st .tupl] (fun x => (s_TupleOk x.1)) (fun v => [rv (.sc .bool) [] v]) (fun x => s_TupleOk_c x.1)


/-- spec.MacInput -/
def s_MacInput_N (x0 : Tupl) (x1 : Int) (x2 : Int) (x3 : Int) (γ : Type) (fail : γ) (k : Bytes → γ) : γ :=
  letK (α := Bool) (s_TupleOk x0) fun c1 =>
  bif (!c1) then
    k []
  else
  letK (α := Bool) (s_WordOk x1 32) fun c2 =>
  bif (!c2) then
    k []
  else
  letK (α := Bool) (s_WordOk x2 32) fun c3 =>
  bif (!c3) then
    k []
  else
  letK (α := Bool) (s_l1In x3 0 7) fun c4 =>
  bif (!c4) then
    k []
  else
  letK (α := Bytes) (s_PutWord x0.ip 4) fun c5 =>
  letK (α := Bytes) (s_PutWord x0.port 2) fun c6 =>
  bif (Nat.ble (c5.length + c6.length) maxStr) then
  letK (α := Bytes) (s_PutWord x0.my 2) fun c7 =>
  bif (Nat.ble ((c5 ++ c6).length + c7.length) maxStr) then
  letK (α := Bytes) (s_PutWord x1 4) fun c8 =>
  bif (Nat.ble (((c5 ++ c6) ++ c7).length + c8.length) maxStr) then
  letK (α := Bytes) (s_PutWord x2 4) fun c9 =>
  bif (Nat.ble ((((c5 ++ c6) ++ c7) ++ c8).length + c9.length) maxStr) then
  letK (α := Bytes) (s_PutWord x3 1) fun c10 =>
  bif (Nat.ble (((((c5 ++ c6) ++ c7) ++ c8) ++ c9).length + c10.length) maxStr) then
  k (((((c5 ++ c6) ++ c7) ++ c8) ++ c9) ++ c10)
  else fail
  else fail
  else fail
  else fail
  else fail
def s_MacInput (x0 : Tupl) (x1 : Int) (x2 : Int) (x3 : Int) : Bytes :=
  letK (α := Bool) (s_TupleOk x0) fun c1 =>
  bif (!c1) then
    []
  else
  letK (α := Bool) (s_WordOk x1 32) fun c2 =>
  bif (!c2) then
    []
  else
  letK (α := Bool) (s_WordOk x2 32) fun c3 =>
  bif (!c3) then
    []
  else
  letK (α := Bool) (s_l1In x3 0 7) fun c4 =>
  bif (!c4) then
    []
  else
  letK (α := Bytes) (s_PutWord x0.ip 4) fun c5 =>
  letK (α := Bytes) (s_PutWord x0.port 2) fun c6 =>
  letK (α := Bytes) (s_PutWord x0.my 2) fun c7 =>
  letK (α := Bytes) (s_PutWord x1 4) fun c8 =>
  letK (α := Bytes) (s_PutWord x2 4) fun c9 =>
  letK (α := Bytes) (s_PutWord x3 1) fun c10 =>
  (((((c5 ++ c6) ++ c7) ++ c8) ++ c9) ++ c10)
theorem s_MacInput_lk (x0 : Tupl) (x1 : Int) (x2 : Int) (x3 : Int) : evalFn te (orcOf (P := Try.prog) [s_TupleOk_e, s_WordOk_e, s_l1In_e, s_PutWord_e]) lorc0 [] Try.f107 (pvs [.st .tupl, .sc (.int .i64), .sc (.int .i64), .sc (.int .i64)] (x0, x1, x2, x3, ())) =
  s_MacInput_N x0 x1 x2 x3 _ none (fun v => some [(false, [RC.c (.str v)])]) := by kernel_rfl
theorem s_MacInput_p (x0 : Tupl) (x1 : Int) (x2 : Int) (x3 : Int) (hx0_ip : inK .i64 x0.ip) (hx0_port : inK .i64 x0.port) (hx0_my : inK .i64 x0.my) (hx1 : inK .i64 x1) (hx2 : inK .i64 x2) (hx3 : inK .i64 x3)  (γ : Type) (fail : γ) (k : Bytes → γ) : s_MacInput_N x0 x1 x2 x3 γ fail k = k (s_MacInput x0 x1 x2 x3) := by
  unfold s_MacInput_N s_MacInput
  exact letT (f := k) (fun c1 hc1 => bifT (f := k) (fun b0 => rfl)
      (fun b0 => letT (f := k) (fun c2 hc2 => bifT (f := k) (fun b1 => rfl)
      (fun b1 => letT (f := k) (fun c3 hc3 => bifT (f := k) (fun b2 => rfl)
      (fun b2 => letT (f := k) (fun c4 hc4 => bifT (f := k) (fun b3 => rfl)
      (fun b3 => letT (f := k) (fun c5 hc5 => letT (f := k) (fun c6 hc6 => bifG (by (try simp only [Nat.ble_eq, Bool.and_eq_true, decide_eq_true_eq]); grind [maxSl, maxStr, toBytes_length, toInts_length, List.length_set, wrap64, s_PutWord_len]) (letT (f := k) (fun c7 hc7 => bifG (by (try simp only [Nat.ble_eq, Bool.and_eq_true, decide_eq_true_eq]); grind [maxSl, maxStr, toBytes_length, toInts_length, List.length_set, wrap64, s_PutWord_len]) (letT (f := k) (fun c8 hc8 => bifG (by (try simp only [Nat.ble_eq, Bool.and_eq_true, decide_eq_true_eq]); grind [maxSl, maxStr, toBytes_length, toInts_length, List.length_set, wrap64, s_PutWord_len]) (letT (f := k) (fun c9 hc9 => bifG (by (try simp only [Nat.ble_eq, Bool.and_eq_true, decide_eq_true_eq]); grind [maxSl, maxStr, toBytes_length, toInts_length, List.length_set, wrap64, s_PutWord_len]) (letT (f := k) (fun c10 hc10 => bifG (by (try simp only [Nat.ble_eq, Bool.and_eq_true, decide_eq_true_eq]); grind [maxSl, maxStr, toBytes_length, toInts_length, List.length_set, wrap64, s_PutWord_len]) (rfl)))))))))))))))))))
theorem s_MacInput_c (x0 : Tupl) (x1 : Int) (x2 : Int) (x3 : Int)  : Con Try.prog 107 (pvs [.st .tupl, .sc (.int .i64), .sc (.int .i64), .sc (.int .i64)] (x0, x1, x2, x3, ())) [rv (.sc .str) [] (s_MacInput x0 x1 x2 x3)] := by
  refine Con.of_facts (enters_of Try.func107 rfl (by kernel_rfl)) fun hf => ?_
  replace hf := factAt hf
  exact evalFn_con0 teFact mixFact (orcOf_ok _) Try.func107 (by kernel_rfl) ((s_MacInput_lk x0 x1 x2 x3).trans (s_MacInput_p x0 x1 x2 x3 ((hf 0 0 rfl rfl).rng) ((hf 0 1 rfl rfl).rng) ((hf 0 2 rfl rfl).rng) ((hf 1 0 rfl rfl).rng) ((hf 2 0 rfl rfl).rng) ((hf 3 0 rfl rfl).rng) _ _ _))
noncomputable def s_MacInput_e : Ent1 Try.prog := entA 107 [.st .tupl, .sc (.int .i64), .sc (.int .i64), .sc (.int .i64)] (fun x => (s_MacInput x.1 x.2.1 x.2.2.1 x.2.2.2.1)) (fun v => [rv (.sc .str) [] v]) (fun x => s_MacInput_c x.1 x.2.1 x.2.2.1 x.2.2.2.1)

theorem s_MacInput_len (x0 : Tupl) (x1 : Int) (x2 : Int) (x3 : Int)   : (fun v : Bytes => v.length ≤ 64) (s_MacInput x0 x1 x2 x3) := by
  unfold s_MacInput
  exact letP (P := (fun v : Bytes => v.length ≤ 64)) (fun c1 hc1 => bifP (P := (fun v : Bytes => v.length ≤ 64)) (fun b0 => (by (try simp only [Nat.ble_eq, Bool.and_eq_true, decide_eq_true_eq]); grind [maxSl, maxStr, toBytes_length, toInts_length, List.length_set, wrap64, s_PutWord_len]))
      (fun b0 => letP (P := (fun v : Bytes => v.length ≤ 64)) (fun c2 hc2 => bifP (P := (fun v : Bytes => v.length ≤ 64)) (fun b1 => (by (try simp only [Nat.ble_eq, Bool.and_eq_true, decide_eq_true_eq]); grind [maxSl, maxStr, toBytes_length, toInts_length, List.length_set, wrap64, s_PutWord_len]))
      (fun b1 => letP (P := (fun v : Bytes => v.length ≤ 64)) (fun c3 hc3 => bifP (P := (fun v : Bytes => v.length ≤ 64)) (fun b2 => (by (try simp only [Nat.ble_eq, Bool.and_eq_true, decide_eq_true_eq]); grind [maxSl, maxStr, toBytes_length, toInts_length, List.length_set, wrap64, s_PutWord_len]))
      (fun b2 => letP (P := (fun v : Bytes => v.length ≤ 64)) (fun c4 hc4 => bifP (P := (fun v : Bytes => v.length ≤ 64)) (fun b3 => (by (try simp only [Nat.ble_eq, Bool.and_eq_true, decide_eq_true_eq]); grind [maxSl, maxStr, toBytes_length, toInts_length, List.length_set, wrap64, s_PutWord_len]))
      (fun b3 => letP (P := (fun v : Bytes => v.length ≤ 64)) (fun c5 hc5 => letP (P := (fun v : Bytes => v.length ≤ 64)) (fun c6 hc6 => letP (P := (fun v : Bytes => v.length ≤ 64)) (fun c7 hc7 => letP (P := (fun v : Bytes => v.length ≤ 64)) (fun c8 hc8 => letP (P := (fun v : Bytes => v.length ≤ 64)) (fun c9 hc9 => letP (P := (fun v : Bytes => v.length ≤ 64)) (fun c10 hc10 => (by (try simp only [Nat.ble_eq, Bool.and_eq_true, decide_eq_true_eq]); grind [maxSl, maxStr, toBytes_length, toInts_length, List.length_set, wrap64, s_PutWord_len])))))))))))))))

/-- impl.SecretOf -/
def i_SecretOf_N (x0 : Keys) (x1 : Int) (γ : Type) (fail : γ) (k : Mac × Bool → γ) : γ :=
  bif (x1 == x0.epoch) then
    bif (decide (x0.now.rows.length ≤ 4294967296)) then
    letK (α := Mac) (i_cloneMac x0.now) fun c1 =>
    k (c1, true)
    else fail
  else
  bif x0.two then
    bif (x1 == (IntKind.wrap .i64 (x0.epoch - 1))) then
      bif (decide (x0.before.rows.length ≤ 4294967296)) then
      letK (α := Mac) (i_cloneMac x0.before) fun c2 =>
      k (c2, true)
      else fail
    else
    k ((⟨false, 0, 0, []⟩ : Mac), false)
  else
  k ((⟨false, 0, 0, []⟩ : Mac), false)
def i_SecretOf (x0 : Keys) (x1 : Int) : Mac × Bool :=
  bif (x1 == x0.epoch) then
    letK (α := Mac) (i_cloneMac x0.now) fun c1 =>
    (c1, true)
  else
  bif x0.two then
    bif (x1 == (IntKind.wrap .i64 (x0.epoch - 1))) then
      letK (α := Mac) (i_cloneMac x0.before) fun c2 =>
      (c2, true)
    else
    ((⟨false, 0, 0, []⟩ : Mac), false)
  else
  ((⟨false, 0, 0, []⟩ : Mac), false)
theorem i_SecretOf_lk (x0 : Keys) (x1 : Int) : evalFn te (orcOf (P := Try.prog) [i_cloneMac_e]) lorc0 [] Try.f114 (pvs [.st .keys, .sc (.int .i64)] (x0, x1, ())) =
  i_SecretOf_N x0 x1 _ none (fun v => some [(true, [RC.c (.bool v.1.use), RC.c (.int .u64 v.1.k), RC.c (.int .u64 v.1.l), RC.own true .macRow v.1.rows]), (false, [RC.c (.bool v.2)])]) := by kernel_rfl
theorem i_SecretOf_p (x0 : Keys) (x1 : Int) (hx0_epoch : inK .i64 x0.epoch) (hx0_now_k : inK .u64 x0.now.k) (hx0_now_l : inK .u64 x0.now.l) (hx0_now_rows : x0.now.rows.length ≤ 140737488355328) (hx0_now_rows_e : ∀ y ∈ x0.now.rows, ∀ c ∈ Ty.cells .macRow y, FactC c) (hx0_before_k : inK .u64 x0.before.k) (hx0_before_l : inK .u64 x0.before.l) (hx0_before_rows : x0.before.rows.length ≤ 140737488355328) (hx0_before_rows_e : ∀ y ∈ x0.before.rows, ∀ c ∈ Ty.cells .macRow y, FactC c) (hx1 : inK .i64 x1) (hp : x0.now.rows.length ≤ 4294967296 ∧ x0.before.rows.length ≤ 4294967296) (γ : Type) (fail : γ) (k : Mac × Bool → γ) : i_SecretOf_N x0 x1 γ fail k = k (i_SecretOf x0 x1) := by
  unfold i_SecretOf_N i_SecretOf
  exact bifT (f := k) (fun b0 => bifG (by (try simp only [Nat.ble_eq, Bool.and_eq_true, decide_eq_true_eq]); grind [maxSl, maxStr, toBytes_length, toInts_length, List.length_set, wrap64, i_cloneMac_len]) (letT (f := k) (fun c1 hc1 => rfl)))
      (fun b0 => bifT (f := k) (fun b1 => bifT (f := k) (fun b2 => bifG (by (try simp only [Nat.ble_eq, Bool.and_eq_true, decide_eq_true_eq]); grind [maxSl, maxStr, toBytes_length, toInts_length, List.length_set, wrap64, i_cloneMac_len]) (letT (f := k) (fun c2 hc2 => rfl)))
      (fun b2 => rfl))
      (fun b1 => rfl))
theorem i_SecretOf_c (x0 : Keys) (x1 : Int) (hp : x0.now.rows.length ≤ 4294967296 ∧ x0.before.rows.length ≤ 4294967296) : Con Try.prog 114 (pvs [.st .keys, .sc (.int .i64)] (x0, x1, ())) [rv (.st .mac) [.c, .c, .c, .o true] (i_SecretOf x0 x1).1, rv (.sc .bool) [] (i_SecretOf x0 x1).2] := by
  refine Con.of_facts (enters_of Try.func114 rfl (by kernel_rfl)) fun hf => ?_
  replace hf := factAt hf
  exact evalFn_con0 teFact mixFact (orcOf_ok _) Try.func114 (by kernel_rfl) ((i_SecretOf_lk x0 x1).trans (i_SecretOf_p x0 x1 ((hf 0 0 rfl rfl).rng) ((hf 0 2 rfl rfl).rng) ((hf 0 3 rfl rfl).rng) ((hf 0 4 rfl rfl).len) (fun y hy => (hf 0 4 rfl rfl).elem hy) ((hf 0 6 rfl rfl).rng) ((hf 0 7 rfl rfl).rng) ((hf 0 8 rfl rfl).len) (fun y hy => (hf 0 8 rfl rfl).elem hy) ((hf 1 0 rfl rfl).rng) hp _ _ _))
noncomputable def i_SecretOf_e : Ent1 Try.prog := entP 114 [.st .keys, .sc (.int .i64)] (fun x => (decide (x.1.now.rows.length ≤ 4294967296 ∧ x.1.before.rows.length ≤ 4294967296))) (fun x => (i_SecretOf x.1 x.2.1)) (fun v => [rv (.st .mac) [.c, .c, .c, .o true] v.1, rv (.sc .bool) [] v.2]) (fun x hx => i_SecretOf_c x.1 x.2.1 (of_decide_eq_true hx))

theorem i_SecretOf_len (x0 : Keys) (x1 : Int) (hp : x0.now.rows.length ≤ 4294967296 ∧ x0.before.rows.length ≤ 4294967296) (h : x0.now.rows.length ≤ 4294967296 ∧ x0.before.rows.length ≤ 4294967296) : (fun v : Mac × Bool => v.1.rows.length ≤ 4294967296) (i_SecretOf x0 x1) := by
  unfold i_SecretOf
  exact bifP (P := (fun v : Mac × Bool => v.1.rows.length ≤ 4294967296)) (fun b0 => letP (P := (fun v : Mac × Bool => v.1.rows.length ≤ 4294967296)) (fun c1 hc1 => (by (try simp only [Nat.ble_eq, Bool.and_eq_true, decide_eq_true_eq]); grind [maxSl, maxStr, toBytes_length, toInts_length, List.length_set, wrap64, i_cloneMac_len])))
      (fun b0 => bifP (P := (fun v : Mac × Bool => v.1.rows.length ≤ 4294967296)) (fun b1 => bifP (P := (fun v : Mac × Bool => v.1.rows.length ≤ 4294967296)) (fun b2 => letP (P := (fun v : Mac × Bool => v.1.rows.length ≤ 4294967296)) (fun c2 hc2 => (by (try simp only [Nat.ble_eq, Bool.and_eq_true, decide_eq_true_eq]); grind [maxSl, maxStr, toBytes_length, toInts_length, List.length_set, wrap64, i_cloneMac_len])))
      (fun b2 => (by (try simp only [Nat.ble_eq, Bool.and_eq_true, decide_eq_true_eq]); grind [maxSl, maxStr, toBytes_length, toInts_length, List.length_set, wrap64, i_cloneMac_len])))
      (fun b1 => (by (try simp only [Nat.ble_eq, Bool.and_eq_true, decide_eq_true_eq]); grind [maxSl, maxStr, toBytes_length, toInts_length, List.length_set, wrap64, i_cloneMac_len])))

/-- impl.MacInput -/
def i_MacInput_N (x0 : Tupl) (x1 : Int) (x2 : Int) (x3 : Int) (γ : Type) (fail : γ) (k : Bytes → γ) : γ :=
  letK (α := Bool) (i_TupleOk x0) fun c1 =>
  bif (!c1) then
    k []
  else
  letK (α := Bool) (i_WordOk x1 32) fun c2 =>
  bif (!c2) then
    k []
  else
  letK (α := Bool) (i_WordOk x2 32) fun c3 =>
  bif (!c3) then
    k []
  else
  letK (α := Bool) (i_within x3 0 7) fun c4 =>
  bif (!c4) then
    k []
  else
  letK (α := Bytes) (i_PutWord x0.ip 4) fun c5 =>
  letK (α := Bytes) (i_PutWord x0.port 2) fun c6 =>
  bif (Nat.ble (c5.length + c6.length) maxStr) then
  letK (α := Bytes) (i_PutWord x0.my 2) fun c7 =>
  bif (Nat.ble ((c5 ++ c6).length + c7.length) maxStr) then
  letK (α := Bytes) (i_PutWord x1 4) fun c8 =>
  bif (Nat.ble (((c5 ++ c6) ++ c7).length + c8.length) maxStr) then
  letK (α := Bytes) (i_PutWord x2 4) fun c9 =>
  bif (Nat.ble ((((c5 ++ c6) ++ c7) ++ c8).length + c9.length) maxStr) then
  letK (α := Bytes) (i_PutWord x3 1) fun c10 =>
  bif (Nat.ble (((((c5 ++ c6) ++ c7) ++ c8) ++ c9).length + c10.length) maxStr) then
  k (((((c5 ++ c6) ++ c7) ++ c8) ++ c9) ++ c10)
  else fail
  else fail
  else fail
  else fail
  else fail
def i_MacInput (x0 : Tupl) (x1 : Int) (x2 : Int) (x3 : Int) : Bytes :=
  letK (α := Bool) (i_TupleOk x0) fun c1 =>
  bif (!c1) then
    []
  else
  letK (α := Bool) (i_WordOk x1 32) fun c2 =>
  bif (!c2) then
    []
  else
  letK (α := Bool) (i_WordOk x2 32) fun c3 =>
  bif (!c3) then
    []
  else
  letK (α := Bool) (i_within x3 0 7) fun c4 =>
  bif (!c4) then
    []
  else
  letK (α := Bytes) (i_PutWord x0.ip 4) fun c5 =>
  letK (α := Bytes) (i_PutWord x0.port 2) fun c6 =>
  letK (α := Bytes) (i_PutWord x0.my 2) fun c7 =>
  letK (α := Bytes) (i_PutWord x1 4) fun c8 =>
  letK (α := Bytes) (i_PutWord x2 4) fun c9 =>
  letK (α := Bytes) (i_PutWord x3 1) fun c10 =>
  (((((c5 ++ c6) ++ c7) ++ c8) ++ c9) ++ c10)
theorem i_MacInput_lk (x0 : Tupl) (x1 : Int) (x2 : Int) (x3 : Int) : evalFn te (orcOf (P := Try.prog) [i_TupleOk_e, i_WordOk_e, i_within_e, i_PutWord_e]) lorc0 [] Try.f152 (pvs [.st .tupl, .sc (.int .i64), .sc (.int .i64), .sc (.int .i64)] (x0, x1, x2, x3, ())) =
  i_MacInput_N x0 x1 x2 x3 _ none (fun v => some [(false, [RC.c (.str v)])]) := by kernel_rfl
theorem i_MacInput_p (x0 : Tupl) (x1 : Int) (x2 : Int) (x3 : Int) (hx0_ip : inK .i64 x0.ip) (hx0_port : inK .i64 x0.port) (hx0_my : inK .i64 x0.my) (hx1 : inK .i64 x1) (hx2 : inK .i64 x2) (hx3 : inK .i64 x3)  (γ : Type) (fail : γ) (k : Bytes → γ) : i_MacInput_N x0 x1 x2 x3 γ fail k = k (i_MacInput x0 x1 x2 x3) := by
  unfold i_MacInput_N i_MacInput
  exact letT (f := k) (fun c1 hc1 => bifT (f := k) (fun b0 => rfl)
      (fun b0 => letT (f := k) (fun c2 hc2 => bifT (f := k) (fun b1 => rfl)
      (fun b1 => letT (f := k) (fun c3 hc3 => bifT (f := k) (fun b2 => rfl)
      (fun b2 => letT (f := k) (fun c4 hc4 => bifT (f := k) (fun b3 => rfl)
      (fun b3 => letT (f := k) (fun c5 hc5 => letT (f := k) (fun c6 hc6 => bifG (by (try simp only [Nat.ble_eq, Bool.and_eq_true, decide_eq_true_eq]); grind [maxSl, maxStr, toBytes_length, toInts_length, List.length_set, wrap64, i_PutWord_len]) (letT (f := k) (fun c7 hc7 => bifG (by (try simp only [Nat.ble_eq, Bool.and_eq_true, decide_eq_true_eq]); grind [maxSl, maxStr, toBytes_length, toInts_length, List.length_set, wrap64, i_PutWord_len]) (letT (f := k) (fun c8 hc8 => bifG (by (try simp only [Nat.ble_eq, Bool.and_eq_true, decide_eq_true_eq]); grind [maxSl, maxStr, toBytes_length, toInts_length, List.length_set, wrap64, i_PutWord_len]) (letT (f := k) (fun c9 hc9 => bifG (by (try simp only [Nat.ble_eq, Bool.and_eq_true, decide_eq_true_eq]); grind [maxSl, maxStr, toBytes_length, toInts_length, List.length_set, wrap64, i_PutWord_len]) (letT (f := k) (fun c10 hc10 => bifG (by (try simp only [Nat.ble_eq, Bool.and_eq_true, decide_eq_true_eq]); grind [maxSl, maxStr, toBytes_length, toInts_length, List.length_set, wrap64, i_PutWord_len]) (rfl)))))))))))))))))))
theorem i_MacInput_c (x0 : Tupl) (x1 : Int) (x2 : Int) (x3 : Int)  : Con Try.prog 152 (pvs [.st .tupl, .sc (.int .i64), .sc (.int .i64), .sc (.int .i64)] (x0, x1, x2, x3, ())) [rv (.sc .str) [] (i_MacInput x0 x1 x2 x3)] := by
  refine Con.of_facts (enters_of Try.func152 rfl (by kernel_rfl)) fun hf => ?_
  replace hf := factAt hf
  exact evalFn_con0 teFact mixFact (orcOf_ok _) Try.func152 (by kernel_rfl) ((i_MacInput_lk x0 x1 x2 x3).trans (i_MacInput_p x0 x1 x2 x3 ((hf 0 0 rfl rfl).rng) ((hf 0 1 rfl rfl).rng) ((hf 0 2 rfl rfl).rng) ((hf 1 0 rfl rfl).rng) ((hf 2 0 rfl rfl).rng) ((hf 3 0 rfl rfl).rng) _ _ _))
noncomputable def i_MacInput_e : Ent1 Try.prog := entA 152 [.st .tupl, .sc (.int .i64), .sc (.int .i64), .sc (.int .i64)] (fun x => (i_MacInput x.1 x.2.1 x.2.2.1 x.2.2.2.1)) (fun v => [rv (.sc .str) [] v]) (fun x => i_MacInput_c x.1 x.2.1 x.2.2.1 x.2.2.2.1)

theorem i_MacInput_len (x0 : Tupl) (x1 : Int) (x2 : Int) (x3 : Int)   : (fun v : Bytes => v.length ≤ 64) (i_MacInput x0 x1 x2 x3) := by
  unfold i_MacInput
  exact letP (P := (fun v : Bytes => v.length ≤ 64)) (fun c1 hc1 => bifP (P := (fun v : Bytes => v.length ≤ 64)) (fun b0 => (by (try simp only [Nat.ble_eq, Bool.and_eq_true, decide_eq_true_eq]); grind [maxSl, maxStr, toBytes_length, toInts_length, List.length_set, wrap64, i_PutWord_len]))
      (fun b0 => letP (P := (fun v : Bytes => v.length ≤ 64)) (fun c2 hc2 => bifP (P := (fun v : Bytes => v.length ≤ 64)) (fun b1 => (by (try simp only [Nat.ble_eq, Bool.and_eq_true, decide_eq_true_eq]); grind [maxSl, maxStr, toBytes_length, toInts_length, List.length_set, wrap64, i_PutWord_len]))
      (fun b1 => letP (P := (fun v : Bytes => v.length ≤ 64)) (fun c3 hc3 => bifP (P := (fun v : Bytes => v.length ≤ 64)) (fun b2 => (by (try simp only [Nat.ble_eq, Bool.and_eq_true, decide_eq_true_eq]); grind [maxSl, maxStr, toBytes_length, toInts_length, List.length_set, wrap64, i_PutWord_len]))
      (fun b2 => letP (P := (fun v : Bytes => v.length ≤ 64)) (fun c4 hc4 => bifP (P := (fun v : Bytes => v.length ≤ 64)) (fun b3 => (by (try simp only [Nat.ble_eq, Bool.and_eq_true, decide_eq_true_eq]); grind [maxSl, maxStr, toBytes_length, toInts_length, List.length_set, wrap64, i_PutWord_len]))
      (fun b3 => letP (P := (fun v : Bytes => v.length ≤ 64)) (fun c5 hc5 => letP (P := (fun v : Bytes => v.length ≤ 64)) (fun c6 hc6 => letP (P := (fun v : Bytes => v.length ≤ 64)) (fun c7 hc7 => letP (P := (fun v : Bytes => v.length ≤ 64)) (fun c8 hc8 => letP (P := (fun v : Bytes => v.length ≤ 64)) (fun c9 hc9 => letP (P := (fun v : Bytes => v.length ≤ 64)) (fun c10 hc10 => (by (try simp only [Nat.ble_eq, Bool.and_eq_true, decide_eq_true_eq]); grind [maxSl, maxStr, toBytes_length, toInts_length, List.length_set, wrap64, i_PutWord_len])))))))))))))))

/-- impl.SipWord -/
def i_SipWord_N (x0 : Sipr) (x1 : Int) (γ : Type) (fail : γ) (k : Sipr → γ) : γ :=
  letK (α := Sipr) (i_SipRound ({ x0 with d := (bits .xor .u64 x0.d x1) } : Sipr)) fun c1 =>
  letK (α := Sipr) (i_SipRound c1) fun c2 =>
  k ({ c2 with a := (bits .xor .u64 c2.a x1) } : Sipr)
def i_SipWord (x0 : Sipr) (x1 : Int) : Sipr :=
  letK (α := Sipr) (i_SipRound ({ x0 with d := (bits .xor .u64 x0.d x1) } : Sipr)) fun c1 =>
  letK (α := Sipr) (i_SipRound c1) fun c2 =>
  ({ c2 with a := (bits .xor .u64 c2.a x1) } : Sipr)
theorem i_SipWord_lk (x0 : Sipr) (x1 : Int) : evalFn te (orcOf (P := Try.prog) [i_SipRound_e]) lorc0 [] Try.f194 (pvs [.st .sipr, .sc (.int .u64)] (x0, x1, ())) =
  i_SipWord_N x0 x1 _ none (fun v => some [(true, [RC.c (.int .u64 v.a), RC.c (.int .u64 v.b), RC.c (.int .u64 v.c), RC.c (.int .u64 v.d)])]) := by kernel_rfl
theorem i_SipWord_p (x0 : Sipr) (x1 : Int)   (γ : Type) (fail : γ) (k : Sipr → γ) : i_SipWord_N x0 x1 γ fail k = k (i_SipWord x0 x1) := by
  unfold i_SipWord_N i_SipWord
  exact letT (f := k) (fun c1 hc1 => letT (f := k) (fun c2 hc2 => rfl))
theorem i_SipWord_c (x0 : Sipr) (x1 : Int)  : Con Try.prog 194 (pvs [.st .sipr, .sc (.int .u64)] (x0, x1, ())) [rv (.st .sipr) [] (i_SipWord x0 x1)] := by
  exact evalFn_con0 teFact mixFact (orcOf_ok _) Try.func194 (by kernel_rfl) ((i_SipWord_lk x0 x1).trans (i_SipWord_p x0 x1  _ _ _))
noncomputable def i_SipWord_e : Ent1 Try.prog := entA 194 [.st .sipr, .sc (.int .u64)] (fun x => (i_SipWord x.1 x.2.1)) (fun v => [rv (.st .sipr) [] v]) (fun x => i_SipWord_c x.1 x.2.1)


/-- impl.SipEnd -/
def i_SipEnd_ann : List (Nat × Keep) := [(0, ⟨[1, 7], [], false, 0⟩)]
def i_SipEnd_L0_sh : Sh := ⟨[(1, false, [.ptr 0 0]), (7, false, [.int .i64])], [.box [.int .u64, .int .u64, .int .u64, .int .u64]]⟩
def i_SipEnd_L0_es : List (Ex × Sh) := [(.exit 0, ⟨[(1, false, [.ptr 0 0]), (2, false, [.undef])], [.box [.int .u64, .int .u64, .int .u64, .int .u64]]⟩)]
def i_SipEnd_L0_mk (v0 : Int) (v1 : Int) (v2 : Int) (v3 : Int) (v4 : Int) : i_SipEnd_L0_sh.T := ((((), ()), ((v0, ()), ())), ((v1, (v2, (v3, (v4, ())))), ()))
def i_SipEnd_L0_mx0 (y0 : Int) (y1 : Int) (y2 : Int) (y3 : Int) : Sh.T ⟨[(1, false, [.ptr 0 0]), (2, false, [.undef])], [.box [.int .u64, .int .u64, .int .u64, .int .u64]]⟩ := ((((), ()), (((), ()), ())), ((y0, (y1, (y2, (y3, ())))), ()))
def i_SipEnd_L0_B (v0 : Int) (v1 : Int) (v2 : Int) (v3 : Int) (v4 : Int) (γ : Type) (fail : γ) (next : i_SipEnd_L0_sh.T → γ) (out : WT i_SipEnd_L0_es → γ) : γ :=
  bif (decide (v0 < 4)) then
    letK (α := Sipr) (i_SipRound (⟨v1, v2, v3, v4⟩ : Sipr)) fun c1 =>
    next (i_SipEnd_L0_mk (IntKind.wrap .i64 (v0 + 1)) c1.a c1.b c1.c c1.d)
  else
  out (i_SipEnd_L0_mx0 v1 v2 v3 v4)
theorem i_SipEnd_L0_par (v0 : Int) (v1 : Int) (v2 : Int) (v3 : Int) (v4 : Int) (γ : Type) (fail : γ) (next : i_SipEnd_L0_sh.T → γ) (out : WT i_SipEnd_L0_es → γ) : i_SipEnd_L0_B v0 v1 v2 v3 v4 γ fail next out = optK (i_SipEnd_L0_B v0 v1 v2 v3 v4 _ none (fun v' => some (.inl v')) (fun w => some (.inr w))) fail (fun r => Sum.elim next out r) := by
  unfold i_SipEnd_L0_B
  exact bifT (f := (fun o => optK o fail (fun r => Sum.elim next out r))) (fun _ => letT (f := (fun o => optK o fail (fun r => Sum.elim next out r))) (fun c1 _ => rfl))
      (fun _ => rfl)
def i_SipEnd_L0_r : Round i_SipEnd_L0_sh.T (WT i_SipEnd_L0_es) where
  B v γ fail next out := i_SipEnd_L0_B v.1.2.1.1 v.2.1.1 v.2.1.2.1 v.2.1.2.2.1 v.2.1.2.2.2.1 γ fail next out
  par v γ fail next out := i_SipEnd_L0_par v.1.2.1.1 v.2.1.1 v.2.1.2.1 v.2.1.2.2.1 v.2.1.2.2.2.1 γ fail next out
def i_SipEnd_L0_fu (v0 : Int) (v1 : Int) (v2 : Int) (v3 : Int) (v4 : Int) : Nat := (Int.toNat (4 - v0)) + 1
theorem i_SipEnd_L0_lk (v : i_SipEnd_L0_sh.T) (next : St → Option Res) (k : Ex → St → Option Res) : evalK te (orcOf (P := Try.prog) [i_SipRound_e]) (lorcOf []) Try.f196.ntmps i_SipEnd_ann (nthLoop (bodyOf Try.f196) 0 0) 0 (i_SipEnd_L0_sh.enc v) (endK ⟨[1, 7], [], false, 0⟩ ⟨[1, 2], [], false, 0⟩ next k) =
  i_SipEnd_L0_r.B v _ none (fun v' => next (i_SipEnd_L0_sh.enc v')) (fun w => outK i_SipEnd_L0_es k w) := by kernel_rfl
def i_SipEnd_L0_le : LE := leOf 0 i_SipEnd_L0_sh i_SipEnd_L0_es i_SipEnd_L0_r.step (fun v => i_SipEnd_L0_fu v.1.2.1.1 v.2.1.1 v.2.1.2.1 v.2.1.2.2.1 v.2.1.2.2.2.1)
theorem i_SipEnd_L0_ls (w0 : World) (mo : Mts) (I0 : Nat → Prop) (hmo : mo.length = 0) : LSem Try.prog (Sim w0 mo Try.f196.ntmps I0) (fun b s k => match Nat.beq 0 b with | true => i_SipEnd_L0_le.run s k | false => none) 0 (nthLoop (bodyOf Try.f196) 0 0) :=
  le_sem hmo (lorc := lorcOf []) (ann := i_SipEnd_ann) (keep := ⟨[1, 7], [], false, 0⟩) (kout := ⟨[1, 2], [], false, 0⟩) teFact mixFact (orcOf_ok _) (by kernel_rfl) (allLoops_of (bs := []) (by kernel_rfl) trivial) i_SipEnd_L0_r _ i_SipEnd_L0_lk
def i_SipEnd_L0_f  (v0 : Int) (a : Int × Int × Int × Int) : Stp (Int × Int × Int × Int) (Empty) :=
  letK (α := Sipr) (i_SipRound (⟨a.1, a.2.1, a.2.2.1, a.2.2.2⟩ : Sipr)) fun c1 =>
  .next (c1.a, c1.b, c1.c, c1.d)
theorem i_SipEnd_L0_st (v0 : Int) (v1 : Int) (v2 : Int) (v3 : Int) (v4 : Int) (hlo : 0 ≤ v0) (hhi : v0 < 4) (hN : 4 ≤ 4611686018427387904) : i_SipEnd_L0_r.step (i_SipEnd_L0_mk v0 v1 v2 v3 v4) = Stp.elim (fun a' : Int × Int × Int × Int => some (Sum.inl (i_SipEnd_L0_mk (v0 + 1) a'.1 a'.2.1 a'.2.2.1 a'.2.2.2))) (fun w => some (Sum.inr ((fun p : Empty => nomatch p) w))) (i_SipEnd_L0_f  v0 (v1, v2, v3, v4)) := by
  have hw : (IntKind.wrap .i64 (v0 + 1)) = v0 + 1 := wrap64 (by omega) (by omega)
  show i_SipEnd_L0_B v0 v1 v2 v3 v4 (Option (i_SipEnd_L0_sh.T ⊕ WT i_SipEnd_L0_es)) none (fun v' => some (Sum.inl v')) (fun w => some (Sum.inr w)) = _
  unfold i_SipEnd_L0_B i_SipEnd_L0_f
  exact bifG (by simp only [decide_eq_true_eq]; omega) (letT (f := (Stp.elim (fun a' : Int × Int × Int × Int => some (Sum.inl (i_SipEnd_L0_mk (v0 + 1) a'.1 a'.2.1 a'.2.2.1 a'.2.2.2))) (fun w => some (Sum.inr ((fun p : Empty => nomatch p) w))))) (fun c1 hc1 => (by exact congrArg (fun z => some (Sum.inl (i_SipEnd_L0_mk z c1.a c1.b c1.c c1.d))) hw)))
theorem i_SipEnd_L0_cl (v0 : Int) (v1 : Int) (v2 : Int) (v3 : Int) (v4 : Int) (h0 : 0 ≤ v0) (h1 : 4 ≤ 4611686018427387904) : loopF i_SipEnd_L0_r.step (i_SipEnd_L0_fu v0 v1 v2 v3 v4) (i_SipEnd_L0_mk v0 v1 v2 v3 v4) = some (Stp.elim (fun a => (fun i a => i_SipEnd_L0_mx0 a.1 a.2.1 a.2.2.1 a.2.2.2) (v0 + 1 * (((Int.toNat (4 - v0)) : Nat) : Int)) a) (fun p : Empty => nomatch p) (forN (i_SipEnd_L0_f ) 1 (Int.toNat (4 - v0)) v0 (v1, v2, v3, v4))) :=
  forN_loop (step := i_SipEnd_L0_r.step) (mk := fun v0 a => i_SipEnd_L0_mk v0 a.1 a.2.1 a.2.2.1 a.2.2.2) (f := i_SipEnd_L0_f ) (e := (fun i a => i_SipEnd_L0_mx0 a.1 a.2.1 a.2.2.1 a.2.2.2)) (emb := (fun p : Empty => nomatch p)) (st := 1) (Inv := fun v0 a => True) (Int.toNat (4 - v0)) v0 (v1, v2, v3, v4) _ (Nat.lt_succ_self _) trivial
    (fun j a hj hv => ⟨i_SipEnd_L0_st (v0 + 1 * (j : Int)) a.1 a.2.1 a.2.2.1 a.2.2.2 (by omega) (by omega) (by omega), fun _ _ => trivial⟩)
    (fun a hv => by
      show i_SipEnd_L0_B (v0 + 1 * (((Int.toNat (4 - v0)) : Nat) : Int)) a.1 a.2.1 a.2.2.1 a.2.2.2 (Option (i_SipEnd_L0_sh.T ⊕ WT i_SipEnd_L0_es)) none (fun v' => some (Sum.inl v')) (fun w => some (Sum.inr w)) = _
      unfold i_SipEnd_L0_B
      exact bifN (by simp only [decide_eq_false_iff_not]; omega) rfl)
def i_SipEnd_N (x0 : Sipr) (γ : Type) (fail : γ) (k : Int → γ) : γ :=
  optK (loopF i_SipEnd_L0_r.step (i_SipEnd_L0_fu 0 x0.a x0.b (bits .xor .u64 x0.c 255) x0.d) (i_SipEnd_L0_mk 0 x0.a x0.b (bits .xor .u64 x0.c 255) x0.d)) fail fun w2 =>
    letK (α := Int) (bits .xor .u64 (bits .xor .u64 (bits .xor .u64 w2.2.1.1 w2.2.1.2.1) w2.2.1.2.2.1) w2.2.1.2.2.2.1) fun e3 =>
    k e3
def i_SipEnd (x0 : Sipr) : Int :=
  Stp.elim (fun a4 =>
    letK (α := Int) (bits .xor .u64 (bits .xor .u64 (bits .xor .u64 a4.1 a4.2.1) a4.2.2.1) a4.2.2.2) fun e5 =>
    e5)
    (fun p : Empty => nomatch p)
    (forN (i_SipEnd_L0_f) 1 (Int.toNat (4 - 0)) 0 (x0.a, x0.b, (bits .xor .u64 x0.c 255), x0.d))
theorem i_SipEnd_lk (x0 : Sipr) : evalFn te (orcOf (P := Try.prog) [i_SipRound_e]) (lorcOf [i_SipEnd_L0_le]) i_SipEnd_ann Try.f196 (pvs [.st .sipr] (x0, ())) =
  i_SipEnd_N x0 _ none (fun v => some [(false, [RC.c (.int .u64 v)])]) := by kernel_rfl
theorem i_SipEnd_p (x0 : Sipr) (hx0_a : inK .u64 x0.a) (hx0_b : inK .u64 x0.b) (hx0_c : inK .u64 x0.c) (hx0_d : inK .u64 x0.d)  (γ : Type) (fail : γ) (k : Int → γ) : i_SipEnd_N x0 γ fail k = k (i_SipEnd x0) := by
  unfold i_SipEnd_N i_SipEnd
  exact loopT (f := k) (i_SipEnd_L0_cl 0 x0.a x0.b (bits .xor .u64 x0.c 255) x0.d (by (try simp only [Nat.ble_eq, Bool.and_eq_true, decide_eq_true_eq, i_SipEnd_L0_mx0]); grind [maxSl, maxStr, toBytes_length, toInts_length, List.length_set, wrap64]) (by (try simp only [Nat.ble_eq, Bool.and_eq_true, decide_eq_true_eq, i_SipEnd_L0_mx0]); grind [maxSl, maxStr, toBytes_length, toInts_length, List.length_set, wrap64])) (fun a4 => letT (f := k) (fun e5 he5 => rfl))
      (fun p : Empty => nomatch p)
theorem i_SipEnd_c (x0 : Sipr)  : Con Try.prog 196 (pvs [.st .sipr] (x0, ())) [rv (.sc (.int .u64)) [] (i_SipEnd x0)] := by
  refine Con.of_facts (enters_of Try.func196 rfl (by kernel_rfl)) fun hf => ?_
  replace hf := factAt hf
  exact evalFn_conL teFact mixFact (orcOf_ok _) Try.func196 (by kernel_rfl) (bs := [0]) (by kernel_rfl) (by kernel_rfl) (fun w0 mo I0 hmo => ⟨lsem_of_lorc (i_SipEnd_L0_ls w0 mo I0 hmo) (by kernel_rfl), trivial⟩) ((i_SipEnd_lk x0).trans (i_SipEnd_p x0 ((hf 0 0 rfl rfl).rng) ((hf 0 1 rfl rfl).rng) ((hf 0 2 rfl rfl).rng) ((hf 0 3 rfl rfl).rng) _ _ _))
noncomputable def i_SipEnd_e : Ent1 Try.prog := entA 196 [.st .sipr] (fun x => (i_SipEnd x.1)) (fun v => [rv (.sc (.int .u64)) [] v]) (fun x => i_SipEnd_c x.1)


/-- spec.SipWord -/
def s_SipWord_N (x0 : Sipr) (x1 : Int) (γ : Type) (fail : γ) (k : Sipr → γ) : γ :=
  letK (α := Sipr) (s_SipRound ({ x0 with d := (bits .xor .u64 x0.d x1) } : Sipr)) fun c1 =>
  letK (α := Sipr) (s_SipRound c1) fun c2 =>
  k ({ c2 with a := (bits .xor .u64 c2.a x1) } : Sipr)
def s_SipWord (x0 : Sipr) (x1 : Int) : Sipr :=
  letK (α := Sipr) (s_SipRound ({ x0 with d := (bits .xor .u64 x0.d x1) } : Sipr)) fun c1 =>
  letK (α := Sipr) (s_SipRound c1) fun c2 =>
  ({ c2 with a := (bits .xor .u64 c2.a x1) } : Sipr)
theorem s_SipWord_lk (x0 : Sipr) (x1 : Int) : evalFn te (orcOf (P := Try.prog) [s_SipRound_e]) lorc0 [] Try.f198 (pvs [.st .sipr, .sc (.int .u64)] (x0, x1, ())) =
  s_SipWord_N x0 x1 _ none (fun v => some [(true, [RC.c (.int .u64 v.a), RC.c (.int .u64 v.b), RC.c (.int .u64 v.c), RC.c (.int .u64 v.d)])]) := by kernel_rfl
theorem s_SipWord_p (x0 : Sipr) (x1 : Int)   (γ : Type) (fail : γ) (k : Sipr → γ) : s_SipWord_N x0 x1 γ fail k = k (s_SipWord x0 x1) := by
  unfold s_SipWord_N s_SipWord
  exact letT (f := k) (fun c1 hc1 => letT (f := k) (fun c2 hc2 => rfl))
theorem s_SipWord_c (x0 : Sipr) (x1 : Int)  : Con Try.prog 198 (pvs [.st .sipr, .sc (.int .u64)] (x0, x1, ())) [rv (.st .sipr) [] (s_SipWord x0 x1)] := by
  exact evalFn_con0 teFact mixFact (orcOf_ok _) Try.func198 (by kernel_rfl) ((s_SipWord_lk x0 x1).trans (s_SipWord_p x0 x1  _ _ _))
noncomputable def s_SipWord_e : Ent1 Try.prog := entA 198 [.st .sipr, .sc (.int .u64)] (fun x => (s_SipWord x.1 x.2.1)) (fun v => [rv (.st .sipr) [] v]) (fun x => s_SipWord_c x.1 x.2.1)


/-- spec.SipEnd -/
def s_SipEnd_N (x0 : Sipr) (γ : Type) (fail : γ) (k : Int → γ) : γ :=
  letK (α := Sipr) (s_SipRound ({ x0 with c := (bits .xor .u64 x0.c 255) } : Sipr)) fun c1 =>
  letK (α := Sipr) (s_SipRound c1) fun c2 =>
  letK (α := Sipr) (s_SipRound c2) fun c3 =>
  letK (α := Sipr) (s_SipRound c3) fun c4 =>
  k (bits .xor .u64 (bits .xor .u64 (bits .xor .u64 c4.a c4.b) c4.c) c4.d)
def s_SipEnd (x0 : Sipr) : Int :=
  letK (α := Sipr) (s_SipRound ({ x0 with c := (bits .xor .u64 x0.c 255) } : Sipr)) fun c1 =>
  letK (α := Sipr) (s_SipRound c1) fun c2 =>
  letK (α := Sipr) (s_SipRound c2) fun c3 =>
  letK (α := Sipr) (s_SipRound c3) fun c4 =>
  (bits .xor .u64 (bits .xor .u64 (bits .xor .u64 c4.a c4.b) c4.c) c4.d)
theorem s_SipEnd_lk (x0 : Sipr) : evalFn te (orcOf (P := Try.prog) [s_SipRound_e]) lorc0 [] Try.f200 (pvs [.st .sipr] (x0, ())) =
  s_SipEnd_N x0 _ none (fun v => some [(false, [RC.c (.int .u64 v)])]) := by kernel_rfl
theorem s_SipEnd_p (x0 : Sipr)   (γ : Type) (fail : γ) (k : Int → γ) : s_SipEnd_N x0 γ fail k = k (s_SipEnd x0) := by
  unfold s_SipEnd_N s_SipEnd
  exact letT (f := k) (fun c1 hc1 => letT (f := k) (fun c2 hc2 => letT (f := k) (fun c3 hc3 => letT (f := k) (fun c4 hc4 => rfl))))
theorem s_SipEnd_c (x0 : Sipr)  : Con Try.prog 200 (pvs [.st .sipr] (x0, ())) [rv (.sc (.int .u64)) [] (s_SipEnd x0)] := by
  exact evalFn_con0 teFact mixFact (orcOf_ok _) Try.func200 (by kernel_rfl) ((s_SipEnd_lk x0).trans (s_SipEnd_p x0  _ _ _))
noncomputable def s_SipEnd_e : Ent1 Try.prog := entA 200 [.st .sipr] (fun x => (s_SipEnd x.1)) (fun v => [rv (.sc (.int .u64)) [] v]) (fun x => s_SipEnd_c x.1)


/-- spec.GuessInputs -/
def s_GuessInputs_ann : List (Nat × Keep) := [(0, ⟨[0, 1, 5, 6], [], false, 0⟩)]
def s_GuessInputs_L0_sh : Sh := ⟨[(0, false, [.int .i64]), (1, false, [.sl .arg .issu]), (5, false, [.own 0]), (6, false, [.int .i64])], [.arr .str false true]⟩
def s_GuessInputs_L0_es : List (Ex × Sh) := [(.exit 0, ⟨[(4, false, [.undef]), (5, false, [.own 0])], [.arr .str false true]⟩)]
def s_GuessInputs_L0_mk (v0 : Int) (v1 : List Issu) (v2 : Int) (v3 : List Bytes) : s_GuessInputs_L0_sh.T := (((v0, ()), ((v1, ()), (((), ()), ((v2, ()), ())))), (v3, ()))
def s_GuessInputs_L0_mx0 (y0 : List Bytes) : Sh.T ⟨[(4, false, [.undef]), (5, false, [.own 0])], [.arr .str false true]⟩ := ((((), ()), (((), ()), ())), (y0, ()))
def s_GuessInputs_L0_B (v0 : Int) (v1 : List Issu) (v2 : Int) (v3 : List Bytes) (γ : Type) (fail : γ) (next : s_GuessInputs_L0_sh.T → γ) (out : WT s_GuessInputs_L0_es → γ) : γ :=
  bif (decide (v2 < (v1.length : Int))) then
    bif ((decide (0 ≤ v2)) && (decide (v2 < (v1.length : Int)))) then
    letK (α := Int × Int × Int) (s_CookieParts ((v1.getD v2.toNat (Ty.zero .issu)).cookie)) fun c1 =>
    bif ((decide (0 ≤ v2)) && (decide (v2 < (v1.length : Int)))) then
    bif ((decide (0 ≤ v2)) && (decide (v2 < (v1.length : Int)))) then
    letK (α := Bytes) (s_MacInput ((v1.getD v2.toNat (Ty.zero .issu)).tuple) ((v1.getD v2.toNat (Ty.zero .issu)).seq) v0 c1.2.1) fun c2 =>
    bif (!(c2 == [])) then
      letK (α := Bool) (s_l1Has v3 c2) fun c3 =>
      bif (!c3) then
        bif (Nat.ble ((2 * (v3.length + 1) + 1024) * 16) maxSl) then
        next (s_GuessInputs_L0_mk v0 v1 (IntKind.wrap .i64 (v2 + 1)) (v3 ++ [c2]))
        else fail
      else
      next (s_GuessInputs_L0_mk v0 v1 (IntKind.wrap .i64 (v2 + 1)) v3)
    else
    next (s_GuessInputs_L0_mk v0 v1 (IntKind.wrap .i64 (v2 + 1)) v3)
    else fail
    else fail
    else fail
  else
  out (s_GuessInputs_L0_mx0 v3)
theorem s_GuessInputs_L0_par (v0 : Int) (v1 : List Issu) (v2 : Int) (v3 : List Bytes) (γ : Type) (fail : γ) (next : s_GuessInputs_L0_sh.T → γ) (out : WT s_GuessInputs_L0_es → γ) : s_GuessInputs_L0_B v0 v1 v2 v3 γ fail next out = optK (s_GuessInputs_L0_B v0 v1 v2 v3 _ none (fun v' => some (.inl v')) (fun w => some (.inr w))) fail (fun r => Sum.elim next out r) := by
  unfold s_GuessInputs_L0_B
  exact bifT (f := (fun o => optK o fail (fun r => Sum.elim next out r))) (fun _ => bifT (f := (fun o => optK o fail (fun r => Sum.elim next out r))) (fun _ => letT (f := (fun o => optK o fail (fun r => Sum.elim next out r))) (fun c1 _ => bifT (f := (fun o => optK o fail (fun r => Sum.elim next out r))) (fun _ => bifT (f := (fun o => optK o fail (fun r => Sum.elim next out r))) (fun _ => letT (f := (fun o => optK o fail (fun r => Sum.elim next out r))) (fun c2 _ => bifT (f := (fun o => optK o fail (fun r => Sum.elim next out r))) (fun _ => letT (f := (fun o => optK o fail (fun r => Sum.elim next out r))) (fun c3 _ => bifT (f := (fun o => optK o fail (fun r => Sum.elim next out r))) (fun _ => bifT (f := (fun o => optK o fail (fun r => Sum.elim next out r))) (fun _ => rfl) (fun _ => rfl))
      (fun _ => rfl)))
      (fun _ => rfl))) (fun _ => rfl)) (fun _ => rfl))) (fun _ => rfl))
      (fun _ => rfl)
def s_GuessInputs_L0_r : Round s_GuessInputs_L0_sh.T (WT s_GuessInputs_L0_es) where
  B v γ fail next out := s_GuessInputs_L0_B v.1.1.1 v.1.2.1.1 v.1.2.2.2.1.1 v.2.1 γ fail next out
  par v γ fail next out := s_GuessInputs_L0_par v.1.1.1 v.1.2.1.1 v.1.2.2.2.1.1 v.2.1 γ fail next out
def s_GuessInputs_L0_fu (v0 : Int) (v1 : List Issu) (v2 : Int) (v3 : List Bytes) : Nat := (Int.toNat ((v1.length : Int) - v2)) + 1
theorem s_GuessInputs_L0_lk (v : s_GuessInputs_L0_sh.T) (next : St → Option Res) (k : Ex → St → Option Res) : evalK te (orcOf (P := Try.prog) [s_CookieParts_e, s_MacInput_e, s_l1Has_e]) (lorcOf []) Try.f62.ntmps s_GuessInputs_ann (nthLoop (bodyOf Try.f62) 0 0) 0 (s_GuessInputs_L0_sh.enc v) (endK ⟨[0, 1, 5, 6], [], false, 0⟩ ⟨[4, 5], [], false, 0⟩ next k) =
  s_GuessInputs_L0_r.B v _ none (fun v' => next (s_GuessInputs_L0_sh.enc v')) (fun w => outK s_GuessInputs_L0_es k w) := by kernel_rfl
def s_GuessInputs_L0_le : LE := leOf 0 s_GuessInputs_L0_sh s_GuessInputs_L0_es s_GuessInputs_L0_r.step (fun v => s_GuessInputs_L0_fu v.1.1.1 v.1.2.1.1 v.1.2.2.2.1.1 v.2.1)
theorem s_GuessInputs_L0_ls (w0 : World) (mo : Mts) (I0 : Nat → Prop) (hmo : mo.length = 0) : LSem Try.prog (Sim w0 mo Try.f62.ntmps I0) (fun b s k => match Nat.beq 0 b with | true => s_GuessInputs_L0_le.run s k | false => none) 0 (nthLoop (bodyOf Try.f62) 0 0) :=
  le_sem hmo (lorc := lorcOf []) (ann := s_GuessInputs_ann) (keep := ⟨[0, 1, 5, 6], [], false, 0⟩) (kout := ⟨[4, 5], [], false, 0⟩) teFact mixFact (orcOf_ok _) (by kernel_rfl) (allLoops_of (bs := []) (by kernel_rfl) trivial) s_GuessInputs_L0_r _ s_GuessInputs_L0_lk
def s_GuessInputs_L0_f (v0 : Int) (v1 : List Issu) (v2 : Int) (a : List Bytes) : Stp (List Bytes) (Empty) :=
  letK (α := Int × Int × Int) (s_CookieParts ((v1.getD v2.toNat (Ty.zero .issu)).cookie)) fun c1 =>
  letK (α := Bytes) (s_MacInput ((v1.getD v2.toNat (Ty.zero .issu)).tuple) ((v1.getD v2.toNat (Ty.zero .issu)).seq) v0 c1.2.1) fun c2 =>
  bif (!(c2 == [])) then
    letK (α := Bool) (s_l1Has a c2) fun c3 =>
    bif (!c3) then
      .next (a ++ [c2])
    else
    .next a
  else
  .next a
theorem s_GuessInputs_L0_st (v0 : Int) (v1 : List Issu) (v2 : Int) (v3 : List Bytes) (hlo : 0 ≤ v2) (hhi : v2 < (v1.length : Int)) (hN : (v1.length : Int) ≤ 4611686018427387904) (hi0 : (v1.length : Int) ≤ 4294967296) (hinv : (v3.length : Int) ≤ v2) : s_GuessInputs_L0_r.step (s_GuessInputs_L0_mk v0 v1 v2 v3) = Stp.elim (fun a' : List Bytes => some (Sum.inl (s_GuessInputs_L0_mk v0 v1 (v2 + 1) a'))) (fun w => some (Sum.inr ((fun p : Empty => nomatch p) w))) (s_GuessInputs_L0_f v0 v1 v2 v3) := by
  have hw : (IntKind.wrap .i64 (v2 + 1)) = v2 + 1 := wrap64 (by omega) (by omega)
  show s_GuessInputs_L0_B v0 v1 v2 v3 (Option (s_GuessInputs_L0_sh.T ⊕ WT s_GuessInputs_L0_es)) none (fun v' => some (Sum.inl v')) (fun w => some (Sum.inr w)) = _
  unfold s_GuessInputs_L0_B s_GuessInputs_L0_f
  exact bifG (by simp only [decide_eq_true_eq]; omega) (bifG (by (try simp only [Nat.ble_eq, Bool.and_eq_true, decide_eq_true_eq]); grind [maxSl, maxStr, toBytes_length, toInts_length, List.length_set, wrap64, s_MacInput_len]) (letT (f := (Stp.elim (fun a' : List Bytes => some (Sum.inl (s_GuessInputs_L0_mk v0 v1 (v2 + 1) a'))) (fun w => some (Sum.inr ((fun p : Empty => nomatch p) w))))) (fun c1 hc1 => bifG (by (try simp only [Nat.ble_eq, Bool.and_eq_true, decide_eq_true_eq]); grind [maxSl, maxStr, toBytes_length, toInts_length, List.length_set, wrap64, s_MacInput_len]) (bifG (by (try simp only [Nat.ble_eq, Bool.and_eq_true, decide_eq_true_eq]); grind [maxSl, maxStr, toBytes_length, toInts_length, List.length_set, wrap64, s_MacInput_len]) (letT (f := (Stp.elim (fun a' : List Bytes => some (Sum.inl (s_GuessInputs_L0_mk v0 v1 (v2 + 1) a'))) (fun w => some (Sum.inr ((fun p : Empty => nomatch p) w))))) (fun c2 hc2 => bifT (f := (Stp.elim (fun a' : List Bytes => some (Sum.inl (s_GuessInputs_L0_mk v0 v1 (v2 + 1) a'))) (fun w => some (Sum.inr ((fun p : Empty => nomatch p) w))))) (fun b0 => letT (f := (Stp.elim (fun a' : List Bytes => some (Sum.inl (s_GuessInputs_L0_mk v0 v1 (v2 + 1) a'))) (fun w => some (Sum.inr ((fun p : Empty => nomatch p) w))))) (fun c3 hc3 => bifT (f := (Stp.elim (fun a' : List Bytes => some (Sum.inl (s_GuessInputs_L0_mk v0 v1 (v2 + 1) a'))) (fun w => some (Sum.inr ((fun p : Empty => nomatch p) w))))) (fun b1 => bifG (by (try simp only [Nat.ble_eq, Bool.and_eq_true, decide_eq_true_eq]); grind [maxSl, maxStr, toBytes_length, toInts_length, List.length_set, wrap64, s_MacInput_len]) ((by exact congrArg (fun z => some (Sum.inl (s_GuessInputs_L0_mk v0 v1 z (v3 ++ [c2])))) hw)))
      (fun b1 => (by exact congrArg (fun z => some (Sum.inl (s_GuessInputs_L0_mk v0 v1 z v3))) hw))))
      (fun b0 => (by exact congrArg (fun z => some (Sum.inl (s_GuessInputs_L0_mk v0 v1 z v3))) hw))))))))
theorem s_GuessInputs_L0_cl (v0 : Int) (v1 : List Issu) (v2 : Int) (v3 : List Bytes) (h0 : 0 ≤ v2) (h1 : (v1.length : Int) ≤ 4611686018427387904) (h2 : (v1.length : Int) ≤ 4294967296) (h3 : (v3.length : Int) ≤ v2) : loopF s_GuessInputs_L0_r.step (s_GuessInputs_L0_fu v0 v1 v2 v3) (s_GuessInputs_L0_mk v0 v1 v2 v3) = some (Stp.elim (fun a => (fun i a => s_GuessInputs_L0_mx0 a) (v2 + 1 * (((Int.toNat ((v1.length : Int) - v2)) : Nat) : Int)) a) (fun p : Empty => nomatch p) (forN (s_GuessInputs_L0_f v0 v1) 1 (Int.toNat ((v1.length : Int) - v2)) v2 v3)) :=
  forN_loop (step := s_GuessInputs_L0_r.step) (mk := fun v2 a => s_GuessInputs_L0_mk v0 v1 v2 a) (f := s_GuessInputs_L0_f v0 v1) (e := (fun i a => s_GuessInputs_L0_mx0 a)) (emb := (fun p : Empty => nomatch p)) (st := 1) (Inv := fun v2 a => (a.length : Int) ≤ v2) (Int.toNat ((v1.length : Int) - v2)) v2 v3 _ (Nat.lt_succ_self _) h3
    (fun j a hj hv => ⟨s_GuessInputs_L0_st v0 v1 (v2 + 1 * (j : Int)) a (by omega) (by omega) (by omega) h2 hv, by
      intro a' he
      grind [s_GuessInputs_L0_f, letK, Stp.elim, wrap64, List.length_set, s_MacInput_len]⟩)
    (fun a hv => by
      show s_GuessInputs_L0_B v0 v1 (v2 + 1 * (((Int.toNat ((v1.length : Int) - v2)) : Nat) : Int)) a (Option (s_GuessInputs_L0_sh.T ⊕ WT s_GuessInputs_L0_es)) none (fun v' => some (Sum.inl v')) (fun w => some (Sum.inr w)) = _
      unfold s_GuessInputs_L0_B
      exact bifN (by simp only [decide_eq_false_iff_not]; omega) rfl)
theorem s_GuessInputs_L0_nx (v0 : Int) (v1 : List Issu) (v2 : Int) (v3 : List Bytes) (h0 : 0 ≤ v2) (h1 : (v1.length : Int) ≤ 4611686018427387904) (h2 : (v1.length : Int) ≤ 4294967296) (h3 : (v3.length : Int) ≤ v2) : ∀ a', forN (s_GuessInputs_L0_f v0 v1) 1 (Int.toNat ((v1.length : Int) - v2)) v2 v3 = .next a' → (a'.length : Int) ≤ (v2 + 1 * (((Int.toNat ((v1.length : Int) - v2)) : Nat) : Int)) :=
  forN_inv (f := s_GuessInputs_L0_f v0 v1) (st := 1) (Inv := fun v2 a => (a.length : Int) ≤ v2) (Int.toNat ((v1.length : Int) - v2)) v2 v3 h3
    (fun j a hj hv => by
      intro a' he
      grind [s_GuessInputs_L0_f, letK, Stp.elim, wrap64, List.length_set, s_MacInput_len])
def s_GuessInputs_N (x0 : Int) (x1 : List Issu) (γ : Type) (fail : γ) (k : List Bytes → γ) : γ :=
  optK (loopF s_GuessInputs_L0_r.step (s_GuessInputs_L0_fu x0 x1 0 []) (s_GuessInputs_L0_mk x0 x1 0 [])) fail fun w4 =>
    k w4.2.1
def s_GuessInputs (x0 : Int) (x1 : List Issu) : List Bytes :=
  Stp.elim (fun a5 =>
    a5)
    (fun p : Empty => nomatch p)
    (forN (s_GuessInputs_L0_f x0 x1) 1 (Int.toNat ((x1.length : Int) - 0)) 0 [])
theorem s_GuessInputs_lk (x0 : Int) (x1 : List Issu) : evalFn te (orcOf (P := Try.prog) [s_CookieParts_e, s_MacInput_e, s_l1Has_e]) (lorcOf [s_GuessInputs_L0_le]) s_GuessInputs_ann Try.f62 (pvs [.sc (.int .i64), .sc (.sl .issu)] (x0, x1, ())) =
  s_GuessInputs_N x0 x1 _ none (fun v => some [(false, [RC.own true .str v])]) := by kernel_rfl
theorem s_GuessInputs_p (x0 : Int) (x1 : List Issu) (hx0 : inK .i64 x0) (hx1 : x1.length ≤ 140737488355328) (hp : x1.length ≤ 4294967296) (γ : Type) (fail : γ) (k : List Bytes → γ) : s_GuessInputs_N x0 x1 γ fail k = k (s_GuessInputs x0 x1) := by
  unfold s_GuessInputs_N s_GuessInputs
  exact loopX (f := k) (s_GuessInputs_L0_cl x0 x1 0 [] (by (try simp only [Nat.ble_eq, Bool.and_eq_true, decide_eq_true_eq, s_GuessInputs_L0_mx0]); grind [maxSl, maxStr, toBytes_length, toInts_length, List.length_set, wrap64, s_MacInput_len]) (by (try simp only [Nat.ble_eq, Bool.and_eq_true, decide_eq_true_eq, s_GuessInputs_L0_mx0]); grind [maxSl, maxStr, toBytes_length, toInts_length, List.length_set, wrap64, s_MacInput_len]) (by (try simp only [Nat.ble_eq, Bool.and_eq_true, decide_eq_true_eq, s_GuessInputs_L0_mx0]); grind [maxSl, maxStr, toBytes_length, toInts_length, List.length_set, wrap64, s_MacInput_len]) (by (try simp only [Nat.ble_eq, Bool.and_eq_true, decide_eq_true_eq, s_GuessInputs_L0_mx0]); grind [maxSl, maxStr, toBytes_length, toInts_length, List.length_set, wrap64, s_MacInput_len])) (fun a5 ha5 => have ia5 := s_GuessInputs_L0_nx x0 x1 0 [] (by (try simp only [Nat.ble_eq, Bool.and_eq_true, decide_eq_true_eq, s_GuessInputs_L0_mx0]); grind [maxSl, maxStr, toBytes_length, toInts_length, List.length_set, wrap64, s_MacInput_len]) (by (try simp only [Nat.ble_eq, Bool.and_eq_true, decide_eq_true_eq, s_GuessInputs_L0_mx0]); grind [maxSl, maxStr, toBytes_length, toInts_length, List.length_set, wrap64, s_MacInput_len]) (by (try simp only [Nat.ble_eq, Bool.and_eq_true, decide_eq_true_eq, s_GuessInputs_L0_mx0]); grind [maxSl, maxStr, toBytes_length, toInts_length, List.length_set, wrap64, s_MacInput_len]) (by (try simp only [Nat.ble_eq, Bool.and_eq_true, decide_eq_true_eq, s_GuessInputs_L0_mx0]); grind [maxSl, maxStr, toBytes_length, toInts_length, List.length_set, wrap64, s_MacInput_len]) _ ha5; rfl)
      (fun p : Empty => nomatch p)
theorem s_GuessInputs_c (x0 : Int) (x1 : List Issu) (hp : x1.length ≤ 4294967296) : Con Try.prog 62 (pvs [.sc (.int .i64), .sc (.sl .issu)] (x0, x1, ())) [rv (.sc (.sl .str)) [.o true] (s_GuessInputs x0 x1)] := by
  refine Con.of_facts (enters_of Try.func62 rfl (by kernel_rfl)) fun hf => ?_
  replace hf := factAt hf
  exact evalFn_conL teFact mixFact (orcOf_ok _) Try.func62 (by kernel_rfl) (bs := [0]) (by kernel_rfl) (by kernel_rfl) (fun w0 mo I0 hmo => ⟨lsem_of_lorc (s_GuessInputs_L0_ls w0 mo I0 hmo) (by kernel_rfl), trivial⟩) ((s_GuessInputs_lk x0 x1).trans (s_GuessInputs_p x0 x1 ((hf 0 0 rfl rfl).rng) ((hf 1 0 rfl rfl).len) hp _ _ _))
noncomputable def s_GuessInputs_e : Ent1 Try.prog := entP 62 [.sc (.int .i64), .sc (.sl .issu)] (fun x => (decide (x.2.1.length ≤ 4294967296))) (fun x => (s_GuessInputs x.1 x.2.1)) (fun v => [rv (.sc (.sl .str)) [.o true] v]) (fun x hx => s_GuessInputs_c x.1 x.2.1 (of_decide_eq_true hx))

theorem s_GuessInputs_len (x0 : Int) (x1 : List Issu) (hp : x1.length ≤ 4294967296)  : (fun v : List Bytes => v.length ≤ x1.length) (s_GuessInputs x0 x1) := by
  unfold s_GuessInputs
  exact loopP (P := (fun v : List Bytes => v.length ≤ x1.length)) (fun a5 ha5 => have ia5 := s_GuessInputs_L0_nx x0 x1 0 [] (by (try simp only [Nat.ble_eq, Bool.and_eq_true, decide_eq_true_eq, s_GuessInputs_L0_mx0]); grind [maxSl, maxStr, toBytes_length, toInts_length, List.length_set, wrap64, s_MacInput_len]) (by (try simp only [Nat.ble_eq, Bool.and_eq_true, decide_eq_true_eq, s_GuessInputs_L0_mx0]); grind [maxSl, maxStr, toBytes_length, toInts_length, List.length_set, wrap64, s_MacInput_len]) (by (try simp only [Nat.ble_eq, Bool.and_eq_true, decide_eq_true_eq, s_GuessInputs_L0_mx0]); grind [maxSl, maxStr, toBytes_length, toInts_length, List.length_set, wrap64, s_MacInput_len]) (by (try simp only [Nat.ble_eq, Bool.and_eq_true, decide_eq_true_eq, s_GuessInputs_L0_mx0]); grind [maxSl, maxStr, toBytes_length, toInts_length, List.length_set, wrap64, s_MacInput_len]) _ ha5; (by (try simp only [Nat.ble_eq, Bool.and_eq_true, decide_eq_true_eq, s_GuessInputs_L0_mx0]); grind [maxSl, maxStr, toBytes_length, toInts_length, List.length_set, wrap64, s_MacInput_len]))
      (fun p _ => nomatch p)

/-- impl.SipHash -/
def i_SipHash_ann : List (Nat × Keep) := [(0, ⟨[2, 7, 8], [.soft 8 0], false, 0⟩)]
def i_SipHash_L0_sh : Sh := ⟨[(2, false, [.str]), (7, false, [.ptr 0 0]), (8, false, [.sl .any .u8])], [.box [.int .u64, .int .u64, .int .u64, .int .u64]]⟩
def i_SipHash_L0_es : List (Ex × Sh) := [(.exit 0, ⟨[(2, false, [.str]), (6, false, [.undef]), (7, false, [.ptr 0 0]), (8, false, [.sl .any .u8])], [.box [.int .u64, .int .u64, .int .u64, .int .u64]]⟩)]
def i_SipHash_L0_mk (v0 : Bytes) (v1 : List Int) (v2 : Int) (v3 : Int) (v4 : Int) (v5 : Int) : i_SipHash_L0_sh.T := (((v0, ()), (((), ()), ((v1, ()), ()))), ((v2, (v3, (v4, (v5, ())))), ()))
def i_SipHash_L0_mx0 (y0 : Bytes) (y1 : List Int) (y2 : Int) (y3 : Int) (y4 : Int) (y5 : Int) : Sh.T ⟨[(2, false, [.str]), (6, false, [.undef]), (7, false, [.ptr 0 0]), (8, false, [.sl .any .u8])], [.box [.int .u64, .int .u64, .int .u64, .int .u64]]⟩ := (((y0, ()), (((), ()), (((), ()), ((y1, ()), ())))), ((y2, (y3, (y4, (y5, ())))), ()))
def i_SipHash_L0_B (v0 : Bytes) (v1 : List Int) (v2 : Int) (v3 : Int) (v4 : Int) (v5 : Int) (γ : Type) (fail : γ) (next : i_SipHash_L0_sh.T → γ) (out : WT i_SipHash_L0_es → γ) : γ :=
  bif (decide (8 ≤ (v1.length : Int))) then
    bif (decide (8 ≤ v1.length)) then
    letK (α := Int) (i_little v1) fun c4 =>
    letK (α := Sipr) (i_SipWord (⟨v2, v3, v4, v5⟩ : Sipr) c4) fun c5 =>
    bif ((decide (8 ≤ (v1.length : Int))) && (decide ((v1.length : Int) ≤ (v1.length : Int)))) then
    next (i_SipHash_L0_mk v0 ((v1.take ((v1.length : Int).toNat)).drop 8) c5.a c5.b c5.c c5.d)
    else fail
    else fail
  else
  out (i_SipHash_L0_mx0 v0 v1 v2 v3 v4 v5)
theorem i_SipHash_L0_par (v0 : Bytes) (v1 : List Int) (v2 : Int) (v3 : Int) (v4 : Int) (v5 : Int) (γ : Type) (fail : γ) (next : i_SipHash_L0_sh.T → γ) (out : WT i_SipHash_L0_es → γ) : i_SipHash_L0_B v0 v1 v2 v3 v4 v5 γ fail next out = optK (i_SipHash_L0_B v0 v1 v2 v3 v4 v5 _ none (fun v' => some (.inl v')) (fun w => some (.inr w))) fail (fun r => Sum.elim next out r) := by
  unfold i_SipHash_L0_B
  exact bifT (f := (fun o => optK o fail (fun r => Sum.elim next out r))) (fun _ => bifT (f := (fun o => optK o fail (fun r => Sum.elim next out r))) (fun _ => letT (f := (fun o => optK o fail (fun r => Sum.elim next out r))) (fun c4 _ => letT (f := (fun o => optK o fail (fun r => Sum.elim next out r))) (fun c5 _ => bifT (f := (fun o => optK o fail (fun r => Sum.elim next out r))) (fun _ => rfl) (fun _ => rfl)))) (fun _ => rfl))
      (fun _ => rfl)
def i_SipHash_L0_r : Round i_SipHash_L0_sh.T (WT i_SipHash_L0_es) where
  B v γ fail next out := i_SipHash_L0_B v.1.1.1 v.1.2.2.1.1 v.2.1.1 v.2.1.2.1 v.2.1.2.2.1 v.2.1.2.2.2.1 γ fail next out
  par v γ fail next out := i_SipHash_L0_par v.1.1.1 v.1.2.2.1.1 v.2.1.1 v.2.1.2.1 v.2.1.2.2.1 v.2.1.2.2.2.1 γ fail next out
def i_SipHash_L0_fu (v0 : Bytes) (v1 : List Int) (v2 : Int) (v3 : Int) (v4 : Int) (v5 : Int) : Nat := v1.length + 1
theorem i_SipHash_L0_lk (v : i_SipHash_L0_sh.T) (next : St → Option Res) (k : Ex → St → Option Res) : evalK te (orcOf (P := Try.prog) [i_SipStart_e, i_little_e, i_SipWord_e, i_SipEnd_e]) (lorcOf []) Try.f179.ntmps i_SipHash_ann (nthLoop (bodyOf Try.f179) 0 0) 0 (i_SipHash_L0_sh.enc v) (endK ⟨[2, 7, 8], [.soft 8 0], false, 0⟩ ⟨[2, 6, 7, 8], [], false, 0⟩ next k) =
  i_SipHash_L0_r.B v _ none (fun v' => next (i_SipHash_L0_sh.enc v')) (fun w => outK i_SipHash_L0_es k w) := by kernel_rfl
def i_SipHash_L0_le : LE := leOf 0 i_SipHash_L0_sh i_SipHash_L0_es i_SipHash_L0_r.step (fun v => i_SipHash_L0_fu v.1.1.1 v.1.2.2.1.1 v.2.1.1 v.2.1.2.1 v.2.1.2.2.1 v.2.1.2.2.2.1)
theorem i_SipHash_L0_ls (w0 : World) (mo : Mts) (I0 : Nat → Prop) (hmo : mo.length = 0) : LSem Try.prog (Sim w0 mo Try.f179.ntmps I0) (fun b s k => match Nat.beq 0 b with | true => i_SipHash_L0_le.run s k | false => none) 0 (nthLoop (bodyOf Try.f179) 0 0) :=
  le_sem hmo (lorc := lorcOf []) (ann := i_SipHash_ann) (keep := ⟨[2, 7, 8], [.soft 8 0], false, 0⟩) (kout := ⟨[2, 6, 7, 8], [], false, 0⟩) teFact mixFact (orcOf_ok _) (by kernel_rfl) (allLoops_of (bs := []) (by kernel_rfl) trivial) i_SipHash_L0_r _ i_SipHash_L0_lk
def i_SipHash_L0_f (v0 : Bytes) (a : List Int × Int × Int × Int × Int) : Stp (List Int × Int × Int × Int × Int) ((List Int × Int × Int × Int × Int)) :=
  bif (decide (8 ≤ (a.1.length : Int))) then
    letK (α := Int) (i_little a.1) fun c4 =>
    letK (α := Sipr) (i_SipWord (⟨a.2.1, a.2.2.1, a.2.2.2.1, a.2.2.2.2⟩ : Sipr) c4) fun c5 =>
    .next (((a.1.take ((a.1.length : Int).toNat)).drop 8), c5.a, c5.b, c5.c, c5.d)
  else
  .out ((a.1, a.2.1, a.2.2.1, a.2.2.2.1, a.2.2.2.2))
def i_SipHash_L0_w (v0 : Bytes) (v1 : List Int) (v2 : Int) (v3 : Int) (v4 : Int) (v5 : Int) : (List Int × Int × Int × Int × Int) := whileN (i_SipHash_L0_f v0) (i_SipHash_L0_fu v0 v1 v2 v3 v4 v5) (v1, v2, v3, v4, v5)
theorem i_SipHash_L0_st (v0 : Bytes) (v1 : List Int) (v2 : Int) (v3 : Int) (v4 : Int) (v5 : Int) (hinv : True) : i_SipHash_L0_r.step (i_SipHash_L0_mk v0 v1 v2 v3 v4 v5) = Stp.elim (fun a' : List Int × Int × Int × Int × Int => some (Sum.inl (i_SipHash_L0_mk v0 a'.1 a'.2.1 a'.2.2.1 a'.2.2.2.1 a'.2.2.2.2))) (fun w => some (Sum.inr ((fun p : List Int × Int × Int × Int × Int => i_SipHash_L0_mx0 v0 p.1 p.2.1 p.2.2.1 p.2.2.2.1 p.2.2.2.2) w))) (i_SipHash_L0_f v0 (v1, v2, v3, v4, v5)) := by
  show i_SipHash_L0_B v0 v1 v2 v3 v4 v5 (Option (i_SipHash_L0_sh.T ⊕ WT i_SipHash_L0_es)) none (fun v' => some (Sum.inl v')) (fun w => some (Sum.inr w)) = _
  unfold i_SipHash_L0_B i_SipHash_L0_f
  exact bifT (f := (Stp.elim (fun a' : List Int × Int × Int × Int × Int => some (Sum.inl (i_SipHash_L0_mk v0 a'.1 a'.2.1 a'.2.2.1 a'.2.2.2.1 a'.2.2.2.2))) (fun w => some (Sum.inr ((fun p : List Int × Int × Int × Int × Int => i_SipHash_L0_mx0 v0 p.1 p.2.1 p.2.2.1 p.2.2.2.1 p.2.2.2.2) w))))) (fun b0 => bifG (by (try simp only [Nat.ble_eq, Bool.and_eq_true, decide_eq_true_eq]); grind [maxSl, maxStr, toBytes_length, toInts_length, List.length_set, wrap64]) (letT (f := (Stp.elim (fun a' : List Int × Int × Int × Int × Int => some (Sum.inl (i_SipHash_L0_mk v0 a'.1 a'.2.1 a'.2.2.1 a'.2.2.2.1 a'.2.2.2.2))) (fun w => some (Sum.inr ((fun p : List Int × Int × Int × Int × Int => i_SipHash_L0_mx0 v0 p.1 p.2.1 p.2.2.1 p.2.2.2.1 p.2.2.2.2) w))))) (fun c4 hc4 => letT (f := (Stp.elim (fun a' : List Int × Int × Int × Int × Int => some (Sum.inl (i_SipHash_L0_mk v0 a'.1 a'.2.1 a'.2.2.1 a'.2.2.2.1 a'.2.2.2.2))) (fun w => some (Sum.inr ((fun p : List Int × Int × Int × Int × Int => i_SipHash_L0_mx0 v0 p.1 p.2.1 p.2.2.1 p.2.2.2.1 p.2.2.2.2) w))))) (fun c5 hc5 => bifG (by (try simp only [Nat.ble_eq, Bool.and_eq_true, decide_eq_true_eq]); grind [maxSl, maxStr, toBytes_length, toInts_length, List.length_set, wrap64]) (rfl)))))
      (fun b0 => rfl)
theorem i_SipHash_L0_dn (v0 : Bytes) (a : List Int × Int × Int × Int × Int) (hv : True) (a' : List Int × Int × Int × Int × Int) (he : i_SipHash_L0_f v0 a = .next a') : (True) ∧ a'.1.length < a.1.length := by
  grind [i_SipHash_L0_f, letK, Stp.elim, wrap64]
theorem i_SipHash_L0_cl (v0 : Bytes) (v1 : List Int) (v2 : Int) (v3 : Int) (v4 : Int) (v5 : Int)  : loopF i_SipHash_L0_r.step (i_SipHash_L0_fu v0 v1 v2 v3 v4 v5) (i_SipHash_L0_mk v0 v1 v2 v3 v4 v5) = some ((fun p : List Int × Int × Int × Int × Int => i_SipHash_L0_mx0 v0 p.1 p.2.1 p.2.2.1 p.2.2.2.1 p.2.2.2.2) (i_SipHash_L0_w v0 v1 v2 v3 v4 v5)) :=
  while_loop (A := List Int × Int × Int × Int × Int) (step := i_SipHash_L0_r.step) (mk := fun a => i_SipHash_L0_mk v0 a.1 a.2.1 a.2.2.1 a.2.2.2.1 a.2.2.2.2) (f := i_SipHash_L0_f v0) (emb := (fun p : List Int × Int × Int × Int × Int => i_SipHash_L0_mx0 v0 p.1 p.2.1 p.2.2.1 p.2.2.2.1 p.2.2.2.2)) (Inv := fun a => True) (meas := fun a => a.1.length)
    (fun a hv => ⟨i_SipHash_L0_st v0 a.1 a.2.1 a.2.2.1 a.2.2.2.1 a.2.2.2.2 hv, i_SipHash_L0_dn v0 a hv⟩) _ (v1, v2, v3, v4, v5) (Nat.lt_succ_self _) trivial
def i_SipHash_N (x0 : Int) (x1 : Int) (x2 : Bytes) (γ : Type) (fail : γ) (k : Int → γ) : γ :=
  letK (α := Sipr) (i_SipStart x0 x1) fun c1 =>
  bif (Nat.ble x2.length maxSl) then
  optK (loopF i_SipHash_L0_r.step (i_SipHash_L0_fu x2 (toInts x2) c1.a c1.b c1.c c1.d) (i_SipHash_L0_mk x2 (toInts x2) c1.a c1.b c1.c c1.d)) fail fun w6 =>
    letK (α := Int) (((w6.1.2.2.2.1.1.take (List.replicate 8 0).length).length : Nat) : Int) fun e7 =>
    letK (α := List Int) ((w6.1.2.2.2.1.1.take (List.replicate 8 0).length) ++ (List.replicate 8 0).drop (w6.1.2.2.2.1.1.take (List.replicate 8 0).length).length) fun l8 =>
    bif (decide (7 < (l8.length : Int))) then
    bif (decide (8 ≤ (l8.set 7 (IntKind.wrap .u8 (w6.1.1.1.length : Int))).length)) then
    letK (α := Int) (i_little (l8.set 7 (IntKind.wrap .u8 (w6.1.1.1.length : Int)))) fun c9 =>
    letK (α := Sipr) (i_SipWord (⟨w6.2.1.1, w6.2.1.2.1, w6.2.1.2.2.1, w6.2.1.2.2.2.1⟩ : Sipr) c9) fun c10 =>
    letK (α := Int) (i_SipEnd c10) fun c11 =>
    k c11
    else fail
    else fail
  else fail
def i_SipHash (x0 : Int) (x1 : Int) (x2 : Bytes) : Int :=
  letK (α := Sipr) (i_SipStart x0 x1) fun c1 =>
  letK (α := (List Int × Int × Int × Int × Int)) (i_SipHash_L0_w x2 (toInts x2) c1.a c1.b c1.c c1.d)
    (fun p12 =>
      letK (α := List Int) ((p12.1.take (List.replicate 8 0).length) ++ (List.replicate 8 0).drop (p12.1.take (List.replicate 8 0).length).length) fun l13 =>
      letK (α := Int) (i_little (l13.set 7 (IntKind.wrap .u8 (x2.length : Int)))) fun c14 =>
      letK (α := Sipr) (i_SipWord (⟨p12.2.1, p12.2.2.1, p12.2.2.2.1, p12.2.2.2.2⟩ : Sipr) c14) fun c15 =>
      letK (α := Int) (i_SipEnd c15) fun c16 =>
      c16)
theorem i_SipHash_lk (x0 : Int) (x1 : Int) (x2 : Bytes) : evalFn te (orcOf (P := Try.prog) [i_SipStart_e, i_little_e, i_SipWord_e, i_SipEnd_e]) (lorcOf [i_SipHash_L0_le]) i_SipHash_ann Try.f179 (pvs [.sc (.int .u64), .sc (.int .u64), .sc .str] (x0, x1, x2, ())) =
  i_SipHash_N x0 x1 x2 _ none (fun v => some [(false, [RC.c (.int .u64 v)])]) := by kernel_rfl
theorem i_SipHash_p (x0 : Int) (x1 : Int) (x2 : Bytes) (hx0 : inK .u64 x0) (hx1 : inK .u64 x1) (hx2 : List.length x2 ≤ 4611686018427387904) (hp : x2.length ≤ 4294967296) (γ : Type) (fail : γ) (k : Int → γ) : i_SipHash_N x0 x1 x2 γ fail k = k (i_SipHash x0 x1 x2) := by
  unfold i_SipHash_N i_SipHash
  exact letT (f := k) (fun c1 hc1 => bifG (by (try simp only [Nat.ble_eq, Bool.and_eq_true, decide_eq_true_eq, i_SipHash_L0_mx0]); grind [maxSl, maxStr, toBytes_length, toInts_length, List.length_set, wrap64]) (loopW (f := k) (emb := (fun p : List Int × Int × Int × Int × Int => i_SipHash_L0_mx0 x2 p.1 p.2.1 p.2.2.1 p.2.2.2.1 p.2.2.2.2)) (i_SipHash_L0_cl x2 (toInts x2) c1.a c1.b c1.c c1.d) (fun p12 hp12 => letL (letT (f := k) (fun l13 hl13 => bifG (by (try simp only [Nat.ble_eq, Bool.and_eq_true, decide_eq_true_eq, i_SipHash_L0_mx0]); grind [maxSl, maxStr, toBytes_length, toInts_length, List.length_set, wrap64]) (bifG (by (try simp only [Nat.ble_eq, Bool.and_eq_true, decide_eq_true_eq, i_SipHash_L0_mx0]); grind [maxSl, maxStr, toBytes_length, toInts_length, List.length_set, wrap64]) (letT (f := k) (fun c14 hc14 => letT (f := k) (fun c15 hc15 => letT (f := k) (fun c16 hc16 => rfl))))))))))
theorem i_SipHash_c (x0 : Int) (x1 : Int) (x2 : Bytes) (hp : x2.length ≤ 4294967296) : Con Try.prog 179 (pvs [.sc (.int .u64), .sc (.int .u64), .sc .str] (x0, x1, x2, ())) [rv (.sc (.int .u64)) [] (i_SipHash x0 x1 x2)] := by
  refine Con.of_facts (enters_of Try.func179 rfl (by kernel_rfl)) fun hf => ?_
  replace hf := factAt hf
  exact evalFn_conL teFact mixFact (orcOf_ok _) Try.func179 (by kernel_rfl) (bs := [0]) (by kernel_rfl) (by kernel_rfl) (fun w0 mo I0 hmo => ⟨lsem_of_lorc (i_SipHash_L0_ls w0 mo I0 hmo) (by kernel_rfl), trivial⟩) ((i_SipHash_lk x0 x1 x2).trans (i_SipHash_p x0 x1 x2 ((hf 0 0 rfl rfl).rng) ((hf 1 0 rfl rfl).rng) ((hf 2 0 rfl rfl).slen) hp _ _ _))
noncomputable def i_SipHash_e : Ent1 Try.prog := entP 179 [.sc (.int .u64), .sc (.int .u64), .sc .str] (fun x => (decide (x.2.2.1.length ≤ 4294967296))) (fun x => (i_SipHash x.1 x.2.1 x.2.2.1)) (fun v => [rv (.sc (.int .u64)) [] v]) (fun x hx => i_SipHash_c x.1 x.2.1 x.2.2.1 (of_decide_eq_true hx))


/-- spec.SipHash -/
def s_SipHash_ann : List (Nat × Keep) := [(0, ⟨[2, 7, 8, 9], [], false, 0⟩)]
def s_SipHash_L0_sh : Sh := ⟨[(2, false, [.str]), (7, false, [.ptr 0 0]), (8, false, [.int .i64]), (9, false, [.int .i64])], [.box [.int .u64, .int .u64, .int .u64, .int .u64]]⟩
def s_SipHash_L0_es : List (Ex × Sh) := [(.exit 0, ⟨[(2, false, [.str]), (6, false, [.undef]), (7, false, [.ptr 0 0]), (8, false, [.int .i64]), (9, false, [.int .i64])], [.box [.int .u64, .int .u64, .int .u64, .int .u64]]⟩)]
def s_SipHash_L0_mk (v0 : Bytes) (v1 : Int) (v2 : Int) (v3 : Int) (v4 : Int) (v5 : Int) (v6 : Int) : s_SipHash_L0_sh.T := (((v0, ()), (((), ()), ((v1, ()), ((v2, ()), ())))), ((v3, (v4, (v5, (v6, ())))), ()))
def s_SipHash_L0_mx0 (y0 : Bytes) (y1 : Int) (y2 : Int) (y3 : Int) (y4 : Int) (y5 : Int) (y6 : Int) : Sh.T ⟨[(2, false, [.str]), (6, false, [.undef]), (7, false, [.ptr 0 0]), (8, false, [.int .i64]), (9, false, [.int .i64])], [.box [.int .u64, .int .u64, .int .u64, .int .u64]]⟩ := (((y0, ()), (((), ()), (((), ()), ((y1, ()), ((y2, ()), ()))))), ((y3, (y4, (y5, (y6, ())))), ()))
def s_SipHash_L0_B (v0 : Bytes) (v1 : Int) (v2 : Int) (v3 : Int) (v4 : Int) (v5 : Int) (v6 : Int) (γ : Type) (fail : γ) (next : s_SipHash_L0_sh.T → γ) (out : WT s_SipHash_L0_es → γ) : γ :=
  bif (decide ((IntKind.wrap .i64 (v2 + 8)) ≤ v1)) then
    bif (((decide (0 ≤ v2)) && (decide (v2 ≤ (IntKind.wrap .i64 (v2 + 8))))) && (decide ((IntKind.wrap .i64 (v2 + 8)) ≤ (v0.length : Int)))) then
    letK (α := Int) (s_l10Low ((v0.take ((IntKind.wrap .i64 (v2 + 8)).toNat)).drop v2.toNat)) fun c2 =>
    letK (α := Sipr) (s_SipWord (⟨v3, v4, v5, v6⟩ : Sipr) c2) fun c3 =>
    next (s_SipHash_L0_mk v0 v1 (IntKind.wrap .i64 (v2 + 8)) c3.a c3.b c3.c c3.d)
    else fail
  else
  out (s_SipHash_L0_mx0 v0 v1 v2 v3 v4 v5 v6)
theorem s_SipHash_L0_par (v0 : Bytes) (v1 : Int) (v2 : Int) (v3 : Int) (v4 : Int) (v5 : Int) (v6 : Int) (γ : Type) (fail : γ) (next : s_SipHash_L0_sh.T → γ) (out : WT s_SipHash_L0_es → γ) : s_SipHash_L0_B v0 v1 v2 v3 v4 v5 v6 γ fail next out = optK (s_SipHash_L0_B v0 v1 v2 v3 v4 v5 v6 _ none (fun v' => some (.inl v')) (fun w => some (.inr w))) fail (fun r => Sum.elim next out r) := by
  unfold s_SipHash_L0_B
  exact bifT (f := (fun o => optK o fail (fun r => Sum.elim next out r))) (fun _ => bifT (f := (fun o => optK o fail (fun r => Sum.elim next out r))) (fun _ => letT (f := (fun o => optK o fail (fun r => Sum.elim next out r))) (fun c2 _ => letT (f := (fun o => optK o fail (fun r => Sum.elim next out r))) (fun c3 _ => rfl))) (fun _ => rfl))
      (fun _ => rfl)
def s_SipHash_L0_r : Round s_SipHash_L0_sh.T (WT s_SipHash_L0_es) where
  B v γ fail next out := s_SipHash_L0_B v.1.1.1 v.1.2.2.1.1 v.1.2.2.2.1.1 v.2.1.1 v.2.1.2.1 v.2.1.2.2.1 v.2.1.2.2.2.1 γ fail next out
  par v γ fail next out := s_SipHash_L0_par v.1.1.1 v.1.2.2.1.1 v.1.2.2.2.1.1 v.2.1.1 v.2.1.2.1 v.2.1.2.2.1 v.2.1.2.2.2.1 γ fail next out
def s_SipHash_L0_fu (v0 : Bytes) (v1 : Int) (v2 : Int) (v3 : Int) (v4 : Int) (v5 : Int) (v6 : Int) : Nat := (Int.toNat (v1 - v2)) + 1
theorem s_SipHash_L0_lk (v : s_SipHash_L0_sh.T) (next : St → Option Res) (k : Ex → St → Option Res) : evalK te (orcOf (P := Try.prog) [s_SipStart_e, s_l10Low_e, s_SipWord_e, s_SipEnd_e]) (lorcOf []) Try.f180.ntmps s_SipHash_ann (nthLoop (bodyOf Try.f180) 0 0) 0 (s_SipHash_L0_sh.enc v) (endK ⟨[2, 7, 8, 9], [], false, 0⟩ ⟨[2, 6, 7, 8, 9], [], false, 0⟩ next k) =
  s_SipHash_L0_r.B v _ none (fun v' => next (s_SipHash_L0_sh.enc v')) (fun w => outK s_SipHash_L0_es k w) := by kernel_rfl
def s_SipHash_L0_le : LE := leOf 0 s_SipHash_L0_sh s_SipHash_L0_es s_SipHash_L0_r.step (fun v => s_SipHash_L0_fu v.1.1.1 v.1.2.2.1.1 v.1.2.2.2.1.1 v.2.1.1 v.2.1.2.1 v.2.1.2.2.1 v.2.1.2.2.2.1)
theorem s_SipHash_L0_ls (w0 : World) (mo : Mts) (I0 : Nat → Prop) (hmo : mo.length = 0) : LSem Try.prog (Sim w0 mo Try.f180.ntmps I0) (fun b s k => match Nat.beq 0 b with | true => s_SipHash_L0_le.run s k | false => none) 0 (nthLoop (bodyOf Try.f180) 0 0) :=
  le_sem hmo (lorc := lorcOf []) (ann := s_SipHash_ann) (keep := ⟨[2, 7, 8, 9], [], false, 0⟩) (kout := ⟨[2, 6, 7, 8, 9], [], false, 0⟩) teFact mixFact (orcOf_ok _) (by kernel_rfl) (allLoops_of (bs := []) (by kernel_rfl) trivial) s_SipHash_L0_r _ s_SipHash_L0_lk
def s_SipHash_L0_f (v0 : Bytes) (v1 : Int) (a : Int × Int × Int × Int × Int) : Stp (Int × Int × Int × Int × Int) ((Int × Int × Int × Int × Int)) :=
  bif (decide ((IntKind.wrap .i64 (a.1 + 8)) ≤ v1)) then
    letK (α := Int) (s_l10Low ((v0.take ((IntKind.wrap .i64 (a.1 + 8)).toNat)).drop a.1.toNat)) fun c2 =>
    letK (α := Sipr) (s_SipWord (⟨a.2.1, a.2.2.1, a.2.2.2.1, a.2.2.2.2⟩ : Sipr) c2) fun c3 =>
    .next ((IntKind.wrap .i64 (a.1 + 8)), c3.a, c3.b, c3.c, c3.d)
  else
  .out ((a.1, a.2.1, a.2.2.1, a.2.2.2.1, a.2.2.2.2))
def s_SipHash_L0_w (v0 : Bytes) (v1 : Int) (v2 : Int) (v3 : Int) (v4 : Int) (v5 : Int) (v6 : Int) : (Int × Int × Int × Int × Int) := whileN (s_SipHash_L0_f v0 v1) (s_SipHash_L0_fu v0 v1 v2 v3 v4 v5 v6) (v2, v3, v4, v5, v6)
theorem s_SipHash_L0_st (v0 : Bytes) (v1 : Int) (v2 : Int) (v3 : Int) (v4 : Int) (v5 : Int) (v6 : Int) (hinv : 0 ≤ v2 ∧ v2 ≤ v1 ∧ v1 = (v0.length : Int) ∧ (v0.length : Int) ≤ 4294967296) : s_SipHash_L0_r.step (s_SipHash_L0_mk v0 v1 v2 v3 v4 v5 v6) = Stp.elim (fun a' : Int × Int × Int × Int × Int => some (Sum.inl (s_SipHash_L0_mk v0 v1 a'.1 a'.2.1 a'.2.2.1 a'.2.2.2.1 a'.2.2.2.2))) (fun w => some (Sum.inr ((fun p : Int × Int × Int × Int × Int => s_SipHash_L0_mx0 v0 v1 p.1 p.2.1 p.2.2.1 p.2.2.2.1 p.2.2.2.2) w))) (s_SipHash_L0_f v0 v1 (v2, v3, v4, v5, v6)) := by
  show s_SipHash_L0_B v0 v1 v2 v3 v4 v5 v6 (Option (s_SipHash_L0_sh.T ⊕ WT s_SipHash_L0_es)) none (fun v' => some (Sum.inl v')) (fun w => some (Sum.inr w)) = _
  unfold s_SipHash_L0_B s_SipHash_L0_f
  exact bifT (f := (Stp.elim (fun a' : Int × Int × Int × Int × Int => some (Sum.inl (s_SipHash_L0_mk v0 v1 a'.1 a'.2.1 a'.2.2.1 a'.2.2.2.1 a'.2.2.2.2))) (fun w => some (Sum.inr ((fun p : Int × Int × Int × Int × Int => s_SipHash_L0_mx0 v0 v1 p.1 p.2.1 p.2.2.1 p.2.2.2.1 p.2.2.2.2) w))))) (fun b0 => bifG (by (try simp only [Nat.ble_eq, Bool.and_eq_true, decide_eq_true_eq]); grind [maxSl, maxStr, toBytes_length, toInts_length, List.length_set, wrap64]) (letT (f := (Stp.elim (fun a' : Int × Int × Int × Int × Int => some (Sum.inl (s_SipHash_L0_mk v0 v1 a'.1 a'.2.1 a'.2.2.1 a'.2.2.2.1 a'.2.2.2.2))) (fun w => some (Sum.inr ((fun p : Int × Int × Int × Int × Int => s_SipHash_L0_mx0 v0 v1 p.1 p.2.1 p.2.2.1 p.2.2.2.1 p.2.2.2.2) w))))) (fun c2 hc2 => letT (f := (Stp.elim (fun a' : Int × Int × Int × Int × Int => some (Sum.inl (s_SipHash_L0_mk v0 v1 a'.1 a'.2.1 a'.2.2.1 a'.2.2.2.1 a'.2.2.2.2))) (fun w => some (Sum.inr ((fun p : Int × Int × Int × Int × Int => s_SipHash_L0_mx0 v0 v1 p.1 p.2.1 p.2.2.1 p.2.2.2.1 p.2.2.2.2) w))))) (fun c3 hc3 => rfl))))
      (fun b0 => rfl)
theorem s_SipHash_L0_dn (v0 : Bytes) (v1 : Int) (a : Int × Int × Int × Int × Int) (hv : 0 ≤ a.1 ∧ a.1 ≤ v1 ∧ v1 = (v0.length : Int) ∧ (v0.length : Int) ≤ 4294967296) (a' : Int × Int × Int × Int × Int) (he : s_SipHash_L0_f v0 v1 a = .next a') : (0 ≤ a'.1 ∧ a'.1 ≤ v1 ∧ v1 = (v0.length : Int) ∧ (v0.length : Int) ≤ 4294967296) ∧ Int.toNat (v1 - a'.1) < Int.toNat (v1 - a.1) := by
  grind [s_SipHash_L0_f, letK, Stp.elim, wrap64]
theorem s_SipHash_L0_cl (v0 : Bytes) (v1 : Int) (v2 : Int) (v3 : Int) (v4 : Int) (v5 : Int) (v6 : Int) (h0 : 0 ≤ v2 ∧ v2 ≤ v1 ∧ v1 = (v0.length : Int) ∧ (v0.length : Int) ≤ 4294967296) : loopF s_SipHash_L0_r.step (s_SipHash_L0_fu v0 v1 v2 v3 v4 v5 v6) (s_SipHash_L0_mk v0 v1 v2 v3 v4 v5 v6) = some ((fun p : Int × Int × Int × Int × Int => s_SipHash_L0_mx0 v0 v1 p.1 p.2.1 p.2.2.1 p.2.2.2.1 p.2.2.2.2) (s_SipHash_L0_w v0 v1 v2 v3 v4 v5 v6)) :=
  while_loop (A := Int × Int × Int × Int × Int) (step := s_SipHash_L0_r.step) (mk := fun a => s_SipHash_L0_mk v0 v1 a.1 a.2.1 a.2.2.1 a.2.2.2.1 a.2.2.2.2) (f := s_SipHash_L0_f v0 v1) (emb := (fun p : Int × Int × Int × Int × Int => s_SipHash_L0_mx0 v0 v1 p.1 p.2.1 p.2.2.1 p.2.2.2.1 p.2.2.2.2)) (Inv := fun a => 0 ≤ a.1 ∧ a.1 ≤ v1 ∧ v1 = (v0.length : Int) ∧ (v0.length : Int) ≤ 4294967296) (meas := fun a => Int.toNat (v1 - a.1))
    (fun a hv => ⟨s_SipHash_L0_st v0 v1 a.1 a.2.1 a.2.2.1 a.2.2.2.1 a.2.2.2.2 hv, s_SipHash_L0_dn v0 v1 a hv⟩) _ (v2, v3, v4, v5, v6) (Nat.lt_succ_self _) h0
theorem s_SipHash_L0_post (v0 : Bytes) (v1 v2 v3 v4 v5 v6 : Int) (h : 0 ≤ v2 ∧ v2 ≤ v1 ∧ v1 = (v0.length : Int) ∧ (v0.length : Int) ≤ 4294967296) : 0 ≤ (s_SipHash_L0_w v0 v1 v2 v3 v4 v5 v6).1 ∧ (s_SipHash_L0_w v0 v1 v2 v3 v4 v5 v6).1 ≤ (v0.length : Int) := by
  refine whileN_post (f := s_SipHash_L0_f v0 v1) (Inv := fun a => 0 ≤ a.1 ∧ a.1 ≤ v1 ∧ v1 = (v0.length : Int) ∧ (v0.length : Int) ≤ 4294967296) (Q := fun w => 0 ≤ w.1 ∧ w.1 ≤ (v0.length : Int)) (meas := fun a => Int.toNat (v1 - a.1)) (fun a hi a' he => s_SipHash_L0_dn v0 v1 a hi a' he) (fun a hi w he => ?_) _ (v2, v3, v4, v5, v6) (Nat.lt_succ_self _) h
  unfold s_SipHash_L0_f at he
  cases hd : decide (IntKind.i64.wrap (a.1 + 8) ≤ v1) <;> rw [hd] at he
  · cases he; have := hi; exact ⟨this.1, by omega⟩
  · cases he

def s_SipHash_N (x0 : Int) (x1 : Int) (x2 : Bytes) (γ : Type) (fail : γ) (k : Int → γ) : γ :=
  letK (α := Sipr) (s_SipStart x0 x1) fun c1 =>
  optK (loopF s_SipHash_L0_r.step (s_SipHash_L0_fu x2 (x2.length : Int) 0 c1.a c1.b c1.c c1.d) (s_SipHash_L0_mk x2 (x2.length : Int) 0 c1.a c1.b c1.c c1.d)) fail fun w4 =>
    bif (((decide (0 ≤ w4.1.2.2.2.2.1.1)) && (decide (w4.1.2.2.2.2.1.1 ≤ (w4.1.1.1.length : Int)))) && (decide ((w4.1.1.1.length : Int) ≤ (w4.1.1.1.length : Int)))) then
    letK (α := Bytes) ((w4.1.1.1.take ((w4.1.1.1.length : Int).toNat)).drop w4.1.2.2.2.2.1.1.toNat) fun e5 =>
    letK (α := Int) (s_l10Low e5) fun c6 =>
    letK (α := Int) (IntKind.wrap .u64 ((IntKind.wrap .u64 (w4.1.2.2.2.1.1.tmod 256)) * 72057594037927936)) fun e7 =>
    letK (α := Sipr) (s_SipWord (⟨w4.2.1.1, w4.2.1.2.1, w4.2.1.2.2.1, w4.2.1.2.2.2.1⟩ : Sipr) (bits .or .u64 c6 e7)) fun c8 =>
    letK (α := Int) (s_SipEnd c8) fun c9 =>
    k c9
    else fail
def s_SipHash (x0 : Int) (x1 : Int) (x2 : Bytes) : Int :=
  letK (α := Sipr) (s_SipStart x0 x1) fun c1 =>
  letK (α := (Int × Int × Int × Int × Int)) (s_SipHash_L0_w x2 (x2.length : Int) 0 c1.a c1.b c1.c c1.d)
    (fun p10 =>
      letK (α := Int) (s_l10Low ((x2.take ((x2.length : Int).toNat)).drop p10.1.toNat)) fun c11 =>
      letK (α := Int) (IntKind.wrap .u64 ((IntKind.wrap .u64 ((x2.length : Int).tmod 256)) * 72057594037927936)) fun e12 =>
      letK (α := Sipr) (s_SipWord (⟨p10.2.1, p10.2.2.1, p10.2.2.2.1, p10.2.2.2.2⟩ : Sipr) (bits .or .u64 c11 e12)) fun c13 =>
      letK (α := Int) (s_SipEnd c13) fun c14 =>
      c14)
theorem s_SipHash_lk (x0 : Int) (x1 : Int) (x2 : Bytes) : evalFn te (orcOf (P := Try.prog) [s_SipStart_e, s_l10Low_e, s_SipWord_e, s_SipEnd_e]) (lorcOf [s_SipHash_L0_le]) s_SipHash_ann Try.f180 (pvs [.sc (.int .u64), .sc (.int .u64), .sc .str] (x0, x1, x2, ())) =
  s_SipHash_N x0 x1 x2 _ none (fun v => some [(false, [RC.c (.int .u64 v)])]) := by kernel_rfl
theorem s_SipHash_p (x0 : Int) (x1 : Int) (x2 : Bytes) (hx0 : inK .u64 x0) (hx1 : inK .u64 x1) (hx2 : List.length x2 ≤ 4611686018427387904) (hp : x2.length ≤ 4294967296) (γ : Type) (fail : γ) (k : Int → γ) : s_SipHash_N x0 x1 x2 γ fail k = k (s_SipHash x0 x1 x2) := by
  unfold s_SipHash_N s_SipHash
  exact letT (f := k) (fun c1 hc1 => loopW (f := k) (emb := (fun p : Int × Int × Int × Int × Int => s_SipHash_L0_mx0 x2 (x2.length : Int) p.1 p.2.1 p.2.2.1 p.2.2.2.1 p.2.2.2.2)) (s_SipHash_L0_cl x2 (x2.length : Int) 0 c1.a c1.b c1.c c1.d (by first | (simp only [decide_eq_true_eq]; omega) | (have hq := s_SipHash_L0_post x2 (x2.length : Int) 0 c1.a c1.b c1.c c1.d (by omega); rw [← hp10] at hq; change ((decide (0 ≤ p10.1) && decide (p10.1 ≤ (x2.length : Int))) && decide ((x2.length : Int) ≤ (x2.length : Int))) = true; simp only [Bool.and_eq_true, decide_eq_true_eq]; omega) | grind)) (fun p10 hp10 => bifG (by first | (simp only [decide_eq_true_eq]; omega) | (have hq := s_SipHash_L0_post x2 (x2.length : Int) 0 c1.a c1.b c1.c c1.d (by omega); rw [← hp10] at hq; change ((decide (0 ≤ p10.1) && decide (p10.1 ≤ (x2.length : Int))) && decide ((x2.length : Int) ≤ (x2.length : Int))) = true; simp only [Bool.and_eq_true, decide_eq_true_eq]; omega) | grind) (letL (letT (f := k) (fun c11 hc11 => letT (f := k) (fun e12 he12 => letT (f := k) (fun c13 hc13 => letT (f := k) (fun c14 hc14 => rfl))))))))
theorem s_SipHash_c (x0 : Int) (x1 : Int) (x2 : Bytes) (hp : x2.length ≤ 4294967296) : Con Try.prog 180 (pvs [.sc (.int .u64), .sc (.int .u64), .sc .str] (x0, x1, x2, ())) [rv (.sc (.int .u64)) [] (s_SipHash x0 x1 x2)] := by
  refine Con.of_facts (enters_of Try.func180 rfl (by kernel_rfl)) fun hf => ?_
  replace hf := factAt hf
  exact evalFn_conL teFact mixFact (orcOf_ok _) Try.func180 (by kernel_rfl) (bs := [0]) (by kernel_rfl) (by kernel_rfl) (fun w0 mo I0 hmo => ⟨lsem_of_lorc (s_SipHash_L0_ls w0 mo I0 hmo) (by kernel_rfl), trivial⟩) ((s_SipHash_lk x0 x1 x2).trans (s_SipHash_p x0 x1 x2 ((hf 0 0 rfl rfl).rng) ((hf 1 0 rfl rfl).rng) ((hf 2 0 rfl rfl).slen) hp _ _ _))
noncomputable def s_SipHash_e : Ent1 Try.prog := entP 180 [.sc (.int .u64), .sc (.int .u64), .sc .str] (fun x => (decide (x.2.2.1.length ≤ 4294967296))) (fun x => (s_SipHash x.1 x.2.1 x.2.2.1)) (fun v => [rv (.sc (.int .u64)) [] v]) (fun x hx => s_SipHash_c x.1 x.2.1 x.2.2.1 (of_decide_eq_true hx))


/-- impl.MacOf -/
def i_MacOf_ann : List (Nat × Keep) := [(0, ⟨[1, 19, 20, 21], [], false, 0⟩)]
def i_MacOf_L0_sh : Sh := ⟨[(1, false, [.str]), (19, false, [.sl .arg .macRow]), (20, false, [.int .i64]), (21, false, [.int .i64])], []⟩
def i_MacOf_L0_es : List (Ex × Sh) := [(.ret, ⟨[(4, false, [.int .i64])], []⟩), (.exit 0, ⟨[(4, false, [.undef])], []⟩)]
def i_MacOf_L0_mk (v0 : Bytes) (v1 : List MacRow) (v2 : Int) (v3 : Int) : i_MacOf_L0_sh.T := (((v0, ()), ((v1, ()), ((v2, ()), ((v3, ()), ())))), ())
def i_MacOf_L0_mx0 (y0 : Int) : Sh.T ⟨[(4, false, [.int .i64])], []⟩ := (((y0, ()), ()), ())
def i_MacOf_L0_mx1  : Sh.T ⟨[(4, false, [.undef])], []⟩ := ((((), ()), ()), ())
def i_MacOf_L0_B (v0 : Bytes) (v1 : List MacRow) (v2 : Int) (v3 : Int) (γ : Type) (fail : γ) (next : i_MacOf_L0_sh.T → γ) (out : WT i_MacOf_L0_es → γ) : γ :=
  bif (decide (v3 < v2)) then
    bif ((decide (0 ≤ v3)) && (decide (v3 < (v1.length : Int)))) then
    bif ((v1.getD v3.toNat (Ty.zero .macRow)).input == v0) then
      letK (α := Int) (IntKind.wrap .i64 ((((v1.getD v3.toNat (Ty.zero .macRow)).value).tmod 16777216) + 16777216)) fun e2 =>
      out (Sum.inl (i_MacOf_L0_mx0 (e2.tmod 16777216)))
    else
    next (i_MacOf_L0_mk v0 v1 v2 (IntKind.wrap .i64 (v3 + 1)))
    else fail
  else
  out (Sum.inr (i_MacOf_L0_mx1 ))
theorem i_MacOf_L0_par (v0 : Bytes) (v1 : List MacRow) (v2 : Int) (v3 : Int) (γ : Type) (fail : γ) (next : i_MacOf_L0_sh.T → γ) (out : WT i_MacOf_L0_es → γ) : i_MacOf_L0_B v0 v1 v2 v3 γ fail next out = optK (i_MacOf_L0_B v0 v1 v2 v3 _ none (fun v' => some (.inl v')) (fun w => some (.inr w))) fail (fun r => Sum.elim next out r) := by
  unfold i_MacOf_L0_B
  exact bifT (f := (fun o => optK o fail (fun r => Sum.elim next out r))) (fun _ => bifT (f := (fun o => optK o fail (fun r => Sum.elim next out r))) (fun _ => bifT (f := (fun o => optK o fail (fun r => Sum.elim next out r))) (fun _ => letT (f := (fun o => optK o fail (fun r => Sum.elim next out r))) (fun e2 _ => rfl))
      (fun _ => rfl)) (fun _ => rfl))
      (fun _ => rfl)
def i_MacOf_L0_r : Round i_MacOf_L0_sh.T (WT i_MacOf_L0_es) where
  B v γ fail next out := i_MacOf_L0_B v.1.1.1 v.1.2.1.1 v.1.2.2.1.1 v.1.2.2.2.1.1 γ fail next out
  par v γ fail next out := i_MacOf_L0_par v.1.1.1 v.1.2.1.1 v.1.2.2.1.1 v.1.2.2.2.1.1 γ fail next out
def i_MacOf_L0_fu (v0 : Bytes) (v1 : List MacRow) (v2 : Int) (v3 : Int) : Nat := (Int.toNat (v2 - v3)) + 1
theorem i_MacOf_L0_lk (v : i_MacOf_L0_sh.T) (next : St → Option Res) (k : Ex → St → Option Res) : evalK te (orcOf (P := Try.prog) [i_SipHash_e]) (lorcOf []) Try.f153.ntmps i_MacOf_ann (nthLoop (bodyOf Try.f153) 0 0) 0 (i_MacOf_L0_sh.enc v) (endK ⟨[1, 19, 20, 21], [], false, 0⟩ ⟨[4], [], false, 0⟩ next k) =
  i_MacOf_L0_r.B v _ none (fun v' => next (i_MacOf_L0_sh.enc v')) (fun w => outK i_MacOf_L0_es k w) := by kernel_rfl
def i_MacOf_L0_le : LE := leOf 0 i_MacOf_L0_sh i_MacOf_L0_es i_MacOf_L0_r.step (fun v => i_MacOf_L0_fu v.1.1.1 v.1.2.1.1 v.1.2.2.1.1 v.1.2.2.2.1.1)
theorem i_MacOf_L0_ls (w0 : World) (mo : Mts) (I0 : Nat → Prop) (hmo : mo.length = 0) : LSem Try.prog (Sim w0 mo Try.f153.ntmps I0) (fun b s k => match Nat.beq 0 b with | true => i_MacOf_L0_le.run s k | false => none) 0 (nthLoop (bodyOf Try.f153) 0 0) :=
  le_sem hmo (lorc := lorcOf []) (ann := i_MacOf_ann) (keep := ⟨[1, 19, 20, 21], [], false, 0⟩) (kout := ⟨[4], [], false, 0⟩) teFact mixFact (orcOf_ok _) (by kernel_rfl) (allLoops_of (bs := []) (by kernel_rfl) trivial) i_MacOf_L0_r _ i_MacOf_L0_lk
def i_MacOf_L0_f (v0 : Bytes) (v1 : List MacRow) (v2 : Int) (v3 : Int) (a : Unit) : Stp (Unit) ((Int)) :=
  bif ((v1.getD v3.toNat (Ty.zero .macRow)).input == v0) then
    letK (α := Int) (IntKind.wrap .i64 ((((v1.getD v3.toNat (Ty.zero .macRow)).value).tmod 16777216) + 16777216)) fun e2 =>
    .out ((e2.tmod 16777216))
  else
  .next ()
theorem i_MacOf_L0_st (v0 : Bytes) (v1 : List MacRow) (v2 : Int) (v3 : Int) (hlo : 0 ≤ v3) (hhi : v3 < v2) (hN : v2 ≤ 4611686018427387904) (hi0 : v2 ≤ (v1.length : Int)) : i_MacOf_L0_r.step (i_MacOf_L0_mk v0 v1 v2 v3) = Stp.elim (fun a' : Unit => some (Sum.inl (i_MacOf_L0_mk v0 v1 v2 (v3 + 1)))) (fun w => some (Sum.inr ((fun p : Int => Sum.inl (i_MacOf_L0_mx0 p)) w))) (i_MacOf_L0_f v0 v1 v2 v3 ()) := by
  have hw : (IntKind.wrap .i64 (v3 + 1)) = v3 + 1 := wrap64 (by omega) (by omega)
  show i_MacOf_L0_B v0 v1 v2 v3 (Option (i_MacOf_L0_sh.T ⊕ WT i_MacOf_L0_es)) none (fun v' => some (Sum.inl v')) (fun w => some (Sum.inr w)) = _
  unfold i_MacOf_L0_B i_MacOf_L0_f
  exact bifG (by simp only [decide_eq_true_eq]; omega) (bifG (by (try simp only [Nat.ble_eq, Bool.and_eq_true, decide_eq_true_eq]); grind [maxSl, maxStr, toBytes_length, toInts_length, List.length_set, wrap64]) (bifT (f := (Stp.elim (fun a' : Unit => some (Sum.inl (i_MacOf_L0_mk v0 v1 v2 (v3 + 1)))) (fun w => some (Sum.inr ((fun p : Int => Sum.inl (i_MacOf_L0_mx0 p)) w))))) (fun b0 => letT (f := (Stp.elim (fun a' : Unit => some (Sum.inl (i_MacOf_L0_mk v0 v1 v2 (v3 + 1)))) (fun w => some (Sum.inr ((fun p : Int => Sum.inl (i_MacOf_L0_mx0 p)) w))))) (fun e2 he2 => rfl))
      (fun b0 => (by exact congrArg (fun z => some (Sum.inl (i_MacOf_L0_mk v0 v1 v2 z))) hw))))
theorem i_MacOf_L0_cl (v0 : Bytes) (v1 : List MacRow) (v2 : Int) (v3 : Int) (h0 : 0 ≤ v3) (h1 : v2 ≤ 4611686018427387904) (h2 : v2 ≤ (v1.length : Int)) : loopF i_MacOf_L0_r.step (i_MacOf_L0_fu v0 v1 v2 v3) (i_MacOf_L0_mk v0 v1 v2 v3) = some (Stp.elim (fun a => (fun i a => Sum.inr (i_MacOf_L0_mx1 )) (v3 + 1 * (((Int.toNat (v2 - v3)) : Nat) : Int)) a) (fun p : Int => Sum.inl (i_MacOf_L0_mx0 p)) (forN (i_MacOf_L0_f v0 v1 v2) 1 (Int.toNat (v2 - v3)) v3 ())) :=
  forN_loop (step := i_MacOf_L0_r.step) (mk := fun v3 a => i_MacOf_L0_mk v0 v1 v2 v3) (f := i_MacOf_L0_f v0 v1 v2) (e := (fun i a => Sum.inr (i_MacOf_L0_mx1 ))) (emb := (fun p : Int => Sum.inl (i_MacOf_L0_mx0 p))) (st := 1) (Inv := fun v3 a => True) (Int.toNat (v2 - v3)) v3 () _ (Nat.lt_succ_self _) trivial
    (fun j a hj hv => ⟨i_MacOf_L0_st v0 v1 v2 (v3 + 1 * (j : Int)) (by omega) (by omega) (by omega) h2, fun _ _ => trivial⟩)
    (fun a hv => by
      show i_MacOf_L0_B v0 v1 v2 (v3 + 1 * (((Int.toNat (v2 - v3)) : Nat) : Int)) (Option (i_MacOf_L0_sh.T ⊕ WT i_MacOf_L0_es)) none (fun v' => some (Sum.inl v')) (fun w => some (Sum.inr w)) = _
      unfold i_MacOf_L0_B
      exact bifN (by simp only [decide_eq_false_iff_not]; omega) rfl)
def i_MacOf_N (x0 : Mac) (x1 : Bytes) (γ : Type) (fail : γ) (k : Int → γ) : γ :=
  bif (!x0.use) then
    bif (decide (x1.length ≤ 4294967296)) then
    letK (α := Int) (i_SipHash x0.k x0.l x1) fun c1 =>
    k (IntKind.wrap .i64 (c1.tmod 16777216))
    else fail
  else
  optK (loopF i_MacOf_L0_r.step (i_MacOf_L0_fu x1 x0.rows (x0.rows.length : Int) 0) (i_MacOf_L0_mk x1 x0.rows (x0.rows.length : Int) 0)) fail fun w3 =>
    Sum.elim (fun w3 =>
      k w3.1.1.1)
    (fun w3 =>
      k 0) w3
def i_MacOf (x0 : Mac) (x1 : Bytes) : Int :=
  bif (!x0.use) then
    letK (α := Int) (i_SipHash x0.k x0.l x1) fun c1 =>
    (IntKind.wrap .i64 (c1.tmod 16777216))
  else
  Stp.elim (fun a4 =>
    0)
    (fun p4 =>
      p4)
    (forN (i_MacOf_L0_f x1 x0.rows (x0.rows.length : Int)) 1 (Int.toNat ((x0.rows.length : Int) - 0)) 0 ())
theorem i_MacOf_lk (x0 : Mac) (x1 : Bytes) : evalFn te (orcOf (P := Try.prog) [i_SipHash_e]) (lorcOf [i_MacOf_L0_le]) i_MacOf_ann Try.f153 (pvs [.st .mac, .sc .str] (x0, x1, ())) =
  i_MacOf_N x0 x1 _ none (fun v => some [(false, [RC.c (.int .i64 v)])]) := by kernel_rfl
theorem i_MacOf_p (x0 : Mac) (x1 : Bytes) (hx0_k : inK .u64 x0.k) (hx0_l : inK .u64 x0.l) (hx0_rows : x0.rows.length ≤ 140737488355328) (hx0_rows_e : ∀ y ∈ x0.rows, ∀ c ∈ Ty.cells .macRow y, FactC c) (hx1 : List.length x1 ≤ 4611686018427387904) (hp : x0.rows.length ≤ 4294967296 ∧ x1.length ≤ 4294967296) (γ : Type) (fail : γ) (k : Int → γ) : i_MacOf_N x0 x1 γ fail k = k (i_MacOf x0 x1) := by
  unfold i_MacOf_N i_MacOf
  exact bifT (f := k) (fun b0 => bifG (by (try simp only [Nat.ble_eq, Bool.and_eq_true, decide_eq_true_eq, i_MacOf_L0_mx0, i_MacOf_L0_mx1]); grind [maxSl, maxStr, toBytes_length, toInts_length, List.length_set, wrap64]) (letT (f := k) (fun c1 hc1 => rfl)))
      (fun b0 => loopT (f := k) (i_MacOf_L0_cl x1 x0.rows (x0.rows.length : Int) 0 (by (try simp only [Nat.ble_eq, Bool.and_eq_true, decide_eq_true_eq, i_MacOf_L0_mx0, i_MacOf_L0_mx1]); grind [maxSl, maxStr, toBytes_length, toInts_length, List.length_set, wrap64]) (by (try simp only [Nat.ble_eq, Bool.and_eq_true, decide_eq_true_eq, i_MacOf_L0_mx0, i_MacOf_L0_mx1]); grind [maxSl, maxStr, toBytes_length, toInts_length, List.length_set, wrap64]) (by (try simp only [Nat.ble_eq, Bool.and_eq_true, decide_eq_true_eq, i_MacOf_L0_mx0, i_MacOf_L0_mx1]); grind [maxSl, maxStr, toBytes_length, toInts_length, List.length_set, wrap64])) (fun a4 => rfl)
      (fun p4 => rfl))
theorem i_MacOf_c (x0 : Mac) (x1 : Bytes) (hp : x0.rows.length ≤ 4294967296 ∧ x1.length ≤ 4294967296) : Con Try.prog 153 (pvs [.st .mac, .sc .str] (x0, x1, ())) [rv (.sc (.int .i64)) [] (i_MacOf x0 x1)] := by
  refine Con.of_facts (enters_of Try.func153 rfl (by kernel_rfl)) fun hf => ?_
  replace hf := factAt hf
  exact evalFn_conL teFact mixFact (orcOf_ok _) Try.func153 (by kernel_rfl) (bs := [0]) (by kernel_rfl) (by kernel_rfl) (fun w0 mo I0 hmo => ⟨lsem_of_lorc (i_MacOf_L0_ls w0 mo I0 hmo) (by kernel_rfl), trivial⟩) ((i_MacOf_lk x0 x1).trans (i_MacOf_p x0 x1 ((hf 0 1 rfl rfl).rng) ((hf 0 2 rfl rfl).rng) ((hf 0 3 rfl rfl).len) (fun y hy => (hf 0 3 rfl rfl).elem hy) ((hf 1 0 rfl rfl).slen) hp _ _ _))
noncomputable def i_MacOf_e : Ent1 Try.prog := entP 153 [.st .mac, .sc .str] (fun x => (decide (x.1.rows.length ≤ 4294967296 ∧ x.2.1.length ≤ 4294967296))) (fun x => (i_MacOf x.1 x.2.1)) (fun v => [rv (.sc (.int .i64)) [] v]) (fun x hx => i_MacOf_c x.1 x.2.1 (of_decide_eq_true hx))


end Go.Proofs.Ytbikbonhcfbmeaa
