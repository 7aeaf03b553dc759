/-
  Contracts of functions and plain laws (printed by a program): each theorem says what a function of the program returns; conditions are its hypotheses.
-/
import Derived.Test.YtbikbonhcfbmeaaE1
set_option maxRecDepth 4000
set_option linter.unusedVariables false
set_option linter.unusedSimpArgs false
namespace Go.Proofs.Ytbikbonhcfbmeaa
open Go Go.RowKit

/-- spec.MacOf -/
def s_MacOf_ann : List (Nat × Keep) := [(0, ⟨[1, 2, 5], [], false, 0⟩)]
def s_MacOf_L0_sh : Sh := ⟨[(1, false, [.str]), (2, false, [.ptr 0 0]), (5, false, [.int .i64])], [.box [.bool, .int .u64, .int .u64, .sl .arg .macRow]]⟩
def s_MacOf_L0_es : List (Ex × Sh) := [(.ret, ⟨[(4, false, [.int .i64])], []⟩), (.exit 0, ⟨[(4, false, [.undef])], []⟩)]
def s_MacOf_L0_mk (v0 : Bytes) (v1 : Int) (v2 : Bool) (v3 : Int) (v4 : Int) (v5 : List MacRow) : s_MacOf_L0_sh.T := (((v0, ()), (((), ()), ((v1, ()), ()))), ((v2, (v3, (v4, (v5, ())))), ()))
def s_MacOf_L0_mx0 (y0 : Int) : Sh.T ⟨[(4, false, [.int .i64])], []⟩ := (((y0, ()), ()), ())
def s_MacOf_L0_mx1  : Sh.T ⟨[(4, false, [.undef])], []⟩ := ((((), ()), ()), ())
def s_MacOf_L0_B (v0 : Bytes) (v1 : Int) (v2 : Bool) (v3 : Int) (v4 : Int) (v5 : List MacRow) (γ : Type) (fail : γ) (next : s_MacOf_L0_sh.T → γ) (out : WT s_MacOf_L0_es → γ) : γ :=
  bif (decide (v1 < (v5.length : Int))) then
    bif ((decide (0 ≤ v1)) && (decide (v1 < (v5.length : Int)))) then
    bif ((v5.getD v1.toNat (Ty.zero .macRow)).input == v0) then
      bif ((decide (0 ≤ v1)) && (decide (v1 < (v5.length : Int)))) then
      bif (decide ((((v5.getD v1.toNat (Ty.zero .macRow)).value).tmod 16777216) < 0)) then
        letK (α := Int) (IntKind.wrap .i64 ((((v5.getD v1.toNat (Ty.zero .macRow)).value).tmod 16777216) + 16777216)) fun e2 =>
        out (Sum.inl (s_MacOf_L0_mx0 e2))
      else
      out (Sum.inl (s_MacOf_L0_mx0 (((v5.getD v1.toNat (Ty.zero .macRow)).value).tmod 16777216)))
      else fail
    else
    next (s_MacOf_L0_mk v0 (IntKind.wrap .i64 (v1 + 1)) v2 v3 v4 v5)
    else fail
  else
  out (Sum.inr (s_MacOf_L0_mx1 ))
theorem s_MacOf_L0_par (v0 : Bytes) (v1 : Int) (v2 : Bool) (v3 : Int) (v4 : Int) (v5 : List MacRow) (γ : Type) (fail : γ) (next : s_MacOf_L0_sh.T → γ) (out : WT s_MacOf_L0_es → γ) : s_MacOf_L0_B v0 v1 v2 v3 v4 v5 γ fail next out = optK (s_MacOf_L0_B v0 v1 v2 v3 v4 v5 _ none (fun v' => some (.inl v')) (fun w => some (.inr w))) fail (fun r => Sum.elim next out r) := by
  unfold s_MacOf_L0_B
  exact bifT (f := (fun o => optK o fail (fun r => Sum.elim next out r))) (fun _ => bifT (f := (fun o => optK o fail (fun r => Sum.elim next out r))) (fun _ => bifT (f := (fun o => optK o fail (fun r => Sum.elim next out r))) (fun _ => bifT (f := (fun o => optK o fail (fun r => Sum.elim next out r))) (fun _ => bifT (f := (fun o => optK o fail (fun r => Sum.elim next out r))) (fun _ => letT (f := (fun o => optK o fail (fun r => Sum.elim next out r))) (fun e2 _ => rfl))
      (fun _ => rfl)) (fun _ => rfl))
      (fun _ => rfl)) (fun _ => rfl))
      (fun _ => rfl)
def s_MacOf_L0_r : Round s_MacOf_L0_sh.T (WT s_MacOf_L0_es) where
  B v γ fail next out := s_MacOf_L0_B v.1.1.1 v.1.2.2.1.1 v.2.1.1 v.2.1.2.1 v.2.1.2.2.1 v.2.1.2.2.2.1 γ fail next out
  par v γ fail next out := s_MacOf_L0_par v.1.1.1 v.1.2.2.1.1 v.2.1.1 v.2.1.2.1 v.2.1.2.2.1 v.2.1.2.2.2.1 γ fail next out
def s_MacOf_L0_fu (v0 : Bytes) (v1 : Int) (v2 : Bool) (v3 : Int) (v4 : Int) (v5 : List MacRow) : Nat := (Int.toNat ((v5.length : Int) - v1)) + 1
theorem s_MacOf_L0_lk (v : s_MacOf_L0_sh.T) (next : St → Option Res) (k : Ex → St → Option Res) : evalK te (orcOf (P := Try.prog) [s_SipHash_e]) (lorcOf []) Try.f157.ntmps s_MacOf_ann (nthLoop (bodyOf Try.f157) 0 0) 0 (s_MacOf_L0_sh.enc v) (endK ⟨[1, 2, 5], [], false, 0⟩ ⟨[4], [], false, 0⟩ next k) =
  s_MacOf_L0_r.B v _ none (fun v' => next (s_MacOf_L0_sh.enc v')) (fun w => outK s_MacOf_L0_es k w) := by kernel_rfl
def s_MacOf_L0_le : LE := leOf 0 s_MacOf_L0_sh s_MacOf_L0_es s_MacOf_L0_r.step (fun v => s_MacOf_L0_fu v.1.1.1 v.1.2.2.1.1 v.2.1.1 v.2.1.2.1 v.2.1.2.2.1 v.2.1.2.2.2.1)
theorem s_MacOf_L0_ls (w0 : World) (mo : Mts) (I0 : Nat → Prop) (hmo : mo.length = 0) : LSem Try.prog (Sim w0 mo Try.f157.ntmps I0) (fun b s k => match Nat.beq 0 b with | true => s_MacOf_L0_le.run s k | false => none) 0 (nthLoop (bodyOf Try.f157) 0 0) :=
  le_sem hmo (lorc := lorcOf []) (ann := s_MacOf_ann) (keep := ⟨[1, 2, 5], [], false, 0⟩) (kout := ⟨[4], [], false, 0⟩) teFact mixFact (orcOf_ok _) (by kernel_rfl) (allLoops_of (bs := []) (by kernel_rfl) trivial) s_MacOf_L0_r _ s_MacOf_L0_lk
def s_MacOf_L0_f (v0 : Bytes) (v2 : Bool) (v3 : Int) (v4 : Int) (v5 : List MacRow) (v1 : Int) (a : Unit) : Stp (Unit) ((Int)) :=
  bif ((v5.getD v1.toNat (Ty.zero .macRow)).input == v0) then
    bif (decide ((((v5.getD v1.toNat (Ty.zero .macRow)).value).tmod 16777216) < 0)) then
      letK (α := Int) (IntKind.wrap .i64 ((((v5.getD v1.toNat (Ty.zero .macRow)).value).tmod 16777216) + 16777216)) fun e2 =>
      .out (e2)
    else
    .out ((((v5.getD v1.toNat (Ty.zero .macRow)).value).tmod 16777216))
  else
  .next ()
theorem s_MacOf_L0_st (v0 : Bytes) (v1 : Int) (v2 : Bool) (v3 : Int) (v4 : Int) (v5 : List MacRow) (hlo : 0 ≤ v1) (hhi : v1 < (v5.length : Int)) (hN : (v5.length : Int) ≤ 4611686018427387904) : s_MacOf_L0_r.step (s_MacOf_L0_mk v0 v1 v2 v3 v4 v5) = Stp.elim (fun a' : Unit => some (Sum.inl (s_MacOf_L0_mk v0 (v1 + 1) v2 v3 v4 v5))) (fun w => some (Sum.inr ((fun p : Int => Sum.inl (s_MacOf_L0_mx0 p)) w))) (s_MacOf_L0_f v0 v2 v3 v4 v5 v1 ()) := by
  have hw : (IntKind.wrap .i64 (v1 + 1)) = v1 + 1 := wrap64 (by omega) (by omega)
  show s_MacOf_L0_B v0 v1 v2 v3 v4 v5 (Option (s_MacOf_L0_sh.T ⊕ WT s_MacOf_L0_es)) none (fun v' => some (Sum.inl v')) (fun w => some (Sum.inr w)) = _
  unfold s_MacOf_L0_B s_MacOf_L0_f
  exact bifG (by simp only [decide_eq_true_eq]; omega) (bifG (by (try simp only [Nat.ble_eq, Bool.and_eq_true, decide_eq_true_eq]); grind [maxSl, maxStr, toBytes_length, toInts_length, List.length_set, wrap64]) (bifT (f := (Stp.elim (fun a' : Unit => some (Sum.inl (s_MacOf_L0_mk v0 (v1 + 1) v2 v3 v4 v5))) (fun w => some (Sum.inr ((fun p : Int => Sum.inl (s_MacOf_L0_mx0 p)) w))))) (fun b0 => bifG (by (try simp only [Nat.ble_eq, Bool.and_eq_true, decide_eq_true_eq]); grind [maxSl, maxStr, toBytes_length, toInts_length, List.length_set, wrap64]) (bifT (f := (Stp.elim (fun a' : Unit => some (Sum.inl (s_MacOf_L0_mk v0 (v1 + 1) v2 v3 v4 v5))) (fun w => some (Sum.inr ((fun p : Int => Sum.inl (s_MacOf_L0_mx0 p)) w))))) (fun b1 => letT (f := (Stp.elim (fun a' : Unit => some (Sum.inl (s_MacOf_L0_mk v0 (v1 + 1) v2 v3 v4 v5))) (fun w => some (Sum.inr ((fun p : Int => Sum.inl (s_MacOf_L0_mx0 p)) w))))) (fun e2 he2 => rfl))
      (fun b1 => rfl)))
      (fun b0 => (by exact congrArg (fun z => some (Sum.inl (s_MacOf_L0_mk v0 z v2 v3 v4 v5))) hw))))
theorem s_MacOf_L0_cl (v0 : Bytes) (v1 : Int) (v2 : Bool) (v3 : Int) (v4 : Int) (v5 : List MacRow) (h0 : 0 ≤ v1) (h1 : (v5.length : Int) ≤ 4611686018427387904) : loopF s_MacOf_L0_r.step (s_MacOf_L0_fu v0 v1 v2 v3 v4 v5) (s_MacOf_L0_mk v0 v1 v2 v3 v4 v5) = some (Stp.elim (fun a => (fun i a => Sum.inr (s_MacOf_L0_mx1 )) (v1 + 1 * (((Int.toNat ((v5.length : Int) - v1)) : Nat) : Int)) a) (fun p : Int => Sum.inl (s_MacOf_L0_mx0 p)) (forN (s_MacOf_L0_f v0 v2 v3 v4 v5) 1 (Int.toNat ((v5.length : Int) - v1)) v1 ())) :=
  forN_loop (step := s_MacOf_L0_r.step) (mk := fun v1 a => s_MacOf_L0_mk v0 v1 v2 v3 v4 v5) (f := s_MacOf_L0_f v0 v2 v3 v4 v5) (e := (fun i a => Sum.inr (s_MacOf_L0_mx1 ))) (emb := (fun p : Int => Sum.inl (s_MacOf_L0_mx0 p))) (st := 1) (Inv := fun v1 a => True) (Int.toNat ((v5.length : Int) - v1)) v1 () _ (Nat.lt_succ_self _) trivial
    (fun j a hj hv => ⟨s_MacOf_L0_st v0 (v1 + 1 * (j : Int)) v2 v3 v4 v5 (by omega) (by omega) (by omega), fun _ _ => trivial⟩)
    (fun a hv => by
      show s_MacOf_L0_B v0 (v1 + 1 * (((Int.toNat ((v5.length : Int) - v1)) : Nat) : Int)) v2 v3 v4 v5 (Option (s_MacOf_L0_sh.T ⊕ WT s_MacOf_L0_es)) none (fun v' => some (Sum.inl v')) (fun w => some (Sum.inr w)) = _
      unfold s_MacOf_L0_B
      exact bifN (by simp only [decide_eq_false_iff_not]; omega) rfl)
def s_MacOf_N (x0 : Mac) (x1 : Bytes) (γ : Type) (fail : γ) (k : Int → γ) : γ :=
  bif (!x0.use) then
    bif (decide (x1.length ≤ 4294967296)) then
    letK (α := Int) (s_SipHash x0.k x0.l x1) fun c1 =>
    k (IntKind.wrap .i64 (c1.tmod 16777216))
    else fail
  else
  optK (loopF s_MacOf_L0_r.step (s_MacOf_L0_fu x1 0 x0.use x0.k x0.l x0.rows) (s_MacOf_L0_mk x1 0 x0.use x0.k x0.l x0.rows)) fail fun w3 =>
    Sum.elim (fun w3 =>
      k w3.1.1.1)
    (fun w3 =>
      k 0) w3
def s_MacOf (x0 : Mac) (x1 : Bytes) : Int :=
  bif (!x0.use) then
    letK (α := Int) (s_SipHash x0.k x0.l x1) fun c1 =>
    (IntKind.wrap .i64 (c1.tmod 16777216))
  else
  Stp.elim (fun a4 =>
    0)
    (fun p4 =>
      p4)
    (forN (s_MacOf_L0_f x1 x0.use x0.k x0.l x0.rows) 1 (Int.toNat ((x0.rows.length : Int) - 0)) 0 ())
theorem s_MacOf_lk (x0 : Mac) (x1 : Bytes) : evalFn te (orcOf (P := Try.prog) [s_SipHash_e]) (lorcOf [s_MacOf_L0_le]) s_MacOf_ann Try.f157 (pvs [.st .mac, .sc .str] (x0, x1, ())) =
  s_MacOf_N x0 x1 _ none (fun v => some [(false, [RC.c (.int .i64 v)])]) := by kernel_rfl
theorem s_MacOf_p (x0 : Mac) (x1 : Bytes) (hx0_k : inK .u64 x0.k) (hx0_l : inK .u64 x0.l) (hx0_rows : x0.rows.length ≤ 140737488355328) (hx0_rows_e : ∀ y ∈ x0.rows, ∀ c ∈ Ty.cells .macRow y, FactC c) (hx1 : List.length x1 ≤ 4611686018427387904) (hp : x0.rows.length ≤ 4294967296 ∧ x1.length ≤ 4294967296) (γ : Type) (fail : γ) (k : Int → γ) : s_MacOf_N x0 x1 γ fail k = k (s_MacOf x0 x1) := by
  unfold s_MacOf_N s_MacOf
  exact bifT (f := k) (fun b0 => bifG (by (try simp only [Nat.ble_eq, Bool.and_eq_true, decide_eq_true_eq, s_MacOf_L0_mx0, s_MacOf_L0_mx1]); grind [maxSl, maxStr, toBytes_length, toInts_length, List.length_set, wrap64]) (letT (f := k) (fun c1 hc1 => rfl)))
      (fun b0 => loopT (f := k) (s_MacOf_L0_cl x1 0 x0.use x0.k x0.l x0.rows (by (try simp only [Nat.ble_eq, Bool.and_eq_true, decide_eq_true_eq, s_MacOf_L0_mx0, s_MacOf_L0_mx1]); grind [maxSl, maxStr, toBytes_length, toInts_length, List.length_set, wrap64]) (by (try simp only [Nat.ble_eq, Bool.and_eq_true, decide_eq_true_eq, s_MacOf_L0_mx0, s_MacOf_L0_mx1]); grind [maxSl, maxStr, toBytes_length, toInts_length, List.length_set, wrap64])) (fun a4 => rfl)
      (fun p4 => rfl))
theorem s_MacOf_c (x0 : Mac) (x1 : Bytes) (hp : x0.rows.length ≤ 4294967296 ∧ x1.length ≤ 4294967296) : Con Try.prog 157 (pvs [.st .mac, .sc .str] (x0, x1, ())) [rv (.sc (.int .i64)) [] (s_MacOf x0 x1)] := by
  refine Con.of_facts (enters_of Try.func157 rfl (by kernel_rfl)) fun hf => ?_
  replace hf := factAt hf
  exact evalFn_conL teFact mixFact (orcOf_ok _) Try.func157 (by kernel_rfl) (bs := [0]) (by kernel_rfl) (by kernel_rfl) (fun w0 mo I0 hmo => ⟨lsem_of_lorc (s_MacOf_L0_ls w0 mo I0 hmo) (by kernel_rfl), trivial⟩) ((s_MacOf_lk x0 x1).trans (s_MacOf_p x0 x1 ((hf 0 1 rfl rfl).rng) ((hf 0 2 rfl rfl).rng) ((hf 0 3 rfl rfl).len) (fun y hy => (hf 0 3 rfl rfl).elem hy) ((hf 1 0 rfl rfl).slen) hp _ _ _))
noncomputable def s_MacOf_e : Ent1 Try.prog := entP 157 [.st .mac, .sc .str] (fun x => (decide (x.1.rows.length ≤ 4294967296 ∧ x.2.1.length ≤ 4294967296))) (fun x => (s_MacOf x.1 x.2.1)) (fun v => [rv (.sc (.int .i64)) [] v]) (fun x hx => s_MacOf_c x.1 x.2.1 (of_decide_eq_true hx))


/-- impl.MacOk$1 -/
def i_MacOk_1_N (x0 : MacRow) (y1 : MacRow) (γ : Type) (fail : γ) (k : Bool → γ) : γ :=
  k (x0.input == y1.input)
def i_MacOk_1 (x0 : MacRow) (y1 : MacRow) : Bool :=
  (x0.input == y1.input)
theorem i_MacOk_1_lk (x0 : MacRow) (y1 : MacRow) : evalFnM te (orcOf (P := Try.prog) []) lorc0 [] Try.f175 (pvs [.st .macRow, .wr false [.ptr 0]] (x0, (), ())) (mos [.box [.c .str, .c (.int .i64)]] ((y1.input, y1.value, ()), ())) =
  i_MacOk_1_N x0 y1 _ none (fun v => some ([(false, [RC.c (.bool v)])] ++ (mos [.box [.c .str, .c (.int .i64)]] ((y1.input, y1.value, ()), ())).map encO)) := by kernel_rfl
theorem i_MacOk_1_p (x0 : MacRow) (y1 : MacRow)   (γ : Type) (fail : γ) (k : Bool → γ) : i_MacOk_1_N x0 y1 γ fail k = k (i_MacOk_1 x0 y1) := by
  unfold i_MacOk_1_N i_MacOk_1
  exact rfl
theorem i_MacOk_1_c (x0 : MacRow) (y1 : MacRow)  : ConM Try.prog 175 (pvs [.st .macRow, .wr false [.ptr 0]] (x0, (), ())) (mos [.box [.c .str, .c (.int .i64)]] ((y1.input, y1.value, ()), ())) [rv (.sc .bool) [] (i_MacOk_1 x0 y1)] (mos [.box [.c .str, .c (.int .i64)]] ((y1.input, y1.value, ()), ())) := by
  exact evalFn_conLM teFact mixFact (orcOf_ok _) Try.func175 (by kernel_rfl) (bs := []) (by kernel_rfl) (by kernel_rfl) (by kernel_rfl) rfl (fun w0 mo I0 hmo => trivial) ((i_MacOk_1_lk x0 y1).trans (i_MacOk_1_p x0 y1  _ _ _))
noncomputable def i_MacOk_1_e : Ent1 Try.prog := entM 175 [.st .macRow, .wr false [.ptr 0]] [.box [.c .str, .c (.int .i64)]] (fun x y => true) (fun x y => (i_MacOk_1 x.1 (⟨y.1.1, y.1.2.1⟩ : MacRow))) (fun v => [rv (.sc .bool) [] v]) (fun x y v => (mos [.box [.c .str, .c (.int .i64)]] (((⟨y.1.1, y.1.2.1⟩ : MacRow).input, (⟨y.1.1, y.1.2.1⟩ : MacRow).value, ()), ()))) (fun x y hx => i_MacOk_1_c x.1 (⟨y.1.1, y.1.2.1⟩ : MacRow))


/-- slices.IndexFunc[[]impl.MacRow,impl.MacRow] -/
def g_IndexFunc_MacRow_i_MacOk_1_ann : List (Nat × Keep) := [(0, ⟨[0, 1, 7, 8], [], false, 1⟩)]
def g_IndexFunc_MacRow_i_MacOk_1_L0_sh : Sh := ⟨[(0, false, [.sl .arg .macRow]), (1, false, [.fn 175 [0]]), (7, false, [.int .i64]), (8, false, [.int .i64])], [.box [.str, .int .i64]]⟩
def g_IndexFunc_MacRow_i_MacOk_1_L0_es : List (Ex × Sh) := [(.ret, ⟨[(4, false, [.int .i64])], [.box [.str, .int .i64]]⟩), (.exit 0, ⟨[(4, false, [.undef])], [.box [.str, .int .i64]]⟩)]
def g_IndexFunc_MacRow_i_MacOk_1_L0_mk (v0 : List MacRow) (v1 : Int) (v2 : Int) (v3 : Bytes) (v4 : Int) : g_IndexFunc_MacRow_i_MacOk_1_L0_sh.T := (((v0, ()), (((), ()), ((v1, ()), ((v2, ()), ())))), ((v3, (v4, ())), ()))
def g_IndexFunc_MacRow_i_MacOk_1_L0_mx0 (y0 : Int) (y1 : Bytes) (y2 : Int) : Sh.T ⟨[(4, false, [.int .i64])], [.box [.str, .int .i64]]⟩ := (((y0, ()), ()), ((y1, (y2, ())), ()))
def g_IndexFunc_MacRow_i_MacOk_1_L0_mx1 (y0 : Bytes) (y1 : Int) : Sh.T ⟨[(4, false, [.undef])], [.box [.str, .int .i64]]⟩ := ((((), ()), ()), ((y0, (y1, ())), ()))
def g_IndexFunc_MacRow_i_MacOk_1_L0_B (v0 : List MacRow) (v1 : Int) (v2 : Int) (v3 : Bytes) (v4 : Int) (γ : Type) (fail : γ) (next : g_IndexFunc_MacRow_i_MacOk_1_L0_sh.T → γ) (out : WT g_IndexFunc_MacRow_i_MacOk_1_L0_es → γ) : γ :=
  bif (decide (v2 < v1)) then
    bif ((decide (0 ≤ v2)) && (decide (v2 < (v0.length : Int)))) then
    letK (α := Bool) (i_MacOk_1 (v0.getD v2.toNat (Ty.zero .macRow)) (⟨v3, v4⟩ : MacRow)) fun c1 =>
    bif c1 then
      out (Sum.inl (g_IndexFunc_MacRow_i_MacOk_1_L0_mx0 v2 v3 v4))
    else
    next (g_IndexFunc_MacRow_i_MacOk_1_L0_mk v0 v1 (IntKind.wrap .i64 (v2 + 1)) v3 v4)
    else fail
  else
  out (Sum.inr (g_IndexFunc_MacRow_i_MacOk_1_L0_mx1 v3 v4))
theorem g_IndexFunc_MacRow_i_MacOk_1_L0_par (v0 : List MacRow) (v1 : Int) (v2 : Int) (v3 : Bytes) (v4 : Int) (γ : Type) (fail : γ) (next : g_IndexFunc_MacRow_i_MacOk_1_L0_sh.T → γ) (out : WT g_IndexFunc_MacRow_i_MacOk_1_L0_es → γ) : g_IndexFunc_MacRow_i_MacOk_1_L0_B v0 v1 v2 v3 v4 γ fail next out = optK (g_IndexFunc_MacRow_i_MacOk_1_L0_B v0 v1 v2 v3 v4 _ none (fun v' => some (.inl v')) (fun w => some (.inr w))) fail (fun r => Sum.elim next out r) := by
  unfold g_IndexFunc_MacRow_i_MacOk_1_L0_B
  exact bifT (f := (fun o => optK o fail (fun r => Sum.elim next out r))) (fun _ => bifT (f := (fun o => optK o fail (fun r => Sum.elim next out r))) (fun _ => letT (f := (fun o => optK o fail (fun r => Sum.elim next out r))) (fun c1 _ => bifT (f := (fun o => optK o fail (fun r => Sum.elim next out r))) (fun _ => rfl)
      (fun _ => rfl))) (fun _ => rfl))
      (fun _ => rfl)
def g_IndexFunc_MacRow_i_MacOk_1_L0_r : Round g_IndexFunc_MacRow_i_MacOk_1_L0_sh.T (WT g_IndexFunc_MacRow_i_MacOk_1_L0_es) where
  B v γ fail next out := g_IndexFunc_MacRow_i_MacOk_1_L0_B v.1.1.1 v.1.2.2.1.1 v.1.2.2.2.1.1 v.2.1.1 v.2.1.2.1 γ fail next out
  par v γ fail next out := g_IndexFunc_MacRow_i_MacOk_1_L0_par v.1.1.1 v.1.2.2.1.1 v.1.2.2.2.1.1 v.2.1.1 v.2.1.2.1 γ fail next out
def g_IndexFunc_MacRow_i_MacOk_1_L0_fu (v0 : List MacRow) (v1 : Int) (v2 : Int) (v3 : Bytes) (v4 : Int) : Nat := (Int.toNat (v1 - v2)) + 1
theorem g_IndexFunc_MacRow_i_MacOk_1_L0_lk (v : g_IndexFunc_MacRow_i_MacOk_1_L0_sh.T) (next : St → Option Res) (k : Ex → St → Option Res) : evalK te (orcOf (P := Try.prog) [i_MacOk_1_e]) (lorcOf []) Try.f192.ntmps g_IndexFunc_MacRow_i_MacOk_1_ann (nthLoop (bodyOf Try.f192) 0 0) 0 (g_IndexFunc_MacRow_i_MacOk_1_L0_sh.enc v) (endK ⟨[0, 1, 7, 8], [], false, 1⟩ ⟨[4], [], false, 1⟩ next k) =
  g_IndexFunc_MacRow_i_MacOk_1_L0_r.B v _ none (fun v' => next (g_IndexFunc_MacRow_i_MacOk_1_L0_sh.enc v')) (fun w => outK g_IndexFunc_MacRow_i_MacOk_1_L0_es k w) := by kernel_rfl
def g_IndexFunc_MacRow_i_MacOk_1_L0_le : LE := leOf 0 g_IndexFunc_MacRow_i_MacOk_1_L0_sh g_IndexFunc_MacRow_i_MacOk_1_L0_es g_IndexFunc_MacRow_i_MacOk_1_L0_r.step (fun v => g_IndexFunc_MacRow_i_MacOk_1_L0_fu v.1.1.1 v.1.2.2.1.1 v.1.2.2.2.1.1 v.2.1.1 v.2.1.2.1)
theorem g_IndexFunc_MacRow_i_MacOk_1_L0_ls (w0 : World) (mo : Mts) (I0 : Nat → Prop) (hmo : mo.length = 1) : LSem Try.prog (Sim w0 mo Try.f192.ntmps I0) (fun b s k => match Nat.beq 0 b with | true => g_IndexFunc_MacRow_i_MacOk_1_L0_le.run s k | false => none) 0 (nthLoop (bodyOf Try.f192) 0 0) :=
  le_sem hmo (lorc := lorcOf []) (ann := g_IndexFunc_MacRow_i_MacOk_1_ann) (keep := ⟨[0, 1, 7, 8], [], false, 1⟩) (kout := ⟨[4], [], false, 1⟩) teFact mixFact (orcOf_ok _) (by kernel_rfl) (allLoops_of (bs := []) (by kernel_rfl) trivial) g_IndexFunc_MacRow_i_MacOk_1_L0_r _ g_IndexFunc_MacRow_i_MacOk_1_L0_lk
def g_IndexFunc_MacRow_i_MacOk_1_L0_f (v0 : List MacRow) (v1 : Int) (v3 : Bytes) (v4 : Int) (v2 : Int) (a : Unit) : Stp (Unit) ((Int)) :=
  letK (α := Bool) (i_MacOk_1 (v0.getD v2.toNat (Ty.zero .macRow)) (⟨v3, v4⟩ : MacRow)) fun c1 =>
  bif c1 then
    .out (v2)
  else
  .next ()
theorem g_IndexFunc_MacRow_i_MacOk_1_L0_st (v0 : List MacRow) (v1 : Int) (v2 : Int) (v3 : Bytes) (v4 : Int) (hlo : 0 ≤ v2) (hhi : v2 < v1) (hN : v1 ≤ 4611686018427387904) (hi0 : v1 ≤ (v0.length : Int)) : g_IndexFunc_MacRow_i_MacOk_1_L0_r.step (g_IndexFunc_MacRow_i_MacOk_1_L0_mk v0 v1 v2 v3 v4) = Stp.elim (fun a' : Unit => some (Sum.inl (g_IndexFunc_MacRow_i_MacOk_1_L0_mk v0 v1 (v2 + 1) v3 v4))) (fun w => some (Sum.inr ((fun p : Int => Sum.inl (g_IndexFunc_MacRow_i_MacOk_1_L0_mx0 p v3 v4)) w))) (g_IndexFunc_MacRow_i_MacOk_1_L0_f v0 v1 v3 v4 v2 ()) := by
  have hw : (IntKind.wrap .i64 (v2 + 1)) = v2 + 1 := wrap64 (by omega) (by omega)
  show g_IndexFunc_MacRow_i_MacOk_1_L0_B v0 v1 v2 v3 v4 (Option (g_IndexFunc_MacRow_i_MacOk_1_L0_sh.T ⊕ WT g_IndexFunc_MacRow_i_MacOk_1_L0_es)) none (fun v' => some (Sum.inl v')) (fun w => some (Sum.inr w)) = _
  unfold g_IndexFunc_MacRow_i_MacOk_1_L0_B g_IndexFunc_MacRow_i_MacOk_1_L0_f
  exact bifG (by simp only [decide_eq_true_eq]; omega) (bifG (by (try simp only [Nat.ble_eq, Bool.and_eq_true, decide_eq_true_eq]); grind [maxSl, maxStr, toBytes_length, toInts_length, List.length_set, wrap64]) (letT (f := (Stp.elim (fun a' : Unit => some (Sum.inl (g_IndexFunc_MacRow_i_MacOk_1_L0_mk v0 v1 (v2 + 1) v3 v4))) (fun w => some (Sum.inr ((fun p : Int => Sum.inl (g_IndexFunc_MacRow_i_MacOk_1_L0_mx0 p v3 v4)) w))))) (fun c1 hc1 => bifT (f := (Stp.elim (fun a' : Unit => some (Sum.inl (g_IndexFunc_MacRow_i_MacOk_1_L0_mk v0 v1 (v2 + 1) v3 v4))) (fun w => some (Sum.inr ((fun p : Int => Sum.inl (g_IndexFunc_MacRow_i_MacOk_1_L0_mx0 p v3 v4)) w))))) (fun b0 => rfl)
      (fun b0 => (by exact congrArg (fun z => some (Sum.inl (g_IndexFunc_MacRow_i_MacOk_1_L0_mk v0 v1 z v3 v4))) hw)))))
theorem g_IndexFunc_MacRow_i_MacOk_1_L0_cl (v0 : List MacRow) (v1 : Int) (v2 : Int) (v3 : Bytes) (v4 : Int) (h0 : 0 ≤ v2) (h1 : v1 ≤ 4611686018427387904) (h2 : v1 ≤ (v0.length : Int)) : loopF g_IndexFunc_MacRow_i_MacOk_1_L0_r.step (g_IndexFunc_MacRow_i_MacOk_1_L0_fu v0 v1 v2 v3 v4) (g_IndexFunc_MacRow_i_MacOk_1_L0_mk v0 v1 v2 v3 v4) = some (Stp.elim (fun a => (fun i a => Sum.inr (g_IndexFunc_MacRow_i_MacOk_1_L0_mx1 v3 v4)) (v2 + 1 * (((Int.toNat (v1 - v2)) : Nat) : Int)) a) (fun p : Int => Sum.inl (g_IndexFunc_MacRow_i_MacOk_1_L0_mx0 p v3 v4)) (forN (g_IndexFunc_MacRow_i_MacOk_1_L0_f v0 v1 v3 v4) 1 (Int.toNat (v1 - v2)) v2 ())) :=
  forN_loop (step := g_IndexFunc_MacRow_i_MacOk_1_L0_r.step) (mk := fun v2 a => g_IndexFunc_MacRow_i_MacOk_1_L0_mk v0 v1 v2 v3 v4) (f := g_IndexFunc_MacRow_i_MacOk_1_L0_f v0 v1 v3 v4) (e := (fun i a => Sum.inr (g_IndexFunc_MacRow_i_MacOk_1_L0_mx1 v3 v4))) (emb := (fun p : Int => Sum.inl (g_IndexFunc_MacRow_i_MacOk_1_L0_mx0 p v3 v4))) (st := 1) (Inv := fun v2 a => True) (Int.toNat (v1 - v2)) v2 () _ (Nat.lt_succ_self _) trivial
    (fun j a hj hv => ⟨g_IndexFunc_MacRow_i_MacOk_1_L0_st v0 v1 (v2 + 1 * (j : Int)) v3 v4 (by omega) (by omega) (by omega) h2, fun _ _ => trivial⟩)
    (fun a hv => by
      show g_IndexFunc_MacRow_i_MacOk_1_L0_B v0 v1 (v2 + 1 * (((Int.toNat (v1 - v2)) : Nat) : Int)) v3 v4 (Option (g_IndexFunc_MacRow_i_MacOk_1_L0_sh.T ⊕ WT g_IndexFunc_MacRow_i_MacOk_1_L0_es)) none (fun v' => some (Sum.inl v')) (fun w => some (Sum.inr w)) = _
      unfold g_IndexFunc_MacRow_i_MacOk_1_L0_B
      exact bifN (by simp only [decide_eq_false_iff_not]; omega) rfl)
def g_IndexFunc_MacRow_i_MacOk_1_N (x0 : List MacRow) (y1_0 : MacRow) (γ : Type) (fail : γ) (k : Int × MacRow → γ) : γ :=
  optK (loopF g_IndexFunc_MacRow_i_MacOk_1_L0_r.step (g_IndexFunc_MacRow_i_MacOk_1_L0_fu x0 (x0.length : Int) 0 y1_0.input y1_0.value) (g_IndexFunc_MacRow_i_MacOk_1_L0_mk x0 (x0.length : Int) 0 y1_0.input y1_0.value)) fail fun w2 =>
    Sum.elim (fun w2 =>
      k (w2.1.1.1, (⟨w2.2.1.1, w2.2.1.2.1⟩ : MacRow)))
    (fun w2 =>
      k ((-1), (⟨w2.2.1.1, w2.2.1.2.1⟩ : MacRow))) w2
def g_IndexFunc_MacRow_i_MacOk_1 (x0 : List MacRow) (y1_0 : MacRow) : Int × MacRow :=
  Stp.elim (fun a3 =>
    ((-1), y1_0))
    (fun p3 =>
      (p3, y1_0))
    (forN (g_IndexFunc_MacRow_i_MacOk_1_L0_f x0 (x0.length : Int) y1_0.input y1_0.value) 1 (Int.toNat ((x0.length : Int) - 0)) 0 ())
theorem g_IndexFunc_MacRow_i_MacOk_1_lk (x0 : List MacRow) (y1_0 : MacRow) : evalFnM te (orcOf (P := Try.prog) [i_MacOk_1_e]) (lorcOf [g_IndexFunc_MacRow_i_MacOk_1_L0_le]) g_IndexFunc_MacRow_i_MacOk_1_ann Try.f192 (pvs [.sc (.sl .macRow), .fn 175 [0]] (x0, (), ())) (mos [.box [.c .str, .c (.int .i64)]] ((y1_0.input, y1_0.value, ()), ())) =
  g_IndexFunc_MacRow_i_MacOk_1_N x0 y1_0 _ none (fun v => some ([(false, [RC.c (.int .i64 v.1)])] ++ (mos [.box [.c .str, .c (.int .i64)]] ((v.2.input, v.2.value, ()), ())).map encO)) := by kernel_rfl
theorem g_IndexFunc_MacRow_i_MacOk_1_p (x0 : List MacRow) (y1_0 : MacRow) (hx0 : x0.length ≤ 140737488355328) (hx0_e : ∀ y ∈ x0, ∀ c ∈ Ty.cells .macRow y, FactC c) (hy1_0_input : List.length y1_0.input ≤ 4611686018427387904) (hy1_0_value : inK .i64 y1_0.value)  (γ : Type) (fail : γ) (k : Int × MacRow → γ) : g_IndexFunc_MacRow_i_MacOk_1_N x0 y1_0 γ fail k = k (g_IndexFunc_MacRow_i_MacOk_1 x0 y1_0) := by
  unfold g_IndexFunc_MacRow_i_MacOk_1_N g_IndexFunc_MacRow_i_MacOk_1
  exact loopT (f := k) (g_IndexFunc_MacRow_i_MacOk_1_L0_cl x0 (x0.length : Int) 0 y1_0.input y1_0.value (by (try simp only [Nat.ble_eq, Bool.and_eq_true, decide_eq_true_eq, g_IndexFunc_MacRow_i_MacOk_1_L0_mx0, g_IndexFunc_MacRow_i_MacOk_1_L0_mx1]); grind [maxSl, maxStr, toBytes_length, toInts_length, List.length_set, wrap64]) (by (try simp only [Nat.ble_eq, Bool.and_eq_true, decide_eq_true_eq, g_IndexFunc_MacRow_i_MacOk_1_L0_mx0, g_IndexFunc_MacRow_i_MacOk_1_L0_mx1]); grind [maxSl, maxStr, toBytes_length, toInts_length, List.length_set, wrap64]) (by (try simp only [Nat.ble_eq, Bool.and_eq_true, decide_eq_true_eq, g_IndexFunc_MacRow_i_MacOk_1_L0_mx0, g_IndexFunc_MacRow_i_MacOk_1_L0_mx1]); grind [maxSl, maxStr, toBytes_length, toInts_length, List.length_set, wrap64])) (fun a3 => rfl)
      (fun p3 => rfl)
theorem g_IndexFunc_MacRow_i_MacOk_1_c (x0 : List MacRow) (y1_0 : MacRow)  : ConM Try.prog 192 (pvs [.sc (.sl .macRow), .fn 175 [0]] (x0, (), ())) (mos [.box [.c .str, .c (.int .i64)]] ((y1_0.input, y1_0.value, ()), ())) [rv (.sc (.int .i64)) [] (g_IndexFunc_MacRow_i_MacOk_1 x0 y1_0).1] (mos [.box [.c .str, .c (.int .i64)]] ((((g_IndexFunc_MacRow_i_MacOk_1 x0 y1_0).2).input, ((g_IndexFunc_MacRow_i_MacOk_1 x0 y1_0).2).value, ()), ())) := by
  refine ConM.of_facts (enters_of Try.func192 rfl (by kernel_rfl)) fun hf hg => ?_
  replace hf := factAt hf
  exact evalFn_conLM teFact mixFact (orcOf_ok _) Try.func192 (by kernel_rfl) (bs := [0]) (by kernel_rfl) (by kernel_rfl) (by kernel_rfl) rfl (fun w0 mo I0 hmo => ⟨lsem_of_lorc (g_IndexFunc_MacRow_i_MacOk_1_L0_ls w0 mo I0 hmo) (by kernel_rfl), trivial⟩) ((g_IndexFunc_MacRow_i_MacOk_1_lk x0 y1_0).trans (g_IndexFunc_MacRow_i_MacOk_1_p x0 y1_0 ((hf 0 0 rfl rfl).len) (fun y hy => (hf 0 0 rfl rfl).elem hy) ((mbAt hg 0 0 rfl rfl).slen) ((mbAt hg 0 1 rfl rfl).rng) _ _ _))
noncomputable def g_IndexFunc_MacRow_i_MacOk_1_e : Ent1 Try.prog := entM 192 [.sc (.sl .macRow), .fn 175 [0]] [.box [.c .str, .c (.int .i64)]] (fun x y => true) (fun x y => (g_IndexFunc_MacRow_i_MacOk_1 x.1 (⟨y.1.1, y.1.2.1⟩ : MacRow))) (fun v => [rv (.sc (.int .i64)) [] v.1]) (fun x y v => (mos [.box [.c .str, .c (.int .i64)]] ((v.2.input, v.2.value, ()), ()))) (fun x y hx => g_IndexFunc_MacRow_i_MacOk_1_c x.1 (⟨y.1.1, y.1.2.1⟩ : MacRow))


/-- spec.l1Byte -/
def s_l1Byte_N (y0 : Curs) (γ : Type) (fail : γ) (k : Int × Curs → γ) : γ :=
  letK (α := Int) (IntKind.wrap .i64 ((IntKind.wrap .i64 (y0.h * 6364136223846793005)) + 1442695040888963407)) fun e1 =>
  letK (α := Int) (bits .and .i64 (bits .xor .i64 (e1.fdiv 8589934592) (e1.fdiv 35184372088832)) 255) fun e2 =>
  bif (decide (y0.i < (y0.b.length : Int))) then
    bif ((decide (0 ≤ y0.i)) && (decide (y0.i < (y0.b.length : Int)))) then
    letK (α := Int) (IntKind.wrap .i64 (e2 + (IntKind.wrap .i64 (y0.b.getD y0.i.toNat 0)))) fun e3 =>
    k ((bits .and .i64 e3 255), (⟨y0.b, (IntKind.wrap .i64 (y0.i + 1)), e1⟩ : Curs))
    else fail
  else
  k (e2, ({ y0 with h := e1 } : Curs))
def s_l1Byte (y0 : Curs) : Int × Curs :=
  letK (α := Int) (IntKind.wrap .i64 ((IntKind.wrap .i64 (y0.h * 6364136223846793005)) + 1442695040888963407)) fun e1 =>
  letK (α := Int) (bits .and .i64 (bits .xor .i64 (e1.fdiv 8589934592) (e1.fdiv 35184372088832)) 255) fun e2 =>
  bif (decide (y0.i < (y0.b.length : Int))) then
    letK (α := Int) (IntKind.wrap .i64 (e2 + (IntKind.wrap .i64 (y0.b.getD y0.i.toNat 0)))) fun e3 =>
    ((bits .and .i64 e3 255), (⟨y0.b, (IntKind.wrap .i64 (y0.i + 1)), e1⟩ : Curs))
  else
  (e2, ({ y0 with h := e1 } : Curs))
theorem s_l1Byte_lk (y0 : Curs) : evalFnM te (orcOf (P := Try.prog) []) lorc0 [] Try.f99 (pvs [.wr false [.ptr 0]] ((), ())) (mos [.box [.c (.sl .u8), .c (.int .i64), .c (.int .i64)]] ((y0.b, y0.i, y0.h, ()), ())) =
  s_l1Byte_N y0 _ none (fun v => some ([(false, [RC.c (.int .i64 v.1)])] ++ (mos [.box [.c (.sl .u8), .c (.int .i64), .c (.int .i64)]] ((v.2.b, v.2.i, v.2.h, ()), ())).map encO)) := by kernel_rfl
theorem s_l1Byte_p (y0 : Curs) (hy0_b : y0.b.length ≤ 140737488355328) (hy0_i : inK .i64 y0.i) (hy0_h : inK .i64 y0.h) (hp : 0 ≤ y0.i ∧ y0.b.length ≤ 1048576) (γ : Type) (fail : γ) (k : Int × Curs → γ) : s_l1Byte_N y0 γ fail k = k (s_l1Byte y0) := by
  unfold s_l1Byte_N s_l1Byte
  exact letT (f := k) (fun e1 he1 => letT (f := k) (fun e2 he2 => bifT (f := k) (fun b0 => bifG (by (try simp only [Nat.ble_eq, Bool.and_eq_true, decide_eq_true_eq]); grind [maxSl, maxStr, toBytes_length, toInts_length, List.length_set, wrap64, and255]) (letT (f := k) (fun e3 he3 => rfl)))
      (fun b0 => rfl)))
theorem s_l1Byte_c (y0 : Curs) (hp : 0 ≤ y0.i ∧ y0.b.length ≤ 1048576) : ConM Try.prog 99 (pvs [.wr false [.ptr 0]] ((), ())) (mos [.box [.c (.sl .u8), .c (.int .i64), .c (.int .i64)]] ((y0.b, y0.i, y0.h, ()), ())) [rv (.sc (.int .i64)) [] (s_l1Byte y0).1] (mos [.box [.c (.sl .u8), .c (.int .i64), .c (.int .i64)]] ((((s_l1Byte y0).2).b, ((s_l1Byte y0).2).i, ((s_l1Byte y0).2).h, ()), ())) := by
  refine ConM.of_facts (enters_of Try.func99 rfl (by kernel_rfl)) fun hf hg => ?_
  replace hf := factAt hf
  exact evalFn_conLM teFact mixFact (orcOf_ok _) Try.func99 (by kernel_rfl) (bs := []) (by kernel_rfl) (by kernel_rfl) (by kernel_rfl) rfl (fun w0 mo I0 hmo => trivial) ((s_l1Byte_lk y0).trans (s_l1Byte_p y0 ((mbAt hg 0 0 rfl rfl).len) ((mbAt hg 0 1 rfl rfl).rng) ((mbAt hg 0 2 rfl rfl).rng) hp _ _ _))
noncomputable def s_l1Byte_e : Ent1 Try.prog := entM 99 [.wr false [.ptr 0]] [.box [.c (.sl .u8), .c (.int .i64), .c (.int .i64)]] (fun x y => (decide (0 ≤ (⟨y.1.1, y.1.2.1, y.1.2.2.1⟩ : Curs).i ∧ (⟨y.1.1, y.1.2.1, y.1.2.2.1⟩ : Curs).b.length ≤ 1048576))) (fun x y => (s_l1Byte (⟨y.1.1, y.1.2.1, y.1.2.2.1⟩ : Curs))) (fun v => [rv (.sc (.int .i64)) [] v.1]) (fun x y v => (mos [.box [.c (.sl .u8), .c (.int .i64), .c (.int .i64)]] ((v.2.b, v.2.i, v.2.h, ()), ()))) (fun x y hx => s_l1Byte_c (⟨y.1.1, y.1.2.1, y.1.2.2.1⟩ : Curs) (of_decide_eq_true hx))

theorem s_l1Byte_cur (y0 : Curs)  (hc0 : 0 ≤ y0.i ∧ y0.b.length ≤ 1048576) : 0 ≤ (s_l1Byte y0).2.i ∧ (s_l1Byte y0).2.b.length ≤ 1048576 := by
  unfold s_l1Byte
  exact letP (P := (fun v : Int × Curs => 0 ≤ v.2.i ∧ v.2.b.length ≤ 1048576)) (fun e1 he1 => letP (P := (fun v : Int × Curs => 0 ≤ v.2.i ∧ v.2.b.length ≤ 1048576)) (fun e2 he2 => bifP (P := (fun v : Int × Curs => 0 ≤ v.2.i ∧ v.2.b.length ≤ 1048576)) (fun b0 => letP (P := (fun v : Int × Curs => 0 ≤ v.2.i ∧ v.2.b.length ≤ 1048576)) (fun e3 he3 => (by (try simp only [Nat.ble_eq, Bool.and_eq_true, decide_eq_true_eq]); grind [maxSl, maxStr, toBytes_length, toInts_length, List.length_set, wrap64])))
      (fun b0 => (by (try simp only [Nat.ble_eq, Bool.and_eq_true, decide_eq_true_eq]); grind [maxSl, maxStr, toBytes_length, toInts_length, List.length_set, wrap64]))))
theorem s_l1Byte_rng (y0 : Curs) (hp : 0 ≤ y0.i ∧ y0.b.length ≤ 1048576)  : (fun v : Int × Curs => 0 ≤ v.1 ∧ v.1 ≤ 255) (s_l1Byte y0) := by
  unfold s_l1Byte
  exact letP (P := (fun v : Int × Curs => 0 ≤ v.1 ∧ v.1 ≤ 255)) (fun e1 he1 => letP (P := (fun v : Int × Curs => 0 ≤ v.1 ∧ v.1 ≤ 255)) (fun e2 he2 => bifP (P := (fun v : Int × Curs => 0 ≤ v.1 ∧ v.1 ≤ 255)) (fun b0 => letP (P := (fun v : Int × Curs => 0 ≤ v.1 ∧ v.1 ≤ 255)) (fun e3 he3 => (by subst_vars; exact and255 _)))
      (fun b0 => (by subst_vars; exact and255 _))))

/-- impl.CookieOf -/
def i_CookieOf_N (x0 : Mac) (x1 : Tupl) (x2 : Int) (x3 : Int) (x4 : Int) (γ : Type) (fail : γ) (k : Int → γ) : γ :=
  letK (α := Bytes) (i_MacInput x1 x2 x3 x4) fun c1 =>
  bif (c1 == []) then
    k (-1)
  else
  letK (α := Int) (IntKind.wrap .i64 ((IntKind.wrap .i64 ((x3.tmod 32) * 134217728)) + (IntKind.wrap .i64 (x4 * 16777216)))) fun e2 =>
  bif (decide (x0.rows.length ≤ 4294967296 ∧ c1.length ≤ 4294967296)) then
  letK (α := Int) (i_MacOf x0 c1) fun c3 =>
  k (IntKind.wrap .i64 (e2 + c3))
  else fail
def i_CookieOf (x0 : Mac) (x1 : Tupl) (x2 : Int) (x3 : Int) (x4 : Int) : Int :=
  letK (α := Bytes) (i_MacInput x1 x2 x3 x4) fun c1 =>
  bif (c1 == []) then
    (-1)
  else
  letK (α := Int) (IntKind.wrap .i64 ((IntKind.wrap .i64 ((x3.tmod 32) * 134217728)) + (IntKind.wrap .i64 (x4 * 16777216)))) fun e2 =>
  letK (α := Int) (i_MacOf x0 c1) fun c3 =>
  (IntKind.wrap .i64 (e2 + c3))
theorem i_CookieOf_lk (x0 : Mac) (x1 : Tupl) (x2 : Int) (x3 : Int) (x4 : Int) : evalFn te (orcOf (P := Try.prog) [i_MacInput_e, i_MacOf_e]) lorc0 [] Try.f115 (pvs [.st .mac, .st .tupl, .sc (.int .i64), .sc (.int .i64), .sc (.int .i64)] (x0, x1, x2, x3, x4, ())) =
  i_CookieOf_N x0 x1 x2 x3 x4 _ none (fun v => some [(false, [RC.c (.int .i64 v)])]) := by kernel_rfl
theorem i_CookieOf_p (x0 : Mac) (x1 : Tupl) (x2 : Int) (x3 : Int) (x4 : Int) (hx0_k : inK .u64 x0.k) (hx0_l : inK .u64 x0.l) (hx0_rows : x0.rows.length ≤ 140737488355328) (hx0_rows_e : ∀ y ∈ x0.rows, ∀ c ∈ Ty.cells .macRow y, FactC c) (hx1_ip : inK .i64 x1.ip) (hx1_port : inK .i64 x1.port) (hx1_my : inK .i64 x1.my) (hx2 : inK .i64 x2) (hx3 : inK .i64 x3) (hx4 : inK .i64 x4) (hp : x0.rows.length ≤ 4294967296) (γ : Type) (fail : γ) (k : Int → γ) : i_CookieOf_N x0 x1 x2 x3 x4 γ fail k = k (i_CookieOf x0 x1 x2 x3 x4) := by
  unfold i_CookieOf_N i_CookieOf
  exact letT (f := k) (fun c1 hc1 => bifT (f := k) (fun b0 => rfl)
      (fun b0 => letT (f := k) (fun e2 he2 => bifG (by (try simp only [Nat.ble_eq, Bool.and_eq_true, decide_eq_true_eq]); grind [maxSl, maxStr, toBytes_length, toInts_length, List.length_set, wrap64, i_MacInput_len]) (letT (f := k) (fun c3 hc3 => rfl)))))
theorem i_CookieOf_c (x0 : Mac) (x1 : Tupl) (x2 : Int) (x3 : Int) (x4 : Int) (hp : x0.rows.length ≤ 4294967296) : Con Try.prog 115 (pvs [.st .mac, .st .tupl, .sc (.int .i64), .sc (.int .i64), .sc (.int .i64)] (x0, x1, x2, x3, x4, ())) [rv (.sc (.int .i64)) [] (i_CookieOf x0 x1 x2 x3 x4)] := by
  refine Con.of_facts (enters_of Try.func115 rfl (by kernel_rfl)) fun hf => ?_
  replace hf := factAt hf
  exact evalFn_con0 teFact mixFact (orcOf_ok _) Try.func115 (by kernel_rfl) ((i_CookieOf_lk x0 x1 x2 x3 x4).trans (i_CookieOf_p x0 x1 x2 x3 x4 ((hf 0 1 rfl rfl).rng) ((hf 0 2 rfl rfl).rng) ((hf 0 3 rfl rfl).len) (fun y hy => (hf 0 3 rfl rfl).elem hy) ((hf 1 0 rfl rfl).rng) ((hf 1 1 rfl rfl).rng) ((hf 1 2 rfl rfl).rng) ((hf 2 0 rfl rfl).rng) ((hf 3 0 rfl rfl).rng) ((hf 4 0 rfl rfl).rng) hp _ _ _))
noncomputable def i_CookieOf_e : Ent1 Try.prog := entP 115 [.st .mac, .st .tupl, .sc (.int .i64), .sc (.int .i64), .sc (.int .i64)] (fun x => (decide (x.1.rows.length ≤ 4294967296))) (fun x => (i_CookieOf x.1 x.2.1 x.2.2.1 x.2.2.2.1 x.2.2.2.2.1)) (fun v => [rv (.sc (.int .i64)) [] v]) (fun x hx => i_CookieOf_c x.1 x.2.1 x.2.2.1 x.2.2.2.1 x.2.2.2.2.1 (of_decide_eq_true hx))


/-- spec.CookieOf -/
def s_CookieOf_N (x0 : Mac) (x1 : Tupl) (x2 : Int) (x3 : Int) (x4 : Int) (γ : Type) (fail : γ) (k : Int → γ) : γ :=
  letK (α := Bytes) (s_MacInput x1 x2 x3 x4) fun c1 =>
  bif (c1 == []) then
    k (-1)
  else
  letK (α := Int) (IntKind.wrap .i64 ((IntKind.wrap .i64 ((x3.tmod 32) * 134217728)) + (IntKind.wrap .i64 (x4 * 16777216)))) fun e2 =>
  bif (decide (x0.rows.length ≤ 4294967296 ∧ c1.length ≤ 4294967296)) then
  letK (α := Int) (s_MacOf x0 c1) fun c3 =>
  k (IntKind.wrap .i64 (e2 + c3))
  else fail
def s_CookieOf (x0 : Mac) (x1 : Tupl) (x2 : Int) (x3 : Int) (x4 : Int) : Int :=
  letK (α := Bytes) (s_MacInput x1 x2 x3 x4) fun c1 =>
  bif (c1 == []) then
    (-1)
  else
  letK (α := Int) (IntKind.wrap .i64 ((IntKind.wrap .i64 ((x3.tmod 32) * 134217728)) + (IntKind.wrap .i64 (x4 * 16777216)))) fun e2 =>
  letK (α := Int) (s_MacOf x0 c1) fun c3 =>
  (IntKind.wrap .i64 (e2 + c3))
theorem s_CookieOf_lk (x0 : Mac) (x1 : Tupl) (x2 : Int) (x3 : Int) (x4 : Int) : evalFn te (orcOf (P := Try.prog) [s_MacInput_e, s_MacOf_e]) lorc0 [] Try.f118 (pvs [.st .mac, .st .tupl, .sc (.int .i64), .sc (.int .i64), .sc (.int .i64)] (x0, x1, x2, x3, x4, ())) =
  s_CookieOf_N x0 x1 x2 x3 x4 _ none (fun v => some [(false, [RC.c (.int .i64 v)])]) := by kernel_rfl
theorem s_CookieOf_p (x0 : Mac) (x1 : Tupl) (x2 : Int) (x3 : Int) (x4 : Int) (hx0_k : inK .u64 x0.k) (hx0_l : inK .u64 x0.l) (hx0_rows : x0.rows.length ≤ 140737488355328) (hx0_rows_e : ∀ y ∈ x0.rows, ∀ c ∈ Ty.cells .macRow y, FactC c) (hx1_ip : inK .i64 x1.ip) (hx1_port : inK .i64 x1.port) (hx1_my : inK .i64 x1.my) (hx2 : inK .i64 x2) (hx3 : inK .i64 x3) (hx4 : inK .i64 x4) (hp : x0.rows.length ≤ 4294967296) (γ : Type) (fail : γ) (k : Int → γ) : s_CookieOf_N x0 x1 x2 x3 x4 γ fail k = k (s_CookieOf x0 x1 x2 x3 x4) := by
  unfold s_CookieOf_N s_CookieOf
  exact letT (f := k) (fun c1 hc1 => bifT (f := k) (fun b0 => rfl)
      (fun b0 => letT (f := k) (fun e2 he2 => bifG (by (try simp only [Nat.ble_eq, Bool.and_eq_true, decide_eq_true_eq]); grind [maxSl, maxStr, toBytes_length, toInts_length, List.length_set, wrap64, s_MacInput_len]) (letT (f := k) (fun c3 hc3 => rfl)))))
theorem s_CookieOf_c (x0 : Mac) (x1 : Tupl) (x2 : Int) (x3 : Int) (x4 : Int) (hp : x0.rows.length ≤ 4294967296) : Con Try.prog 118 (pvs [.st .mac, .st .tupl, .sc (.int .i64), .sc (.int .i64), .sc (.int .i64)] (x0, x1, x2, x3, x4, ())) [rv (.sc (.int .i64)) [] (s_CookieOf x0 x1 x2 x3 x4)] := by
  refine Con.of_facts (enters_of Try.func118 rfl (by kernel_rfl)) fun hf => ?_
  replace hf := factAt hf
  exact evalFn_con0 teFact mixFact (orcOf_ok _) Try.func118 (by kernel_rfl) ((s_CookieOf_lk x0 x1 x2 x3 x4).trans (s_CookieOf_p x0 x1 x2 x3 x4 ((hf 0 1 rfl rfl).rng) ((hf 0 2 rfl rfl).rng) ((hf 0 3 rfl rfl).len) (fun y hy => (hf 0 3 rfl rfl).elem hy) ((hf 1 0 rfl rfl).rng) ((hf 1 1 rfl rfl).rng) ((hf 1 2 rfl rfl).rng) ((hf 2 0 rfl rfl).rng) ((hf 3 0 rfl rfl).rng) ((hf 4 0 rfl rfl).rng) hp _ _ _))
noncomputable def s_CookieOf_e : Ent1 Try.prog := entP 118 [.st .mac, .st .tupl, .sc (.int .i64), .sc (.int .i64), .sc (.int .i64)] (fun x => (decide (x.1.rows.length ≤ 4294967296))) (fun x => (s_CookieOf x.1 x.2.1 x.2.2.1 x.2.2.2.1 x.2.2.2.2.1)) (fun v => [rv (.sc (.int .i64)) [] v]) (fun x hx => s_CookieOf_c x.1 x.2.1 x.2.2.1 x.2.2.2.1 x.2.2.2.2.1 (of_decide_eq_true hx))


/-- slices.ContainsFunc[[]impl.MacRow,impl.MacRow] -/
def g_ContainsFunc_MacRow_i_MacOk_1_N (x0 : List MacRow) (y1_0 : MacRow) (γ : Type) (fail : γ) (k : Bool × MacRow → γ) : γ :=
  letK (α := Int × MacRow) (g_IndexFunc_MacRow_i_MacOk_1 x0 y1_0) fun c1 =>
  k ((decide (0 ≤ c1.1)), c1.2)
def g_ContainsFunc_MacRow_i_MacOk_1 (x0 : List MacRow) (y1_0 : MacRow) : Bool × MacRow :=
  letK (α := Int × MacRow) (g_IndexFunc_MacRow_i_MacOk_1 x0 y1_0) fun c1 =>
  ((decide (0 ≤ c1.1)), c1.2)
theorem g_ContainsFunc_MacRow_i_MacOk_1_lk (x0 : List MacRow) (y1_0 : MacRow) : evalFnM te (orcOf (P := Try.prog) [g_IndexFunc_MacRow_i_MacOk_1_e, i_MacOk_1_e]) lorc0 [] Try.f174 (pvs [.sc (.sl .macRow), .fn 175 [0]] (x0, (), ())) (mos [.box [.c .str, .c (.int .i64)]] ((y1_0.input, y1_0.value, ()), ())) =
  g_ContainsFunc_MacRow_i_MacOk_1_N x0 y1_0 _ none (fun v => some ([(false, [RC.c (.bool v.1)])] ++ (mos [.box [.c .str, .c (.int .i64)]] ((v.2.input, v.2.value, ()), ())).map encO)) := by kernel_rfl
theorem g_ContainsFunc_MacRow_i_MacOk_1_p (x0 : List MacRow) (y1_0 : MacRow)   (γ : Type) (fail : γ) (k : Bool × MacRow → γ) : g_ContainsFunc_MacRow_i_MacOk_1_N x0 y1_0 γ fail k = k (g_ContainsFunc_MacRow_i_MacOk_1 x0 y1_0) := by
  unfold g_ContainsFunc_MacRow_i_MacOk_1_N g_ContainsFunc_MacRow_i_MacOk_1
  exact letT (f := k) (fun c1 hc1 => rfl)
theorem g_ContainsFunc_MacRow_i_MacOk_1_c (x0 : List MacRow) (y1_0 : MacRow)  : ConM Try.prog 174 (pvs [.sc (.sl .macRow), .fn 175 [0]] (x0, (), ())) (mos [.box [.c .str, .c (.int .i64)]] ((y1_0.input, y1_0.value, ()), ())) [rv (.sc .bool) [] (g_ContainsFunc_MacRow_i_MacOk_1 x0 y1_0).1] (mos [.box [.c .str, .c (.int .i64)]] ((((g_ContainsFunc_MacRow_i_MacOk_1 x0 y1_0).2).input, ((g_ContainsFunc_MacRow_i_MacOk_1 x0 y1_0).2).value, ()), ())) := by
  exact evalFn_conLM teFact mixFact (orcOf_ok _) Try.func174 (by kernel_rfl) (bs := []) (by kernel_rfl) (by kernel_rfl) (by kernel_rfl) rfl (fun w0 mo I0 hmo => trivial) ((g_ContainsFunc_MacRow_i_MacOk_1_lk x0 y1_0).trans (g_ContainsFunc_MacRow_i_MacOk_1_p x0 y1_0  _ _ _))
noncomputable def g_ContainsFunc_MacRow_i_MacOk_1_e : Ent1 Try.prog := entM 174 [.sc (.sl .macRow), .fn 175 [0]] [.box [.c .str, .c (.int .i64)]] (fun x y => true) (fun x y => (g_ContainsFunc_MacRow_i_MacOk_1 x.1 (⟨y.1.1, y.1.2.1⟩ : MacRow))) (fun v => [rv (.sc .bool) [] v.1]) (fun x y v => (mos [.box [.c .str, .c (.int .i64)]] ((v.2.input, v.2.value, ()), ()))) (fun x y hx => g_ContainsFunc_MacRow_i_MacOk_1_c x.1 (⟨y.1.1, y.1.2.1⟩ : MacRow))


/-- spec.l1Below -/
def s_l1Below_N (y0 : Curs) (x1 : Int) (γ : Type) (fail : γ) (k : Int × Curs → γ) : γ :=
  bif (decide (x1 ≤ 0)) then
    k (0, y0)
  else
  bif (decide (x1 ≤ 256)) then
    bif (decide (0 ≤ y0.i ∧ y0.b.length ≤ 1048576)) then
    letK (α := Int × Curs) (s_l1Byte y0) fun c1 =>
    bif (x1 != 0) then
    k ((c1.1.tmod x1), c1.2)
    else fail
    else fail
  else
  bif (decide (0 ≤ y0.i ∧ y0.b.length ≤ 1048576)) then
  letK (α := Int × Curs) (s_l1Byte y0) fun c2 =>
  bif (decide (0 ≤ c2.2.i ∧ c2.2.b.length ≤ 1048576)) then
  letK (α := Int × Curs) (s_l1Byte c2.2) fun c3 =>
  bif (decide (0 ≤ c3.2.i ∧ c3.2.b.length ≤ 1048576)) then
  letK (α := Int × Curs) (s_l1Byte c3.2) fun c4 =>
  bif (decide (0 ≤ c4.2.i ∧ c4.2.b.length ≤ 1048576)) then
  letK (α := Int × Curs) (s_l1Byte c4.2) fun c5 =>
  letK (α := Int) (IntKind.wrap .i64 ((IntKind.wrap .i64 (c2.1 * 16777216)) + (IntKind.wrap .i64 (c3.1 * 65536)))) fun e6 =>
  letK (α := Int) (IntKind.wrap .i64 ((IntKind.wrap .i64 (e6 + (IntKind.wrap .i64 (c4.1 * 256)))) + c5.1)) fun e7 =>
  bif (x1 != 0) then
  k ((e7.tmod x1), c5.2)
  else fail
  else fail
  else fail
  else fail
  else fail
def s_l1Below (y0 : Curs) (x1 : Int) : Int × Curs :=
  bif (decide (x1 ≤ 0)) then
    (0, y0)
  else
  bif (decide (x1 ≤ 256)) then
    letK (α := Int × Curs) (s_l1Byte y0) fun c1 =>
    ((c1.1.tmod x1), c1.2)
  else
  letK (α := Int × Curs) (s_l1Byte y0) fun c2 =>
  letK (α := Int × Curs) (s_l1Byte c2.2) fun c3 =>
  letK (α := Int × Curs) (s_l1Byte c3.2) fun c4 =>
  letK (α := Int × Curs) (s_l1Byte c4.2) fun c5 =>
  letK (α := Int) (IntKind.wrap .i64 ((IntKind.wrap .i64 (c2.1 * 16777216)) + (IntKind.wrap .i64 (c3.1 * 65536)))) fun e6 =>
  letK (α := Int) (IntKind.wrap .i64 ((IntKind.wrap .i64 (e6 + (IntKind.wrap .i64 (c4.1 * 256)))) + c5.1)) fun e7 =>
  ((e7.tmod x1), c5.2)
theorem s_l1Below_lk (y0 : Curs) (x1 : Int) : evalFnM te (orcOf (P := Try.prog) [s_l1Byte_e]) lorc0 [] Try.f42 (pvs [.wr false [.ptr 0], .sc (.int .i64)] ((), x1, ())) (mos [.box [.c (.sl .u8), .c (.int .i64), .c (.int .i64)]] ((y0.b, y0.i, y0.h, ()), ())) =
  s_l1Below_N y0 x1 _ none (fun v => some ([(false, [RC.c (.int .i64 v.1)])] ++ (mos [.box [.c (.sl .u8), .c (.int .i64), .c (.int .i64)]] ((v.2.b, v.2.i, v.2.h, ()), ())).map encO)) := by kernel_rfl
theorem s_l1Below_p (y0 : Curs) (x1 : Int) (hx1 : inK .i64 x1) (hy0_b : y0.b.length ≤ 140737488355328) (hy0_i : inK .i64 y0.i) (hy0_h : inK .i64 y0.h) (hp : 0 ≤ y0.i ∧ y0.b.length ≤ 1048576) (γ : Type) (fail : γ) (k : Int × Curs → γ) : s_l1Below_N y0 x1 γ fail k = k (s_l1Below y0 x1) := by
  unfold s_l1Below_N s_l1Below
  exact bifT (f := k) (fun b0 => rfl)
      (fun b0 => bifT (f := k) (fun b1 => bifG (by (try simp only [Nat.ble_eq, Bool.and_eq_true, decide_eq_true_eq]); grind [maxSl, maxStr, toBytes_length, toInts_length, List.length_set, wrap64, tmod_nn, tmod_lt, s_l1Byte_rng, s_l1Byte_cur]) (letT (f := k) (fun c1 hc1 => have rc1 := s_l1Byte_rng y0 (by first | assumption | exact ⟨by assumption, by assumption⟩ | grind [maxSl, wrap64]); have kc1 : 0 ≤ c1.2.i ∧ c1.2.b.length ≤ 1048576 := (by rw [hc1]; exact s_l1Byte_cur _ (by first | assumption | exact ⟨by assumption, by assumption⟩ | grind [maxSl, wrap64])); bifG (by (try simp only [Nat.ble_eq, Bool.and_eq_true, decide_eq_true_eq]); grind [maxSl, maxStr, toBytes_length, toInts_length, List.length_set, wrap64, tmod_nn, tmod_lt, s_l1Byte_rng, s_l1Byte_cur]) (rfl))))
      (fun b1 => bifG (by (try simp only [Nat.ble_eq, Bool.and_eq_true, decide_eq_true_eq]); grind [maxSl, maxStr, toBytes_length, toInts_length, List.length_set, wrap64, tmod_nn, tmod_lt, s_l1Byte_rng, s_l1Byte_cur]) (letT (f := k) (fun c2 hc2 => have rc2 := s_l1Byte_rng y0 (by first | assumption | exact ⟨by assumption, by assumption⟩ | grind [maxSl, wrap64]); have kc2 : 0 ≤ c2.2.i ∧ c2.2.b.length ≤ 1048576 := (by rw [hc2]; exact s_l1Byte_cur _ (by first | assumption | exact ⟨by assumption, by assumption⟩ | grind [maxSl, wrap64])); bifG (by (try simp only [Nat.ble_eq, Bool.and_eq_true, decide_eq_true_eq]); grind [maxSl, maxStr, toBytes_length, toInts_length, List.length_set, wrap64, tmod_nn, tmod_lt, s_l1Byte_rng, s_l1Byte_cur]) (letT (f := k) (fun c3 hc3 => have rc3 := s_l1Byte_rng c2.2 (by first | assumption | exact ⟨by assumption, by assumption⟩ | grind [maxSl, wrap64]); have kc3 : 0 ≤ c3.2.i ∧ c3.2.b.length ≤ 1048576 := (by rw [hc3]; exact s_l1Byte_cur _ (by first | assumption | exact ⟨by assumption, by assumption⟩ | grind [maxSl, wrap64])); bifG (by (try simp only [Nat.ble_eq, Bool.and_eq_true, decide_eq_true_eq]); grind [maxSl, maxStr, toBytes_length, toInts_length, List.length_set, wrap64, tmod_nn, tmod_lt, s_l1Byte_rng, s_l1Byte_cur]) (letT (f := k) (fun c4 hc4 => have rc4 := s_l1Byte_rng c3.2 (by first | assumption | exact ⟨by assumption, by assumption⟩ | grind [maxSl, wrap64]); have kc4 : 0 ≤ c4.2.i ∧ c4.2.b.length ≤ 1048576 := (by rw [hc4]; exact s_l1Byte_cur _ (by first | assumption | exact ⟨by assumption, by assumption⟩ | grind [maxSl, wrap64])); bifG (by (try simp only [Nat.ble_eq, Bool.and_eq_true, decide_eq_true_eq]); grind [maxSl, maxStr, toBytes_length, toInts_length, List.length_set, wrap64, tmod_nn, tmod_lt, s_l1Byte_rng, s_l1Byte_cur]) (letT (f := k) (fun c5 hc5 => have rc5 := s_l1Byte_rng c4.2 (by first | assumption | exact ⟨by assumption, by assumption⟩ | grind [maxSl, wrap64]); have kc5 : 0 ≤ c5.2.i ∧ c5.2.b.length ≤ 1048576 := (by rw [hc5]; exact s_l1Byte_cur _ (by first | assumption | exact ⟨by assumption, by assumption⟩ | grind [maxSl, wrap64])); letT (f := k) (fun e6 he6 => letT (f := k) (fun e7 he7 => bifG (by (try simp only [Nat.ble_eq, Bool.and_eq_true, decide_eq_true_eq]); grind [maxSl, maxStr, toBytes_length, toInts_length, List.length_set, wrap64, tmod_nn, tmod_lt, s_l1Byte_rng, s_l1Byte_cur]) (rfl)))))))))))))
theorem s_l1Below_c (y0 : Curs) (x1 : Int) (hp : 0 ≤ y0.i ∧ y0.b.length ≤ 1048576) : ConM Try.prog 42 (pvs [.wr false [.ptr 0], .sc (.int .i64)] ((), x1, ())) (mos [.box [.c (.sl .u8), .c (.int .i64), .c (.int .i64)]] ((y0.b, y0.i, y0.h, ()), ())) [rv (.sc (.int .i64)) [] (s_l1Below y0 x1).1] (mos [.box [.c (.sl .u8), .c (.int .i64), .c (.int .i64)]] ((((s_l1Below y0 x1).2).b, ((s_l1Below y0 x1).2).i, ((s_l1Below y0 x1).2).h, ()), ())) := by
  refine ConM.of_facts (enters_of Try.func42 rfl (by kernel_rfl)) fun hf hg => ?_
  replace hf := factAt hf
  exact evalFn_conLM teFact mixFact (orcOf_ok _) Try.func42 (by kernel_rfl) (bs := []) (by kernel_rfl) (by kernel_rfl) (by kernel_rfl) rfl (fun w0 mo I0 hmo => trivial) ((s_l1Below_lk y0 x1).trans (s_l1Below_p y0 x1 ((hf 1 0 rfl rfl).rng) ((mbAt hg 0 0 rfl rfl).len) ((mbAt hg 0 1 rfl rfl).rng) ((mbAt hg 0 2 rfl rfl).rng) hp _ _ _))
noncomputable def s_l1Below_e : Ent1 Try.prog := entM 42 [.wr false [.ptr 0], .sc (.int .i64)] [.box [.c (.sl .u8), .c (.int .i64), .c (.int .i64)]] (fun x y => (decide (0 ≤ (⟨y.1.1, y.1.2.1, y.1.2.2.1⟩ : Curs).i ∧ (⟨y.1.1, y.1.2.1, y.1.2.2.1⟩ : Curs).b.length ≤ 1048576))) (fun x y => (s_l1Below (⟨y.1.1, y.1.2.1, y.1.2.2.1⟩ : Curs) x.2.1)) (fun v => [rv (.sc (.int .i64)) [] v.1]) (fun x y v => (mos [.box [.c (.sl .u8), .c (.int .i64), .c (.int .i64)]] ((v.2.b, v.2.i, v.2.h, ()), ()))) (fun x y hx => s_l1Below_c (⟨y.1.1, y.1.2.1, y.1.2.2.1⟩ : Curs) x.2.1 (of_decide_eq_true hx))

theorem s_l1Below_cur (y0 : Curs) (x1 : Int)  (hc0 : 0 ≤ y0.i ∧ y0.b.length ≤ 1048576) : 0 ≤ (s_l1Below y0 x1).2.i ∧ (s_l1Below y0 x1).2.b.length ≤ 1048576 := by
  unfold s_l1Below
  exact bifP (P := (fun v : Int × Curs => 0 ≤ v.2.i ∧ v.2.b.length ≤ 1048576)) (fun b0 => (by (try simp only [Nat.ble_eq, Bool.and_eq_true, decide_eq_true_eq]); grind [maxSl, maxStr, toBytes_length, toInts_length, List.length_set, wrap64, s_l1Byte_rng, s_l1Byte_cur]))
      (fun b0 => bifP (P := (fun v : Int × Curs => 0 ≤ v.2.i ∧ v.2.b.length ≤ 1048576)) (fun b1 => letP (P := (fun v : Int × Curs => 0 ≤ v.2.i ∧ v.2.b.length ≤ 1048576)) (fun c1 hc1 => have rc1 := s_l1Byte_rng y0 (by first | assumption | exact ⟨by assumption, by assumption⟩ | grind [maxSl, wrap64]); have kc1 : 0 ≤ c1.2.i ∧ c1.2.b.length ≤ 1048576 := (by rw [hc1]; exact s_l1Byte_cur _ (by first | assumption | exact ⟨by assumption, by assumption⟩ | grind [maxSl, wrap64])); (by (try simp only [Nat.ble_eq, Bool.and_eq_true, decide_eq_true_eq]); grind [maxSl, maxStr, toBytes_length, toInts_length, List.length_set, wrap64, s_l1Byte_rng, s_l1Byte_cur])))
      (fun b1 => letP (P := (fun v : Int × Curs => 0 ≤ v.2.i ∧ v.2.b.length ≤ 1048576)) (fun c2 hc2 => have rc2 := s_l1Byte_rng y0 (by first | assumption | exact ⟨by assumption, by assumption⟩ | grind [maxSl, wrap64]); have kc2 : 0 ≤ c2.2.i ∧ c2.2.b.length ≤ 1048576 := (by rw [hc2]; exact s_l1Byte_cur _ (by first | assumption | exact ⟨by assumption, by assumption⟩ | grind [maxSl, wrap64])); letP (P := (fun v : Int × Curs => 0 ≤ v.2.i ∧ v.2.b.length ≤ 1048576)) (fun c3 hc3 => have rc3 := s_l1Byte_rng c2.2 (by first | assumption | exact ⟨by assumption, by assumption⟩ | grind [maxSl, wrap64]); have kc3 : 0 ≤ c3.2.i ∧ c3.2.b.length ≤ 1048576 := (by rw [hc3]; exact s_l1Byte_cur _ (by first | assumption | exact ⟨by assumption, by assumption⟩ | grind [maxSl, wrap64])); letP (P := (fun v : Int × Curs => 0 ≤ v.2.i ∧ v.2.b.length ≤ 1048576)) (fun c4 hc4 => have rc4 := s_l1Byte_rng c3.2 (by first | assumption | exact ⟨by assumption, by assumption⟩ | grind [maxSl, wrap64]); have kc4 : 0 ≤ c4.2.i ∧ c4.2.b.length ≤ 1048576 := (by rw [hc4]; exact s_l1Byte_cur _ (by first | assumption | exact ⟨by assumption, by assumption⟩ | grind [maxSl, wrap64])); letP (P := (fun v : Int × Curs => 0 ≤ v.2.i ∧ v.2.b.length ≤ 1048576)) (fun c5 hc5 => have rc5 := s_l1Byte_rng c4.2 (by first | assumption | exact ⟨by assumption, by assumption⟩ | grind [maxSl, wrap64]); have kc5 : 0 ≤ c5.2.i ∧ c5.2.b.length ≤ 1048576 := (by rw [hc5]; exact s_l1Byte_cur _ (by first | assumption | exact ⟨by assumption, by assumption⟩ | grind [maxSl, wrap64])); letP (P := (fun v : Int × Curs => 0 ≤ v.2.i ∧ v.2.b.length ≤ 1048576)) (fun e6 he6 => letP (P := (fun v : Int × Curs => 0 ≤ v.2.i ∧ v.2.b.length ≤ 1048576)) (fun e7 he7 => (by (try simp only [Nat.ble_eq, Bool.and_eq_true, decide_eq_true_eq]); grind [maxSl, maxStr, toBytes_length, toInts_length, List.length_set, wrap64, s_l1Byte_rng, s_l1Byte_cur])))))))))
theorem s_l1Below_rng (y0 : Curs) (x1 : Int) (hp : 0 ≤ y0.i ∧ y0.b.length ≤ 1048576)  : (fun v : Int × Curs => 0 ≤ v.1 ∧ (0 < x1 → v.1 < x1)) (s_l1Below y0 x1) := by
  unfold s_l1Below
  exact bifP (P := (fun v : Int × Curs => 0 ≤ v.1 ∧ (0 < x1 → v.1 < x1))) (fun b0 => (by
    first
    | (simp only []; omega)
    | (simp only []; refine ⟨tmod_nn ?_, fun h => tmod_lt h⟩; rw [hc1]; exact (s_l1Byte_rng _ hp).1)
    | (simp only []; refine ⟨tmod_nn ?_, fun h => tmod_lt h⟩; have r2 := s_l1Byte_rng _ hp; have r3 := s_l1Byte_rng _ kc2; have r4 := s_l1Byte_rng _ kc3; have r5 := s_l1Byte_rng _ kc4; rw [← hc2] at r2; rw [← hc3] at r3; rw [← hc4] at r4; rw [← hc5] at r5; rw [he7, he6]; simp only [wrap64_def]; omega)))
      (fun b0 => bifP (P := (fun v : Int × Curs => 0 ≤ v.1 ∧ (0 < x1 → v.1 < x1))) (fun b1 => letP (P := (fun v : Int × Curs => 0 ≤ v.1 ∧ (0 < x1 → v.1 < x1))) (fun c1 hc1 => have rc1 := s_l1Byte_rng y0 (by first | assumption | exact ⟨by assumption, by assumption⟩ | grind [maxSl, wrap64]); have kc1 : 0 ≤ c1.2.i ∧ c1.2.b.length ≤ 1048576 := (by rw [hc1]; exact s_l1Byte_cur _ (by first | assumption | exact ⟨by assumption, by assumption⟩ | grind [maxSl, wrap64])); (by
    first
    | (simp only []; omega)
    | (simp only []; refine ⟨tmod_nn ?_, fun h => tmod_lt h⟩; rw [hc1]; exact (s_l1Byte_rng _ hp).1)
    | (simp only []; refine ⟨tmod_nn ?_, fun h => tmod_lt h⟩; have r2 := s_l1Byte_rng _ hp; have r3 := s_l1Byte_rng _ kc2; have r4 := s_l1Byte_rng _ kc3; have r5 := s_l1Byte_rng _ kc4; rw [← hc2] at r2; rw [← hc3] at r3; rw [← hc4] at r4; rw [← hc5] at r5; rw [he7, he6]; simp only [wrap64_def]; omega))))
      (fun b1 => letP (P := (fun v : Int × Curs => 0 ≤ v.1 ∧ (0 < x1 → v.1 < x1))) (fun c2 hc2 => have rc2 := s_l1Byte_rng y0 (by first | assumption | exact ⟨by assumption, by assumption⟩ | grind [maxSl, wrap64]); have kc2 : 0 ≤ c2.2.i ∧ c2.2.b.length ≤ 1048576 := (by rw [hc2]; exact s_l1Byte_cur _ (by first | assumption | exact ⟨by assumption, by assumption⟩ | grind [maxSl, wrap64])); letP (P := (fun v : Int × Curs => 0 ≤ v.1 ∧ (0 < x1 → v.1 < x1))) (fun c3 hc3 => have rc3 := s_l1Byte_rng c2.2 (by first | assumption | exact ⟨by assumption, by assumption⟩ | grind [maxSl, wrap64]); have kc3 : 0 ≤ c3.2.i ∧ c3.2.b.length ≤ 1048576 := (by rw [hc3]; exact s_l1Byte_cur _ (by first | assumption | exact ⟨by assumption, by assumption⟩ | grind [maxSl, wrap64])); letP (P := (fun v : Int × Curs => 0 ≤ v.1 ∧ (0 < x1 → v.1 < x1))) (fun c4 hc4 => have rc4 := s_l1Byte_rng c3.2 (by first | assumption | exact ⟨by assumption, by assumption⟩ | grind [maxSl, wrap64]); have kc4 : 0 ≤ c4.2.i ∧ c4.2.b.length ≤ 1048576 := (by rw [hc4]; exact s_l1Byte_cur _ (by first | assumption | exact ⟨by assumption, by assumption⟩ | grind [maxSl, wrap64])); letP (P := (fun v : Int × Curs => 0 ≤ v.1 ∧ (0 < x1 → v.1 < x1))) (fun c5 hc5 => have rc5 := s_l1Byte_rng c4.2 (by first | assumption | exact ⟨by assumption, by assumption⟩ | grind [maxSl, wrap64]); have kc5 : 0 ≤ c5.2.i ∧ c5.2.b.length ≤ 1048576 := (by rw [hc5]; exact s_l1Byte_cur _ (by first | assumption | exact ⟨by assumption, by assumption⟩ | grind [maxSl, wrap64])); letP (P := (fun v : Int × Curs => 0 ≤ v.1 ∧ (0 < x1 → v.1 < x1))) (fun e6 he6 => letP (P := (fun v : Int × Curs => 0 ≤ v.1 ∧ (0 < x1 → v.1 < x1))) (fun e7 he7 => (by
    first
    | (simp only []; omega)
    | (simp only []; refine ⟨tmod_nn ?_, fun h => tmod_lt h⟩; rw [hc1]; exact (s_l1Byte_rng _ hp).1)
    | (simp only []; refine ⟨tmod_nn ?_, fun h => tmod_lt h⟩; have r2 := s_l1Byte_rng _ hp; have r3 := s_l1Byte_rng _ kc2; have r4 := s_l1Byte_rng _ kc3; have r5 := s_l1Byte_rng _ kc4; rw [← hc2] at r2; rw [← hc3] at r3; rw [← hc4] at r4; rw [← hc5] at r5; rw [he7, he6]; simp only [wrap64_def]; omega))))))))))

/-- spec.CheckCookie -/
def s_CheckCookie_ann : List (Nat × Keep) := [(0, ⟨[2, 3, 4, 5, 12, 14], [], false, 0⟩)]
def s_CheckCookie_L0_sh : Sh := ⟨[(2, false, [.int .i64]), (3, false, [.int .i64]), (4, false, [.ptr 0 0]), (5, false, [.ptr 1 0]), (12, false, [.int .i64]), (14, false, [.int .i64])], [.box [.int .i64, .bool, .int .u64, .int .u64, .sl .arg .macRow, .bool, .int .u64, .int .u64, .sl .arg .macRow, .bool], .box [.int .i64, .int .i64, .int .i64]]⟩
def s_CheckCookie_L0_es : List (Ex × Sh) := [(.ret, ⟨[(8, false, [.int .i64]), (9, false, [.int .i64]), (10, false, [.bool])], []⟩), (.exit 0, ⟨[(8, false, [.undef]), (9, false, [.undef]), (10, false, [.undef])], []⟩)]
def s_CheckCookie_L0_mk (v0 : Int) (v1 : Int) (v2 : Int) (v3 : Int) (v4 : Int) (v5 : Bool) (v6 : Int) (v7 : Int) (v8 : List MacRow) (v9 : Bool) (v10 : Int) (v11 : Int) (v12 : List MacRow) (v13 : Bool) (v14 : Int) (v15 : Int) (v16 : Int) : s_CheckCookie_L0_sh.T := (((v0, ()), ((v1, ()), (((), ()), (((), ()), ((v2, ()), ((v3, ()), ())))))), ((v4, (v5, (v6, (v7, (v8, (v9, (v10, (v11, (v12, (v13, ())))))))))), ((v14, (v15, (v16, ()))), ())))
def s_CheckCookie_L0_mx0 (y0 : Int) (y1 : Int) (y2 : Bool) : Sh.T ⟨[(8, false, [.int .i64]), (9, false, [.int .i64]), (10, false, [.bool])], []⟩ := (((y0, ()), ((y1, ()), ((y2, ()), ()))), ())
def s_CheckCookie_L0_mx1  : Sh.T ⟨[(8, false, [.undef]), (9, false, [.undef]), (10, false, [.undef])], []⟩ := ((((), ()), (((), ()), (((), ()), ()))), ())
def s_CheckCookie_L0_B (v0 : Int) (v1 : Int) (v2 : Int) (v3 : Int) (v4 : Int) (v5 : Bool) (v6 : Int) (v7 : Int) (v8 : List MacRow) (v9 : Bool) (v10 : Int) (v11 : Int) (v12 : List MacRow) (v13 : Bool) (v14 : Int) (v15 : Int) (v16 : Int) (γ : Type) (fail : γ) (next : s_CheckCookie_L0_sh.T → γ) (out : WT s_CheckCookie_L0_es → γ) : γ :=
  bif (decide (0 ≤ v3)) then
    bif (decide ((IntKind.wrap .i64 (v4 - 1)) ≤ v3)) then
      bif (decide ((⟨v4, ⟨v5, v6, v7, v8⟩, ⟨v9, v10, v11, v12⟩, v13⟩ : Keys).now.rows.length ≤ 4294967296 ∧ (⟨v4, ⟨v5, v6, v7, v8⟩, ⟨v9, v10, v11, v12⟩, v13⟩ : Keys).before.rows.length ≤ 4294967296)) then
      letK (α := Mac × Bool) (s_SecretOf (⟨v4, ⟨v5, v6, v7, v8⟩, ⟨v9, v10, v11, v12⟩, v13⟩ : Keys) v3) fun c3 =>
      bif c3.2 then
        bif (decide (c3.1.rows.length ≤ 4294967296)) then
        letK (α := Int) (s_CookieOf c3.1 (⟨v14, v15, v16⟩ : Tupl) v0 v3 v2) fun c4 =>
        bif (c4 == v1) then
          out (Sum.inl (s_CheckCookie_L0_mx0 v3 v2 true))
        else
        next (s_CheckCookie_L0_mk v0 v1 v2 (IntKind.wrap .i64 (v3 - 1)) v4 v5 v6 v7 v8 v9 v10 v11 v12 v13 v14 v15 v16)
        else fail
      else
      next (s_CheckCookie_L0_mk v0 v1 v2 (IntKind.wrap .i64 (v3 - 1)) v4 v5 v6 v7 v8 v9 v10 v11 v12 v13 v14 v15 v16)
      else fail
    else
    out (Sum.inr (s_CheckCookie_L0_mx1 ))
  else
  out (Sum.inr (s_CheckCookie_L0_mx1 ))
theorem s_CheckCookie_L0_par (v0 : Int) (v1 : Int) (v2 : Int) (v3 : Int) (v4 : Int) (v5 : Bool) (v6 : Int) (v7 : Int) (v8 : List MacRow) (v9 : Bool) (v10 : Int) (v11 : Int) (v12 : List MacRow) (v13 : Bool) (v14 : Int) (v15 : Int) (v16 : Int) (γ : Type) (fail : γ) (next : s_CheckCookie_L0_sh.T → γ) (out : WT s_CheckCookie_L0_es → γ) : s_CheckCookie_L0_B v0 v1 v2 v3 v4 v5 v6 v7 v8 v9 v10 v11 v12 v13 v14 v15 v16 γ fail next out = optK (s_CheckCookie_L0_B v0 v1 v2 v3 v4 v5 v6 v7 v8 v9 v10 v11 v12 v13 v14 v15 v16 _ none (fun v' => some (.inl v')) (fun w => some (.inr w))) fail (fun r => Sum.elim next out r) := by
  unfold s_CheckCookie_L0_B
  exact bifT (f := (fun o => optK o fail (fun r => Sum.elim next out r))) (fun _ => bifT (f := (fun o => optK o fail (fun r => Sum.elim next out r))) (fun _ => bifT (f := (fun o => optK o fail (fun r => Sum.elim next out r))) (fun _ => letT (f := (fun o => optK o fail (fun r => Sum.elim next out r))) (fun c3 _ => bifT (f := (fun o => optK o fail (fun r => Sum.elim next out r))) (fun _ => bifT (f := (fun o => optK o fail (fun r => Sum.elim next out r))) (fun _ => letT (f := (fun o => optK o fail (fun r => Sum.elim next out r))) (fun c4 _ => bifT (f := (fun o => optK o fail (fun r => Sum.elim next out r))) (fun _ => rfl)
      (fun _ => rfl))) (fun _ => rfl))
      (fun _ => rfl))) (fun _ => rfl))
      (fun _ => rfl))
      (fun _ => rfl)
def s_CheckCookie_L0_r : Round s_CheckCookie_L0_sh.T (WT s_CheckCookie_L0_es) where
  B v γ fail next out := s_CheckCookie_L0_B v.1.1.1 v.1.2.1.1 v.1.2.2.2.2.1.1 v.1.2.2.2.2.2.1.1 v.2.1.1 v.2.1.2.1 v.2.1.2.2.1 v.2.1.2.2.2.1 v.2.1.2.2.2.2.1 v.2.1.2.2.2.2.2.1 v.2.1.2.2.2.2.2.2.1 v.2.1.2.2.2.2.2.2.2.1 v.2.1.2.2.2.2.2.2.2.2.1 v.2.1.2.2.2.2.2.2.2.2.2.1 v.2.2.1.1 v.2.2.1.2.1 v.2.2.1.2.2.1 γ fail next out
  par v γ fail next out := s_CheckCookie_L0_par v.1.1.1 v.1.2.1.1 v.1.2.2.2.2.1.1 v.1.2.2.2.2.2.1.1 v.2.1.1 v.2.1.2.1 v.2.1.2.2.1 v.2.1.2.2.2.1 v.2.1.2.2.2.2.1 v.2.1.2.2.2.2.2.1 v.2.1.2.2.2.2.2.2.1 v.2.1.2.2.2.2.2.2.2.1 v.2.1.2.2.2.2.2.2.2.2.1 v.2.1.2.2.2.2.2.2.2.2.2.1 v.2.2.1.1 v.2.2.1.2.1 v.2.2.1.2.2.1 γ fail next out
def s_CheckCookie_L0_fu (v0 : Int) (v1 : Int) (v2 : Int) (v3 : Int) (v4 : Int) (v5 : Bool) (v6 : Int) (v7 : Int) (v8 : List MacRow) (v9 : Bool) (v10 : Int) (v11 : Int) (v12 : List MacRow) (v13 : Bool) (v14 : Int) (v15 : Int) (v16 : Int) : Nat := (Int.toNat (v3 - 0 + 1)) + 1
theorem s_CheckCookie_L0_lk (v : s_CheckCookie_L0_sh.T) (next : St → Option Res) (k : Ex → St → Option Res) : evalK te (orcOf (P := Try.prog) [s_CookieParts_e, s_KeysOk_e, s_SecretOf_e, s_CookieOf_e]) (lorcOf []) Try.f68.ntmps s_CheckCookie_ann (nthLoop (bodyOf Try.f68) 0 0) 0 (s_CheckCookie_L0_sh.enc v) (endK ⟨[2, 3, 4, 5, 12, 14], [], false, 0⟩ ⟨[8, 9, 10], [], false, 0⟩ next k) =
  s_CheckCookie_L0_r.B v _ none (fun v' => next (s_CheckCookie_L0_sh.enc v')) (fun w => outK s_CheckCookie_L0_es k w) := by kernel_rfl
def s_CheckCookie_L0_le : LE := leOf 0 s_CheckCookie_L0_sh s_CheckCookie_L0_es s_CheckCookie_L0_r.step (fun v => s_CheckCookie_L0_fu v.1.1.1 v.1.2.1.1 v.1.2.2.2.2.1.1 v.1.2.2.2.2.2.1.1 v.2.1.1 v.2.1.2.1 v.2.1.2.2.1 v.2.1.2.2.2.1 v.2.1.2.2.2.2.1 v.2.1.2.2.2.2.2.1 v.2.1.2.2.2.2.2.2.1 v.2.1.2.2.2.2.2.2.2.1 v.2.1.2.2.2.2.2.2.2.2.1 v.2.1.2.2.2.2.2.2.2.2.2.1 v.2.2.1.1 v.2.2.1.2.1 v.2.2.1.2.2.1)
theorem s_CheckCookie_L0_ls (w0 : World) (mo : Mts) (I0 : Nat → Prop) (hmo : mo.length = 0) : LSem Try.prog (Sim w0 mo Try.f68.ntmps I0) (fun b s k => match Nat.beq 0 b with | true => s_CheckCookie_L0_le.run s k | false => none) 0 (nthLoop (bodyOf Try.f68) 0 0) :=
  le_sem hmo (lorc := lorcOf []) (ann := s_CheckCookie_ann) (keep := ⟨[2, 3, 4, 5, 12, 14], [], false, 0⟩) (kout := ⟨[8, 9, 10], [], false, 0⟩) teFact mixFact (orcOf_ok _) (by kernel_rfl) (allLoops_of (bs := []) (by kernel_rfl) trivial) s_CheckCookie_L0_r _ s_CheckCookie_L0_lk
def s_CheckCookie_L0_f (v0 : Int) (v1 : Int) (v2 : Int) (v4 : Int) (v5 : Bool) (v6 : Int) (v7 : Int) (v8 : List MacRow) (v9 : Bool) (v10 : Int) (v11 : Int) (v12 : List MacRow) (v13 : Bool) (v14 : Int) (v15 : Int) (v16 : Int) (v3 : Int) (a : Unit) : Stp (Unit) ((Int) ⊕ (Unit)) :=
  bif (decide ((IntKind.wrap .i64 (v4 - 1)) ≤ v3)) then
    letK (α := Mac × Bool) (s_SecretOf (⟨v4, ⟨v5, v6, v7, v8⟩, ⟨v9, v10, v11, v12⟩, v13⟩ : Keys) v3) fun c3 =>
    bif c3.2 then
      letK (α := Int) (s_CookieOf c3.1 (⟨v14, v15, v16⟩ : Tupl) v0 v3 v2) fun c4 =>
      bif (c4 == v1) then
        .out (Sum.inl v3)
      else
      .next ()
    else
    .next ()
  else
  .out (Sum.inr (()))
theorem s_CheckCookie_L0_st (v0 : Int) (v1 : Int) (v2 : Int) (v3 : Int) (v4 : Int) (v5 : Bool) (v6 : Int) (v7 : Int) (v8 : List MacRow) (v9 : Bool) (v10 : Int) (v11 : Int) (v12 : List MacRow) (v13 : Bool) (v14 : Int) (v15 : Int) (v16 : Int) (hlo : 0 ≤ v3) (hhi : v3 ≤ 9223372036854775807) (hN : 0 ≤ 0) (hi0 : (⟨v4, ⟨v5, v6, v7, v8⟩, ⟨v9, v10, v11, v12⟩, v13⟩ : Keys).now.rows.length ≤ 4294967296) (hi1 : (⟨v4, ⟨v5, v6, v7, v8⟩, ⟨v9, v10, v11, v12⟩, v13⟩ : Keys).before.rows.length ≤ 4294967296) : s_CheckCookie_L0_r.step (s_CheckCookie_L0_mk v0 v1 v2 v3 v4 v5 v6 v7 v8 v9 v10 v11 v12 v13 v14 v15 v16) = Stp.elim (fun a' : Unit => some (Sum.inl (s_CheckCookie_L0_mk v0 v1 v2 (v3 + (-1)) v4 v5 v6 v7 v8 v9 v10 v11 v12 v13 v14 v15 v16))) (fun w => some (Sum.inr ((Sum.elim (fun p : Int => Sum.inl (s_CheckCookie_L0_mx0 p v2 true)) (fun p : Unit => Sum.inr (s_CheckCookie_L0_mx1 ))) w))) (s_CheckCookie_L0_f v0 v1 v2 v4 v5 v6 v7 v8 v9 v10 v11 v12 v13 v14 v15 v16 v3 ()) := by
  have hw : (IntKind.wrap .i64 (v3 - 1)) = v3 + (-1) := wrap64 (by omega) (by omega)
  show s_CheckCookie_L0_B v0 v1 v2 v3 v4 v5 v6 v7 v8 v9 v10 v11 v12 v13 v14 v15 v16 (Option (s_CheckCookie_L0_sh.T ⊕ WT s_CheckCookie_L0_es)) none (fun v' => some (Sum.inl v')) (fun w => some (Sum.inr w)) = _
  unfold s_CheckCookie_L0_B s_CheckCookie_L0_f
  exact bifG (by simp only [decide_eq_true_eq]; omega) (bifT (f := (Stp.elim (fun a' : Unit => some (Sum.inl (s_CheckCookie_L0_mk v0 v1 v2 (v3 + (-1)) v4 v5 v6 v7 v8 v9 v10 v11 v12 v13 v14 v15 v16))) (fun w => some (Sum.inr ((Sum.elim (fun p : Int => Sum.inl (s_CheckCookie_L0_mx0 p v2 true)) (fun p : Unit => Sum.inr (s_CheckCookie_L0_mx1 ))) w))))) (fun b0 => bifG (by (try simp only [Nat.ble_eq, Bool.and_eq_true, decide_eq_true_eq]); grind [maxSl, maxStr, toBytes_length, toInts_length, List.length_set, wrap64, s_SecretOf_len]) (letT (f := (Stp.elim (fun a' : Unit => some (Sum.inl (s_CheckCookie_L0_mk v0 v1 v2 (v3 + (-1)) v4 v5 v6 v7 v8 v9 v10 v11 v12 v13 v14 v15 v16))) (fun w => some (Sum.inr ((Sum.elim (fun p : Int => Sum.inl (s_CheckCookie_L0_mx0 p v2 true)) (fun p : Unit => Sum.inr (s_CheckCookie_L0_mx1 ))) w))))) (fun c3 hc3 => bifT (f := (Stp.elim (fun a' : Unit => some (Sum.inl (s_CheckCookie_L0_mk v0 v1 v2 (v3 + (-1)) v4 v5 v6 v7 v8 v9 v10 v11 v12 v13 v14 v15 v16))) (fun w => some (Sum.inr ((Sum.elim (fun p : Int => Sum.inl (s_CheckCookie_L0_mx0 p v2 true)) (fun p : Unit => Sum.inr (s_CheckCookie_L0_mx1 ))) w))))) (fun b1 => bifG (by (try simp only [Nat.ble_eq, Bool.and_eq_true, decide_eq_true_eq]); grind [maxSl, maxStr, toBytes_length, toInts_length, List.length_set, wrap64, s_SecretOf_len]) (letT (f := (Stp.elim (fun a' : Unit => some (Sum.inl (s_CheckCookie_L0_mk v0 v1 v2 (v3 + (-1)) v4 v5 v6 v7 v8 v9 v10 v11 v12 v13 v14 v15 v16))) (fun w => some (Sum.inr ((Sum.elim (fun p : Int => Sum.inl (s_CheckCookie_L0_mx0 p v2 true)) (fun p : Unit => Sum.inr (s_CheckCookie_L0_mx1 ))) w))))) (fun c4 hc4 => bifT (f := (Stp.elim (fun a' : Unit => some (Sum.inl (s_CheckCookie_L0_mk v0 v1 v2 (v3 + (-1)) v4 v5 v6 v7 v8 v9 v10 v11 v12 v13 v14 v15 v16))) (fun w => some (Sum.inr ((Sum.elim (fun p : Int => Sum.inl (s_CheckCookie_L0_mx0 p v2 true)) (fun p : Unit => Sum.inr (s_CheckCookie_L0_mx1 ))) w))))) (fun b2 => rfl)
      (fun b2 => (by exact congrArg (fun z => some (Sum.inl (s_CheckCookie_L0_mk v0 v1 v2 z v4 v5 v6 v7 v8 v9 v10 v11 v12 v13 v14 v15 v16))) hw)))))
      (fun b1 => (by exact congrArg (fun z => some (Sum.inl (s_CheckCookie_L0_mk v0 v1 v2 z v4 v5 v6 v7 v8 v9 v10 v11 v12 v13 v14 v15 v16))) hw)))))
      (fun b0 => rfl))
theorem s_CheckCookie_L0_cl (v0 : Int) (v1 : Int) (v2 : Int) (v3 : Int) (v4 : Int) (v5 : Bool) (v6 : Int) (v7 : Int) (v8 : List MacRow) (v9 : Bool) (v10 : Int) (v11 : Int) (v12 : List MacRow) (v13 : Bool) (v14 : Int) (v15 : Int) (v16 : Int) (h0 : v3 ≤ 9223372036854775807) (h1 : 0 ≤ 0) (h2 : (⟨v4, ⟨v5, v6, v7, v8⟩, ⟨v9, v10, v11, v12⟩, v13⟩ : Keys).now.rows.length ≤ 4294967296) (h3 : (⟨v4, ⟨v5, v6, v7, v8⟩, ⟨v9, v10, v11, v12⟩, v13⟩ : Keys).before.rows.length ≤ 4294967296) : loopF s_CheckCookie_L0_r.step (s_CheckCookie_L0_fu v0 v1 v2 v3 v4 v5 v6 v7 v8 v9 v10 v11 v12 v13 v14 v15 v16) (s_CheckCookie_L0_mk v0 v1 v2 v3 v4 v5 v6 v7 v8 v9 v10 v11 v12 v13 v14 v15 v16) = some (Stp.elim (fun a => (fun i a => Sum.inr (s_CheckCookie_L0_mx1 )) (v3 + (-1) * (((Int.toNat (v3 - 0 + 1)) : Nat) : Int)) a) (Sum.elim (fun p : Int => Sum.inl (s_CheckCookie_L0_mx0 p v2 true)) (fun p : Unit => Sum.inr (s_CheckCookie_L0_mx1 ))) (forN (s_CheckCookie_L0_f v0 v1 v2 v4 v5 v6 v7 v8 v9 v10 v11 v12 v13 v14 v15 v16) (-1) (Int.toNat (v3 - 0 + 1)) v3 ())) :=
  forN_loop (step := s_CheckCookie_L0_r.step) (mk := fun v3 a => s_CheckCookie_L0_mk v0 v1 v2 v3 v4 v5 v6 v7 v8 v9 v10 v11 v12 v13 v14 v15 v16) (f := s_CheckCookie_L0_f v0 v1 v2 v4 v5 v6 v7 v8 v9 v10 v11 v12 v13 v14 v15 v16) (e := (fun i a => Sum.inr (s_CheckCookie_L0_mx1 ))) (emb := (Sum.elim (fun p : Int => Sum.inl (s_CheckCookie_L0_mx0 p v2 true)) (fun p : Unit => Sum.inr (s_CheckCookie_L0_mx1 )))) (st := (-1)) (Inv := fun v3 a => True) (Int.toNat (v3 - 0 + 1)) v3 () _ (Nat.lt_succ_self _) trivial
    (fun j a hj hv => ⟨s_CheckCookie_L0_st v0 v1 v2 (v3 + (-1) * (j : Int)) v4 v5 v6 v7 v8 v9 v10 v11 v12 v13 v14 v15 v16 (by omega) (by omega) (by omega) h2 h3, fun _ _ => trivial⟩)
    (fun a hv => by
      show s_CheckCookie_L0_B v0 v1 v2 (v3 + (-1) * (((Int.toNat (v3 - 0 + 1)) : Nat) : Int)) v4 v5 v6 v7 v8 v9 v10 v11 v12 v13 v14 v15 v16 (Option (s_CheckCookie_L0_sh.T ⊕ WT s_CheckCookie_L0_es)) none (fun v' => some (Sum.inl v')) (fun w => some (Sum.inr w)) = _
      unfold s_CheckCookie_L0_B
      exact bifN (by simp only [decide_eq_false_iff_not]; omega) rfl)
def s_CheckCookie_N (x0 : Keys) (x1 : Tupl) (x2 : Int) (x3 : Int) (γ : Type) (fail : γ) (k : Int × Int × Bool → γ) : γ :=
  letK (α := Int × Int × Int) (s_CookieParts x3) fun c1 =>
  letK (α := Bool) (s_KeysOk x0) fun c2 =>
  bif (!c2) then
    k (0, 0, false)
  else
  bif (decide (c1.2.1 < 0)) then
    k (0, 0, false)
  else
  optK (loopF s_CheckCookie_L0_r.step (s_CheckCookie_L0_fu x2 x3 c1.2.1 x0.epoch x0.epoch x0.now.use x0.now.k x0.now.l x0.now.rows x0.before.use x0.before.k x0.before.l x0.before.rows x0.two x1.ip x1.port x1.my) (s_CheckCookie_L0_mk x2 x3 c1.2.1 x0.epoch x0.epoch x0.now.use x0.now.k x0.now.l x0.now.rows x0.before.use x0.before.k x0.before.l x0.before.rows x0.two x1.ip x1.port x1.my)) fail fun w5 =>
    Sum.elim (fun w5 =>
      k (w5.1.1.1, w5.1.2.1.1, w5.1.2.2.1.1))
    (fun w5 =>
      k (0, 0, false)) w5
def s_CheckCookie (x0 : Keys) (x1 : Tupl) (x2 : Int) (x3 : Int) : Int × Int × Bool :=
  letK (α := Int × Int × Int) (s_CookieParts x3) fun c1 =>
  letK (α := Bool) (s_KeysOk x0) fun c2 =>
  bif (!c2) then
    (0, 0, false)
  else
  bif (decide (c1.2.1 < 0)) then
    (0, 0, false)
  else
  Stp.elim (fun a6 =>
    (0, 0, false))
    (Sum.elim
      (fun p6 =>
        (p6, c1.2.1, true))
      (fun p6 =>
        (0, 0, false)))
    (forN (s_CheckCookie_L0_f x2 x3 c1.2.1 x0.epoch x0.now.use x0.now.k x0.now.l x0.now.rows x0.before.use x0.before.k x0.before.l x0.before.rows x0.two x1.ip x1.port x1.my) (-1) (Int.toNat (x0.epoch - 0 + 1)) x0.epoch ())
theorem s_CheckCookie_lk (x0 : Keys) (x1 : Tupl) (x2 : Int) (x3 : Int) : evalFn te (orcOf (P := Try.prog) [s_CookieParts_e, s_KeysOk_e, s_SecretOf_e, s_CookieOf_e]) (lorcOf [s_CheckCookie_L0_le]) s_CheckCookie_ann Try.f68 (pvs [.st .keys, .st .tupl, .sc (.int .i64), .sc (.int .i64)] (x0, x1, x2, x3, ())) =
  s_CheckCookie_N x0 x1 x2 x3 _ none (fun v => some [(false, [RC.c (.int .i64 v.1)]), (false, [RC.c (.int .i64 v.2.1)]), (false, [RC.c (.bool v.2.2)])]) := by kernel_rfl
theorem s_CheckCookie_p (x0 : Keys) (x1 : Tupl) (x2 : Int) (x3 : Int) (hx0_epoch : inK .i64 x0.epoch) (hx0_now_k : inK .u64 x0.now.k) (hx0_now_l : inK .u64 x0.now.l) (hx0_now_rows : x0.now.rows.length ≤ 140737488355328) (hx0_now_rows_e : ∀ y ∈ x0.now.rows, ∀ c ∈ Ty.cells .macRow y, FactC c) (hx0_before_k : inK .u64 x0.before.k) (hx0_before_l : inK .u64 x0.before.l) (hx0_before_rows : x0.before.rows.length ≤ 140737488355328) (hx0_before_rows_e : ∀ y ∈ x0.before.rows, ∀ c ∈ Ty.cells .macRow y, FactC c) (hx1_ip : inK .i64 x1.ip) (hx1_port : inK .i64 x1.port) (hx1_my : inK .i64 x1.my) (hx2 : inK .i64 x2) (hx3 : inK .i64 x3) (hp : x0.now.rows.length ≤ 4294967296 ∧ x0.before.rows.length ≤ 4294967296) (γ : Type) (fail : γ) (k : Int × Int × Bool → γ) : s_CheckCookie_N x0 x1 x2 x3 γ fail k = k (s_CheckCookie x0 x1 x2 x3) := by
  unfold s_CheckCookie_N s_CheckCookie
  exact letT (f := k) (fun c1 hc1 => letT (f := k) (fun c2 hc2 => bifT (f := k) (fun b0 => rfl)
      (fun b0 => bifT (f := k) (fun b1 => rfl)
      (fun b1 => loopT (f := k) (s_CheckCookie_L0_cl x2 x3 c1.2.1 x0.epoch x0.epoch x0.now.use x0.now.k x0.now.l x0.now.rows x0.before.use x0.before.k x0.before.l x0.before.rows x0.two x1.ip x1.port x1.my (by (try simp only [Nat.ble_eq, Bool.and_eq_true, decide_eq_true_eq]); first | (have hh := inK64 hx0_epoch; omega) | grind [maxSl, maxStr]) (by (try simp only [Nat.ble_eq, Bool.and_eq_true, decide_eq_true_eq]); first | (have hh := inK64 hx0_epoch; omega) | grind [maxSl, maxStr]) (by (try simp only [Nat.ble_eq, Bool.and_eq_true, decide_eq_true_eq]); first | (have hh := inK64 hx0_epoch; omega) | grind [maxSl, maxStr]) (by (try simp only [Nat.ble_eq, Bool.and_eq_true, decide_eq_true_eq]); first | (have hh := inK64 hx0_epoch; omega) | grind [maxSl, maxStr])) (fun a6 => rfl)
      (fun p => match p with | .inl p6 => rfl | .inr p => (fun p6 => rfl) p)))))
theorem s_CheckCookie_c (x0 : Keys) (x1 : Tupl) (x2 : Int) (x3 : Int) (hp : x0.now.rows.length ≤ 4294967296 ∧ x0.before.rows.length ≤ 4294967296) : Con Try.prog 68 (pvs [.st .keys, .st .tupl, .sc (.int .i64), .sc (.int .i64)] (x0, x1, x2, x3, ())) [rv (.sc (.int .i64)) [] (s_CheckCookie x0 x1 x2 x3).1, rv (.sc (.int .i64)) [] (s_CheckCookie x0 x1 x2 x3).2.1, rv (.sc .bool) [] (s_CheckCookie x0 x1 x2 x3).2.2] := by
  refine Con.of_facts (enters_of Try.func68 rfl (by kernel_rfl)) fun hf => ?_
  replace hf := factAt hf
  exact evalFn_conL teFact mixFact (orcOf_ok _) Try.func68 (by kernel_rfl) (bs := [0]) (by kernel_rfl) (by kernel_rfl) (fun w0 mo I0 hmo => ⟨lsem_of_lorc (s_CheckCookie_L0_ls w0 mo I0 hmo) (by kernel_rfl), trivial⟩) ((s_CheckCookie_lk x0 x1 x2 x3).trans (s_CheckCookie_p x0 x1 x2 x3 ((hf 0 0 rfl rfl).rng) ((hf 0 2 rfl rfl).rng) ((hf 0 3 rfl rfl).rng) ((hf 0 4 rfl rfl).len) (fun y hy => (hf 0 4 rfl rfl).elem hy) ((hf 0 6 rfl rfl).rng) ((hf 0 7 rfl rfl).rng) ((hf 0 8 rfl rfl).len) (fun y hy => (hf 0 8 rfl rfl).elem hy) ((hf 1 0 rfl rfl).rng) ((hf 1 1 rfl rfl).rng) ((hf 1 2 rfl rfl).rng) ((hf 2 0 rfl rfl).rng) ((hf 3 0 rfl rfl).rng) hp _ _ _))
noncomputable def s_CheckCookie_e : Ent1 Try.prog := entP 68 [.st .keys, .st .tupl, .sc (.int .i64), .sc (.int .i64)] (fun x => (decide (x.1.now.rows.length ≤ 4294967296 ∧ x.1.before.rows.length ≤ 4294967296))) (fun x => (s_CheckCookie x.1 x.2.1 x.2.2.1 x.2.2.2.1)) (fun v => [rv (.sc (.int .i64)) [] v.1, rv (.sc (.int .i64)) [] v.2.1, rv (.sc .bool) [] v.2.2]) (fun x hx => s_CheckCookie_c x.1 x.2.1 x.2.2.1 x.2.2.2.1 (of_decide_eq_true hx))


/-- impl.MacOk -/
def i_MacOk_ann : List (Nat × Keep) := [(0, ⟨[1, 27, 28, 29], [], false, 0⟩)]
def i_MacOk_L0_sh : Sh := ⟨[(1, false, [.ptr 0 0]), (27, false, [.sl .arg .macRow]), (28, false, [.int .i64]), (29, false, [.int .i64])], [.box [.bool, .int .u64, .int .u64, .sl .arg .macRow]]⟩
def i_MacOk_L0_es : List (Ex × Sh) := [(.ret, ⟨[(2, false, [.bool])], []⟩), (.exit 0, ⟨[(2, false, [.undef])], []⟩)]
def i_MacOk_L0_mk (v0 : List MacRow) (v1 : Int) (v2 : Int) (v3 : Bool) (v4 : Int) (v5 : Int) (v6 : List MacRow) : i_MacOk_L0_sh.T := ((((), ()), ((v0, ()), ((v1, ()), ((v2, ()), ())))), ((v3, (v4, (v5, (v6, ())))), ()))
def i_MacOk_L0_mx0 (y0 : Bool) : Sh.T ⟨[(2, false, [.bool])], []⟩ := (((y0, ()), ()), ())
def i_MacOk_L0_mx1  : Sh.T ⟨[(2, false, [.undef])], []⟩ := ((((), ()), ()), ())
def i_MacOk_L0_B (v0 : List MacRow) (v1 : Int) (v2 : Int) (v3 : Bool) (v4 : Int) (v5 : Int) (v6 : List MacRow) (γ : Type) (fail : γ) (next : i_MacOk_L0_sh.T → γ) (out : WT i_MacOk_L0_es → γ) : γ :=
  bif (decide (v2 < v1)) then
    bif ((decide (0 ≤ v2)) && (decide (v2 < (v0.length : Int)))) then
    letK (α := Bool) (i_within ((v0.getD v2.toNat (Ty.zero .macRow)).value) 0 16777215) fun c1 =>
    bif (!c1) then
      out (Sum.inl (i_MacOk_L0_mx0 false))
    else
    bif ((decide (0 ≤ v2)) && (decide (v2 ≤ (v6.length : Int)))) then
    letK (α := Bool × MacRow) (g_ContainsFunc_MacRow_i_MacOk_1 ((v6.take v2.toNat).drop 0) (v0.getD v2.toNat (Ty.zero .macRow))) fun c2 =>
    bif c2.1 then
      out (Sum.inl (i_MacOk_L0_mx0 false))
    else
    next (i_MacOk_L0_mk v0 v1 (IntKind.wrap .i64 (v2 + 1)) v3 v4 v5 v6)
    else fail
    else fail
  else
  out (Sum.inr (i_MacOk_L0_mx1 ))
theorem i_MacOk_L0_par (v0 : List MacRow) (v1 : Int) (v2 : Int) (v3 : Bool) (v4 : Int) (v5 : Int) (v6 : List MacRow) (γ : Type) (fail : γ) (next : i_MacOk_L0_sh.T → γ) (out : WT i_MacOk_L0_es → γ) : i_MacOk_L0_B v0 v1 v2 v3 v4 v5 v6 γ fail next out = optK (i_MacOk_L0_B v0 v1 v2 v3 v4 v5 v6 _ none (fun v' => some (.inl v')) (fun w => some (.inr w))) fail (fun r => Sum.elim next out r) := by
  unfold i_MacOk_L0_B
  exact bifT (f := (fun o => optK o fail (fun r => Sum.elim next out r))) (fun _ => bifT (f := (fun o => optK o fail (fun r => Sum.elim next out r))) (fun _ => letT (f := (fun o => optK o fail (fun r => Sum.elim next out r))) (fun c1 _ => bifT (f := (fun o => optK o fail (fun r => Sum.elim next out r))) (fun _ => rfl)
      (fun _ => bifT (f := (fun o => optK o fail (fun r => Sum.elim next out r))) (fun _ => letT (f := (fun o => optK o fail (fun r => Sum.elim next out r))) (fun c2 _ => bifT (f := (fun o => optK o fail (fun r => Sum.elim next out r))) (fun _ => rfl)
      (fun _ => rfl))) (fun _ => rfl)))) (fun _ => rfl))
      (fun _ => rfl)
def i_MacOk_L0_r : Round i_MacOk_L0_sh.T (WT i_MacOk_L0_es) where
  B v γ fail next out := i_MacOk_L0_B v.1.2.1.1 v.1.2.2.1.1 v.1.2.2.2.1.1 v.2.1.1 v.2.1.2.1 v.2.1.2.2.1 v.2.1.2.2.2.1 γ fail next out
  par v γ fail next out := i_MacOk_L0_par v.1.2.1.1 v.1.2.2.1.1 v.1.2.2.2.1.1 v.2.1.1 v.2.1.2.1 v.2.1.2.2.1 v.2.1.2.2.2.1 γ fail next out
def i_MacOk_L0_fu (v0 : List MacRow) (v1 : Int) (v2 : Int) (v3 : Bool) (v4 : Int) (v5 : Int) (v6 : List MacRow) : Nat := (Int.toNat (v1 - v2)) + 1
theorem i_MacOk_L0_lk (v : i_MacOk_L0_sh.T) (next : St → Option Res) (k : Ex → St → Option Res) : evalK te (orcOf (P := Try.prog) [i_within_e, g_ContainsFunc_MacRow_i_MacOk_1_e, i_MacOk_1_e]) (lorcOf []) Try.f149.ntmps i_MacOk_ann (nthLoop (bodyOf Try.f149) 0 0) 0 (i_MacOk_L0_sh.enc v) (endK ⟨[1, 27, 28, 29], [], false, 0⟩ ⟨[2], [], false, 0⟩ next k) =
  i_MacOk_L0_r.B v _ none (fun v' => next (i_MacOk_L0_sh.enc v')) (fun w => outK i_MacOk_L0_es k w) := by kernel_rfl
def i_MacOk_L0_le : LE := leOf 0 i_MacOk_L0_sh i_MacOk_L0_es i_MacOk_L0_r.step (fun v => i_MacOk_L0_fu v.1.2.1.1 v.1.2.2.1.1 v.1.2.2.2.1.1 v.2.1.1 v.2.1.2.1 v.2.1.2.2.1 v.2.1.2.2.2.1)
theorem i_MacOk_L0_ls (w0 : World) (mo : Mts) (I0 : Nat → Prop) (hmo : mo.length = 0) : LSem Try.prog (Sim w0 mo Try.f149.ntmps I0) (fun b s k => match Nat.beq 0 b with | true => i_MacOk_L0_le.run s k | false => none) 0 (nthLoop (bodyOf Try.f149) 0 0) :=
  le_sem hmo (lorc := lorcOf []) (ann := i_MacOk_ann) (keep := ⟨[1, 27, 28, 29], [], false, 0⟩) (kout := ⟨[2], [], false, 0⟩) teFact mixFact (orcOf_ok _) (by kernel_rfl) (allLoops_of (bs := []) (by kernel_rfl) trivial) i_MacOk_L0_r _ i_MacOk_L0_lk
def i_MacOk_L0_f (v0 : List MacRow) (v1 : Int) (v3 : Bool) (v4 : Int) (v5 : Int) (v6 : List MacRow) (v2 : Int) (a : Unit) : Stp (Unit) ((Unit)) :=
  letK (α := Bool) (i_within ((v0.getD v2.toNat (Ty.zero .macRow)).value) 0 16777215) fun c1 =>
  bif (!c1) then
    .out (())
  else
  letK (α := Bool × MacRow) (g_ContainsFunc_MacRow_i_MacOk_1 ((v6.take v2.toNat).drop 0) (v0.getD v2.toNat (Ty.zero .macRow))) fun c2 =>
  bif c2.1 then
    .out (())
  else
  .next ()
theorem i_MacOk_L0_st (v0 : List MacRow) (v1 : Int) (v2 : Int) (v3 : Bool) (v4 : Int) (v5 : Int) (v6 : List MacRow) (hlo : 0 ≤ v2) (hhi : v2 < v1) (hN : v1 ≤ 4611686018427387904) (hi0 : v1 ≤ (v0.length : Int)) (hi1 : v1 ≤ (v6.length : Int)) : i_MacOk_L0_r.step (i_MacOk_L0_mk v0 v1 v2 v3 v4 v5 v6) = Stp.elim (fun a' : Unit => some (Sum.inl (i_MacOk_L0_mk v0 v1 (v2 + 1) v3 v4 v5 v6))) (fun w => some (Sum.inr ((fun p : Unit => Sum.inl (i_MacOk_L0_mx0 false)) w))) (i_MacOk_L0_f v0 v1 v3 v4 v5 v6 v2 ()) := by
  have hw : (IntKind.wrap .i64 (v2 + 1)) = v2 + 1 := wrap64 (by omega) (by omega)
  show i_MacOk_L0_B v0 v1 v2 v3 v4 v5 v6 (Option (i_MacOk_L0_sh.T ⊕ WT i_MacOk_L0_es)) none (fun v' => some (Sum.inl v')) (fun w => some (Sum.inr w)) = _
  unfold i_MacOk_L0_B i_MacOk_L0_f
  exact bifG (by simp only [decide_eq_true_eq]; omega) (bifG (by (try simp only [Nat.ble_eq, Bool.and_eq_true, decide_eq_true_eq]); grind [maxSl, maxStr, toBytes_length, toInts_length, List.length_set, wrap64]) (letT (f := (Stp.elim (fun a' : Unit => some (Sum.inl (i_MacOk_L0_mk v0 v1 (v2 + 1) v3 v4 v5 v6))) (fun w => some (Sum.inr ((fun p : Unit => Sum.inl (i_MacOk_L0_mx0 false)) w))))) (fun c1 hc1 => bifT (f := (Stp.elim (fun a' : Unit => some (Sum.inl (i_MacOk_L0_mk v0 v1 (v2 + 1) v3 v4 v5 v6))) (fun w => some (Sum.inr ((fun p : Unit => Sum.inl (i_MacOk_L0_mx0 false)) w))))) (fun b0 => rfl)
      (fun b0 => bifG (by (try simp only [Nat.ble_eq, Bool.and_eq_true, decide_eq_true_eq]); grind [maxSl, maxStr, toBytes_length, toInts_length, List.length_set, wrap64]) (letT (f := (Stp.elim (fun a' : Unit => some (Sum.inl (i_MacOk_L0_mk v0 v1 (v2 + 1) v3 v4 v5 v6))) (fun w => some (Sum.inr ((fun p : Unit => Sum.inl (i_MacOk_L0_mx0 false)) w))))) (fun c2 hc2 => bifT (f := (Stp.elim (fun a' : Unit => some (Sum.inl (i_MacOk_L0_mk v0 v1 (v2 + 1) v3 v4 v5 v6))) (fun w => some (Sum.inr ((fun p : Unit => Sum.inl (i_MacOk_L0_mx0 false)) w))))) (fun b1 => rfl)
      (fun b1 => (by exact congrArg (fun z => some (Sum.inl (i_MacOk_L0_mk v0 v1 z v3 v4 v5 v6))) hw))))))))
theorem i_MacOk_L0_cl (v0 : List MacRow) (v1 : Int) (v2 : Int) (v3 : Bool) (v4 : Int) (v5 : Int) (v6 : List MacRow) (h0 : 0 ≤ v2) (h1 : v1 ≤ 4611686018427387904) (h2 : v1 ≤ (v0.length : Int)) (h3 : v1 ≤ (v6.length : Int)) : loopF i_MacOk_L0_r.step (i_MacOk_L0_fu v0 v1 v2 v3 v4 v5 v6) (i_MacOk_L0_mk v0 v1 v2 v3 v4 v5 v6) = some (Stp.elim (fun a => (fun i a => Sum.inr (i_MacOk_L0_mx1 )) (v2 + 1 * (((Int.toNat (v1 - v2)) : Nat) : Int)) a) (fun p : Unit => Sum.inl (i_MacOk_L0_mx0 false)) (forN (i_MacOk_L0_f v0 v1 v3 v4 v5 v6) 1 (Int.toNat (v1 - v2)) v2 ())) :=
  forN_loop (step := i_MacOk_L0_r.step) (mk := fun v2 a => i_MacOk_L0_mk v0 v1 v2 v3 v4 v5 v6) (f := i_MacOk_L0_f v0 v1 v3 v4 v5 v6) (e := (fun i a => Sum.inr (i_MacOk_L0_mx1 ))) (emb := (fun p : Unit => Sum.inl (i_MacOk_L0_mx0 false))) (st := 1) (Inv := fun v2 a => True) (Int.toNat (v1 - v2)) v2 () _ (Nat.lt_succ_self _) trivial
    (fun j a hj hv => ⟨i_MacOk_L0_st v0 v1 (v2 + 1 * (j : Int)) v3 v4 v5 v6 (by omega) (by omega) (by omega) h2 h3, fun _ _ => trivial⟩)
    (fun a hv => by
      show i_MacOk_L0_B v0 v1 (v2 + 1 * (((Int.toNat (v1 - v2)) : Nat) : Int)) v3 v4 v5 v6 (Option (i_MacOk_L0_sh.T ⊕ WT i_MacOk_L0_es)) none (fun v' => some (Sum.inl v')) (fun w => some (Sum.inr w)) = _
      unfold i_MacOk_L0_B
      exact bifN (by simp only [decide_eq_false_iff_not]; omega) rfl)
def i_MacOk_N (x0 : Mac) (γ : Type) (fail : γ) (k : Bool → γ) : γ :=
  bif (!x0.use) then
    k ((x0.rows.length : Int) == 0)
  else
  bif (x0.k != 0) then
    k false
  else
  bif (x0.l != 0) then
    k false
  else
  bif (decide (64 < (x0.rows.length : Int))) then
    k false
  else
  optK (loopF i_MacOk_L0_r.step (i_MacOk_L0_fu x0.rows (x0.rows.length : Int) 0 x0.use x0.k x0.l x0.rows) (i_MacOk_L0_mk x0.rows (x0.rows.length : Int) 0 x0.use x0.k x0.l x0.rows)) fail fun w3 =>
    Sum.elim (fun w3 =>
      k w3.1.1.1)
    (fun w3 =>
      k true) w3
def i_MacOk (x0 : Mac) : Bool :=
  bif (!x0.use) then
    ((x0.rows.length : Int) == 0)
  else
  bif (x0.k != 0) then
    false
  else
  bif (x0.l != 0) then
    false
  else
  bif (decide (64 < (x0.rows.length : Int))) then
    false
  else
  Stp.elim (fun a4 =>
    true)
    (fun p4 =>
      false)
    (forN (i_MacOk_L0_f x0.rows (x0.rows.length : Int) x0.use x0.k x0.l x0.rows) 1 (Int.toNat ((x0.rows.length : Int) - 0)) 0 ())
theorem i_MacOk_lk (x0 : Mac) : evalFn te (orcOf (P := Try.prog) [i_within_e, g_ContainsFunc_MacRow_i_MacOk_1_e, i_MacOk_1_e]) (lorcOf [i_MacOk_L0_le]) i_MacOk_ann Try.f149 (pvs [.st .mac] (x0, ())) =
  i_MacOk_N x0 _ none (fun v => some [(false, [RC.c (.bool v)])]) := by kernel_rfl
theorem i_MacOk_p (x0 : Mac) (hx0_k : inK .u64 x0.k) (hx0_l : inK .u64 x0.l) (hx0_rows : x0.rows.length ≤ 140737488355328) (hx0_rows_e : ∀ y ∈ x0.rows, ∀ c ∈ Ty.cells .macRow y, FactC c)  (γ : Type) (fail : γ) (k : Bool → γ) : i_MacOk_N x0 γ fail k = k (i_MacOk x0) := by
  unfold i_MacOk_N i_MacOk
  exact bifT (f := k) (fun b0 => rfl)
      (fun b0 => bifT (f := k) (fun b1 => rfl)
      (fun b1 => bifT (f := k) (fun b2 => rfl)
      (fun b2 => bifT (f := k) (fun b3 => rfl)
      (fun b3 => loopT (f := k) (i_MacOk_L0_cl x0.rows (x0.rows.length : Int) 0 x0.use x0.k x0.l x0.rows (by (try simp only [Nat.ble_eq, Bool.and_eq_true, decide_eq_true_eq, i_MacOk_L0_mx0, i_MacOk_L0_mx1]); grind [maxSl, maxStr, toBytes_length, toInts_length, List.length_set, wrap64]) (by (try simp only [Nat.ble_eq, Bool.and_eq_true, decide_eq_true_eq, i_MacOk_L0_mx0, i_MacOk_L0_mx1]); grind [maxSl, maxStr, toBytes_length, toInts_length, List.length_set, wrap64]) (by (try simp only [Nat.ble_eq, Bool.and_eq_true, decide_eq_true_eq, i_MacOk_L0_mx0, i_MacOk_L0_mx1]); grind [maxSl, maxStr, toBytes_length, toInts_length, List.length_set, wrap64]) (by (try simp only [Nat.ble_eq, Bool.and_eq_true, decide_eq_true_eq, i_MacOk_L0_mx0, i_MacOk_L0_mx1]); grind [maxSl, maxStr, toBytes_length, toInts_length, List.length_set, wrap64])) (fun a4 => rfl)
      (fun p4 => rfl)))))
theorem i_MacOk_c (x0 : Mac)  : Con Try.prog 149 (pvs [.st .mac] (x0, ())) [rv (.sc .bool) [] (i_MacOk x0)] := by
  refine Con.of_facts (enters_of Try.func149 rfl (by kernel_rfl)) fun hf => ?_
  replace hf := factAt hf
  exact evalFn_conL teFact mixFact (orcOf_ok _) Try.func149 (by kernel_rfl) (bs := [0]) (by kernel_rfl) (by kernel_rfl) (fun w0 mo I0 hmo => ⟨lsem_of_lorc (i_MacOk_L0_ls w0 mo I0 hmo) (by kernel_rfl), trivial⟩) ((i_MacOk_lk x0).trans (i_MacOk_p x0 ((hf 0 1 rfl rfl).rng) ((hf 0 2 rfl rfl).rng) ((hf 0 3 rfl rfl).len) (fun y hy => (hf 0 3 rfl rfl).elem hy) _ _ _))
noncomputable def i_MacOk_e : Ent1 Try.prog := entA 149 [.st .mac] (fun x => (i_MacOk x.1)) (fun v => [rv (.sc .bool) [] v]) (fun x => i_MacOk_c x.1)


/-- spec.l1PickInt -/
def s_l1PickInt_N (y0 : Curs) (x1 : List Int) (γ : Type) (fail : γ) (k : Int × Curs → γ) : γ :=
  bif (decide (0 ≤ y0.i ∧ y0.b.length ≤ 1048576)) then
  letK (α := Int × Curs) (s_l1Below y0 (x1.length : Int)) fun c1 =>
  bif ((decide (0 ≤ c1.1)) && (decide (c1.1 < (x1.length : Int)))) then
  k ((x1.getD c1.1.toNat 0), c1.2)
  else fail
  else fail
def s_l1PickInt (y0 : Curs) (x1 : List Int) : Int × Curs :=
  letK (α := Int × Curs) (s_l1Below y0 (x1.length : Int)) fun c1 =>
  ((x1.getD c1.1.toNat 0), c1.2)
theorem s_l1PickInt_lk (y0 : Curs) (x1 : List Int) : evalFnM te (orcOf (P := Try.prog) [s_l1Below_e]) lorc0 [] Try.f100 (pvs [.wr false [.ptr 0], .sc (.sl .i64)] ((), x1, ())) (mos [.box [.c (.sl .u8), .c (.int .i64), .c (.int .i64)]] ((y0.b, y0.i, y0.h, ()), ())) =
  s_l1PickInt_N y0 x1 _ none (fun v => some ([(false, [RC.c (.int .i64 v.1)])] ++ (mos [.box [.c (.sl .u8), .c (.int .i64), .c (.int .i64)]] ((v.2.b, v.2.i, v.2.h, ()), ())).map encO)) := by kernel_rfl
theorem s_l1PickInt_p (y0 : Curs) (x1 : List Int) (hx1 : x1.length ≤ 140737488355328) (hy0_b : y0.b.length ≤ 140737488355328) (hy0_i : inK .i64 y0.i) (hy0_h : inK .i64 y0.h) (hp : (0 ≤ y0.i ∧ y0.b.length ≤ 1048576) ∧ 0 < x1.length) (γ : Type) (fail : γ) (k : Int × Curs → γ) : s_l1PickInt_N y0 x1 γ fail k = k (s_l1PickInt y0 x1) := by
  unfold s_l1PickInt_N s_l1PickInt
  exact bifG (by first | ((try simp only [Nat.ble_eq, Bool.and_eq_true, decide_eq_true_eq]); grind [maxSl]) | (have r := s_l1Below_rng y0 (x1.length : Int) hp.1; rw [← hc1] at r; have r2 := r.2 (by omega); have r1 := r.1; change (decide (0 ≤ c1.1) && decide (c1.1 < (x1.length : Int))) = true; simp only [Bool.and_eq_true, decide_eq_true_eq]; exact ⟨r1, r2⟩)) (letT (f := k) (fun c1 hc1 => have rc1 := s_l1Below_rng y0 (x1.length : Int) (by first | assumption | exact ⟨by assumption, by assumption⟩ | grind [maxSl, wrap64]); have kc1 : 0 ≤ c1.2.i ∧ c1.2.b.length ≤ 1048576 := (by rw [hc1]; exact s_l1Below_cur _ _ (by first | assumption | exact ⟨by assumption, by assumption⟩ | grind [maxSl, wrap64])); bifG (by first | ((try simp only [Nat.ble_eq, Bool.and_eq_true, decide_eq_true_eq]); grind [maxSl]) | (have r := s_l1Below_rng y0 (x1.length : Int) hp.1; rw [← hc1] at r; have r2 := r.2 (by omega); have r1 := r.1; change (decide (0 ≤ c1.1) && decide (c1.1 < (x1.length : Int))) = true; simp only [Bool.and_eq_true, decide_eq_true_eq]; exact ⟨r1, r2⟩)) (rfl)))
theorem s_l1PickInt_c (y0 : Curs) (x1 : List Int) (hp : (0 ≤ y0.i ∧ y0.b.length ≤ 1048576) ∧ 0 < x1.length) : ConM Try.prog 100 (pvs [.wr false [.ptr 0], .sc (.sl .i64)] ((), x1, ())) (mos [.box [.c (.sl .u8), .c (.int .i64), .c (.int .i64)]] ((y0.b, y0.i, y0.h, ()), ())) [rv (.sc (.int .i64)) [] (s_l1PickInt y0 x1).1] (mos [.box [.c (.sl .u8), .c (.int .i64), .c (.int .i64)]] ((((s_l1PickInt y0 x1).2).b, ((s_l1PickInt y0 x1).2).i, ((s_l1PickInt y0 x1).2).h, ()), ())) := by
  refine ConM.of_facts (enters_of Try.func100 rfl (by kernel_rfl)) fun hf hg => ?_
  replace hf := factAt hf
  exact evalFn_conLM teFact mixFact (orcOf_ok _) Try.func100 (by kernel_rfl) (bs := []) (by kernel_rfl) (by kernel_rfl) (by kernel_rfl) rfl (fun w0 mo I0 hmo => trivial) ((s_l1PickInt_lk y0 x1).trans (s_l1PickInt_p y0 x1 ((hf 1 0 rfl rfl).len) ((mbAt hg 0 0 rfl rfl).len) ((mbAt hg 0 1 rfl rfl).rng) ((mbAt hg 0 2 rfl rfl).rng) hp _ _ _))
noncomputable def s_l1PickInt_e : Ent1 Try.prog := entM 100 [.wr false [.ptr 0], .sc (.sl .i64)] [.box [.c (.sl .u8), .c (.int .i64), .c (.int .i64)]] (fun x y => (decide ((0 ≤ (⟨y.1.1, y.1.2.1, y.1.2.2.1⟩ : Curs).i ∧ (⟨y.1.1, y.1.2.1, y.1.2.2.1⟩ : Curs).b.length ≤ 1048576) ∧ 0 < x.2.1.length))) (fun x y => (s_l1PickInt (⟨y.1.1, y.1.2.1, y.1.2.2.1⟩ : Curs) x.2.1)) (fun v => [rv (.sc (.int .i64)) [] v.1]) (fun x y v => (mos [.box [.c (.sl .u8), .c (.int .i64), .c (.int .i64)]] ((v.2.b, v.2.i, v.2.h, ()), ()))) (fun x y hx => s_l1PickInt_c (⟨y.1.1, y.1.2.1, y.1.2.2.1⟩ : Curs) x.2.1 (of_decide_eq_true hx))

theorem s_l1PickInt_cur (y0 : Curs) (x1 : List Int) (hp : (0 ≤ y0.i ∧ y0.b.length ≤ 1048576) ∧ 0 < x1.length) (hc0 : 0 ≤ y0.i ∧ y0.b.length ≤ 1048576) : 0 ≤ (s_l1PickInt y0 x1).2.i ∧ (s_l1PickInt y0 x1).2.b.length ≤ 1048576 := by
  unfold s_l1PickInt
  exact letP (P := (fun v : Int × Curs => 0 ≤ v.2.i ∧ v.2.b.length ≤ 1048576)) (fun c1 hc1 => have rc1 := s_l1Below_rng y0 (x1.length : Int) (by first | assumption | exact ⟨by assumption, by assumption⟩ | grind [maxSl, wrap64]); have kc1 : 0 ≤ c1.2.i ∧ c1.2.b.length ≤ 1048576 := (by rw [hc1]; exact s_l1Below_cur _ _ (by first | assumption | exact ⟨by assumption, by assumption⟩ | grind [maxSl, wrap64])); (by (try simp only [Nat.ble_eq, Bool.and_eq_true, decide_eq_true_eq]); grind [maxSl, maxStr, toBytes_length, toInts_length, List.length_set, wrap64, s_l1Below_rng, s_l1Below_cur]))

/-- spec.HitBy -/
def s_HitBy_ann : List (Nat × Keep) := [(0, ⟨[1, 2, 5], [], false, 0⟩)]
def s_HitBy_L0_sh : Sh := ⟨[(1, false, [.sl .arg .issu]), (2, false, [.ptr 0 0]), (5, false, [.int .i64])], [.box [.int .i64, .bool, .int .u64, .int .u64, .sl .arg .macRow, .bool, .int .u64, .int .u64, .sl .arg .macRow, .bool]]⟩
def s_HitBy_L0_es : List (Ex × Sh) := [(.ret, ⟨[(4, false, [.bool])], []⟩), (.exit 0, ⟨[(4, false, [.undef])], []⟩)]
def s_HitBy_L0_mk (v0 : List Issu) (v1 : Int) (v2 : Int) (v3 : Bool) (v4 : Int) (v5 : Int) (v6 : List MacRow) (v7 : Bool) (v8 : Int) (v9 : Int) (v10 : List MacRow) (v11 : Bool) : s_HitBy_L0_sh.T := (((v0, ()), (((), ()), ((v1, ()), ()))), ((v2, (v3, (v4, (v5, (v6, (v7, (v8, (v9, (v10, (v11, ())))))))))), ()))
def s_HitBy_L0_mx0 (y0 : Bool) : Sh.T ⟨[(4, false, [.bool])], []⟩ := (((y0, ()), ()), ())
def s_HitBy_L0_mx1  : Sh.T ⟨[(4, false, [.undef])], []⟩ := ((((), ()), ()), ())
def s_HitBy_L0_B (v0 : List Issu) (v1 : Int) (v2 : Int) (v3 : Bool) (v4 : Int) (v5 : Int) (v6 : List MacRow) (v7 : Bool) (v8 : Int) (v9 : Int) (v10 : List MacRow) (v11 : Bool) (γ : Type) (fail : γ) (next : s_HitBy_L0_sh.T → γ) (out : WT s_HitBy_L0_es → γ) : γ :=
  bif (decide (v1 < (v0.length : Int))) then
    bif ((decide (0 ≤ v1)) && (decide (v1 < (v0.length : Int)))) then
    bif ((decide (0 ≤ v1)) && (decide (v1 < (v0.length : Int)))) then
    bif ((decide (0 ≤ v1)) && (decide (v1 < (v0.length : Int)))) then
    bif (decide ((⟨v2, ⟨v3, v4, v5, v6⟩, ⟨v7, v8, v9, v10⟩, v11⟩ : Keys).now.rows.length ≤ 4294967296 ∧ (⟨v2, ⟨v3, v4, v5, v6⟩, ⟨v7, v8, v9, v10⟩, v11⟩ : Keys).before.rows.length ≤ 4294967296)) then
    letK (α := Int × Int × Bool) (s_CheckCookie (⟨v2, ⟨v3, v4, v5, v6⟩, ⟨v7, v8, v9, v10⟩, v11⟩ : Keys) ((v0.getD v1.toNat (Ty.zero .issu)).tuple) ((v0.getD v1.toNat (Ty.zero .issu)).seq) ((v0.getD v1.toNat (Ty.zero .issu)).cookie)) fun c1 =>
    bif c1.2.2 then
      out (Sum.inl (s_HitBy_L0_mx0 true))
    else
    next (s_HitBy_L0_mk v0 (IntKind.wrap .i64 (v1 + 1)) v2 v3 v4 v5 v6 v7 v8 v9 v10 v11)
    else fail
    else fail
    else fail
    else fail
  else
  out (Sum.inr (s_HitBy_L0_mx1 ))
theorem s_HitBy_L0_par (v0 : List Issu) (v1 : Int) (v2 : Int) (v3 : Bool) (v4 : Int) (v5 : Int) (v6 : List MacRow) (v7 : Bool) (v8 : Int) (v9 : Int) (v10 : List MacRow) (v11 : Bool) (γ : Type) (fail : γ) (next : s_HitBy_L0_sh.T → γ) (out : WT s_HitBy_L0_es → γ) : s_HitBy_L0_B v0 v1 v2 v3 v4 v5 v6 v7 v8 v9 v10 v11 γ fail next out = optK (s_HitBy_L0_B v0 v1 v2 v3 v4 v5 v6 v7 v8 v9 v10 v11 _ none (fun v' => some (.inl v')) (fun w => some (.inr w))) fail (fun r => Sum.elim next out r) := by
  unfold s_HitBy_L0_B
  exact bifT (f := (fun o => optK o fail (fun r => Sum.elim next out r))) (fun _ => bifT (f := (fun o => optK o fail (fun r => Sum.elim next out r))) (fun _ => bifT (f := (fun o => optK o fail (fun r => Sum.elim next out r))) (fun _ => bifT (f := (fun o => optK o fail (fun r => Sum.elim next out r))) (fun _ => bifT (f := (fun o => optK o fail (fun r => Sum.elim next out r))) (fun _ => letT (f := (fun o => optK o fail (fun r => Sum.elim next out r))) (fun c1 _ => bifT (f := (fun o => optK o fail (fun r => Sum.elim next out r))) (fun _ => rfl)
      (fun _ => rfl))) (fun _ => rfl)) (fun _ => rfl)) (fun _ => rfl)) (fun _ => rfl))
      (fun _ => rfl)
def s_HitBy_L0_r : Round s_HitBy_L0_sh.T (WT s_HitBy_L0_es) where
  B v γ fail next out := s_HitBy_L0_B v.1.1.1 v.1.2.2.1.1 v.2.1.1 v.2.1.2.1 v.2.1.2.2.1 v.2.1.2.2.2.1 v.2.1.2.2.2.2.1 v.2.1.2.2.2.2.2.1 v.2.1.2.2.2.2.2.2.1 v.2.1.2.2.2.2.2.2.2.1 v.2.1.2.2.2.2.2.2.2.2.1 v.2.1.2.2.2.2.2.2.2.2.2.1 γ fail next out
  par v γ fail next out := s_HitBy_L0_par v.1.1.1 v.1.2.2.1.1 v.2.1.1 v.2.1.2.1 v.2.1.2.2.1 v.2.1.2.2.2.1 v.2.1.2.2.2.2.1 v.2.1.2.2.2.2.2.1 v.2.1.2.2.2.2.2.2.1 v.2.1.2.2.2.2.2.2.2.1 v.2.1.2.2.2.2.2.2.2.2.1 v.2.1.2.2.2.2.2.2.2.2.2.1 γ fail next out
def s_HitBy_L0_fu (v0 : List Issu) (v1 : Int) (v2 : Int) (v3 : Bool) (v4 : Int) (v5 : Int) (v6 : List MacRow) (v7 : Bool) (v8 : Int) (v9 : Int) (v10 : List MacRow) (v11 : Bool) : Nat := (Int.toNat ((v0.length : Int) - v1)) + 1
theorem s_HitBy_L0_lk (v : s_HitBy_L0_sh.T) (next : St → Option Res) (k : Ex → St → Option Res) : evalK te (orcOf (P := Try.prog) [s_CheckCookie_e]) (lorcOf []) Try.f21.ntmps s_HitBy_ann (nthLoop (bodyOf Try.f21) 0 0) 0 (s_HitBy_L0_sh.enc v) (endK ⟨[1, 2, 5], [], false, 0⟩ ⟨[4], [], false, 0⟩ next k) =
  s_HitBy_L0_r.B v _ none (fun v' => next (s_HitBy_L0_sh.enc v')) (fun w => outK s_HitBy_L0_es k w) := by kernel_rfl
def s_HitBy_L0_le : LE := leOf 0 s_HitBy_L0_sh s_HitBy_L0_es s_HitBy_L0_r.step (fun v => s_HitBy_L0_fu v.1.1.1 v.1.2.2.1.1 v.2.1.1 v.2.1.2.1 v.2.1.2.2.1 v.2.1.2.2.2.1 v.2.1.2.2.2.2.1 v.2.1.2.2.2.2.2.1 v.2.1.2.2.2.2.2.2.1 v.2.1.2.2.2.2.2.2.2.1 v.2.1.2.2.2.2.2.2.2.2.1 v.2.1.2.2.2.2.2.2.2.2.2.1)
theorem s_HitBy_L0_ls (w0 : World) (mo : Mts) (I0 : Nat → Prop) (hmo : mo.length = 0) : LSem Try.prog (Sim w0 mo Try.f21.ntmps I0) (fun b s k => match Nat.beq 0 b with | true => s_HitBy_L0_le.run s k | false => none) 0 (nthLoop (bodyOf Try.f21) 0 0) :=
  le_sem hmo (lorc := lorcOf []) (ann := s_HitBy_ann) (keep := ⟨[1, 2, 5], [], false, 0⟩) (kout := ⟨[4], [], false, 0⟩) teFact mixFact (orcOf_ok _) (by kernel_rfl) (allLoops_of (bs := []) (by kernel_rfl) trivial) s_HitBy_L0_r _ s_HitBy_L0_lk
def s_HitBy_L0_f (v0 : List Issu) (v2 : Int) (v3 : Bool) (v4 : Int) (v5 : Int) (v6 : List MacRow) (v7 : Bool) (v8 : Int) (v9 : Int) (v10 : List MacRow) (v11 : Bool) (v1 : Int) (a : Unit) : Stp (Unit) ((Unit)) :=
  letK (α := Int × Int × Bool) (s_CheckCookie (⟨v2, ⟨v3, v4, v5, v6⟩, ⟨v7, v8, v9, v10⟩, v11⟩ : Keys) ((v0.getD v1.toNat (Ty.zero .issu)).tuple) ((v0.getD v1.toNat (Ty.zero .issu)).seq) ((v0.getD v1.toNat (Ty.zero .issu)).cookie)) fun c1 =>
  bif c1.2.2 then
    .out (())
  else
  .next ()
theorem s_HitBy_L0_st (v0 : List Issu) (v1 : Int) (v2 : Int) (v3 : Bool) (v4 : Int) (v5 : Int) (v6 : List MacRow) (v7 : Bool) (v8 : Int) (v9 : Int) (v10 : List MacRow) (v11 : Bool) (hlo : 0 ≤ v1) (hhi : v1 < (v0.length : Int)) (hN : (v0.length : Int) ≤ 4611686018427387904) (hi0 : (⟨v2, ⟨v3, v4, v5, v6⟩, ⟨v7, v8, v9, v10⟩, v11⟩ : Keys).now.rows.length ≤ 4294967296) (hi1 : (⟨v2, ⟨v3, v4, v5, v6⟩, ⟨v7, v8, v9, v10⟩, v11⟩ : Keys).before.rows.length ≤ 4294967296) : s_HitBy_L0_r.step (s_HitBy_L0_mk v0 v1 v2 v3 v4 v5 v6 v7 v8 v9 v10 v11) = Stp.elim (fun a' : Unit => some (Sum.inl (s_HitBy_L0_mk v0 (v1 + 1) v2 v3 v4 v5 v6 v7 v8 v9 v10 v11))) (fun w => some (Sum.inr ((fun p : Unit => Sum.inl (s_HitBy_L0_mx0 true)) w))) (s_HitBy_L0_f v0 v2 v3 v4 v5 v6 v7 v8 v9 v10 v11 v1 ()) := by
  have hw : (IntKind.wrap .i64 (v1 + 1)) = v1 + 1 := wrap64 (by omega) (by omega)
  show s_HitBy_L0_B v0 v1 v2 v3 v4 v5 v6 v7 v8 v9 v10 v11 (Option (s_HitBy_L0_sh.T ⊕ WT s_HitBy_L0_es)) none (fun v' => some (Sum.inl v')) (fun w => some (Sum.inr w)) = _
  unfold s_HitBy_L0_B s_HitBy_L0_f
  exact bifG (by simp only [decide_eq_true_eq]; omega) (bifG (by (try simp only [Nat.ble_eq, Bool.and_eq_true, decide_eq_true_eq]); grind [maxSl, maxStr, toBytes_length, toInts_length, List.length_set, wrap64]) (bifG (by (try simp only [Nat.ble_eq, Bool.and_eq_true, decide_eq_true_eq]); grind [maxSl, maxStr, toBytes_length, toInts_length, List.length_set, wrap64]) (bifG (by (try simp only [Nat.ble_eq, Bool.and_eq_true, decide_eq_true_eq]); grind [maxSl, maxStr, toBytes_length, toInts_length, List.length_set, wrap64]) (bifG (by (try simp only [Nat.ble_eq, Bool.and_eq_true, decide_eq_true_eq]); grind [maxSl, maxStr, toBytes_length, toInts_length, List.length_set, wrap64]) (letT (f := (Stp.elim (fun a' : Unit => some (Sum.inl (s_HitBy_L0_mk v0 (v1 + 1) v2 v3 v4 v5 v6 v7 v8 v9 v10 v11))) (fun w => some (Sum.inr ((fun p : Unit => Sum.inl (s_HitBy_L0_mx0 true)) w))))) (fun c1 hc1 => bifT (f := (Stp.elim (fun a' : Unit => some (Sum.inl (s_HitBy_L0_mk v0 (v1 + 1) v2 v3 v4 v5 v6 v7 v8 v9 v10 v11))) (fun w => some (Sum.inr ((fun p : Unit => Sum.inl (s_HitBy_L0_mx0 true)) w))))) (fun b0 => rfl)
      (fun b0 => (by exact congrArg (fun z => some (Sum.inl (s_HitBy_L0_mk v0 z v2 v3 v4 v5 v6 v7 v8 v9 v10 v11))) hw))))))))
theorem s_HitBy_L0_cl (v0 : List Issu) (v1 : Int) (v2 : Int) (v3 : Bool) (v4 : Int) (v5 : Int) (v6 : List MacRow) (v7 : Bool) (v8 : Int) (v9 : Int) (v10 : List MacRow) (v11 : Bool) (h0 : 0 ≤ v1) (h1 : (v0.length : Int) ≤ 4611686018427387904) (h2 : (⟨v2, ⟨v3, v4, v5, v6⟩, ⟨v7, v8, v9, v10⟩, v11⟩ : Keys).now.rows.length ≤ 4294967296) (h3 : (⟨v2, ⟨v3, v4, v5, v6⟩, ⟨v7, v8, v9, v10⟩, v11⟩ : Keys).before.rows.length ≤ 4294967296) : loopF s_HitBy_L0_r.step (s_HitBy_L0_fu v0 v1 v2 v3 v4 v5 v6 v7 v8 v9 v10 v11) (s_HitBy_L0_mk v0 v1 v2 v3 v4 v5 v6 v7 v8 v9 v10 v11) = some (Stp.elim (fun a => (fun i a => Sum.inr (s_HitBy_L0_mx1 )) (v1 + 1 * (((Int.toNat ((v0.length : Int) - v1)) : Nat) : Int)) a) (fun p : Unit => Sum.inl (s_HitBy_L0_mx0 true)) (forN (s_HitBy_L0_f v0 v2 v3 v4 v5 v6 v7 v8 v9 v10 v11) 1 (Int.toNat ((v0.length : Int) - v1)) v1 ())) :=
  forN_loop (step := s_HitBy_L0_r.step) (mk := fun v1 a => s_HitBy_L0_mk v0 v1 v2 v3 v4 v5 v6 v7 v8 v9 v10 v11) (f := s_HitBy_L0_f v0 v2 v3 v4 v5 v6 v7 v8 v9 v10 v11) (e := (fun i a => Sum.inr (s_HitBy_L0_mx1 ))) (emb := (fun p : Unit => Sum.inl (s_HitBy_L0_mx0 true))) (st := 1) (Inv := fun v1 a => True) (Int.toNat ((v0.length : Int) - v1)) v1 () _ (Nat.lt_succ_self _) trivial
    (fun j a hj hv => ⟨s_HitBy_L0_st v0 (v1 + 1 * (j : Int)) v2 v3 v4 v5 v6 v7 v8 v9 v10 v11 (by omega) (by omega) (by omega) h2 h3, fun _ _ => trivial⟩)
    (fun a hv => by
      show s_HitBy_L0_B v0 (v1 + 1 * (((Int.toNat ((v0.length : Int) - v1)) : Nat) : Int)) v2 v3 v4 v5 v6 v7 v8 v9 v10 v11 (Option (s_HitBy_L0_sh.T ⊕ WT s_HitBy_L0_es)) none (fun v' => some (Sum.inl v')) (fun w => some (Sum.inr w)) = _
      unfold s_HitBy_L0_B
      exact bifN (by simp only [decide_eq_false_iff_not]; omega) rfl)
def s_HitBy_N (x0 : Keys) (x1 : List Issu) (γ : Type) (fail : γ) (k : Bool → γ) : γ :=
  optK (loopF s_HitBy_L0_r.step (s_HitBy_L0_fu x1 0 x0.epoch x0.now.use x0.now.k x0.now.l x0.now.rows x0.before.use x0.before.k x0.before.l x0.before.rows x0.two) (s_HitBy_L0_mk x1 0 x0.epoch x0.now.use x0.now.k x0.now.l x0.now.rows x0.before.use x0.before.k x0.before.l x0.before.rows x0.two)) fail fun w2 =>
    Sum.elim (fun w2 =>
      k w2.1.1.1)
    (fun w2 =>
      k false) w2
def s_HitBy (x0 : Keys) (x1 : List Issu) : Bool :=
  Stp.elim (fun a3 =>
    false)
    (fun p3 =>
      true)
    (forN (s_HitBy_L0_f x1 x0.epoch x0.now.use x0.now.k x0.now.l x0.now.rows x0.before.use x0.before.k x0.before.l x0.before.rows x0.two) 1 (Int.toNat ((x1.length : Int) - 0)) 0 ())
theorem s_HitBy_lk (x0 : Keys) (x1 : List Issu) : evalFn te (orcOf (P := Try.prog) [s_CheckCookie_e]) (lorcOf [s_HitBy_L0_le]) s_HitBy_ann Try.f21 (pvs [.st .keys, .sc (.sl .issu)] (x0, x1, ())) =
  s_HitBy_N x0 x1 _ none (fun v => some [(false, [RC.c (.bool v)])]) := by kernel_rfl
theorem s_HitBy_p (x0 : Keys) (x1 : List Issu) (hx0_epoch : inK .i64 x0.epoch) (hx0_now_k : inK .u64 x0.now.k) (hx0_now_l : inK .u64 x0.now.l) (hx0_now_rows : x0.now.rows.length ≤ 140737488355328) (hx0_now_rows_e : ∀ y ∈ x0.now.rows, ∀ c ∈ Ty.cells .macRow y, FactC c) (hx0_before_k : inK .u64 x0.before.k) (hx0_before_l : inK .u64 x0.before.l) (hx0_before_rows : x0.before.rows.length ≤ 140737488355328) (hx0_before_rows_e : ∀ y ∈ x0.before.rows, ∀ c ∈ Ty.cells .macRow y, FactC c) (hx1 : x1.length ≤ 140737488355328) (hp : x0.now.rows.length ≤ 4294967296 ∧ x0.before.rows.length ≤ 4294967296 ∧ x1.length ≤ 4294967296) (γ : Type) (fail : γ) (k : Bool → γ) : s_HitBy_N x0 x1 γ fail k = k (s_HitBy x0 x1) := by
  unfold s_HitBy_N s_HitBy
  exact loopT (f := k) (s_HitBy_L0_cl x1 0 x0.epoch x0.now.use x0.now.k x0.now.l x0.now.rows x0.before.use x0.before.k x0.before.l x0.before.rows x0.two (by (try simp only [Nat.ble_eq, Bool.and_eq_true, decide_eq_true_eq, s_HitBy_L0_mx0, s_HitBy_L0_mx1]); grind [maxSl, maxStr, toBytes_length, toInts_length, List.length_set, wrap64]) (by (try simp only [Nat.ble_eq, Bool.and_eq_true, decide_eq_true_eq, s_HitBy_L0_mx0, s_HitBy_L0_mx1]); grind [maxSl, maxStr, toBytes_length, toInts_length, List.length_set, wrap64]) (by (try simp only [Nat.ble_eq, Bool.and_eq_true, decide_eq_true_eq, s_HitBy_L0_mx0, s_HitBy_L0_mx1]); grind [maxSl, maxStr, toBytes_length, toInts_length, List.length_set, wrap64]) (by (try simp only [Nat.ble_eq, Bool.and_eq_true, decide_eq_true_eq, s_HitBy_L0_mx0, s_HitBy_L0_mx1]); grind [maxSl, maxStr, toBytes_length, toInts_length, List.length_set, wrap64])) (fun a3 => rfl)
      (fun p3 => rfl)
theorem s_HitBy_c (x0 : Keys) (x1 : List Issu) (hp : x0.now.rows.length ≤ 4294967296 ∧ x0.before.rows.length ≤ 4294967296 ∧ x1.length ≤ 4294967296) : Con Try.prog 21 (pvs [.st .keys, .sc (.sl .issu)] (x0, x1, ())) [rv (.sc .bool) [] (s_HitBy x0 x1)] := by
  refine Con.of_facts (enters_of Try.func21 rfl (by kernel_rfl)) fun hf => ?_
  replace hf := factAt hf
  exact evalFn_conL teFact mixFact (orcOf_ok _) Try.func21 (by kernel_rfl) (bs := [0]) (by kernel_rfl) (by kernel_rfl) (fun w0 mo I0 hmo => ⟨lsem_of_lorc (s_HitBy_L0_ls w0 mo I0 hmo) (by kernel_rfl), trivial⟩) ((s_HitBy_lk x0 x1).trans (s_HitBy_p x0 x1 ((hf 0 0 rfl rfl).rng) ((hf 0 2 rfl rfl).rng) ((hf 0 3 rfl rfl).rng) ((hf 0 4 rfl rfl).len) (fun y hy => (hf 0 4 rfl rfl).elem hy) ((hf 0 6 rfl rfl).rng) ((hf 0 7 rfl rfl).rng) ((hf 0 8 rfl rfl).len) (fun y hy => (hf 0 8 rfl rfl).elem hy) ((hf 1 0 rfl rfl).len) hp _ _ _))
noncomputable def s_HitBy_e : Ent1 Try.prog := entP 21 [.st .keys, .sc (.sl .issu)] (fun x => (decide (x.1.now.rows.length ≤ 4294967296 ∧ x.1.before.rows.length ≤ 4294967296 ∧ x.2.1.length ≤ 4294967296))) (fun x => (s_HitBy x.1 x.2.1)) (fun v => [rv (.sc .bool) [] v]) (fun x hx => s_HitBy_c x.1 x.2.1 (of_decide_eq_true hx))


/-- impl.KeysOk -/
def i_KeysOk_N (x0 : Keys) (γ : Type) (fail : γ) (k : Bool → γ) : γ :=
  bif x0.two then
    letK (α := Bool) (i_within x0.epoch 1 4294967295) fun c1 =>
    bif c1 then
      letK (α := Bool) (i_MacOk x0.now) fun c2 =>
      bif c2 then
        letK (α := Bool) (i_MacOk x0.before) fun c3 =>
        bif c3 then
          bif x0.two then
            k true
          else
          letK (α := Bool) (i_SameMac x0.before (⟨false, 0, 0, []⟩ : Mac)) fun c4 =>
          k c4
        else
        k false
      else
      k false
    else
    k false
  else
  letK (α := Bool) (i_within x0.epoch 0 4294967295) fun c5 =>
  bif c5 then
    letK (α := Bool) (i_MacOk x0.now) fun c6 =>
    bif c6 then
      letK (α := Bool) (i_MacOk x0.before) fun c7 =>
      bif c7 then
        bif x0.two then
          k true
        else
        letK (α := Bool) (i_SameMac x0.before (⟨false, 0, 0, []⟩ : Mac)) fun c8 =>
        k c8
      else
      k false
    else
    k false
  else
  k false
def i_KeysOk (x0 : Keys) : Bool :=
  bif x0.two then
    letK (α := Bool) (i_within x0.epoch 1 4294967295) fun c1 =>
    bif c1 then
      letK (α := Bool) (i_MacOk x0.now) fun c2 =>
      bif c2 then
        letK (α := Bool) (i_MacOk x0.before) fun c3 =>
        bif c3 then
          bif x0.two then
            true
          else
          letK (α := Bool) (i_SameMac x0.before (⟨false, 0, 0, []⟩ : Mac)) fun c4 =>
          c4
        else
        false
      else
      false
    else
    false
  else
  letK (α := Bool) (i_within x0.epoch 0 4294967295) fun c5 =>
  bif c5 then
    letK (α := Bool) (i_MacOk x0.now) fun c6 =>
    bif c6 then
      letK (α := Bool) (i_MacOk x0.before) fun c7 =>
      bif c7 then
        bif x0.two then
          true
        else
        letK (α := Bool) (i_SameMac x0.before (⟨false, 0, 0, []⟩ : Mac)) fun c8 =>
        c8
      else
      false
    else
    false
  else
  false
theorem i_KeysOk_lk (x0 : Keys) : evalFn te (orcOf (P := Try.prog) [i_within_e, i_MacOk_e, i_SameMac_e]) lorc0 [] Try.f112 (pvs [.st .keys] (x0, ())) =
  i_KeysOk_N x0 _ none (fun v => some [(false, [RC.c (.bool v)])]) := by kernel_rfl
theorem i_KeysOk_p (x0 : Keys)   (γ : Type) (fail : γ) (k : Bool → γ) : i_KeysOk_N x0 γ fail k = k (i_KeysOk x0) := by
  unfold i_KeysOk_N i_KeysOk
  exact bifT (f := k) (fun b0 => letT (f := k) (fun c1 hc1 => bifT (f := k) (fun b1 => letT (f := k) (fun c2 hc2 => bifT (f := k) (fun b2 => letT (f := k) (fun c3 hc3 => bifT (f := k) (fun b3 => bifT (f := k) (fun b4 => rfl)
      (fun b4 => letT (f := k) (fun c4 hc4 => rfl)))
      (fun b3 => rfl)))
      (fun b2 => rfl)))
      (fun b1 => rfl)))
      (fun b0 => letT (f := k) (fun c5 hc5 => bifT (f := k) (fun b1 => letT (f := k) (fun c6 hc6 => bifT (f := k) (fun b2 => letT (f := k) (fun c7 hc7 => bifT (f := k) (fun b3 => bifT (f := k) (fun b4 => rfl)
      (fun b4 => letT (f := k) (fun c8 hc8 => rfl)))
      (fun b3 => rfl)))
      (fun b2 => rfl)))
      (fun b1 => rfl)))
theorem i_KeysOk_c (x0 : Keys)  : Con Try.prog 112 (pvs [.st .keys] (x0, ())) [rv (.sc .bool) [] (i_KeysOk x0)] := by
  exact evalFn_con0 teFact mixFact (orcOf_ok _) Try.func112 (by kernel_rfl) ((i_KeysOk_lk x0).trans (i_KeysOk_p x0  _ _ _))
noncomputable def i_KeysOk_e : Ent1 Try.prog := entA 112 [.st .keys] (fun x => (i_KeysOk x.1)) (fun v => [rv (.sc .bool) [] v]) (fun x => i_KeysOk_c x.1)


/-- impl.CheckCookie -/
def i_CheckCookie_ann : List (Nat × Keep) := [(0, ⟨[2, 3, 4, 5, 12, 14], [], false, 0⟩)]
def i_CheckCookie_L0_sh : Sh := ⟨[(2, false, [.int .i64]), (3, false, [.int .i64]), (4, false, [.ptr 0 0]), (5, false, [.ptr 1 0]), (12, false, [.int .i64]), (14, false, [.int .i64])], [.box [.int .i64, .bool, .int .u64, .int .u64, .sl .arg .macRow, .bool, .int .u64, .int .u64, .sl .arg .macRow, .bool], .box [.int .i64, .int .i64, .int .i64]]⟩
def i_CheckCookie_L0_es : List (Ex × Sh) := [(.ret, ⟨[(8, false, [.int .i64]), (9, false, [.int .i64]), (10, false, [.bool])], []⟩), (.exit 0, ⟨[(8, false, [.undef]), (9, false, [.undef]), (10, false, [.undef])], []⟩)]
def i_CheckCookie_L0_mk (v0 : Int) (v1 : Int) (v2 : Int) (v3 : Int) (v4 : Int) (v5 : Bool) (v6 : Int) (v7 : Int) (v8 : List MacRow) (v9 : Bool) (v10 : Int) (v11 : Int) (v12 : List MacRow) (v13 : Bool) (v14 : Int) (v15 : Int) (v16 : Int) : i_CheckCookie_L0_sh.T := (((v0, ()), ((v1, ()), (((), ()), (((), ()), ((v2, ()), ((v3, ()), ())))))), ((v4, (v5, (v6, (v7, (v8, (v9, (v10, (v11, (v12, (v13, ())))))))))), ((v14, (v15, (v16, ()))), ())))
def i_CheckCookie_L0_mx0 (y0 : Int) (y1 : Int) (y2 : Bool) : Sh.T ⟨[(8, false, [.int .i64]), (9, false, [.int .i64]), (10, false, [.bool])], []⟩ := (((y0, ()), ((y1, ()), ((y2, ()), ()))), ())
def i_CheckCookie_L0_mx1  : Sh.T ⟨[(8, false, [.undef]), (9, false, [.undef]), (10, false, [.undef])], []⟩ := ((((), ()), (((), ()), (((), ()), ()))), ())
def i_CheckCookie_L0_B (v0 : Int) (v1 : Int) (v2 : Int) (v3 : Int) (v4 : Int) (v5 : Bool) (v6 : Int) (v7 : Int) (v8 : List MacRow) (v9 : Bool) (v10 : Int) (v11 : Int) (v12 : List MacRow) (v13 : Bool) (v14 : Int) (v15 : Int) (v16 : Int) (γ : Type) (fail : γ) (next : i_CheckCookie_L0_sh.T → γ) (out : WT i_CheckCookie_L0_es → γ) : γ :=
  bif (decide ((if 0 < (IntKind.wrap .i64 (v4 - 1)) then (IntKind.wrap .i64 (v4 - 1)) else 0) ≤ v3)) then
    bif (decide ((⟨v4, ⟨v5, v6, v7, v8⟩, ⟨v9, v10, v11, v12⟩, v13⟩ : Keys).now.rows.length ≤ 4294967296 ∧ (⟨v4, ⟨v5, v6, v7, v8⟩, ⟨v9, v10, v11, v12⟩, v13⟩ : Keys).before.rows.length ≤ 4294967296)) then
    letK (α := Mac × Bool) (i_SecretOf (⟨v4, ⟨v5, v6, v7, v8⟩, ⟨v9, v10, v11, v12⟩, v13⟩ : Keys) v3) fun c4 =>
    bif c4.2 then
      bif (decide (c4.1.rows.length ≤ 4294967296)) then
      letK (α := Int) (i_CookieOf c4.1 (⟨v14, v15, v16⟩ : Tupl) v0 v3 v2) fun c5 =>
      bif (c5 == v1) then
        out (Sum.inl (i_CheckCookie_L0_mx0 v3 v2 true))
      else
      next (i_CheckCookie_L0_mk v0 v1 v2 (IntKind.wrap .i64 (v3 - 1)) v4 v5 v6 v7 v8 v9 v10 v11 v12 v13 v14 v15 v16)
      else fail
    else
    next (i_CheckCookie_L0_mk v0 v1 v2 (IntKind.wrap .i64 (v3 - 1)) v4 v5 v6 v7 v8 v9 v10 v11 v12 v13 v14 v15 v16)
    else fail
  else
  out (Sum.inr (i_CheckCookie_L0_mx1 ))
theorem i_CheckCookie_L0_par (v0 : Int) (v1 : Int) (v2 : Int) (v3 : Int) (v4 : Int) (v5 : Bool) (v6 : Int) (v7 : Int) (v8 : List MacRow) (v9 : Bool) (v10 : Int) (v11 : Int) (v12 : List MacRow) (v13 : Bool) (v14 : Int) (v15 : Int) (v16 : Int) (γ : Type) (fail : γ) (next : i_CheckCookie_L0_sh.T → γ) (out : WT i_CheckCookie_L0_es → γ) : i_CheckCookie_L0_B v0 v1 v2 v3 v4 v5 v6 v7 v8 v9 v10 v11 v12 v13 v14 v15 v16 γ fail next out = optK (i_CheckCookie_L0_B v0 v1 v2 v3 v4 v5 v6 v7 v8 v9 v10 v11 v12 v13 v14 v15 v16 _ none (fun v' => some (.inl v')) (fun w => some (.inr w))) fail (fun r => Sum.elim next out r) := by
  unfold i_CheckCookie_L0_B
  exact bifT (f := (fun o => optK o fail (fun r => Sum.elim next out r))) (fun _ => bifT (f := (fun o => optK o fail (fun r => Sum.elim next out r))) (fun _ => letT (f := (fun o => optK o fail (fun r => Sum.elim next out r))) (fun c4 _ => bifT (f := (fun o => optK o fail (fun r => Sum.elim next out r))) (fun _ => bifT (f := (fun o => optK o fail (fun r => Sum.elim next out r))) (fun _ => letT (f := (fun o => optK o fail (fun r => Sum.elim next out r))) (fun c5 _ => bifT (f := (fun o => optK o fail (fun r => Sum.elim next out r))) (fun _ => rfl)
      (fun _ => rfl))) (fun _ => rfl))
      (fun _ => rfl))) (fun _ => rfl))
      (fun _ => rfl)
def i_CheckCookie_L0_r : Round i_CheckCookie_L0_sh.T (WT i_CheckCookie_L0_es) where
  B v γ fail next out := i_CheckCookie_L0_B v.1.1.1 v.1.2.1.1 v.1.2.2.2.2.1.1 v.1.2.2.2.2.2.1.1 v.2.1.1 v.2.1.2.1 v.2.1.2.2.1 v.2.1.2.2.2.1 v.2.1.2.2.2.2.1 v.2.1.2.2.2.2.2.1 v.2.1.2.2.2.2.2.2.1 v.2.1.2.2.2.2.2.2.2.1 v.2.1.2.2.2.2.2.2.2.2.1 v.2.1.2.2.2.2.2.2.2.2.2.1 v.2.2.1.1 v.2.2.1.2.1 v.2.2.1.2.2.1 γ fail next out
  par v γ fail next out := i_CheckCookie_L0_par v.1.1.1 v.1.2.1.1 v.1.2.2.2.2.1.1 v.1.2.2.2.2.2.1.1 v.2.1.1 v.2.1.2.1 v.2.1.2.2.1 v.2.1.2.2.2.1 v.2.1.2.2.2.2.1 v.2.1.2.2.2.2.2.1 v.2.1.2.2.2.2.2.2.1 v.2.1.2.2.2.2.2.2.2.1 v.2.1.2.2.2.2.2.2.2.2.1 v.2.1.2.2.2.2.2.2.2.2.2.1 v.2.2.1.1 v.2.2.1.2.1 v.2.2.1.2.2.1 γ fail next out
def i_CheckCookie_L0_fu (v0 : Int) (v1 : Int) (v2 : Int) (v3 : Int) (v4 : Int) (v5 : Bool) (v6 : Int) (v7 : Int) (v8 : List MacRow) (v9 : Bool) (v10 : Int) (v11 : Int) (v12 : List MacRow) (v13 : Bool) (v14 : Int) (v15 : Int) (v16 : Int) : Nat := (Int.toNat (v3 - (if 0 < (IntKind.wrap .i64 (v4 - 1)) then (IntKind.wrap .i64 (v4 - 1)) else 0) + 1)) + 1
theorem i_CheckCookie_L0_lk (v : i_CheckCookie_L0_sh.T) (next : St → Option Res) (k : Ex → St → Option Res) : evalK te (orcOf (P := Try.prog) [i_KeysOk_e, i_WordOk_e, i_CookieParts_e, i_SecretOf_e, i_CookieOf_e]) (lorcOf []) Try.f67.ntmps i_CheckCookie_ann (nthLoop (bodyOf Try.f67) 0 0) 0 (i_CheckCookie_L0_sh.enc v) (endK ⟨[2, 3, 4, 5, 12, 14], [], false, 0⟩ ⟨[8, 9, 10], [], false, 0⟩ next k) =
  i_CheckCookie_L0_r.B v _ none (fun v' => next (i_CheckCookie_L0_sh.enc v')) (fun w => outK i_CheckCookie_L0_es k w) := by kernel_rfl
def i_CheckCookie_L0_le : LE := leOf 0 i_CheckCookie_L0_sh i_CheckCookie_L0_es i_CheckCookie_L0_r.step (fun v => i_CheckCookie_L0_fu v.1.1.1 v.1.2.1.1 v.1.2.2.2.2.1.1 v.1.2.2.2.2.2.1.1 v.2.1.1 v.2.1.2.1 v.2.1.2.2.1 v.2.1.2.2.2.1 v.2.1.2.2.2.2.1 v.2.1.2.2.2.2.2.1 v.2.1.2.2.2.2.2.2.1 v.2.1.2.2.2.2.2.2.2.1 v.2.1.2.2.2.2.2.2.2.2.1 v.2.1.2.2.2.2.2.2.2.2.2.1 v.2.2.1.1 v.2.2.1.2.1 v.2.2.1.2.2.1)
theorem i_CheckCookie_L0_ls (w0 : World) (mo : Mts) (I0 : Nat → Prop) (hmo : mo.length = 0) : LSem Try.prog (Sim w0 mo Try.f67.ntmps I0) (fun b s k => match Nat.beq 0 b with | true => i_CheckCookie_L0_le.run s k | false => none) 0 (nthLoop (bodyOf Try.f67) 0 0) :=
  le_sem hmo (lorc := lorcOf []) (ann := i_CheckCookie_ann) (keep := ⟨[2, 3, 4, 5, 12, 14], [], false, 0⟩) (kout := ⟨[8, 9, 10], [], false, 0⟩) teFact mixFact (orcOf_ok _) (by kernel_rfl) (allLoops_of (bs := []) (by kernel_rfl) trivial) i_CheckCookie_L0_r _ i_CheckCookie_L0_lk
def i_CheckCookie_L0_f (v0 : Int) (v1 : Int) (v2 : Int) (v4 : Int) (v5 : Bool) (v6 : Int) (v7 : Int) (v8 : List MacRow) (v9 : Bool) (v10 : Int) (v11 : Int) (v12 : List MacRow) (v13 : Bool) (v14 : Int) (v15 : Int) (v16 : Int) (v3 : Int) (a : Unit) : Stp (Unit) ((Int)) :=
  letK (α := Mac × Bool) (i_SecretOf (⟨v4, ⟨v5, v6, v7, v8⟩, ⟨v9, v10, v11, v12⟩, v13⟩ : Keys) v3) fun c4 =>
  bif c4.2 then
    letK (α := Int) (i_CookieOf c4.1 (⟨v14, v15, v16⟩ : Tupl) v0 v3 v2) fun c5 =>
    bif (c5 == v1) then
      .out (v3)
    else
    .next ()
  else
  .next ()
theorem i_CheckCookie_L0_st (v0 : Int) (v1 : Int) (v2 : Int) (v3 : Int) (v4 : Int) (v5 : Bool) (v6 : Int) (v7 : Int) (v8 : List MacRow) (v9 : Bool) (v10 : Int) (v11 : Int) (v12 : List MacRow) (v13 : Bool) (v14 : Int) (v15 : Int) (v16 : Int) (hlo : (if 0 < (IntKind.wrap .i64 (v4 - 1)) then (IntKind.wrap .i64 (v4 - 1)) else 0) ≤ v3) (hhi : v3 ≤ 9223372036854775807) (hN : 0 ≤ (if 0 < (IntKind.wrap .i64 (v4 - 1)) then (IntKind.wrap .i64 (v4 - 1)) else 0)) (hi0 : (⟨v4, ⟨v5, v6, v7, v8⟩, ⟨v9, v10, v11, v12⟩, v13⟩ : Keys).now.rows.length ≤ 4294967296) (hi1 : (⟨v4, ⟨v5, v6, v7, v8⟩, ⟨v9, v10, v11, v12⟩, v13⟩ : Keys).before.rows.length ≤ 4294967296) : i_CheckCookie_L0_r.step (i_CheckCookie_L0_mk v0 v1 v2 v3 v4 v5 v6 v7 v8 v9 v10 v11 v12 v13 v14 v15 v16) = Stp.elim (fun a' : Unit => some (Sum.inl (i_CheckCookie_L0_mk v0 v1 v2 (v3 + (-1)) v4 v5 v6 v7 v8 v9 v10 v11 v12 v13 v14 v15 v16))) (fun w => some (Sum.inr ((fun p : Int => Sum.inl (i_CheckCookie_L0_mx0 p v2 true)) w))) (i_CheckCookie_L0_f v0 v1 v2 v4 v5 v6 v7 v8 v9 v10 v11 v12 v13 v14 v15 v16 v3 ()) := by
  have hw : (IntKind.wrap .i64 (v3 - 1)) = v3 + (-1) := wrap64 (by omega) (by omega)
  show i_CheckCookie_L0_B v0 v1 v2 v3 v4 v5 v6 v7 v8 v9 v10 v11 v12 v13 v14 v15 v16 (Option (i_CheckCookie_L0_sh.T ⊕ WT i_CheckCookie_L0_es)) none (fun v' => some (Sum.inl v')) (fun w => some (Sum.inr w)) = _
  unfold i_CheckCookie_L0_B i_CheckCookie_L0_f
  exact bifG (by simp only [decide_eq_true_eq]; omega) (bifG (by (try simp only [Nat.ble_eq, Bool.and_eq_true, decide_eq_true_eq]); grind [maxSl, maxStr, toBytes_length, toInts_length, List.length_set, wrap64, i_SecretOf_len]) (letT (f := (Stp.elim (fun a' : Unit => some (Sum.inl (i_CheckCookie_L0_mk v0 v1 v2 (v3 + (-1)) v4 v5 v6 v7 v8 v9 v10 v11 v12 v13 v14 v15 v16))) (fun w => some (Sum.inr ((fun p : Int => Sum.inl (i_CheckCookie_L0_mx0 p v2 true)) w))))) (fun c4 hc4 => bifT (f := (Stp.elim (fun a' : Unit => some (Sum.inl (i_CheckCookie_L0_mk v0 v1 v2 (v3 + (-1)) v4 v5 v6 v7 v8 v9 v10 v11 v12 v13 v14 v15 v16))) (fun w => some (Sum.inr ((fun p : Int => Sum.inl (i_CheckCookie_L0_mx0 p v2 true)) w))))) (fun b0 => bifG (by (try simp only [Nat.ble_eq, Bool.and_eq_true, decide_eq_true_eq]); grind [maxSl, maxStr, toBytes_length, toInts_length, List.length_set, wrap64, i_SecretOf_len]) (letT (f := (Stp.elim (fun a' : Unit => some (Sum.inl (i_CheckCookie_L0_mk v0 v1 v2 (v3 + (-1)) v4 v5 v6 v7 v8 v9 v10 v11 v12 v13 v14 v15 v16))) (fun w => some (Sum.inr ((fun p : Int => Sum.inl (i_CheckCookie_L0_mx0 p v2 true)) w))))) (fun c5 hc5 => bifT (f := (Stp.elim (fun a' : Unit => some (Sum.inl (i_CheckCookie_L0_mk v0 v1 v2 (v3 + (-1)) v4 v5 v6 v7 v8 v9 v10 v11 v12 v13 v14 v15 v16))) (fun w => some (Sum.inr ((fun p : Int => Sum.inl (i_CheckCookie_L0_mx0 p v2 true)) w))))) (fun b1 => rfl)
      (fun b1 => (by exact congrArg (fun z => some (Sum.inl (i_CheckCookie_L0_mk v0 v1 v2 z v4 v5 v6 v7 v8 v9 v10 v11 v12 v13 v14 v15 v16))) hw)))))
      (fun b0 => (by exact congrArg (fun z => some (Sum.inl (i_CheckCookie_L0_mk v0 v1 v2 z v4 v5 v6 v7 v8 v9 v10 v11 v12 v13 v14 v15 v16))) hw)))))
theorem i_CheckCookie_L0_cl (v0 : Int) (v1 : Int) (v2 : Int) (v3 : Int) (v4 : Int) (v5 : Bool) (v6 : Int) (v7 : Int) (v8 : List MacRow) (v9 : Bool) (v10 : Int) (v11 : Int) (v12 : List MacRow) (v13 : Bool) (v14 : Int) (v15 : Int) (v16 : Int) (h0 : v3 ≤ 9223372036854775807) (h1 : 0 ≤ (if 0 < (IntKind.wrap .i64 (v4 - 1)) then (IntKind.wrap .i64 (v4 - 1)) else 0)) (h2 : (⟨v4, ⟨v5, v6, v7, v8⟩, ⟨v9, v10, v11, v12⟩, v13⟩ : Keys).now.rows.length ≤ 4294967296) (h3 : (⟨v4, ⟨v5, v6, v7, v8⟩, ⟨v9, v10, v11, v12⟩, v13⟩ : Keys).before.rows.length ≤ 4294967296) : loopF i_CheckCookie_L0_r.step (i_CheckCookie_L0_fu v0 v1 v2 v3 v4 v5 v6 v7 v8 v9 v10 v11 v12 v13 v14 v15 v16) (i_CheckCookie_L0_mk v0 v1 v2 v3 v4 v5 v6 v7 v8 v9 v10 v11 v12 v13 v14 v15 v16) = some (Stp.elim (fun a => (fun i a => Sum.inr (i_CheckCookie_L0_mx1 )) (v3 + (-1) * (((Int.toNat (v3 - (if 0 < (IntKind.wrap .i64 (v4 - 1)) then (IntKind.wrap .i64 (v4 - 1)) else 0) + 1)) : Nat) : Int)) a) (fun p : Int => Sum.inl (i_CheckCookie_L0_mx0 p v2 true)) (forN (i_CheckCookie_L0_f v0 v1 v2 v4 v5 v6 v7 v8 v9 v10 v11 v12 v13 v14 v15 v16) (-1) (Int.toNat (v3 - (if 0 < (IntKind.wrap .i64 (v4 - 1)) then (IntKind.wrap .i64 (v4 - 1)) else 0) + 1)) v3 ())) :=
  forN_loop (step := i_CheckCookie_L0_r.step) (mk := fun v3 a => i_CheckCookie_L0_mk v0 v1 v2 v3 v4 v5 v6 v7 v8 v9 v10 v11 v12 v13 v14 v15 v16) (f := i_CheckCookie_L0_f v0 v1 v2 v4 v5 v6 v7 v8 v9 v10 v11 v12 v13 v14 v15 v16) (e := (fun i a => Sum.inr (i_CheckCookie_L0_mx1 ))) (emb := (fun p : Int => Sum.inl (i_CheckCookie_L0_mx0 p v2 true))) (st := (-1)) (Inv := fun v3 a => True) (Int.toNat (v3 - (if 0 < (IntKind.wrap .i64 (v4 - 1)) then (IntKind.wrap .i64 (v4 - 1)) else 0) + 1)) v3 () _ (Nat.lt_succ_self _) trivial
    (fun j a hj hv => ⟨i_CheckCookie_L0_st v0 v1 v2 (v3 + (-1) * (j : Int)) v4 v5 v6 v7 v8 v9 v10 v11 v12 v13 v14 v15 v16 (by omega) (by omega) (by omega) h2 h3, fun _ _ => trivial⟩)
    (fun a hv => by
      show i_CheckCookie_L0_B v0 v1 v2 (v3 + (-1) * (((Int.toNat (v3 - (if 0 < (IntKind.wrap .i64 (v4 - 1)) then (IntKind.wrap .i64 (v4 - 1)) else 0) + 1)) : Nat) : Int)) v4 v5 v6 v7 v8 v9 v10 v11 v12 v13 v14 v15 v16 (Option (i_CheckCookie_L0_sh.T ⊕ WT i_CheckCookie_L0_es)) none (fun v' => some (Sum.inl v')) (fun w => some (Sum.inr w)) = _
      unfold i_CheckCookie_L0_B
      exact bifN (by simp only [decide_eq_false_iff_not]; omega) rfl)
def i_CheckCookie_N (x0 : Keys) (x1 : Tupl) (x2 : Int) (x3 : Int) (γ : Type) (fail : γ) (k : Int × Int × Bool → γ) : γ :=
  letK (α := Bool) (i_KeysOk x0) fun c1 =>
  bif (!c1) then
    k (0, 0, false)
  else
  letK (α := Bool) (i_WordOk x3 32) fun c2 =>
  bif (!c2) then
    k (0, 0, false)
  else
  letK (α := Int × Int × Int) (i_CookieParts x3) fun c3 =>
  optK (loopF i_CheckCookie_L0_r.step (i_CheckCookie_L0_fu x2 x3 c3.2.1 x0.epoch x0.epoch x0.now.use x0.now.k x0.now.l x0.now.rows x0.before.use x0.before.k x0.before.l x0.before.rows x0.two x1.ip x1.port x1.my) (i_CheckCookie_L0_mk x2 x3 c3.2.1 x0.epoch x0.epoch x0.now.use x0.now.k x0.now.l x0.now.rows x0.before.use x0.before.k x0.before.l x0.before.rows x0.two x1.ip x1.port x1.my)) fail fun w6 =>
    Sum.elim (fun w6 =>
      k (w6.1.1.1, w6.1.2.1.1, w6.1.2.2.1.1))
    (fun w6 =>
      k (0, 0, false)) w6
def i_CheckCookie (x0 : Keys) (x1 : Tupl) (x2 : Int) (x3 : Int) : Int × Int × Bool :=
  letK (α := Bool) (i_KeysOk x0) fun c1 =>
  bif (!c1) then
    (0, 0, false)
  else
  letK (α := Bool) (i_WordOk x3 32) fun c2 =>
  bif (!c2) then
    (0, 0, false)
  else
  letK (α := Int × Int × Int) (i_CookieParts x3) fun c3 =>
  Stp.elim (fun a7 =>
    (0, 0, false))
    (fun p7 =>
      (p7, c3.2.1, true))
    (forN (i_CheckCookie_L0_f x2 x3 c3.2.1 x0.epoch x0.now.use x0.now.k x0.now.l x0.now.rows x0.before.use x0.before.k x0.before.l x0.before.rows x0.two x1.ip x1.port x1.my) (-1) (Int.toNat (x0.epoch - (if 0 < (IntKind.wrap .i64 (x0.epoch - 1)) then (IntKind.wrap .i64 (x0.epoch - 1)) else 0) + 1)) x0.epoch ())
theorem i_CheckCookie_lk (x0 : Keys) (x1 : Tupl) (x2 : Int) (x3 : Int) : evalFn te (orcOf (P := Try.prog) [i_KeysOk_e, i_WordOk_e, i_CookieParts_e, i_SecretOf_e, i_CookieOf_e]) (lorcOf [i_CheckCookie_L0_le]) i_CheckCookie_ann Try.f67 (pvs [.st .keys, .st .tupl, .sc (.int .i64), .sc (.int .i64)] (x0, x1, x2, x3, ())) =
  i_CheckCookie_N x0 x1 x2 x3 _ none (fun v => some [(false, [RC.c (.int .i64 v.1)]), (false, [RC.c (.int .i64 v.2.1)]), (false, [RC.c (.bool v.2.2)])]) := by kernel_rfl
theorem i_CheckCookie_p (x0 : Keys) (x1 : Tupl) (x2 : Int) (x3 : Int) (hx0_epoch : inK .i64 x0.epoch) (hx0_now_k : inK .u64 x0.now.k) (hx0_now_l : inK .u64 x0.now.l) (hx0_now_rows : x0.now.rows.length ≤ 140737488355328) (hx0_now_rows_e : ∀ y ∈ x0.now.rows, ∀ c ∈ Ty.cells .macRow y, FactC c) (hx0_before_k : inK .u64 x0.before.k) (hx0_before_l : inK .u64 x0.before.l) (hx0_before_rows : x0.before.rows.length ≤ 140737488355328) (hx0_before_rows_e : ∀ y ∈ x0.before.rows, ∀ c ∈ Ty.cells .macRow y, FactC c) (hx1_ip : inK .i64 x1.ip) (hx1_port : inK .i64 x1.port) (hx1_my : inK .i64 x1.my) (hx2 : inK .i64 x2) (hx3 : inK .i64 x3) (hp : x0.now.rows.length ≤ 4294967296 ∧ x0.before.rows.length ≤ 4294967296) (γ : Type) (fail : γ) (k : Int × Int × Bool → γ) : i_CheckCookie_N x0 x1 x2 x3 γ fail k = k (i_CheckCookie x0 x1 x2 x3) := by
  unfold i_CheckCookie_N i_CheckCookie
  exact letT (f := k) (fun c1 hc1 => bifT (f := k) (fun b0 => rfl)
      (fun b0 => letT (f := k) (fun c2 hc2 => bifT (f := k) (fun b1 => rfl)
      (fun b1 => letT (f := k) (fun c3 hc3 => loopT (f := k) (i_CheckCookie_L0_cl x2 x3 c3.2.1 x0.epoch x0.epoch x0.now.use x0.now.k x0.now.l x0.now.rows x0.before.use x0.before.k x0.before.l x0.before.rows x0.two x1.ip x1.port x1.my (by (try simp only [Nat.ble_eq, Bool.and_eq_true, decide_eq_true_eq]); first | (have hh := inK64 hx0_epoch; omega) | grind [maxSl, maxStr]) (by (try simp only [Nat.ble_eq, Bool.and_eq_true, decide_eq_true_eq]); first | (have hh := inK64 hx0_epoch; omega) | grind [maxSl, maxStr]) (by (try simp only [Nat.ble_eq, Bool.and_eq_true, decide_eq_true_eq]); first | (have hh := inK64 hx0_epoch; omega) | grind [maxSl, maxStr]) (by (try simp only [Nat.ble_eq, Bool.and_eq_true, decide_eq_true_eq]); first | (have hh := inK64 hx0_epoch; omega) | grind [maxSl, maxStr])) (fun a7 => rfl)
      (fun p7 => rfl))))))
theorem i_CheckCookie_c (x0 : Keys) (x1 : Tupl) (x2 : Int) (x3 : Int) (hp : x0.now.rows.length ≤ 4294967296 ∧ x0.before.rows.length ≤ 4294967296) : Con Try.prog 67 (pvs [.st .keys, .st .tupl, .sc (.int .i64), .sc (.int .i64)] (x0, x1, x2, x3, ())) [rv (.sc (.int .i64)) [] (i_CheckCookie x0 x1 x2 x3).1, rv (.sc (.int .i64)) [] (i_CheckCookie x0 x1 x2 x3).2.1, rv (.sc .bool) [] (i_CheckCookie x0 x1 x2 x3).2.2] := by
  refine Con.of_facts (enters_of Try.func67 rfl (by kernel_rfl)) fun hf => ?_
  replace hf := factAt hf
  exact evalFn_conL teFact mixFact (orcOf_ok _) Try.func67 (by kernel_rfl) (bs := [0]) (by kernel_rfl) (by kernel_rfl) (fun w0 mo I0 hmo => ⟨lsem_of_lorc (i_CheckCookie_L0_ls w0 mo I0 hmo) (by kernel_rfl), trivial⟩) ((i_CheckCookie_lk x0 x1 x2 x3).trans (i_CheckCookie_p x0 x1 x2 x3 ((hf 0 0 rfl rfl).rng) ((hf 0 2 rfl rfl).rng) ((hf 0 3 rfl rfl).rng) ((hf 0 4 rfl rfl).len) (fun y hy => (hf 0 4 rfl rfl).elem hy) ((hf 0 6 rfl rfl).rng) ((hf 0 7 rfl rfl).rng) ((hf 0 8 rfl rfl).len) (fun y hy => (hf 0 8 rfl rfl).elem hy) ((hf 1 0 rfl rfl).rng) ((hf 1 1 rfl rfl).rng) ((hf 1 2 rfl rfl).rng) ((hf 2 0 rfl rfl).rng) ((hf 3 0 rfl rfl).rng) hp _ _ _))
noncomputable def i_CheckCookie_e : Ent1 Try.prog := entP 67 [.st .keys, .st .tupl, .sc (.int .i64), .sc (.int .i64)] (fun x => (decide (x.1.now.rows.length ≤ 4294967296 ∧ x.1.before.rows.length ≤ 4294967296))) (fun x => (i_CheckCookie x.1 x.2.1 x.2.2.1 x.2.2.2.1)) (fun v => [rv (.sc (.int .i64)) [] v.1, rv (.sc (.int .i64)) [] v.2.1, rv (.sc .bool) [] v.2.2]) (fun x hx => i_CheckCookie_c x.1 x.2.1 x.2.2.1 x.2.2.2.1 (of_decide_eq_true hx))


/-- spec.l1Once -/
def s_l1Once_N (y0 : Curs) (x1 : Int) (γ : Type) (fail : γ) (k : Bool × Curs → γ) : γ :=
  bif (decide (0 ≤ y0.i ∧ y0.b.length ≤ 1048576)) then
  letK (α := Int × Curs) (s_l1Below y0 x1) fun c1 =>
  k ((c1.1 == 0), c1.2)
  else fail
def s_l1Once (y0 : Curs) (x1 : Int) : Bool × Curs :=
  letK (α := Int × Curs) (s_l1Below y0 x1) fun c1 =>
  ((c1.1 == 0), c1.2)
theorem s_l1Once_lk (y0 : Curs) (x1 : Int) : evalFnM te (orcOf (P := Try.prog) [s_l1Below_e]) lorc0 [] Try.f63 (pvs [.wr false [.ptr 0], .sc (.int .i64)] ((), x1, ())) (mos [.box [.c (.sl .u8), .c (.int .i64), .c (.int .i64)]] ((y0.b, y0.i, y0.h, ()), ())) =
  s_l1Once_N y0 x1 _ none (fun v => some ([(false, [RC.c (.bool v.1)])] ++ (mos [.box [.c (.sl .u8), .c (.int .i64), .c (.int .i64)]] ((v.2.b, v.2.i, v.2.h, ()), ())).map encO)) := by kernel_rfl
theorem s_l1Once_p (y0 : Curs) (x1 : Int) (hx1 : inK .i64 x1) (hy0_b : y0.b.length ≤ 140737488355328) (hy0_i : inK .i64 y0.i) (hy0_h : inK .i64 y0.h) (hp : 0 ≤ y0.i ∧ y0.b.length ≤ 1048576) (γ : Type) (fail : γ) (k : Bool × Curs → γ) : s_l1Once_N y0 x1 γ fail k = k (s_l1Once y0 x1) := by
  unfold s_l1Once_N s_l1Once
  exact bifG (by (try simp only [Nat.ble_eq, Bool.and_eq_true, decide_eq_true_eq]); grind [maxSl, maxStr, toBytes_length, toInts_length, List.length_set, wrap64, s_l1Below_rng, s_l1Below_cur]) (letT (f := k) (fun c1 hc1 => have rc1 := s_l1Below_rng y0 x1 (by first | assumption | exact ⟨by assumption, by assumption⟩ | grind [maxSl, wrap64]); have kc1 : 0 ≤ c1.2.i ∧ c1.2.b.length ≤ 1048576 := (by rw [hc1]; exact s_l1Below_cur _ _ (by first | assumption | exact ⟨by assumption, by assumption⟩ | grind [maxSl, wrap64])); rfl))
theorem s_l1Once_c (y0 : Curs) (x1 : Int) (hp : 0 ≤ y0.i ∧ y0.b.length ≤ 1048576) : ConM Try.prog 63 (pvs [.wr false [.ptr 0], .sc (.int .i64)] ((), x1, ())) (mos [.box [.c (.sl .u8), .c (.int .i64), .c (.int .i64)]] ((y0.b, y0.i, y0.h, ()), ())) [rv (.sc .bool) [] (s_l1Once y0 x1).1] (mos [.box [.c (.sl .u8), .c (.int .i64), .c (.int .i64)]] ((((s_l1Once y0 x1).2).b, ((s_l1Once y0 x1).2).i, ((s_l1Once y0 x1).2).h, ()), ())) := by
  refine ConM.of_facts (enters_of Try.func63 rfl (by kernel_rfl)) fun hf hg => ?_
  replace hf := factAt hf
  exact evalFn_conLM teFact mixFact (orcOf_ok _) Try.func63 (by kernel_rfl) (bs := []) (by kernel_rfl) (by kernel_rfl) (by kernel_rfl) rfl (fun w0 mo I0 hmo => trivial) ((s_l1Once_lk y0 x1).trans (s_l1Once_p y0 x1 ((hf 1 0 rfl rfl).rng) ((mbAt hg 0 0 rfl rfl).len) ((mbAt hg 0 1 rfl rfl).rng) ((mbAt hg 0 2 rfl rfl).rng) hp _ _ _))
noncomputable def s_l1Once_e : Ent1 Try.prog := entM 63 [.wr false [.ptr 0], .sc (.int .i64)] [.box [.c (.sl .u8), .c (.int .i64), .c (.int .i64)]] (fun x y => (decide (0 ≤ (⟨y.1.1, y.1.2.1, y.1.2.2.1⟩ : Curs).i ∧ (⟨y.1.1, y.1.2.1, y.1.2.2.1⟩ : Curs).b.length ≤ 1048576))) (fun x y => (s_l1Once (⟨y.1.1, y.1.2.1, y.1.2.2.1⟩ : Curs) x.2.1)) (fun v => [rv (.sc .bool) [] v.1]) (fun x y v => (mos [.box [.c (.sl .u8), .c (.int .i64), .c (.int .i64)]] ((v.2.b, v.2.i, v.2.h, ()), ()))) (fun x y hx => s_l1Once_c (⟨y.1.1, y.1.2.1, y.1.2.2.1⟩ : Curs) x.2.1 (of_decide_eq_true hx))

theorem s_l1Once_cur (y0 : Curs) (x1 : Int)  (hc0 : 0 ≤ y0.i ∧ y0.b.length ≤ 1048576) : 0 ≤ (s_l1Once y0 x1).2.i ∧ (s_l1Once y0 x1).2.b.length ≤ 1048576 := by
  unfold s_l1Once
  exact letP (P := (fun v : Bool × Curs => 0 ≤ v.2.i ∧ v.2.b.length ≤ 1048576)) (fun c1 hc1 => have rc1 := s_l1Below_rng y0 x1 (by first | assumption | exact ⟨by assumption, by assumption⟩ | grind [maxSl, wrap64]); have kc1 : 0 ≤ c1.2.i ∧ c1.2.b.length ≤ 1048576 := (by rw [hc1]; exact s_l1Below_cur _ _ (by first | assumption | exact ⟨by assumption, by assumption⟩ | grind [maxSl, wrap64])); (by (try simp only [Nat.ble_eq, Bool.and_eq_true, decide_eq_true_eq]); grind [maxSl, maxStr, toBytes_length, toInts_length, List.length_set, wrap64, s_l1Below_rng, s_l1Below_cur]))

/-- impl.HitBy$1 -/
def i_HitBy_1_N (x0 : Issu) (y1 : Keys) (γ : Type) (fail : γ) (k : Bool → γ) : γ :=
  bif (decide (y1.now.rows.length ≤ 4294967296 ∧ y1.before.rows.length ≤ 4294967296)) then
  letK (α := Int × Int × Bool) (i_CheckCookie y1 x0.tuple x0.seq x0.cookie) fun c1 =>
  k c1.2.2
  else fail
def i_HitBy_1 (x0 : Issu) (y1 : Keys) : Bool :=
  letK (α := Int × Int × Bool) (i_CheckCookie y1 x0.tuple x0.seq x0.cookie) fun c1 =>
  c1.2.2
theorem i_HitBy_1_lk (x0 : Issu) (y1 : Keys) : evalFnM te (orcOf (P := Try.prog) [i_CheckCookie_e]) lorc0 [] Try.f66 (pvs [.st .issu, .wr false [.ptr 0]] (x0, (), ())) (mos [.box [.c (.int .i64), .c .bool, .c (.int .u64), .c (.int .u64), .c (.sl .macRow), .c .bool, .c (.int .u64), .c (.int .u64), .c (.sl .macRow), .c .bool]] ((y1.epoch, y1.now.use, y1.now.k, y1.now.l, y1.now.rows, y1.before.use, y1.before.k, y1.before.l, y1.before.rows, y1.two, ()), ())) =
  i_HitBy_1_N x0 y1 _ none (fun v => some ([(false, [RC.c (.bool v)])] ++ (mos [.box [.c (.int .i64), .c .bool, .c (.int .u64), .c (.int .u64), .c (.sl .macRow), .c .bool, .c (.int .u64), .c (.int .u64), .c (.sl .macRow), .c .bool]] ((y1.epoch, y1.now.use, y1.now.k, y1.now.l, y1.now.rows, y1.before.use, y1.before.k, y1.before.l, y1.before.rows, y1.two, ()), ())).map encO)) := by kernel_rfl
theorem i_HitBy_1_p (x0 : Issu) (y1 : Keys) (hx0_tuple_ip : inK .i64 x0.tuple.ip) (hx0_tuple_port : inK .i64 x0.tuple.port) (hx0_tuple_my : inK .i64 x0.tuple.my) (hx0_seq : inK .i64 x0.seq) (hx0_cookie : inK .i64 x0.cookie) (hy1_epoch : inK .i64 y1.epoch) (hy1_now_k : inK .u64 y1.now.k) (hy1_now_l : inK .u64 y1.now.l) (hy1_now_rows : y1.now.rows.length ≤ 140737488355328) (hy1_now_rows_e : ∀ y ∈ y1.now.rows, ∀ c ∈ Ty.cells .macRow y, FactC c) (hy1_before_k : inK .u64 y1.before.k) (hy1_before_l : inK .u64 y1.before.l) (hy1_before_rows : y1.before.rows.length ≤ 140737488355328) (hy1_before_rows_e : ∀ y ∈ y1.before.rows, ∀ c ∈ Ty.cells .macRow y, FactC c) (hp : y1.now.rows.length ≤ 4294967296 ∧ y1.before.rows.length ≤ 4294967296) (γ : Type) (fail : γ) (k : Bool → γ) : i_HitBy_1_N x0 y1 γ fail k = k (i_HitBy_1 x0 y1) := by
  unfold i_HitBy_1_N i_HitBy_1
  exact bifG (by (try simp only [Nat.ble_eq, Bool.and_eq_true, decide_eq_true_eq]); grind [maxSl, maxStr, toBytes_length, toInts_length, List.length_set, wrap64]) (letT (f := k) (fun c1 hc1 => rfl))
theorem i_HitBy_1_c (x0 : Issu) (y1 : Keys) (hp : y1.now.rows.length ≤ 4294967296 ∧ y1.before.rows.length ≤ 4294967296) : ConM Try.prog 66 (pvs [.st .issu, .wr false [.ptr 0]] (x0, (), ())) (mos [.box [.c (.int .i64), .c .bool, .c (.int .u64), .c (.int .u64), .c (.sl .macRow), .c .bool, .c (.int .u64), .c (.int .u64), .c (.sl .macRow), .c .bool]] ((y1.epoch, y1.now.use, y1.now.k, y1.now.l, y1.now.rows, y1.before.use, y1.before.k, y1.before.l, y1.before.rows, y1.two, ()), ())) [rv (.sc .bool) [] (i_HitBy_1 x0 y1)] (mos [.box [.c (.int .i64), .c .bool, .c (.int .u64), .c (.int .u64), .c (.sl .macRow), .c .bool, .c (.int .u64), .c (.int .u64), .c (.sl .macRow), .c .bool]] ((y1.epoch, y1.now.use, y1.now.k, y1.now.l, y1.now.rows, y1.before.use, y1.before.k, y1.before.l, y1.before.rows, y1.two, ()), ())) := by
  refine ConM.of_facts (enters_of Try.func66 rfl (by kernel_rfl)) fun hf hg => ?_
  replace hf := factAt hf
  exact evalFn_conLM teFact mixFact (orcOf_ok _) Try.func66 (by kernel_rfl) (bs := []) (by kernel_rfl) (by kernel_rfl) (by kernel_rfl) rfl (fun w0 mo I0 hmo => trivial) ((i_HitBy_1_lk x0 y1).trans (i_HitBy_1_p x0 y1 ((hf 0 0 rfl rfl).rng) ((hf 0 1 rfl rfl).rng) ((hf 0 2 rfl rfl).rng) ((hf 0 3 rfl rfl).rng) ((hf 0 4 rfl rfl).rng) ((mbAt hg 0 0 rfl rfl).rng) ((mbAt hg 0 2 rfl rfl).rng) ((mbAt hg 0 3 rfl rfl).rng) ((mbAt hg 0 4 rfl rfl).len) (fun y hy => (mbAt hg 0 4 rfl rfl).elem hy) ((mbAt hg 0 6 rfl rfl).rng) ((mbAt hg 0 7 rfl rfl).rng) ((mbAt hg 0 8 rfl rfl).len) (fun y hy => (mbAt hg 0 8 rfl rfl).elem hy) hp _ _ _))
noncomputable def i_HitBy_1_e : Ent1 Try.prog := entM 66 [.st .issu, .wr false [.ptr 0]] [.box [.c (.int .i64), .c .bool, .c (.int .u64), .c (.int .u64), .c (.sl .macRow), .c .bool, .c (.int .u64), .c (.int .u64), .c (.sl .macRow), .c .bool]] (fun x y => (decide ((⟨y.1.1, ⟨y.1.2.1, y.1.2.2.1, y.1.2.2.2.1, y.1.2.2.2.2.1⟩, ⟨y.1.2.2.2.2.2.1, y.1.2.2.2.2.2.2.1, y.1.2.2.2.2.2.2.2.1, y.1.2.2.2.2.2.2.2.2.1⟩, y.1.2.2.2.2.2.2.2.2.2.1⟩ : Keys).now.rows.length ≤ 4294967296 ∧ (⟨y.1.1, ⟨y.1.2.1, y.1.2.2.1, y.1.2.2.2.1, y.1.2.2.2.2.1⟩, ⟨y.1.2.2.2.2.2.1, y.1.2.2.2.2.2.2.1, y.1.2.2.2.2.2.2.2.1, y.1.2.2.2.2.2.2.2.2.1⟩, y.1.2.2.2.2.2.2.2.2.2.1⟩ : Keys).before.rows.length ≤ 4294967296))) (fun x y => (i_HitBy_1 x.1 (⟨y.1.1, ⟨y.1.2.1, y.1.2.2.1, y.1.2.2.2.1, y.1.2.2.2.2.1⟩, ⟨y.1.2.2.2.2.2.1, y.1.2.2.2.2.2.2.1, y.1.2.2.2.2.2.2.2.1, y.1.2.2.2.2.2.2.2.2.1⟩, y.1.2.2.2.2.2.2.2.2.2.1⟩ : Keys))) (fun v => [rv (.sc .bool) [] v]) (fun x y v => (mos [.box [.c (.int .i64), .c .bool, .c (.int .u64), .c (.int .u64), .c (.sl .macRow), .c .bool, .c (.int .u64), .c (.int .u64), .c (.sl .macRow), .c .bool]] (((⟨y.1.1, ⟨y.1.2.1, y.1.2.2.1, y.1.2.2.2.1, y.1.2.2.2.2.1⟩, ⟨y.1.2.2.2.2.2.1, y.1.2.2.2.2.2.2.1, y.1.2.2.2.2.2.2.2.1, y.1.2.2.2.2.2.2.2.2.1⟩, y.1.2.2.2.2.2.2.2.2.2.1⟩ : Keys).epoch, (⟨y.1.1, ⟨y.1.2.1, y.1.2.2.1, y.1.2.2.2.1, y.1.2.2.2.2.1⟩, ⟨y.1.2.2.2.2.2.1, y.1.2.2.2.2.2.2.1, y.1.2.2.2.2.2.2.2.1, y.1.2.2.2.2.2.2.2.2.1⟩, y.1.2.2.2.2.2.2.2.2.2.1⟩ : Keys).now.use, (⟨y.1.1, ⟨y.1.2.1, y.1.2.2.1, y.1.2.2.2.1, y.1.2.2.2.2.1⟩, ⟨y.1.2.2.2.2.2.1, y.1.2.2.2.2.2.2.1, y.1.2.2.2.2.2.2.2.1, y.1.2.2.2.2.2.2.2.2.1⟩, y.1.2.2.2.2.2.2.2.2.2.1⟩ : Keys).now.k, (⟨y.1.1, ⟨y.1.2.1, y.1.2.2.1, y.1.2.2.2.1, y.1.2.2.2.2.1⟩, ⟨y.1.2.2.2.2.2.1, y.1.2.2.2.2.2.2.1, y.1.2.2.2.2.2.2.2.1, y.1.2.2.2.2.2.2.2.2.1⟩, y.1.2.2.2.2.2.2.2.2.2.1⟩ : Keys).now.l, (⟨y.1.1, ⟨y.1.2.1, y.1.2.2.1, y.1.2.2.2.1, y.1.2.2.2.2.1⟩, ⟨y.1.2.2.2.2.2.1, y.1.2.2.2.2.2.2.1, y.1.2.2.2.2.2.2.2.1, y.1.2.2.2.2.2.2.2.2.1⟩, y.1.2.2.2.2.2.2.2.2.2.1⟩ : Keys).now.rows, (⟨y.1.1, ⟨y.1.2.1, y.1.2.2.1, y.1.2.2.2.1, y.1.2.2.2.2.1⟩, ⟨y.1.2.2.2.2.2.1, y.1.2.2.2.2.2.2.1, y.1.2.2.2.2.2.2.2.1, y.1.2.2.2.2.2.2.2.2.1⟩, y.1.2.2.2.2.2.2.2.2.2.1⟩ : Keys).before.use, (⟨y.1.1, ⟨y.1.2.1, y.1.2.2.1, y.1.2.2.2.1, y.1.2.2.2.2.1⟩, ⟨y.1.2.2.2.2.2.1, y.1.2.2.2.2.2.2.1, y.1.2.2.2.2.2.2.2.1, y.1.2.2.2.2.2.2.2.2.1⟩, y.1.2.2.2.2.2.2.2.2.2.1⟩ : Keys).before.k, (⟨y.1.1, ⟨y.1.2.1, y.1.2.2.1, y.1.2.2.2.1, y.1.2.2.2.2.1⟩, ⟨y.1.2.2.2.2.2.1, y.1.2.2.2.2.2.2.1, y.1.2.2.2.2.2.2.2.1, y.1.2.2.2.2.2.2.2.2.1⟩, y.1.2.2.2.2.2.2.2.2.2.1⟩ : Keys).before.l, (⟨y.1.1, ⟨y.1.2.1, y.1.2.2.1, y.1.2.2.2.1, y.1.2.2.2.2.1⟩, ⟨y.1.2.2.2.2.2.1, y.1.2.2.2.2.2.2.1, y.1.2.2.2.2.2.2.2.1, y.1.2.2.2.2.2.2.2.2.1⟩, y.1.2.2.2.2.2.2.2.2.2.1⟩ : Keys).before.rows, (⟨y.1.1, ⟨y.1.2.1, y.1.2.2.1, y.1.2.2.2.1, y.1.2.2.2.2.1⟩, ⟨y.1.2.2.2.2.2.1, y.1.2.2.2.2.2.2.1, y.1.2.2.2.2.2.2.2.1, y.1.2.2.2.2.2.2.2.2.1⟩, y.1.2.2.2.2.2.2.2.2.2.1⟩ : Keys).two, ()), ()))) (fun x y hx => i_HitBy_1_c x.1 (⟨y.1.1, ⟨y.1.2.1, y.1.2.2.1, y.1.2.2.2.1, y.1.2.2.2.2.1⟩, ⟨y.1.2.2.2.2.2.1, y.1.2.2.2.2.2.2.1, y.1.2.2.2.2.2.2.2.1, y.1.2.2.2.2.2.2.2.2.1⟩, y.1.2.2.2.2.2.2.2.2.2.1⟩ : Keys) (of_decide_eq_true hx))


/-- slices.IndexFunc[[]impl.Issue,impl.Issue] -/
def g_IndexFunc_Issue_i_HitBy_1_ann : List (Nat × Keep) := [(0, ⟨[0, 1, 7, 8], [.softo 0 4, .softo 0 8], false, 1⟩)]
def g_IndexFunc_Issue_i_HitBy_1_L0_sh : Sh := ⟨[(0, false, [.sl .arg .issu]), (1, false, [.fn 66 [0]]), (7, false, [.int .i64]), (8, false, [.int .i64])], [.box [.int .i64, .bool, .int .u64, .int .u64, .sl .any .macRow, .bool, .int .u64, .int .u64, .sl .any .macRow, .bool]]⟩
def g_IndexFunc_Issue_i_HitBy_1_L0_es : List (Ex × Sh) := [(.ret, ⟨[(4, false, [.int .i64])], [.box [.int .i64, .bool, .int .u64, .int .u64, .sl .any .macRow, .bool, .int .u64, .int .u64, .sl .any .macRow, .bool]]⟩), (.exit 0, ⟨[(4, false, [.undef])], [.box [.int .i64, .bool, .int .u64, .int .u64, .sl .any .macRow, .bool, .int .u64, .int .u64, .sl .any .macRow, .bool]]⟩)]
def g_IndexFunc_Issue_i_HitBy_1_L0_mk (v0 : List Issu) (v1 : Int) (v2 : Int) (v3 : Int) (v4 : Bool) (v5 : Int) (v6 : Int) (v7 : List MacRow) (v8 : Bool) (v9 : Int) (v10 : Int) (v11 : List MacRow) (v12 : Bool) : g_IndexFunc_Issue_i_HitBy_1_L0_sh.T := (((v0, ()), (((), ()), ((v1, ()), ((v2, ()), ())))), ((v3, (v4, (v5, (v6, (v7, (v8, (v9, (v10, (v11, (v12, ())))))))))), ()))
def g_IndexFunc_Issue_i_HitBy_1_L0_mx0 (y0 : Int) (y1 : Int) (y2 : Bool) (y3 : Int) (y4 : Int) (y5 : List MacRow) (y6 : Bool) (y7 : Int) (y8 : Int) (y9 : List MacRow) (y10 : Bool) : Sh.T ⟨[(4, false, [.int .i64])], [.box [.int .i64, .bool, .int .u64, .int .u64, .sl .any .macRow, .bool, .int .u64, .int .u64, .sl .any .macRow, .bool]]⟩ := (((y0, ()), ()), ((y1, (y2, (y3, (y4, (y5, (y6, (y7, (y8, (y9, (y10, ())))))))))), ()))
def g_IndexFunc_Issue_i_HitBy_1_L0_mx1 (y0 : Int) (y1 : Bool) (y2 : Int) (y3 : Int) (y4 : List MacRow) (y5 : Bool) (y6 : Int) (y7 : Int) (y8 : List MacRow) (y9 : Bool) : Sh.T ⟨[(4, false, [.undef])], [.box [.int .i64, .bool, .int .u64, .int .u64, .sl .any .macRow, .bool, .int .u64, .int .u64, .sl .any .macRow, .bool]]⟩ := ((((), ()), ()), ((y0, (y1, (y2, (y3, (y4, (y5, (y6, (y7, (y8, (y9, ())))))))))), ()))
def g_IndexFunc_Issue_i_HitBy_1_L0_B (v0 : List Issu) (v1 : Int) (v2 : Int) (v3 : Int) (v4 : Bool) (v5 : Int) (v6 : Int) (v7 : List MacRow) (v8 : Bool) (v9 : Int) (v10 : Int) (v11 : List MacRow) (v12 : Bool) (γ : Type) (fail : γ) (next : g_IndexFunc_Issue_i_HitBy_1_L0_sh.T → γ) (out : WT g_IndexFunc_Issue_i_HitBy_1_L0_es → γ) : γ :=
  bif (decide (v2 < v1)) then
    bif ((decide (0 ≤ v2)) && (decide (v2 < (v0.length : Int)))) then
    bif (decide ((⟨v3, ⟨v4, v5, v6, v7⟩, ⟨v8, v9, v10, v11⟩, v12⟩ : Keys).now.rows.length ≤ 4294967296 ∧ (⟨v3, ⟨v4, v5, v6, v7⟩, ⟨v8, v9, v10, v11⟩, v12⟩ : Keys).before.rows.length ≤ 4294967296)) then
    letK (α := Bool) (i_HitBy_1 (v0.getD v2.toNat (Ty.zero .issu)) (⟨v3, ⟨v4, v5, v6, v7⟩, ⟨v8, v9, v10, v11⟩, v12⟩ : Keys)) fun c2 =>
    bif c2 then
      out (Sum.inl (g_IndexFunc_Issue_i_HitBy_1_L0_mx0 v2 v3 v4 v5 v6 v7 v8 v9 v10 v11 v12))
    else
    next (g_IndexFunc_Issue_i_HitBy_1_L0_mk v0 v1 (IntKind.wrap .i64 (v2 + 1)) v3 v4 v5 v6 v7 v8 v9 v10 v11 v12)
    else fail
    else fail
  else
  out (Sum.inr (g_IndexFunc_Issue_i_HitBy_1_L0_mx1 v3 v4 v5 v6 v7 v8 v9 v10 v11 v12))
theorem g_IndexFunc_Issue_i_HitBy_1_L0_par (v0 : List Issu) (v1 : Int) (v2 : Int) (v3 : Int) (v4 : Bool) (v5 : Int) (v6 : Int) (v7 : List MacRow) (v8 : Bool) (v9 : Int) (v10 : Int) (v11 : List MacRow) (v12 : Bool) (γ : Type) (fail : γ) (next : g_IndexFunc_Issue_i_HitBy_1_L0_sh.T → γ) (out : WT g_IndexFunc_Issue_i_HitBy_1_L0_es → γ) : g_IndexFunc_Issue_i_HitBy_1_L0_B v0 v1 v2 v3 v4 v5 v6 v7 v8 v9 v10 v11 v12 γ fail next out = optK (g_IndexFunc_Issue_i_HitBy_1_L0_B v0 v1 v2 v3 v4 v5 v6 v7 v8 v9 v10 v11 v12 _ none (fun v' => some (.inl v')) (fun w => some (.inr w))) fail (fun r => Sum.elim next out r) := by
  unfold g_IndexFunc_Issue_i_HitBy_1_L0_B
  exact bifT (f := (fun o => optK o fail (fun r => Sum.elim next out r))) (fun _ => bifT (f := (fun o => optK o fail (fun r => Sum.elim next out r))) (fun _ => bifT (f := (fun o => optK o fail (fun r => Sum.elim next out r))) (fun _ => letT (f := (fun o => optK o fail (fun r => Sum.elim next out r))) (fun c2 _ => bifT (f := (fun o => optK o fail (fun r => Sum.elim next out r))) (fun _ => rfl)
      (fun _ => rfl))) (fun _ => rfl)) (fun _ => rfl))
      (fun _ => rfl)
def g_IndexFunc_Issue_i_HitBy_1_L0_r : Round g_IndexFunc_Issue_i_HitBy_1_L0_sh.T (WT g_IndexFunc_Issue_i_HitBy_1_L0_es) where
  B v γ fail next out := g_IndexFunc_Issue_i_HitBy_1_L0_B v.1.1.1 v.1.2.2.1.1 v.1.2.2.2.1.1 v.2.1.1 v.2.1.2.1 v.2.1.2.2.1 v.2.1.2.2.2.1 v.2.1.2.2.2.2.1 v.2.1.2.2.2.2.2.1 v.2.1.2.2.2.2.2.2.1 v.2.1.2.2.2.2.2.2.2.1 v.2.1.2.2.2.2.2.2.2.2.1 v.2.1.2.2.2.2.2.2.2.2.2.1 γ fail next out
  par v γ fail next out := g_IndexFunc_Issue_i_HitBy_1_L0_par v.1.1.1 v.1.2.2.1.1 v.1.2.2.2.1.1 v.2.1.1 v.2.1.2.1 v.2.1.2.2.1 v.2.1.2.2.2.1 v.2.1.2.2.2.2.1 v.2.1.2.2.2.2.2.1 v.2.1.2.2.2.2.2.2.1 v.2.1.2.2.2.2.2.2.2.1 v.2.1.2.2.2.2.2.2.2.2.1 v.2.1.2.2.2.2.2.2.2.2.2.1 γ fail next out
def g_IndexFunc_Issue_i_HitBy_1_L0_fu (v0 : List Issu) (v1 : Int) (v2 : Int) (v3 : Int) (v4 : Bool) (v5 : Int) (v6 : Int) (v7 : List MacRow) (v8 : Bool) (v9 : Int) (v10 : Int) (v11 : List MacRow) (v12 : Bool) : Nat := (Int.toNat (v1 - v2)) + 1
theorem g_IndexFunc_Issue_i_HitBy_1_L0_lk (v : g_IndexFunc_Issue_i_HitBy_1_L0_sh.T) (next : St → Option Res) (k : Ex → St → Option Res) : evalK te (orcOf (P := Try.prog) [i_HitBy_1_e]) (lorcOf []) Try.f111.ntmps g_IndexFunc_Issue_i_HitBy_1_ann (nthLoop (bodyOf Try.f111) 0 0) 0 (g_IndexFunc_Issue_i_HitBy_1_L0_sh.enc v) (endK ⟨[0, 1, 7, 8], [.softo 0 4, .softo 0 8], false, 1⟩ ⟨[4], [], false, 1⟩ next k) =
  g_IndexFunc_Issue_i_HitBy_1_L0_r.B v _ none (fun v' => next (g_IndexFunc_Issue_i_HitBy_1_L0_sh.enc v')) (fun w => outK g_IndexFunc_Issue_i_HitBy_1_L0_es k w) := by kernel_rfl
def g_IndexFunc_Issue_i_HitBy_1_L0_le : LE := leOf 0 g_IndexFunc_Issue_i_HitBy_1_L0_sh g_IndexFunc_Issue_i_HitBy_1_L0_es g_IndexFunc_Issue_i_HitBy_1_L0_r.step (fun v => g_IndexFunc_Issue_i_HitBy_1_L0_fu v.1.1.1 v.1.2.2.1.1 v.1.2.2.2.1.1 v.2.1.1 v.2.1.2.1 v.2.1.2.2.1 v.2.1.2.2.2.1 v.2.1.2.2.2.2.1 v.2.1.2.2.2.2.2.1 v.2.1.2.2.2.2.2.2.1 v.2.1.2.2.2.2.2.2.2.1 v.2.1.2.2.2.2.2.2.2.2.1 v.2.1.2.2.2.2.2.2.2.2.2.1)
theorem g_IndexFunc_Issue_i_HitBy_1_L0_ls (w0 : World) (mo : Mts) (I0 : Nat → Prop) (hmo : mo.length = 1) : LSem Try.prog (Sim w0 mo Try.f111.ntmps I0) (fun b s k => match Nat.beq 0 b with | true => g_IndexFunc_Issue_i_HitBy_1_L0_le.run s k | false => none) 0 (nthLoop (bodyOf Try.f111) 0 0) :=
  le_sem hmo (lorc := lorcOf []) (ann := g_IndexFunc_Issue_i_HitBy_1_ann) (keep := ⟨[0, 1, 7, 8], [.softo 0 4, .softo 0 8], false, 1⟩) (kout := ⟨[4], [], false, 1⟩) teFact mixFact (orcOf_ok _) (by kernel_rfl) (allLoops_of (bs := []) (by kernel_rfl) trivial) g_IndexFunc_Issue_i_HitBy_1_L0_r _ g_IndexFunc_Issue_i_HitBy_1_L0_lk
def g_IndexFunc_Issue_i_HitBy_1_L0_f (v0 : List Issu) (v1 : Int) (v3 : Int) (v4 : Bool) (v5 : Int) (v6 : Int) (v7 : List MacRow) (v8 : Bool) (v9 : Int) (v10 : Int) (v11 : List MacRow) (v12 : Bool) (v2 : Int) (a : Unit) : Stp (Unit) ((Int)) :=
  letK (α := Bool) (i_HitBy_1 (v0.getD v2.toNat (Ty.zero .issu)) (⟨v3, ⟨v4, v5, v6, v7⟩, ⟨v8, v9, v10, v11⟩, v12⟩ : Keys)) fun c2 =>
  bif c2 then
    .out (v2)
  else
  .next ()
theorem g_IndexFunc_Issue_i_HitBy_1_L0_st (v0 : List Issu) (v1 : Int) (v2 : Int) (v3 : Int) (v4 : Bool) (v5 : Int) (v6 : Int) (v7 : List MacRow) (v8 : Bool) (v9 : Int) (v10 : Int) (v11 : List MacRow) (v12 : Bool) (hlo : 0 ≤ v2) (hhi : v2 < v1) (hN : v1 ≤ 4611686018427387904) (hi0 : v1 ≤ (v0.length : Int)) (hi1 : (⟨v3, ⟨v4, v5, v6, v7⟩, ⟨v8, v9, v10, v11⟩, v12⟩ : Keys).now.rows.length ≤ 4294967296) (hi2 : (⟨v3, ⟨v4, v5, v6, v7⟩, ⟨v8, v9, v10, v11⟩, v12⟩ : Keys).before.rows.length ≤ 4294967296) : g_IndexFunc_Issue_i_HitBy_1_L0_r.step (g_IndexFunc_Issue_i_HitBy_1_L0_mk v0 v1 v2 v3 v4 v5 v6 v7 v8 v9 v10 v11 v12) = Stp.elim (fun a' : Unit => some (Sum.inl (g_IndexFunc_Issue_i_HitBy_1_L0_mk v0 v1 (v2 + 1) v3 v4 v5 v6 v7 v8 v9 v10 v11 v12))) (fun w => some (Sum.inr ((fun p : Int => Sum.inl (g_IndexFunc_Issue_i_HitBy_1_L0_mx0 p v3 v4 v5 v6 v7 v8 v9 v10 v11 v12)) w))) (g_IndexFunc_Issue_i_HitBy_1_L0_f v0 v1 v3 v4 v5 v6 v7 v8 v9 v10 v11 v12 v2 ()) := by
  have hw : (IntKind.wrap .i64 (v2 + 1)) = v2 + 1 := wrap64 (by omega) (by omega)
  show g_IndexFunc_Issue_i_HitBy_1_L0_B v0 v1 v2 v3 v4 v5 v6 v7 v8 v9 v10 v11 v12 (Option (g_IndexFunc_Issue_i_HitBy_1_L0_sh.T ⊕ WT g_IndexFunc_Issue_i_HitBy_1_L0_es)) none (fun v' => some (Sum.inl v')) (fun w => some (Sum.inr w)) = _
  unfold g_IndexFunc_Issue_i_HitBy_1_L0_B g_IndexFunc_Issue_i_HitBy_1_L0_f
  exact bifG (by simp only [decide_eq_true_eq]; omega) (bifG (by (try simp only [Nat.ble_eq, Bool.and_eq_true, decide_eq_true_eq]); grind [maxSl, maxStr, toBytes_length, toInts_length, List.length_set, wrap64]) (bifG (by (try simp only [Nat.ble_eq, Bool.and_eq_true, decide_eq_true_eq]); grind [maxSl, maxStr, toBytes_length, toInts_length, List.length_set, wrap64]) (letT (f := (Stp.elim (fun a' : Unit => some (Sum.inl (g_IndexFunc_Issue_i_HitBy_1_L0_mk v0 v1 (v2 + 1) v3 v4 v5 v6 v7 v8 v9 v10 v11 v12))) (fun w => some (Sum.inr ((fun p : Int => Sum.inl (g_IndexFunc_Issue_i_HitBy_1_L0_mx0 p v3 v4 v5 v6 v7 v8 v9 v10 v11 v12)) w))))) (fun c2 hc2 => bifT (f := (Stp.elim (fun a' : Unit => some (Sum.inl (g_IndexFunc_Issue_i_HitBy_1_L0_mk v0 v1 (v2 + 1) v3 v4 v5 v6 v7 v8 v9 v10 v11 v12))) (fun w => some (Sum.inr ((fun p : Int => Sum.inl (g_IndexFunc_Issue_i_HitBy_1_L0_mx0 p v3 v4 v5 v6 v7 v8 v9 v10 v11 v12)) w))))) (fun b0 => rfl)
      (fun b0 => (by exact congrArg (fun z => some (Sum.inl (g_IndexFunc_Issue_i_HitBy_1_L0_mk v0 v1 z v3 v4 v5 v6 v7 v8 v9 v10 v11 v12))) hw))))))
theorem g_IndexFunc_Issue_i_HitBy_1_L0_cl (v0 : List Issu) (v1 : Int) (v2 : Int) (v3 : Int) (v4 : Bool) (v5 : Int) (v6 : Int) (v7 : List MacRow) (v8 : Bool) (v9 : Int) (v10 : Int) (v11 : List MacRow) (v12 : Bool) (h0 : 0 ≤ v2) (h1 : v1 ≤ 4611686018427387904) (h2 : v1 ≤ (v0.length : Int)) (h3 : (⟨v3, ⟨v4, v5, v6, v7⟩, ⟨v8, v9, v10, v11⟩, v12⟩ : Keys).now.rows.length ≤ 4294967296) (h4 : (⟨v3, ⟨v4, v5, v6, v7⟩, ⟨v8, v9, v10, v11⟩, v12⟩ : Keys).before.rows.length ≤ 4294967296) : loopF g_IndexFunc_Issue_i_HitBy_1_L0_r.step (g_IndexFunc_Issue_i_HitBy_1_L0_fu v0 v1 v2 v3 v4 v5 v6 v7 v8 v9 v10 v11 v12) (g_IndexFunc_Issue_i_HitBy_1_L0_mk v0 v1 v2 v3 v4 v5 v6 v7 v8 v9 v10 v11 v12) = some (Stp.elim (fun a => (fun i a => Sum.inr (g_IndexFunc_Issue_i_HitBy_1_L0_mx1 v3 v4 v5 v6 v7 v8 v9 v10 v11 v12)) (v2 + 1 * (((Int.toNat (v1 - v2)) : Nat) : Int)) a) (fun p : Int => Sum.inl (g_IndexFunc_Issue_i_HitBy_1_L0_mx0 p v3 v4 v5 v6 v7 v8 v9 v10 v11 v12)) (forN (g_IndexFunc_Issue_i_HitBy_1_L0_f v0 v1 v3 v4 v5 v6 v7 v8 v9 v10 v11 v12) 1 (Int.toNat (v1 - v2)) v2 ())) :=
  forN_loop (step := g_IndexFunc_Issue_i_HitBy_1_L0_r.step) (mk := fun v2 a => g_IndexFunc_Issue_i_HitBy_1_L0_mk v0 v1 v2 v3 v4 v5 v6 v7 v8 v9 v10 v11 v12) (f := g_IndexFunc_Issue_i_HitBy_1_L0_f v0 v1 v3 v4 v5 v6 v7 v8 v9 v10 v11 v12) (e := (fun i a => Sum.inr (g_IndexFunc_Issue_i_HitBy_1_L0_mx1 v3 v4 v5 v6 v7 v8 v9 v10 v11 v12))) (emb := (fun p : Int => Sum.inl (g_IndexFunc_Issue_i_HitBy_1_L0_mx0 p v3 v4 v5 v6 v7 v8 v9 v10 v11 v12))) (st := 1) (Inv := fun v2 a => True) (Int.toNat (v1 - v2)) v2 () _ (Nat.lt_succ_self _) trivial
    (fun j a hj hv => ⟨g_IndexFunc_Issue_i_HitBy_1_L0_st v0 v1 (v2 + 1 * (j : Int)) v3 v4 v5 v6 v7 v8 v9 v10 v11 v12 (by omega) (by omega) (by omega) h2 h3 h4, fun _ _ => trivial⟩)
    (fun a hv => by
      show g_IndexFunc_Issue_i_HitBy_1_L0_B v0 v1 (v2 + 1 * (((Int.toNat (v1 - v2)) : Nat) : Int)) v3 v4 v5 v6 v7 v8 v9 v10 v11 v12 (Option (g_IndexFunc_Issue_i_HitBy_1_L0_sh.T ⊕ WT g_IndexFunc_Issue_i_HitBy_1_L0_es)) none (fun v' => some (Sum.inl v')) (fun w => some (Sum.inr w)) = _
      unfold g_IndexFunc_Issue_i_HitBy_1_L0_B
      exact bifN (by simp only [decide_eq_false_iff_not]; omega) rfl)
def g_IndexFunc_Issue_i_HitBy_1_N (x0 : List Issu) (y1_0 : Keys) (γ : Type) (fail : γ) (k : Int × Keys → γ) : γ :=
  optK (loopF g_IndexFunc_Issue_i_HitBy_1_L0_r.step (g_IndexFunc_Issue_i_HitBy_1_L0_fu x0 (x0.length : Int) 0 y1_0.epoch y1_0.now.use y1_0.now.k y1_0.now.l y1_0.now.rows y1_0.before.use y1_0.before.k y1_0.before.l y1_0.before.rows y1_0.two) (g_IndexFunc_Issue_i_HitBy_1_L0_mk x0 (x0.length : Int) 0 y1_0.epoch y1_0.now.use y1_0.now.k y1_0.now.l y1_0.now.rows y1_0.before.use y1_0.before.k y1_0.before.l y1_0.before.rows y1_0.two)) fail fun w3 =>
    Sum.elim (fun w3 =>
      k (w3.1.1.1, (⟨w3.2.1.1, ⟨w3.2.1.2.1, w3.2.1.2.2.1, w3.2.1.2.2.2.1, w3.2.1.2.2.2.2.1⟩, ⟨w3.2.1.2.2.2.2.2.1, w3.2.1.2.2.2.2.2.2.1, w3.2.1.2.2.2.2.2.2.2.1, w3.2.1.2.2.2.2.2.2.2.2.1⟩, w3.2.1.2.2.2.2.2.2.2.2.2.1⟩ : Keys)))
    (fun w3 =>
      k ((-1), (⟨w3.2.1.1, ⟨w3.2.1.2.1, w3.2.1.2.2.1, w3.2.1.2.2.2.1, w3.2.1.2.2.2.2.1⟩, ⟨w3.2.1.2.2.2.2.2.1, w3.2.1.2.2.2.2.2.2.1, w3.2.1.2.2.2.2.2.2.2.1, w3.2.1.2.2.2.2.2.2.2.2.1⟩, w3.2.1.2.2.2.2.2.2.2.2.2.1⟩ : Keys))) w3
def g_IndexFunc_Issue_i_HitBy_1 (x0 : List Issu) (y1_0 : Keys) : Int × Keys :=
  Stp.elim (fun a4 =>
    ((-1), y1_0))
    (fun p4 =>
      (p4, y1_0))
    (forN (g_IndexFunc_Issue_i_HitBy_1_L0_f x0 (x0.length : Int) y1_0.epoch y1_0.now.use y1_0.now.k y1_0.now.l y1_0.now.rows y1_0.before.use y1_0.before.k y1_0.before.l y1_0.before.rows y1_0.two) 1 (Int.toNat ((x0.length : Int) - 0)) 0 ())
theorem g_IndexFunc_Issue_i_HitBy_1_lk (x0 : List Issu) (y1_0 : Keys) : evalFnM te (orcOf (P := Try.prog) [i_HitBy_1_e]) (lorcOf [g_IndexFunc_Issue_i_HitBy_1_L0_le]) g_IndexFunc_Issue_i_HitBy_1_ann Try.f111 (pvs [.sc (.sl .issu), .fn 66 [0]] (x0, (), ())) (mos [.box [.c (.int .i64), .c .bool, .c (.int .u64), .c (.int .u64), .c (.sl .macRow), .c .bool, .c (.int .u64), .c (.int .u64), .c (.sl .macRow), .c .bool]] ((y1_0.epoch, y1_0.now.use, y1_0.now.k, y1_0.now.l, y1_0.now.rows, y1_0.before.use, y1_0.before.k, y1_0.before.l, y1_0.before.rows, y1_0.two, ()), ())) =
  g_IndexFunc_Issue_i_HitBy_1_N x0 y1_0 _ none (fun v => some ([(false, [RC.c (.int .i64 v.1)])] ++ (mos [.box [.c (.int .i64), .c .bool, .c (.int .u64), .c (.int .u64), .c (.sl .macRow), .c .bool, .c (.int .u64), .c (.int .u64), .c (.sl .macRow), .c .bool]] ((v.2.epoch, v.2.now.use, v.2.now.k, v.2.now.l, v.2.now.rows, v.2.before.use, v.2.before.k, v.2.before.l, v.2.before.rows, v.2.two, ()), ())).map encO)) := by kernel_rfl
theorem g_IndexFunc_Issue_i_HitBy_1_p (x0 : List Issu) (y1_0 : Keys) (hx0 : x0.length ≤ 140737488355328) (hy1_0_epoch : inK .i64 y1_0.epoch) (hy1_0_now_k : inK .u64 y1_0.now.k) (hy1_0_now_l : inK .u64 y1_0.now.l) (hy1_0_now_rows : y1_0.now.rows.length ≤ 140737488355328) (hy1_0_now_rows_e : ∀ y ∈ y1_0.now.rows, ∀ c ∈ Ty.cells .macRow y, FactC c) (hy1_0_before_k : inK .u64 y1_0.before.k) (hy1_0_before_l : inK .u64 y1_0.before.l) (hy1_0_before_rows : y1_0.before.rows.length ≤ 140737488355328) (hy1_0_before_rows_e : ∀ y ∈ y1_0.before.rows, ∀ c ∈ Ty.cells .macRow y, FactC c) (hp : x0.length ≤ 4294967296 ∧ y1_0.now.rows.length ≤ 4294967296 ∧ y1_0.before.rows.length ≤ 4294967296) (γ : Type) (fail : γ) (k : Int × Keys → γ) : g_IndexFunc_Issue_i_HitBy_1_N x0 y1_0 γ fail k = k (g_IndexFunc_Issue_i_HitBy_1 x0 y1_0) := by
  unfold g_IndexFunc_Issue_i_HitBy_1_N g_IndexFunc_Issue_i_HitBy_1
  exact loopT (f := k) (g_IndexFunc_Issue_i_HitBy_1_L0_cl x0 (x0.length : Int) 0 y1_0.epoch y1_0.now.use y1_0.now.k y1_0.now.l y1_0.now.rows y1_0.before.use y1_0.before.k y1_0.before.l y1_0.before.rows y1_0.two (by (try simp only [Nat.ble_eq, Bool.and_eq_true, decide_eq_true_eq, g_IndexFunc_Issue_i_HitBy_1_L0_mx0, g_IndexFunc_Issue_i_HitBy_1_L0_mx1]); grind [maxSl, maxStr, toBytes_length, toInts_length, List.length_set, wrap64]) (by (try simp only [Nat.ble_eq, Bool.and_eq_true, decide_eq_true_eq, g_IndexFunc_Issue_i_HitBy_1_L0_mx0, g_IndexFunc_Issue_i_HitBy_1_L0_mx1]); grind [maxSl, maxStr, toBytes_length, toInts_length, List.length_set, wrap64]) (by (try simp only [Nat.ble_eq, Bool.and_eq_true, decide_eq_true_eq, g_IndexFunc_Issue_i_HitBy_1_L0_mx0, g_IndexFunc_Issue_i_HitBy_1_L0_mx1]); grind [maxSl, maxStr, toBytes_length, toInts_length, List.length_set, wrap64]) (by (try simp only [Nat.ble_eq, Bool.and_eq_true, decide_eq_true_eq, g_IndexFunc_Issue_i_HitBy_1_L0_mx0, g_IndexFunc_Issue_i_HitBy_1_L0_mx1]); grind [maxSl, maxStr, toBytes_length, toInts_length, List.length_set, wrap64]) (by (try simp only [Nat.ble_eq, Bool.and_eq_true, decide_eq_true_eq, g_IndexFunc_Issue_i_HitBy_1_L0_mx0, g_IndexFunc_Issue_i_HitBy_1_L0_mx1]); grind [maxSl, maxStr, toBytes_length, toInts_length, List.length_set, wrap64])) (fun a4 => rfl)
      (fun p4 => rfl)
theorem g_IndexFunc_Issue_i_HitBy_1_c (x0 : List Issu) (y1_0 : Keys) (hp : x0.length ≤ 4294967296 ∧ y1_0.now.rows.length ≤ 4294967296 ∧ y1_0.before.rows.length ≤ 4294967296) : ConM Try.prog 111 (pvs [.sc (.sl .issu), .fn 66 [0]] (x0, (), ())) (mos [.box [.c (.int .i64), .c .bool, .c (.int .u64), .c (.int .u64), .c (.sl .macRow), .c .bool, .c (.int .u64), .c (.int .u64), .c (.sl .macRow), .c .bool]] ((y1_0.epoch, y1_0.now.use, y1_0.now.k, y1_0.now.l, y1_0.now.rows, y1_0.before.use, y1_0.before.k, y1_0.before.l, y1_0.before.rows, y1_0.two, ()), ())) [rv (.sc (.int .i64)) [] (g_IndexFunc_Issue_i_HitBy_1 x0 y1_0).1] (mos [.box [.c (.int .i64), .c .bool, .c (.int .u64), .c (.int .u64), .c (.sl .macRow), .c .bool, .c (.int .u64), .c (.int .u64), .c (.sl .macRow), .c .bool]] ((((g_IndexFunc_Issue_i_HitBy_1 x0 y1_0).2).epoch, ((g_IndexFunc_Issue_i_HitBy_1 x0 y1_0).2).now.use, ((g_IndexFunc_Issue_i_HitBy_1 x0 y1_0).2).now.k, ((g_IndexFunc_Issue_i_HitBy_1 x0 y1_0).2).now.l, ((g_IndexFunc_Issue_i_HitBy_1 x0 y1_0).2).now.rows, ((g_IndexFunc_Issue_i_HitBy_1 x0 y1_0).2).before.use, ((g_IndexFunc_Issue_i_HitBy_1 x0 y1_0).2).before.k, ((g_IndexFunc_Issue_i_HitBy_1 x0 y1_0).2).before.l, ((g_IndexFunc_Issue_i_HitBy_1 x0 y1_0).2).before.rows, ((g_IndexFunc_Issue_i_HitBy_1 x0 y1_0).2).two, ()), ())) := by
  refine ConM.of_facts (enters_of Try.func111 rfl (by kernel_rfl)) fun hf hg => ?_
  replace hf := factAt hf
  exact evalFn_conLM teFact mixFact (orcOf_ok _) Try.func111 (by kernel_rfl) (bs := [0]) (by kernel_rfl) (by kernel_rfl) (by kernel_rfl) rfl (fun w0 mo I0 hmo => ⟨lsem_of_lorc (g_IndexFunc_Issue_i_HitBy_1_L0_ls w0 mo I0 hmo) (by kernel_rfl), trivial⟩) ((g_IndexFunc_Issue_i_HitBy_1_lk x0 y1_0).trans (g_IndexFunc_Issue_i_HitBy_1_p x0 y1_0 ((hf 0 0 rfl rfl).len) ((mbAt hg 0 0 rfl rfl).rng) ((mbAt hg 0 2 rfl rfl).rng) ((mbAt hg 0 3 rfl rfl).rng) ((mbAt hg 0 4 rfl rfl).len) (fun y hy => (mbAt hg 0 4 rfl rfl).elem hy) ((mbAt hg 0 6 rfl rfl).rng) ((mbAt hg 0 7 rfl rfl).rng) ((mbAt hg 0 8 rfl rfl).len) (fun y hy => (mbAt hg 0 8 rfl rfl).elem hy) hp _ _ _))
noncomputable def g_IndexFunc_Issue_i_HitBy_1_e : Ent1 Try.prog := entM 111 [.sc (.sl .issu), .fn 66 [0]] [.box [.c (.int .i64), .c .bool, .c (.int .u64), .c (.int .u64), .c (.sl .macRow), .c .bool, .c (.int .u64), .c (.int .u64), .c (.sl .macRow), .c .bool]] (fun x y => (decide (x.1.length ≤ 4294967296 ∧ (⟨y.1.1, ⟨y.1.2.1, y.1.2.2.1, y.1.2.2.2.1, y.1.2.2.2.2.1⟩, ⟨y.1.2.2.2.2.2.1, y.1.2.2.2.2.2.2.1, y.1.2.2.2.2.2.2.2.1, y.1.2.2.2.2.2.2.2.2.1⟩, y.1.2.2.2.2.2.2.2.2.2.1⟩ : Keys).now.rows.length ≤ 4294967296 ∧ (⟨y.1.1, ⟨y.1.2.1, y.1.2.2.1, y.1.2.2.2.1, y.1.2.2.2.2.1⟩, ⟨y.1.2.2.2.2.2.1, y.1.2.2.2.2.2.2.1, y.1.2.2.2.2.2.2.2.1, y.1.2.2.2.2.2.2.2.2.1⟩, y.1.2.2.2.2.2.2.2.2.2.1⟩ : Keys).before.rows.length ≤ 4294967296))) (fun x y => (g_IndexFunc_Issue_i_HitBy_1 x.1 (⟨y.1.1, ⟨y.1.2.1, y.1.2.2.1, y.1.2.2.2.1, y.1.2.2.2.2.1⟩, ⟨y.1.2.2.2.2.2.1, y.1.2.2.2.2.2.2.1, y.1.2.2.2.2.2.2.2.1, y.1.2.2.2.2.2.2.2.2.1⟩, y.1.2.2.2.2.2.2.2.2.2.1⟩ : Keys))) (fun v => [rv (.sc (.int .i64)) [] v.1]) (fun x y v => (mos [.box [.c (.int .i64), .c .bool, .c (.int .u64), .c (.int .u64), .c (.sl .macRow), .c .bool, .c (.int .u64), .c (.int .u64), .c (.sl .macRow), .c .bool]] ((v.2.epoch, v.2.now.use, v.2.now.k, v.2.now.l, v.2.now.rows, v.2.before.use, v.2.before.k, v.2.before.l, v.2.before.rows, v.2.two, ()), ()))) (fun x y hx => g_IndexFunc_Issue_i_HitBy_1_c x.1 (⟨y.1.1, ⟨y.1.2.1, y.1.2.2.1, y.1.2.2.2.1, y.1.2.2.2.2.1⟩, ⟨y.1.2.2.2.2.2.1, y.1.2.2.2.2.2.2.1, y.1.2.2.2.2.2.2.2.1, y.1.2.2.2.2.2.2.2.2.1⟩, y.1.2.2.2.2.2.2.2.2.2.1⟩ : Keys) (of_decide_eq_true hx))


/-- spec.l2Deep -/
def s_l2Deep_ann : List (Nat × Keep) := [(0, ⟨[0, 3, 4], [], false, 1⟩)]
def s_l2Deep_L0_sh : Sh := ⟨[(0, false, [.ptr 0 0]), (3, false, [.int .i64]), (4, false, [.int .i64])], [.box [.sl .any .u8, .int .i64, .int .i64]]⟩
def s_l2Deep_L0_es : List (Ex × Sh) := [(.exit 0, ⟨[(2, false, [.undef]), (3, false, [.int .i64])], [.box [.sl .any .u8, .int .i64, .int .i64]]⟩)]
def s_l2Deep_L0_mk (v0 : Int) (v1 : Int) (v2 : List Int) (v3 : Int) (v4 : Int) : s_l2Deep_L0_sh.T := ((((), ()), ((v0, ()), ((v1, ()), ()))), ((v2, (v3, (v4, ()))), ()))
def s_l2Deep_L0_mx0 (y0 : Int) (y1 : List Int) (y2 : Int) (y3 : Int) : Sh.T ⟨[(2, false, [.undef]), (3, false, [.int .i64])], [.box [.sl .any .u8, .int .i64, .int .i64]]⟩ := ((((), ()), ((y0, ()), ())), ((y1, (y2, (y3, ()))), ()))
def s_l2Deep_L0_B (v0 : Int) (v1 : Int) (v2 : List Int) (v3 : Int) (v4 : Int) (γ : Type) (fail : γ) (next : s_l2Deep_L0_sh.T → γ) (out : WT s_l2Deep_L0_es → γ) : γ :=
  bif (decide (v1 < 4)) then
    bif (decide (0 ≤ (⟨v2, v3, v4⟩ : Curs).i ∧ (⟨v2, v3, v4⟩ : Curs).b.length ≤ 1048576)) then
    letK (α := Int × Curs) (s_l1Byte (⟨v2, v3, v4⟩ : Curs)) fun c3 =>
    next (s_l2Deep_L0_mk (IntKind.wrap .i64 ((IntKind.wrap .i64 (256 * v0)) + c3.1)) (IntKind.wrap .i64 (v1 + 1)) c3.2.b c3.2.i c3.2.h)
    else fail
  else
  out (s_l2Deep_L0_mx0 v0 v2 v3 v4)
theorem s_l2Deep_L0_par (v0 : Int) (v1 : Int) (v2 : List Int) (v3 : Int) (v4 : Int) (γ : Type) (fail : γ) (next : s_l2Deep_L0_sh.T → γ) (out : WT s_l2Deep_L0_es → γ) : s_l2Deep_L0_B v0 v1 v2 v3 v4 γ fail next out = optK (s_l2Deep_L0_B v0 v1 v2 v3 v4 _ none (fun v' => some (.inl v')) (fun w => some (.inr w))) fail (fun r => Sum.elim next out r) := by
  unfold s_l2Deep_L0_B
  exact bifT (f := (fun o => optK o fail (fun r => Sum.elim next out r))) (fun _ => bifT (f := (fun o => optK o fail (fun r => Sum.elim next out r))) (fun _ => letT (f := (fun o => optK o fail (fun r => Sum.elim next out r))) (fun c3 _ => rfl)) (fun _ => rfl))
      (fun _ => rfl)
def s_l2Deep_L0_r : Round s_l2Deep_L0_sh.T (WT s_l2Deep_L0_es) where
  B v γ fail next out := s_l2Deep_L0_B v.1.2.1.1 v.1.2.2.1.1 v.2.1.1 v.2.1.2.1 v.2.1.2.2.1 γ fail next out
  par v γ fail next out := s_l2Deep_L0_par v.1.2.1.1 v.1.2.2.1.1 v.2.1.1 v.2.1.2.1 v.2.1.2.2.1 γ fail next out
def s_l2Deep_L0_fu (v0 : Int) (v1 : Int) (v2 : List Int) (v3 : Int) (v4 : Int) : Nat := (Int.toNat (4 - v1)) + 1
theorem s_l2Deep_L0_lk (v : s_l2Deep_L0_sh.T) (next : St → Option Res) (k : Ex → St → Option Res) : evalK te (orcOf (P := Try.prog) [s_l1Once_e, s_l1PickInt_e, s_l1Byte_e]) (lorcOf []) Try.f143.ntmps s_l2Deep_ann (nthLoop (bodyOf Try.f143) 0 0) 0 (s_l2Deep_L0_sh.enc v) (endK ⟨[0, 3, 4], [], false, 1⟩ ⟨[2, 3], [], false, 1⟩ next k) =
  s_l2Deep_L0_r.B v _ none (fun v' => next (s_l2Deep_L0_sh.enc v')) (fun w => outK s_l2Deep_L0_es k w) := by kernel_rfl
def s_l2Deep_L0_le : LE := leOf 0 s_l2Deep_L0_sh s_l2Deep_L0_es s_l2Deep_L0_r.step (fun v => s_l2Deep_L0_fu v.1.2.1.1 v.1.2.2.1.1 v.2.1.1 v.2.1.2.1 v.2.1.2.2.1)
theorem s_l2Deep_L0_ls (w0 : World) (mo : Mts) (I0 : Nat → Prop) (hmo : mo.length = 1) : LSem Try.prog (Sim w0 mo Try.f143.ntmps I0) (fun b s k => match Nat.beq 0 b with | true => s_l2Deep_L0_le.run s k | false => none) 0 (nthLoop (bodyOf Try.f143) 0 0) :=
  le_sem hmo (lorc := lorcOf []) (ann := s_l2Deep_ann) (keep := ⟨[0, 3, 4], [], false, 1⟩) (kout := ⟨[2, 3], [], false, 1⟩) teFact mixFact (orcOf_ok _) (by kernel_rfl) (allLoops_of (bs := []) (by kernel_rfl) trivial) s_l2Deep_L0_r _ s_l2Deep_L0_lk
def s_l2Deep_L0_f  (v1 : Int) (a : Int × List Int × Int × Int) : Stp (Int × List Int × Int × Int) (Empty) :=
  letK (α := Int × Curs) (s_l1Byte (⟨a.2.1, a.2.2.1, a.2.2.2⟩ : Curs)) fun c3 =>
  .next ((IntKind.wrap .i64 ((IntKind.wrap .i64 (256 * a.1)) + c3.1)), c3.2.b, c3.2.i, c3.2.h)
theorem s_l2Deep_L0_st (v0 : Int) (v1 : Int) (v2 : List Int) (v3 : Int) (v4 : Int) (hlo : 0 ≤ v1) (hhi : v1 < 4) (hN : 4 ≤ 4611686018427387904) (hinv : 0 ≤ v3 ∧ v2.length ≤ 1048576) : s_l2Deep_L0_r.step (s_l2Deep_L0_mk v0 v1 v2 v3 v4) = Stp.elim (fun a' : Int × List Int × Int × Int => some (Sum.inl (s_l2Deep_L0_mk a'.1 (v1 + 1) a'.2.1 a'.2.2.1 a'.2.2.2))) (fun w => some (Sum.inr ((fun p : Empty => nomatch p) w))) (s_l2Deep_L0_f  v1 (v0, v2, v3, v4)) := by
  have hw : (IntKind.wrap .i64 (v1 + 1)) = v1 + 1 := wrap64 (by omega) (by omega)
  show s_l2Deep_L0_B v0 v1 v2 v3 v4 (Option (s_l2Deep_L0_sh.T ⊕ WT s_l2Deep_L0_es)) none (fun v' => some (Sum.inl v')) (fun w => some (Sum.inr w)) = _
  unfold s_l2Deep_L0_B s_l2Deep_L0_f
  exact bifG (by simp only [decide_eq_true_eq]; omega) (bifG (by (try simp only [Nat.ble_eq, Bool.and_eq_true, decide_eq_true_eq]); grind [maxSl, maxStr, toBytes_length, toInts_length, List.length_set, wrap64, s_l1Once_cur, s_l1PickInt_cur, s_l1Byte_rng, s_l1Byte_cur]) (letT (f := (Stp.elim (fun a' : Int × List Int × Int × Int => some (Sum.inl (s_l2Deep_L0_mk a'.1 (v1 + 1) a'.2.1 a'.2.2.1 a'.2.2.2))) (fun w => some (Sum.inr ((fun p : Empty => nomatch p) w))))) (fun (c3 : Int × Curs) hc3 => have rc3 := s_l1Byte_rng (⟨v2, v3, v4⟩ : Curs) (by first | assumption | exact ⟨by assumption, by assumption⟩ | grind [maxSl, wrap64, s_l2Deep_L0_mx0]); have kc3 : 0 ≤ c3.2.i ∧ c3.2.b.length ≤ 1048576 := (by rw [hc3]; exact s_l1Byte_cur _ (by first | assumption | exact ⟨by assumption, by assumption⟩ | grind [maxSl, wrap64, s_l2Deep_L0_mx0])); (by exact congrArg (fun z => some (Sum.inl (s_l2Deep_L0_mk (IntKind.wrap .i64 ((IntKind.wrap .i64 (256 * v0)) + c3.1)) z c3.2.b c3.2.i c3.2.h))) hw))))
theorem s_l2Deep_L0_cl (v0 : Int) (v1 : Int) (v2 : List Int) (v3 : Int) (v4 : Int) (h0 : 0 ≤ v1) (h1 : 4 ≤ 4611686018427387904) (h2 : 0 ≤ v3 ∧ v2.length ≤ 1048576) : loopF s_l2Deep_L0_r.step (s_l2Deep_L0_fu v0 v1 v2 v3 v4) (s_l2Deep_L0_mk v0 v1 v2 v3 v4) = some (Stp.elim (fun a => (fun i a => s_l2Deep_L0_mx0 a.1 a.2.1 a.2.2.1 a.2.2.2) (v1 + 1 * (((Int.toNat (4 - v1)) : Nat) : Int)) a) (fun p : Empty => nomatch p) (forN (s_l2Deep_L0_f ) 1 (Int.toNat (4 - v1)) v1 (v0, v2, v3, v4))) :=
  forN_loop (step := s_l2Deep_L0_r.step) (mk := fun v1 a => s_l2Deep_L0_mk a.1 v1 a.2.1 a.2.2.1 a.2.2.2) (f := s_l2Deep_L0_f ) (e := (fun i a => s_l2Deep_L0_mx0 a.1 a.2.1 a.2.2.1 a.2.2.2)) (emb := (fun p : Empty => nomatch p)) (st := 1) (Inv := fun v1 a => 0 ≤ a.2.2.1 ∧ a.2.1.length ≤ 1048576) (Int.toNat (4 - v1)) v1 (v0, v2, v3, v4) _ (Nat.lt_succ_self _) h2
    (fun j a hj hv => ⟨s_l2Deep_L0_st a.1 (v1 + 1 * (j : Int)) a.2.1 a.2.2.1 a.2.2.2 (by omega) (by omega) (by omega) hv, by
      intro a' he
      unfold s_l2Deep_L0_f at he
      simp only [letK] at he
      cases he
      exact s_l1Byte_cur _ hv⟩)
    (fun a hv => by
      show s_l2Deep_L0_B a.1 (v1 + 1 * (((Int.toNat (4 - v1)) : Nat) : Int)) a.2.1 a.2.2.1 a.2.2.2 (Option (s_l2Deep_L0_sh.T ⊕ WT s_l2Deep_L0_es)) none (fun v' => some (Sum.inl v')) (fun w => some (Sum.inr w)) = _
      unfold s_l2Deep_L0_B
      exact bifN (by simp only [decide_eq_false_iff_not]; omega) rfl)
theorem s_l2Deep_L0_nx (v0 : Int) (v1 : Int) (v2 : List Int) (v3 : Int) (v4 : Int) (h0 : 0 ≤ v1) (h1 : 4 ≤ 4611686018427387904) (h2 : 0 ≤ v3 ∧ v2.length ≤ 1048576) : ∀ a', forN (s_l2Deep_L0_f ) 1 (Int.toNat (4 - v1)) v1 (v0, v2, v3, v4) = .next a' → 0 ≤ a'.2.2.1 ∧ a'.2.1.length ≤ 1048576 :=
  forN_inv (f := s_l2Deep_L0_f ) (st := 1) (Inv := fun v1 a => 0 ≤ a.2.2.1 ∧ a.2.1.length ≤ 1048576) (Int.toNat (4 - v1)) v1 (v0, v2, v3, v4) h2
    (fun j a hj hv => by
      intro a' he
      unfold s_l2Deep_L0_f at he
      simp only [letK] at he
      cases he
      exact s_l1Byte_cur _ hv)
def s_l2Deep_N (y0 : Curs) (γ : Type) (fail : γ) (k : Int × Curs → γ) : γ :=
  bif (decide (0 ≤ y0.i ∧ y0.b.length ≤ 1048576)) then
  letK (α := Bool × Curs) (s_l1Once y0 3) fun c1 =>
  bif c1.1 then
    bif (decide ((0 ≤ c1.2.i ∧ c1.2.b.length ≤ 1048576) ∧ 0 < ([0, 1, 4294967295, 2147483647, 2147483648, 4294967294] : List Int).length)) then
    letK (α := Int × Curs) (s_l1PickInt c1.2 [0, 1, 4294967295, 2147483647, 2147483648, 4294967294]) fun c2 =>
    k (c2.1, c2.2)
    else fail
  else
  optK (loopF s_l2Deep_L0_r.step (s_l2Deep_L0_fu 0 0 c1.2.b c1.2.i c1.2.h) (s_l2Deep_L0_mk 0 0 c1.2.b c1.2.i c1.2.h)) fail fun w4 =>
    k (w4.1.2.1.1, (⟨w4.2.1.1, w4.2.1.2.1, w4.2.1.2.2.1⟩ : Curs))
  else fail
def s_l2Deep (y0 : Curs) : Int × Curs :=
  letK (α := Bool × Curs) (s_l1Once y0 3) fun c1 =>
  bif c1.1 then
    letK (α := Int × Curs) (s_l1PickInt c1.2 [0, 1, 4294967295, 2147483647, 2147483648, 4294967294]) fun c2 =>
    (c2.1, c2.2)
  else
  Stp.elim (fun a5 =>
    (a5.1, (⟨a5.2.1, a5.2.2.1, a5.2.2.2⟩ : Curs)))
    (fun p : Empty => nomatch p)
    (forN (s_l2Deep_L0_f) 1 (Int.toNat (4 - 0)) 0 (0, c1.2.b, c1.2.i, c1.2.h))
theorem s_l2Deep_lk (y0 : Curs) : evalFnM te (orcOf (P := Try.prog) [s_l1Once_e, s_l1PickInt_e, s_l1Byte_e]) (lorcOf [s_l2Deep_L0_le]) s_l2Deep_ann Try.f143 (pvs [.wr false [.ptr 0]] ((), ())) (mos [.box [.c (.sl .u8), .c (.int .i64), .c (.int .i64)]] ((y0.b, y0.i, y0.h, ()), ())) =
  s_l2Deep_N y0 _ none (fun v => some ([(false, [RC.c (.int .i64 v.1)])] ++ (mos [.box [.c (.sl .u8), .c (.int .i64), .c (.int .i64)]] ((v.2.b, v.2.i, v.2.h, ()), ())).map encO)) := by kernel_rfl
theorem s_l2Deep_p (y0 : Curs) (hy0_b : y0.b.length ≤ 140737488355328) (hy0_i : inK .i64 y0.i) (hy0_h : inK .i64 y0.h) (hp : 0 ≤ y0.i ∧ y0.b.length ≤ 1048576) (γ : Type) (fail : γ) (k : Int × Curs → γ) : s_l2Deep_N y0 γ fail k = k (s_l2Deep y0) := by
  unfold s_l2Deep_N s_l2Deep
  exact bifG (by (try simp only [Nat.ble_eq, Bool.and_eq_true, decide_eq_true_eq, s_l2Deep_L0_mx0]); grind [maxSl, maxStr, toBytes_length, toInts_length, List.length_set, wrap64, s_l1Once_cur, s_l1PickInt_cur, s_l1Byte_rng, s_l1Byte_cur]) (letT (f := k) (fun c1 hc1 => have kc1 : 0 ≤ c1.2.i ∧ c1.2.b.length ≤ 1048576 := (by rw [hc1]; exact s_l1Once_cur _ _ (by first | assumption | exact ⟨by assumption, by assumption⟩ | grind [maxSl, wrap64, s_l2Deep_L0_mx0])); bifT (f := k) (fun b0 => bifG (by (try simp only [Nat.ble_eq, Bool.and_eq_true, decide_eq_true_eq, s_l2Deep_L0_mx0]); grind [maxSl, maxStr, toBytes_length, toInts_length, List.length_set, wrap64, s_l1Once_cur, s_l1PickInt_cur, s_l1Byte_rng, s_l1Byte_cur]) (letT (f := k) (fun c2 hc2 => have kc2 : 0 ≤ c2.2.i ∧ c2.2.b.length ≤ 1048576 := (by rw [hc2]; exact s_l1PickInt_cur _ _ (by first | assumption | exact ⟨by assumption, by assumption⟩ | grind [maxSl, wrap64, s_l2Deep_L0_mx0]) (by first | assumption | exact ⟨by assumption, by assumption⟩ | grind [maxSl, wrap64, s_l2Deep_L0_mx0])); rfl)))
      (fun b0 => loopX (f := k) (s_l2Deep_L0_cl 0 0 c1.2.b c1.2.i c1.2.h (by (try simp only [Nat.ble_eq, Bool.and_eq_true, decide_eq_true_eq, s_l2Deep_L0_mx0]); grind [maxSl, maxStr, toBytes_length, toInts_length, List.length_set, wrap64, s_l1Once_cur, s_l1PickInt_cur, s_l1Byte_rng, s_l1Byte_cur]) (by (try simp only [Nat.ble_eq, Bool.and_eq_true, decide_eq_true_eq, s_l2Deep_L0_mx0]); grind [maxSl, maxStr, toBytes_length, toInts_length, List.length_set, wrap64, s_l1Once_cur, s_l1PickInt_cur, s_l1Byte_rng, s_l1Byte_cur]) (by (try simp only [Nat.ble_eq, Bool.and_eq_true, decide_eq_true_eq, s_l2Deep_L0_mx0]); grind [maxSl, maxStr, toBytes_length, toInts_length, List.length_set, wrap64, s_l1Once_cur, s_l1PickInt_cur, s_l1Byte_rng, s_l1Byte_cur])) (fun a5 ha5 => have ia5 := s_l2Deep_L0_nx 0 0 c1.2.b c1.2.i c1.2.h (by (try simp only [Nat.ble_eq, Bool.and_eq_true, decide_eq_true_eq, s_l2Deep_L0_mx0]); grind [maxSl, maxStr, toBytes_length, toInts_length, List.length_set, wrap64, s_l1Once_cur, s_l1PickInt_cur, s_l1Byte_rng, s_l1Byte_cur]) (by (try simp only [Nat.ble_eq, Bool.and_eq_true, decide_eq_true_eq, s_l2Deep_L0_mx0]); grind [maxSl, maxStr, toBytes_length, toInts_length, List.length_set, wrap64, s_l1Once_cur, s_l1PickInt_cur, s_l1Byte_rng, s_l1Byte_cur]) (by (try simp only [Nat.ble_eq, Bool.and_eq_true, decide_eq_true_eq, s_l2Deep_L0_mx0]); grind [maxSl, maxStr, toBytes_length, toInts_length, List.length_set, wrap64, s_l1Once_cur, s_l1PickInt_cur, s_l1Byte_rng, s_l1Byte_cur]) _ ha5; rfl)
      (fun p : Empty => nomatch p))))
theorem s_l2Deep_c (y0 : Curs) (hp : 0 ≤ y0.i ∧ y0.b.length ≤ 1048576) : ConM Try.prog 143 (pvs [.wr false [.ptr 0]] ((), ())) (mos [.box [.c (.sl .u8), .c (.int .i64), .c (.int .i64)]] ((y0.b, y0.i, y0.h, ()), ())) [rv (.sc (.int .i64)) [] (s_l2Deep y0).1] (mos [.box [.c (.sl .u8), .c (.int .i64), .c (.int .i64)]] ((((s_l2Deep y0).2).b, ((s_l2Deep y0).2).i, ((s_l2Deep y0).2).h, ()), ())) := by
  refine ConM.of_facts (enters_of Try.func143 rfl (by kernel_rfl)) fun hf hg => ?_
  replace hf := factAt hf
  exact evalFn_conLM teFact mixFact (orcOf_ok _) Try.func143 (by kernel_rfl) (bs := [0]) (by kernel_rfl) (by kernel_rfl) (by kernel_rfl) rfl (fun w0 mo I0 hmo => ⟨lsem_of_lorc (s_l2Deep_L0_ls w0 mo I0 hmo) (by kernel_rfl), trivial⟩) ((s_l2Deep_lk y0).trans (s_l2Deep_p y0 ((mbAt hg 0 0 rfl rfl).len) ((mbAt hg 0 1 rfl rfl).rng) ((mbAt hg 0 2 rfl rfl).rng) hp _ _ _))
noncomputable def s_l2Deep_e : Ent1 Try.prog := entM 143 [.wr false [.ptr 0]] [.box [.c (.sl .u8), .c (.int .i64), .c (.int .i64)]] (fun x y => (decide (0 ≤ (⟨y.1.1, y.1.2.1, y.1.2.2.1⟩ : Curs).i ∧ (⟨y.1.1, y.1.2.1, y.1.2.2.1⟩ : Curs).b.length ≤ 1048576))) (fun x y => (s_l2Deep (⟨y.1.1, y.1.2.1, y.1.2.2.1⟩ : Curs))) (fun v => [rv (.sc (.int .i64)) [] v.1]) (fun x y v => (mos [.box [.c (.sl .u8), .c (.int .i64), .c (.int .i64)]] ((v.2.b, v.2.i, v.2.h, ()), ()))) (fun x y hx => s_l2Deep_c (⟨y.1.1, y.1.2.1, y.1.2.2.1⟩ : Curs) (of_decide_eq_true hx))

theorem s_l2Deep_cur (y0 : Curs)  (hc0 : 0 ≤ y0.i ∧ y0.b.length ≤ 1048576) : 0 ≤ (s_l2Deep y0).2.i ∧ (s_l2Deep y0).2.b.length ≤ 1048576 := by
  unfold s_l2Deep
  exact letP (P := (fun v : Int × Curs => 0 ≤ v.2.i ∧ v.2.b.length ≤ 1048576)) (fun c1 hc1 => have kc1 : 0 ≤ c1.2.i ∧ c1.2.b.length ≤ 1048576 := (by rw [hc1]; exact s_l1Once_cur _ _ (by first | assumption | exact ⟨by assumption, by assumption⟩ | grind [maxSl, wrap64, s_l2Deep_L0_mx0])); bifP (P := (fun v : Int × Curs => 0 ≤ v.2.i ∧ v.2.b.length ≤ 1048576)) (fun b0 => letP (P := (fun v : Int × Curs => 0 ≤ v.2.i ∧ v.2.b.length ≤ 1048576)) (fun c2 hc2 => have kc2 : 0 ≤ c2.2.i ∧ c2.2.b.length ≤ 1048576 := (by rw [hc2]; exact s_l1PickInt_cur _ _ (by first | assumption | exact ⟨by assumption, by assumption⟩ | grind [maxSl, wrap64, s_l2Deep_L0_mx0]) (by first | assumption | exact ⟨by assumption, by assumption⟩ | grind [maxSl, wrap64, s_l2Deep_L0_mx0])); (by (try simp only [Nat.ble_eq, Bool.and_eq_true, decide_eq_true_eq, s_l2Deep_L0_mx0]); grind [maxSl, maxStr, toBytes_length, toInts_length, List.length_set, wrap64, s_l1Once_cur, s_l1PickInt_cur, s_l1Byte_rng, s_l1Byte_cur])))
      (fun b0 => loopP (P := (fun v : Int × Curs => 0 ≤ v.2.i ∧ v.2.b.length ≤ 1048576)) (fun a5 ha5 => have ia5 := s_l2Deep_L0_nx 0 0 c1.2.b c1.2.i c1.2.h (by (try simp only [Nat.ble_eq, Bool.and_eq_true, decide_eq_true_eq, s_l2Deep_L0_mx0]); grind [maxSl, maxStr, toBytes_length, toInts_length, List.length_set, wrap64, s_l1Once_cur, s_l1PickInt_cur, s_l1Byte_rng, s_l1Byte_cur]) (by (try simp only [Nat.ble_eq, Bool.and_eq_true, decide_eq_true_eq, s_l2Deep_L0_mx0]); grind [maxSl, maxStr, toBytes_length, toInts_length, List.length_set, wrap64, s_l1Once_cur, s_l1PickInt_cur, s_l1Byte_rng, s_l1Byte_cur]) (by (try simp only [Nat.ble_eq, Bool.and_eq_true, decide_eq_true_eq, s_l2Deep_L0_mx0]); grind [maxSl, maxStr, toBytes_length, toInts_length, List.length_set, wrap64, s_l1Once_cur, s_l1PickInt_cur, s_l1Byte_rng, s_l1Byte_cur]) _ ha5; (by (try simp only [Nat.ble_eq, Bool.and_eq_true, decide_eq_true_eq, s_l2Deep_L0_mx0]); grind [maxSl, maxStr, toBytes_length, toInts_length, List.length_set, wrap64, s_l1Once_cur, s_l1PickInt_cur, s_l1Byte_rng, s_l1Byte_cur]))
      (fun p _ => nomatch p)))

/-- spec.l6Ip -/
def s_l6Ip_N (y0 : Curs) (γ : Type) (fail : γ) (k : Int × Curs → γ) : γ :=
  bif (decide ((0 ≤ y0.i ∧ y0.b.length ≤ 1048576) ∧ 0 < ([167772161, 167772162, 167772163, 0, 4294967295] : List Int).length)) then
  letK (α := Int × Curs) (s_l1PickInt y0 [167772161, 167772162, 167772163, 0, 4294967295]) fun c1 =>
  k (c1.1, c1.2)
  else fail
def s_l6Ip (y0 : Curs) : Int × Curs :=
  letK (α := Int × Curs) (s_l1PickInt y0 [167772161, 167772162, 167772163, 0, 4294967295]) fun c1 =>
  (c1.1, c1.2)
theorem s_l6Ip_lk (y0 : Curs) : evalFnM te (orcOf (P := Try.prog) [s_l1PickInt_e]) lorc0 [] Try.f172 (pvs [.wr false [.ptr 0]] ((), ())) (mos [.box [.c (.sl .u8), .c (.int .i64), .c (.int .i64)]] ((y0.b, y0.i, y0.h, ()), ())) =
  s_l6Ip_N y0 _ none (fun v => some ([(false, [RC.c (.int .i64 v.1)])] ++ (mos [.box [.c (.sl .u8), .c (.int .i64), .c (.int .i64)]] ((v.2.b, v.2.i, v.2.h, ()), ())).map encO)) := by kernel_rfl
theorem s_l6Ip_p (y0 : Curs) (hy0_b : y0.b.length ≤ 140737488355328) (hy0_i : inK .i64 y0.i) (hy0_h : inK .i64 y0.h) (hp : 0 ≤ y0.i ∧ y0.b.length ≤ 1048576) (γ : Type) (fail : γ) (k : Int × Curs → γ) : s_l6Ip_N y0 γ fail k = k (s_l6Ip y0) := by
  unfold s_l6Ip_N s_l6Ip
  exact bifG (by (try simp only [Nat.ble_eq, Bool.and_eq_true, decide_eq_true_eq]); grind [maxSl, maxStr, toBytes_length, toInts_length, List.length_set, wrap64, s_l1PickInt_cur]) (letT (f := k) (fun c1 hc1 => have kc1 : 0 ≤ c1.2.i ∧ c1.2.b.length ≤ 1048576 := (by rw [hc1]; exact s_l1PickInt_cur _ _ (by first | assumption | exact ⟨by assumption, by assumption⟩ | grind [maxSl, wrap64]) (by first | assumption | exact ⟨by assumption, by assumption⟩ | grind [maxSl, wrap64])); rfl))
theorem s_l6Ip_c (y0 : Curs) (hp : 0 ≤ y0.i ∧ y0.b.length ≤ 1048576) : ConM Try.prog 172 (pvs [.wr false [.ptr 0]] ((), ())) (mos [.box [.c (.sl .u8), .c (.int .i64), .c (.int .i64)]] ((y0.b, y0.i, y0.h, ()), ())) [rv (.sc (.int .i64)) [] (s_l6Ip y0).1] (mos [.box [.c (.sl .u8), .c (.int .i64), .c (.int .i64)]] ((((s_l6Ip y0).2).b, ((s_l6Ip y0).2).i, ((s_l6Ip y0).2).h, ()), ())) := by
  refine ConM.of_facts (enters_of Try.func172 rfl (by kernel_rfl)) fun hf hg => ?_
  replace hf := factAt hf
  exact evalFn_conLM teFact mixFact (orcOf_ok _) Try.func172 (by kernel_rfl) (bs := []) (by kernel_rfl) (by kernel_rfl) (by kernel_rfl) rfl (fun w0 mo I0 hmo => trivial) ((s_l6Ip_lk y0).trans (s_l6Ip_p y0 ((mbAt hg 0 0 rfl rfl).len) ((mbAt hg 0 1 rfl rfl).rng) ((mbAt hg 0 2 rfl rfl).rng) hp _ _ _))
noncomputable def s_l6Ip_e : Ent1 Try.prog := entM 172 [.wr false [.ptr 0]] [.box [.c (.sl .u8), .c (.int .i64), .c (.int .i64)]] (fun x y => (decide (0 ≤ (⟨y.1.1, y.1.2.1, y.1.2.2.1⟩ : Curs).i ∧ (⟨y.1.1, y.1.2.1, y.1.2.2.1⟩ : Curs).b.length ≤ 1048576))) (fun x y => (s_l6Ip (⟨y.1.1, y.1.2.1, y.1.2.2.1⟩ : Curs))) (fun v => [rv (.sc (.int .i64)) [] v.1]) (fun x y v => (mos [.box [.c (.sl .u8), .c (.int .i64), .c (.int .i64)]] ((v.2.b, v.2.i, v.2.h, ()), ()))) (fun x y hx => s_l6Ip_c (⟨y.1.1, y.1.2.1, y.1.2.2.1⟩ : Curs) (of_decide_eq_true hx))

theorem s_l6Ip_cur (y0 : Curs)  (hc0 : 0 ≤ y0.i ∧ y0.b.length ≤ 1048576) : 0 ≤ (s_l6Ip y0).2.i ∧ (s_l6Ip y0).2.b.length ≤ 1048576 := by
  unfold s_l6Ip
  exact letP (P := (fun v : Int × Curs => 0 ≤ v.2.i ∧ v.2.b.length ≤ 1048576)) (fun c1 hc1 => have kc1 : 0 ≤ c1.2.i ∧ c1.2.b.length ≤ 1048576 := (by rw [hc1]; exact s_l1PickInt_cur _ _ (by first | assumption | exact ⟨by assumption, by assumption⟩ | grind [maxSl, wrap64]) (by first | assumption | exact ⟨by assumption, by assumption⟩ | grind [maxSl, wrap64])); (by (try simp only [Nat.ble_eq, Bool.and_eq_true, decide_eq_true_eq]); grind [maxSl, maxStr, toBytes_length, toInts_length, List.length_set, wrap64, s_l1PickInt_cur]))

/-- slices.ContainsFunc[[]impl.Issue,impl.Issue] -/
def g_ContainsFunc_Issue_i_HitBy_1_N (x0 : List Issu) (y1_0 : Keys) (γ : Type) (fail : γ) (k : Bool × Keys → γ) : γ :=
  bif (decide (x0.length ≤ 4294967296 ∧ y1_0.now.rows.length ≤ 4294967296 ∧ y1_0.before.rows.length ≤ 4294967296)) then
  letK (α := Int × Keys) (g_IndexFunc_Issue_i_HitBy_1 x0 y1_0) fun c1 =>
  k ((decide (0 ≤ c1.1)), c1.2)
  else fail
def g_ContainsFunc_Issue_i_HitBy_1 (x0 : List Issu) (y1_0 : Keys) : Bool × Keys :=
  letK (α := Int × Keys) (g_IndexFunc_Issue_i_HitBy_1 x0 y1_0) fun c1 =>
  ((decide (0 ≤ c1.1)), c1.2)
theorem g_ContainsFunc_Issue_i_HitBy_1_lk (x0 : List Issu) (y1_0 : Keys) : evalFnM te (orcOf (P := Try.prog) [g_IndexFunc_Issue_i_HitBy_1_e, i_HitBy_1_e]) lorc0 [] Try.f65 (pvs [.sc (.sl .issu), .fn 66 [0]] (x0, (), ())) (mos [.box [.c (.int .i64), .c .bool, .c (.int .u64), .c (.int .u64), .c (.sl .macRow), .c .bool, .c (.int .u64), .c (.int .u64), .c (.sl .macRow), .c .bool]] ((y1_0.epoch, y1_0.now.use, y1_0.now.k, y1_0.now.l, y1_0.now.rows, y1_0.before.use, y1_0.before.k, y1_0.before.l, y1_0.before.rows, y1_0.two, ()), ())) =
  g_ContainsFunc_Issue_i_HitBy_1_N x0 y1_0 _ none (fun v => some ([(false, [RC.c (.bool v.1)])] ++ (mos [.box [.c (.int .i64), .c .bool, .c (.int .u64), .c (.int .u64), .c (.sl .macRow), .c .bool, .c (.int .u64), .c (.int .u64), .c (.sl .macRow), .c .bool]] ((v.2.epoch, v.2.now.use, v.2.now.k, v.2.now.l, v.2.now.rows, v.2.before.use, v.2.before.k, v.2.before.l, v.2.before.rows, v.2.two, ()), ())).map encO)) := by kernel_rfl
theorem g_ContainsFunc_Issue_i_HitBy_1_p (x0 : List Issu) (y1_0 : Keys) (hx0 : x0.length ≤ 140737488355328) (hy1_0_epoch : inK .i64 y1_0.epoch) (hy1_0_now_k : inK .u64 y1_0.now.k) (hy1_0_now_l : inK .u64 y1_0.now.l) (hy1_0_now_rows : y1_0.now.rows.length ≤ 140737488355328) (hy1_0_now_rows_e : ∀ y ∈ y1_0.now.rows, ∀ c ∈ Ty.cells .macRow y, FactC c) (hy1_0_before_k : inK .u64 y1_0.before.k) (hy1_0_before_l : inK .u64 y1_0.before.l) (hy1_0_before_rows : y1_0.before.rows.length ≤ 140737488355328) (hy1_0_before_rows_e : ∀ y ∈ y1_0.before.rows, ∀ c ∈ Ty.cells .macRow y, FactC c) (hp : x0.length ≤ 4294967296 ∧ y1_0.now.rows.length ≤ 4294967296 ∧ y1_0.before.rows.length ≤ 4294967296) (γ : Type) (fail : γ) (k : Bool × Keys → γ) : g_ContainsFunc_Issue_i_HitBy_1_N x0 y1_0 γ fail k = k (g_ContainsFunc_Issue_i_HitBy_1 x0 y1_0) := by
  unfold g_ContainsFunc_Issue_i_HitBy_1_N g_ContainsFunc_Issue_i_HitBy_1
  exact bifG (by (try simp only [Nat.ble_eq, Bool.and_eq_true, decide_eq_true_eq]); grind [maxSl, maxStr, toBytes_length, toInts_length, List.length_set, wrap64]) (letT (f := k) (fun c1 hc1 => rfl))
theorem g_ContainsFunc_Issue_i_HitBy_1_c (x0 : List Issu) (y1_0 : Keys) (hp : x0.length ≤ 4294967296 ∧ y1_0.now.rows.length ≤ 4294967296 ∧ y1_0.before.rows.length ≤ 4294967296) : ConM Try.prog 65 (pvs [.sc (.sl .issu), .fn 66 [0]] (x0, (), ())) (mos [.box [.c (.int .i64), .c .bool, .c (.int .u64), .c (.int .u64), .c (.sl .macRow), .c .bool, .c (.int .u64), .c (.int .u64), .c (.sl .macRow), .c .bool]] ((y1_0.epoch, y1_0.now.use, y1_0.now.k, y1_0.now.l, y1_0.now.rows, y1_0.before.use, y1_0.before.k, y1_0.before.l, y1_0.before.rows, y1_0.two, ()), ())) [rv (.sc .bool) [] (g_ContainsFunc_Issue_i_HitBy_1 x0 y1_0).1] (mos [.box [.c (.int .i64), .c .bool, .c (.int .u64), .c (.int .u64), .c (.sl .macRow), .c .bool, .c (.int .u64), .c (.int .u64), .c (.sl .macRow), .c .bool]] ((((g_ContainsFunc_Issue_i_HitBy_1 x0 y1_0).2).epoch, ((g_ContainsFunc_Issue_i_HitBy_1 x0 y1_0).2).now.use, ((g_ContainsFunc_Issue_i_HitBy_1 x0 y1_0).2).now.k, ((g_ContainsFunc_Issue_i_HitBy_1 x0 y1_0).2).now.l, ((g_ContainsFunc_Issue_i_HitBy_1 x0 y1_0).2).now.rows, ((g_ContainsFunc_Issue_i_HitBy_1 x0 y1_0).2).before.use, ((g_ContainsFunc_Issue_i_HitBy_1 x0 y1_0).2).before.k, ((g_ContainsFunc_Issue_i_HitBy_1 x0 y1_0).2).before.l, ((g_ContainsFunc_Issue_i_HitBy_1 x0 y1_0).2).before.rows, ((g_ContainsFunc_Issue_i_HitBy_1 x0 y1_0).2).two, ()), ())) := by
  refine ConM.of_facts (enters_of Try.func65 rfl (by kernel_rfl)) fun hf hg => ?_
  replace hf := factAt hf
  exact evalFn_conLM teFact mixFact (orcOf_ok _) Try.func65 (by kernel_rfl) (bs := []) (by kernel_rfl) (by kernel_rfl) (by kernel_rfl) rfl (fun w0 mo I0 hmo => trivial) ((g_ContainsFunc_Issue_i_HitBy_1_lk x0 y1_0).trans (g_ContainsFunc_Issue_i_HitBy_1_p x0 y1_0 ((hf 0 0 rfl rfl).len) ((mbAt hg 0 0 rfl rfl).rng) ((mbAt hg 0 2 rfl rfl).rng) ((mbAt hg 0 3 rfl rfl).rng) ((mbAt hg 0 4 rfl rfl).len) (fun y hy => (mbAt hg 0 4 rfl rfl).elem hy) ((mbAt hg 0 6 rfl rfl).rng) ((mbAt hg 0 7 rfl rfl).rng) ((mbAt hg 0 8 rfl rfl).len) (fun y hy => (mbAt hg 0 8 rfl rfl).elem hy) hp _ _ _))
noncomputable def g_ContainsFunc_Issue_i_HitBy_1_e : Ent1 Try.prog := entM 65 [.sc (.sl .issu), .fn 66 [0]] [.box [.c (.int .i64), .c .bool, .c (.int .u64), .c (.int .u64), .c (.sl .macRow), .c .bool, .c (.int .u64), .c (.int .u64), .c (.sl .macRow), .c .bool]] (fun x y => (decide (x.1.length ≤ 4294967296 ∧ (⟨y.1.1, ⟨y.1.2.1, y.1.2.2.1, y.1.2.2.2.1, y.1.2.2.2.2.1⟩, ⟨y.1.2.2.2.2.2.1, y.1.2.2.2.2.2.2.1, y.1.2.2.2.2.2.2.2.1, y.1.2.2.2.2.2.2.2.2.1⟩, y.1.2.2.2.2.2.2.2.2.2.1⟩ : Keys).now.rows.length ≤ 4294967296 ∧ (⟨y.1.1, ⟨y.1.2.1, y.1.2.2.1, y.1.2.2.2.1, y.1.2.2.2.2.1⟩, ⟨y.1.2.2.2.2.2.1, y.1.2.2.2.2.2.2.1, y.1.2.2.2.2.2.2.2.1, y.1.2.2.2.2.2.2.2.2.1⟩, y.1.2.2.2.2.2.2.2.2.2.1⟩ : Keys).before.rows.length ≤ 4294967296))) (fun x y => (g_ContainsFunc_Issue_i_HitBy_1 x.1 (⟨y.1.1, ⟨y.1.2.1, y.1.2.2.1, y.1.2.2.2.1, y.1.2.2.2.2.1⟩, ⟨y.1.2.2.2.2.2.1, y.1.2.2.2.2.2.2.1, y.1.2.2.2.2.2.2.2.1, y.1.2.2.2.2.2.2.2.2.1⟩, y.1.2.2.2.2.2.2.2.2.2.1⟩ : Keys))) (fun v => [rv (.sc .bool) [] v.1]) (fun x y v => (mos [.box [.c (.int .i64), .c .bool, .c (.int .u64), .c (.int .u64), .c (.sl .macRow), .c .bool, .c (.int .u64), .c (.int .u64), .c (.sl .macRow), .c .bool]] ((v.2.epoch, v.2.now.use, v.2.now.k, v.2.now.l, v.2.now.rows, v.2.before.use, v.2.before.k, v.2.before.l, v.2.before.rows, v.2.two, ()), ()))) (fun x y hx => g_ContainsFunc_Issue_i_HitBy_1_c x.1 (⟨y.1.1, ⟨y.1.2.1, y.1.2.2.1, y.1.2.2.2.1, y.1.2.2.2.2.1⟩, ⟨y.1.2.2.2.2.2.1, y.1.2.2.2.2.2.2.1, y.1.2.2.2.2.2.2.2.1, y.1.2.2.2.2.2.2.2.2.1⟩, y.1.2.2.2.2.2.2.2.2.2.1⟩ : Keys) (of_decide_eq_true hx))


/-- impl.HitBy -/
def i_HitBy_N (x0 : Keys) (x1 : List Issu) (γ : Type) (fail : γ) (k : Bool → γ) : γ :=
  bif (decide (x1.length ≤ 4294967296 ∧ x0.now.rows.length ≤ 4294967296 ∧ x0.before.rows.length ≤ 4294967296)) then
  letK (α := Bool × Keys) (g_ContainsFunc_Issue_i_HitBy_1 x1 x0) fun c1 =>
  k c1.1
  else fail
def i_HitBy (x0 : Keys) (x1 : List Issu) : Bool :=
  letK (α := Bool × Keys) (g_ContainsFunc_Issue_i_HitBy_1 x1 x0) fun c1 =>
  c1.1
theorem i_HitBy_lk (x0 : Keys) (x1 : List Issu) : evalFn te (orcOf (P := Try.prog) [g_ContainsFunc_Issue_i_HitBy_1_e, i_HitBy_1_e]) lorc0 [] Try.f20 (pvs [.st .keys, .sc (.sl .issu)] (x0, x1, ())) =
  i_HitBy_N x0 x1 _ none (fun v => some [(false, [RC.c (.bool v)])]) := by kernel_rfl
theorem i_HitBy_p (x0 : Keys) (x1 : List Issu) (hx0_epoch : inK .i64 x0.epoch) (hx0_now_k : inK .u64 x0.now.k) (hx0_now_l : inK .u64 x0.now.l) (hx0_now_rows : x0.now.rows.length ≤ 140737488355328) (hx0_now_rows_e : ∀ y ∈ x0.now.rows, ∀ c ∈ Ty.cells .macRow y, FactC c) (hx0_before_k : inK .u64 x0.before.k) (hx0_before_l : inK .u64 x0.before.l) (hx0_before_rows : x0.before.rows.length ≤ 140737488355328) (hx0_before_rows_e : ∀ y ∈ x0.before.rows, ∀ c ∈ Ty.cells .macRow y, FactC c) (hx1 : x1.length ≤ 140737488355328) (hp : x0.now.rows.length ≤ 4294967296 ∧ x0.before.rows.length ≤ 4294967296 ∧ x1.length ≤ 4294967296) (γ : Type) (fail : γ) (k : Bool → γ) : i_HitBy_N x0 x1 γ fail k = k (i_HitBy x0 x1) := by
  unfold i_HitBy_N i_HitBy
  exact bifG (by (try simp only [Nat.ble_eq, Bool.and_eq_true, decide_eq_true_eq]); grind [maxSl, maxStr, toBytes_length, toInts_length, List.length_set, wrap64]) (letT (f := k) (fun c1 hc1 => rfl))
theorem i_HitBy_c (x0 : Keys) (x1 : List Issu) (hp : x0.now.rows.length ≤ 4294967296 ∧ x0.before.rows.length ≤ 4294967296 ∧ x1.length ≤ 4294967296) : Con Try.prog 20 (pvs [.st .keys, .sc (.sl .issu)] (x0, x1, ())) [rv (.sc .bool) [] (i_HitBy x0 x1)] := by
  refine Con.of_facts (enters_of Try.func20 rfl (by kernel_rfl)) fun hf => ?_
  replace hf := factAt hf
  exact evalFn_con0 teFact mixFact (orcOf_ok _) Try.func20 (by kernel_rfl) ((i_HitBy_lk x0 x1).trans (i_HitBy_p x0 x1 ((hf 0 0 rfl rfl).rng) ((hf 0 2 rfl rfl).rng) ((hf 0 3 rfl rfl).rng) ((hf 0 4 rfl rfl).len) (fun y hy => (hf 0 4 rfl rfl).elem hy) ((hf 0 6 rfl rfl).rng) ((hf 0 7 rfl rfl).rng) ((hf 0 8 rfl rfl).len) (fun y hy => (hf 0 8 rfl rfl).elem hy) ((hf 1 0 rfl rfl).len) hp _ _ _))
noncomputable def i_HitBy_e : Ent1 Try.prog := entP 20 [.st .keys, .sc (.sl .issu)] (fun x => (decide (x.1.now.rows.length ≤ 4294967296 ∧ x.1.before.rows.length ≤ 4294967296 ∧ x.2.1.length ≤ 4294967296))) (fun x => (i_HitBy x.1 x.2.1)) (fun v => [rv (.sc .bool) [] v]) (fun x hx => i_HitBy_c x.1 x.2.1 (of_decide_eq_true hx))


/-- spec.l12Tuple -/
def s_l12Tuple_N (y0 : Curs) (γ : Type) (fail : γ) (k : Tupl × Curs → γ) : γ :=
  bif (decide (0 ≤ y0.i ∧ y0.b.length ≤ 1048576)) then
  letK (α := Int × Curs) (s_l6Ip y0) fun c1 =>
  bif (decide ((0 ≤ c1.2.i ∧ c1.2.b.length ≤ 1048576) ∧ 0 < ([40000, 40001, 40002] : List Int).length)) then
  letK (α := Int × Curs) (s_l1PickInt c1.2 [40000, 40001, 40002]) fun c2 =>
  k ((⟨c1.1, c2.1, 80⟩ : Tupl), c2.2)
  else fail
  else fail
def s_l12Tuple (y0 : Curs) : Tupl × Curs :=
  letK (α := Int × Curs) (s_l6Ip y0) fun c1 =>
  letK (α := Int × Curs) (s_l1PickInt c1.2 [40000, 40001, 40002]) fun c2 =>
  ((⟨c1.1, c2.1, 80⟩ : Tupl), c2.2)
theorem s_l12Tuple_lk (y0 : Curs) : evalFnM te (orcOf (P := Try.prog) [s_l6Ip_e, s_l1PickInt_e]) lorc0 [] Try.f145 (pvs [.wr false [.ptr 0]] ((), ())) (mos [.box [.c (.sl .u8), .c (.int .i64), .c (.int .i64)]] ((y0.b, y0.i, y0.h, ()), ())) =
  s_l12Tuple_N y0 _ none (fun v => some ([(true, [RC.c (.int .i64 v.1.ip), RC.c (.int .i64 v.1.port), RC.c (.int .i64 v.1.my)])] ++ (mos [.box [.c (.sl .u8), .c (.int .i64), .c (.int .i64)]] ((v.2.b, v.2.i, v.2.h, ()), ())).map encO)) := by kernel_rfl
theorem s_l12Tuple_p (y0 : Curs) (hy0_b : y0.b.length ≤ 140737488355328) (hy0_i : inK .i64 y0.i) (hy0_h : inK .i64 y0.h) (hp : 0 ≤ y0.i ∧ y0.b.length ≤ 1048576) (γ : Type) (fail : γ) (k : Tupl × Curs → γ) : s_l12Tuple_N y0 γ fail k = k (s_l12Tuple y0) := by
  unfold s_l12Tuple_N s_l12Tuple
  exact bifG (by (try simp only [Nat.ble_eq, Bool.and_eq_true, decide_eq_true_eq]); grind [maxSl, maxStr, toBytes_length, toInts_length, List.length_set, wrap64, s_l6Ip_cur, s_l1PickInt_cur]) (letT (f := k) (fun c1 hc1 => have kc1 : 0 ≤ c1.2.i ∧ c1.2.b.length ≤ 1048576 := (by rw [hc1]; exact s_l6Ip_cur _ (by first | assumption | exact ⟨by assumption, by assumption⟩ | grind [maxSl, wrap64])); bifG (by (try simp only [Nat.ble_eq, Bool.and_eq_true, decide_eq_true_eq]); grind [maxSl, maxStr, toBytes_length, toInts_length, List.length_set, wrap64, s_l6Ip_cur, s_l1PickInt_cur]) (letT (f := k) (fun c2 hc2 => have kc2 : 0 ≤ c2.2.i ∧ c2.2.b.length ≤ 1048576 := (by rw [hc2]; exact s_l1PickInt_cur _ _ (by first | assumption | exact ⟨by assumption, by assumption⟩ | grind [maxSl, wrap64]) (by first | assumption | exact ⟨by assumption, by assumption⟩ | grind [maxSl, wrap64])); rfl))))
theorem s_l12Tuple_c (y0 : Curs) (hp : 0 ≤ y0.i ∧ y0.b.length ≤ 1048576) : ConM Try.prog 145 (pvs [.wr false [.ptr 0]] ((), ())) (mos [.box [.c (.sl .u8), .c (.int .i64), .c (.int .i64)]] ((y0.b, y0.i, y0.h, ()), ())) [rv (.st .tupl) [] (s_l12Tuple y0).1] (mos [.box [.c (.sl .u8), .c (.int .i64), .c (.int .i64)]] ((((s_l12Tuple y0).2).b, ((s_l12Tuple y0).2).i, ((s_l12Tuple y0).2).h, ()), ())) := by
  refine ConM.of_facts (enters_of Try.func145 rfl (by kernel_rfl)) fun hf hg => ?_
  replace hf := factAt hf
  exact evalFn_conLM teFact mixFact (orcOf_ok _) Try.func145 (by kernel_rfl) (bs := []) (by kernel_rfl) (by kernel_rfl) (by kernel_rfl) rfl (fun w0 mo I0 hmo => trivial) ((s_l12Tuple_lk y0).trans (s_l12Tuple_p y0 ((mbAt hg 0 0 rfl rfl).len) ((mbAt hg 0 1 rfl rfl).rng) ((mbAt hg 0 2 rfl rfl).rng) hp _ _ _))
noncomputable def s_l12Tuple_e : Ent1 Try.prog := entM 145 [.wr false [.ptr 0]] [.box [.c (.sl .u8), .c (.int .i64), .c (.int .i64)]] (fun x y => (decide (0 ≤ (⟨y.1.1, y.1.2.1, y.1.2.2.1⟩ : Curs).i ∧ (⟨y.1.1, y.1.2.1, y.1.2.2.1⟩ : Curs).b.length ≤ 1048576))) (fun x y => (s_l12Tuple (⟨y.1.1, y.1.2.1, y.1.2.2.1⟩ : Curs))) (fun v => [rv (.st .tupl) [] v.1]) (fun x y v => (mos [.box [.c (.sl .u8), .c (.int .i64), .c (.int .i64)]] ((v.2.b, v.2.i, v.2.h, ()), ()))) (fun x y hx => s_l12Tuple_c (⟨y.1.1, y.1.2.1, y.1.2.2.1⟩ : Curs) (of_decide_eq_true hx))

theorem s_l12Tuple_cur (y0 : Curs)  (hc0 : 0 ≤ y0.i ∧ y0.b.length ≤ 1048576) : 0 ≤ (s_l12Tuple y0).2.i ∧ (s_l12Tuple y0).2.b.length ≤ 1048576 := by
  unfold s_l12Tuple
  exact letP (P := (fun v : Tupl × Curs => 0 ≤ v.2.i ∧ v.2.b.length ≤ 1048576)) (fun c1 hc1 => have kc1 : 0 ≤ c1.2.i ∧ c1.2.b.length ≤ 1048576 := (by rw [hc1]; exact s_l6Ip_cur _ (by first | assumption | exact ⟨by assumption, by assumption⟩ | grind [maxSl, wrap64])); letP (P := (fun v : Tupl × Curs => 0 ≤ v.2.i ∧ v.2.b.length ≤ 1048576)) (fun c2 hc2 => have kc2 : 0 ≤ c2.2.i ∧ c2.2.b.length ≤ 1048576 := (by rw [hc2]; exact s_l1PickInt_cur _ _ (by first | assumption | exact ⟨by assumption, by assumption⟩ | grind [maxSl, wrap64]) (by first | assumption | exact ⟨by assumption, by assumption⟩ | grind [maxSl, wrap64])); (by (try simp only [Nat.ble_eq, Bool.and_eq_true, decide_eq_true_eq]); grind [maxSl, maxStr, toBytes_length, toInts_length, List.length_set, wrap64, s_l6Ip_cur, s_l1PickInt_cur])))

/-- spec.l31Guess -/
def s_l31Guess_N (y0 : Curs) (x1 : Int) (γ : Type) (fail : γ) (k : Issu × Curs → γ) : γ :=
  bif (decide (0 ≤ y0.i ∧ y0.b.length ≤ 1048576)) then
  letK (α := Tupl × Curs) (s_l12Tuple y0) fun c1 =>
  bif (decide (0 ≤ c1.2.i ∧ c1.2.b.length ≤ 1048576)) then
  letK (α := Int × Curs) (s_l1Below c1.2 3) fun c2 =>
  letK (α := Int) (s_l4Rest x1) fun c3 =>
  bif (decide (0 ≤ c2.2.i ∧ c2.2.b.length ≤ 1048576)) then
  letK (α := Int × Curs) (s_l1Below c2.2 3) fun c4 =>
  letK (α := Int) (IntKind.wrap .i64 ((IntKind.wrap .i64 ((c3.tmod 32) * 134217728)) + (IntKind.wrap .i64 (c4.1 * 16777216)))) fun e5 =>
  bif (decide (0 ≤ c4.2.i ∧ c4.2.b.length ≤ 1048576)) then
  letK (α := Int × Curs) (s_l1Below c4.2 4) fun c6 =>
  k ((⟨c1.1, c2.1, (IntKind.wrap .i64 (e5 + c6.1))⟩ : Issu), c6.2)
  else fail
  else fail
  else fail
  else fail
def s_l31Guess (y0 : Curs) (x1 : Int) : Issu × Curs :=
  letK (α := Tupl × Curs) (s_l12Tuple y0) fun c1 =>
  letK (α := Int × Curs) (s_l1Below c1.2 3) fun c2 =>
  letK (α := Int) (s_l4Rest x1) fun c3 =>
  letK (α := Int × Curs) (s_l1Below c2.2 3) fun c4 =>
  letK (α := Int) (IntKind.wrap .i64 ((IntKind.wrap .i64 ((c3.tmod 32) * 134217728)) + (IntKind.wrap .i64 (c4.1 * 16777216)))) fun e5 =>
  letK (α := Int × Curs) (s_l1Below c4.2 4) fun c6 =>
  ((⟨c1.1, c2.1, (IntKind.wrap .i64 (e5 + c6.1))⟩ : Issu), c6.2)
theorem s_l31Guess_lk (y0 : Curs) (x1 : Int) : evalFnM te (orcOf (P := Try.prog) [s_l12Tuple_e, s_l1Below_e, s_l4Rest_e]) lorc0 [] Try.f104 (pvs [.wr false [.ptr 0], .sc (.int .i64)] ((), x1, ())) (mos [.box [.c (.sl .u8), .c (.int .i64), .c (.int .i64)]] ((y0.b, y0.i, y0.h, ()), ())) =
  s_l31Guess_N y0 x1 _ none (fun v => some ([(true, [RC.c (.int .i64 v.1.tuple.ip), RC.c (.int .i64 v.1.tuple.port), RC.c (.int .i64 v.1.tuple.my), RC.c (.int .i64 v.1.seq), RC.c (.int .i64 v.1.cookie)])] ++ (mos [.box [.c (.sl .u8), .c (.int .i64), .c (.int .i64)]] ((v.2.b, v.2.i, v.2.h, ()), ())).map encO)) := by kernel_rfl
theorem s_l31Guess_p (y0 : Curs) (x1 : Int) (hx1 : inK .i64 x1) (hy0_b : y0.b.length ≤ 140737488355328) (hy0_i : inK .i64 y0.i) (hy0_h : inK .i64 y0.h) (hp : 0 ≤ y0.i ∧ y0.b.length ≤ 1048576) (γ : Type) (fail : γ) (k : Issu × Curs → γ) : s_l31Guess_N y0 x1 γ fail k = k (s_l31Guess y0 x1) := by
  unfold s_l31Guess_N s_l31Guess
  exact bifG (by (try simp only [Nat.ble_eq, Bool.and_eq_true, decide_eq_true_eq]); grind [maxSl, maxStr, toBytes_length, toInts_length, List.length_set, wrap64, s_l12Tuple_cur, s_l1Below_rng, s_l1Below_cur]) (letT (f := k) (fun c1 hc1 => have kc1 : 0 ≤ c1.2.i ∧ c1.2.b.length ≤ 1048576 := (by rw [hc1]; exact s_l12Tuple_cur _ (by first | assumption | exact ⟨by assumption, by assumption⟩ | grind [maxSl, wrap64])); bifG (by (try simp only [Nat.ble_eq, Bool.and_eq_true, decide_eq_true_eq]); grind [maxSl, maxStr, toBytes_length, toInts_length, List.length_set, wrap64, s_l12Tuple_cur, s_l1Below_rng, s_l1Below_cur]) (letT (f := k) (fun c2 hc2 => have rc2 := s_l1Below_rng c1.2 3 (by first | assumption | exact ⟨by assumption, by assumption⟩ | grind [maxSl, wrap64]); have kc2 : 0 ≤ c2.2.i ∧ c2.2.b.length ≤ 1048576 := (by rw [hc2]; exact s_l1Below_cur _ _ (by first | assumption | exact ⟨by assumption, by assumption⟩ | grind [maxSl, wrap64])); letT (f := k) (fun c3 hc3 => bifG (by (try simp only [Nat.ble_eq, Bool.and_eq_true, decide_eq_true_eq]); grind [maxSl, maxStr, toBytes_length, toInts_length, List.length_set, wrap64, s_l12Tuple_cur, s_l1Below_rng, s_l1Below_cur]) (letT (f := k) (fun c4 hc4 => have rc4 := s_l1Below_rng c2.2 3 (by first | assumption | exact ⟨by assumption, by assumption⟩ | grind [maxSl, wrap64]); have kc4 : 0 ≤ c4.2.i ∧ c4.2.b.length ≤ 1048576 := (by rw [hc4]; exact s_l1Below_cur _ _ (by first | assumption | exact ⟨by assumption, by assumption⟩ | grind [maxSl, wrap64])); letT (f := k) (fun e5 he5 => bifG (by (try simp only [Nat.ble_eq, Bool.and_eq_true, decide_eq_true_eq]); grind [maxSl, maxStr, toBytes_length, toInts_length, List.length_set, wrap64, s_l12Tuple_cur, s_l1Below_rng, s_l1Below_cur]) (letT (f := k) (fun c6 hc6 => have rc6 := s_l1Below_rng c4.2 4 (by first | assumption | exact ⟨by assumption, by assumption⟩ | grind [maxSl, wrap64]); have kc6 : 0 ≤ c6.2.i ∧ c6.2.b.length ≤ 1048576 := (by rw [hc6]; exact s_l1Below_cur _ _ (by first | assumption | exact ⟨by assumption, by assumption⟩ | grind [maxSl, wrap64])); rfl))))))))))
theorem s_l31Guess_c (y0 : Curs) (x1 : Int) (hp : 0 ≤ y0.i ∧ y0.b.length ≤ 1048576) : ConM Try.prog 104 (pvs [.wr false [.ptr 0], .sc (.int .i64)] ((), x1, ())) (mos [.box [.c (.sl .u8), .c (.int .i64), .c (.int .i64)]] ((y0.b, y0.i, y0.h, ()), ())) [rv (.st .issu) [] (s_l31Guess y0 x1).1] (mos [.box [.c (.sl .u8), .c (.int .i64), .c (.int .i64)]] ((((s_l31Guess y0 x1).2).b, ((s_l31Guess y0 x1).2).i, ((s_l31Guess y0 x1).2).h, ()), ())) := by
  refine ConM.of_facts (enters_of Try.func104 rfl (by kernel_rfl)) fun hf hg => ?_
  replace hf := factAt hf
  exact evalFn_conLM teFact mixFact (orcOf_ok _) Try.func104 (by kernel_rfl) (bs := []) (by kernel_rfl) (by kernel_rfl) (by kernel_rfl) rfl (fun w0 mo I0 hmo => trivial) ((s_l31Guess_lk y0 x1).trans (s_l31Guess_p y0 x1 ((hf 1 0 rfl rfl).rng) ((mbAt hg 0 0 rfl rfl).len) ((mbAt hg 0 1 rfl rfl).rng) ((mbAt hg 0 2 rfl rfl).rng) hp _ _ _))
noncomputable def s_l31Guess_e : Ent1 Try.prog := entM 104 [.wr false [.ptr 0], .sc (.int .i64)] [.box [.c (.sl .u8), .c (.int .i64), .c (.int .i64)]] (fun x y => (decide (0 ≤ (⟨y.1.1, y.1.2.1, y.1.2.2.1⟩ : Curs).i ∧ (⟨y.1.1, y.1.2.1, y.1.2.2.1⟩ : Curs).b.length ≤ 1048576))) (fun x y => (s_l31Guess (⟨y.1.1, y.1.2.1, y.1.2.2.1⟩ : Curs) x.2.1)) (fun v => [rv (.st .issu) [] v.1]) (fun x y v => (mos [.box [.c (.sl .u8), .c (.int .i64), .c (.int .i64)]] ((v.2.b, v.2.i, v.2.h, ()), ()))) (fun x y hx => s_l31Guess_c (⟨y.1.1, y.1.2.1, y.1.2.2.1⟩ : Curs) x.2.1 (of_decide_eq_true hx))

theorem s_l31Guess_cur (y0 : Curs) (x1 : Int)  (hc0 : 0 ≤ y0.i ∧ y0.b.length ≤ 1048576) : 0 ≤ (s_l31Guess y0 x1).2.i ∧ (s_l31Guess y0 x1).2.b.length ≤ 1048576 := by
  unfold s_l31Guess
  exact letP (P := (fun v : Issu × Curs => 0 ≤ v.2.i ∧ v.2.b.length ≤ 1048576)) (fun c1 hc1 => have kc1 : 0 ≤ c1.2.i ∧ c1.2.b.length ≤ 1048576 := (by rw [hc1]; exact s_l12Tuple_cur _ (by first | assumption | exact ⟨by assumption, by assumption⟩ | grind [maxSl, wrap64])); letP (P := (fun v : Issu × Curs => 0 ≤ v.2.i ∧ v.2.b.length ≤ 1048576)) (fun c2 hc2 => have rc2 := s_l1Below_rng c1.2 3 (by first | assumption | exact ⟨by assumption, by assumption⟩ | grind [maxSl, wrap64]); have kc2 : 0 ≤ c2.2.i ∧ c2.2.b.length ≤ 1048576 := (by rw [hc2]; exact s_l1Below_cur _ _ (by first | assumption | exact ⟨by assumption, by assumption⟩ | grind [maxSl, wrap64])); letP (P := (fun v : Issu × Curs => 0 ≤ v.2.i ∧ v.2.b.length ≤ 1048576)) (fun c3 hc3 => letP (P := (fun v : Issu × Curs => 0 ≤ v.2.i ∧ v.2.b.length ≤ 1048576)) (fun c4 hc4 => have rc4 := s_l1Below_rng c2.2 3 (by first | assumption | exact ⟨by assumption, by assumption⟩ | grind [maxSl, wrap64]); have kc4 : 0 ≤ c4.2.i ∧ c4.2.b.length ≤ 1048576 := (by rw [hc4]; exact s_l1Below_cur _ _ (by first | assumption | exact ⟨by assumption, by assumption⟩ | grind [maxSl, wrap64])); letP (P := (fun v : Issu × Curs => 0 ≤ v.2.i ∧ v.2.b.length ≤ 1048576)) (fun e5 he5 => letP (P := (fun v : Issu × Curs => 0 ≤ v.2.i ∧ v.2.b.length ≤ 1048576)) (fun c6 hc6 => have rc6 := s_l1Below_rng c4.2 4 (by first | assumption | exact ⟨by assumption, by assumption⟩ | grind [maxSl, wrap64]); have kc6 : 0 ≤ c6.2.i ∧ c6.2.b.length ≤ 1048576 := (by rw [hc6]; exact s_l1Below_cur _ _ (by first | assumption | exact ⟨by assumption, by assumption⟩ | grind [maxSl, wrap64])); (by (try simp only [Nat.ble_eq, Bool.and_eq_true, decide_eq_true_eq]); grind [maxSl, maxStr, toBytes_length, toInts_length, List.length_set, wrap64, s_l12Tuple_cur, s_l1Below_rng, s_l1Below_cur])))))))

/-- spec.l1Whole -/
def s_l1Whole_N (y0 : Curs) (γ : Type) (fail : γ) (k : Int × Curs → γ) : γ :=
  bif (decide (0 ≤ y0.i ∧ y0.b.length ≤ 1048576)) then
  letK (α := Int × Curs) (s_l1Below y0 3) fun c1 =>
  bif (c1.1 == 0) then
    bif (decide ((0 ≤ c1.2.i ∧ c1.2.b.length ≤ 1048576) ∧ 0 < ([0, 1, (-1), 9, 10, 999999999999, 1000000000000, 9223372036854775807, 4294967295, 4294967296, 65535, 65536, (-9223372036854775808)] : List Int).length)) then
    letK (α := Int × Curs) (s_l1PickInt c1.2 [0, 1, (-1), 9, 10, 999999999999, 1000000000000, 9223372036854775807, 4294967295, 4294967296, 65535, 65536, (-9223372036854775808)]) fun c2 =>
    k (c2.1, c2.2)
    else fail
  else
  bif (c1.1 == 1) then
    bif (decide (0 ≤ c1.2.i ∧ c1.2.b.length ≤ 1048576)) then
    letK (α := Int × Curs) (s_l1Below c1.2 1000000) fun c3 =>
    k ((IntKind.wrap .i64 (c3.1 - 500000)), c3.2)
    else fail
  else
  bif (decide (0 ≤ c1.2.i ∧ c1.2.b.length ≤ 1048576)) then
  letK (α := Int × Curs) (s_l1Below c1.2 20) fun c4 =>
  k (c4.1, c4.2)
  else fail
  else fail
def s_l1Whole (y0 : Curs) : Int × Curs :=
  letK (α := Int × Curs) (s_l1Below y0 3) fun c1 =>
  bif (c1.1 == 0) then
    letK (α := Int × Curs) (s_l1PickInt c1.2 [0, 1, (-1), 9, 10, 999999999999, 1000000000000, 9223372036854775807, 4294967295, 4294967296, 65535, 65536, (-9223372036854775808)]) fun c2 =>
    (c2.1, c2.2)
  else
  bif (c1.1 == 1) then
    letK (α := Int × Curs) (s_l1Below c1.2 1000000) fun c3 =>
    ((IntKind.wrap .i64 (c3.1 - 500000)), c3.2)
  else
  letK (α := Int × Curs) (s_l1Below c1.2 20) fun c4 =>
  (c4.1, c4.2)
theorem s_l1Whole_lk (y0 : Curs) : evalFnM te (orcOf (P := Try.prog) [s_l1Below_e, s_l1PickInt_e]) lorc0 [] Try.f146 (pvs [.wr false [.ptr 0]] ((), ())) (mos [.box [.c (.sl .u8), .c (.int .i64), .c (.int .i64)]] ((y0.b, y0.i, y0.h, ()), ())) =
  s_l1Whole_N y0 _ none (fun v => some ([(false, [RC.c (.int .i64 v.1)])] ++ (mos [.box [.c (.sl .u8), .c (.int .i64), .c (.int .i64)]] ((v.2.b, v.2.i, v.2.h, ()), ())).map encO)) := by kernel_rfl
theorem s_l1Whole_p (y0 : Curs) (hy0_b : y0.b.length ≤ 140737488355328) (hy0_i : inK .i64 y0.i) (hy0_h : inK .i64 y0.h) (hp : 0 ≤ y0.i ∧ y0.b.length ≤ 1048576) (γ : Type) (fail : γ) (k : Int × Curs → γ) : s_l1Whole_N y0 γ fail k = k (s_l1Whole y0) := by
  unfold s_l1Whole_N s_l1Whole
  exact bifG (by (try simp only [Nat.ble_eq, Bool.and_eq_true, decide_eq_true_eq]); grind [maxSl, maxStr, toBytes_length, toInts_length, List.length_set, wrap64, s_l1Below_rng, s_l1Below_cur, s_l1PickInt_cur]) (letT (f := k) (fun c1 hc1 => have rc1 := s_l1Below_rng y0 3 (by first | assumption | exact ⟨by assumption, by assumption⟩ | grind [maxSl, wrap64]); have kc1 : 0 ≤ c1.2.i ∧ c1.2.b.length ≤ 1048576 := (by rw [hc1]; exact s_l1Below_cur _ _ (by first | assumption | exact ⟨by assumption, by assumption⟩ | grind [maxSl, wrap64])); bifT (f := k) (fun b0 => bifG (by (try simp only [Nat.ble_eq, Bool.and_eq_true, decide_eq_true_eq]); grind [maxSl, maxStr, toBytes_length, toInts_length, List.length_set, wrap64, s_l1Below_rng, s_l1Below_cur, s_l1PickInt_cur]) (letT (f := k) (fun c2 hc2 => have kc2 : 0 ≤ c2.2.i ∧ c2.2.b.length ≤ 1048576 := (by rw [hc2]; exact s_l1PickInt_cur _ _ (by first | assumption | exact ⟨by assumption, by assumption⟩ | grind [maxSl, wrap64]) (by first | assumption | exact ⟨by assumption, by assumption⟩ | grind [maxSl, wrap64])); rfl)))
      (fun b0 => bifT (f := k) (fun b1 => bifG (by (try simp only [Nat.ble_eq, Bool.and_eq_true, decide_eq_true_eq]); grind [maxSl, maxStr, toBytes_length, toInts_length, List.length_set, wrap64, s_l1Below_rng, s_l1Below_cur, s_l1PickInt_cur]) (letT (f := k) (fun c3 hc3 => have rc3 := s_l1Below_rng c1.2 1000000 (by first | assumption | exact ⟨by assumption, by assumption⟩ | grind [maxSl, wrap64]); have kc3 : 0 ≤ c3.2.i ∧ c3.2.b.length ≤ 1048576 := (by rw [hc3]; exact s_l1Below_cur _ _ (by first | assumption | exact ⟨by assumption, by assumption⟩ | grind [maxSl, wrap64])); rfl)))
      (fun b1 => bifG (by (try simp only [Nat.ble_eq, Bool.and_eq_true, decide_eq_true_eq]); grind [maxSl, maxStr, toBytes_length, toInts_length, List.length_set, wrap64, s_l1Below_rng, s_l1Below_cur, s_l1PickInt_cur]) (letT (f := k) (fun c4 hc4 => have rc4 := s_l1Below_rng c1.2 20 (by first | assumption | exact ⟨by assumption, by assumption⟩ | grind [maxSl, wrap64]); have kc4 : 0 ≤ c4.2.i ∧ c4.2.b.length ≤ 1048576 := (by rw [hc4]; exact s_l1Below_cur _ _ (by first | assumption | exact ⟨by assumption, by assumption⟩ | grind [maxSl, wrap64])); rfl))))))
theorem s_l1Whole_c (y0 : Curs) (hp : 0 ≤ y0.i ∧ y0.b.length ≤ 1048576) : ConM Try.prog 146 (pvs [.wr false [.ptr 0]] ((), ())) (mos [.box [.c (.sl .u8), .c (.int .i64), .c (.int .i64)]] ((y0.b, y0.i, y0.h, ()), ())) [rv (.sc (.int .i64)) [] (s_l1Whole y0).1] (mos [.box [.c (.sl .u8), .c (.int .i64), .c (.int .i64)]] ((((s_l1Whole y0).2).b, ((s_l1Whole y0).2).i, ((s_l1Whole y0).2).h, ()), ())) := by
  refine ConM.of_facts (enters_of Try.func146 rfl (by kernel_rfl)) fun hf hg => ?_
  replace hf := factAt hf
  exact evalFn_conLM teFact mixFact (orcOf_ok _) Try.func146 (by kernel_rfl) (bs := []) (by kernel_rfl) (by kernel_rfl) (by kernel_rfl) rfl (fun w0 mo I0 hmo => trivial) ((s_l1Whole_lk y0).trans (s_l1Whole_p y0 ((mbAt hg 0 0 rfl rfl).len) ((mbAt hg 0 1 rfl rfl).rng) ((mbAt hg 0 2 rfl rfl).rng) hp _ _ _))
noncomputable def s_l1Whole_e : Ent1 Try.prog := entM 146 [.wr false [.ptr 0]] [.box [.c (.sl .u8), .c (.int .i64), .c (.int .i64)]] (fun x y => (decide (0 ≤ (⟨y.1.1, y.1.2.1, y.1.2.2.1⟩ : Curs).i ∧ (⟨y.1.1, y.1.2.1, y.1.2.2.1⟩ : Curs).b.length ≤ 1048576))) (fun x y => (s_l1Whole (⟨y.1.1, y.1.2.1, y.1.2.2.1⟩ : Curs))) (fun v => [rv (.sc (.int .i64)) [] v.1]) (fun x y v => (mos [.box [.c (.sl .u8), .c (.int .i64), .c (.int .i64)]] ((v.2.b, v.2.i, v.2.h, ()), ()))) (fun x y hx => s_l1Whole_c (⟨y.1.1, y.1.2.1, y.1.2.2.1⟩ : Curs) (of_decide_eq_true hx))

theorem s_l1Whole_cur (y0 : Curs)  (hc0 : 0 ≤ y0.i ∧ y0.b.length ≤ 1048576) : 0 ≤ (s_l1Whole y0).2.i ∧ (s_l1Whole y0).2.b.length ≤ 1048576 := by
  unfold s_l1Whole
  exact letP (P := (fun v : Int × Curs => 0 ≤ v.2.i ∧ v.2.b.length ≤ 1048576)) (fun c1 hc1 => have rc1 := s_l1Below_rng y0 3 (by first | assumption | exact ⟨by assumption, by assumption⟩ | grind [maxSl, wrap64]); have kc1 : 0 ≤ c1.2.i ∧ c1.2.b.length ≤ 1048576 := (by rw [hc1]; exact s_l1Below_cur _ _ (by first | assumption | exact ⟨by assumption, by assumption⟩ | grind [maxSl, wrap64])); bifP (P := (fun v : Int × Curs => 0 ≤ v.2.i ∧ v.2.b.length ≤ 1048576)) (fun b0 => letP (P := (fun v : Int × Curs => 0 ≤ v.2.i ∧ v.2.b.length ≤ 1048576)) (fun c2 hc2 => have kc2 : 0 ≤ c2.2.i ∧ c2.2.b.length ≤ 1048576 := (by rw [hc2]; exact s_l1PickInt_cur _ _ (by first | assumption | exact ⟨by assumption, by assumption⟩ | grind [maxSl, wrap64]) (by first | assumption | exact ⟨by assumption, by assumption⟩ | grind [maxSl, wrap64])); (by (try simp only [Nat.ble_eq, Bool.and_eq_true, decide_eq_true_eq]); grind [maxSl, maxStr, toBytes_length, toInts_length, List.length_set, wrap64, s_l1Below_rng, s_l1Below_cur, s_l1PickInt_cur])))
      (fun b0 => bifP (P := (fun v : Int × Curs => 0 ≤ v.2.i ∧ v.2.b.length ≤ 1048576)) (fun b1 => letP (P := (fun v : Int × Curs => 0 ≤ v.2.i ∧ v.2.b.length ≤ 1048576)) (fun c3 hc3 => have rc3 := s_l1Below_rng c1.2 1000000 (by first | assumption | exact ⟨by assumption, by assumption⟩ | grind [maxSl, wrap64]); have kc3 : 0 ≤ c3.2.i ∧ c3.2.b.length ≤ 1048576 := (by rw [hc3]; exact s_l1Below_cur _ _ (by first | assumption | exact ⟨by assumption, by assumption⟩ | grind [maxSl, wrap64])); (by (try simp only [Nat.ble_eq, Bool.and_eq_true, decide_eq_true_eq]); grind [maxSl, maxStr, toBytes_length, toInts_length, List.length_set, wrap64, s_l1Below_rng, s_l1Below_cur, s_l1PickInt_cur])))
      (fun b1 => letP (P := (fun v : Int × Curs => 0 ≤ v.2.i ∧ v.2.b.length ≤ 1048576)) (fun c4 hc4 => have rc4 := s_l1Below_rng c1.2 20 (by first | assumption | exact ⟨by assumption, by assumption⟩ | grind [maxSl, wrap64]); have kc4 : 0 ≤ c4.2.i ∧ c4.2.b.length ≤ 1048576 := (by rw [hc4]; exact s_l1Below_cur _ _ (by first | assumption | exact ⟨by assumption, by assumption⟩ | grind [maxSl, wrap64])); (by (try simp only [Nat.ble_eq, Bool.and_eq_true, decide_eq_true_eq]); grind [maxSl, maxStr, toBytes_length, toInts_length, List.length_set, wrap64, s_l1Below_rng, s_l1Below_cur, s_l1PickInt_cur])))))

/-- spec.l2Word -/
def s_l2Word_N (y0 : Curs) (γ : Type) (fail : γ) (k : Int × Curs → γ) : γ :=
  bif (decide (0 ≤ y0.i ∧ y0.b.length ≤ 1048576)) then
  letK (α := Int × Curs) (s_l1Below y0 3) fun c1 =>
  bif (c1.1 == 0) then
    bif (decide (0 ≤ c1.2.i ∧ c1.2.b.length ≤ 1048576)) then
    letK (α := Int × Curs) (s_l1Whole c1.2) fun c2 =>
    k (c2.1, c2.2)
    else fail
  else
  bif (c1.1 == 1) then
    bif (decide ((0 ≤ c1.2.i ∧ c1.2.b.length ≤ 1048576) ∧ 0 < ([0, 1, 255, 256, 65535, 65536, 16777215, 4294967295, 4294967296, 281474976710655, 281474976710656] : List Int).length)) then
    letK (α := Int × Curs) (s_l1PickInt c1.2 [0, 1, 255, 256, 65535, 65536, 16777215, 4294967295, 4294967296, 281474976710655, 281474976710656]) fun c3 =>
    k (c3.1, c3.2)
    else fail
  else
  bif (decide (0 ≤ c1.2.i ∧ c1.2.b.length ≤ 1048576)) then
  letK (α := Int × Curs) (s_l1Below c1.2 65536) fun c4 =>
  k (c4.1, c4.2)
  else fail
  else fail
def s_l2Word (y0 : Curs) : Int × Curs :=
  letK (α := Int × Curs) (s_l1Below y0 3) fun c1 =>
  bif (c1.1 == 0) then
    letK (α := Int × Curs) (s_l1Whole c1.2) fun c2 =>
    (c2.1, c2.2)
  else
  bif (c1.1 == 1) then
    letK (α := Int × Curs) (s_l1PickInt c1.2 [0, 1, 255, 256, 65535, 65536, 16777215, 4294967295, 4294967296, 281474976710655, 281474976710656]) fun c3 =>
    (c3.1, c3.2)
  else
  letK (α := Int × Curs) (s_l1Below c1.2 65536) fun c4 =>
  (c4.1, c4.2)
theorem s_l2Word_lk (y0 : Curs) : evalFnM te (orcOf (P := Try.prog) [s_l1Below_e, s_l1Whole_e, s_l1PickInt_e]) lorc0 [] Try.f95 (pvs [.wr false [.ptr 0]] ((), ())) (mos [.box [.c (.sl .u8), .c (.int .i64), .c (.int .i64)]] ((y0.b, y0.i, y0.h, ()), ())) =
  s_l2Word_N y0 _ none (fun v => some ([(false, [RC.c (.int .i64 v.1)])] ++ (mos [.box [.c (.sl .u8), .c (.int .i64), .c (.int .i64)]] ((v.2.b, v.2.i, v.2.h, ()), ())).map encO)) := by kernel_rfl
theorem s_l2Word_p (y0 : Curs) (hy0_b : y0.b.length ≤ 140737488355328) (hy0_i : inK .i64 y0.i) (hy0_h : inK .i64 y0.h) (hp : 0 ≤ y0.i ∧ y0.b.length ≤ 1048576) (γ : Type) (fail : γ) (k : Int × Curs → γ) : s_l2Word_N y0 γ fail k = k (s_l2Word y0) := by
  unfold s_l2Word_N s_l2Word
  exact bifG (by (try simp only [Nat.ble_eq, Bool.and_eq_true, decide_eq_true_eq]); grind [maxSl, maxStr, toBytes_length, toInts_length, List.length_set, wrap64, s_l1Below_rng, s_l1Below_cur, s_l1Whole_cur, s_l1PickInt_cur]) (letT (f := k) (fun c1 hc1 => have rc1 := s_l1Below_rng y0 3 (by first | assumption | exact ⟨by assumption, by assumption⟩ | grind [maxSl, wrap64]); have kc1 : 0 ≤ c1.2.i ∧ c1.2.b.length ≤ 1048576 := (by rw [hc1]; exact s_l1Below_cur _ _ (by first | assumption | exact ⟨by assumption, by assumption⟩ | grind [maxSl, wrap64])); bifT (f := k) (fun b0 => bifG (by (try simp only [Nat.ble_eq, Bool.and_eq_true, decide_eq_true_eq]); grind [maxSl, maxStr, toBytes_length, toInts_length, List.length_set, wrap64, s_l1Below_rng, s_l1Below_cur, s_l1Whole_cur, s_l1PickInt_cur]) (letT (f := k) (fun c2 hc2 => have kc2 : 0 ≤ c2.2.i ∧ c2.2.b.length ≤ 1048576 := (by rw [hc2]; exact s_l1Whole_cur _ (by first | assumption | exact ⟨by assumption, by assumption⟩ | grind [maxSl, wrap64])); rfl)))
      (fun b0 => bifT (f := k) (fun b1 => bifG (by (try simp only [Nat.ble_eq, Bool.and_eq_true, decide_eq_true_eq]); grind [maxSl, maxStr, toBytes_length, toInts_length, List.length_set, wrap64, s_l1Below_rng, s_l1Below_cur, s_l1Whole_cur, s_l1PickInt_cur]) (letT (f := k) (fun c3 hc3 => have kc3 : 0 ≤ c3.2.i ∧ c3.2.b.length ≤ 1048576 := (by rw [hc3]; exact s_l1PickInt_cur _ _ (by first | assumption | exact ⟨by assumption, by assumption⟩ | grind [maxSl, wrap64]) (by first | assumption | exact ⟨by assumption, by assumption⟩ | grind [maxSl, wrap64])); rfl)))
      (fun b1 => bifG (by (try simp only [Nat.ble_eq, Bool.and_eq_true, decide_eq_true_eq]); grind [maxSl, maxStr, toBytes_length, toInts_length, List.length_set, wrap64, s_l1Below_rng, s_l1Below_cur, s_l1Whole_cur, s_l1PickInt_cur]) (letT (f := k) (fun c4 hc4 => have rc4 := s_l1Below_rng c1.2 65536 (by first | assumption | exact ⟨by assumption, by assumption⟩ | grind [maxSl, wrap64]); have kc4 : 0 ≤ c4.2.i ∧ c4.2.b.length ≤ 1048576 := (by rw [hc4]; exact s_l1Below_cur _ _ (by first | assumption | exact ⟨by assumption, by assumption⟩ | grind [maxSl, wrap64])); rfl))))))
theorem s_l2Word_c (y0 : Curs) (hp : 0 ≤ y0.i ∧ y0.b.length ≤ 1048576) : ConM Try.prog 95 (pvs [.wr false [.ptr 0]] ((), ())) (mos [.box [.c (.sl .u8), .c (.int .i64), .c (.int .i64)]] ((y0.b, y0.i, y0.h, ()), ())) [rv (.sc (.int .i64)) [] (s_l2Word y0).1] (mos [.box [.c (.sl .u8), .c (.int .i64), .c (.int .i64)]] ((((s_l2Word y0).2).b, ((s_l2Word y0).2).i, ((s_l2Word y0).2).h, ()), ())) := by
  refine ConM.of_facts (enters_of Try.func95 rfl (by kernel_rfl)) fun hf hg => ?_
  replace hf := factAt hf
  exact evalFn_conLM teFact mixFact (orcOf_ok _) Try.func95 (by kernel_rfl) (bs := []) (by kernel_rfl) (by kernel_rfl) (by kernel_rfl) rfl (fun w0 mo I0 hmo => trivial) ((s_l2Word_lk y0).trans (s_l2Word_p y0 ((mbAt hg 0 0 rfl rfl).len) ((mbAt hg 0 1 rfl rfl).rng) ((mbAt hg 0 2 rfl rfl).rng) hp _ _ _))
noncomputable def s_l2Word_e : Ent1 Try.prog := entM 95 [.wr false [.ptr 0]] [.box [.c (.sl .u8), .c (.int .i64), .c (.int .i64)]] (fun x y => (decide (0 ≤ (⟨y.1.1, y.1.2.1, y.1.2.2.1⟩ : Curs).i ∧ (⟨y.1.1, y.1.2.1, y.1.2.2.1⟩ : Curs).b.length ≤ 1048576))) (fun x y => (s_l2Word (⟨y.1.1, y.1.2.1, y.1.2.2.1⟩ : Curs))) (fun v => [rv (.sc (.int .i64)) [] v.1]) (fun x y v => (mos [.box [.c (.sl .u8), .c (.int .i64), .c (.int .i64)]] ((v.2.b, v.2.i, v.2.h, ()), ()))) (fun x y hx => s_l2Word_c (⟨y.1.1, y.1.2.1, y.1.2.2.1⟩ : Curs) (of_decide_eq_true hx))

theorem s_l2Word_cur (y0 : Curs)  (hc0 : 0 ≤ y0.i ∧ y0.b.length ≤ 1048576) : 0 ≤ (s_l2Word y0).2.i ∧ (s_l2Word y0).2.b.length ≤ 1048576 := by
  unfold s_l2Word
  exact letP (P := (fun v : Int × Curs => 0 ≤ v.2.i ∧ v.2.b.length ≤ 1048576)) (fun c1 hc1 => have rc1 := s_l1Below_rng y0 3 (by first | assumption | exact ⟨by assumption, by assumption⟩ | grind [maxSl, wrap64]); have kc1 : 0 ≤ c1.2.i ∧ c1.2.b.length ≤ 1048576 := (by rw [hc1]; exact s_l1Below_cur _ _ (by first | assumption | exact ⟨by assumption, by assumption⟩ | grind [maxSl, wrap64])); bifP (P := (fun v : Int × Curs => 0 ≤ v.2.i ∧ v.2.b.length ≤ 1048576)) (fun b0 => letP (P := (fun v : Int × Curs => 0 ≤ v.2.i ∧ v.2.b.length ≤ 1048576)) (fun c2 hc2 => have kc2 : 0 ≤ c2.2.i ∧ c2.2.b.length ≤ 1048576 := (by rw [hc2]; exact s_l1Whole_cur _ (by first | assumption | exact ⟨by assumption, by assumption⟩ | grind [maxSl, wrap64])); (by (try simp only [Nat.ble_eq, Bool.and_eq_true, decide_eq_true_eq]); grind [maxSl, maxStr, toBytes_length, toInts_length, List.length_set, wrap64, s_l1Below_rng, s_l1Below_cur, s_l1Whole_cur, s_l1PickInt_cur])))
      (fun b0 => bifP (P := (fun v : Int × Curs => 0 ≤ v.2.i ∧ v.2.b.length ≤ 1048576)) (fun b1 => letP (P := (fun v : Int × Curs => 0 ≤ v.2.i ∧ v.2.b.length ≤ 1048576)) (fun c3 hc3 => have kc3 : 0 ≤ c3.2.i ∧ c3.2.b.length ≤ 1048576 := (by rw [hc3]; exact s_l1PickInt_cur _ _ (by first | assumption | exact ⟨by assumption, by assumption⟩ | grind [maxSl, wrap64]) (by first | assumption | exact ⟨by assumption, by assumption⟩ | grind [maxSl, wrap64])); (by (try simp only [Nat.ble_eq, Bool.and_eq_true, decide_eq_true_eq]); grind [maxSl, maxStr, toBytes_length, toInts_length, List.length_set, wrap64, s_l1Below_rng, s_l1Below_cur, s_l1Whole_cur, s_l1PickInt_cur])))
      (fun b1 => letP (P := (fun v : Int × Curs => 0 ≤ v.2.i ∧ v.2.b.length ≤ 1048576)) (fun c4 hc4 => have rc4 := s_l1Below_rng c1.2 65536 (by first | assumption | exact ⟨by assumption, by assumption⟩ | grind [maxSl, wrap64]); have kc4 : 0 ≤ c4.2.i ∧ c4.2.b.length ≤ 1048576 := (by rw [hc4]; exact s_l1Below_cur _ _ (by first | assumption | exact ⟨by assumption, by assumption⟩ | grind [maxSl, wrap64])); (by (try simp only [Nat.ble_eq, Bool.and_eq_true, decide_eq_true_eq]); grind [maxSl, maxStr, toBytes_length, toInts_length, List.length_set, wrap64, s_l1Below_rng, s_l1Below_cur, s_l1Whole_cur, s_l1PickInt_cur])))))

/-- spec.l4Place -/
def s_l4Place_N (y0 : Curs) (γ : Type) (fail : γ) (k : Int × Curs → γ) : γ :=
  bif (decide (0 ≤ y0.i ∧ y0.b.length ≤ 1048576)) then
  letK (α := Bool × Curs) (s_l1Once y0 12) fun c1 =>
  bif c1.1 then
    bif (decide (0 ≤ c1.2.i ∧ c1.2.b.length ≤ 1048576)) then
    letK (α := Int × Curs) (s_l1Whole c1.2) fun c2 =>
    k (c2.1, c2.2)
    else fail
  else
  bif (decide (0 ≤ c1.2.i ∧ c1.2.b.length ≤ 1048576)) then
  letK (α := Int × Curs) (s_l2Deep c1.2) fun c3 =>
  k (c3.1, c3.2)
  else fail
  else fail
def s_l4Place (y0 : Curs) : Int × Curs :=
  letK (α := Bool × Curs) (s_l1Once y0 12) fun c1 =>
  bif c1.1 then
    letK (α := Int × Curs) (s_l1Whole c1.2) fun c2 =>
    (c2.1, c2.2)
  else
  letK (α := Int × Curs) (s_l2Deep c1.2) fun c3 =>
  (c3.1, c3.2)
theorem s_l4Place_lk (y0 : Curs) : evalFnM te (orcOf (P := Try.prog) [s_l1Once_e, s_l1Whole_e, s_l2Deep_e]) lorc0 [] Try.f101 (pvs [.wr false [.ptr 0]] ((), ())) (mos [.box [.c (.sl .u8), .c (.int .i64), .c (.int .i64)]] ((y0.b, y0.i, y0.h, ()), ())) =
  s_l4Place_N y0 _ none (fun v => some ([(false, [RC.c (.int .i64 v.1)])] ++ (mos [.box [.c (.sl .u8), .c (.int .i64), .c (.int .i64)]] ((v.2.b, v.2.i, v.2.h, ()), ())).map encO)) := by kernel_rfl
theorem s_l4Place_p (y0 : Curs) (hy0_b : y0.b.length ≤ 140737488355328) (hy0_i : inK .i64 y0.i) (hy0_h : inK .i64 y0.h) (hp : 0 ≤ y0.i ∧ y0.b.length ≤ 1048576) (γ : Type) (fail : γ) (k : Int × Curs → γ) : s_l4Place_N y0 γ fail k = k (s_l4Place y0) := by
  unfold s_l4Place_N s_l4Place
  exact bifG (by (try simp only [Nat.ble_eq, Bool.and_eq_true, decide_eq_true_eq]); grind [maxSl, maxStr, toBytes_length, toInts_length, List.length_set, wrap64, s_l1Once_cur, s_l1Whole_cur, s_l2Deep_cur]) (letT (f := k) (fun c1 hc1 => have kc1 : 0 ≤ c1.2.i ∧ c1.2.b.length ≤ 1048576 := (by rw [hc1]; exact s_l1Once_cur _ _ (by first | assumption | exact ⟨by assumption, by assumption⟩ | grind [maxSl, wrap64])); bifT (f := k) (fun b0 => bifG (by (try simp only [Nat.ble_eq, Bool.and_eq_true, decide_eq_true_eq]); grind [maxSl, maxStr, toBytes_length, toInts_length, List.length_set, wrap64, s_l1Once_cur, s_l1Whole_cur, s_l2Deep_cur]) (letT (f := k) (fun c2 hc2 => have kc2 : 0 ≤ c2.2.i ∧ c2.2.b.length ≤ 1048576 := (by rw [hc2]; exact s_l1Whole_cur _ (by first | assumption | exact ⟨by assumption, by assumption⟩ | grind [maxSl, wrap64])); rfl)))
      (fun b0 => bifG (by (try simp only [Nat.ble_eq, Bool.and_eq_true, decide_eq_true_eq]); grind [maxSl, maxStr, toBytes_length, toInts_length, List.length_set, wrap64, s_l1Once_cur, s_l1Whole_cur, s_l2Deep_cur]) (letT (f := k) (fun c3 hc3 => have kc3 : 0 ≤ c3.2.i ∧ c3.2.b.length ≤ 1048576 := (by rw [hc3]; exact s_l2Deep_cur _ (by first | assumption | exact ⟨by assumption, by assumption⟩ | grind [maxSl, wrap64])); rfl)))))
theorem s_l4Place_c (y0 : Curs) (hp : 0 ≤ y0.i ∧ y0.b.length ≤ 1048576) : ConM Try.prog 101 (pvs [.wr false [.ptr 0]] ((), ())) (mos [.box [.c (.sl .u8), .c (.int .i64), .c (.int .i64)]] ((y0.b, y0.i, y0.h, ()), ())) [rv (.sc (.int .i64)) [] (s_l4Place y0).1] (mos [.box [.c (.sl .u8), .c (.int .i64), .c (.int .i64)]] ((((s_l4Place y0).2).b, ((s_l4Place y0).2).i, ((s_l4Place y0).2).h, ()), ())) := by
  refine ConM.of_facts (enters_of Try.func101 rfl (by kernel_rfl)) fun hf hg => ?_
  replace hf := factAt hf
  exact evalFn_conLM teFact mixFact (orcOf_ok _) Try.func101 (by kernel_rfl) (bs := []) (by kernel_rfl) (by kernel_rfl) (by kernel_rfl) rfl (fun w0 mo I0 hmo => trivial) ((s_l4Place_lk y0).trans (s_l4Place_p y0 ((mbAt hg 0 0 rfl rfl).len) ((mbAt hg 0 1 rfl rfl).rng) ((mbAt hg 0 2 rfl rfl).rng) hp _ _ _))
noncomputable def s_l4Place_e : Ent1 Try.prog := entM 101 [.wr false [.ptr 0]] [.box [.c (.sl .u8), .c (.int .i64), .c (.int .i64)]] (fun x y => (decide (0 ≤ (⟨y.1.1, y.1.2.1, y.1.2.2.1⟩ : Curs).i ∧ (⟨y.1.1, y.1.2.1, y.1.2.2.1⟩ : Curs).b.length ≤ 1048576))) (fun x y => (s_l4Place (⟨y.1.1, y.1.2.1, y.1.2.2.1⟩ : Curs))) (fun v => [rv (.sc (.int .i64)) [] v.1]) (fun x y v => (mos [.box [.c (.sl .u8), .c (.int .i64), .c (.int .i64)]] ((v.2.b, v.2.i, v.2.h, ()), ()))) (fun x y hx => s_l4Place_c (⟨y.1.1, y.1.2.1, y.1.2.2.1⟩ : Curs) (of_decide_eq_true hx))

theorem s_l4Place_cur (y0 : Curs)  (hc0 : 0 ≤ y0.i ∧ y0.b.length ≤ 1048576) : 0 ≤ (s_l4Place y0).2.i ∧ (s_l4Place y0).2.b.length ≤ 1048576 := by
  unfold s_l4Place
  exact letP (P := (fun v : Int × Curs => 0 ≤ v.2.i ∧ v.2.b.length ≤ 1048576)) (fun c1 hc1 => have kc1 : 0 ≤ c1.2.i ∧ c1.2.b.length ≤ 1048576 := (by rw [hc1]; exact s_l1Once_cur _ _ (by first | assumption | exact ⟨by assumption, by assumption⟩ | grind [maxSl, wrap64])); bifP (P := (fun v : Int × Curs => 0 ≤ v.2.i ∧ v.2.b.length ≤ 1048576)) (fun b0 => letP (P := (fun v : Int × Curs => 0 ≤ v.2.i ∧ v.2.b.length ≤ 1048576)) (fun c2 hc2 => have kc2 : 0 ≤ c2.2.i ∧ c2.2.b.length ≤ 1048576 := (by rw [hc2]; exact s_l1Whole_cur _ (by first | assumption | exact ⟨by assumption, by assumption⟩ | grind [maxSl, wrap64])); (by (try simp only [Nat.ble_eq, Bool.and_eq_true, decide_eq_true_eq]); grind [maxSl, maxStr, toBytes_length, toInts_length, List.length_set, wrap64, s_l1Once_cur, s_l1Whole_cur, s_l2Deep_cur])))
      (fun b0 => letP (P := (fun v : Int × Curs => 0 ≤ v.2.i ∧ v.2.b.length ≤ 1048576)) (fun c3 hc3 => have kc3 : 0 ≤ c3.2.i ∧ c3.2.b.length ≤ 1048576 := (by rw [hc3]; exact s_l2Deep_cur _ (by first | assumption | exact ⟨by assumption, by assumption⟩ | grind [maxSl, wrap64])); (by (try simp only [Nat.ble_eq, Bool.and_eq_true, decide_eq_true_eq]); grind [maxSl, maxStr, toBytes_length, toInts_length, List.length_set, wrap64, s_l1Once_cur, s_l1Whole_cur, s_l2Deep_cur]))))

/-- spec.l12Bent -/
def s_l12Bent_N (y0 : Curs) (γ : Type) (fail : γ) (k : Tupl × Curs → γ) : γ :=
  bif (decide (0 ≤ y0.i ∧ y0.b.length ≤ 1048576)) then
  letK (α := Tupl × Curs) (s_l12Tuple y0) fun c1 =>
  bif (decide (0 ≤ c1.2.i ∧ c1.2.b.length ≤ 1048576)) then
  letK (α := Int × Curs) (s_l1Below c1.2 10) fun c2 =>
  bif (c2.1 == 0) then
    bif (decide (0 ≤ c2.2.i ∧ c2.2.b.length ≤ 1048576)) then
    letK (α := Int × Curs) (s_l2Word c2.2) fun c3 =>
    k (({ c1.1 with ip := c3.1 } : Tupl), c3.2)
    else fail
  else
  bif (c2.1 == 1) then
    bif (decide (0 ≤ c2.2.i ∧ c2.2.b.length ≤ 1048576)) then
    letK (α := Int × Curs) (s_l2Word c2.2) fun c4 =>
    k (({ c1.1 with port := c4.1 } : Tupl), c4.2)
    else fail
  else
  bif (c2.1 == 2) then
    bif (decide (0 ≤ c2.2.i ∧ c2.2.b.length ≤ 1048576)) then
    letK (α := Int × Curs) (s_l2Word c2.2) fun c5 =>
    k (({ c1.1 with my := c5.1 } : Tupl), c5.2)
    else fail
  else
  k (c1.1, c2.2)
  else fail
  else fail
def s_l12Bent (y0 : Curs) : Tupl × Curs :=
  letK (α := Tupl × Curs) (s_l12Tuple y0) fun c1 =>
  letK (α := Int × Curs) (s_l1Below c1.2 10) fun c2 =>
  bif (c2.1 == 0) then
    letK (α := Int × Curs) (s_l2Word c2.2) fun c3 =>
    (({ c1.1 with ip := c3.1 } : Tupl), c3.2)
  else
  bif (c2.1 == 1) then
    letK (α := Int × Curs) (s_l2Word c2.2) fun c4 =>
    (({ c1.1 with port := c4.1 } : Tupl), c4.2)
  else
  bif (c2.1 == 2) then
    letK (α := Int × Curs) (s_l2Word c2.2) fun c5 =>
    (({ c1.1 with my := c5.1 } : Tupl), c5.2)
  else
  (c1.1, c2.2)
theorem s_l12Bent_lk (y0 : Curs) : evalFnM te (orcOf (P := Try.prog) [s_l12Tuple_e, s_l1Below_e, s_l2Word_e]) lorc0 [] Try.f94 (pvs [.wr false [.ptr 0]] ((), ())) (mos [.box [.c (.sl .u8), .c (.int .i64), .c (.int .i64)]] ((y0.b, y0.i, y0.h, ()), ())) =
  s_l12Bent_N y0 _ none (fun v => some ([(true, [RC.c (.int .i64 v.1.ip), RC.c (.int .i64 v.1.port), RC.c (.int .i64 v.1.my)])] ++ (mos [.box [.c (.sl .u8), .c (.int .i64), .c (.int .i64)]] ((v.2.b, v.2.i, v.2.h, ()), ())).map encO)) := by kernel_rfl
theorem s_l12Bent_p (y0 : Curs) (hy0_b : y0.b.length ≤ 140737488355328) (hy0_i : inK .i64 y0.i) (hy0_h : inK .i64 y0.h) (hp : 0 ≤ y0.i ∧ y0.b.length ≤ 1048576) (γ : Type) (fail : γ) (k : Tupl × Curs → γ) : s_l12Bent_N y0 γ fail k = k (s_l12Bent y0) := by
  unfold s_l12Bent_N s_l12Bent
  exact bifG (by (try simp only [Nat.ble_eq, Bool.and_eq_true, decide_eq_true_eq]); grind [maxSl, maxStr, toBytes_length, toInts_length, List.length_set, wrap64, s_l12Tuple_cur, s_l1Below_rng, s_l1Below_cur, s_l2Word_cur]) (letT (f := k) (fun c1 hc1 => have kc1 : 0 ≤ c1.2.i ∧ c1.2.b.length ≤ 1048576 := (by rw [hc1]; exact s_l12Tuple_cur _ (by first | assumption | exact ⟨by assumption, by assumption⟩ | grind [maxSl, wrap64])); bifG (by (try simp only [Nat.ble_eq, Bool.and_eq_true, decide_eq_true_eq]); grind [maxSl, maxStr, toBytes_length, toInts_length, List.length_set, wrap64, s_l12Tuple_cur, s_l1Below_rng, s_l1Below_cur, s_l2Word_cur]) (letT (f := k) (fun c2 hc2 => have rc2 := s_l1Below_rng c1.2 10 (by first | assumption | exact ⟨by assumption, by assumption⟩ | grind [maxSl, wrap64]); have kc2 : 0 ≤ c2.2.i ∧ c2.2.b.length ≤ 1048576 := (by rw [hc2]; exact s_l1Below_cur _ _ (by first | assumption | exact ⟨by assumption, by assumption⟩ | grind [maxSl, wrap64])); bifT (f := k) (fun b0 => bifG (by (try simp only [Nat.ble_eq, Bool.and_eq_true, decide_eq_true_eq]); grind [maxSl, maxStr, toBytes_length, toInts_length, List.length_set, wrap64, s_l12Tuple_cur, s_l1Below_rng, s_l1Below_cur, s_l2Word_cur]) (letT (f := k) (fun c3 hc3 => have kc3 : 0 ≤ c3.2.i ∧ c3.2.b.length ≤ 1048576 := (by rw [hc3]; exact s_l2Word_cur _ (by first | assumption | exact ⟨by assumption, by assumption⟩ | grind [maxSl, wrap64])); rfl)))
      (fun b0 => bifT (f := k) (fun b1 => bifG (by (try simp only [Nat.ble_eq, Bool.and_eq_true, decide_eq_true_eq]); grind [maxSl, maxStr, toBytes_length, toInts_length, List.length_set, wrap64, s_l12Tuple_cur, s_l1Below_rng, s_l1Below_cur, s_l2Word_cur]) (letT (f := k) (fun c4 hc4 => have kc4 : 0 ≤ c4.2.i ∧ c4.2.b.length ≤ 1048576 := (by rw [hc4]; exact s_l2Word_cur _ (by first | assumption | exact ⟨by assumption, by assumption⟩ | grind [maxSl, wrap64])); rfl)))
      (fun b1 => bifT (f := k) (fun b2 => bifG (by (try simp only [Nat.ble_eq, Bool.and_eq_true, decide_eq_true_eq]); grind [maxSl, maxStr, toBytes_length, toInts_length, List.length_set, wrap64, s_l12Tuple_cur, s_l1Below_rng, s_l1Below_cur, s_l2Word_cur]) (letT (f := k) (fun c5 hc5 => have kc5 : 0 ≤ c5.2.i ∧ c5.2.b.length ≤ 1048576 := (by rw [hc5]; exact s_l2Word_cur _ (by first | assumption | exact ⟨by assumption, by assumption⟩ | grind [maxSl, wrap64])); rfl)))
      (fun b2 => rfl)))))))
theorem s_l12Bent_c (y0 : Curs) (hp : 0 ≤ y0.i ∧ y0.b.length ≤ 1048576) : ConM Try.prog 94 (pvs [.wr false [.ptr 0]] ((), ())) (mos [.box [.c (.sl .u8), .c (.int .i64), .c (.int .i64)]] ((y0.b, y0.i, y0.h, ()), ())) [rv (.st .tupl) [] (s_l12Bent y0).1] (mos [.box [.c (.sl .u8), .c (.int .i64), .c (.int .i64)]] ((((s_l12Bent y0).2).b, ((s_l12Bent y0).2).i, ((s_l12Bent y0).2).h, ()), ())) := by
  refine ConM.of_facts (enters_of Try.func94 rfl (by kernel_rfl)) fun hf hg => ?_
  replace hf := factAt hf
  exact evalFn_conLM teFact mixFact (orcOf_ok _) Try.func94 (by kernel_rfl) (bs := []) (by kernel_rfl) (by kernel_rfl) (by kernel_rfl) rfl (fun w0 mo I0 hmo => trivial) ((s_l12Bent_lk y0).trans (s_l12Bent_p y0 ((mbAt hg 0 0 rfl rfl).len) ((mbAt hg 0 1 rfl rfl).rng) ((mbAt hg 0 2 rfl rfl).rng) hp _ _ _))
noncomputable def s_l12Bent_e : Ent1 Try.prog := entM 94 [.wr false [.ptr 0]] [.box [.c (.sl .u8), .c (.int .i64), .c (.int .i64)]] (fun x y => (decide (0 ≤ (⟨y.1.1, y.1.2.1, y.1.2.2.1⟩ : Curs).i ∧ (⟨y.1.1, y.1.2.1, y.1.2.2.1⟩ : Curs).b.length ≤ 1048576))) (fun x y => (s_l12Bent (⟨y.1.1, y.1.2.1, y.1.2.2.1⟩ : Curs))) (fun v => [rv (.st .tupl) [] v.1]) (fun x y v => (mos [.box [.c (.sl .u8), .c (.int .i64), .c (.int .i64)]] ((v.2.b, v.2.i, v.2.h, ()), ()))) (fun x y hx => s_l12Bent_c (⟨y.1.1, y.1.2.1, y.1.2.2.1⟩ : Curs) (of_decide_eq_true hx))

theorem s_l12Bent_cur (y0 : Curs)  (hc0 : 0 ≤ y0.i ∧ y0.b.length ≤ 1048576) : 0 ≤ (s_l12Bent y0).2.i ∧ (s_l12Bent y0).2.b.length ≤ 1048576 := by
  unfold s_l12Bent
  exact letP (P := (fun v : Tupl × Curs => 0 ≤ v.2.i ∧ v.2.b.length ≤ 1048576)) (fun c1 hc1 => have kc1 : 0 ≤ c1.2.i ∧ c1.2.b.length ≤ 1048576 := (by rw [hc1]; exact s_l12Tuple_cur _ (by first | assumption | exact ⟨by assumption, by assumption⟩ | grind [maxSl, wrap64])); letP (P := (fun v : Tupl × Curs => 0 ≤ v.2.i ∧ v.2.b.length ≤ 1048576)) (fun c2 hc2 => have rc2 := s_l1Below_rng c1.2 10 (by first | assumption | exact ⟨by assumption, by assumption⟩ | grind [maxSl, wrap64]); have kc2 : 0 ≤ c2.2.i ∧ c2.2.b.length ≤ 1048576 := (by rw [hc2]; exact s_l1Below_cur _ _ (by first | assumption | exact ⟨by assumption, by assumption⟩ | grind [maxSl, wrap64])); bifP (P := (fun v : Tupl × Curs => 0 ≤ v.2.i ∧ v.2.b.length ≤ 1048576)) (fun b0 => letP (P := (fun v : Tupl × Curs => 0 ≤ v.2.i ∧ v.2.b.length ≤ 1048576)) (fun c3 hc3 => have kc3 : 0 ≤ c3.2.i ∧ c3.2.b.length ≤ 1048576 := (by rw [hc3]; exact s_l2Word_cur _ (by first | assumption | exact ⟨by assumption, by assumption⟩ | grind [maxSl, wrap64])); (by (try simp only [Nat.ble_eq, Bool.and_eq_true, decide_eq_true_eq]); grind [maxSl, maxStr, toBytes_length, toInts_length, List.length_set, wrap64, s_l12Tuple_cur, s_l1Below_rng, s_l1Below_cur, s_l2Word_cur])))
      (fun b0 => bifP (P := (fun v : Tupl × Curs => 0 ≤ v.2.i ∧ v.2.b.length ≤ 1048576)) (fun b1 => letP (P := (fun v : Tupl × Curs => 0 ≤ v.2.i ∧ v.2.b.length ≤ 1048576)) (fun c4 hc4 => have kc4 : 0 ≤ c4.2.i ∧ c4.2.b.length ≤ 1048576 := (by rw [hc4]; exact s_l2Word_cur _ (by first | assumption | exact ⟨by assumption, by assumption⟩ | grind [maxSl, wrap64])); (by (try simp only [Nat.ble_eq, Bool.and_eq_true, decide_eq_true_eq]); grind [maxSl, maxStr, toBytes_length, toInts_length, List.length_set, wrap64, s_l12Tuple_cur, s_l1Below_rng, s_l1Below_cur, s_l2Word_cur])))
      (fun b1 => bifP (P := (fun v : Tupl × Curs => 0 ≤ v.2.i ∧ v.2.b.length ≤ 1048576)) (fun b2 => letP (P := (fun v : Tupl × Curs => 0 ≤ v.2.i ∧ v.2.b.length ≤ 1048576)) (fun c5 hc5 => have kc5 : 0 ≤ c5.2.i ∧ c5.2.b.length ≤ 1048576 := (by rw [hc5]; exact s_l2Word_cur _ (by first | assumption | exact ⟨by assumption, by assumption⟩ | grind [maxSl, wrap64])); (by (try simp only [Nat.ble_eq, Bool.and_eq_true, decide_eq_true_eq]); grind [maxSl, maxStr, toBytes_length, toInts_length, List.length_set, wrap64, s_l12Tuple_cur, s_l1Below_rng, s_l1Below_cur, s_l2Word_cur])))
      (fun b2 => (by (try simp only [Nat.ble_eq, Bool.and_eq_true, decide_eq_true_eq]); grind [maxSl, maxStr, toBytes_length, toInts_length, List.length_set, wrap64, s_l12Tuple_cur, s_l1Below_rng, s_l1Below_cur, s_l2Word_cur]))))))

end Go.Proofs.Ytbikbonhcfbmeaa
