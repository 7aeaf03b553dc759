/-
  Contracts of functions and plain laws (printed by a program): each theorem says what a function of the program returns; conditions are its hypotheses.
-/
import Derived.Test.YthlhmhlphnjjkaaA1
set_option maxRecDepth 4000
set_option linter.unusedVariables false
set_option linter.unusedSimpArgs false
namespace Go.Proofs.Ythlhmhlphnjjkaa
open Go Go.RowKit

/-- slices.Contains[[]string,string] -/
def g_Contains_string_N (x0 : List Bytes) (x1 : Bytes) (γ : Type) (fail : γ) (k : Bool → γ) : γ :=
  letK (α := Int) (g_Index_string x0 x1) fun c1 =>
  k (decide (0 ≤ c1))
def g_Contains_string (x0 : List Bytes) (x1 : Bytes) : Bool :=
  letK (α := Int) (g_Index_string x0 x1) fun c1 =>
  (decide (0 ≤ c1))
theorem g_Contains_string_lk (x0 : List Bytes) (x1 : Bytes) : evalFn te (orcOf (P := Try.prog) [g_Index_string_e]) lorc0 [] Try.f77 (pvs [.sc (.sl .str), .sc .str] (x0, x1, ())) =
  g_Contains_string_N x0 x1 _ none (fun v => some [(false, [RC.c (.bool v)])]) := by kernel_rfl
theorem g_Contains_string_p (x0 : List Bytes) (x1 : Bytes)   (γ : Type) (fail : γ) (k : Bool → γ) : g_Contains_string_N x0 x1 γ fail k = k (g_Contains_string x0 x1) := by
  unfold g_Contains_string_N g_Contains_string
  exact letT (f := k) (fun c1 hc1 => rfl)
theorem g_Contains_string_c (x0 : List Bytes) (x1 : Bytes)  : Con Try.prog 77 (pvs [.sc (.sl .str), .sc .str] (x0, x1, ())) [rv (.sc .bool) [] (g_Contains_string x0 x1)] := by
  exact evalFn_con0 teFact mixFact (orcOf_ok _) Try.func77 (by kernel_rfl) ((g_Contains_string_lk x0 x1).trans (g_Contains_string_p x0 x1  _ _ _))
noncomputable def g_Contains_string_e : Ent1 Try.prog := entA 77 [.sc (.sl .str), .sc .str] (fun x => (g_Contains_string x.1 x.2.1)) (fun v => [rv (.sc .bool) [] v]) (fun x => g_Contains_string_c x.1 x.2.1)


/-- spec.TupleOk -/
def s_TupleOk_N (x0 : Tupl) (γ : Type) (fail : γ) (k : Bool → γ) : γ :=
  letK (α := Bool) (s_WordOk x0.ip 32) fun c1 =>
  bif c1 then
    letK (α := Bool) (s_WordOk x0.port 16) fun c2 =>
    bif c2 then
      letK (α := Bool) (s_WordOk x0.my 16) fun c3 =>
      k c3
    else
    k false
  else
  k false
def s_TupleOk (x0 : Tupl) : Bool :=
  letK (α := Bool) (s_WordOk x0.ip 32) fun c1 =>
  bif c1 then
    letK (α := Bool) (s_WordOk x0.port 16) fun c2 =>
    bif c2 then
      letK (α := Bool) (s_WordOk x0.my 16) fun c3 =>
      c3
    else
    false
  else
  false
theorem s_TupleOk_lk (x0 : Tupl) : evalFn te (orcOf (P := Try.prog) [s_WordOk_e]) lorc0 [] Try.f81 (pvs [.st .tupl] (x0, ())) =
  s_TupleOk_N x0 _ none (fun v => some [(false, [RC.c (.bool v)])]) := by kernel_rfl
theorem s_TupleOk_p (x0 : Tupl)   (γ : Type) (fail : γ) (k : Bool → γ) : s_TupleOk_N x0 γ fail k = k (s_TupleOk x0) := by
  unfold s_TupleOk_N s_TupleOk
  exact letT (f := k) (fun c1 hc1 => bifT (f := k) (fun b0 => letT (f := k) (fun c2 hc2 => bifT (f := k) (fun b1 => letT (f := k) (fun c3 hc3 => rfl))
      (fun b1 => rfl)))
      (fun b0 => rfl))
theorem s_TupleOk_c (x0 : Tupl)  : Con Try.prog 81 (pvs [.st .tupl] (x0, ())) [rv (.sc .bool) [] (s_TupleOk x0)] := by
  exact evalFn_con0 teFact mixFact (orcOf_ok _) Try.func81 (by kernel_rfl) ((s_TupleOk_lk x0).trans (s_TupleOk_p x0  _ _ _))
noncomputable def s_TupleOk_e : Ent1 Try.prog := entA 81 [.st .tupl] (fun x => (s_TupleOk x.1)) (fun v => [rv (.sc .bool) [] v]) (fun x => s_TupleOk_c x.1)


/-- impl.SameMac -/
def i_SameMac_N (x0 : Mac) (x1 : Mac) (γ : Type) (fail : γ) (k : Bool → γ) : γ :=
  bif (x0.use == x1.use) then
    bif (x0.k == x1.k) then
      bif (x0.l == x1.l) then
        letK (α := Bool) (g_Equal_MacRow x0.rows x1.rows) fun c1 =>
        k c1
      else
      k false
    else
    k false
  else
  k false
def i_SameMac (x0 : Mac) (x1 : Mac) : Bool :=
  bif (x0.use == x1.use) then
    bif (x0.k == x1.k) then
      bif (x0.l == x1.l) then
        letK (α := Bool) (g_Equal_MacRow x0.rows x1.rows) fun c1 =>
        c1
      else
      false
    else
    false
  else
  false
theorem i_SameMac_lk (x0 : Mac) (x1 : Mac) : evalFn te (orcOf (P := Try.prog) [g_Equal_MacRow_e]) lorc0 [] Try.f84 (pvs [.st .mac, .st .mac] (x0, x1, ())) =
  i_SameMac_N x0 x1 _ none (fun v => some [(false, [RC.c (.bool v)])]) := by kernel_rfl
theorem i_SameMac_p (x0 : Mac) (x1 : Mac)   (γ : Type) (fail : γ) (k : Bool → γ) : i_SameMac_N x0 x1 γ fail k = k (i_SameMac x0 x1) := by
  unfold i_SameMac_N i_SameMac
  exact bifT (f := k) (fun b0 => bifT (f := k) (fun b1 => bifT (f := k) (fun b2 => letT (f := k) (fun c1 hc1 => rfl))
      (fun b2 => rfl))
      (fun b1 => rfl))
      (fun b0 => rfl)
theorem i_SameMac_c (x0 : Mac) (x1 : Mac)  : Con Try.prog 84 (pvs [.st .mac, .st .mac] (x0, x1, ())) [rv (.sc .bool) [] (i_SameMac x0 x1)] := by
  exact evalFn_con0 teFact mixFact (orcOf_ok _) Try.func84 (by kernel_rfl) ((i_SameMac_lk x0 x1).trans (i_SameMac_p x0 x1  _ _ _))
noncomputable def i_SameMac_e : Ent1 Try.prog := entA 84 [.st .mac, .st .mac] (fun x => (i_SameMac x.1 x.2.1)) (fun v => [rv (.sc .bool) [] v]) (fun x => i_SameMac_c x.1 x.2.1)


/-- spec.PutWord -/
def s_PutWord_ann : List (Nat × Keep) := [(0, ⟨[0, 5, 6], [], false, 0⟩)]
def s_PutWord_L0_sh : Sh := ⟨[(0, false, [.int .i64]), (5, false, [.own 0]), (6, false, [.int .i64])], [.arr .u8 false true]⟩
def s_PutWord_L0_es : List (Ex × Sh) := [(.exit 0, ⟨[(4, false, [.undef]), (5, false, [.own 0])], [.arr .u8 false true]⟩)]
def s_PutWord_L0_mk (v0 : Int) (v1 : Int) (v2 : List Int) : s_PutWord_L0_sh.T := (((v0, ()), (((), ()), ((v1, ()), ()))), (v2, ()))
def s_PutWord_L0_mx0 (y0 : List Int) : Sh.T ⟨[(4, false, [.undef]), (5, false, [.own 0])], [.arr .u8 false true]⟩ := ((((), ()), (((), ()), ())), (y0, ()))
def s_PutWord_L0_B (v0 : Int) (v1 : Int) (v2 : List Int) (γ : Type) (fail : γ) (next : s_PutWord_L0_sh.T → γ) (out : WT s_PutWord_L0_es → γ) : γ :=
  bif (decide (0 ≤ v1)) then
    bif ((decide (0 ≤ v1)) && (decide (v1 < (v2.length : Int)))) then
    next (s_PutWord_L0_mk (IntKind.wrap .i64 (v0.tdiv 256)) (IntKind.wrap .i64 (v1 - 1)) (v2.set v1.toNat (IntKind.wrap .u8 (v0.tmod 256))))
    else fail
  else
  out (s_PutWord_L0_mx0 v2)
theorem s_PutWord_L0_par (v0 : Int) (v1 : Int) (v2 : List Int) (γ : Type) (fail : γ) (next : s_PutWord_L0_sh.T → γ) (out : WT s_PutWord_L0_es → γ) : s_PutWord_L0_B v0 v1 v2 γ fail next out = optK (s_PutWord_L0_B v0 v1 v2 _ none (fun v' => some (.inl v')) (fun w => some (.inr w))) fail (fun r => Sum.elim next out r) := by
  unfold s_PutWord_L0_B
  exact bifT (f := (fun o => optK o fail (fun r => Sum.elim next out r))) (fun _ => bifT (f := (fun o => optK o fail (fun r => Sum.elim next out r))) (fun _ => rfl) (fun _ => rfl))
      (fun _ => rfl)
def s_PutWord_L0_r : Round s_PutWord_L0_sh.T (WT s_PutWord_L0_es) where
  B v γ fail next out := s_PutWord_L0_B v.1.1.1 v.1.2.2.1.1 v.2.1 γ fail next out
  par v γ fail next out := s_PutWord_L0_par v.1.1.1 v.1.2.2.1.1 v.2.1 γ fail next out
def s_PutWord_L0_fu (v0 : Int) (v1 : Int) (v2 : List Int) : Nat := (Int.toNat (v1 - 0 + 1)) + 1
theorem s_PutWord_L0_lk (v : s_PutWord_L0_sh.T) (next : St → Option Res) (k : Ex → St → Option Res) : evalK te (orcOf (P := Try.prog) [s_l1In_e, s_WordOk_e]) (lorcOf []) Try.f100.ntmps s_PutWord_ann (nthLoop (bodyOf Try.f100) 0 0) 0 (s_PutWord_L0_sh.enc v) (endK ⟨[0, 5, 6], [], false, 0⟩ ⟨[4, 5], [], false, 0⟩ next k) =
  s_PutWord_L0_r.B v _ none (fun v' => next (s_PutWord_L0_sh.enc v')) (fun w => outK s_PutWord_L0_es k w) := by kernel_rfl
def s_PutWord_L0_le : LE := leOf 0 s_PutWord_L0_sh s_PutWord_L0_es s_PutWord_L0_r.step (fun v => s_PutWord_L0_fu v.1.1.1 v.1.2.2.1.1 v.2.1)
theorem s_PutWord_L0_ls (w0 : World) (mo : Mts) (I0 : Nat → Prop) (hmo : mo.length = 0) : LSem Try.prog (Sim w0 mo Try.f100.ntmps I0) (fun b s k => match Nat.beq 0 b with | true => s_PutWord_L0_le.run s k | false => none) 0 (nthLoop (bodyOf Try.f100) 0 0) :=
  le_sem hmo (lorc := lorcOf []) (ann := s_PutWord_ann) (keep := ⟨[0, 5, 6], [], false, 0⟩) (kout := ⟨[4, 5], [], false, 0⟩) teFact mixFact (orcOf_ok _) (by kernel_rfl) (allLoops_of (bs := []) (by kernel_rfl) trivial) s_PutWord_L0_r _ s_PutWord_L0_lk
def s_PutWord_L0_f  (v1 : Int) (a : Int × List Int) : Stp (Int × List Int) (Empty) :=
  .next ((IntKind.wrap .i64 (a.1.tdiv 256)), (a.2.set v1.toNat (IntKind.wrap .u8 (a.1.tmod 256))))
theorem s_PutWord_L0_st (v0 : Int) (v1 : Int) (v2 : List Int) (hlo : 0 ≤ v1) (hhi : v1 ≤ 9223372036854775807) (hN : 0 ≤ 0) (hinv : v1 < (v2.length : Int)) : s_PutWord_L0_r.step (s_PutWord_L0_mk v0 v1 v2) = Stp.elim (fun a' : Int × List Int => some (Sum.inl (s_PutWord_L0_mk a'.1 (v1 + (-1)) a'.2))) (fun w => some (Sum.inr ((fun p : Empty => nomatch p) w))) (s_PutWord_L0_f  v1 (v0, v2)) := by
  have hw : (IntKind.wrap .i64 (v1 - 1)) = v1 + (-1) := wrap64 (by omega) (by omega)
  show s_PutWord_L0_B v0 v1 v2 (Option (s_PutWord_L0_sh.T ⊕ WT s_PutWord_L0_es)) none (fun v' => some (Sum.inl v')) (fun w => some (Sum.inr w)) = _
  unfold s_PutWord_L0_B s_PutWord_L0_f
  exact bifG (by simp only [decide_eq_true_eq]; omega) (bifG (by (try simp only [Nat.ble_eq, Bool.and_eq_true, decide_eq_true_eq]); grind [maxSl, maxStr, toBytes_length, toInts_length, List.length_set, wrap64]) (congrArg (fun z => some (Sum.inl (s_PutWord_L0_mk (IntKind.wrap .i64 (v0.tdiv 256)) z (v2.set v1.toNat (IntKind.wrap .u8 (v0.tmod 256)))))) hw))
theorem s_PutWord_L0_cl (v0 : Int) (v1 : Int) (v2 : List Int) (h0 : v1 ≤ 9223372036854775807) (h1 : 0 ≤ 0) (h2 : v1 < (v2.length : Int)) : loopF s_PutWord_L0_r.step (s_PutWord_L0_fu v0 v1 v2) (s_PutWord_L0_mk v0 v1 v2) = some (Stp.elim (fun a => (fun i a => s_PutWord_L0_mx0 a.2) (v1 + (-1) * (((Int.toNat (v1 - 0 + 1)) : Nat) : Int)) a) (fun p : Empty => nomatch p) (forN (s_PutWord_L0_f ) (-1) (Int.toNat (v1 - 0 + 1)) v1 (v0, v2))) :=
  forN_loop (step := s_PutWord_L0_r.step) (mk := fun v1 a => s_PutWord_L0_mk a.1 v1 a.2) (f := s_PutWord_L0_f ) (e := (fun i a => s_PutWord_L0_mx0 a.2)) (emb := (fun p : Empty => nomatch p)) (st := (-1)) (Inv := fun v1 a => v1 < (a.2.length : Int)) (Int.toNat (v1 - 0 + 1)) v1 (v0, v2) _ (Nat.lt_succ_self _) h2
    (fun j a hj hv => ⟨s_PutWord_L0_st a.1 (v1 + (-1) * (j : Int)) a.2 (by omega) (by omega) (by omega) hv, by
      intro a' he
      grind [s_PutWord_L0_f, letK, Stp.elim, wrap64, List.length_set]⟩)
    (fun a hv => by
      show s_PutWord_L0_B a.1 (v1 + (-1) * (((Int.toNat (v1 - 0 + 1)) : Nat) : Int)) a.2 (Option (s_PutWord_L0_sh.T ⊕ WT s_PutWord_L0_es)) none (fun v' => some (Sum.inl v')) (fun w => some (Sum.inr w)) = _
      unfold s_PutWord_L0_B
      exact bifN (by simp only [decide_eq_false_iff_not]; omega) rfl)
theorem s_PutWord_L0_nx (v0 : Int) (v1 : Int) (v2 : List Int) (h0 : v1 ≤ 9223372036854775807) (h1 : 0 ≤ 0) (h2 : v1 < (v2.length : Int)) : ∀ a', forN (s_PutWord_L0_f ) (-1) (Int.toNat (v1 - 0 + 1)) v1 (v0, v2) = .next a' → (v1 + (-1) * (((Int.toNat (v1 - 0 + 1)) : Nat) : Int)) < (a'.2.length : Int) :=
  forN_inv (f := s_PutWord_L0_f ) (st := (-1)) (Inv := fun v1 a => v1 < (a.2.length : Int)) (Int.toNat (v1 - 0 + 1)) v1 (v0, v2) h2
    (fun j a hj hv => by
      intro a' he
      grind [s_PutWord_L0_f, letK, Stp.elim, wrap64, List.length_set])
def s_PutWord_N (x0 : Int) (x1 : Int) (γ : Type) (fail : γ) (k : Bytes → γ) : γ :=
  letK (α := Bool) (s_l1In x1 1 6) fun c1 =>
  bif (!c1) then
    k []
  else
  letK (α := Bool) (s_WordOk x0 (IntKind.wrap .i64 (8 * x1))) fun c2 =>
  bif (!c2) then
    k []
  else
  bif ((((decide (0 ≤ x1)) && (decide (x1 = x1))) && (decide (x1 * 1 ≤ (maxSl : Int)))) && (decide (x1 ≤ (maxSl : Int)))) then
  optK (loopF s_PutWord_L0_r.step (s_PutWord_L0_fu x0 (IntKind.wrap .i64 (x1 - 1)) (List.replicate x1.toNat 0)) (s_PutWord_L0_mk x0 (IntKind.wrap .i64 (x1 - 1)) (List.replicate x1.toNat 0))) fail fun w3 =>
    k (toBytes w3.2.1)
  else fail
def s_PutWord (x0 : Int) (x1 : Int) : Bytes :=
  letK (α := Bool) (s_l1In x1 1 6) fun c1 =>
  bif (!c1) then
    []
  else
  letK (α := Bool) (s_WordOk x0 (IntKind.wrap .i64 (8 * x1))) fun c2 =>
  bif (!c2) then
    []
  else
  Stp.elim (fun a4 =>
    (toBytes a4.2))
    (fun p : Empty => nomatch p)
    (forN (s_PutWord_L0_f) (-1) (Int.toNat ((IntKind.wrap .i64 (x1 - 1)) - 0 + 1)) (IntKind.wrap .i64 (x1 - 1)) (x0, (List.replicate x1.toNat 0)))
theorem s_PutWord_lk (x0 : Int) (x1 : Int) : evalFn te (orcOf (P := Try.prog) [s_l1In_e, s_WordOk_e]) (lorcOf [s_PutWord_L0_le]) s_PutWord_ann Try.f100 (pvs [.sc (.int .i64), .sc (.int .i64)] (x0, x1, ())) =
  s_PutWord_N x0 x1 _ none (fun v => some [(false, [RC.c (.str v)])]) := by kernel_rfl
theorem s_PutWord_p (x0 : Int) (x1 : Int) (hx0 : inK .i64 x0) (hx1 : inK .i64 x1)  (γ : Type) (fail : γ) (k : Bytes → γ) : s_PutWord_N x0 x1 γ fail k = k (s_PutWord x0 x1) := by
  unfold s_PutWord_N s_PutWord
  exact letT (f := k) (fun c1 hc1 => bifT (f := k) (fun b0 => rfl)
      (fun b0 => letT (f := k) (fun c2 hc2 => bifT (f := k) (fun b1 => rfl)
      (fun b1 => bifG (by (try simp only [Nat.ble_eq, Bool.and_eq_true, decide_eq_true_eq, s_PutWord_L0_mx0]); grind [maxSl, maxStr, toBytes_length, toInts_length, List.length_set, wrap64, s_l1In_eq, wrap64]) (loopX (f := k) (s_PutWord_L0_cl x0 (IntKind.wrap .i64 (x1 - 1)) (List.replicate x1.toNat 0) (by (try simp only [Nat.ble_eq, Bool.and_eq_true, decide_eq_true_eq, s_PutWord_L0_mx0]); grind [maxSl, maxStr, toBytes_length, toInts_length, List.length_set, wrap64, s_l1In_eq, wrap64]) (by (try simp only [Nat.ble_eq, Bool.and_eq_true, decide_eq_true_eq, s_PutWord_L0_mx0]); grind [maxSl, maxStr, toBytes_length, toInts_length, List.length_set, wrap64, s_l1In_eq, wrap64]) (by (try simp only [Nat.ble_eq, Bool.and_eq_true, decide_eq_true_eq, s_PutWord_L0_mx0]); grind [maxSl, maxStr, toBytes_length, toInts_length, List.length_set, wrap64, s_l1In_eq, wrap64])) (fun a4 ha4 => have ia4 := s_PutWord_L0_nx x0 (IntKind.wrap .i64 (x1 - 1)) (List.replicate x1.toNat 0) (by (try simp only [Nat.ble_eq, Bool.and_eq_true, decide_eq_true_eq, s_PutWord_L0_mx0]); grind [maxSl, maxStr, toBytes_length, toInts_length, List.length_set, wrap64, s_l1In_eq, wrap64]) (by (try simp only [Nat.ble_eq, Bool.and_eq_true, decide_eq_true_eq, s_PutWord_L0_mx0]); grind [maxSl, maxStr, toBytes_length, toInts_length, List.length_set, wrap64, s_l1In_eq, wrap64]) (by (try simp only [Nat.ble_eq, Bool.and_eq_true, decide_eq_true_eq, s_PutWord_L0_mx0]); grind [maxSl, maxStr, toBytes_length, toInts_length, List.length_set, wrap64, s_l1In_eq, wrap64]) _ ha4; rfl)
      (fun p : Empty => nomatch p))))))
theorem s_PutWord_c (x0 : Int) (x1 : Int)  : Con Try.prog 100 (pvs [.sc (.int .i64), .sc (.int .i64)] (x0, x1, ())) [rv (.sc .str) [] (s_PutWord x0 x1)] := by
  refine Con.of_facts (enters_of Try.func100 rfl (by kernel_rfl)) fun hf => ?_
  replace hf := factAt hf
  exact evalFn_conL teFact mixFact (orcOf_ok _) Try.func100 (by kernel_rfl) (bs := [0]) (by kernel_rfl) (by kernel_rfl) (fun w0 mo I0 hmo => ⟨lsem_of_lorc (s_PutWord_L0_ls w0 mo I0 hmo) (by kernel_rfl), trivial⟩) ((s_PutWord_lk x0 x1).trans (s_PutWord_p x0 x1 ((hf 0 0 rfl rfl).rng) ((hf 1 0 rfl rfl).rng) _ _ _))
noncomputable def s_PutWord_e : Ent1 Try.prog := entA 100 [.sc (.int .i64), .sc (.int .i64)] (fun x => (s_PutWord x.1 x.2.1)) (fun v => [rv (.sc .str) [] v]) (fun x => s_PutWord_c x.1 x.2.1)

theorem s_PutWord_len (x0 x1 : Int) : (s_PutWord x0 x1).length ≤ 6 := by
  unfold s_PutWord
  cases hw : s_l1In x1 1 6 with
  | false => simp [letK]
  | true =>
    rw [s_l1In_eq] at hw
    simp only [Bool.and_eq_true, decide_eq_true_eq] at hw
    simp only [letK, Bool.not_true, cond_false]
    cases s_WordOk x0 (IntKind.wrap .i64 (8 * x1)) with
    | false => simp
    | true =>
      simp only [Bool.not_true, cond_false]
      cases hf : forN (s_PutWord_L0_f) (-1) (Int.toNat ((IntKind.wrap .i64 (x1 - 1)) - 0 + 1)) (IntKind.wrap .i64 (x1 - 1)) (x0, (List.replicate x1.toNat 0)) with
      | out p => nomatch p
      | next a =>
        have := forN_inv (Inv := fun _ a => a.2.length = x1.toNat) _ _ _ (by simp) (fun j a _ h a' he => by unfold s_PutWord_L0_f at he; cases he; simpa using h) a hf
        simp only [Stp.elim, toBytes_length]
        omega


/-- laws.szMacRowS -/
def w_szMacRowS_ann : List (Nat × Keep) := [(0, ⟨[0, 1, 5], [], false, 0⟩)]
def w_szMacRowS_L0_sh : Sh := ⟨[(0, false, [.sl .arg .macRow]), (1, false, [.int .i64]), (5, false, [.int .i64])], []⟩
def w_szMacRowS_L0_es : List (Ex × Sh) := [(.ret, ⟨[(1, false, [.int .i64]), (4, false, [.int .i64])], []⟩), (.exit 0, ⟨[(1, false, [.int .i64]), (4, false, [.undef])], []⟩)]
def w_szMacRowS_L0_mk (v0 : List MacRow) (v1 : Int) (v2 : Int) : w_szMacRowS_L0_sh.T := (((v0, ()), ((v1, ()), ((v2, ()), ()))), ())
def w_szMacRowS_L0_mx0 (y0 : Int) (y1 : Int) : Sh.T ⟨[(1, false, [.int .i64]), (4, false, [.int .i64])], []⟩ := (((y0, ()), ((y1, ()), ())), ())
def w_szMacRowS_L0_mx1 (y0 : Int) : Sh.T ⟨[(1, false, [.int .i64]), (4, false, [.undef])], []⟩ := (((y0, ()), (((), ()), ())), ())
def w_szMacRowS_L0_B (v0 : List MacRow) (v1 : Int) (v2 : Int) (γ : Type) (fail : γ) (next : w_szMacRowS_L0_sh.T → γ) (out : WT w_szMacRowS_L0_es → γ) : γ :=
  bif (decide (v2 < (v0.length : Int))) then
    bif ((decide (0 ≤ v2)) && (decide (v2 < (v0.length : Int)))) then
    letK (α := Int) (w_szMacRow (v0.getD v2.toNat (Ty.zero .macRow)) v1) fun c1 =>
    bif (decide (c1 < 0)) then
      out (Sum.inl (w_szMacRowS_L0_mx0 c1 (-1)))
    else
    next (w_szMacRowS_L0_mk v0 c1 (IntKind.wrap .i64 (v2 + 1)))
    else fail
  else
  out (Sum.inr (w_szMacRowS_L0_mx1 v1))
theorem w_szMacRowS_L0_par (v0 : List MacRow) (v1 : Int) (v2 : Int) (γ : Type) (fail : γ) (next : w_szMacRowS_L0_sh.T → γ) (out : WT w_szMacRowS_L0_es → γ) : w_szMacRowS_L0_B v0 v1 v2 γ fail next out = optK (w_szMacRowS_L0_B v0 v1 v2 _ none (fun v' => some (.inl v')) (fun w => some (.inr w))) fail (fun r => Sum.elim next out r) := by
  unfold w_szMacRowS_L0_B
  exact bifT (f := (fun o => optK o fail (fun r => Sum.elim next out r))) (fun _ => bifT (f := (fun o => optK o fail (fun r => Sum.elim next out r))) (fun _ => letT (f := (fun o => optK o fail (fun r => Sum.elim next out r))) (fun c1 _ => bifT (f := (fun o => optK o fail (fun r => Sum.elim next out r))) (fun _ => rfl)
      (fun _ => rfl))) (fun _ => rfl))
      (fun _ => rfl)
def w_szMacRowS_L0_r : Round w_szMacRowS_L0_sh.T (WT w_szMacRowS_L0_es) where
  B v γ fail next out := w_szMacRowS_L0_B v.1.1.1 v.1.2.1.1 v.1.2.2.1.1 γ fail next out
  par v γ fail next out := w_szMacRowS_L0_par v.1.1.1 v.1.2.1.1 v.1.2.2.1.1 γ fail next out
def w_szMacRowS_L0_fu (v0 : List MacRow) (v1 : Int) (v2 : Int) : Nat := (Int.toNat ((v0.length : Int) - v2)) + 1
theorem w_szMacRowS_L0_lk (v : w_szMacRowS_L0_sh.T) (next : St → Option Res) (k : Ex → St → Option Res) : evalK te (orcOf (P := Try.prog) [w_szMacRow_e]) (lorcOf []) Try.f103.ntmps w_szMacRowS_ann (nthLoop (bodyOf Try.f103) 0 0) 0 (w_szMacRowS_L0_sh.enc v) (endK ⟨[0, 1, 5], [], false, 0⟩ ⟨[1, 4], [], false, 0⟩ next k) =
  w_szMacRowS_L0_r.B v _ none (fun v' => next (w_szMacRowS_L0_sh.enc v')) (fun w => outK w_szMacRowS_L0_es k w) := by kernel_rfl
def w_szMacRowS_L0_le : LE := leOf 0 w_szMacRowS_L0_sh w_szMacRowS_L0_es w_szMacRowS_L0_r.step (fun v => w_szMacRowS_L0_fu v.1.1.1 v.1.2.1.1 v.1.2.2.1.1)
theorem w_szMacRowS_L0_ls (w0 : World) (mo : Mts) (I0 : Nat → Prop) (hmo : mo.length = 0) : LSem Try.prog (Sim w0 mo Try.f103.ntmps I0) (fun b s k => match Nat.beq 0 b with | true => w_szMacRowS_L0_le.run s k | false => none) 0 (nthLoop (bodyOf Try.f103) 0 0) :=
  le_sem hmo (lorc := lorcOf []) (ann := w_szMacRowS_ann) (keep := ⟨[0, 1, 5], [], false, 0⟩) (kout := ⟨[1, 4], [], false, 0⟩) teFact mixFact (orcOf_ok _) (by kernel_rfl) (allLoops_of (bs := []) (by kernel_rfl) trivial) w_szMacRowS_L0_r _ w_szMacRowS_L0_lk
def w_szMacRowS_L0_f (v0 : List MacRow) (v2 : Int) (a : Int) : Stp (Int) ((Int)) :=
  letK (α := Int) (w_szMacRow (v0.getD v2.toNat (Ty.zero .macRow)) a) fun c1 =>
  bif (decide (c1 < 0)) then
    .out (c1)
  else
  .next c1
theorem w_szMacRowS_L0_st (v0 : List MacRow) (v1 : Int) (v2 : Int) (hlo : 0 ≤ v2) (hhi : v2 < (v0.length : Int)) (hN : (v0.length : Int) ≤ 4611686018427387904) : w_szMacRowS_L0_r.step (w_szMacRowS_L0_mk v0 v1 v2) = Stp.elim (fun a' : Int => some (Sum.inl (w_szMacRowS_L0_mk v0 a' (v2 + 1)))) (fun w => some (Sum.inr ((fun p : Int => Sum.inl (w_szMacRowS_L0_mx0 p (-1))) w))) (w_szMacRowS_L0_f v0 v2 v1) := by
  have hw : (IntKind.wrap .i64 (v2 + 1)) = v2 + 1 := wrap64 (by omega) (by omega)
  show w_szMacRowS_L0_B v0 v1 v2 (Option (w_szMacRowS_L0_sh.T ⊕ WT w_szMacRowS_L0_es)) none (fun v' => some (Sum.inl v')) (fun w => some (Sum.inr w)) = _
  unfold w_szMacRowS_L0_B w_szMacRowS_L0_f
  exact bifG (by simp only [decide_eq_true_eq]; omega) (bifG (by (try simp only [Nat.ble_eq, Bool.and_eq_true, decide_eq_true_eq]); grind [maxSl, maxStr, toBytes_length, toInts_length, List.length_set, wrap64, w_szMacRow_sm]) (letT (f := (Stp.elim (fun a' : Int => some (Sum.inl (w_szMacRowS_L0_mk v0 a' (v2 + 1)))) (fun w => some (Sum.inr ((fun p : Int => Sum.inl (w_szMacRowS_L0_mx0 p (-1))) w))))) (fun c1 hc1 => bifT (f := (Stp.elim (fun a' : Int => some (Sum.inl (w_szMacRowS_L0_mk v0 a' (v2 + 1)))) (fun w => some (Sum.inr ((fun p : Int => Sum.inl (w_szMacRowS_L0_mx0 p (-1))) w))))) (fun b0 => rfl)
      (fun b0 => congrArg (fun z => some (Sum.inl (w_szMacRowS_L0_mk v0 c1 z))) hw))))
theorem w_szMacRowS_L0_cl (v0 : List MacRow) (v1 : Int) (v2 : Int) (h0 : 0 ≤ v2) (h1 : (v0.length : Int) ≤ 4611686018427387904) : loopF w_szMacRowS_L0_r.step (w_szMacRowS_L0_fu v0 v1 v2) (w_szMacRowS_L0_mk v0 v1 v2) = some (Stp.elim (fun a => (fun i a => Sum.inr (w_szMacRowS_L0_mx1 a)) (v2 + 1 * (((Int.toNat ((v0.length : Int) - v2)) : Nat) : Int)) a) (fun p : Int => Sum.inl (w_szMacRowS_L0_mx0 p (-1))) (forN (w_szMacRowS_L0_f v0) 1 (Int.toNat ((v0.length : Int) - v2)) v2 v1)) :=
  forN_loop (step := w_szMacRowS_L0_r.step) (mk := fun v2 a => w_szMacRowS_L0_mk v0 a v2) (f := w_szMacRowS_L0_f v0) (e := (fun i a => Sum.inr (w_szMacRowS_L0_mx1 a))) (emb := (fun p : Int => Sum.inl (w_szMacRowS_L0_mx0 p (-1)))) (st := 1) (Inv := fun v2 a => True) (Int.toNat ((v0.length : Int) - v2)) v2 v1 _ (Nat.lt_succ_self _) trivial
    (fun j a hj hv => ⟨w_szMacRowS_L0_st v0 a (v2 + 1 * (j : Int)) (by omega) (by omega) (by omega), fun _ _ => trivial⟩)
    (fun a hv => by
      show w_szMacRowS_L0_B v0 a (v2 + 1 * (((Int.toNat ((v0.length : Int) - v2)) : Nat) : Int)) (Option (w_szMacRowS_L0_sh.T ⊕ WT w_szMacRowS_L0_es)) none (fun v' => some (Sum.inl v')) (fun w => some (Sum.inr w)) = _
      unfold w_szMacRowS_L0_B
      exact bifN (by simp only [decide_eq_false_iff_not]; omega) rfl)
def w_szMacRowS_N (x0 : List MacRow) (x1 : Int) (γ : Type) (fail : γ) (k : Int → γ) : γ :=
  bif (decide ((IntKind.wrap .i64 (x1 - (x0.length : Int))) < 0)) then
    k (-1)
  else
  optK (loopF w_szMacRowS_L0_r.step (w_szMacRowS_L0_fu x0 (IntKind.wrap .i64 (x1 - (x0.length : Int))) 0) (w_szMacRowS_L0_mk x0 (IntKind.wrap .i64 (x1 - (x0.length : Int))) 0)) fail fun w2 =>
    Sum.elim (fun w2 =>
      k w2.1.2.1.1)
    (fun w2 =>
      k w2.1.1.1) w2
def w_szMacRowS (x0 : List MacRow) (x1 : Int) : Int :=
  bif (decide ((IntKind.wrap .i64 (x1 - (x0.length : Int))) < 0)) then
    (-1)
  else
  Stp.elim (fun a3 =>
    a3)
    (fun p3 =>
      (-1))
    (forN (w_szMacRowS_L0_f x0) 1 (Int.toNat ((x0.length : Int) - 0)) 0 (IntKind.wrap .i64 (x1 - (x0.length : Int))))
theorem w_szMacRowS_lk (x0 : List MacRow) (x1 : Int) : evalFn te (orcOf (P := Try.prog) [w_szMacRow_e]) (lorcOf [w_szMacRowS_L0_le]) w_szMacRowS_ann Try.f103 (pvs [.sc (.sl .macRow), .sc (.int .i64)] (x0, x1, ())) =
  w_szMacRowS_N x0 x1 _ none (fun v => some [(false, [RC.c (.int .i64 v)])]) := by kernel_rfl
theorem w_szMacRowS_p (x0 : List MacRow) (x1 : Int) (hx0 : x0.length ≤ 140737488355328) (hx0_e : ∀ y ∈ x0, ∀ c ∈ Ty.cells .macRow y, FactC c) (hx1 : inK .i64 x1)  (γ : Type) (fail : γ) (k : Int → γ) : w_szMacRowS_N x0 x1 γ fail k = k (w_szMacRowS x0 x1) := by
  unfold w_szMacRowS_N w_szMacRowS
  exact bifT (f := k) (fun b0 => rfl)
      (fun b0 => loopT (f := k) (w_szMacRowS_L0_cl x0 (IntKind.wrap .i64 (x1 - (x0.length : Int))) 0 (by (try simp only [Nat.ble_eq, Bool.and_eq_true, decide_eq_true_eq, w_szMacRowS_L0_mx0, w_szMacRowS_L0_mx1]); grind [maxSl, maxStr, toBytes_length, toInts_length, List.length_set, wrap64, w_szMacRow_sm]) (by (try simp only [Nat.ble_eq, Bool.and_eq_true, decide_eq_true_eq, w_szMacRowS_L0_mx0, w_szMacRowS_L0_mx1]); grind [maxSl, maxStr, toBytes_length, toInts_length, List.length_set, wrap64, w_szMacRow_sm])) (fun a3 => rfl)
      (fun p3 => rfl))
theorem w_szMacRowS_c (x0 : List MacRow) (x1 : Int)  : Con Try.prog 103 (pvs [.sc (.sl .macRow), .sc (.int .i64)] (x0, x1, ())) [rv (.sc (.int .i64)) [] (w_szMacRowS x0 x1)] := by
  refine Con.of_facts (enters_of Try.func103 rfl (by kernel_rfl)) fun hf => ?_
  replace hf := factAt hf
  exact evalFn_conL teFact mixFact (orcOf_ok _) Try.func103 (by kernel_rfl) (bs := [0]) (by kernel_rfl) (by kernel_rfl) (fun w0 mo I0 hmo => ⟨lsem_of_lorc (w_szMacRowS_L0_ls w0 mo I0 hmo) (by kernel_rfl), trivial⟩) ((w_szMacRowS_lk x0 x1).trans (w_szMacRowS_p x0 x1 ((hf 0 0 rfl rfl).len) (fun y hy => (hf 0 0 rfl rfl).elem hy) ((hf 1 0 rfl rfl).rng) _ _ _))
noncomputable def w_szMacRowS_e : Ent1 Try.prog := entA 103 [.sc (.sl .macRow), .sc (.int .i64)] (fun x => (w_szMacRowS x.1 x.2.1)) (fun v => [rv (.sc (.int .i64)) [] v]) (fun x => w_szMacRowS_c x.1 x.2.1)


/-- laws.toMacRowS -/
def w_toMacRowS_ann : List (Nat × Keep) := [(0, ⟨[0, 3, 4], [], false, 0⟩)]
def w_toMacRowS_L0_sh : Sh := ⟨[(0, false, [.sl .arg .macRow]), (3, false, [.own 0]), (4, false, [.int .i64])], [.arr .macRow false true]⟩
def w_toMacRowS_L0_es : List (Ex × Sh) := [(.exit 0, ⟨[(2, false, [.undef]), (3, false, [.own 0])], [.arr .macRow false true]⟩)]
def w_toMacRowS_L0_mk (v0 : List MacRow) (v1 : Int) (v2 : List MacRow) : w_toMacRowS_L0_sh.T := (((v0, ()), (((), ()), ((v1, ()), ()))), (v2, ()))
def w_toMacRowS_L0_mx0 (y0 : List MacRow) : Sh.T ⟨[(2, false, [.undef]), (3, false, [.own 0])], [.arr .macRow false true]⟩ := ((((), ()), (((), ()), ())), (y0, ()))
def w_toMacRowS_L0_B (v0 : List MacRow) (v1 : Int) (v2 : List MacRow) (γ : Type) (fail : γ) (next : w_toMacRowS_L0_sh.T → γ) (out : WT w_toMacRowS_L0_es → γ) : γ :=
  bif (decide (v1 < (v0.length : Int))) then
    bif ((decide (0 ≤ v1)) && (decide (v1 < (v0.length : Int)))) then
    letK (α := MacRow) (w_toMacRow (v0.getD v1.toNat (Ty.zero .macRow))) fun c1 =>
    bif ((decide (0 ≤ v1)) && (decide (v1 < (v2.length : Int)))) then
    next (w_toMacRowS_L0_mk v0 (IntKind.wrap .i64 (v1 + 1)) (v2.set v1.toNat c1))
    else fail
    else fail
  else
  out (w_toMacRowS_L0_mx0 v2)
theorem w_toMacRowS_L0_par (v0 : List MacRow) (v1 : Int) (v2 : List MacRow) (γ : Type) (fail : γ) (next : w_toMacRowS_L0_sh.T → γ) (out : WT w_toMacRowS_L0_es → γ) : w_toMacRowS_L0_B v0 v1 v2 γ fail next out = optK (w_toMacRowS_L0_B v0 v1 v2 _ none (fun v' => some (.inl v')) (fun w => some (.inr w))) fail (fun r => Sum.elim next out r) := by
  unfold w_toMacRowS_L0_B
  exact bifT (f := (fun o => optK o fail (fun r => Sum.elim next out r))) (fun _ => bifT (f := (fun o => optK o fail (fun r => Sum.elim next out r))) (fun _ => letT (f := (fun o => optK o fail (fun r => Sum.elim next out r))) (fun c1 _ => bifT (f := (fun o => optK o fail (fun r => Sum.elim next out r))) (fun _ => rfl) (fun _ => rfl))) (fun _ => rfl))
      (fun _ => rfl)
def w_toMacRowS_L0_r : Round w_toMacRowS_L0_sh.T (WT w_toMacRowS_L0_es) where
  B v γ fail next out := w_toMacRowS_L0_B v.1.1.1 v.1.2.2.1.1 v.2.1 γ fail next out
  par v γ fail next out := w_toMacRowS_L0_par v.1.1.1 v.1.2.2.1.1 v.2.1 γ fail next out
def w_toMacRowS_L0_fu (v0 : List MacRow) (v1 : Int) (v2 : List MacRow) : Nat := (Int.toNat ((v0.length : Int) - v1)) + 1
theorem w_toMacRowS_L0_lk (v : w_toMacRowS_L0_sh.T) (next : St → Option Res) (k : Ex → St → Option Res) : evalK te (orcOf (P := Try.prog) [w_toMacRow_e]) (lorcOf []) Try.f104.ntmps w_toMacRowS_ann (nthLoop (bodyOf Try.f104) 0 0) 0 (w_toMacRowS_L0_sh.enc v) (endK ⟨[0, 3, 4], [], false, 0⟩ ⟨[2, 3], [], false, 0⟩ next k) =
  w_toMacRowS_L0_r.B v _ none (fun v' => next (w_toMacRowS_L0_sh.enc v')) (fun w => outK w_toMacRowS_L0_es k w) := by kernel_rfl
def w_toMacRowS_L0_le : LE := leOf 0 w_toMacRowS_L0_sh w_toMacRowS_L0_es w_toMacRowS_L0_r.step (fun v => w_toMacRowS_L0_fu v.1.1.1 v.1.2.2.1.1 v.2.1)
theorem w_toMacRowS_L0_ls (w0 : World) (mo : Mts) (I0 : Nat → Prop) (hmo : mo.length = 0) : LSem Try.prog (Sim w0 mo Try.f104.ntmps I0) (fun b s k => match Nat.beq 0 b with | true => w_toMacRowS_L0_le.run s k | false => none) 0 (nthLoop (bodyOf Try.f104) 0 0) :=
  le_sem hmo (lorc := lorcOf []) (ann := w_toMacRowS_ann) (keep := ⟨[0, 3, 4], [], false, 0⟩) (kout := ⟨[2, 3], [], false, 0⟩) teFact mixFact (orcOf_ok _) (by kernel_rfl) (allLoops_of (bs := []) (by kernel_rfl) trivial) w_toMacRowS_L0_r _ w_toMacRowS_L0_lk
def w_toMacRowS_L0_f (v0 : List MacRow) (v1 : Int) (a : List MacRow) : Stp (List MacRow) (Empty) :=
  letK (α := MacRow) (w_toMacRow (v0.getD v1.toNat (Ty.zero .macRow))) fun c1 =>
  .next (a.set v1.toNat c1)
theorem w_toMacRowS_L0_st (v0 : List MacRow) (v1 : Int) (v2 : List MacRow) (hlo : 0 ≤ v1) (hhi : v1 < (v0.length : Int)) (hN : (v0.length : Int) ≤ 4611686018427387904) (hinv : (v0.length : Int) ≤ (v2.length : Int)) : w_toMacRowS_L0_r.step (w_toMacRowS_L0_mk v0 v1 v2) = Stp.elim (fun a' : List MacRow => some (Sum.inl (w_toMacRowS_L0_mk v0 (v1 + 1) a'))) (fun w => some (Sum.inr ((fun p : Empty => nomatch p) w))) (w_toMacRowS_L0_f v0 v1 v2) := by
  have hw : (IntKind.wrap .i64 (v1 + 1)) = v1 + 1 := wrap64 (by omega) (by omega)
  show w_toMacRowS_L0_B v0 v1 v2 (Option (w_toMacRowS_L0_sh.T ⊕ WT w_toMacRowS_L0_es)) none (fun v' => some (Sum.inl v')) (fun w => some (Sum.inr w)) = _
  unfold w_toMacRowS_L0_B w_toMacRowS_L0_f
  exact bifG (by simp only [decide_eq_true_eq]; omega) (bifG (by (try simp only [Nat.ble_eq, Bool.and_eq_true, decide_eq_true_eq]); grind [maxSl, maxStr, toBytes_length, toInts_length, List.length_set, wrap64]) (letT (f := (Stp.elim (fun a' : List MacRow => some (Sum.inl (w_toMacRowS_L0_mk v0 (v1 + 1) a'))) (fun w => some (Sum.inr ((fun p : Empty => nomatch p) w))))) (fun c1 hc1 => bifG (by (try simp only [Nat.ble_eq, Bool.and_eq_true, decide_eq_true_eq]); grind [maxSl, maxStr, toBytes_length, toInts_length, List.length_set, wrap64]) (congrArg (fun z => some (Sum.inl (w_toMacRowS_L0_mk v0 z (v2.set v1.toNat c1)))) hw))))
theorem w_toMacRowS_L0_cl (v0 : List MacRow) (v1 : Int) (v2 : List MacRow) (h0 : 0 ≤ v1) (h1 : (v0.length : Int) ≤ 4611686018427387904) (h2 : (v0.length : Int) ≤ (v2.length : Int)) : loopF w_toMacRowS_L0_r.step (w_toMacRowS_L0_fu v0 v1 v2) (w_toMacRowS_L0_mk v0 v1 v2) = some (Stp.elim (fun a => (fun i a => w_toMacRowS_L0_mx0 a) (v1 + 1 * (((Int.toNat ((v0.length : Int) - v1)) : Nat) : Int)) a) (fun p : Empty => nomatch p) (forN (w_toMacRowS_L0_f v0) 1 (Int.toNat ((v0.length : Int) - v1)) v1 v2)) :=
  forN_loop (step := w_toMacRowS_L0_r.step) (mk := fun v1 a => w_toMacRowS_L0_mk v0 v1 a) (f := w_toMacRowS_L0_f v0) (e := (fun i a => w_toMacRowS_L0_mx0 a)) (emb := (fun p : Empty => nomatch p)) (st := 1) (Inv := fun v1 a => (v0.length : Int) ≤ (a.length : Int)) (Int.toNat ((v0.length : Int) - v1)) v1 v2 _ (Nat.lt_succ_self _) h2
    (fun j a hj hv => ⟨w_toMacRowS_L0_st v0 (v1 + 1 * (j : Int)) a (by omega) (by omega) (by omega) hv, by
      intro a' he
      grind [w_toMacRowS_L0_f, letK, Stp.elim, wrap64, List.length_set]⟩)
    (fun a hv => by
      show w_toMacRowS_L0_B v0 (v1 + 1 * (((Int.toNat ((v0.length : Int) - v1)) : Nat) : Int)) a (Option (w_toMacRowS_L0_sh.T ⊕ WT w_toMacRowS_L0_es)) none (fun v' => some (Sum.inl v')) (fun w => some (Sum.inr w)) = _
      unfold w_toMacRowS_L0_B
      exact bifN (by simp only [decide_eq_false_iff_not]; omega) rfl)
theorem w_toMacRowS_L0_nx (v0 : List MacRow) (v1 : Int) (v2 : List MacRow) (h0 : 0 ≤ v1) (h1 : (v0.length : Int) ≤ 4611686018427387904) (h2 : (v0.length : Int) ≤ (v2.length : Int)) : ∀ a', forN (w_toMacRowS_L0_f v0) 1 (Int.toNat ((v0.length : Int) - v1)) v1 v2 = .next a' → (v0.length : Int) ≤ (a'.length : Int) :=
  forN_inv (f := w_toMacRowS_L0_f v0) (st := 1) (Inv := fun v1 a => (v0.length : Int) ≤ (a.length : Int)) (Int.toNat ((v0.length : Int) - v1)) v1 v2 h2
    (fun j a hj hv => by
      intro a' he
      grind [w_toMacRowS_L0_f, letK, Stp.elim, wrap64, List.length_set])
def w_toMacRowS_N (x0 : List MacRow) (γ : Type) (fail : γ) (k : List MacRow → γ) : γ :=
  bif ((((decide (0 ≤ (x0.length : Int))) && (decide ((x0.length : Int) = (x0.length : Int)))) && (decide ((x0.length : Int) * 24 ≤ (maxSl : Int)))) && (decide ((x0.length : Int) ≤ (maxSl : Int)))) then
  optK (loopF w_toMacRowS_L0_r.step (w_toMacRowS_L0_fu x0 0 (List.replicate ((x0.length : Int).toNat) (⟨[], 0⟩ : MacRow))) (w_toMacRowS_L0_mk x0 0 (List.replicate ((x0.length : Int).toNat) (⟨[], 0⟩ : MacRow)))) fail fun w2 =>
    k w2.2.1
  else fail
def w_toMacRowS (x0 : List MacRow) : List MacRow :=
  Stp.elim (fun a3 =>
    a3)
    (fun p : Empty => nomatch p)
    (forN (w_toMacRowS_L0_f x0) 1 (Int.toNat ((x0.length : Int) - 0)) 0 (List.replicate ((x0.length : Int).toNat) (⟨[], 0⟩ : MacRow)))
theorem w_toMacRowS_lk (x0 : List MacRow) : evalFn te (orcOf (P := Try.prog) [w_toMacRow_e]) (lorcOf [w_toMacRowS_L0_le]) w_toMacRowS_ann Try.f104 (pvs [.sc (.sl .macRow)] (x0, ())) =
  w_toMacRowS_N x0 _ none (fun v => some [(false, [RC.own true .macRow v])]) := by kernel_rfl
theorem w_toMacRowS_p (x0 : List MacRow) (hx0 : x0.length ≤ 140737488355328) (hx0_e : ∀ y ∈ x0, ∀ c ∈ Ty.cells .macRow y, FactC c) (hp : x0.length ≤ 4294967296) (γ : Type) (fail : γ) (k : List MacRow → γ) : w_toMacRowS_N x0 γ fail k = k (w_toMacRowS x0) := by
  unfold w_toMacRowS_N w_toMacRowS
  exact bifG (by (try simp only [Nat.ble_eq, Bool.and_eq_true, decide_eq_true_eq, w_toMacRowS_L0_mx0]); grind [maxSl, maxStr, toBytes_length, toInts_length, List.length_set, wrap64]) (loopX (f := k) (w_toMacRowS_L0_cl x0 0 (List.replicate ((x0.length : Int).toNat) (⟨[], 0⟩ : MacRow)) (by (try simp only [Nat.ble_eq, Bool.and_eq_true, decide_eq_true_eq, w_toMacRowS_L0_mx0]); grind [maxSl, maxStr, toBytes_length, toInts_length, List.length_set, wrap64]) (by (try simp only [Nat.ble_eq, Bool.and_eq_true, decide_eq_true_eq, w_toMacRowS_L0_mx0]); grind [maxSl, maxStr, toBytes_length, toInts_length, List.length_set, wrap64]) (by (try simp only [Nat.ble_eq, Bool.and_eq_true, decide_eq_true_eq, w_toMacRowS_L0_mx0]); grind [maxSl, maxStr, toBytes_length, toInts_length, List.length_set, wrap64])) (fun a3 ha3 => have ia3 := w_toMacRowS_L0_nx x0 0 (List.replicate ((x0.length : Int).toNat) (⟨[], 0⟩ : MacRow)) (by (try simp only [Nat.ble_eq, Bool.and_eq_true, decide_eq_true_eq, w_toMacRowS_L0_mx0]); grind [maxSl, maxStr, toBytes_length, toInts_length, List.length_set, wrap64]) (by (try simp only [Nat.ble_eq, Bool.and_eq_true, decide_eq_true_eq, w_toMacRowS_L0_mx0]); grind [maxSl, maxStr, toBytes_length, toInts_length, List.length_set, wrap64]) (by (try simp only [Nat.ble_eq, Bool.and_eq_true, decide_eq_true_eq, w_toMacRowS_L0_mx0]); grind [maxSl, maxStr, toBytes_length, toInts_length, List.length_set, wrap64]) _ ha3; rfl)
      (fun p : Empty => nomatch p))
theorem w_toMacRowS_c (x0 : List MacRow) (hp : x0.length ≤ 4294967296) : Con Try.prog 104 (pvs [.sc (.sl .macRow)] (x0, ())) [rv (.sc (.sl .macRow)) [.o true] (w_toMacRowS x0)] := by
  refine Con.of_facts (enters_of Try.func104 rfl (by kernel_rfl)) fun hf => ?_
  replace hf := factAt hf
  exact evalFn_conL teFact mixFact (orcOf_ok _) Try.func104 (by kernel_rfl) (bs := [0]) (by kernel_rfl) (by kernel_rfl) (fun w0 mo I0 hmo => ⟨lsem_of_lorc (w_toMacRowS_L0_ls w0 mo I0 hmo) (by kernel_rfl), trivial⟩) ((w_toMacRowS_lk x0).trans (w_toMacRowS_p x0 ((hf 0 0 rfl rfl).len) (fun y hy => (hf 0 0 rfl rfl).elem hy) hp _ _ _))
noncomputable def w_toMacRowS_e : Ent1 Try.prog := entP 104 [.sc (.sl .macRow)] (fun x => (decide (x.1.length ≤ 4294967296))) (fun x => (w_toMacRowS x.1)) (fun v => [rv (.sc (.sl .macRow)) [.o true] v]) (fun x hx => w_toMacRowS_c x.1 (of_decide_eq_true hx))


/-- laws.eqMac -/
def w_eqMac_N (x0 : Mac) (x1 : Mac) (γ : Type) (fail : γ) (k : Bool → γ) : γ :=
  bif (!(x0.use == x1.use)) then
    k false
  else
  bif (x0.k != x1.k) then
    k false
  else
  bif (x0.l != x1.l) then
    k false
  else
  letK (α := Bool) (w_eqMacRowS x0.rows x1.rows) fun c1 =>
  bif (!c1) then
    k false
  else
  k true
def w_eqMac (x0 : Mac) (x1 : Mac) : Bool :=
  bif (!(x0.use == x1.use)) then
    false
  else
  bif (x0.k != x1.k) then
    false
  else
  bif (x0.l != x1.l) then
    false
  else
  letK (α := Bool) (w_eqMacRowS x0.rows x1.rows) fun c1 =>
  bif (!c1) then
    false
  else
  true
theorem w_eqMac_lk (x0 : Mac) (x1 : Mac) : evalFn te (orcOf (P := Try.prog) [w_eqMacRowS_e]) lorc0 [] Try.f16 (pvs [.st .mac, .st .mac] (x0, x1, ())) =
  w_eqMac_N x0 x1 _ none (fun v => some [(false, [RC.c (.bool v)])]) := by kernel_rfl
theorem w_eqMac_p (x0 : Mac) (x1 : Mac)   (γ : Type) (fail : γ) (k : Bool → γ) : w_eqMac_N x0 x1 γ fail k = k (w_eqMac x0 x1) := by
  unfold w_eqMac_N w_eqMac
  exact bifT (f := k) (fun b0 => rfl)
      (fun b0 => bifT (f := k) (fun b1 => rfl)
      (fun b1 => bifT (f := k) (fun b2 => rfl)
      (fun b2 => letT (f := k) (fun c1 hc1 => bifT (f := k) (fun b3 => rfl)
      (fun b3 => rfl)))))
theorem w_eqMac_c (x0 : Mac) (x1 : Mac)  : Con Try.prog 16 (pvs [.st .mac, .st .mac] (x0, x1, ())) [rv (.sc .bool) [] (w_eqMac x0 x1)] := by
  exact evalFn_con0 teFact mixFact (orcOf_ok _) Try.func16 (by kernel_rfl) ((w_eqMac_lk x0 x1).trans (w_eqMac_p x0 x1  _ _ _))
noncomputable def w_eqMac_e : Ent1 Try.prog := entA 16 [.st .mac, .st .mac] (fun x => (w_eqMac x.1 x.2.1)) (fun v => [rv (.sc .bool) [] v]) (fun x => w_eqMac_c x.1 x.2.1)


/-- laws.toIssueS -/
def w_toIssueS_ann : List (Nat × Keep) := [(0, ⟨[0, 3, 4], [], false, 0⟩)]
def w_toIssueS_L0_sh : Sh := ⟨[(0, false, [.sl .arg .issu]), (3, false, [.own 0]), (4, false, [.int .i64])], [.arr .issu false true]⟩
def w_toIssueS_L0_es : List (Ex × Sh) := [(.exit 0, ⟨[(2, false, [.undef]), (3, false, [.own 0])], [.arr .issu false true]⟩)]
def w_toIssueS_L0_mk (v0 : List Issu) (v1 : Int) (v2 : List Issu) : w_toIssueS_L0_sh.T := (((v0, ()), (((), ()), ((v1, ()), ()))), (v2, ()))
def w_toIssueS_L0_mx0 (y0 : List Issu) : Sh.T ⟨[(2, false, [.undef]), (3, false, [.own 0])], [.arr .issu false true]⟩ := ((((), ()), (((), ()), ())), (y0, ()))
def w_toIssueS_L0_B (v0 : List Issu) (v1 : Int) (v2 : List Issu) (γ : Type) (fail : γ) (next : w_toIssueS_L0_sh.T → γ) (out : WT w_toIssueS_L0_es → γ) : γ :=
  bif (decide (v1 < (v0.length : Int))) then
    bif ((decide (0 ≤ v1)) && (decide (v1 < (v0.length : Int)))) then
    letK (α := Issu) (w_toIssue (v0.getD v1.toNat (Ty.zero .issu))) fun c1 =>
    bif ((decide (0 ≤ v1)) && (decide (v1 < (v2.length : Int)))) then
    next (w_toIssueS_L0_mk v0 (IntKind.wrap .i64 (v1 + 1)) (v2.set v1.toNat c1))
    else fail
    else fail
  else
  out (w_toIssueS_L0_mx0 v2)
theorem w_toIssueS_L0_par (v0 : List Issu) (v1 : Int) (v2 : List Issu) (γ : Type) (fail : γ) (next : w_toIssueS_L0_sh.T → γ) (out : WT w_toIssueS_L0_es → γ) : w_toIssueS_L0_B v0 v1 v2 γ fail next out = optK (w_toIssueS_L0_B v0 v1 v2 _ none (fun v' => some (.inl v')) (fun w => some (.inr w))) fail (fun r => Sum.elim next out r) := by
  unfold w_toIssueS_L0_B
  exact bifT (f := (fun o => optK o fail (fun r => Sum.elim next out r))) (fun _ => bifT (f := (fun o => optK o fail (fun r => Sum.elim next out r))) (fun _ => letT (f := (fun o => optK o fail (fun r => Sum.elim next out r))) (fun c1 _ => bifT (f := (fun o => optK o fail (fun r => Sum.elim next out r))) (fun _ => rfl) (fun _ => rfl))) (fun _ => rfl))
      (fun _ => rfl)
def w_toIssueS_L0_r : Round w_toIssueS_L0_sh.T (WT w_toIssueS_L0_es) where
  B v γ fail next out := w_toIssueS_L0_B v.1.1.1 v.1.2.2.1.1 v.2.1 γ fail next out
  par v γ fail next out := w_toIssueS_L0_par v.1.1.1 v.1.2.2.1.1 v.2.1 γ fail next out
def w_toIssueS_L0_fu (v0 : List Issu) (v1 : Int) (v2 : List Issu) : Nat := (Int.toNat ((v0.length : Int) - v1)) + 1
theorem w_toIssueS_L0_lk (v : w_toIssueS_L0_sh.T) (next : St → Option Res) (k : Ex → St → Option Res) : evalK te (orcOf (P := Try.prog) [w_toIssue_e]) (lorcOf []) Try.f31.ntmps w_toIssueS_ann (nthLoop (bodyOf Try.f31) 0 0) 0 (w_toIssueS_L0_sh.enc v) (endK ⟨[0, 3, 4], [], false, 0⟩ ⟨[2, 3], [], false, 0⟩ next k) =
  w_toIssueS_L0_r.B v _ none (fun v' => next (w_toIssueS_L0_sh.enc v')) (fun w => outK w_toIssueS_L0_es k w) := by kernel_rfl
def w_toIssueS_L0_le : LE := leOf 0 w_toIssueS_L0_sh w_toIssueS_L0_es w_toIssueS_L0_r.step (fun v => w_toIssueS_L0_fu v.1.1.1 v.1.2.2.1.1 v.2.1)
theorem w_toIssueS_L0_ls (w0 : World) (mo : Mts) (I0 : Nat → Prop) (hmo : mo.length = 0) : LSem Try.prog (Sim w0 mo Try.f31.ntmps I0) (fun b s k => match Nat.beq 0 b with | true => w_toIssueS_L0_le.run s k | false => none) 0 (nthLoop (bodyOf Try.f31) 0 0) :=
  le_sem hmo (lorc := lorcOf []) (ann := w_toIssueS_ann) (keep := ⟨[0, 3, 4], [], false, 0⟩) (kout := ⟨[2, 3], [], false, 0⟩) teFact mixFact (orcOf_ok _) (by kernel_rfl) (allLoops_of (bs := []) (by kernel_rfl) trivial) w_toIssueS_L0_r _ w_toIssueS_L0_lk
def w_toIssueS_L0_f (v0 : List Issu) (v1 : Int) (a : List Issu) : Stp (List Issu) (Empty) :=
  letK (α := Issu) (w_toIssue (v0.getD v1.toNat (Ty.zero .issu))) fun c1 =>
  .next (a.set v1.toNat c1)
theorem w_toIssueS_L0_st (v0 : List Issu) (v1 : Int) (v2 : List Issu) (hlo : 0 ≤ v1) (hhi : v1 < (v0.length : Int)) (hN : (v0.length : Int) ≤ 4611686018427387904) (hinv : (v0.length : Int) ≤ (v2.length : Int)) : w_toIssueS_L0_r.step (w_toIssueS_L0_mk v0 v1 v2) = Stp.elim (fun a' : List Issu => some (Sum.inl (w_toIssueS_L0_mk v0 (v1 + 1) a'))) (fun w => some (Sum.inr ((fun p : Empty => nomatch p) w))) (w_toIssueS_L0_f v0 v1 v2) := by
  have hw : (IntKind.wrap .i64 (v1 + 1)) = v1 + 1 := wrap64 (by omega) (by omega)
  show w_toIssueS_L0_B v0 v1 v2 (Option (w_toIssueS_L0_sh.T ⊕ WT w_toIssueS_L0_es)) none (fun v' => some (Sum.inl v')) (fun w => some (Sum.inr w)) = _
  unfold w_toIssueS_L0_B w_toIssueS_L0_f
  exact bifG (by simp only [decide_eq_true_eq]; omega) (bifG (by (try simp only [Nat.ble_eq, Bool.and_eq_true, decide_eq_true_eq]); grind [maxSl, maxStr, toBytes_length, toInts_length, List.length_set, wrap64]) (letT (f := (Stp.elim (fun a' : List Issu => some (Sum.inl (w_toIssueS_L0_mk v0 (v1 + 1) a'))) (fun w => some (Sum.inr ((fun p : Empty => nomatch p) w))))) (fun c1 hc1 => bifG (by (try simp only [Nat.ble_eq, Bool.and_eq_true, decide_eq_true_eq]); grind [maxSl, maxStr, toBytes_length, toInts_length, List.length_set, wrap64]) (congrArg (fun z => some (Sum.inl (w_toIssueS_L0_mk v0 z (v2.set v1.toNat c1)))) hw))))
theorem w_toIssueS_L0_cl (v0 : List Issu) (v1 : Int) (v2 : List Issu) (h0 : 0 ≤ v1) (h1 : (v0.length : Int) ≤ 4611686018427387904) (h2 : (v0.length : Int) ≤ (v2.length : Int)) : loopF w_toIssueS_L0_r.step (w_toIssueS_L0_fu v0 v1 v2) (w_toIssueS_L0_mk v0 v1 v2) = some (Stp.elim (fun a => (fun i a => w_toIssueS_L0_mx0 a) (v1 + 1 * (((Int.toNat ((v0.length : Int) - v1)) : Nat) : Int)) a) (fun p : Empty => nomatch p) (forN (w_toIssueS_L0_f v0) 1 (Int.toNat ((v0.length : Int) - v1)) v1 v2)) :=
  forN_loop (step := w_toIssueS_L0_r.step) (mk := fun v1 a => w_toIssueS_L0_mk v0 v1 a) (f := w_toIssueS_L0_f v0) (e := (fun i a => w_toIssueS_L0_mx0 a)) (emb := (fun p : Empty => nomatch p)) (st := 1) (Inv := fun v1 a => (v0.length : Int) ≤ (a.length : Int)) (Int.toNat ((v0.length : Int) - v1)) v1 v2 _ (Nat.lt_succ_self _) h2
    (fun j a hj hv => ⟨w_toIssueS_L0_st v0 (v1 + 1 * (j : Int)) a (by omega) (by omega) (by omega) hv, by
      intro a' he
      grind [w_toIssueS_L0_f, letK, Stp.elim, wrap64, List.length_set]⟩)
    (fun a hv => by
      show w_toIssueS_L0_B v0 (v1 + 1 * (((Int.toNat ((v0.length : Int) - v1)) : Nat) : Int)) a (Option (w_toIssueS_L0_sh.T ⊕ WT w_toIssueS_L0_es)) none (fun v' => some (Sum.inl v')) (fun w => some (Sum.inr w)) = _
      unfold w_toIssueS_L0_B
      exact bifN (by simp only [decide_eq_false_iff_not]; omega) rfl)
theorem w_toIssueS_L0_nx (v0 : List Issu) (v1 : Int) (v2 : List Issu) (h0 : 0 ≤ v1) (h1 : (v0.length : Int) ≤ 4611686018427387904) (h2 : (v0.length : Int) ≤ (v2.length : Int)) : ∀ a', forN (w_toIssueS_L0_f v0) 1 (Int.toNat ((v0.length : Int) - v1)) v1 v2 = .next a' → (v0.length : Int) ≤ (a'.length : Int) :=
  forN_inv (f := w_toIssueS_L0_f v0) (st := 1) (Inv := fun v1 a => (v0.length : Int) ≤ (a.length : Int)) (Int.toNat ((v0.length : Int) - v1)) v1 v2 h2
    (fun j a hj hv => by
      intro a' he
      grind [w_toIssueS_L0_f, letK, Stp.elim, wrap64, List.length_set])
def w_toIssueS_N (x0 : List Issu) (γ : Type) (fail : γ) (k : List Issu → γ) : γ :=
  bif ((((decide (0 ≤ (x0.length : Int))) && (decide ((x0.length : Int) = (x0.length : Int)))) && (decide ((x0.length : Int) * 40 ≤ (maxSl : Int)))) && (decide ((x0.length : Int) ≤ (maxSl : Int)))) then
  optK (loopF w_toIssueS_L0_r.step (w_toIssueS_L0_fu x0 0 (List.replicate ((x0.length : Int).toNat) (⟨⟨0, 0, 0⟩, 0, 0⟩ : Issu))) (w_toIssueS_L0_mk x0 0 (List.replicate ((x0.length : Int).toNat) (⟨⟨0, 0, 0⟩, 0, 0⟩ : Issu)))) fail fun w2 =>
    k w2.2.1
  else fail
def w_toIssueS (x0 : List Issu) : List Issu :=
  Stp.elim (fun a3 =>
    a3)
    (fun p : Empty => nomatch p)
    (forN (w_toIssueS_L0_f x0) 1 (Int.toNat ((x0.length : Int) - 0)) 0 (List.replicate ((x0.length : Int).toNat) (⟨⟨0, 0, 0⟩, 0, 0⟩ : Issu)))
theorem w_toIssueS_lk (x0 : List Issu) : evalFn te (orcOf (P := Try.prog) [w_toIssue_e]) (lorcOf [w_toIssueS_L0_le]) w_toIssueS_ann Try.f31 (pvs [.sc (.sl .issu)] (x0, ())) =
  w_toIssueS_N x0 _ none (fun v => some [(false, [RC.own true .issu v])]) := by kernel_rfl
theorem w_toIssueS_p (x0 : List Issu) (hx0 : x0.length ≤ 140737488355328) (hp : x0.length ≤ 4294967296) (γ : Type) (fail : γ) (k : List Issu → γ) : w_toIssueS_N x0 γ fail k = k (w_toIssueS x0) := by
  unfold w_toIssueS_N w_toIssueS
  exact bifG (by (try simp only [Nat.ble_eq, Bool.and_eq_true, decide_eq_true_eq, w_toIssueS_L0_mx0]); grind [maxSl, maxStr, toBytes_length, toInts_length, List.length_set, wrap64]) (loopX (f := k) (w_toIssueS_L0_cl x0 0 (List.replicate ((x0.length : Int).toNat) (⟨⟨0, 0, 0⟩, 0, 0⟩ : Issu)) (by (try simp only [Nat.ble_eq, Bool.and_eq_true, decide_eq_true_eq, w_toIssueS_L0_mx0]); grind [maxSl, maxStr, toBytes_length, toInts_length, List.length_set, wrap64]) (by (try simp only [Nat.ble_eq, Bool.and_eq_true, decide_eq_true_eq, w_toIssueS_L0_mx0]); grind [maxSl, maxStr, toBytes_length, toInts_length, List.length_set, wrap64]) (by (try simp only [Nat.ble_eq, Bool.and_eq_true, decide_eq_true_eq, w_toIssueS_L0_mx0]); grind [maxSl, maxStr, toBytes_length, toInts_length, List.length_set, wrap64])) (fun a3 ha3 => have ia3 := w_toIssueS_L0_nx x0 0 (List.replicate ((x0.length : Int).toNat) (⟨⟨0, 0, 0⟩, 0, 0⟩ : Issu)) (by (try simp only [Nat.ble_eq, Bool.and_eq_true, decide_eq_true_eq, w_toIssueS_L0_mx0]); grind [maxSl, maxStr, toBytes_length, toInts_length, List.length_set, wrap64]) (by (try simp only [Nat.ble_eq, Bool.and_eq_true, decide_eq_true_eq, w_toIssueS_L0_mx0]); grind [maxSl, maxStr, toBytes_length, toInts_length, List.length_set, wrap64]) (by (try simp only [Nat.ble_eq, Bool.and_eq_true, decide_eq_true_eq, w_toIssueS_L0_mx0]); grind [maxSl, maxStr, toBytes_length, toInts_length, List.length_set, wrap64]) _ ha3; rfl)
      (fun p : Empty => nomatch p))
theorem w_toIssueS_c (x0 : List Issu) (hp : x0.length ≤ 4294967296) : Con Try.prog 31 (pvs [.sc (.sl .issu)] (x0, ())) [rv (.sc (.sl .issu)) [.o true] (w_toIssueS x0)] := by
  refine Con.of_facts (enters_of Try.func31 rfl (by kernel_rfl)) fun hf => ?_
  replace hf := factAt hf
  exact evalFn_conL teFact mixFact (orcOf_ok _) Try.func31 (by kernel_rfl) (bs := [0]) (by kernel_rfl) (by kernel_rfl) (fun w0 mo I0 hmo => ⟨lsem_of_lorc (w_toIssueS_L0_ls w0 mo I0 hmo) (by kernel_rfl), trivial⟩) ((w_toIssueS_lk x0).trans (w_toIssueS_p x0 ((hf 0 0 rfl rfl).len) hp _ _ _))
noncomputable def w_toIssueS_e : Ent1 Try.prog := entP 31 [.sc (.sl .issu)] (fun x => (decide (x.1.length ≤ 4294967296))) (fun x => (w_toIssueS x.1)) (fun v => [rv (.sc (.sl .issu)) [.o true] v]) (fun x hx => w_toIssueS_c x.1 (of_decide_eq_true hx))


/-- impl.GuessInputs -/
def i_GuessInputs_ann : List (Nat × Keep) := [(0, ⟨[0, 5, 13, 14, 15], [], false, 0⟩)]
def i_GuessInputs_L0_sh : Sh := ⟨[(0, false, [.int .i64]), (5, false, [.own 0]), (13, false, [.sl .arg .issu]), (14, false, [.int .i64]), (15, false, [.int .i64])], [.arr .str false true]⟩
def i_GuessInputs_L0_es : List (Ex × Sh) := [(.exit 0, ⟨[(4, false, [.undef]), (5, false, [.own 0])], [.arr .str false true]⟩)]
def i_GuessInputs_L0_mk (v0 : Int) (v1 : List Issu) (v2 : Int) (v3 : Int) (v4 : List Bytes) : i_GuessInputs_L0_sh.T := (((v0, ()), (((), ()), ((v1, ()), ((v2, ()), ((v3, ()), ()))))), (v4, ()))
def i_GuessInputs_L0_mx0 (y0 : List Bytes) : Sh.T ⟨[(4, false, [.undef]), (5, false, [.own 0])], [.arr .str false true]⟩ := ((((), ()), (((), ()), ())), (y0, ()))
def i_GuessInputs_L0_B (v0 : Int) (v1 : List Issu) (v2 : Int) (v3 : Int) (v4 : List Bytes) (γ : Type) (fail : γ) (next : i_GuessInputs_L0_sh.T → γ) (out : WT i_GuessInputs_L0_es → γ) : γ :=
  bif (decide (v3 < v2)) then
    bif ((decide (0 ≤ v3)) && (decide (v3 < (v1.length : Int)))) then
    letK (α := Int × Int × Int) (i_CookieParts ((v1.getD v3.toNat (Ty.zero .issu)).cookie)) fun c1 =>
    letK (α := Bytes) (i_MacInput ((v1.getD v3.toNat (Ty.zero .issu)).tuple) ((v1.getD v3.toNat (Ty.zero .issu)).seq) v0 c1.2.1) fun c2 =>
    bif (!(c2 == [])) then
      letK (α := Bool) (g_Contains_string v4 c2) fun c3 =>
      bif (!c3) then
        bif (Nat.ble ((2 * (v4.length + 1) + 1024) * 16) maxSl) then
        next (i_GuessInputs_L0_mk v0 v1 v2 (IntKind.wrap .i64 (v3 + 1)) (v4 ++ [c2]))
        else fail
      else
      next (i_GuessInputs_L0_mk v0 v1 v2 (IntKind.wrap .i64 (v3 + 1)) v4)
    else
    next (i_GuessInputs_L0_mk v0 v1 v2 (IntKind.wrap .i64 (v3 + 1)) v4)
    else fail
  else
  out (i_GuessInputs_L0_mx0 v4)
theorem i_GuessInputs_L0_par (v0 : Int) (v1 : List Issu) (v2 : Int) (v3 : Int) (v4 : List Bytes) (γ : Type) (fail : γ) (next : i_GuessInputs_L0_sh.T → γ) (out : WT i_GuessInputs_L0_es → γ) : i_GuessInputs_L0_B v0 v1 v2 v3 v4 γ fail next out = optK (i_GuessInputs_L0_B v0 v1 v2 v3 v4 _ none (fun v' => some (.inl v')) (fun w => some (.inr w))) fail (fun r => Sum.elim next out r) := by
  unfold i_GuessInputs_L0_B
  exact bifT (f := (fun o => optK o fail (fun r => Sum.elim next out r))) (fun _ => bifT (f := (fun o => optK o fail (fun r => Sum.elim next out r))) (fun _ => letT (f := (fun o => optK o fail (fun r => Sum.elim next out r))) (fun c1 _ => letT (f := (fun o => optK o fail (fun r => Sum.elim next out r))) (fun c2 _ => bifT (f := (fun o => optK o fail (fun r => Sum.elim next out r))) (fun _ => letT (f := (fun o => optK o fail (fun r => Sum.elim next out r))) (fun c3 _ => bifT (f := (fun o => optK o fail (fun r => Sum.elim next out r))) (fun _ => bifT (f := (fun o => optK o fail (fun r => Sum.elim next out r))) (fun _ => rfl) (fun _ => rfl))
      (fun _ => rfl)))
      (fun _ => rfl)))) (fun _ => rfl))
      (fun _ => rfl)
def i_GuessInputs_L0_r : Round i_GuessInputs_L0_sh.T (WT i_GuessInputs_L0_es) where
  B v γ fail next out := i_GuessInputs_L0_B v.1.1.1 v.1.2.2.1.1 v.1.2.2.2.1.1 v.1.2.2.2.2.1.1 v.2.1 γ fail next out
  par v γ fail next out := i_GuessInputs_L0_par v.1.1.1 v.1.2.2.1.1 v.1.2.2.2.1.1 v.1.2.2.2.2.1.1 v.2.1 γ fail next out
def i_GuessInputs_L0_fu (v0 : Int) (v1 : List Issu) (v2 : Int) (v3 : Int) (v4 : List Bytes) : Nat := (Int.toNat (v2 - v3)) + 1
theorem i_GuessInputs_L0_lk (v : i_GuessInputs_L0_sh.T) (next : St → Option Res) (k : Ex → St → Option Res) : evalK te (orcOf (P := Try.prog) [i_CookieParts_e, i_MacInput_e, g_Contains_string_e]) (lorcOf []) Try.f32.ntmps i_GuessInputs_ann (nthLoop (bodyOf Try.f32) 0 0) 0 (i_GuessInputs_L0_sh.enc v) (endK ⟨[0, 5, 13, 14, 15], [], false, 0⟩ ⟨[4, 5], [], false, 0⟩ next k) =
  i_GuessInputs_L0_r.B v _ none (fun v' => next (i_GuessInputs_L0_sh.enc v')) (fun w => outK i_GuessInputs_L0_es k w) := by kernel_rfl
def i_GuessInputs_L0_le : LE := leOf 0 i_GuessInputs_L0_sh i_GuessInputs_L0_es i_GuessInputs_L0_r.step (fun v => i_GuessInputs_L0_fu v.1.1.1 v.1.2.2.1.1 v.1.2.2.2.1.1 v.1.2.2.2.2.1.1 v.2.1)
theorem i_GuessInputs_L0_ls (w0 : World) (mo : Mts) (I0 : Nat → Prop) (hmo : mo.length = 0) : LSem Try.prog (Sim w0 mo Try.f32.ntmps I0) (fun b s k => match Nat.beq 0 b with | true => i_GuessInputs_L0_le.run s k | false => none) 0 (nthLoop (bodyOf Try.f32) 0 0) :=
  le_sem hmo (lorc := lorcOf []) (ann := i_GuessInputs_ann) (keep := ⟨[0, 5, 13, 14, 15], [], false, 0⟩) (kout := ⟨[4, 5], [], false, 0⟩) teFact mixFact (orcOf_ok _) (by kernel_rfl) (allLoops_of (bs := []) (by kernel_rfl) trivial) i_GuessInputs_L0_r _ i_GuessInputs_L0_lk
def i_GuessInputs_L0_f (v0 : Int) (v1 : List Issu) (v2 : Int) (v3 : Int) (a : List Bytes) : Stp (List Bytes) (Empty) :=
  letK (α := Int × Int × Int) (i_CookieParts ((v1.getD v3.toNat (Ty.zero .issu)).cookie)) fun c1 =>
  letK (α := Bytes) (i_MacInput ((v1.getD v3.toNat (Ty.zero .issu)).tuple) ((v1.getD v3.toNat (Ty.zero .issu)).seq) v0 c1.2.1) fun c2 =>
  bif (!(c2 == [])) then
    letK (α := Bool) (g_Contains_string a c2) fun c3 =>
    bif (!c3) then
      .next (a ++ [c2])
    else
    .next a
  else
  .next a
theorem i_GuessInputs_L0_st (v0 : Int) (v1 : List Issu) (v2 : Int) (v3 : Int) (v4 : List Bytes) (hlo : 0 ≤ v3) (hhi : v3 < v2) (hN : v2 ≤ 4611686018427387904) (hi0 : v2 ≤ 4294967296) (hi1 : v2 ≤ (v1.length : Int)) (hinv : (v4.length : Int) ≤ v3) : i_GuessInputs_L0_r.step (i_GuessInputs_L0_mk v0 v1 v2 v3 v4) = Stp.elim (fun a' : List Bytes => some (Sum.inl (i_GuessInputs_L0_mk v0 v1 v2 (v3 + 1) a'))) (fun w => some (Sum.inr ((fun p : Empty => nomatch p) w))) (i_GuessInputs_L0_f v0 v1 v2 v3 v4) := by
  have hw : (IntKind.wrap .i64 (v3 + 1)) = v3 + 1 := wrap64 (by omega) (by omega)
  show i_GuessInputs_L0_B v0 v1 v2 v3 v4 (Option (i_GuessInputs_L0_sh.T ⊕ WT i_GuessInputs_L0_es)) none (fun v' => some (Sum.inl v')) (fun w => some (Sum.inr w)) = _
  unfold i_GuessInputs_L0_B i_GuessInputs_L0_f
  exact bifG (by simp only [decide_eq_true_eq]; omega) (bifG (by (try simp only [Nat.ble_eq, Bool.and_eq_true, decide_eq_true_eq]); grind [maxSl, maxStr, toBytes_length, toInts_length, List.length_set, wrap64, i_MacInput_len]) (letT (f := (Stp.elim (fun a' : List Bytes => some (Sum.inl (i_GuessInputs_L0_mk v0 v1 v2 (v3 + 1) a'))) (fun w => some (Sum.inr ((fun p : Empty => nomatch p) w))))) (fun c1 hc1 => letT (f := (Stp.elim (fun a' : List Bytes => some (Sum.inl (i_GuessInputs_L0_mk v0 v1 v2 (v3 + 1) a'))) (fun w => some (Sum.inr ((fun p : Empty => nomatch p) w))))) (fun c2 hc2 => bifT (f := (Stp.elim (fun a' : List Bytes => some (Sum.inl (i_GuessInputs_L0_mk v0 v1 v2 (v3 + 1) a'))) (fun w => some (Sum.inr ((fun p : Empty => nomatch p) w))))) (fun b0 => letT (f := (Stp.elim (fun a' : List Bytes => some (Sum.inl (i_GuessInputs_L0_mk v0 v1 v2 (v3 + 1) a'))) (fun w => some (Sum.inr ((fun p : Empty => nomatch p) w))))) (fun c3 hc3 => bifT (f := (Stp.elim (fun a' : List Bytes => some (Sum.inl (i_GuessInputs_L0_mk v0 v1 v2 (v3 + 1) a'))) (fun w => some (Sum.inr ((fun p : Empty => nomatch p) w))))) (fun b1 => bifG (by (try simp only [Nat.ble_eq, Bool.and_eq_true, decide_eq_true_eq]); grind [maxSl, maxStr, toBytes_length, toInts_length, List.length_set, wrap64, i_MacInput_len]) (congrArg (fun z => some (Sum.inl (i_GuessInputs_L0_mk v0 v1 v2 z (v4 ++ [c2])))) hw))
      (fun b1 => congrArg (fun z => some (Sum.inl (i_GuessInputs_L0_mk v0 v1 v2 z v4))) hw)))
      (fun b0 => congrArg (fun z => some (Sum.inl (i_GuessInputs_L0_mk v0 v1 v2 z v4))) hw)))))
theorem i_GuessInputs_L0_cl (v0 : Int) (v1 : List Issu) (v2 : Int) (v3 : Int) (v4 : List Bytes) (h0 : 0 ≤ v3) (h1 : v2 ≤ 4611686018427387904) (h2 : v2 ≤ 4294967296) (h3 : v2 ≤ (v1.length : Int)) (h4 : (v4.length : Int) ≤ v3) : loopF i_GuessInputs_L0_r.step (i_GuessInputs_L0_fu v0 v1 v2 v3 v4) (i_GuessInputs_L0_mk v0 v1 v2 v3 v4) = some (Stp.elim (fun a => (fun i a => i_GuessInputs_L0_mx0 a) (v3 + 1 * (((Int.toNat (v2 - v3)) : Nat) : Int)) a) (fun p : Empty => nomatch p) (forN (i_GuessInputs_L0_f v0 v1 v2) 1 (Int.toNat (v2 - v3)) v3 v4)) :=
  forN_loop (step := i_GuessInputs_L0_r.step) (mk := fun v3 a => i_GuessInputs_L0_mk v0 v1 v2 v3 a) (f := i_GuessInputs_L0_f v0 v1 v2) (e := (fun i a => i_GuessInputs_L0_mx0 a)) (emb := (fun p : Empty => nomatch p)) (st := 1) (Inv := fun v3 a => (a.length : Int) ≤ v3) (Int.toNat (v2 - v3)) v3 v4 _ (Nat.lt_succ_self _) h4
    (fun j a hj hv => ⟨i_GuessInputs_L0_st v0 v1 v2 (v3 + 1 * (j : Int)) a (by omega) (by omega) (by omega) h2 h3 hv, by
      intro a' he
      grind [i_GuessInputs_L0_f, letK, Stp.elim, wrap64, List.length_set, i_MacInput_len]⟩)
    (fun a hv => by
      show i_GuessInputs_L0_B v0 v1 v2 (v3 + 1 * (((Int.toNat (v2 - v3)) : Nat) : Int)) a (Option (i_GuessInputs_L0_sh.T ⊕ WT i_GuessInputs_L0_es)) none (fun v' => some (Sum.inl v')) (fun w => some (Sum.inr w)) = _
      unfold i_GuessInputs_L0_B
      exact bifN (by simp only [decide_eq_false_iff_not]; omega) rfl)
theorem i_GuessInputs_L0_nx (v0 : Int) (v1 : List Issu) (v2 : Int) (v3 : Int) (v4 : List Bytes) (h0 : 0 ≤ v3) (h1 : v2 ≤ 4611686018427387904) (h2 : v2 ≤ 4294967296) (h3 : v2 ≤ (v1.length : Int)) (h4 : (v4.length : Int) ≤ v3) : ∀ a', forN (i_GuessInputs_L0_f v0 v1 v2) 1 (Int.toNat (v2 - v3)) v3 v4 = .next a' → (a'.length : Int) ≤ (v3 + 1 * (((Int.toNat (v2 - v3)) : Nat) : Int)) :=
  forN_inv (f := i_GuessInputs_L0_f v0 v1 v2) (st := 1) (Inv := fun v3 a => (a.length : Int) ≤ v3) (Int.toNat (v2 - v3)) v3 v4 h4
    (fun j a hj hv => by
      intro a' he
      grind [i_GuessInputs_L0_f, letK, Stp.elim, wrap64, List.length_set, i_MacInput_len])
def i_GuessInputs_N (x0 : Int) (x1 : List Issu) (γ : Type) (fail : γ) (k : List Bytes → γ) : γ :=
  optK (loopF i_GuessInputs_L0_r.step (i_GuessInputs_L0_fu x0 x1 (x1.length : Int) 0 []) (i_GuessInputs_L0_mk x0 x1 (x1.length : Int) 0 [])) fail fun w4 =>
    k w4.2.1
def i_GuessInputs (x0 : Int) (x1 : List Issu) : List Bytes :=
  Stp.elim (fun a5 =>
    a5)
    (fun p : Empty => nomatch p)
    (forN (i_GuessInputs_L0_f x0 x1 (x1.length : Int)) 1 (Int.toNat ((x1.length : Int) - 0)) 0 [])
theorem i_GuessInputs_lk (x0 : Int) (x1 : List Issu) : evalFn te (orcOf (P := Try.prog) [i_CookieParts_e, i_MacInput_e, g_Contains_string_e]) (lorcOf [i_GuessInputs_L0_le]) i_GuessInputs_ann Try.f32 (pvs [.sc (.int .i64), .sc (.sl .issu)] (x0, x1, ())) =
  i_GuessInputs_N x0 x1 _ none (fun v => some [(false, [RC.own true .str v])]) := by kernel_rfl
theorem i_GuessInputs_p (x0 : Int) (x1 : List Issu) (hx0 : inK .i64 x0) (hx1 : x1.length ≤ 140737488355328) (hp : x1.length ≤ 4294967296) (γ : Type) (fail : γ) (k : List Bytes → γ) : i_GuessInputs_N x0 x1 γ fail k = k (i_GuessInputs x0 x1) := by
  unfold i_GuessInputs_N i_GuessInputs
  exact loopX (f := k) (i_GuessInputs_L0_cl x0 x1 (x1.length : Int) 0 [] (by (try simp only [Nat.ble_eq, Bool.and_eq_true, decide_eq_true_eq, i_GuessInputs_L0_mx0]); grind [maxSl, maxStr, toBytes_length, toInts_length, List.length_set, wrap64, i_MacInput_len]) (by (try simp only [Nat.ble_eq, Bool.and_eq_true, decide_eq_true_eq, i_GuessInputs_L0_mx0]); grind [maxSl, maxStr, toBytes_length, toInts_length, List.length_set, wrap64, i_MacInput_len]) (by (try simp only [Nat.ble_eq, Bool.and_eq_true, decide_eq_true_eq, i_GuessInputs_L0_mx0]); grind [maxSl, maxStr, toBytes_length, toInts_length, List.length_set, wrap64, i_MacInput_len]) (by (try simp only [Nat.ble_eq, Bool.and_eq_true, decide_eq_true_eq, i_GuessInputs_L0_mx0]); grind [maxSl, maxStr, toBytes_length, toInts_length, List.length_set, wrap64, i_MacInput_len]) (by (try simp only [Nat.ble_eq, Bool.and_eq_true, decide_eq_true_eq, i_GuessInputs_L0_mx0]); grind [maxSl, maxStr, toBytes_length, toInts_length, List.length_set, wrap64, i_MacInput_len])) (fun a5 ha5 => have ia5 := i_GuessInputs_L0_nx x0 x1 (x1.length : Int) 0 [] (by (try simp only [Nat.ble_eq, Bool.and_eq_true, decide_eq_true_eq, i_GuessInputs_L0_mx0]); grind [maxSl, maxStr, toBytes_length, toInts_length, List.length_set, wrap64, i_MacInput_len]) (by (try simp only [Nat.ble_eq, Bool.and_eq_true, decide_eq_true_eq, i_GuessInputs_L0_mx0]); grind [maxSl, maxStr, toBytes_length, toInts_length, List.length_set, wrap64, i_MacInput_len]) (by (try simp only [Nat.ble_eq, Bool.and_eq_true, decide_eq_true_eq, i_GuessInputs_L0_mx0]); grind [maxSl, maxStr, toBytes_length, toInts_length, List.length_set, wrap64, i_MacInput_len]) (by (try simp only [Nat.ble_eq, Bool.and_eq_true, decide_eq_true_eq, i_GuessInputs_L0_mx0]); grind [maxSl, maxStr, toBytes_length, toInts_length, List.length_set, wrap64, i_MacInput_len]) (by (try simp only [Nat.ble_eq, Bool.and_eq_true, decide_eq_true_eq, i_GuessInputs_L0_mx0]); grind [maxSl, maxStr, toBytes_length, toInts_length, List.length_set, wrap64, i_MacInput_len]) _ ha5; rfl)
      (fun p : Empty => nomatch p)
theorem i_GuessInputs_c (x0 : Int) (x1 : List Issu) (hp : x1.length ≤ 4294967296) : Con Try.prog 32 (pvs [.sc (.int .i64), .sc (.sl .issu)] (x0, x1, ())) [rv (.sc (.sl .str)) [.o true] (i_GuessInputs x0 x1)] := by
  refine Con.of_facts (enters_of Try.func32 rfl (by kernel_rfl)) fun hf => ?_
  replace hf := factAt hf
  exact evalFn_conL teFact mixFact (orcOf_ok _) Try.func32 (by kernel_rfl) (bs := [0]) (by kernel_rfl) (by kernel_rfl) (fun w0 mo I0 hmo => ⟨lsem_of_lorc (i_GuessInputs_L0_ls w0 mo I0 hmo) (by kernel_rfl), trivial⟩) ((i_GuessInputs_lk x0 x1).trans (i_GuessInputs_p x0 x1 ((hf 0 0 rfl rfl).rng) ((hf 1 0 rfl rfl).len) hp _ _ _))
noncomputable def i_GuessInputs_e : Ent1 Try.prog := entP 32 [.sc (.int .i64), .sc (.sl .issu)] (fun x => (decide (x.2.1.length ≤ 4294967296))) (fun x => (i_GuessInputs x.1 x.2.1)) (fun v => [rv (.sc (.sl .str)) [.o true] v]) (fun x hx => i_GuessInputs_c x.1 x.2.1 (of_decide_eq_true hx))


/-- spec.ActOk -/
def s_ActOk_N (x0 : Acti) (γ : Type) (fail : γ) (k : Bool → γ) : γ :=
  bif (x0.kind == 1) then
    letK (α := Bool) (s_l1In x0.kind 1 8) fun c1 =>
    bif (!c1) then
      k false
    else
    bif (!((x0.tuple.ip == 0) && ((x0.tuple.port == 0) && ((x0.tuple.my == 0) && true)))) then
      k false
    else
    bif (x0.n != 0) then
      k false
    else
    bif (!(x0.text == x0.text)) then
      k false
    else
    letK (α := Bool) (s_SameMac x0.mac (⟨false, 0, 0, []⟩ : Mac)) fun c2 =>
    bif (!c2) then
      k false
    else
    bif (decide ((x0.text.length : Int) ≤ 1600)) then
      letK (α := Bool) (s_MacOk x0.mac) fun c3 =>
      bif c3 then
        letK (α := Bool) (s_TupleOk x0.tuple) fun c4 =>
        bif c4 then
          letK (α := Bool) (s_l1In x0.n 0 65535) fun c5 =>
          k c5
        else
        k false
      else
      k false
    else
    k false
  else
  bif (x0.kind == 3) then
    letK (α := Bool) (s_l1In x0.kind 1 8) fun c6 =>
    bif (!c6) then
      k false
    else
    bif (!((x0.tuple.ip == 0) && ((x0.tuple.port == 0) && ((x0.tuple.my == 0) && true)))) then
      k false
    else
    bif (x0.n != 0) then
      k false
    else
    bif (!(x0.text == [])) then
      k false
    else
    letK (α := Bool) (s_SameMac x0.mac x0.mac) fun c7 =>
    bif (!c7) then
      k false
    else
    bif (decide ((x0.text.length : Int) ≤ 1600)) then
      letK (α := Bool) (s_MacOk x0.mac) fun c8 =>
      bif c8 then
        letK (α := Bool) (s_TupleOk x0.tuple) fun c9 =>
        bif c9 then
          letK (α := Bool) (s_l1In x0.n 0 65535) fun c10 =>
          k c10
        else
        k false
      else
      k false
    else
    k false
  else
  bif (x0.kind == 5) then
    letK (α := Bool) (s_l1In x0.kind 1 8) fun c11 =>
    bif (!c11) then
      k false
    else
    bif (!((x0.tuple.ip == x0.tuple.ip) && ((x0.tuple.port == x0.tuple.port) && ((x0.tuple.my == x0.tuple.my) && true)))) then
      k false
    else
    bif (x0.n != 0) then
      k false
    else
    bif (!(x0.text == x0.text)) then
      k false
    else
    letK (α := Bool) (s_SameMac x0.mac (⟨false, 0, 0, []⟩ : Mac)) fun c12 =>
    bif (!c12) then
      k false
    else
    bif (decide ((x0.text.length : Int) ≤ 1600)) then
      letK (α := Bool) (s_MacOk x0.mac) fun c13 =>
      bif c13 then
        letK (α := Bool) (s_TupleOk x0.tuple) fun c14 =>
        bif c14 then
          letK (α := Bool) (s_l1In x0.n 0 65535) fun c15 =>
          k c15
        else
        k false
      else
      k false
    else
    k false
  else
  bif (x0.kind == 6) then
    letK (α := Bool) (s_l1In x0.kind 1 8) fun c16 =>
    bif (!c16) then
      k false
    else
    bif (!((x0.tuple.ip == x0.tuple.ip) && ((x0.tuple.port == x0.tuple.port) && ((x0.tuple.my == x0.tuple.my) && true)))) then
      k false
    else
    bif (x0.n != x0.n) then
      k false
    else
    bif (!(x0.text == [])) then
      k false
    else
    letK (α := Bool) (s_SameMac x0.mac (⟨false, 0, 0, []⟩ : Mac)) fun c17 =>
    bif (!c17) then
      k false
    else
    bif (decide ((x0.text.length : Int) ≤ 1600)) then
      letK (α := Bool) (s_MacOk x0.mac) fun c18 =>
      bif c18 then
        letK (α := Bool) (s_TupleOk x0.tuple) fun c19 =>
        bif c19 then
          letK (α := Bool) (s_l1In x0.n 0 65535) fun c20 =>
          k c20
        else
        k false
      else
      k false
    else
    k false
  else
  bif (x0.kind == 7) then
    bif (x0.kind == 7) then
      letK (α := Bool) (s_l1In x0.kind 1 8) fun c21 =>
      bif (!c21) then
        k false
      else
      bif (!((x0.tuple.ip == x0.tuple.ip) && ((x0.tuple.port == x0.tuple.port) && ((x0.tuple.my == x0.tuple.my) && true)))) then
        k false
      else
      bif (x0.n != 0) then
        k false
      else
      bif (!(x0.text == [])) then
        k false
      else
      letK (α := Bool) (s_SameMac x0.mac (⟨false, 0, 0, []⟩ : Mac)) fun c22 =>
      bif (!c22) then
        k false
      else
      bif (decide ((x0.text.length : Int) ≤ 1600)) then
        letK (α := Bool) (s_MacOk x0.mac) fun c23 =>
        bif c23 then
          letK (α := Bool) (s_TupleOk x0.tuple) fun c24 =>
          bif c24 then
            letK (α := Bool) (s_l1In x0.n 0 65535) fun c25 =>
            k c25
          else
          k false
        else
        k false
      else
      k false
    else
    letK (α := Bool) (s_l1In x0.kind 1 8) fun c26 =>
    bif (!c26) then
      k false
    else
    bif (!((x0.tuple.ip == 0) && ((x0.tuple.port == 0) && ((x0.tuple.my == 0) && true)))) then
      k false
    else
    bif (x0.n != 0) then
      k false
    else
    bif (!(x0.text == [])) then
      k false
    else
    letK (α := Bool) (s_SameMac x0.mac (⟨false, 0, 0, []⟩ : Mac)) fun c27 =>
    bif (!c27) then
      k false
    else
    bif (decide ((x0.text.length : Int) ≤ 1600)) then
      letK (α := Bool) (s_MacOk x0.mac) fun c28 =>
      bif c28 then
        letK (α := Bool) (s_TupleOk x0.tuple) fun c29 =>
        bif c29 then
          letK (α := Bool) (s_l1In x0.n 0 65535) fun c30 =>
          k c30
        else
        k false
      else
      k false
    else
    k false
  else
  bif (x0.kind == 8) then
    letK (α := Bool) (s_l1In x0.kind 1 8) fun c31 =>
    bif (!c31) then
      k false
    else
    bif (!((x0.tuple.ip == x0.tuple.ip) && ((x0.tuple.port == x0.tuple.port) && ((x0.tuple.my == x0.tuple.my) && true)))) then
      k false
    else
    bif (x0.n != 0) then
      k false
    else
    bif (!(x0.text == [])) then
      k false
    else
    letK (α := Bool) (s_SameMac x0.mac (⟨false, 0, 0, []⟩ : Mac)) fun c32 =>
    bif (!c32) then
      k false
    else
    bif (decide ((x0.text.length : Int) ≤ 1600)) then
      letK (α := Bool) (s_MacOk x0.mac) fun c33 =>
      bif c33 then
        letK (α := Bool) (s_TupleOk x0.tuple) fun c34 =>
        bif c34 then
          letK (α := Bool) (s_l1In x0.n 0 65535) fun c35 =>
          k c35
        else
        k false
      else
      k false
    else
    k false
  else
  letK (α := Bool) (s_l1In x0.kind 1 8) fun c36 =>
  bif (!c36) then
    k false
  else
  bif (!((x0.tuple.ip == 0) && ((x0.tuple.port == 0) && ((x0.tuple.my == 0) && true)))) then
    k false
  else
  bif (x0.n != 0) then
    k false
  else
  bif (!(x0.text == [])) then
    k false
  else
  letK (α := Bool) (s_SameMac x0.mac (⟨false, 0, 0, []⟩ : Mac)) fun c37 =>
  bif (!c37) then
    k false
  else
  bif (decide ((x0.text.length : Int) ≤ 1600)) then
    letK (α := Bool) (s_MacOk x0.mac) fun c38 =>
    bif c38 then
      letK (α := Bool) (s_TupleOk x0.tuple) fun c39 =>
      bif c39 then
        letK (α := Bool) (s_l1In x0.n 0 65535) fun c40 =>
        k c40
      else
      k false
    else
    k false
  else
  k false
def s_ActOk (x0 : Acti) : Bool :=
  bif (x0.kind == 1) then
    letK (α := Bool) (s_l1In x0.kind 1 8) fun c1 =>
    bif (!c1) then
      false
    else
    bif (!((x0.tuple.ip == 0) && ((x0.tuple.port == 0) && ((x0.tuple.my == 0) && true)))) then
      false
    else
    bif (x0.n != 0) then
      false
    else
    bif (!(x0.text == x0.text)) then
      false
    else
    letK (α := Bool) (s_SameMac x0.mac (⟨false, 0, 0, []⟩ : Mac)) fun c2 =>
    bif (!c2) then
      false
    else
    bif (decide ((x0.text.length : Int) ≤ 1600)) then
      letK (α := Bool) (s_MacOk x0.mac) fun c3 =>
      bif c3 then
        letK (α := Bool) (s_TupleOk x0.tuple) fun c4 =>
        bif c4 then
          letK (α := Bool) (s_l1In x0.n 0 65535) fun c5 =>
          c5
        else
        false
      else
      false
    else
    false
  else
  bif (x0.kind == 3) then
    letK (α := Bool) (s_l1In x0.kind 1 8) fun c6 =>
    bif (!c6) then
      false
    else
    bif (!((x0.tuple.ip == 0) && ((x0.tuple.port == 0) && ((x0.tuple.my == 0) && true)))) then
      false
    else
    bif (x0.n != 0) then
      false
    else
    bif (!(x0.text == [])) then
      false
    else
    letK (α := Bool) (s_SameMac x0.mac x0.mac) fun c7 =>
    bif (!c7) then
      false
    else
    bif (decide ((x0.text.length : Int) ≤ 1600)) then
      letK (α := Bool) (s_MacOk x0.mac) fun c8 =>
      bif c8 then
        letK (α := Bool) (s_TupleOk x0.tuple) fun c9 =>
        bif c9 then
          letK (α := Bool) (s_l1In x0.n 0 65535) fun c10 =>
          c10
        else
        false
      else
      false
    else
    false
  else
  bif (x0.kind == 5) then
    letK (α := Bool) (s_l1In x0.kind 1 8) fun c11 =>
    bif (!c11) then
      false
    else
    bif (!((x0.tuple.ip == x0.tuple.ip) && ((x0.tuple.port == x0.tuple.port) && ((x0.tuple.my == x0.tuple.my) && true)))) then
      false
    else
    bif (x0.n != 0) then
      false
    else
    bif (!(x0.text == x0.text)) then
      false
    else
    letK (α := Bool) (s_SameMac x0.mac (⟨false, 0, 0, []⟩ : Mac)) fun c12 =>
    bif (!c12) then
      false
    else
    bif (decide ((x0.text.length : Int) ≤ 1600)) then
      letK (α := Bool) (s_MacOk x0.mac) fun c13 =>
      bif c13 then
        letK (α := Bool) (s_TupleOk x0.tuple) fun c14 =>
        bif c14 then
          letK (α := Bool) (s_l1In x0.n 0 65535) fun c15 =>
          c15
        else
        false
      else
      false
    else
    false
  else
  bif (x0.kind == 6) then
    letK (α := Bool) (s_l1In x0.kind 1 8) fun c16 =>
    bif (!c16) then
      false
    else
    bif (!((x0.tuple.ip == x0.tuple.ip) && ((x0.tuple.port == x0.tuple.port) && ((x0.tuple.my == x0.tuple.my) && true)))) then
      false
    else
    bif (x0.n != x0.n) then
      false
    else
    bif (!(x0.text == [])) then
      false
    else
    letK (α := Bool) (s_SameMac x0.mac (⟨false, 0, 0, []⟩ : Mac)) fun c17 =>
    bif (!c17) then
      false
    else
    bif (decide ((x0.text.length : Int) ≤ 1600)) then
      letK (α := Bool) (s_MacOk x0.mac) fun c18 =>
      bif c18 then
        letK (α := Bool) (s_TupleOk x0.tuple) fun c19 =>
        bif c19 then
          letK (α := Bool) (s_l1In x0.n 0 65535) fun c20 =>
          c20
        else
        false
      else
      false
    else
    false
  else
  bif (x0.kind == 7) then
    bif (x0.kind == 7) then
      letK (α := Bool) (s_l1In x0.kind 1 8) fun c21 =>
      bif (!c21) then
        false
      else
      bif (!((x0.tuple.ip == x0.tuple.ip) && ((x0.tuple.port == x0.tuple.port) && ((x0.tuple.my == x0.tuple.my) && true)))) then
        false
      else
      bif (x0.n != 0) then
        false
      else
      bif (!(x0.text == [])) then
        false
      else
      letK (α := Bool) (s_SameMac x0.mac (⟨false, 0, 0, []⟩ : Mac)) fun c22 =>
      bif (!c22) then
        false
      else
      bif (decide ((x0.text.length : Int) ≤ 1600)) then
        letK (α := Bool) (s_MacOk x0.mac) fun c23 =>
        bif c23 then
          letK (α := Bool) (s_TupleOk x0.tuple) fun c24 =>
          bif c24 then
            letK (α := Bool) (s_l1In x0.n 0 65535) fun c25 =>
            c25
          else
          false
        else
        false
      else
      false
    else
    letK (α := Bool) (s_l1In x0.kind 1 8) fun c26 =>
    bif (!c26) then
      false
    else
    bif (!((x0.tuple.ip == 0) && ((x0.tuple.port == 0) && ((x0.tuple.my == 0) && true)))) then
      false
    else
    bif (x0.n != 0) then
      false
    else
    bif (!(x0.text == [])) then
      false
    else
    letK (α := Bool) (s_SameMac x0.mac (⟨false, 0, 0, []⟩ : Mac)) fun c27 =>
    bif (!c27) then
      false
    else
    bif (decide ((x0.text.length : Int) ≤ 1600)) then
      letK (α := Bool) (s_MacOk x0.mac) fun c28 =>
      bif c28 then
        letK (α := Bool) (s_TupleOk x0.tuple) fun c29 =>
        bif c29 then
          letK (α := Bool) (s_l1In x0.n 0 65535) fun c30 =>
          c30
        else
        false
      else
      false
    else
    false
  else
  bif (x0.kind == 8) then
    letK (α := Bool) (s_l1In x0.kind 1 8) fun c31 =>
    bif (!c31) then
      false
    else
    bif (!((x0.tuple.ip == x0.tuple.ip) && ((x0.tuple.port == x0.tuple.port) && ((x0.tuple.my == x0.tuple.my) && true)))) then
      false
    else
    bif (x0.n != 0) then
      false
    else
    bif (!(x0.text == [])) then
      false
    else
    letK (α := Bool) (s_SameMac x0.mac (⟨false, 0, 0, []⟩ : Mac)) fun c32 =>
    bif (!c32) then
      false
    else
    bif (decide ((x0.text.length : Int) ≤ 1600)) then
      letK (α := Bool) (s_MacOk x0.mac) fun c33 =>
      bif c33 then
        letK (α := Bool) (s_TupleOk x0.tuple) fun c34 =>
        bif c34 then
          letK (α := Bool) (s_l1In x0.n 0 65535) fun c35 =>
          c35
        else
        false
      else
      false
    else
    false
  else
  letK (α := Bool) (s_l1In x0.kind 1 8) fun c36 =>
  bif (!c36) then
    false
  else
  bif (!((x0.tuple.ip == 0) && ((x0.tuple.port == 0) && ((x0.tuple.my == 0) && true)))) then
    false
  else
  bif (x0.n != 0) then
    false
  else
  bif (!(x0.text == [])) then
    false
  else
  letK (α := Bool) (s_SameMac x0.mac (⟨false, 0, 0, []⟩ : Mac)) fun c37 =>
  bif (!c37) then
    false
  else
  bif (decide ((x0.text.length : Int) ≤ 1600)) then
    letK (α := Bool) (s_MacOk x0.mac) fun c38 =>
    bif c38 then
      letK (α := Bool) (s_TupleOk x0.tuple) fun c39 =>
      bif c39 then
        letK (α := Bool) (s_l1In x0.n 0 65535) fun c40 =>
        c40
      else
      false
    else
    false
  else
  false
theorem s_ActOk_lk (x0 : Acti) : evalFn te (orcOf (P := Try.prog) [s_l1In_e, s_SameMac_e, s_MacOk_e, s_TupleOk_e]) lorc0 [] Try.f37 (pvs [.st .acti] (x0, ())) =
  s_ActOk_N x0 _ none (fun v => some [(false, [RC.c (.bool v)])]) := by kernel_rfl
theorem s_ActOk_p (x0 : Acti)   (γ : Type) (fail : γ) (k : Bool → γ) : s_ActOk_N x0 γ fail k = k (s_ActOk x0) := by
  unfold s_ActOk_N s_ActOk
  exact bifT (f := k) (fun b0 => letT (f := k) (fun c1 hc1 => bifT (f := k) (fun b1 => rfl)
      (fun b1 => bifT (f := k) (fun b2 => rfl)
      (fun b2 => bifT (f := k) (fun b3 => rfl)
      (fun b3 => bifT (f := k) (fun b4 => rfl)
      (fun b4 => letT (f := k) (fun c2 hc2 => bifT (f := k) (fun b5 => rfl)
      (fun b5 => bifT (f := k) (fun b6 => letT (f := k) (fun c3 hc3 => bifT (f := k) (fun b7 => letT (f := k) (fun c4 hc4 => bifT (f := k) (fun b8 => letT (f := k) (fun c5 hc5 => rfl))
      (fun b8 => rfl)))
      (fun b7 => rfl)))
      (fun b6 => rfl)))))))))
      (fun b0 => bifT (f := k) (fun b1 => letT (f := k) (fun c6 hc6 => bifT (f := k) (fun b2 => rfl)
      (fun b2 => bifT (f := k) (fun b3 => rfl)
      (fun b3 => bifT (f := k) (fun b4 => rfl)
      (fun b4 => bifT (f := k) (fun b5 => rfl)
      (fun b5 => letT (f := k) (fun c7 hc7 => bifT (f := k) (fun b6 => rfl)
      (fun b6 => bifT (f := k) (fun b7 => letT (f := k) (fun c8 hc8 => bifT (f := k) (fun b8 => letT (f := k) (fun c9 hc9 => bifT (f := k) (fun b9 => letT (f := k) (fun c10 hc10 => rfl))
      (fun b9 => rfl)))
      (fun b8 => rfl)))
      (fun b7 => rfl)))))))))
      (fun b1 => bifT (f := k) (fun b2 => letT (f := k) (fun c11 hc11 => bifT (f := k) (fun b3 => rfl)
      (fun b3 => bifT (f := k) (fun b4 => rfl)
      (fun b4 => bifT (f := k) (fun b5 => rfl)
      (fun b5 => bifT (f := k) (fun b6 => rfl)
      (fun b6 => letT (f := k) (fun c12 hc12 => bifT (f := k) (fun b7 => rfl)
      (fun b7 => bifT (f := k) (fun b8 => letT (f := k) (fun c13 hc13 => bifT (f := k) (fun b9 => letT (f := k) (fun c14 hc14 => bifT (f := k) (fun b10 => letT (f := k) (fun c15 hc15 => rfl))
      (fun b10 => rfl)))
      (fun b9 => rfl)))
      (fun b8 => rfl)))))))))
      (fun b2 => bifT (f := k) (fun b3 => letT (f := k) (fun c16 hc16 => bifT (f := k) (fun b4 => rfl)
      (fun b4 => bifT (f := k) (fun b5 => rfl)
      (fun b5 => bifT (f := k) (fun b6 => rfl)
      (fun b6 => bifT (f := k) (fun b7 => rfl)
      (fun b7 => letT (f := k) (fun c17 hc17 => bifT (f := k) (fun b8 => rfl)
      (fun b8 => bifT (f := k) (fun b9 => letT (f := k) (fun c18 hc18 => bifT (f := k) (fun b10 => letT (f := k) (fun c19 hc19 => bifT (f := k) (fun b11 => letT (f := k) (fun c20 hc20 => rfl))
      (fun b11 => rfl)))
      (fun b10 => rfl)))
      (fun b9 => rfl)))))))))
      (fun b3 => bifT (f := k) (fun b4 => bifT (f := k) (fun b5 => letT (f := k) (fun c21 hc21 => bifT (f := k) (fun b6 => rfl)
      (fun b6 => bifT (f := k) (fun b7 => rfl)
      (fun b7 => bifT (f := k) (fun b8 => rfl)
      (fun b8 => bifT (f := k) (fun b9 => rfl)
      (fun b9 => letT (f := k) (fun c22 hc22 => bifT (f := k) (fun b10 => rfl)
      (fun b10 => bifT (f := k) (fun b11 => letT (f := k) (fun c23 hc23 => bifT (f := k) (fun b12 => letT (f := k) (fun c24 hc24 => bifT (f := k) (fun b13 => letT (f := k) (fun c25 hc25 => rfl))
      (fun b13 => rfl)))
      (fun b12 => rfl)))
      (fun b11 => rfl)))))))))
      (fun b5 => letT (f := k) (fun c26 hc26 => bifT (f := k) (fun b6 => rfl)
      (fun b6 => bifT (f := k) (fun b7 => rfl)
      (fun b7 => bifT (f := k) (fun b8 => rfl)
      (fun b8 => bifT (f := k) (fun b9 => rfl)
      (fun b9 => letT (f := k) (fun c27 hc27 => bifT (f := k) (fun b10 => rfl)
      (fun b10 => bifT (f := k) (fun b11 => letT (f := k) (fun c28 hc28 => bifT (f := k) (fun b12 => letT (f := k) (fun c29 hc29 => bifT (f := k) (fun b13 => letT (f := k) (fun c30 hc30 => rfl))
      (fun b13 => rfl)))
      (fun b12 => rfl)))
      (fun b11 => rfl))))))))))
      (fun b4 => bifT (f := k) (fun b5 => letT (f := k) (fun c31 hc31 => bifT (f := k) (fun b6 => rfl)
      (fun b6 => bifT (f := k) (fun b7 => rfl)
      (fun b7 => bifT (f := k) (fun b8 => rfl)
      (fun b8 => bifT (f := k) (fun b9 => rfl)
      (fun b9 => letT (f := k) (fun c32 hc32 => bifT (f := k) (fun b10 => rfl)
      (fun b10 => bifT (f := k) (fun b11 => letT (f := k) (fun c33 hc33 => bifT (f := k) (fun b12 => letT (f := k) (fun c34 hc34 => bifT (f := k) (fun b13 => letT (f := k) (fun c35 hc35 => rfl))
      (fun b13 => rfl)))
      (fun b12 => rfl)))
      (fun b11 => rfl)))))))))
      (fun b5 => letT (f := k) (fun c36 hc36 => bifT (f := k) (fun b6 => rfl)
      (fun b6 => bifT (f := k) (fun b7 => rfl)
      (fun b7 => bifT (f := k) (fun b8 => rfl)
      (fun b8 => bifT (f := k) (fun b9 => rfl)
      (fun b9 => letT (f := k) (fun c37 hc37 => bifT (f := k) (fun b10 => rfl)
      (fun b10 => bifT (f := k) (fun b11 => letT (f := k) (fun c38 hc38 => bifT (f := k) (fun b12 => letT (f := k) (fun c39 hc39 => bifT (f := k) (fun b13 => letT (f := k) (fun c40 hc40 => rfl))
      (fun b13 => rfl)))
      (fun b12 => rfl)))
      (fun b11 => rfl))))))))))))))
theorem s_ActOk_c (x0 : Acti)  : Con Try.prog 37 (pvs [.st .acti] (x0, ())) [rv (.sc .bool) [] (s_ActOk x0)] := by
  exact evalFn_con0 teFact mixFact (orcOf_ok _) Try.func37 (by kernel_rfl) ((s_ActOk_lk x0).trans (s_ActOk_p x0  _ _ _))
noncomputable def s_ActOk_e : Ent1 Try.prog := entA 37 [.st .acti] (fun x => (s_ActOk x.1)) (fun v => [rv (.sc .bool) [] v]) (fun x => s_ActOk_c x.1)


/-- laws.eqAct -/
def w_eqAct_N (x0 : Acti) (x1 : Acti) (γ : Type) (fail : γ) (k : Bool → γ) : γ :=
  bif (x0.kind != x1.kind) then
    k false
  else
  letK (α := Bool) (w_eqTuple x0.tuple x1.tuple) fun c1 =>
  bif (!c1) then
    k false
  else
  bif (x0.n != x1.n) then
    k false
  else
  bif (!(x0.text == x1.text)) then
    k false
  else
  letK (α := Bool) (w_eqMac x0.mac x1.mac) fun c2 =>
  bif (!c2) then
    k false
  else
  k true
def w_eqAct (x0 : Acti) (x1 : Acti) : Bool :=
  bif (x0.kind != x1.kind) then
    false
  else
  letK (α := Bool) (w_eqTuple x0.tuple x1.tuple) fun c1 =>
  bif (!c1) then
    false
  else
  bif (x0.n != x1.n) then
    false
  else
  bif (!(x0.text == x1.text)) then
    false
  else
  letK (α := Bool) (w_eqMac x0.mac x1.mac) fun c2 =>
  bif (!c2) then
    false
  else
  true
theorem w_eqAct_lk (x0 : Acti) (x1 : Acti) : evalFn te (orcOf (P := Try.prog) [w_eqTuple_e, w_eqMac_e]) lorc0 [] Try.f40 (pvs [.st .acti, .st .acti] (x0, x1, ())) =
  w_eqAct_N x0 x1 _ none (fun v => some [(false, [RC.c (.bool v)])]) := by kernel_rfl
theorem w_eqAct_p (x0 : Acti) (x1 : Acti)   (γ : Type) (fail : γ) (k : Bool → γ) : w_eqAct_N x0 x1 γ fail k = k (w_eqAct x0 x1) := by
  unfold w_eqAct_N w_eqAct
  exact bifT (f := k) (fun b0 => rfl)
      (fun b0 => letT (f := k) (fun c1 hc1 => bifT (f := k) (fun b1 => rfl)
      (fun b1 => bifT (f := k) (fun b2 => rfl)
      (fun b2 => bifT (f := k) (fun b3 => rfl)
      (fun b3 => letT (f := k) (fun c2 hc2 => bifT (f := k) (fun b4 => rfl)
      (fun b4 => rfl)))))))
theorem w_eqAct_c (x0 : Acti) (x1 : Acti)  : Con Try.prog 40 (pvs [.st .acti, .st .acti] (x0, x1, ())) [rv (.sc .bool) [] (w_eqAct x0 x1)] := by
  exact evalFn_con0 teFact mixFact (orcOf_ok _) Try.func40 (by kernel_rfl) ((w_eqAct_lk x0 x1).trans (w_eqAct_p x0 x1  _ _ _))
noncomputable def w_eqAct_e : Ent1 Try.prog := entA 40 [.st .acti, .st .acti] (fun x => (w_eqAct x.1 x.2.1)) (fun v => [rv (.sc .bool) [] v]) (fun x => w_eqAct_c x.1 x.2.1)


/-- spec.MacInput -/
def s_MacInput_N (x0 : Tupl) (x1 : Int) (x2 : Int) (x3 : Int) (γ : Type) (fail : γ) (k : Bytes → γ) : γ :=
  letK (α := Bool) (s_TupleOk x0) fun c1 =>
  bif (!c1) then
    k []
  else
  letK (α := Bool) (s_WordOk x1 32) fun c2 =>
  bif (!c2) then
    k []
  else
  letK (α := Bool) (s_WordOk x2 32) fun c3 =>
  bif (!c3) then
    k []
  else
  letK (α := Bool) (s_l1In x3 0 7) fun c4 =>
  bif (!c4) then
    k []
  else
  letK (α := Bytes) (s_PutWord x0.ip 4) fun c5 =>
  letK (α := Bytes) (s_PutWord x0.port 2) fun c6 =>
  bif (Nat.ble (c5.length + c6.length) maxStr) then
  letK (α := Bytes) (s_PutWord x0.my 2) fun c7 =>
  bif (Nat.ble ((c5 ++ c6).length + c7.length) maxStr) then
  letK (α := Bytes) (s_PutWord x1 4) fun c8 =>
  bif (Nat.ble (((c5 ++ c6) ++ c7).length + c8.length) maxStr) then
  letK (α := Bytes) (s_PutWord x2 4) fun c9 =>
  bif (Nat.ble ((((c5 ++ c6) ++ c7) ++ c8).length + c9.length) maxStr) then
  letK (α := Bytes) (s_PutWord x3 1) fun c10 =>
  bif (Nat.ble (((((c5 ++ c6) ++ c7) ++ c8) ++ c9).length + c10.length) maxStr) then
  k (((((c5 ++ c6) ++ c7) ++ c8) ++ c9) ++ c10)
  else fail
  else fail
  else fail
  else fail
  else fail
def s_MacInput (x0 : Tupl) (x1 : Int) (x2 : Int) (x3 : Int) : Bytes :=
  letK (α := Bool) (s_TupleOk x0) fun c1 =>
  bif (!c1) then
    []
  else
  letK (α := Bool) (s_WordOk x1 32) fun c2 =>
  bif (!c2) then
    []
  else
  letK (α := Bool) (s_WordOk x2 32) fun c3 =>
  bif (!c3) then
    []
  else
  letK (α := Bool) (s_l1In x3 0 7) fun c4 =>
  bif (!c4) then
    []
  else
  letK (α := Bytes) (s_PutWord x0.ip 4) fun c5 =>
  letK (α := Bytes) (s_PutWord x0.port 2) fun c6 =>
  letK (α := Bytes) (s_PutWord x0.my 2) fun c7 =>
  letK (α := Bytes) (s_PutWord x1 4) fun c8 =>
  letK (α := Bytes) (s_PutWord x2 4) fun c9 =>
  letK (α := Bytes) (s_PutWord x3 1) fun c10 =>
  (((((c5 ++ c6) ++ c7) ++ c8) ++ c9) ++ c10)
theorem s_MacInput_lk (x0 : Tupl) (x1 : Int) (x2 : Int) (x3 : Int) : evalFn te (orcOf (P := Try.prog) [s_TupleOk_e, s_WordOk_e, s_l1In_e, s_PutWord_e]) lorc0 [] Try.f72 (pvs [.st .tupl, .sc (.int .i64), .sc (.int .i64), .sc (.int .i64)] (x0, x1, x2, x3, ())) =
  s_MacInput_N x0 x1 x2 x3 _ none (fun v => some [(false, [RC.c (.str v)])]) := by kernel_rfl
theorem s_MacInput_p (x0 : Tupl) (x1 : Int) (x2 : Int) (x3 : Int) (hx0_ip : inK .i64 x0.ip) (hx0_port : inK .i64 x0.port) (hx0_my : inK .i64 x0.my) (hx1 : inK .i64 x1) (hx2 : inK .i64 x2) (hx3 : inK .i64 x3)  (γ : Type) (fail : γ) (k : Bytes → γ) : s_MacInput_N x0 x1 x2 x3 γ fail k = k (s_MacInput x0 x1 x2 x3) := by
  unfold s_MacInput_N s_MacInput
  exact letT (f := k) (fun c1 hc1 => bifT (f := k) (fun b0 => rfl)
      (fun b0 => letT (f := k) (fun c2 hc2 => bifT (f := k) (fun b1 => rfl)
      (fun b1 => letT (f := k) (fun c3 hc3 => bifT (f := k) (fun b2 => rfl)
      (fun b2 => letT (f := k) (fun c4 hc4 => bifT (f := k) (fun b3 => rfl)
      (fun b3 => letT (f := k) (fun c5 hc5 => letT (f := k) (fun c6 hc6 => bifG (by (try simp only [Nat.ble_eq, Bool.and_eq_true, decide_eq_true_eq]); grind [maxSl, maxStr, toBytes_length, toInts_length, List.length_set, wrap64, s_PutWord_len]) (letT (f := k) (fun c7 hc7 => bifG (by (try simp only [Nat.ble_eq, Bool.and_eq_true, decide_eq_true_eq]); grind [maxSl, maxStr, toBytes_length, toInts_length, List.length_set, wrap64, s_PutWord_len]) (letT (f := k) (fun c8 hc8 => bifG (by (try simp only [Nat.ble_eq, Bool.and_eq_true, decide_eq_true_eq]); grind [maxSl, maxStr, toBytes_length, toInts_length, List.length_set, wrap64, s_PutWord_len]) (letT (f := k) (fun c9 hc9 => bifG (by (try simp only [Nat.ble_eq, Bool.and_eq_true, decide_eq_true_eq]); grind [maxSl, maxStr, toBytes_length, toInts_length, List.length_set, wrap64, s_PutWord_len]) (letT (f := k) (fun c10 hc10 => bifG (by (try simp only [Nat.ble_eq, Bool.and_eq_true, decide_eq_true_eq]); grind [maxSl, maxStr, toBytes_length, toInts_length, List.length_set, wrap64, s_PutWord_len]) (rfl)))))))))))))))))))
theorem s_MacInput_c (x0 : Tupl) (x1 : Int) (x2 : Int) (x3 : Int)  : Con Try.prog 72 (pvs [.st .tupl, .sc (.int .i64), .sc (.int .i64), .sc (.int .i64)] (x0, x1, x2, x3, ())) [rv (.sc .str) [] (s_MacInput x0 x1 x2 x3)] := by
  refine Con.of_facts (enters_of Try.func72 rfl (by kernel_rfl)) fun hf => ?_
  replace hf := factAt hf
  exact evalFn_con0 teFact mixFact (orcOf_ok _) Try.func72 (by kernel_rfl) ((s_MacInput_lk x0 x1 x2 x3).trans (s_MacInput_p x0 x1 x2 x3 ((hf 0 0 rfl rfl).rng) ((hf 0 1 rfl rfl).rng) ((hf 0 2 rfl rfl).rng) ((hf 1 0 rfl rfl).rng) ((hf 2 0 rfl rfl).rng) ((hf 3 0 rfl rfl).rng) _ _ _))
noncomputable def s_MacInput_e : Ent1 Try.prog := entA 72 [.st .tupl, .sc (.int .i64), .sc (.int .i64), .sc (.int .i64)] (fun x => (s_MacInput x.1 x.2.1 x.2.2.1 x.2.2.2.1)) (fun v => [rv (.sc .str) [] v]) (fun x => s_MacInput_c x.1 x.2.1 x.2.2.1 x.2.2.2.1)

theorem s_MacInput_len (x0 : Tupl) (x1 : Int) (x2 : Int) (x3 : Int)   : (fun v : Bytes => v.length ≤ 64) (s_MacInput x0 x1 x2 x3) := by
  unfold s_MacInput
  exact letP (P := (fun v : Bytes => v.length ≤ 64)) (fun c1 hc1 => bifP (P := (fun v : Bytes => v.length ≤ 64)) (fun b0 => (by (try simp only [Nat.ble_eq, Bool.and_eq_true, decide_eq_true_eq]); grind [maxSl, maxStr, toBytes_length, toInts_length, List.length_set, wrap64, s_PutWord_len]))
      (fun b0 => letP (P := (fun v : Bytes => v.length ≤ 64)) (fun c2 hc2 => bifP (P := (fun v : Bytes => v.length ≤ 64)) (fun b1 => (by (try simp only [Nat.ble_eq, Bool.and_eq_true, decide_eq_true_eq]); grind [maxSl, maxStr, toBytes_length, toInts_length, List.length_set, wrap64, s_PutWord_len]))
      (fun b1 => letP (P := (fun v : Bytes => v.length ≤ 64)) (fun c3 hc3 => bifP (P := (fun v : Bytes => v.length ≤ 64)) (fun b2 => (by (try simp only [Nat.ble_eq, Bool.and_eq_true, decide_eq_true_eq]); grind [maxSl, maxStr, toBytes_length, toInts_length, List.length_set, wrap64, s_PutWord_len]))
      (fun b2 => letP (P := (fun v : Bytes => v.length ≤ 64)) (fun c4 hc4 => bifP (P := (fun v : Bytes => v.length ≤ 64)) (fun b3 => (by (try simp only [Nat.ble_eq, Bool.and_eq_true, decide_eq_true_eq]); grind [maxSl, maxStr, toBytes_length, toInts_length, List.length_set, wrap64, s_PutWord_len]))
      (fun b3 => letP (P := (fun v : Bytes => v.length ≤ 64)) (fun c5 hc5 => letP (P := (fun v : Bytes => v.length ≤ 64)) (fun c6 hc6 => letP (P := (fun v : Bytes => v.length ≤ 64)) (fun c7 hc7 => letP (P := (fun v : Bytes => v.length ≤ 64)) (fun c8 hc8 => letP (P := (fun v : Bytes => v.length ≤ 64)) (fun c9 hc9 => letP (P := (fun v : Bytes => v.length ≤ 64)) (fun c10 hc10 => (by (try simp only [Nat.ble_eq, Bool.and_eq_true, decide_eq_true_eq]); grind [maxSl, maxStr, toBytes_length, toInts_length, List.length_set, wrap64, s_PutWord_len])))))))))))))))

/-- laws.toMac -/
def w_toMac_N (x0 : Mac) (γ : Type) (fail : γ) (k : Mac → γ) : γ :=
  bif (decide (x0.rows.length ≤ 4294967296)) then
  letK (α := List MacRow) (w_toMacRowS x0.rows) fun c1 =>
  k ({ x0 with rows := c1 } : Mac)
  else fail
def w_toMac (x0 : Mac) : Mac :=
  letK (α := List MacRow) (w_toMacRowS x0.rows) fun c1 =>
  ({ x0 with rows := c1 } : Mac)
theorem w_toMac_lk (x0 : Mac) : evalFn te (orcOf (P := Try.prog) [w_toMacRowS_e]) lorc0 [] Try.f83 (pvs [.st .mac] (x0, ())) =
  w_toMac_N x0 _ none (fun v => some [(true, [RC.c (.bool v.use), RC.c (.int .u64 v.k), RC.c (.int .u64 v.l), RC.own true .macRow v.rows])]) := by kernel_rfl
theorem w_toMac_p (x0 : Mac) (hx0_k : inK .u64 x0.k) (hx0_l : inK .u64 x0.l) (hx0_rows : x0.rows.length ≤ 140737488355328) (hx0_rows_e : ∀ y ∈ x0.rows, ∀ c ∈ Ty.cells .macRow y, FactC c) (hp : x0.rows.length ≤ 4294967296) (γ : Type) (fail : γ) (k : Mac → γ) : w_toMac_N x0 γ fail k = k (w_toMac x0) := by
  unfold w_toMac_N w_toMac
  exact bifG (by (try simp only [Nat.ble_eq, Bool.and_eq_true, decide_eq_true_eq]); grind [maxSl, maxStr, toBytes_length, toInts_length, List.length_set, wrap64]) (letT (f := k) (fun c1 hc1 => rfl))
theorem w_toMac_c (x0 : Mac) (hp : x0.rows.length ≤ 4294967296) : Con Try.prog 83 (pvs [.st .mac] (x0, ())) [rv (.st .mac) [.c, .c, .c, .o true] (w_toMac x0)] := by
  refine Con.of_facts (enters_of Try.func83 rfl (by kernel_rfl)) fun hf => ?_
  replace hf := factAt hf
  exact evalFn_con0 teFact mixFact (orcOf_ok _) Try.func83 (by kernel_rfl) ((w_toMac_lk x0).trans (w_toMac_p x0 ((hf 0 1 rfl rfl).rng) ((hf 0 2 rfl rfl).rng) ((hf 0 3 rfl rfl).len) (fun y hy => (hf 0 3 rfl rfl).elem hy) hp _ _ _))
noncomputable def w_toMac_e : Ent1 Try.prog := entP 83 [.st .mac] (fun x => (decide (x.1.rows.length ≤ 4294967296))) (fun x => (w_toMac x.1)) (fun v => [rv (.st .mac) [.c, .c, .c, .o true] v]) (fun x hx => w_toMac_c x.1 (of_decide_eq_true hx))


/-- spec.GuessInputs -/
def s_GuessInputs_ann : List (Nat × Keep) := [(0, ⟨[0, 1, 5, 6], [], false, 0⟩)]
def s_GuessInputs_L0_sh : Sh := ⟨[(0, false, [.int .i64]), (1, false, [.sl .arg .issu]), (5, false, [.own 0]), (6, false, [.int .i64])], [.arr .str false true]⟩
def s_GuessInputs_L0_es : List (Ex × Sh) := [(.exit 0, ⟨[(4, false, [.undef]), (5, false, [.own 0])], [.arr .str false true]⟩)]
def s_GuessInputs_L0_mk (v0 : Int) (v1 : List Issu) (v2 : Int) (v3 : List Bytes) : s_GuessInputs_L0_sh.T := (((v0, ()), ((v1, ()), (((), ()), ((v2, ()), ())))), (v3, ()))
def s_GuessInputs_L0_mx0 (y0 : List Bytes) : Sh.T ⟨[(4, false, [.undef]), (5, false, [.own 0])], [.arr .str false true]⟩ := ((((), ()), (((), ()), ())), (y0, ()))
def s_GuessInputs_L0_B (v0 : Int) (v1 : List Issu) (v2 : Int) (v3 : List Bytes) (γ : Type) (fail : γ) (next : s_GuessInputs_L0_sh.T → γ) (out : WT s_GuessInputs_L0_es → γ) : γ :=
  bif (decide (v2 < (v1.length : Int))) then
    bif ((decide (0 ≤ v2)) && (decide (v2 < (v1.length : Int)))) then
    letK (α := Int × Int × Int) (s_CookieParts ((v1.getD v2.toNat (Ty.zero .issu)).cookie)) fun c1 =>
    bif ((decide (0 ≤ v2)) && (decide (v2 < (v1.length : Int)))) then
    bif ((decide (0 ≤ v2)) && (decide (v2 < (v1.length : Int)))) then
    letK (α := Bytes) (s_MacInput ((v1.getD v2.toNat (Ty.zero .issu)).tuple) ((v1.getD v2.toNat (Ty.zero .issu)).seq) v0 c1.2.1) fun c2 =>
    bif (!(c2 == [])) then
      letK (α := Bool) (s_l1Has v3 c2) fun c3 =>
      bif (!c3) then
        bif (Nat.ble ((2 * (v3.length + 1) + 1024) * 16) maxSl) then
        next (s_GuessInputs_L0_mk v0 v1 (IntKind.wrap .i64 (v2 + 1)) (v3 ++ [c2]))
        else fail
      else
      next (s_GuessInputs_L0_mk v0 v1 (IntKind.wrap .i64 (v2 + 1)) v3)
    else
    next (s_GuessInputs_L0_mk v0 v1 (IntKind.wrap .i64 (v2 + 1)) v3)
    else fail
    else fail
    else fail
  else
  out (s_GuessInputs_L0_mx0 v3)
theorem s_GuessInputs_L0_par (v0 : Int) (v1 : List Issu) (v2 : Int) (v3 : List Bytes) (γ : Type) (fail : γ) (next : s_GuessInputs_L0_sh.T → γ) (out : WT s_GuessInputs_L0_es → γ) : s_GuessInputs_L0_B v0 v1 v2 v3 γ fail next out = optK (s_GuessInputs_L0_B v0 v1 v2 v3 _ none (fun v' => some (.inl v')) (fun w => some (.inr w))) fail (fun r => Sum.elim next out r) := by
  unfold s_GuessInputs_L0_B
  exact bifT (f := (fun o => optK o fail (fun r => Sum.elim next out r))) (fun _ => bifT (f := (fun o => optK o fail (fun r => Sum.elim next out r))) (fun _ => letT (f := (fun o => optK o fail (fun r => Sum.elim next out r))) (fun c1 _ => bifT (f := (fun o => optK o fail (fun r => Sum.elim next out r))) (fun _ => bifT (f := (fun o => optK o fail (fun r => Sum.elim next out r))) (fun _ => letT (f := (fun o => optK o fail (fun r => Sum.elim next out r))) (fun c2 _ => bifT (f := (fun o => optK o fail (fun r => Sum.elim next out r))) (fun _ => letT (f := (fun o => optK o fail (fun r => Sum.elim next out r))) (fun c3 _ => bifT (f := (fun o => optK o fail (fun r => Sum.elim next out r))) (fun _ => bifT (f := (fun o => optK o fail (fun r => Sum.elim next out r))) (fun _ => rfl) (fun _ => rfl))
      (fun _ => rfl)))
      (fun _ => rfl))) (fun _ => rfl)) (fun _ => rfl))) (fun _ => rfl))
      (fun _ => rfl)
def s_GuessInputs_L0_r : Round s_GuessInputs_L0_sh.T (WT s_GuessInputs_L0_es) where
  B v γ fail next out := s_GuessInputs_L0_B v.1.1.1 v.1.2.1.1 v.1.2.2.2.1.1 v.2.1 γ fail next out
  par v γ fail next out := s_GuessInputs_L0_par v.1.1.1 v.1.2.1.1 v.1.2.2.2.1.1 v.2.1 γ fail next out
def s_GuessInputs_L0_fu (v0 : Int) (v1 : List Issu) (v2 : Int) (v3 : List Bytes) : Nat := (Int.toNat ((v1.length : Int) - v2)) + 1
theorem s_GuessInputs_L0_lk (v : s_GuessInputs_L0_sh.T) (next : St → Option Res) (k : Ex → St → Option Res) : evalK te (orcOf (P := Try.prog) [s_CookieParts_e, s_MacInput_e, s_l1Has_e]) (lorcOf []) Try.f30.ntmps s_GuessInputs_ann (nthLoop (bodyOf Try.f30) 0 0) 0 (s_GuessInputs_L0_sh.enc v) (endK ⟨[0, 1, 5, 6], [], false, 0⟩ ⟨[4, 5], [], false, 0⟩ next k) =
  s_GuessInputs_L0_r.B v _ none (fun v' => next (s_GuessInputs_L0_sh.enc v')) (fun w => outK s_GuessInputs_L0_es k w) := by kernel_rfl
def s_GuessInputs_L0_le : LE := leOf 0 s_GuessInputs_L0_sh s_GuessInputs_L0_es s_GuessInputs_L0_r.step (fun v => s_GuessInputs_L0_fu v.1.1.1 v.1.2.1.1 v.1.2.2.2.1.1 v.2.1)
theorem s_GuessInputs_L0_ls (w0 : World) (mo : Mts) (I0 : Nat → Prop) (hmo : mo.length = 0) : LSem Try.prog (Sim w0 mo Try.f30.ntmps I0) (fun b s k => match Nat.beq 0 b with | true => s_GuessInputs_L0_le.run s k | false => none) 0 (nthLoop (bodyOf Try.f30) 0 0) :=
  le_sem hmo (lorc := lorcOf []) (ann := s_GuessInputs_ann) (keep := ⟨[0, 1, 5, 6], [], false, 0⟩) (kout := ⟨[4, 5], [], false, 0⟩) teFact mixFact (orcOf_ok _) (by kernel_rfl) (allLoops_of (bs := []) (by kernel_rfl) trivial) s_GuessInputs_L0_r _ s_GuessInputs_L0_lk
def s_GuessInputs_L0_f (v0 : Int) (v1 : List Issu) (v2 : Int) (a : List Bytes) : Stp (List Bytes) (Empty) :=
  letK (α := Int × Int × Int) (s_CookieParts ((v1.getD v2.toNat (Ty.zero .issu)).cookie)) fun c1 =>
  letK (α := Bytes) (s_MacInput ((v1.getD v2.toNat (Ty.zero .issu)).tuple) ((v1.getD v2.toNat (Ty.zero .issu)).seq) v0 c1.2.1) fun c2 =>
  bif (!(c2 == [])) then
    letK (α := Bool) (s_l1Has a c2) fun c3 =>
    bif (!c3) then
      .next (a ++ [c2])
    else
    .next a
  else
  .next a
theorem s_GuessInputs_L0_st (v0 : Int) (v1 : List Issu) (v2 : Int) (v3 : List Bytes) (hlo : 0 ≤ v2) (hhi : v2 < (v1.length : Int)) (hN : (v1.length : Int) ≤ 4611686018427387904) (hi0 : (v1.length : Int) ≤ 4294967296) (hinv : (v3.length : Int) ≤ v2) : s_GuessInputs_L0_r.step (s_GuessInputs_L0_mk v0 v1 v2 v3) = Stp.elim (fun a' : List Bytes => some (Sum.inl (s_GuessInputs_L0_mk v0 v1 (v2 + 1) a'))) (fun w => some (Sum.inr ((fun p : Empty => nomatch p) w))) (s_GuessInputs_L0_f v0 v1 v2 v3) := by
  have hw : (IntKind.wrap .i64 (v2 + 1)) = v2 + 1 := wrap64 (by omega) (by omega)
  show s_GuessInputs_L0_B v0 v1 v2 v3 (Option (s_GuessInputs_L0_sh.T ⊕ WT s_GuessInputs_L0_es)) none (fun v' => some (Sum.inl v')) (fun w => some (Sum.inr w)) = _
  unfold s_GuessInputs_L0_B s_GuessInputs_L0_f
  exact bifG (by simp only [decide_eq_true_eq]; omega) (bifG (by (try simp only [Nat.ble_eq, Bool.and_eq_true, decide_eq_true_eq]); grind [maxSl, maxStr, toBytes_length, toInts_length, List.length_set, wrap64, s_MacInput_len]) (letT (f := (Stp.elim (fun a' : List Bytes => some (Sum.inl (s_GuessInputs_L0_mk v0 v1 (v2 + 1) a'))) (fun w => some (Sum.inr ((fun p : Empty => nomatch p) w))))) (fun c1 hc1 => bifG (by (try simp only [Nat.ble_eq, Bool.and_eq_true, decide_eq_true_eq]); grind [maxSl, maxStr, toBytes_length, toInts_length, List.length_set, wrap64, s_MacInput_len]) (bifG (by (try simp only [Nat.ble_eq, Bool.and_eq_true, decide_eq_true_eq]); grind [maxSl, maxStr, toBytes_length, toInts_length, List.length_set, wrap64, s_MacInput_len]) (letT (f := (Stp.elim (fun a' : List Bytes => some (Sum.inl (s_GuessInputs_L0_mk v0 v1 (v2 + 1) a'))) (fun w => some (Sum.inr ((fun p : Empty => nomatch p) w))))) (fun c2 hc2 => bifT (f := (Stp.elim (fun a' : List Bytes => some (Sum.inl (s_GuessInputs_L0_mk v0 v1 (v2 + 1) a'))) (fun w => some (Sum.inr ((fun p : Empty => nomatch p) w))))) (fun b0 => letT (f := (Stp.elim (fun a' : List Bytes => some (Sum.inl (s_GuessInputs_L0_mk v0 v1 (v2 + 1) a'))) (fun w => some (Sum.inr ((fun p : Empty => nomatch p) w))))) (fun c3 hc3 => bifT (f := (Stp.elim (fun a' : List Bytes => some (Sum.inl (s_GuessInputs_L0_mk v0 v1 (v2 + 1) a'))) (fun w => some (Sum.inr ((fun p : Empty => nomatch p) w))))) (fun b1 => bifG (by (try simp only [Nat.ble_eq, Bool.and_eq_true, decide_eq_true_eq]); grind [maxSl, maxStr, toBytes_length, toInts_length, List.length_set, wrap64, s_MacInput_len]) (congrArg (fun z => some (Sum.inl (s_GuessInputs_L0_mk v0 v1 z (v3 ++ [c2])))) hw))
      (fun b1 => congrArg (fun z => some (Sum.inl (s_GuessInputs_L0_mk v0 v1 z v3))) hw)))
      (fun b0 => congrArg (fun z => some (Sum.inl (s_GuessInputs_L0_mk v0 v1 z v3))) hw)))))))
theorem s_GuessInputs_L0_cl (v0 : Int) (v1 : List Issu) (v2 : Int) (v3 : List Bytes) (h0 : 0 ≤ v2) (h1 : (v1.length : Int) ≤ 4611686018427387904) (h2 : (v1.length : Int) ≤ 4294967296) (h3 : (v3.length : Int) ≤ v2) : loopF s_GuessInputs_L0_r.step (s_GuessInputs_L0_fu v0 v1 v2 v3) (s_GuessInputs_L0_mk v0 v1 v2 v3) = some (Stp.elim (fun a => (fun i a => s_GuessInputs_L0_mx0 a) (v2 + 1 * (((Int.toNat ((v1.length : Int) - v2)) : Nat) : Int)) a) (fun p : Empty => nomatch p) (forN (s_GuessInputs_L0_f v0 v1) 1 (Int.toNat ((v1.length : Int) - v2)) v2 v3)) :=
  forN_loop (step := s_GuessInputs_L0_r.step) (mk := fun v2 a => s_GuessInputs_L0_mk v0 v1 v2 a) (f := s_GuessInputs_L0_f v0 v1) (e := (fun i a => s_GuessInputs_L0_mx0 a)) (emb := (fun p : Empty => nomatch p)) (st := 1) (Inv := fun v2 a => (a.length : Int) ≤ v2) (Int.toNat ((v1.length : Int) - v2)) v2 v3 _ (Nat.lt_succ_self _) h3
    (fun j a hj hv => ⟨s_GuessInputs_L0_st v0 v1 (v2 + 1 * (j : Int)) a (by omega) (by omega) (by omega) h2 hv, by
      intro a' he
      grind [s_GuessInputs_L0_f, letK, Stp.elim, wrap64, List.length_set, s_MacInput_len]⟩)
    (fun a hv => by
      show s_GuessInputs_L0_B v0 v1 (v2 + 1 * (((Int.toNat ((v1.length : Int) - v2)) : Nat) : Int)) a (Option (s_GuessInputs_L0_sh.T ⊕ WT s_GuessInputs_L0_es)) none (fun v' => some (Sum.inl v')) (fun w => some (Sum.inr w)) = _
      unfold s_GuessInputs_L0_B
      exact bifN (by simp only [decide_eq_false_iff_not]; omega) rfl)
theorem s_GuessInputs_L0_nx (v0 : Int) (v1 : List Issu) (v2 : Int) (v3 : List Bytes) (h0 : 0 ≤ v2) (h1 : (v1.length : Int) ≤ 4611686018427387904) (h2 : (v1.length : Int) ≤ 4294967296) (h3 : (v3.length : Int) ≤ v2) : ∀ a', forN (s_GuessInputs_L0_f v0 v1) 1 (Int.toNat ((v1.length : Int) - v2)) v2 v3 = .next a' → (a'.length : Int) ≤ (v2 + 1 * (((Int.toNat ((v1.length : Int) - v2)) : Nat) : Int)) :=
  forN_inv (f := s_GuessInputs_L0_f v0 v1) (st := 1) (Inv := fun v2 a => (a.length : Int) ≤ v2) (Int.toNat ((v1.length : Int) - v2)) v2 v3 h3
    (fun j a hj hv => by
      intro a' he
      grind [s_GuessInputs_L0_f, letK, Stp.elim, wrap64, List.length_set, s_MacInput_len])
def s_GuessInputs_N (x0 : Int) (x1 : List Issu) (γ : Type) (fail : γ) (k : List Bytes → γ) : γ :=
  optK (loopF s_GuessInputs_L0_r.step (s_GuessInputs_L0_fu x0 x1 0 []) (s_GuessInputs_L0_mk x0 x1 0 [])) fail fun w4 =>
    k w4.2.1
def s_GuessInputs (x0 : Int) (x1 : List Issu) : List Bytes :=
  Stp.elim (fun a5 =>
    a5)
    (fun p : Empty => nomatch p)
    (forN (s_GuessInputs_L0_f x0 x1) 1 (Int.toNat ((x1.length : Int) - 0)) 0 [])
theorem s_GuessInputs_lk (x0 : Int) (x1 : List Issu) : evalFn te (orcOf (P := Try.prog) [s_CookieParts_e, s_MacInput_e, s_l1Has_e]) (lorcOf [s_GuessInputs_L0_le]) s_GuessInputs_ann Try.f30 (pvs [.sc (.int .i64), .sc (.sl .issu)] (x0, x1, ())) =
  s_GuessInputs_N x0 x1 _ none (fun v => some [(false, [RC.own true .str v])]) := by kernel_rfl
theorem s_GuessInputs_p (x0 : Int) (x1 : List Issu) (hx0 : inK .i64 x0) (hx1 : x1.length ≤ 140737488355328) (hp : x1.length ≤ 4294967296) (γ : Type) (fail : γ) (k : List Bytes → γ) : s_GuessInputs_N x0 x1 γ fail k = k (s_GuessInputs x0 x1) := by
  unfold s_GuessInputs_N s_GuessInputs
  exact loopX (f := k) (s_GuessInputs_L0_cl x0 x1 0 [] (by (try simp only [Nat.ble_eq, Bool.and_eq_true, decide_eq_true_eq, s_GuessInputs_L0_mx0]); grind [maxSl, maxStr, toBytes_length, toInts_length, List.length_set, wrap64, s_MacInput_len]) (by (try simp only [Nat.ble_eq, Bool.and_eq_true, decide_eq_true_eq, s_GuessInputs_L0_mx0]); grind [maxSl, maxStr, toBytes_length, toInts_length, List.length_set, wrap64, s_MacInput_len]) (by (try simp only [Nat.ble_eq, Bool.and_eq_true, decide_eq_true_eq, s_GuessInputs_L0_mx0]); grind [maxSl, maxStr, toBytes_length, toInts_length, List.length_set, wrap64, s_MacInput_len]) (by (try simp only [Nat.ble_eq, Bool.and_eq_true, decide_eq_true_eq, s_GuessInputs_L0_mx0]); grind [maxSl, maxStr, toBytes_length, toInts_length, List.length_set, wrap64, s_MacInput_len])) (fun a5 ha5 => have ia5 := s_GuessInputs_L0_nx x0 x1 0 [] (by (try simp only [Nat.ble_eq, Bool.and_eq_true, decide_eq_true_eq, s_GuessInputs_L0_mx0]); grind [maxSl, maxStr, toBytes_length, toInts_length, List.length_set, wrap64, s_MacInput_len]) (by (try simp only [Nat.ble_eq, Bool.and_eq_true, decide_eq_true_eq, s_GuessInputs_L0_mx0]); grind [maxSl, maxStr, toBytes_length, toInts_length, List.length_set, wrap64, s_MacInput_len]) (by (try simp only [Nat.ble_eq, Bool.and_eq_true, decide_eq_true_eq, s_GuessInputs_L0_mx0]); grind [maxSl, maxStr, toBytes_length, toInts_length, List.length_set, wrap64, s_MacInput_len]) (by (try simp only [Nat.ble_eq, Bool.and_eq_true, decide_eq_true_eq, s_GuessInputs_L0_mx0]); grind [maxSl, maxStr, toBytes_length, toInts_length, List.length_set, wrap64, s_MacInput_len]) _ ha5; rfl)
      (fun p : Empty => nomatch p)
theorem s_GuessInputs_c (x0 : Int) (x1 : List Issu) (hp : x1.length ≤ 4294967296) : Con Try.prog 30 (pvs [.sc (.int .i64), .sc (.sl .issu)] (x0, x1, ())) [rv (.sc (.sl .str)) [.o true] (s_GuessInputs x0 x1)] := by
  refine Con.of_facts (enters_of Try.func30 rfl (by kernel_rfl)) fun hf => ?_
  replace hf := factAt hf
  exact evalFn_conL teFact mixFact (orcOf_ok _) Try.func30 (by kernel_rfl) (bs := [0]) (by kernel_rfl) (by kernel_rfl) (fun w0 mo I0 hmo => ⟨lsem_of_lorc (s_GuessInputs_L0_ls w0 mo I0 hmo) (by kernel_rfl), trivial⟩) ((s_GuessInputs_lk x0 x1).trans (s_GuessInputs_p x0 x1 ((hf 0 0 rfl rfl).rng) ((hf 1 0 rfl rfl).len) hp _ _ _))
noncomputable def s_GuessInputs_e : Ent1 Try.prog := entP 30 [.sc (.int .i64), .sc (.sl .issu)] (fun x => (decide (x.2.1.length ≤ 4294967296))) (fun x => (s_GuessInputs x.1 x.2.1)) (fun v => [rv (.sc (.sl .str)) [.o true] v]) (fun x hx => s_GuessInputs_c x.1 x.2.1 (of_decide_eq_true hx))


/-- laws.toAct -/
def w_toAct_N (x0 : Acti) (γ : Type) (fail : γ) (k : Acti → γ) : γ :=
  letK (α := Tupl) (w_toTuple x0.tuple) fun c1 =>
  bif (decide (x0.mac.rows.length ≤ 4294967296)) then
  letK (α := Mac) (w_toMac x0.mac) fun c2 =>
  k (⟨x0.kind, c1, x0.n, x0.text, c2⟩ : Acti)
  else fail
def w_toAct (x0 : Acti) : Acti :=
  letK (α := Tupl) (w_toTuple x0.tuple) fun c1 =>
  letK (α := Mac) (w_toMac x0.mac) fun c2 =>
  (⟨x0.kind, c1, x0.n, x0.text, c2⟩ : Acti)
theorem w_toAct_lk (x0 : Acti) : evalFn te (orcOf (P := Try.prog) [w_toTuple_e, w_toMac_e]) lorc0 [] Try.f38 (pvs [.st .acti] (x0, ())) =
  w_toAct_N x0 _ none (fun v => some [(true, [RC.c (.int .i64 v.kind), RC.c (.int .i64 v.tuple.ip), RC.c (.int .i64 v.tuple.port), RC.c (.int .i64 v.tuple.my), RC.c (.int .i64 v.n), RC.c (.str v.text), RC.c (.bool v.mac.use), RC.c (.int .u64 v.mac.k), RC.c (.int .u64 v.mac.l), RC.own true .macRow v.mac.rows])]) := by kernel_rfl
theorem w_toAct_p (x0 : Acti) (hx0_kind : inK .i64 x0.kind) (hx0_tuple_ip : inK .i64 x0.tuple.ip) (hx0_tuple_port : inK .i64 x0.tuple.port) (hx0_tuple_my : inK .i64 x0.tuple.my) (hx0_n : inK .i64 x0.n) (hx0_text : List.length x0.text ≤ 4611686018427387904) (hx0_mac_k : inK .u64 x0.mac.k) (hx0_mac_l : inK .u64 x0.mac.l) (hx0_mac_rows : x0.mac.rows.length ≤ 140737488355328) (hx0_mac_rows_e : ∀ y ∈ x0.mac.rows, ∀ c ∈ Ty.cells .macRow y, FactC c) (hp : x0.text.length ≤ 4294967296 ∧ x0.mac.rows.length ≤ 4294967296) (γ : Type) (fail : γ) (k : Acti → γ) : w_toAct_N x0 γ fail k = k (w_toAct x0) := by
  unfold w_toAct_N w_toAct
  exact letT (f := k) (fun c1 hc1 => bifG (by (try simp only [Nat.ble_eq, Bool.and_eq_true, decide_eq_true_eq]); grind [maxSl, maxStr, toBytes_length, toInts_length, List.length_set, wrap64]) (letT (f := k) (fun c2 hc2 => rfl)))
theorem w_toAct_c (x0 : Acti) (hp : x0.text.length ≤ 4294967296 ∧ x0.mac.rows.length ≤ 4294967296) : Con Try.prog 38 (pvs [.st .acti] (x0, ())) [rv (.st .acti) [.c, .c, .c, .c, .c, .c, .c, .c, .c, .o true] (w_toAct x0)] := by
  refine Con.of_facts (enters_of Try.func38 rfl (by kernel_rfl)) fun hf => ?_
  replace hf := factAt hf
  exact evalFn_con0 teFact mixFact (orcOf_ok _) Try.func38 (by kernel_rfl) ((w_toAct_lk x0).trans (w_toAct_p x0 ((hf 0 0 rfl rfl).rng) ((hf 0 1 rfl rfl).rng) ((hf 0 2 rfl rfl).rng) ((hf 0 3 rfl rfl).rng) ((hf 0 4 rfl rfl).rng) ((hf 0 5 rfl rfl).slen) ((hf 0 7 rfl rfl).rng) ((hf 0 8 rfl rfl).rng) ((hf 0 9 rfl rfl).len) (fun y hy => (hf 0 9 rfl rfl).elem hy) hp _ _ _))
noncomputable def w_toAct_e : Ent1 Try.prog := entP 38 [.st .acti] (fun x => (decide (x.1.text.length ≤ 4294967296 ∧ x.1.mac.rows.length ≤ 4294967296))) (fun x => (w_toAct x.1)) (fun v => [rv (.st .acti) [.c, .c, .c, .c, .c, .c, .c, .c, .c, .o true] v]) (fun x hx => w_toAct_c x.1 (of_decide_eq_true hx))


/-- impl.MacOk$1 -/
def i_MacOk_1_N (x0 : MacRow) (y1 : MacRow) (γ : Type) (fail : γ) (k : Bool → γ) : γ :=
  k (x0.input == y1.input)
def i_MacOk_1 (x0 : MacRow) (y1 : MacRow) : Bool :=
  (x0.input == y1.input)
theorem i_MacOk_1_lk (x0 : MacRow) (y1 : MacRow) : evalFnM te (orcOf (P := Try.prog) []) lorc0 [] Try.f63 (pvs [.st .macRow, .wr false [.ptr 0]] (x0, (), ())) (mos [.box [.c .str, .c (.int .i64)]] ((y1.input, y1.value, ()), ())) =
  i_MacOk_1_N x0 y1 _ none (fun v => some ([(false, [RC.c (.bool v)])] ++ (mos [.box [.c .str, .c (.int .i64)]] ((y1.input, y1.value, ()), ())).map encO)) := by kernel_rfl
theorem i_MacOk_1_p (x0 : MacRow) (y1 : MacRow)   (γ : Type) (fail : γ) (k : Bool → γ) : i_MacOk_1_N x0 y1 γ fail k = k (i_MacOk_1 x0 y1) := by
  unfold i_MacOk_1_N i_MacOk_1
  exact rfl
theorem i_MacOk_1_c (x0 : MacRow) (y1 : MacRow)  : ConM Try.prog 63 (pvs [.st .macRow, .wr false [.ptr 0]] (x0, (), ())) (mos [.box [.c .str, .c (.int .i64)]] ((y1.input, y1.value, ()), ())) [rv (.sc .bool) [] (i_MacOk_1 x0 y1)] (mos [.box [.c .str, .c (.int .i64)]] ((y1.input, y1.value, ()), ())) := by
  exact evalFn_conLM teFact mixFact (orcOf_ok _) Try.func63 (by kernel_rfl) (bs := []) (by kernel_rfl) (by kernel_rfl) (by kernel_rfl) rfl (fun w0 mo I0 hmo => trivial) ((i_MacOk_1_lk x0 y1).trans (i_MacOk_1_p x0 y1  _ _ _))
noncomputable def i_MacOk_1_e : Ent1 Try.prog := entM 63 [.st .macRow, .wr false [.ptr 0]] [.box [.c .str, .c (.int .i64)]] (fun x y => true) (fun x y => (i_MacOk_1 x.1 (⟨y.1.1, y.1.2.1⟩ : MacRow))) (fun v => [rv (.sc .bool) [] v]) (fun x y v => (mos [.box [.c .str, .c (.int .i64)]] (((⟨y.1.1, y.1.2.1⟩ : MacRow).input, (⟨y.1.1, y.1.2.1⟩ : MacRow).value, ()), ()))) (fun x y hx => i_MacOk_1_c x.1 (⟨y.1.1, y.1.2.1⟩ : MacRow))


/-- slices.IndexFunc[[]impl.MacRow,impl.MacRow] -/
def g_IndexFunc_MacRow_i_MacOk_1_ann : List (Nat × Keep) := [(0, ⟨[0, 1, 7, 8], [], false, 1⟩)]
def g_IndexFunc_MacRow_i_MacOk_1_L0_sh : Sh := ⟨[(0, false, [.sl .arg .macRow]), (1, false, [.fn 63 [0]]), (7, false, [.int .i64]), (8, false, [.int .i64])], [.box [.str, .int .i64]]⟩
def g_IndexFunc_MacRow_i_MacOk_1_L0_es : List (Ex × Sh) := [(.ret, ⟨[(4, false, [.int .i64])], [.box [.str, .int .i64]]⟩), (.exit 0, ⟨[(4, false, [.undef])], [.box [.str, .int .i64]]⟩)]
def g_IndexFunc_MacRow_i_MacOk_1_L0_mk (v0 : List MacRow) (v1 : Int) (v2 : Int) (v3 : Bytes) (v4 : Int) : g_IndexFunc_MacRow_i_MacOk_1_L0_sh.T := (((v0, ()), (((), ()), ((v1, ()), ((v2, ()), ())))), ((v3, (v4, ())), ()))
def g_IndexFunc_MacRow_i_MacOk_1_L0_mx0 (y0 : Int) (y1 : Bytes) (y2 : Int) : Sh.T ⟨[(4, false, [.int .i64])], [.box [.str, .int .i64]]⟩ := (((y0, ()), ()), ((y1, (y2, ())), ()))
def g_IndexFunc_MacRow_i_MacOk_1_L0_mx1 (y0 : Bytes) (y1 : Int) : Sh.T ⟨[(4, false, [.undef])], [.box [.str, .int .i64]]⟩ := ((((), ()), ()), ((y0, (y1, ())), ()))
def g_IndexFunc_MacRow_i_MacOk_1_L0_B (v0 : List MacRow) (v1 : Int) (v2 : Int) (v3 : Bytes) (v4 : Int) (γ : Type) (fail : γ) (next : g_IndexFunc_MacRow_i_MacOk_1_L0_sh.T → γ) (out : WT g_IndexFunc_MacRow_i_MacOk_1_L0_es → γ) : γ :=
  bif (decide (v2 < v1)) then
    bif ((decide (0 ≤ v2)) && (decide (v2 < (v0.length : Int)))) then
    letK (α := Bool) (i_MacOk_1 (v0.getD v2.toNat (Ty.zero .macRow)) (⟨v3, v4⟩ : MacRow)) fun c1 =>
    bif c1 then
      out (Sum.inl (g_IndexFunc_MacRow_i_MacOk_1_L0_mx0 v2 v3 v4))
    else
    next (g_IndexFunc_MacRow_i_MacOk_1_L0_mk v0 v1 (IntKind.wrap .i64 (v2 + 1)) v3 v4)
    else fail
  else
  out (Sum.inr (g_IndexFunc_MacRow_i_MacOk_1_L0_mx1 v3 v4))
theorem g_IndexFunc_MacRow_i_MacOk_1_L0_par (v0 : List MacRow) (v1 : Int) (v2 : Int) (v3 : Bytes) (v4 : Int) (γ : Type) (fail : γ) (next : g_IndexFunc_MacRow_i_MacOk_1_L0_sh.T → γ) (out : WT g_IndexFunc_MacRow_i_MacOk_1_L0_es → γ) : g_IndexFunc_MacRow_i_MacOk_1_L0_B v0 v1 v2 v3 v4 γ fail next out = optK (g_IndexFunc_MacRow_i_MacOk_1_L0_B v0 v1 v2 v3 v4 _ none (fun v' => some (.inl v')) (fun w => some (.inr w))) fail (fun r => Sum.elim next out r) := by
  unfold g_IndexFunc_MacRow_i_MacOk_1_L0_B
  exact bifT (f := (fun o => optK o fail (fun r => Sum.elim next out r))) (fun _ => bifT (f := (fun o => optK o fail (fun r => Sum.elim next out r))) (fun _ => letT (f := (fun o => optK o fail (fun r => Sum.elim next out r))) (fun c1 _ => bifT (f := (fun o => optK o fail (fun r => Sum.elim next out r))) (fun _ => rfl)
      (fun _ => rfl))) (fun _ => rfl))
      (fun _ => rfl)
def g_IndexFunc_MacRow_i_MacOk_1_L0_r : Round g_IndexFunc_MacRow_i_MacOk_1_L0_sh.T (WT g_IndexFunc_MacRow_i_MacOk_1_L0_es) where
  B v γ fail next out := g_IndexFunc_MacRow_i_MacOk_1_L0_B v.1.1.1 v.1.2.2.1.1 v.1.2.2.2.1.1 v.2.1.1 v.2.1.2.1 γ fail next out
  par v γ fail next out := g_IndexFunc_MacRow_i_MacOk_1_L0_par v.1.1.1 v.1.2.2.1.1 v.1.2.2.2.1.1 v.2.1.1 v.2.1.2.1 γ fail next out
def g_IndexFunc_MacRow_i_MacOk_1_L0_fu (v0 : List MacRow) (v1 : Int) (v2 : Int) (v3 : Bytes) (v4 : Int) : Nat := (Int.toNat (v1 - v2)) + 1
theorem g_IndexFunc_MacRow_i_MacOk_1_L0_lk (v : g_IndexFunc_MacRow_i_MacOk_1_L0_sh.T) (next : St → Option Res) (k : Ex → St → Option Res) : evalK te (orcOf (P := Try.prog) [i_MacOk_1_e]) (lorcOf []) Try.f97.ntmps g_IndexFunc_MacRow_i_MacOk_1_ann (nthLoop (bodyOf Try.f97) 0 0) 0 (g_IndexFunc_MacRow_i_MacOk_1_L0_sh.enc v) (endK ⟨[0, 1, 7, 8], [], false, 1⟩ ⟨[4], [], false, 1⟩ next k) =
  g_IndexFunc_MacRow_i_MacOk_1_L0_r.B v _ none (fun v' => next (g_IndexFunc_MacRow_i_MacOk_1_L0_sh.enc v')) (fun w => outK g_IndexFunc_MacRow_i_MacOk_1_L0_es k w) := by kernel_rfl
def g_IndexFunc_MacRow_i_MacOk_1_L0_le : LE := leOf 0 g_IndexFunc_MacRow_i_MacOk_1_L0_sh g_IndexFunc_MacRow_i_MacOk_1_L0_es g_IndexFunc_MacRow_i_MacOk_1_L0_r.step (fun v => g_IndexFunc_MacRow_i_MacOk_1_L0_fu v.1.1.1 v.1.2.2.1.1 v.1.2.2.2.1.1 v.2.1.1 v.2.1.2.1)
theorem g_IndexFunc_MacRow_i_MacOk_1_L0_ls (w0 : World) (mo : Mts) (I0 : Nat → Prop) (hmo : mo.length = 1) : LSem Try.prog (Sim w0 mo Try.f97.ntmps I0) (fun b s k => match Nat.beq 0 b with | true => g_IndexFunc_MacRow_i_MacOk_1_L0_le.run s k | false => none) 0 (nthLoop (bodyOf Try.f97) 0 0) :=
  le_sem hmo (lorc := lorcOf []) (ann := g_IndexFunc_MacRow_i_MacOk_1_ann) (keep := ⟨[0, 1, 7, 8], [], false, 1⟩) (kout := ⟨[4], [], false, 1⟩) teFact mixFact (orcOf_ok _) (by kernel_rfl) (allLoops_of (bs := []) (by kernel_rfl) trivial) g_IndexFunc_MacRow_i_MacOk_1_L0_r _ g_IndexFunc_MacRow_i_MacOk_1_L0_lk
def g_IndexFunc_MacRow_i_MacOk_1_L0_f (v0 : List MacRow) (v1 : Int) (v3 : Bytes) (v4 : Int) (v2 : Int) (a : Unit) : Stp (Unit) ((Int)) :=
  letK (α := Bool) (i_MacOk_1 (v0.getD v2.toNat (Ty.zero .macRow)) (⟨v3, v4⟩ : MacRow)) fun c1 =>
  bif c1 then
    .out (v2)
  else
  .next ()
theorem g_IndexFunc_MacRow_i_MacOk_1_L0_st (v0 : List MacRow) (v1 : Int) (v2 : Int) (v3 : Bytes) (v4 : Int) (hlo : 0 ≤ v2) (hhi : v2 < v1) (hN : v1 ≤ 4611686018427387904) (hi0 : v1 ≤ (v0.length : Int)) : g_IndexFunc_MacRow_i_MacOk_1_L0_r.step (g_IndexFunc_MacRow_i_MacOk_1_L0_mk v0 v1 v2 v3 v4) = Stp.elim (fun a' : Unit => some (Sum.inl (g_IndexFunc_MacRow_i_MacOk_1_L0_mk v0 v1 (v2 + 1) v3 v4))) (fun w => some (Sum.inr ((fun p : Int => Sum.inl (g_IndexFunc_MacRow_i_MacOk_1_L0_mx0 p v3 v4)) w))) (g_IndexFunc_MacRow_i_MacOk_1_L0_f v0 v1 v3 v4 v2 ()) := by
  have hw : (IntKind.wrap .i64 (v2 + 1)) = v2 + 1 := wrap64 (by omega) (by omega)
  show g_IndexFunc_MacRow_i_MacOk_1_L0_B v0 v1 v2 v3 v4 (Option (g_IndexFunc_MacRow_i_MacOk_1_L0_sh.T ⊕ WT g_IndexFunc_MacRow_i_MacOk_1_L0_es)) none (fun v' => some (Sum.inl v')) (fun w => some (Sum.inr w)) = _
  unfold g_IndexFunc_MacRow_i_MacOk_1_L0_B g_IndexFunc_MacRow_i_MacOk_1_L0_f
  exact bifG (by simp only [decide_eq_true_eq]; omega) (bifG (by (try simp only [Nat.ble_eq, Bool.and_eq_true, decide_eq_true_eq]); grind [maxSl, maxStr, toBytes_length, toInts_length, List.length_set, wrap64]) (letT (f := (Stp.elim (fun a' : Unit => some (Sum.inl (g_IndexFunc_MacRow_i_MacOk_1_L0_mk v0 v1 (v2 + 1) v3 v4))) (fun w => some (Sum.inr ((fun p : Int => Sum.inl (g_IndexFunc_MacRow_i_MacOk_1_L0_mx0 p v3 v4)) w))))) (fun c1 hc1 => bifT (f := (Stp.elim (fun a' : Unit => some (Sum.inl (g_IndexFunc_MacRow_i_MacOk_1_L0_mk v0 v1 (v2 + 1) v3 v4))) (fun w => some (Sum.inr ((fun p : Int => Sum.inl (g_IndexFunc_MacRow_i_MacOk_1_L0_mx0 p v3 v4)) w))))) (fun b0 => rfl)
      (fun b0 => congrArg (fun z => some (Sum.inl (g_IndexFunc_MacRow_i_MacOk_1_L0_mk v0 v1 z v3 v4))) hw))))
theorem g_IndexFunc_MacRow_i_MacOk_1_L0_cl (v0 : List MacRow) (v1 : Int) (v2 : Int) (v3 : Bytes) (v4 : Int) (h0 : 0 ≤ v2) (h1 : v1 ≤ 4611686018427387904) (h2 : v1 ≤ (v0.length : Int)) : loopF g_IndexFunc_MacRow_i_MacOk_1_L0_r.step (g_IndexFunc_MacRow_i_MacOk_1_L0_fu v0 v1 v2 v3 v4) (g_IndexFunc_MacRow_i_MacOk_1_L0_mk v0 v1 v2 v3 v4) = some (Stp.elim (fun a => (fun i a => Sum.inr (g_IndexFunc_MacRow_i_MacOk_1_L0_mx1 v3 v4)) (v2 + 1 * (((Int.toNat (v1 - v2)) : Nat) : Int)) a) (fun p : Int => Sum.inl (g_IndexFunc_MacRow_i_MacOk_1_L0_mx0 p v3 v4)) (forN (g_IndexFunc_MacRow_i_MacOk_1_L0_f v0 v1 v3 v4) 1 (Int.toNat (v1 - v2)) v2 ())) :=
  forN_loop (step := g_IndexFunc_MacRow_i_MacOk_1_L0_r.step) (mk := fun v2 a => g_IndexFunc_MacRow_i_MacOk_1_L0_mk v0 v1 v2 v3 v4) (f := g_IndexFunc_MacRow_i_MacOk_1_L0_f v0 v1 v3 v4) (e := (fun i a => Sum.inr (g_IndexFunc_MacRow_i_MacOk_1_L0_mx1 v3 v4))) (emb := (fun p : Int => Sum.inl (g_IndexFunc_MacRow_i_MacOk_1_L0_mx0 p v3 v4))) (st := 1) (Inv := fun v2 a => True) (Int.toNat (v1 - v2)) v2 () _ (Nat.lt_succ_self _) trivial
    (fun j a hj hv => ⟨g_IndexFunc_MacRow_i_MacOk_1_L0_st v0 v1 (v2 + 1 * (j : Int)) v3 v4 (by omega) (by omega) (by omega) h2, fun _ _ => trivial⟩)
    (fun a hv => by
      show g_IndexFunc_MacRow_i_MacOk_1_L0_B v0 v1 (v2 + 1 * (((Int.toNat (v1 - v2)) : Nat) : Int)) v3 v4 (Option (g_IndexFunc_MacRow_i_MacOk_1_L0_sh.T ⊕ WT g_IndexFunc_MacRow_i_MacOk_1_L0_es)) none (fun v' => some (Sum.inl v')) (fun w => some (Sum.inr w)) = _
      unfold g_IndexFunc_MacRow_i_MacOk_1_L0_B
      exact bifN (by simp only [decide_eq_false_iff_not]; omega) rfl)
def g_IndexFunc_MacRow_i_MacOk_1_N (x0 : List MacRow) (y1_0 : MacRow) (γ : Type) (fail : γ) (k : Int × MacRow → γ) : γ :=
  optK (loopF g_IndexFunc_MacRow_i_MacOk_1_L0_r.step (g_IndexFunc_MacRow_i_MacOk_1_L0_fu x0 (x0.length : Int) 0 y1_0.input y1_0.value) (g_IndexFunc_MacRow_i_MacOk_1_L0_mk x0 (x0.length : Int) 0 y1_0.input y1_0.value)) fail fun w2 =>
    Sum.elim (fun w2 =>
      k (w2.1.1.1, (⟨w2.2.1.1, w2.2.1.2.1⟩ : MacRow)))
    (fun w2 =>
      k ((-1), (⟨w2.2.1.1, w2.2.1.2.1⟩ : MacRow))) w2
def g_IndexFunc_MacRow_i_MacOk_1 (x0 : List MacRow) (y1_0 : MacRow) : Int × MacRow :=
  Stp.elim (fun a3 =>
    ((-1), y1_0))
    (fun p3 =>
      (p3, y1_0))
    (forN (g_IndexFunc_MacRow_i_MacOk_1_L0_f x0 (x0.length : Int) y1_0.input y1_0.value) 1 (Int.toNat ((x0.length : Int) - 0)) 0 ())
theorem g_IndexFunc_MacRow_i_MacOk_1_lk (x0 : List MacRow) (y1_0 : MacRow) : evalFnM te (orcOf (P := Try.prog) [i_MacOk_1_e]) (lorcOf [g_IndexFunc_MacRow_i_MacOk_1_L0_le]) g_IndexFunc_MacRow_i_MacOk_1_ann Try.f97 (pvs [.sc (.sl .macRow), .fn 63 [0]] (x0, (), ())) (mos [.box [.c .str, .c (.int .i64)]] ((y1_0.input, y1_0.value, ()), ())) =
  g_IndexFunc_MacRow_i_MacOk_1_N x0 y1_0 _ none (fun v => some ([(false, [RC.c (.int .i64 v.1)])] ++ (mos [.box [.c .str, .c (.int .i64)]] ((v.2.input, v.2.value, ()), ())).map encO)) := by kernel_rfl
theorem g_IndexFunc_MacRow_i_MacOk_1_p (x0 : List MacRow) (y1_0 : MacRow) (hx0 : x0.length ≤ 140737488355328) (hx0_e : ∀ y ∈ x0, ∀ c ∈ Ty.cells .macRow y, FactC c) (hy1_0_input : List.length y1_0.input ≤ 4611686018427387904) (hy1_0_value : inK .i64 y1_0.value)  (γ : Type) (fail : γ) (k : Int × MacRow → γ) : g_IndexFunc_MacRow_i_MacOk_1_N x0 y1_0 γ fail k = k (g_IndexFunc_MacRow_i_MacOk_1 x0 y1_0) := by
  unfold g_IndexFunc_MacRow_i_MacOk_1_N g_IndexFunc_MacRow_i_MacOk_1
  exact loopT (f := k) (g_IndexFunc_MacRow_i_MacOk_1_L0_cl x0 (x0.length : Int) 0 y1_0.input y1_0.value (by (try simp only [Nat.ble_eq, Bool.and_eq_true, decide_eq_true_eq, g_IndexFunc_MacRow_i_MacOk_1_L0_mx0, g_IndexFunc_MacRow_i_MacOk_1_L0_mx1]); grind [maxSl, maxStr, toBytes_length, toInts_length, List.length_set, wrap64]) (by (try simp only [Nat.ble_eq, Bool.and_eq_true, decide_eq_true_eq, g_IndexFunc_MacRow_i_MacOk_1_L0_mx0, g_IndexFunc_MacRow_i_MacOk_1_L0_mx1]); grind [maxSl, maxStr, toBytes_length, toInts_length, List.length_set, wrap64]) (by (try simp only [Nat.ble_eq, Bool.and_eq_true, decide_eq_true_eq, g_IndexFunc_MacRow_i_MacOk_1_L0_mx0, g_IndexFunc_MacRow_i_MacOk_1_L0_mx1]); grind [maxSl, maxStr, toBytes_length, toInts_length, List.length_set, wrap64])) (fun a3 => rfl)
      (fun p3 => rfl)
theorem g_IndexFunc_MacRow_i_MacOk_1_c (x0 : List MacRow) (y1_0 : MacRow)  : ConM Try.prog 97 (pvs [.sc (.sl .macRow), .fn 63 [0]] (x0, (), ())) (mos [.box [.c .str, .c (.int .i64)]] ((y1_0.input, y1_0.value, ()), ())) [rv (.sc (.int .i64)) [] (g_IndexFunc_MacRow_i_MacOk_1 x0 y1_0).1] (mos [.box [.c .str, .c (.int .i64)]] ((((g_IndexFunc_MacRow_i_MacOk_1 x0 y1_0).2).input, ((g_IndexFunc_MacRow_i_MacOk_1 x0 y1_0).2).value, ()), ())) := by
  refine ConM.of_facts (enters_of Try.func97 rfl (by kernel_rfl)) fun hf hg => ?_
  replace hf := factAt hf
  exact evalFn_conLM teFact mixFact (orcOf_ok _) Try.func97 (by kernel_rfl) (bs := [0]) (by kernel_rfl) (by kernel_rfl) (by kernel_rfl) rfl (fun w0 mo I0 hmo => ⟨lsem_of_lorc (g_IndexFunc_MacRow_i_MacOk_1_L0_ls w0 mo I0 hmo) (by kernel_rfl), trivial⟩) ((g_IndexFunc_MacRow_i_MacOk_1_lk x0 y1_0).trans (g_IndexFunc_MacRow_i_MacOk_1_p x0 y1_0 ((hf 0 0 rfl rfl).len) (fun y hy => (hf 0 0 rfl rfl).elem hy) ((mbAt hg 0 0 rfl rfl).slen) ((mbAt hg 0 1 rfl rfl).rng) _ _ _))
noncomputable def g_IndexFunc_MacRow_i_MacOk_1_e : Ent1 Try.prog := entM 97 [.sc (.sl .macRow), .fn 63 [0]] [.box [.c .str, .c (.int .i64)]] (fun x y => true) (fun x y => (g_IndexFunc_MacRow_i_MacOk_1 x.1 (⟨y.1.1, y.1.2.1⟩ : MacRow))) (fun v => [rv (.sc (.int .i64)) [] v.1]) (fun x y v => (mos [.box [.c .str, .c (.int .i64)]] ((v.2.input, v.2.value, ()), ()))) (fun x y hx => g_IndexFunc_MacRow_i_MacOk_1_c x.1 (⟨y.1.1, y.1.2.1⟩ : MacRow))


/-- slices.ContainsFunc[[]impl.MacRow,impl.MacRow] -/
def g_ContainsFunc_MacRow_i_MacOk_1_N (x0 : List MacRow) (y1_0 : MacRow) (γ : Type) (fail : γ) (k : Bool × MacRow → γ) : γ :=
  letK (α := Int × MacRow) (g_IndexFunc_MacRow_i_MacOk_1 x0 y1_0) fun c1 =>
  k ((decide (0 ≤ c1.1)), c1.2)
def g_ContainsFunc_MacRow_i_MacOk_1 (x0 : List MacRow) (y1_0 : MacRow) : Bool × MacRow :=
  letK (α := Int × MacRow) (g_IndexFunc_MacRow_i_MacOk_1 x0 y1_0) fun c1 =>
  ((decide (0 ≤ c1.1)), c1.2)
theorem g_ContainsFunc_MacRow_i_MacOk_1_lk (x0 : List MacRow) (y1_0 : MacRow) : evalFnM te (orcOf (P := Try.prog) [g_IndexFunc_MacRow_i_MacOk_1_e, i_MacOk_1_e]) lorc0 [] Try.f62 (pvs [.sc (.sl .macRow), .fn 63 [0]] (x0, (), ())) (mos [.box [.c .str, .c (.int .i64)]] ((y1_0.input, y1_0.value, ()), ())) =
  g_ContainsFunc_MacRow_i_MacOk_1_N x0 y1_0 _ none (fun v => some ([(false, [RC.c (.bool v.1)])] ++ (mos [.box [.c .str, .c (.int .i64)]] ((v.2.input, v.2.value, ()), ())).map encO)) := by kernel_rfl
theorem g_ContainsFunc_MacRow_i_MacOk_1_p (x0 : List MacRow) (y1_0 : MacRow)   (γ : Type) (fail : γ) (k : Bool × MacRow → γ) : g_ContainsFunc_MacRow_i_MacOk_1_N x0 y1_0 γ fail k = k (g_ContainsFunc_MacRow_i_MacOk_1 x0 y1_0) := by
  unfold g_ContainsFunc_MacRow_i_MacOk_1_N g_ContainsFunc_MacRow_i_MacOk_1
  exact letT (f := k) (fun c1 hc1 => rfl)
theorem g_ContainsFunc_MacRow_i_MacOk_1_c (x0 : List MacRow) (y1_0 : MacRow)  : ConM Try.prog 62 (pvs [.sc (.sl .macRow), .fn 63 [0]] (x0, (), ())) (mos [.box [.c .str, .c (.int .i64)]] ((y1_0.input, y1_0.value, ()), ())) [rv (.sc .bool) [] (g_ContainsFunc_MacRow_i_MacOk_1 x0 y1_0).1] (mos [.box [.c .str, .c (.int .i64)]] ((((g_ContainsFunc_MacRow_i_MacOk_1 x0 y1_0).2).input, ((g_ContainsFunc_MacRow_i_MacOk_1 x0 y1_0).2).value, ()), ())) := by
  exact evalFn_conLM teFact mixFact (orcOf_ok _) Try.func62 (by kernel_rfl) (bs := []) (by kernel_rfl) (by kernel_rfl) (by kernel_rfl) rfl (fun w0 mo I0 hmo => trivial) ((g_ContainsFunc_MacRow_i_MacOk_1_lk x0 y1_0).trans (g_ContainsFunc_MacRow_i_MacOk_1_p x0 y1_0  _ _ _))
noncomputable def g_ContainsFunc_MacRow_i_MacOk_1_e : Ent1 Try.prog := entM 62 [.sc (.sl .macRow), .fn 63 [0]] [.box [.c .str, .c (.int .i64)]] (fun x y => true) (fun x y => (g_ContainsFunc_MacRow_i_MacOk_1 x.1 (⟨y.1.1, y.1.2.1⟩ : MacRow))) (fun v => [rv (.sc .bool) [] v.1]) (fun x y v => (mos [.box [.c .str, .c (.int .i64)]] ((v.2.input, v.2.value, ()), ()))) (fun x y hx => g_ContainsFunc_MacRow_i_MacOk_1_c x.1 (⟨y.1.1, y.1.2.1⟩ : MacRow))


/-- impl.MacOk -/
def i_MacOk_ann : List (Nat × Keep) := [(0, ⟨[1, 27, 28, 29], [], false, 0⟩)]
def i_MacOk_L0_sh : Sh := ⟨[(1, false, [.ptr 0 0]), (27, false, [.sl .arg .macRow]), (28, false, [.int .i64]), (29, false, [.int .i64])], [.box [.bool, .int .u64, .int .u64, .sl .arg .macRow]]⟩
def i_MacOk_L0_es : List (Ex × Sh) := [(.ret, ⟨[(2, false, [.bool])], []⟩), (.exit 0, ⟨[(2, false, [.undef])], []⟩)]
def i_MacOk_L0_mk (v0 : List MacRow) (v1 : Int) (v2 : Int) (v3 : Bool) (v4 : Int) (v5 : Int) (v6 : List MacRow) : i_MacOk_L0_sh.T := ((((), ()), ((v0, ()), ((v1, ()), ((v2, ()), ())))), ((v3, (v4, (v5, (v6, ())))), ()))
def i_MacOk_L0_mx0 (y0 : Bool) : Sh.T ⟨[(2, false, [.bool])], []⟩ := (((y0, ()), ()), ())
def i_MacOk_L0_mx1  : Sh.T ⟨[(2, false, [.undef])], []⟩ := ((((), ()), ()), ())
def i_MacOk_L0_B (v0 : List MacRow) (v1 : Int) (v2 : Int) (v3 : Bool) (v4 : Int) (v5 : Int) (v6 : List MacRow) (γ : Type) (fail : γ) (next : i_MacOk_L0_sh.T → γ) (out : WT i_MacOk_L0_es → γ) : γ :=
  bif (decide (v2 < v1)) then
    bif ((decide (0 ≤ v2)) && (decide (v2 < (v0.length : Int)))) then
    letK (α := Bool) (i_within ((v0.getD v2.toNat (Ty.zero .macRow)).value) 0 16777215) fun c1 =>
    bif (!c1) then
      out (Sum.inl (i_MacOk_L0_mx0 false))
    else
    bif ((decide (0 ≤ v2)) && (decide (v2 ≤ (v6.length : Int)))) then
    letK (α := Bool × MacRow) (g_ContainsFunc_MacRow_i_MacOk_1 ((v6.take v2.toNat).drop 0) (v0.getD v2.toNat (Ty.zero .macRow))) fun c2 =>
    bif c2.1 then
      out (Sum.inl (i_MacOk_L0_mx0 false))
    else
    next (i_MacOk_L0_mk v0 v1 (IntKind.wrap .i64 (v2 + 1)) v3 v4 v5 v6)
    else fail
    else fail
  else
  out (Sum.inr (i_MacOk_L0_mx1 ))
theorem i_MacOk_L0_par (v0 : List MacRow) (v1 : Int) (v2 : Int) (v3 : Bool) (v4 : Int) (v5 : Int) (v6 : List MacRow) (γ : Type) (fail : γ) (next : i_MacOk_L0_sh.T → γ) (out : WT i_MacOk_L0_es → γ) : i_MacOk_L0_B v0 v1 v2 v3 v4 v5 v6 γ fail next out = optK (i_MacOk_L0_B v0 v1 v2 v3 v4 v5 v6 _ none (fun v' => some (.inl v')) (fun w => some (.inr w))) fail (fun r => Sum.elim next out r) := by
  unfold i_MacOk_L0_B
  exact bifT (f := (fun o => optK o fail (fun r => Sum.elim next out r))) (fun _ => bifT (f := (fun o => optK o fail (fun r => Sum.elim next out r))) (fun _ => letT (f := (fun o => optK o fail (fun r => Sum.elim next out r))) (fun c1 _ => bifT (f := (fun o => optK o fail (fun r => Sum.elim next out r))) (fun _ => rfl)
      (fun _ => bifT (f := (fun o => optK o fail (fun r => Sum.elim next out r))) (fun _ => letT (f := (fun o => optK o fail (fun r => Sum.elim next out r))) (fun c2 _ => bifT (f := (fun o => optK o fail (fun r => Sum.elim next out r))) (fun _ => rfl)
      (fun _ => rfl))) (fun _ => rfl)))) (fun _ => rfl))
      (fun _ => rfl)
def i_MacOk_L0_r : Round i_MacOk_L0_sh.T (WT i_MacOk_L0_es) where
  B v γ fail next out := i_MacOk_L0_B v.1.2.1.1 v.1.2.2.1.1 v.1.2.2.2.1.1 v.2.1.1 v.2.1.2.1 v.2.1.2.2.1 v.2.1.2.2.2.1 γ fail next out
  par v γ fail next out := i_MacOk_L0_par v.1.2.1.1 v.1.2.2.1.1 v.1.2.2.2.1.1 v.2.1.1 v.2.1.2.1 v.2.1.2.2.1 v.2.1.2.2.2.1 γ fail next out
def i_MacOk_L0_fu (v0 : List MacRow) (v1 : Int) (v2 : Int) (v3 : Bool) (v4 : Int) (v5 : Int) (v6 : List MacRow) : Nat := (Int.toNat (v1 - v2)) + 1
theorem i_MacOk_L0_lk (v : i_MacOk_L0_sh.T) (next : St → Option Res) (k : Ex → St → Option Res) : evalK te (orcOf (P := Try.prog) [i_within_e, g_ContainsFunc_MacRow_i_MacOk_1_e, i_MacOk_1_e]) (lorcOf []) Try.f25.ntmps i_MacOk_ann (nthLoop (bodyOf Try.f25) 0 0) 0 (i_MacOk_L0_sh.enc v) (endK ⟨[1, 27, 28, 29], [], false, 0⟩ ⟨[2], [], false, 0⟩ next k) =
  i_MacOk_L0_r.B v _ none (fun v' => next (i_MacOk_L0_sh.enc v')) (fun w => outK i_MacOk_L0_es k w) := by kernel_rfl
def i_MacOk_L0_le : LE := leOf 0 i_MacOk_L0_sh i_MacOk_L0_es i_MacOk_L0_r.step (fun v => i_MacOk_L0_fu v.1.2.1.1 v.1.2.2.1.1 v.1.2.2.2.1.1 v.2.1.1 v.2.1.2.1 v.2.1.2.2.1 v.2.1.2.2.2.1)
theorem i_MacOk_L0_ls (w0 : World) (mo : Mts) (I0 : Nat → Prop) (hmo : mo.length = 0) : LSem Try.prog (Sim w0 mo Try.f25.ntmps I0) (fun b s k => match Nat.beq 0 b with | true => i_MacOk_L0_le.run s k | false => none) 0 (nthLoop (bodyOf Try.f25) 0 0) :=
  le_sem hmo (lorc := lorcOf []) (ann := i_MacOk_ann) (keep := ⟨[1, 27, 28, 29], [], false, 0⟩) (kout := ⟨[2], [], false, 0⟩) teFact mixFact (orcOf_ok _) (by kernel_rfl) (allLoops_of (bs := []) (by kernel_rfl) trivial) i_MacOk_L0_r _ i_MacOk_L0_lk
def i_MacOk_L0_f (v0 : List MacRow) (v1 : Int) (v3 : Bool) (v4 : Int) (v5 : Int) (v6 : List MacRow) (v2 : Int) (a : Unit) : Stp (Unit) ((Unit)) :=
  letK (α := Bool) (i_within ((v0.getD v2.toNat (Ty.zero .macRow)).value) 0 16777215) fun c1 =>
  bif (!c1) then
    .out (())
  else
  letK (α := Bool × MacRow) (g_ContainsFunc_MacRow_i_MacOk_1 ((v6.take v2.toNat).drop 0) (v0.getD v2.toNat (Ty.zero .macRow))) fun c2 =>
  bif c2.1 then
    .out (())
  else
  .next ()
theorem i_MacOk_L0_st (v0 : List MacRow) (v1 : Int) (v2 : Int) (v3 : Bool) (v4 : Int) (v5 : Int) (v6 : List MacRow) (hlo : 0 ≤ v2) (hhi : v2 < v1) (hN : v1 ≤ 4611686018427387904) (hi0 : v1 ≤ (v0.length : Int)) (hi1 : v1 ≤ (v6.length : Int)) : i_MacOk_L0_r.step (i_MacOk_L0_mk v0 v1 v2 v3 v4 v5 v6) = Stp.elim (fun a' : Unit => some (Sum.inl (i_MacOk_L0_mk v0 v1 (v2 + 1) v3 v4 v5 v6))) (fun w => some (Sum.inr ((fun p : Unit => Sum.inl (i_MacOk_L0_mx0 false)) w))) (i_MacOk_L0_f v0 v1 v3 v4 v5 v6 v2 ()) := by
  have hw : (IntKind.wrap .i64 (v2 + 1)) = v2 + 1 := wrap64 (by omega) (by omega)
  show i_MacOk_L0_B v0 v1 v2 v3 v4 v5 v6 (Option (i_MacOk_L0_sh.T ⊕ WT i_MacOk_L0_es)) none (fun v' => some (Sum.inl v')) (fun w => some (Sum.inr w)) = _
  unfold i_MacOk_L0_B i_MacOk_L0_f
  exact bifG (by simp only [decide_eq_true_eq]; omega) (bifG (by (try simp only [Nat.ble_eq, Bool.and_eq_true, decide_eq_true_eq]); grind [maxSl, maxStr, toBytes_length, toInts_length, List.length_set, wrap64]) (letT (f := (Stp.elim (fun a' : Unit => some (Sum.inl (i_MacOk_L0_mk v0 v1 (v2 + 1) v3 v4 v5 v6))) (fun w => some (Sum.inr ((fun p : Unit => Sum.inl (i_MacOk_L0_mx0 false)) w))))) (fun c1 hc1 => bifT (f := (Stp.elim (fun a' : Unit => some (Sum.inl (i_MacOk_L0_mk v0 v1 (v2 + 1) v3 v4 v5 v6))) (fun w => some (Sum.inr ((fun p : Unit => Sum.inl (i_MacOk_L0_mx0 false)) w))))) (fun b0 => rfl)
      (fun b0 => bifG (by (try simp only [Nat.ble_eq, Bool.and_eq_true, decide_eq_true_eq]); grind [maxSl, maxStr, toBytes_length, toInts_length, List.length_set, wrap64]) (letT (f := (Stp.elim (fun a' : Unit => some (Sum.inl (i_MacOk_L0_mk v0 v1 (v2 + 1) v3 v4 v5 v6))) (fun w => some (Sum.inr ((fun p : Unit => Sum.inl (i_MacOk_L0_mx0 false)) w))))) (fun c2 hc2 => bifT (f := (Stp.elim (fun a' : Unit => some (Sum.inl (i_MacOk_L0_mk v0 v1 (v2 + 1) v3 v4 v5 v6))) (fun w => some (Sum.inr ((fun p : Unit => Sum.inl (i_MacOk_L0_mx0 false)) w))))) (fun b1 => rfl)
      (fun b1 => congrArg (fun z => some (Sum.inl (i_MacOk_L0_mk v0 v1 z v3 v4 v5 v6))) hw)))))))
theorem i_MacOk_L0_cl (v0 : List MacRow) (v1 : Int) (v2 : Int) (v3 : Bool) (v4 : Int) (v5 : Int) (v6 : List MacRow) (h0 : 0 ≤ v2) (h1 : v1 ≤ 4611686018427387904) (h2 : v1 ≤ (v0.length : Int)) (h3 : v1 ≤ (v6.length : Int)) : loopF i_MacOk_L0_r.step (i_MacOk_L0_fu v0 v1 v2 v3 v4 v5 v6) (i_MacOk_L0_mk v0 v1 v2 v3 v4 v5 v6) = some (Stp.elim (fun a => (fun i a => Sum.inr (i_MacOk_L0_mx1 )) (v2 + 1 * (((Int.toNat (v1 - v2)) : Nat) : Int)) a) (fun p : Unit => Sum.inl (i_MacOk_L0_mx0 false)) (forN (i_MacOk_L0_f v0 v1 v3 v4 v5 v6) 1 (Int.toNat (v1 - v2)) v2 ())) :=
  forN_loop (step := i_MacOk_L0_r.step) (mk := fun v2 a => i_MacOk_L0_mk v0 v1 v2 v3 v4 v5 v6) (f := i_MacOk_L0_f v0 v1 v3 v4 v5 v6) (e := (fun i a => Sum.inr (i_MacOk_L0_mx1 ))) (emb := (fun p : Unit => Sum.inl (i_MacOk_L0_mx0 false))) (st := 1) (Inv := fun v2 a => True) (Int.toNat (v1 - v2)) v2 () _ (Nat.lt_succ_self _) trivial
    (fun j a hj hv => ⟨i_MacOk_L0_st v0 v1 (v2 + 1 * (j : Int)) v3 v4 v5 v6 (by omega) (by omega) (by omega) h2 h3, fun _ _ => trivial⟩)
    (fun a hv => by
      show i_MacOk_L0_B v0 v1 (v2 + 1 * (((Int.toNat (v1 - v2)) : Nat) : Int)) v3 v4 v5 v6 (Option (i_MacOk_L0_sh.T ⊕ WT i_MacOk_L0_es)) none (fun v' => some (Sum.inl v')) (fun w => some (Sum.inr w)) = _
      unfold i_MacOk_L0_B
      exact bifN (by simp only [decide_eq_false_iff_not]; omega) rfl)
def i_MacOk_N (x0 : Mac) (γ : Type) (fail : γ) (k : Bool → γ) : γ :=
  bif (!x0.use) then
    k ((x0.rows.length : Int) == 0)
  else
  bif (x0.k != 0) then
    k false
  else
  bif (x0.l != 0) then
    k false
  else
  bif (decide (64 < (x0.rows.length : Int))) then
    k false
  else
  optK (loopF i_MacOk_L0_r.step (i_MacOk_L0_fu x0.rows (x0.rows.length : Int) 0 x0.use x0.k x0.l x0.rows) (i_MacOk_L0_mk x0.rows (x0.rows.length : Int) 0 x0.use x0.k x0.l x0.rows)) fail fun w3 =>
    Sum.elim (fun w3 =>
      k w3.1.1.1)
    (fun w3 =>
      k true) w3
def i_MacOk (x0 : Mac) : Bool :=
  bif (!x0.use) then
    ((x0.rows.length : Int) == 0)
  else
  bif (x0.k != 0) then
    false
  else
  bif (x0.l != 0) then
    false
  else
  bif (decide (64 < (x0.rows.length : Int))) then
    false
  else
  Stp.elim (fun a4 =>
    true)
    (fun p4 =>
      false)
    (forN (i_MacOk_L0_f x0.rows (x0.rows.length : Int) x0.use x0.k x0.l x0.rows) 1 (Int.toNat ((x0.rows.length : Int) - 0)) 0 ())
theorem i_MacOk_lk (x0 : Mac) : evalFn te (orcOf (P := Try.prog) [i_within_e, g_ContainsFunc_MacRow_i_MacOk_1_e, i_MacOk_1_e]) (lorcOf [i_MacOk_L0_le]) i_MacOk_ann Try.f25 (pvs [.st .mac] (x0, ())) =
  i_MacOk_N x0 _ none (fun v => some [(false, [RC.c (.bool v)])]) := by kernel_rfl
theorem i_MacOk_p (x0 : Mac) (hx0_k : inK .u64 x0.k) (hx0_l : inK .u64 x0.l) (hx0_rows : x0.rows.length ≤ 140737488355328) (hx0_rows_e : ∀ y ∈ x0.rows, ∀ c ∈ Ty.cells .macRow y, FactC c)  (γ : Type) (fail : γ) (k : Bool → γ) : i_MacOk_N x0 γ fail k = k (i_MacOk x0) := by
  unfold i_MacOk_N i_MacOk
  exact bifT (f := k) (fun b0 => rfl)
      (fun b0 => bifT (f := k) (fun b1 => rfl)
      (fun b1 => bifT (f := k) (fun b2 => rfl)
      (fun b2 => bifT (f := k) (fun b3 => rfl)
      (fun b3 => loopT (f := k) (i_MacOk_L0_cl x0.rows (x0.rows.length : Int) 0 x0.use x0.k x0.l x0.rows (by (try simp only [Nat.ble_eq, Bool.and_eq_true, decide_eq_true_eq, i_MacOk_L0_mx0, i_MacOk_L0_mx1]); grind [maxSl, maxStr, toBytes_length, toInts_length, List.length_set, wrap64]) (by (try simp only [Nat.ble_eq, Bool.and_eq_true, decide_eq_true_eq, i_MacOk_L0_mx0, i_MacOk_L0_mx1]); grind [maxSl, maxStr, toBytes_length, toInts_length, List.length_set, wrap64]) (by (try simp only [Nat.ble_eq, Bool.and_eq_true, decide_eq_true_eq, i_MacOk_L0_mx0, i_MacOk_L0_mx1]); grind [maxSl, maxStr, toBytes_length, toInts_length, List.length_set, wrap64]) (by (try simp only [Nat.ble_eq, Bool.and_eq_true, decide_eq_true_eq, i_MacOk_L0_mx0, i_MacOk_L0_mx1]); grind [maxSl, maxStr, toBytes_length, toInts_length, List.length_set, wrap64])) (fun a4 => rfl)
      (fun p4 => rfl)))))
theorem i_MacOk_c (x0 : Mac)  : Con Try.prog 25 (pvs [.st .mac] (x0, ())) [rv (.sc .bool) [] (i_MacOk x0)] := by
  refine Con.of_facts (enters_of Try.func25 rfl (by kernel_rfl)) fun hf => ?_
  replace hf := factAt hf
  exact evalFn_conL teFact mixFact (orcOf_ok _) Try.func25 (by kernel_rfl) (bs := [0]) (by kernel_rfl) (by kernel_rfl) (fun w0 mo I0 hmo => ⟨lsem_of_lorc (i_MacOk_L0_ls w0 mo I0 hmo) (by kernel_rfl), trivial⟩) ((i_MacOk_lk x0).trans (i_MacOk_p x0 ((hf 0 1 rfl rfl).rng) ((hf 0 2 rfl rfl).rng) ((hf 0 3 rfl rfl).len) (fun y hy => (hf 0 3 rfl rfl).elem hy) _ _ _))
noncomputable def i_MacOk_e : Ent1 Try.prog := entA 25 [.st .mac] (fun x => (i_MacOk x.1)) (fun v => [rv (.sc .bool) [] v]) (fun x => i_MacOk_c x.1)


/-- impl.ActOk -/
def i_ActOk_N (x0 : Acti) (γ : Type) (fail : γ) (k : Bool → γ) : γ :=
  letK (α := Bool) (i_within x0.kind 5 8) fun c1 =>
  letK (α := Bool) (i_within x0.kind 1 8) fun c2 =>
  bif (!c2) then
    bif (!c2) then
      k false
    else
    bif (!(x0.text == [])) then
      bif (x0.kind != 1) then
        bif (x0.kind != 5) then
          k false
        else
        bif (x0.kind != 3) then
          letK (α := Bool) (i_SameMac x0.mac (⟨false, 0, 0, []⟩ : Mac)) fun c3 =>
          bif (!c3) then
            k false
          else
          bif c1 then
            letK (α := Bool) (i_TupleOk x0.tuple) fun c4 =>
            bif (!c4) then
              bif (!c4) then
                k false
              else
              bif (x0.n == 0) then
                k true
              else
              k (x0.kind == 6)
            else
            bif (!c1) then
              bif (!((x0.tuple.ip == 0) && ((x0.tuple.port == 0) && ((x0.tuple.my == 0) && true)))) then
                k false
              else
              bif (x0.n == 0) then
                k true
              else
              k (x0.kind == 6)
            else
            bif (x0.n == 0) then
              k true
            else
            k (x0.kind == 6)
          else
          bif (!c1) then
            bif (!((x0.tuple.ip == 0) && ((x0.tuple.port == 0) && ((x0.tuple.my == 0) && true)))) then
              k false
            else
            bif (x0.n == 0) then
              k true
            else
            k (x0.kind == 6)
          else
          bif (x0.n == 0) then
            k true
          else
          k (x0.kind == 6)
        else
        bif c1 then
          letK (α := Bool) (i_TupleOk x0.tuple) fun c5 =>
          bif (!c5) then
            bif (!c5) then
              k false
            else
            bif (x0.n == 0) then
              k true
            else
            k (x0.kind == 6)
          else
          bif (!c1) then
            bif (!((x0.tuple.ip == 0) && ((x0.tuple.port == 0) && ((x0.tuple.my == 0) && true)))) then
              k false
            else
            bif (x0.n == 0) then
              k true
            else
            k (x0.kind == 6)
          else
          bif (x0.n == 0) then
            k true
          else
          k (x0.kind == 6)
        else
        bif (!c1) then
          bif (!((x0.tuple.ip == 0) && ((x0.tuple.port == 0) && ((x0.tuple.my == 0) && true)))) then
            k false
          else
          bif (x0.n == 0) then
            k true
          else
          k (x0.kind == 6)
        else
        bif (x0.n == 0) then
          k true
        else
        k (x0.kind == 6)
      else
      bif (x0.kind != 3) then
        letK (α := Bool) (i_SameMac x0.mac (⟨false, 0, 0, []⟩ : Mac)) fun c6 =>
        bif (!c6) then
          k false
        else
        bif c1 then
          letK (α := Bool) (i_TupleOk x0.tuple) fun c7 =>
          bif (!c7) then
            bif (!c7) then
              k false
            else
            bif (x0.n == 0) then
              k true
            else
            k (x0.kind == 6)
          else
          bif (!c1) then
            bif (!((x0.tuple.ip == 0) && ((x0.tuple.port == 0) && ((x0.tuple.my == 0) && true)))) then
              k false
            else
            bif (x0.n == 0) then
              k true
            else
            k (x0.kind == 6)
          else
          bif (x0.n == 0) then
            k true
          else
          k (x0.kind == 6)
        else
        bif (!c1) then
          bif (!((x0.tuple.ip == 0) && ((x0.tuple.port == 0) && ((x0.tuple.my == 0) && true)))) then
            k false
          else
          bif (x0.n == 0) then
            k true
          else
          k (x0.kind == 6)
        else
        bif (x0.n == 0) then
          k true
        else
        k (x0.kind == 6)
      else
      bif c1 then
        letK (α := Bool) (i_TupleOk x0.tuple) fun c8 =>
        bif (!c8) then
          bif (!c8) then
            k false
          else
          bif (x0.n == 0) then
            k true
          else
          k (x0.kind == 6)
        else
        bif (!c1) then
          bif (!((x0.tuple.ip == 0) && ((x0.tuple.port == 0) && ((x0.tuple.my == 0) && true)))) then
            k false
          else
          bif (x0.n == 0) then
            k true
          else
          k (x0.kind == 6)
        else
        bif (x0.n == 0) then
          k true
        else
        k (x0.kind == 6)
      else
      bif (!c1) then
        bif (!((x0.tuple.ip == 0) && ((x0.tuple.port == 0) && ((x0.tuple.my == 0) && true)))) then
          k false
        else
        bif (x0.n == 0) then
          k true
        else
        k (x0.kind == 6)
      else
      bif (x0.n == 0) then
        k true
      else
      k (x0.kind == 6)
    else
    bif (x0.kind != 3) then
      letK (α := Bool) (i_SameMac x0.mac (⟨false, 0, 0, []⟩ : Mac)) fun c9 =>
      bif (!c9) then
        k false
      else
      bif c1 then
        letK (α := Bool) (i_TupleOk x0.tuple) fun c10 =>
        bif (!c10) then
          bif (!c10) then
            k false
          else
          bif (x0.n == 0) then
            k true
          else
          k (x0.kind == 6)
        else
        bif (!c1) then
          bif (!((x0.tuple.ip == 0) && ((x0.tuple.port == 0) && ((x0.tuple.my == 0) && true)))) then
            k false
          else
          bif (x0.n == 0) then
            k true
          else
          k (x0.kind == 6)
        else
        bif (x0.n == 0) then
          k true
        else
        k (x0.kind == 6)
      else
      bif (!c1) then
        bif (!((x0.tuple.ip == 0) && ((x0.tuple.port == 0) && ((x0.tuple.my == 0) && true)))) then
          k false
        else
        bif (x0.n == 0) then
          k true
        else
        k (x0.kind == 6)
      else
      bif (x0.n == 0) then
        k true
      else
      k (x0.kind == 6)
    else
    bif c1 then
      letK (α := Bool) (i_TupleOk x0.tuple) fun c11 =>
      bif (!c11) then
        bif (!c11) then
          k false
        else
        bif (x0.n == 0) then
          k true
        else
        k (x0.kind == 6)
      else
      bif (!c1) then
        bif (!((x0.tuple.ip == 0) && ((x0.tuple.port == 0) && ((x0.tuple.my == 0) && true)))) then
          k false
        else
        bif (x0.n == 0) then
          k true
        else
        k (x0.kind == 6)
      else
      bif (x0.n == 0) then
        k true
      else
      k (x0.kind == 6)
    else
    bif (!c1) then
      bif (!((x0.tuple.ip == 0) && ((x0.tuple.port == 0) && ((x0.tuple.my == 0) && true)))) then
        k false
      else
      bif (x0.n == 0) then
        k true
      else
      k (x0.kind == 6)
    else
    bif (x0.n == 0) then
      k true
    else
    k (x0.kind == 6)
  else
  bif (decide (1600 < (x0.text.length : Int))) then
    bif (decide (1600 < (x0.text.length : Int))) then
      k false
    else
    bif (!(x0.text == [])) then
      bif (x0.kind != 1) then
        bif (x0.kind != 5) then
          k false
        else
        bif (x0.kind != 3) then
          letK (α := Bool) (i_SameMac x0.mac (⟨false, 0, 0, []⟩ : Mac)) fun c12 =>
          bif (!c12) then
            k false
          else
          bif c1 then
            letK (α := Bool) (i_TupleOk x0.tuple) fun c13 =>
            bif (!c13) then
              bif (!c13) then
                k false
              else
              bif (x0.n == 0) then
                k true
              else
              k (x0.kind == 6)
            else
            bif (!c1) then
              bif (!((x0.tuple.ip == 0) && ((x0.tuple.port == 0) && ((x0.tuple.my == 0) && true)))) then
                k false
              else
              bif (x0.n == 0) then
                k true
              else
              k (x0.kind == 6)
            else
            bif (x0.n == 0) then
              k true
            else
            k (x0.kind == 6)
          else
          bif (!c1) then
            bif (!((x0.tuple.ip == 0) && ((x0.tuple.port == 0) && ((x0.tuple.my == 0) && true)))) then
              k false
            else
            bif (x0.n == 0) then
              k true
            else
            k (x0.kind == 6)
          else
          bif (x0.n == 0) then
            k true
          else
          k (x0.kind == 6)
        else
        bif c1 then
          letK (α := Bool) (i_TupleOk x0.tuple) fun c14 =>
          bif (!c14) then
            bif (!c14) then
              k false
            else
            bif (x0.n == 0) then
              k true
            else
            k (x0.kind == 6)
          else
          bif (!c1) then
            bif (!((x0.tuple.ip == 0) && ((x0.tuple.port == 0) && ((x0.tuple.my == 0) && true)))) then
              k false
            else
            bif (x0.n == 0) then
              k true
            else
            k (x0.kind == 6)
          else
          bif (x0.n == 0) then
            k true
          else
          k (x0.kind == 6)
        else
        bif (!c1) then
          bif (!((x0.tuple.ip == 0) && ((x0.tuple.port == 0) && ((x0.tuple.my == 0) && true)))) then
            k false
          else
          bif (x0.n == 0) then
            k true
          else
          k (x0.kind == 6)
        else
        bif (x0.n == 0) then
          k true
        else
        k (x0.kind == 6)
      else
      bif (x0.kind != 3) then
        letK (α := Bool) (i_SameMac x0.mac (⟨false, 0, 0, []⟩ : Mac)) fun c15 =>
        bif (!c15) then
          k false
        else
        bif c1 then
          letK (α := Bool) (i_TupleOk x0.tuple) fun c16 =>
          bif (!c16) then
            bif (!c16) then
              k false
            else
            bif (x0.n == 0) then
              k true
            else
            k (x0.kind == 6)
          else
          bif (!c1) then
            bif (!((x0.tuple.ip == 0) && ((x0.tuple.port == 0) && ((x0.tuple.my == 0) && true)))) then
              k false
            else
            bif (x0.n == 0) then
              k true
            else
            k (x0.kind == 6)
          else
          bif (x0.n == 0) then
            k true
          else
          k (x0.kind == 6)
        else
        bif (!c1) then
          bif (!((x0.tuple.ip == 0) && ((x0.tuple.port == 0) && ((x0.tuple.my == 0) && true)))) then
            k false
          else
          bif (x0.n == 0) then
            k true
          else
          k (x0.kind == 6)
        else
        bif (x0.n == 0) then
          k true
        else
        k (x0.kind == 6)
      else
      bif c1 then
        letK (α := Bool) (i_TupleOk x0.tuple) fun c17 =>
        bif (!c17) then
          bif (!c17) then
            k false
          else
          bif (x0.n == 0) then
            k true
          else
          k (x0.kind == 6)
        else
        bif (!c1) then
          bif (!((x0.tuple.ip == 0) && ((x0.tuple.port == 0) && ((x0.tuple.my == 0) && true)))) then
            k false
          else
          bif (x0.n == 0) then
            k true
          else
          k (x0.kind == 6)
        else
        bif (x0.n == 0) then
          k true
        else
        k (x0.kind == 6)
      else
      bif (!c1) then
        bif (!((x0.tuple.ip == 0) && ((x0.tuple.port == 0) && ((x0.tuple.my == 0) && true)))) then
          k false
        else
        bif (x0.n == 0) then
          k true
        else
        k (x0.kind == 6)
      else
      bif (x0.n == 0) then
        k true
      else
      k (x0.kind == 6)
    else
    bif (x0.kind != 3) then
      letK (α := Bool) (i_SameMac x0.mac (⟨false, 0, 0, []⟩ : Mac)) fun c18 =>
      bif (!c18) then
        k false
      else
      bif c1 then
        letK (α := Bool) (i_TupleOk x0.tuple) fun c19 =>
        bif (!c19) then
          bif (!c19) then
            k false
          else
          bif (x0.n == 0) then
            k true
          else
          k (x0.kind == 6)
        else
        bif (!c1) then
          bif (!((x0.tuple.ip == 0) && ((x0.tuple.port == 0) && ((x0.tuple.my == 0) && true)))) then
            k false
          else
          bif (x0.n == 0) then
            k true
          else
          k (x0.kind == 6)
        else
        bif (x0.n == 0) then
          k true
        else
        k (x0.kind == 6)
      else
      bif (!c1) then
        bif (!((x0.tuple.ip == 0) && ((x0.tuple.port == 0) && ((x0.tuple.my == 0) && true)))) then
          k false
        else
        bif (x0.n == 0) then
          k true
        else
        k (x0.kind == 6)
      else
      bif (x0.n == 0) then
        k true
      else
      k (x0.kind == 6)
    else
    bif c1 then
      letK (α := Bool) (i_TupleOk x0.tuple) fun c20 =>
      bif (!c20) then
        bif (!c20) then
          k false
        else
        bif (x0.n == 0) then
          k true
        else
        k (x0.kind == 6)
      else
      bif (!c1) then
        bif (!((x0.tuple.ip == 0) && ((x0.tuple.port == 0) && ((x0.tuple.my == 0) && true)))) then
          k false
        else
        bif (x0.n == 0) then
          k true
        else
        k (x0.kind == 6)
      else
      bif (x0.n == 0) then
        k true
      else
      k (x0.kind == 6)
    else
    bif (!c1) then
      bif (!((x0.tuple.ip == 0) && ((x0.tuple.port == 0) && ((x0.tuple.my == 0) && true)))) then
        k false
      else
      bif (x0.n == 0) then
        k true
      else
      k (x0.kind == 6)
    else
    bif (x0.n == 0) then
      k true
    else
    k (x0.kind == 6)
  else
  letK (α := Bool) (i_MacOk x0.mac) fun c21 =>
  bif (!c21) then
    bif (!c21) then
      k false
    else
    bif (!(x0.text == [])) then
      bif (x0.kind != 1) then
        bif (x0.kind != 5) then
          k false
        else
        bif (x0.kind != 3) then
          letK (α := Bool) (i_SameMac x0.mac (⟨false, 0, 0, []⟩ : Mac)) fun c22 =>
          bif (!c22) then
            k false
          else
          bif c1 then
            letK (α := Bool) (i_TupleOk x0.tuple) fun c23 =>
            bif (!c23) then
              bif (!c23) then
                k false
              else
              bif (x0.n == 0) then
                k true
              else
              k (x0.kind == 6)
            else
            bif (!c1) then
              bif (!((x0.tuple.ip == 0) && ((x0.tuple.port == 0) && ((x0.tuple.my == 0) && true)))) then
                k false
              else
              bif (x0.n == 0) then
                k true
              else
              k (x0.kind == 6)
            else
            bif (x0.n == 0) then
              k true
            else
            k (x0.kind == 6)
          else
          bif (!c1) then
            bif (!((x0.tuple.ip == 0) && ((x0.tuple.port == 0) && ((x0.tuple.my == 0) && true)))) then
              k false
            else
            bif (x0.n == 0) then
              k true
            else
            k (x0.kind == 6)
          else
          bif (x0.n == 0) then
            k true
          else
          k (x0.kind == 6)
        else
        bif c1 then
          letK (α := Bool) (i_TupleOk x0.tuple) fun c24 =>
          bif (!c24) then
            bif (!c24) then
              k false
            else
            bif (x0.n == 0) then
              k true
            else
            k (x0.kind == 6)
          else
          bif (!c1) then
            bif (!((x0.tuple.ip == 0) && ((x0.tuple.port == 0) && ((x0.tuple.my == 0) && true)))) then
              k false
            else
            bif (x0.n == 0) then
              k true
            else
            k (x0.kind == 6)
          else
          bif (x0.n == 0) then
            k true
          else
          k (x0.kind == 6)
        else
        bif (!c1) then
          bif (!((x0.tuple.ip == 0) && ((x0.tuple.port == 0) && ((x0.tuple.my == 0) && true)))) then
            k false
          else
          bif (x0.n == 0) then
            k true
          else
          k (x0.kind == 6)
        else
        bif (x0.n == 0) then
          k true
        else
        k (x0.kind == 6)
      else
      bif (x0.kind != 3) then
        letK (α := Bool) (i_SameMac x0.mac (⟨false, 0, 0, []⟩ : Mac)) fun c25 =>
        bif (!c25) then
          k false
        else
        bif c1 then
          letK (α := Bool) (i_TupleOk x0.tuple) fun c26 =>
          bif (!c26) then
            bif (!c26) then
              k false
            else
            bif (x0.n == 0) then
              k true
            else
            k (x0.kind == 6)
          else
          bif (!c1) then
            bif (!((x0.tuple.ip == 0) && ((x0.tuple.port == 0) && ((x0.tuple.my == 0) && true)))) then
              k false
            else
            bif (x0.n == 0) then
              k true
            else
            k (x0.kind == 6)
          else
          bif (x0.n == 0) then
            k true
          else
          k (x0.kind == 6)
        else
        bif (!c1) then
          bif (!((x0.tuple.ip == 0) && ((x0.tuple.port == 0) && ((x0.tuple.my == 0) && true)))) then
            k false
          else
          bif (x0.n == 0) then
            k true
          else
          k (x0.kind == 6)
        else
        bif (x0.n == 0) then
          k true
        else
        k (x0.kind == 6)
      else
      bif c1 then
        letK (α := Bool) (i_TupleOk x0.tuple) fun c27 =>
        bif (!c27) then
          bif (!c27) then
            k false
          else
          bif (x0.n == 0) then
            k true
          else
          k (x0.kind == 6)
        else
        bif (!c1) then
          bif (!((x0.tuple.ip == 0) && ((x0.tuple.port == 0) && ((x0.tuple.my == 0) && true)))) then
            k false
          else
          bif (x0.n == 0) then
            k true
          else
          k (x0.kind == 6)
        else
        bif (x0.n == 0) then
          k true
        else
        k (x0.kind == 6)
      else
      bif (!c1) then
        bif (!((x0.tuple.ip == 0) && ((x0.tuple.port == 0) && ((x0.tuple.my == 0) && true)))) then
          k false
        else
        bif (x0.n == 0) then
          k true
        else
        k (x0.kind == 6)
      else
      bif (x0.n == 0) then
        k true
      else
      k (x0.kind == 6)
    else
    bif (x0.kind != 3) then
      letK (α := Bool) (i_SameMac x0.mac (⟨false, 0, 0, []⟩ : Mac)) fun c28 =>
      bif (!c28) then
        k false
      else
      bif c1 then
        letK (α := Bool) (i_TupleOk x0.tuple) fun c29 =>
        bif (!c29) then
          bif (!c29) then
            k false
          else
          bif (x0.n == 0) then
            k true
          else
          k (x0.kind == 6)
        else
        bif (!c1) then
          bif (!((x0.tuple.ip == 0) && ((x0.tuple.port == 0) && ((x0.tuple.my == 0) && true)))) then
            k false
          else
          bif (x0.n == 0) then
            k true
          else
          k (x0.kind == 6)
        else
        bif (x0.n == 0) then
          k true
        else
        k (x0.kind == 6)
      else
      bif (!c1) then
        bif (!((x0.tuple.ip == 0) && ((x0.tuple.port == 0) && ((x0.tuple.my == 0) && true)))) then
          k false
        else
        bif (x0.n == 0) then
          k true
        else
        k (x0.kind == 6)
      else
      bif (x0.n == 0) then
        k true
      else
      k (x0.kind == 6)
    else
    bif c1 then
      letK (α := Bool) (i_TupleOk x0.tuple) fun c30 =>
      bif (!c30) then
        bif (!c30) then
          k false
        else
        bif (x0.n == 0) then
          k true
        else
        k (x0.kind == 6)
      else
      bif (!c1) then
        bif (!((x0.tuple.ip == 0) && ((x0.tuple.port == 0) && ((x0.tuple.my == 0) && true)))) then
          k false
        else
        bif (x0.n == 0) then
          k true
        else
        k (x0.kind == 6)
      else
      bif (x0.n == 0) then
        k true
      else
      k (x0.kind == 6)
    else
    bif (!c1) then
      bif (!((x0.tuple.ip == 0) && ((x0.tuple.port == 0) && ((x0.tuple.my == 0) && true)))) then
        k false
      else
      bif (x0.n == 0) then
        k true
      else
      k (x0.kind == 6)
    else
    bif (x0.n == 0) then
      k true
    else
    k (x0.kind == 6)
  else
  letK (α := Bool) (i_within x0.n 0 65535) fun c31 =>
  bif (!c31) then
    k false
  else
  bif (!(x0.text == [])) then
    bif (x0.kind != 1) then
      bif (x0.kind != 5) then
        k false
      else
      bif (x0.kind != 3) then
        letK (α := Bool) (i_SameMac x0.mac (⟨false, 0, 0, []⟩ : Mac)) fun c32 =>
        bif (!c32) then
          k false
        else
        bif c1 then
          letK (α := Bool) (i_TupleOk x0.tuple) fun c33 =>
          bif (!c33) then
            bif (!c33) then
              k false
            else
            bif (x0.n == 0) then
              k true
            else
            k (x0.kind == 6)
          else
          bif (!c1) then
            bif (!((x0.tuple.ip == 0) && ((x0.tuple.port == 0) && ((x0.tuple.my == 0) && true)))) then
              k false
            else
            bif (x0.n == 0) then
              k true
            else
            k (x0.kind == 6)
          else
          bif (x0.n == 0) then
            k true
          else
          k (x0.kind == 6)
        else
        bif (!c1) then
          bif (!((x0.tuple.ip == 0) && ((x0.tuple.port == 0) && ((x0.tuple.my == 0) && true)))) then
            k false
          else
          bif (x0.n == 0) then
            k true
          else
          k (x0.kind == 6)
        else
        bif (x0.n == 0) then
          k true
        else
        k (x0.kind == 6)
      else
      bif c1 then
        letK (α := Bool) (i_TupleOk x0.tuple) fun c34 =>
        bif (!c34) then
          bif (!c34) then
            k false
          else
          bif (x0.n == 0) then
            k true
          else
          k (x0.kind == 6)
        else
        bif (!c1) then
          bif (!((x0.tuple.ip == 0) && ((x0.tuple.port == 0) && ((x0.tuple.my == 0) && true)))) then
            k false
          else
          bif (x0.n == 0) then
            k true
          else
          k (x0.kind == 6)
        else
        bif (x0.n == 0) then
          k true
        else
        k (x0.kind == 6)
      else
      bif (!c1) then
        bif (!((x0.tuple.ip == 0) && ((x0.tuple.port == 0) && ((x0.tuple.my == 0) && true)))) then
          k false
        else
        bif (x0.n == 0) then
          k true
        else
        k (x0.kind == 6)
      else
      bif (x0.n == 0) then
        k true
      else
      k (x0.kind == 6)
    else
    bif (x0.kind != 3) then
      letK (α := Bool) (i_SameMac x0.mac (⟨false, 0, 0, []⟩ : Mac)) fun c35 =>
      bif (!c35) then
        k false
      else
      bif c1 then
        letK (α := Bool) (i_TupleOk x0.tuple) fun c36 =>
        bif (!c36) then
          bif (!c36) then
            k false
          else
          bif (x0.n == 0) then
            k true
          else
          k (x0.kind == 6)
        else
        bif (!c1) then
          bif (!((x0.tuple.ip == 0) && ((x0.tuple.port == 0) && ((x0.tuple.my == 0) && true)))) then
            k false
          else
          bif (x0.n == 0) then
            k true
          else
          k (x0.kind == 6)
        else
        bif (x0.n == 0) then
          k true
        else
        k (x0.kind == 6)
      else
      bif (!c1) then
        bif (!((x0.tuple.ip == 0) && ((x0.tuple.port == 0) && ((x0.tuple.my == 0) && true)))) then
          k false
        else
        bif (x0.n == 0) then
          k true
        else
        k (x0.kind == 6)
      else
      bif (x0.n == 0) then
        k true
      else
      k (x0.kind == 6)
    else
    bif c1 then
      letK (α := Bool) (i_TupleOk x0.tuple) fun c37 =>
      bif (!c37) then
        bif (!c37) then
          k false
        else
        bif (x0.n == 0) then
          k true
        else
        k (x0.kind == 6)
      else
      bif (!c1) then
        bif (!((x0.tuple.ip == 0) && ((x0.tuple.port == 0) && ((x0.tuple.my == 0) && true)))) then
          k false
        else
        bif (x0.n == 0) then
          k true
        else
        k (x0.kind == 6)
      else
      bif (x0.n == 0) then
        k true
      else
      k (x0.kind == 6)
    else
    bif (!c1) then
      bif (!((x0.tuple.ip == 0) && ((x0.tuple.port == 0) && ((x0.tuple.my == 0) && true)))) then
        k false
      else
      bif (x0.n == 0) then
        k true
      else
      k (x0.kind == 6)
    else
    bif (x0.n == 0) then
      k true
    else
    k (x0.kind == 6)
  else
  bif (x0.kind != 3) then
    letK (α := Bool) (i_SameMac x0.mac (⟨false, 0, 0, []⟩ : Mac)) fun c38 =>
    bif (!c38) then
      k false
    else
    bif c1 then
      letK (α := Bool) (i_TupleOk x0.tuple) fun c39 =>
      bif (!c39) then
        bif (!c39) then
          k false
        else
        bif (x0.n == 0) then
          k true
        else
        k (x0.kind == 6)
      else
      bif (!c1) then
        bif (!((x0.tuple.ip == 0) && ((x0.tuple.port == 0) && ((x0.tuple.my == 0) && true)))) then
          k false
        else
        bif (x0.n == 0) then
          k true
        else
        k (x0.kind == 6)
      else
      bif (x0.n == 0) then
        k true
      else
      k (x0.kind == 6)
    else
    bif (!c1) then
      bif (!((x0.tuple.ip == 0) && ((x0.tuple.port == 0) && ((x0.tuple.my == 0) && true)))) then
        k false
      else
      bif (x0.n == 0) then
        k true
      else
      k (x0.kind == 6)
    else
    bif (x0.n == 0) then
      k true
    else
    k (x0.kind == 6)
  else
  bif c1 then
    letK (α := Bool) (i_TupleOk x0.tuple) fun c40 =>
    bif (!c40) then
      bif (!c40) then
        k false
      else
      bif (x0.n == 0) then
        k true
      else
      k (x0.kind == 6)
    else
    bif (!c1) then
      bif (!((x0.tuple.ip == 0) && ((x0.tuple.port == 0) && ((x0.tuple.my == 0) && true)))) then
        k false
      else
      bif (x0.n == 0) then
        k true
      else
      k (x0.kind == 6)
    else
    bif (x0.n == 0) then
      k true
    else
    k (x0.kind == 6)
  else
  bif (!c1) then
    bif (!((x0.tuple.ip == 0) && ((x0.tuple.port == 0) && ((x0.tuple.my == 0) && true)))) then
      k false
    else
    bif (x0.n == 0) then
      k true
    else
    k (x0.kind == 6)
  else
  bif (x0.n == 0) then
    k true
  else
  k (x0.kind == 6)
def i_ActOk (x0 : Acti) : Bool :=
  letK (α := Bool) (i_within x0.kind 5 8) fun c1 =>
  letK (α := Bool) (i_within x0.kind 1 8) fun c2 =>
  bif (!c2) then
    bif (!c2) then
      false
    else
    bif (!(x0.text == [])) then
      bif (x0.kind != 1) then
        bif (x0.kind != 5) then
          false
        else
        bif (x0.kind != 3) then
          letK (α := Bool) (i_SameMac x0.mac (⟨false, 0, 0, []⟩ : Mac)) fun c3 =>
          bif (!c3) then
            false
          else
          bif c1 then
            letK (α := Bool) (i_TupleOk x0.tuple) fun c4 =>
            bif (!c4) then
              bif (!c4) then
                false
              else
              bif (x0.n == 0) then
                true
              else
              (x0.kind == 6)
            else
            bif (!c1) then
              bif (!((x0.tuple.ip == 0) && ((x0.tuple.port == 0) && ((x0.tuple.my == 0) && true)))) then
                false
              else
              bif (x0.n == 0) then
                true
              else
              (x0.kind == 6)
            else
            bif (x0.n == 0) then
              true
            else
            (x0.kind == 6)
          else
          bif (!c1) then
            bif (!((x0.tuple.ip == 0) && ((x0.tuple.port == 0) && ((x0.tuple.my == 0) && true)))) then
              false
            else
            bif (x0.n == 0) then
              true
            else
            (x0.kind == 6)
          else
          bif (x0.n == 0) then
            true
          else
          (x0.kind == 6)
        else
        bif c1 then
          letK (α := Bool) (i_TupleOk x0.tuple) fun c5 =>
          bif (!c5) then
            bif (!c5) then
              false
            else
            bif (x0.n == 0) then
              true
            else
            (x0.kind == 6)
          else
          bif (!c1) then
            bif (!((x0.tuple.ip == 0) && ((x0.tuple.port == 0) && ((x0.tuple.my == 0) && true)))) then
              false
            else
            bif (x0.n == 0) then
              true
            else
            (x0.kind == 6)
          else
          bif (x0.n == 0) then
            true
          else
          (x0.kind == 6)
        else
        bif (!c1) then
          bif (!((x0.tuple.ip == 0) && ((x0.tuple.port == 0) && ((x0.tuple.my == 0) && true)))) then
            false
          else
          bif (x0.n == 0) then
            true
          else
          (x0.kind == 6)
        else
        bif (x0.n == 0) then
          true
        else
        (x0.kind == 6)
      else
      bif (x0.kind != 3) then
        letK (α := Bool) (i_SameMac x0.mac (⟨false, 0, 0, []⟩ : Mac)) fun c6 =>
        bif (!c6) then
          false
        else
        bif c1 then
          letK (α := Bool) (i_TupleOk x0.tuple) fun c7 =>
          bif (!c7) then
            bif (!c7) then
              false
            else
            bif (x0.n == 0) then
              true
            else
            (x0.kind == 6)
          else
          bif (!c1) then
            bif (!((x0.tuple.ip == 0) && ((x0.tuple.port == 0) && ((x0.tuple.my == 0) && true)))) then
              false
            else
            bif (x0.n == 0) then
              true
            else
            (x0.kind == 6)
          else
          bif (x0.n == 0) then
            true
          else
          (x0.kind == 6)
        else
        bif (!c1) then
          bif (!((x0.tuple.ip == 0) && ((x0.tuple.port == 0) && ((x0.tuple.my == 0) && true)))) then
            false
          else
          bif (x0.n == 0) then
            true
          else
          (x0.kind == 6)
        else
        bif (x0.n == 0) then
          true
        else
        (x0.kind == 6)
      else
      bif c1 then
        letK (α := Bool) (i_TupleOk x0.tuple) fun c8 =>
        bif (!c8) then
          bif (!c8) then
            false
          else
          bif (x0.n == 0) then
            true
          else
          (x0.kind == 6)
        else
        bif (!c1) then
          bif (!((x0.tuple.ip == 0) && ((x0.tuple.port == 0) && ((x0.tuple.my == 0) && true)))) then
            false
          else
          bif (x0.n == 0) then
            true
          else
          (x0.kind == 6)
        else
        bif (x0.n == 0) then
          true
        else
        (x0.kind == 6)
      else
      bif (!c1) then
        bif (!((x0.tuple.ip == 0) && ((x0.tuple.port == 0) && ((x0.tuple.my == 0) && true)))) then
          false
        else
        bif (x0.n == 0) then
          true
        else
        (x0.kind == 6)
      else
      bif (x0.n == 0) then
        true
      else
      (x0.kind == 6)
    else
    bif (x0.kind != 3) then
      letK (α := Bool) (i_SameMac x0.mac (⟨false, 0, 0, []⟩ : Mac)) fun c9 =>
      bif (!c9) then
        false
      else
      bif c1 then
        letK (α := Bool) (i_TupleOk x0.tuple) fun c10 =>
        bif (!c10) then
          bif (!c10) then
            false
          else
          bif (x0.n == 0) then
            true
          else
          (x0.kind == 6)
        else
        bif (!c1) then
          bif (!((x0.tuple.ip == 0) && ((x0.tuple.port == 0) && ((x0.tuple.my == 0) && true)))) then
            false
          else
          bif (x0.n == 0) then
            true
          else
          (x0.kind == 6)
        else
        bif (x0.n == 0) then
          true
        else
        (x0.kind == 6)
      else
      bif (!c1) then
        bif (!((x0.tuple.ip == 0) && ((x0.tuple.port == 0) && ((x0.tuple.my == 0) && true)))) then
          false
        else
        bif (x0.n == 0) then
          true
        else
        (x0.kind == 6)
      else
      bif (x0.n == 0) then
        true
      else
      (x0.kind == 6)
    else
    bif c1 then
      letK (α := Bool) (i_TupleOk x0.tuple) fun c11 =>
      bif (!c11) then
        bif (!c11) then
          false
        else
        bif (x0.n == 0) then
          true
        else
        (x0.kind == 6)
      else
      bif (!c1) then
        bif (!((x0.tuple.ip == 0) && ((x0.tuple.port == 0) && ((x0.tuple.my == 0) && true)))) then
          false
        else
        bif (x0.n == 0) then
          true
        else
        (x0.kind == 6)
      else
      bif (x0.n == 0) then
        true
      else
      (x0.kind == 6)
    else
    bif (!c1) then
      bif (!((x0.tuple.ip == 0) && ((x0.tuple.port == 0) && ((x0.tuple.my == 0) && true)))) then
        false
      else
      bif (x0.n == 0) then
        true
      else
      (x0.kind == 6)
    else
    bif (x0.n == 0) then
      true
    else
    (x0.kind == 6)
  else
  bif (decide (1600 < (x0.text.length : Int))) then
    bif (decide (1600 < (x0.text.length : Int))) then
      false
    else
    bif (!(x0.text == [])) then
      bif (x0.kind != 1) then
        bif (x0.kind != 5) then
          false
        else
        bif (x0.kind != 3) then
          letK (α := Bool) (i_SameMac x0.mac (⟨false, 0, 0, []⟩ : Mac)) fun c12 =>
          bif (!c12) then
            false
          else
          bif c1 then
            letK (α := Bool) (i_TupleOk x0.tuple) fun c13 =>
            bif (!c13) then
              bif (!c13) then
                false
              else
              bif (x0.n == 0) then
                true
              else
              (x0.kind == 6)
            else
            bif (!c1) then
              bif (!((x0.tuple.ip == 0) && ((x0.tuple.port == 0) && ((x0.tuple.my == 0) && true)))) then
                false
              else
              bif (x0.n == 0) then
                true
              else
              (x0.kind == 6)
            else
            bif (x0.n == 0) then
              true
            else
            (x0.kind == 6)
          else
          bif (!c1) then
            bif (!((x0.tuple.ip == 0) && ((x0.tuple.port == 0) && ((x0.tuple.my == 0) && true)))) then
              false
            else
            bif (x0.n == 0) then
              true
            else
            (x0.kind == 6)
          else
          bif (x0.n == 0) then
            true
          else
          (x0.kind == 6)
        else
        bif c1 then
          letK (α := Bool) (i_TupleOk x0.tuple) fun c14 =>
          bif (!c14) then
            bif (!c14) then
              false
            else
            bif (x0.n == 0) then
              true
            else
            (x0.kind == 6)
          else
          bif (!c1) then
            bif (!((x0.tuple.ip == 0) && ((x0.tuple.port == 0) && ((x0.tuple.my == 0) && true)))) then
              false
            else
            bif (x0.n == 0) then
              true
            else
            (x0.kind == 6)
          else
          bif (x0.n == 0) then
            true
          else
          (x0.kind == 6)
        else
        bif (!c1) then
          bif (!((x0.tuple.ip == 0) && ((x0.tuple.port == 0) && ((x0.tuple.my == 0) && true)))) then
            false
          else
          bif (x0.n == 0) then
            true
          else
          (x0.kind == 6)
        else
        bif (x0.n == 0) then
          true
        else
        (x0.kind == 6)
      else
      bif (x0.kind != 3) then
        letK (α := Bool) (i_SameMac x0.mac (⟨false, 0, 0, []⟩ : Mac)) fun c15 =>
        bif (!c15) then
          false
        else
        bif c1 then
          letK (α := Bool) (i_TupleOk x0.tuple) fun c16 =>
          bif (!c16) then
            bif (!c16) then
              false
            else
            bif (x0.n == 0) then
              true
            else
            (x0.kind == 6)
          else
          bif (!c1) then
            bif (!((x0.tuple.ip == 0) && ((x0.tuple.port == 0) && ((x0.tuple.my == 0) && true)))) then
              false
            else
            bif (x0.n == 0) then
              true
            else
            (x0.kind == 6)
          else
          bif (x0.n == 0) then
            true
          else
          (x0.kind == 6)
        else
        bif (!c1) then
          bif (!((x0.tuple.ip == 0) && ((x0.tuple.port == 0) && ((x0.tuple.my == 0) && true)))) then
            false
          else
          bif (x0.n == 0) then
            true
          else
          (x0.kind == 6)
        else
        bif (x0.n == 0) then
          true
        else
        (x0.kind == 6)
      else
      bif c1 then
        letK (α := Bool) (i_TupleOk x0.tuple) fun c17 =>
        bif (!c17) then
          bif (!c17) then
            false
          else
          bif (x0.n == 0) then
            true
          else
          (x0.kind == 6)
        else
        bif (!c1) then
          bif (!((x0.tuple.ip == 0) && ((x0.tuple.port == 0) && ((x0.tuple.my == 0) && true)))) then
            false
          else
          bif (x0.n == 0) then
            true
          else
          (x0.kind == 6)
        else
        bif (x0.n == 0) then
          true
        else
        (x0.kind == 6)
      else
      bif (!c1) then
        bif (!((x0.tuple.ip == 0) && ((x0.tuple.port == 0) && ((x0.tuple.my == 0) && true)))) then
          false
        else
        bif (x0.n == 0) then
          true
        else
        (x0.kind == 6)
      else
      bif (x0.n == 0) then
        true
      else
      (x0.kind == 6)
    else
    bif (x0.kind != 3) then
      letK (α := Bool) (i_SameMac x0.mac (⟨false, 0, 0, []⟩ : Mac)) fun c18 =>
      bif (!c18) then
        false
      else
      bif c1 then
        letK (α := Bool) (i_TupleOk x0.tuple) fun c19 =>
        bif (!c19) then
          bif (!c19) then
            false
          else
          bif (x0.n == 0) then
            true
          else
          (x0.kind == 6)
        else
        bif (!c1) then
          bif (!((x0.tuple.ip == 0) && ((x0.tuple.port == 0) && ((x0.tuple.my == 0) && true)))) then
            false
          else
          bif (x0.n == 0) then
            true
          else
          (x0.kind == 6)
        else
        bif (x0.n == 0) then
          true
        else
        (x0.kind == 6)
      else
      bif (!c1) then
        bif (!((x0.tuple.ip == 0) && ((x0.tuple.port == 0) && ((x0.tuple.my == 0) && true)))) then
          false
        else
        bif (x0.n == 0) then
          true
        else
        (x0.kind == 6)
      else
      bif (x0.n == 0) then
        true
      else
      (x0.kind == 6)
    else
    bif c1 then
      letK (α := Bool) (i_TupleOk x0.tuple) fun c20 =>
      bif (!c20) then
        bif (!c20) then
          false
        else
        bif (x0.n == 0) then
          true
        else
        (x0.kind == 6)
      else
      bif (!c1) then
        bif (!((x0.tuple.ip == 0) && ((x0.tuple.port == 0) && ((x0.tuple.my == 0) && true)))) then
          false
        else
        bif (x0.n == 0) then
          true
        else
        (x0.kind == 6)
      else
      bif (x0.n == 0) then
        true
      else
      (x0.kind == 6)
    else
    bif (!c1) then
      bif (!((x0.tuple.ip == 0) && ((x0.tuple.port == 0) && ((x0.tuple.my == 0) && true)))) then
        false
      else
      bif (x0.n == 0) then
        true
      else
      (x0.kind == 6)
    else
    bif (x0.n == 0) then
      true
    else
    (x0.kind == 6)
  else
  letK (α := Bool) (i_MacOk x0.mac) fun c21 =>
  bif (!c21) then
    bif (!c21) then
      false
    else
    bif (!(x0.text == [])) then
      bif (x0.kind != 1) then
        bif (x0.kind != 5) then
          false
        else
        bif (x0.kind != 3) then
          letK (α := Bool) (i_SameMac x0.mac (⟨false, 0, 0, []⟩ : Mac)) fun c22 =>
          bif (!c22) then
            false
          else
          bif c1 then
            letK (α := Bool) (i_TupleOk x0.tuple) fun c23 =>
            bif (!c23) then
              bif (!c23) then
                false
              else
              bif (x0.n == 0) then
                true
              else
              (x0.kind == 6)
            else
            bif (!c1) then
              bif (!((x0.tuple.ip == 0) && ((x0.tuple.port == 0) && ((x0.tuple.my == 0) && true)))) then
                false
              else
              bif (x0.n == 0) then
                true
              else
              (x0.kind == 6)
            else
            bif (x0.n == 0) then
              true
            else
            (x0.kind == 6)
          else
          bif (!c1) then
            bif (!((x0.tuple.ip == 0) && ((x0.tuple.port == 0) && ((x0.tuple.my == 0) && true)))) then
              false
            else
            bif (x0.n == 0) then
              true
            else
            (x0.kind == 6)
          else
          bif (x0.n == 0) then
            true
          else
          (x0.kind == 6)
        else
        bif c1 then
          letK (α := Bool) (i_TupleOk x0.tuple) fun c24 =>
          bif (!c24) then
            bif (!c24) then
              false
            else
            bif (x0.n == 0) then
              true
            else
            (x0.kind == 6)
          else
          bif (!c1) then
            bif (!((x0.tuple.ip == 0) && ((x0.tuple.port == 0) && ((x0.tuple.my == 0) && true)))) then
              false
            else
            bif (x0.n == 0) then
              true
            else
            (x0.kind == 6)
          else
          bif (x0.n == 0) then
            true
          else
          (x0.kind == 6)
        else
        bif (!c1) then
          bif (!((x0.tuple.ip == 0) && ((x0.tuple.port == 0) && ((x0.tuple.my == 0) && true)))) then
            false
          else
          bif (x0.n == 0) then
            true
          else
          (x0.kind == 6)
        else
        bif (x0.n == 0) then
          true
        else
        (x0.kind == 6)
      else
      bif (x0.kind != 3) then
        letK (α := Bool) (i_SameMac x0.mac (⟨false, 0, 0, []⟩ : Mac)) fun c25 =>
        bif (!c25) then
          false
        else
        bif c1 then
          letK (α := Bool) (i_TupleOk x0.tuple) fun c26 =>
          bif (!c26) then
            bif (!c26) then
              false
            else
            bif (x0.n == 0) then
              true
            else
            (x0.kind == 6)
          else
          bif (!c1) then
            bif (!((x0.tuple.ip == 0) && ((x0.tuple.port == 0) && ((x0.tuple.my == 0) && true)))) then
              false
            else
            bif (x0.n == 0) then
              true
            else
            (x0.kind == 6)
          else
          bif (x0.n == 0) then
            true
          else
          (x0.kind == 6)
        else
        bif (!c1) then
          bif (!((x0.tuple.ip == 0) && ((x0.tuple.port == 0) && ((x0.tuple.my == 0) && true)))) then
            false
          else
          bif (x0.n == 0) then
            true
          else
          (x0.kind == 6)
        else
        bif (x0.n == 0) then
          true
        else
        (x0.kind == 6)
      else
      bif c1 then
        letK (α := Bool) (i_TupleOk x0.tuple) fun c27 =>
        bif (!c27) then
          bif (!c27) then
            false
          else
          bif (x0.n == 0) then
            true
          else
          (x0.kind == 6)
        else
        bif (!c1) then
          bif (!((x0.tuple.ip == 0) && ((x0.tuple.port == 0) && ((x0.tuple.my == 0) && true)))) then
            false
          else
          bif (x0.n == 0) then
            true
          else
          (x0.kind == 6)
        else
        bif (x0.n == 0) then
          true
        else
        (x0.kind == 6)
      else
      bif (!c1) then
        bif (!((x0.tuple.ip == 0) && ((x0.tuple.port == 0) && ((x0.tuple.my == 0) && true)))) then
          false
        else
        bif (x0.n == 0) then
          true
        else
        (x0.kind == 6)
      else
      bif (x0.n == 0) then
        true
      else
      (x0.kind == 6)
    else
    bif (x0.kind != 3) then
      letK (α := Bool) (i_SameMac x0.mac (⟨false, 0, 0, []⟩ : Mac)) fun c28 =>
      bif (!c28) then
        false
      else
      bif c1 then
        letK (α := Bool) (i_TupleOk x0.tuple) fun c29 =>
        bif (!c29) then
          bif (!c29) then
            false
          else
          bif (x0.n == 0) then
            true
          else
          (x0.kind == 6)
        else
        bif (!c1) then
          bif (!((x0.tuple.ip == 0) && ((x0.tuple.port == 0) && ((x0.tuple.my == 0) && true)))) then
            false
          else
          bif (x0.n == 0) then
            true
          else
          (x0.kind == 6)
        else
        bif (x0.n == 0) then
          true
        else
        (x0.kind == 6)
      else
      bif (!c1) then
        bif (!((x0.tuple.ip == 0) && ((x0.tuple.port == 0) && ((x0.tuple.my == 0) && true)))) then
          false
        else
        bif (x0.n == 0) then
          true
        else
        (x0.kind == 6)
      else
      bif (x0.n == 0) then
        true
      else
      (x0.kind == 6)
    else
    bif c1 then
      letK (α := Bool) (i_TupleOk x0.tuple) fun c30 =>
      bif (!c30) then
        bif (!c30) then
          false
        else
        bif (x0.n == 0) then
          true
        else
        (x0.kind == 6)
      else
      bif (!c1) then
        bif (!((x0.tuple.ip == 0) && ((x0.tuple.port == 0) && ((x0.tuple.my == 0) && true)))) then
          false
        else
        bif (x0.n == 0) then
          true
        else
        (x0.kind == 6)
      else
      bif (x0.n == 0) then
        true
      else
      (x0.kind == 6)
    else
    bif (!c1) then
      bif (!((x0.tuple.ip == 0) && ((x0.tuple.port == 0) && ((x0.tuple.my == 0) && true)))) then
        false
      else
      bif (x0.n == 0) then
        true
      else
      (x0.kind == 6)
    else
    bif (x0.n == 0) then
      true
    else
    (x0.kind == 6)
  else
  letK (α := Bool) (i_within x0.n 0 65535) fun c31 =>
  bif (!c31) then
    false
  else
  bif (!(x0.text == [])) then
    bif (x0.kind != 1) then
      bif (x0.kind != 5) then
        false
      else
      bif (x0.kind != 3) then
        letK (α := Bool) (i_SameMac x0.mac (⟨false, 0, 0, []⟩ : Mac)) fun c32 =>
        bif (!c32) then
          false
        else
        bif c1 then
          letK (α := Bool) (i_TupleOk x0.tuple) fun c33 =>
          bif (!c33) then
            bif (!c33) then
              false
            else
            bif (x0.n == 0) then
              true
            else
            (x0.kind == 6)
          else
          bif (!c1) then
            bif (!((x0.tuple.ip == 0) && ((x0.tuple.port == 0) && ((x0.tuple.my == 0) && true)))) then
              false
            else
            bif (x0.n == 0) then
              true
            else
            (x0.kind == 6)
          else
          bif (x0.n == 0) then
            true
          else
          (x0.kind == 6)
        else
        bif (!c1) then
          bif (!((x0.tuple.ip == 0) && ((x0.tuple.port == 0) && ((x0.tuple.my == 0) && true)))) then
            false
          else
          bif (x0.n == 0) then
            true
          else
          (x0.kind == 6)
        else
        bif (x0.n == 0) then
          true
        else
        (x0.kind == 6)
      else
      bif c1 then
        letK (α := Bool) (i_TupleOk x0.tuple) fun c34 =>
        bif (!c34) then
          bif (!c34) then
            false
          else
          bif (x0.n == 0) then
            true
          else
          (x0.kind == 6)
        else
        bif (!c1) then
          bif (!((x0.tuple.ip == 0) && ((x0.tuple.port == 0) && ((x0.tuple.my == 0) && true)))) then
            false
          else
          bif (x0.n == 0) then
            true
          else
          (x0.kind == 6)
        else
        bif (x0.n == 0) then
          true
        else
        (x0.kind == 6)
      else
      bif (!c1) then
        bif (!((x0.tuple.ip == 0) && ((x0.tuple.port == 0) && ((x0.tuple.my == 0) && true)))) then
          false
        else
        bif (x0.n == 0) then
          true
        else
        (x0.kind == 6)
      else
      bif (x0.n == 0) then
        true
      else
      (x0.kind == 6)
    else
    bif (x0.kind != 3) then
      letK (α := Bool) (i_SameMac x0.mac (⟨false, 0, 0, []⟩ : Mac)) fun c35 =>
      bif (!c35) then
        false
      else
      bif c1 then
        letK (α := Bool) (i_TupleOk x0.tuple) fun c36 =>
        bif (!c36) then
          bif (!c36) then
            false
          else
          bif (x0.n == 0) then
            true
          else
          (x0.kind == 6)
        else
        bif (!c1) then
          bif (!((x0.tuple.ip == 0) && ((x0.tuple.port == 0) && ((x0.tuple.my == 0) && true)))) then
            false
          else
          bif (x0.n == 0) then
            true
          else
          (x0.kind == 6)
        else
        bif (x0.n == 0) then
          true
        else
        (x0.kind == 6)
      else
      bif (!c1) then
        bif (!((x0.tuple.ip == 0) && ((x0.tuple.port == 0) && ((x0.tuple.my == 0) && true)))) then
          false
        else
        bif (x0.n == 0) then
          true
        else
        (x0.kind == 6)
      else
      bif (x0.n == 0) then
        true
      else
      (x0.kind == 6)
    else
    bif c1 then
      letK (α := Bool) (i_TupleOk x0.tuple) fun c37 =>
      bif (!c37) then
        bif (!c37) then
          false
        else
        bif (x0.n == 0) then
          true
        else
        (x0.kind == 6)
      else
      bif (!c1) then
        bif (!((x0.tuple.ip == 0) && ((x0.tuple.port == 0) && ((x0.tuple.my == 0) && true)))) then
          false
        else
        bif (x0.n == 0) then
          true
        else
        (x0.kind == 6)
      else
      bif (x0.n == 0) then
        true
      else
      (x0.kind == 6)
    else
    bif (!c1) then
      bif (!((x0.tuple.ip == 0) && ((x0.tuple.port == 0) && ((x0.tuple.my == 0) && true)))) then
        false
      else
      bif (x0.n == 0) then
        true
      else
      (x0.kind == 6)
    else
    bif (x0.n == 0) then
      true
    else
    (x0.kind == 6)
  else
  bif (x0.kind != 3) then
    letK (α := Bool) (i_SameMac x0.mac (⟨false, 0, 0, []⟩ : Mac)) fun c38 =>
    bif (!c38) then
      false
    else
    bif c1 then
      letK (α := Bool) (i_TupleOk x0.tuple) fun c39 =>
      bif (!c39) then
        bif (!c39) then
          false
        else
        bif (x0.n == 0) then
          true
        else
        (x0.kind == 6)
      else
      bif (!c1) then
        bif (!((x0.tuple.ip == 0) && ((x0.tuple.port == 0) && ((x0.tuple.my == 0) && true)))) then
          false
        else
        bif (x0.n == 0) then
          true
        else
        (x0.kind == 6)
      else
      bif (x0.n == 0) then
        true
      else
      (x0.kind == 6)
    else
    bif (!c1) then
      bif (!((x0.tuple.ip == 0) && ((x0.tuple.port == 0) && ((x0.tuple.my == 0) && true)))) then
        false
      else
      bif (x0.n == 0) then
        true
      else
      (x0.kind == 6)
    else
    bif (x0.n == 0) then
      true
    else
    (x0.kind == 6)
  else
  bif c1 then
    letK (α := Bool) (i_TupleOk x0.tuple) fun c40 =>
    bif (!c40) then
      bif (!c40) then
        false
      else
      bif (x0.n == 0) then
        true
      else
      (x0.kind == 6)
    else
    bif (!c1) then
      bif (!((x0.tuple.ip == 0) && ((x0.tuple.port == 0) && ((x0.tuple.my == 0) && true)))) then
        false
      else
      bif (x0.n == 0) then
        true
      else
      (x0.kind == 6)
    else
    bif (x0.n == 0) then
      true
    else
    (x0.kind == 6)
  else
  bif (!c1) then
    bif (!((x0.tuple.ip == 0) && ((x0.tuple.port == 0) && ((x0.tuple.my == 0) && true)))) then
      false
    else
    bif (x0.n == 0) then
      true
    else
    (x0.kind == 6)
  else
  bif (x0.n == 0) then
    true
  else
  (x0.kind == 6)
theorem i_ActOk_lk (x0 : Acti) : evalFn te (orcOf (P := Try.prog) [i_within_e, i_MacOk_e, i_SameMac_e, i_TupleOk_e]) lorc0 [] Try.f39 (pvs [.st .acti] (x0, ())) =
  i_ActOk_N x0 _ none (fun v => some [(false, [RC.c (.bool v)])]) := by kernel_rfl
theorem i_ActOk_p (x0 : Acti)   (γ : Type) (fail : γ) (k : Bool → γ) : i_ActOk_N x0 γ fail k = k (i_ActOk x0) := by
  unfold i_ActOk_N i_ActOk
  exact letT (f := k) (fun c1 hc1 => letT (f := k) (fun c2 hc2 => bifT (f := k) (fun b0 => bifT (f := k) (fun b1 => rfl)
      (fun b1 => bifT (f := k) (fun b2 => bifT (f := k) (fun b3 => bifT (f := k) (fun b4 => rfl)
      (fun b4 => bifT (f := k) (fun b5 => letT (f := k) (fun c3 hc3 => bifT (f := k) (fun b6 => rfl)
      (fun b6 => bifT (f := k) (fun b7 => letT (f := k) (fun c4 hc4 => bifT (f := k) (fun b8 => bifT (f := k) (fun b9 => rfl)
      (fun b9 => bifT (f := k) (fun b10 => rfl)
      (fun b10 => rfl)))
      (fun b8 => bifT (f := k) (fun b9 => bifT (f := k) (fun b10 => rfl)
      (fun b10 => bifT (f := k) (fun b11 => rfl)
      (fun b11 => rfl)))
      (fun b9 => bifT (f := k) (fun b10 => rfl)
      (fun b10 => rfl)))))
      (fun b7 => bifT (f := k) (fun b8 => bifT (f := k) (fun b9 => rfl)
      (fun b9 => bifT (f := k) (fun b10 => rfl)
      (fun b10 => rfl)))
      (fun b8 => bifT (f := k) (fun b9 => rfl)
      (fun b9 => rfl))))))
      (fun b5 => bifT (f := k) (fun b6 => letT (f := k) (fun c5 hc5 => bifT (f := k) (fun b7 => bifT (f := k) (fun b8 => rfl)
      (fun b8 => bifT (f := k) (fun b9 => rfl)
      (fun b9 => rfl)))
      (fun b7 => bifT (f := k) (fun b8 => bifT (f := k) (fun b9 => rfl)
      (fun b9 => bifT (f := k) (fun b10 => rfl)
      (fun b10 => rfl)))
      (fun b8 => bifT (f := k) (fun b9 => rfl)
      (fun b9 => rfl)))))
      (fun b6 => bifT (f := k) (fun b7 => bifT (f := k) (fun b8 => rfl)
      (fun b8 => bifT (f := k) (fun b9 => rfl)
      (fun b9 => rfl)))
      (fun b7 => bifT (f := k) (fun b8 => rfl)
      (fun b8 => rfl))))))
      (fun b3 => bifT (f := k) (fun b4 => letT (f := k) (fun c6 hc6 => bifT (f := k) (fun b5 => rfl)
      (fun b5 => bifT (f := k) (fun b6 => letT (f := k) (fun c7 hc7 => bifT (f := k) (fun b7 => bifT (f := k) (fun b8 => rfl)
      (fun b8 => bifT (f := k) (fun b9 => rfl)
      (fun b9 => rfl)))
      (fun b7 => bifT (f := k) (fun b8 => bifT (f := k) (fun b9 => rfl)
      (fun b9 => bifT (f := k) (fun b10 => rfl)
      (fun b10 => rfl)))
      (fun b8 => bifT (f := k) (fun b9 => rfl)
      (fun b9 => rfl)))))
      (fun b6 => bifT (f := k) (fun b7 => bifT (f := k) (fun b8 => rfl)
      (fun b8 => bifT (f := k) (fun b9 => rfl)
      (fun b9 => rfl)))
      (fun b7 => bifT (f := k) (fun b8 => rfl)
      (fun b8 => rfl))))))
      (fun b4 => bifT (f := k) (fun b5 => letT (f := k) (fun c8 hc8 => bifT (f := k) (fun b6 => bifT (f := k) (fun b7 => rfl)
      (fun b7 => bifT (f := k) (fun b8 => rfl)
      (fun b8 => rfl)))
      (fun b6 => bifT (f := k) (fun b7 => bifT (f := k) (fun b8 => rfl)
      (fun b8 => bifT (f := k) (fun b9 => rfl)
      (fun b9 => rfl)))
      (fun b7 => bifT (f := k) (fun b8 => rfl)
      (fun b8 => rfl)))))
      (fun b5 => bifT (f := k) (fun b6 => bifT (f := k) (fun b7 => rfl)
      (fun b7 => bifT (f := k) (fun b8 => rfl)
      (fun b8 => rfl)))
      (fun b6 => bifT (f := k) (fun b7 => rfl)
      (fun b7 => rfl))))))
      (fun b2 => bifT (f := k) (fun b3 => letT (f := k) (fun c9 hc9 => bifT (f := k) (fun b4 => rfl)
      (fun b4 => bifT (f := k) (fun b5 => letT (f := k) (fun c10 hc10 => bifT (f := k) (fun b6 => bifT (f := k) (fun b7 => rfl)
      (fun b7 => bifT (f := k) (fun b8 => rfl)
      (fun b8 => rfl)))
      (fun b6 => bifT (f := k) (fun b7 => bifT (f := k) (fun b8 => rfl)
      (fun b8 => bifT (f := k) (fun b9 => rfl)
      (fun b9 => rfl)))
      (fun b7 => bifT (f := k) (fun b8 => rfl)
      (fun b8 => rfl)))))
      (fun b5 => bifT (f := k) (fun b6 => bifT (f := k) (fun b7 => rfl)
      (fun b7 => bifT (f := k) (fun b8 => rfl)
      (fun b8 => rfl)))
      (fun b6 => bifT (f := k) (fun b7 => rfl)
      (fun b7 => rfl))))))
      (fun b3 => bifT (f := k) (fun b4 => letT (f := k) (fun c11 hc11 => bifT (f := k) (fun b5 => bifT (f := k) (fun b6 => rfl)
      (fun b6 => bifT (f := k) (fun b7 => rfl)
      (fun b7 => rfl)))
      (fun b5 => bifT (f := k) (fun b6 => bifT (f := k) (fun b7 => rfl)
      (fun b7 => bifT (f := k) (fun b8 => rfl)
      (fun b8 => rfl)))
      (fun b6 => bifT (f := k) (fun b7 => rfl)
      (fun b7 => rfl)))))
      (fun b4 => bifT (f := k) (fun b5 => bifT (f := k) (fun b6 => rfl)
      (fun b6 => bifT (f := k) (fun b7 => rfl)
      (fun b7 => rfl)))
      (fun b5 => bifT (f := k) (fun b6 => rfl)
      (fun b6 => rfl)))))))
      (fun b0 => bifT (f := k) (fun b1 => bifT (f := k) (fun b2 => rfl)
      (fun b2 => bifT (f := k) (fun b3 => bifT (f := k) (fun b4 => bifT (f := k) (fun b5 => rfl)
      (fun b5 => bifT (f := k) (fun b6 => letT (f := k) (fun c12 hc12 => bifT (f := k) (fun b7 => rfl)
      (fun b7 => bifT (f := k) (fun b8 => letT (f := k) (fun c13 hc13 => bifT (f := k) (fun b9 => bifT (f := k) (fun b10 => rfl)
      (fun b10 => bifT (f := k) (fun b11 => rfl)
      (fun b11 => rfl)))
      (fun b9 => bifT (f := k) (fun b10 => bifT (f := k) (fun b11 => rfl)
      (fun b11 => bifT (f := k) (fun b12 => rfl)
      (fun b12 => rfl)))
      (fun b10 => bifT (f := k) (fun b11 => rfl)
      (fun b11 => rfl)))))
      (fun b8 => bifT (f := k) (fun b9 => bifT (f := k) (fun b10 => rfl)
      (fun b10 => bifT (f := k) (fun b11 => rfl)
      (fun b11 => rfl)))
      (fun b9 => bifT (f := k) (fun b10 => rfl)
      (fun b10 => rfl))))))
      (fun b6 => bifT (f := k) (fun b7 => letT (f := k) (fun c14 hc14 => bifT (f := k) (fun b8 => bifT (f := k) (fun b9 => rfl)
      (fun b9 => bifT (f := k) (fun b10 => rfl)
      (fun b10 => rfl)))
      (fun b8 => bifT (f := k) (fun b9 => bifT (f := k) (fun b10 => rfl)
      (fun b10 => bifT (f := k) (fun b11 => rfl)
      (fun b11 => rfl)))
      (fun b9 => bifT (f := k) (fun b10 => rfl)
      (fun b10 => rfl)))))
      (fun b7 => bifT (f := k) (fun b8 => bifT (f := k) (fun b9 => rfl)
      (fun b9 => bifT (f := k) (fun b10 => rfl)
      (fun b10 => rfl)))
      (fun b8 => bifT (f := k) (fun b9 => rfl)
      (fun b9 => rfl))))))
      (fun b4 => bifT (f := k) (fun b5 => letT (f := k) (fun c15 hc15 => bifT (f := k) (fun b6 => rfl)
      (fun b6 => bifT (f := k) (fun b7 => letT (f := k) (fun c16 hc16 => bifT (f := k) (fun b8 => bifT (f := k) (fun b9 => rfl)
      (fun b9 => bifT (f := k) (fun b10 => rfl)
      (fun b10 => rfl)))
      (fun b8 => bifT (f := k) (fun b9 => bifT (f := k) (fun b10 => rfl)
      (fun b10 => bifT (f := k) (fun b11 => rfl)
      (fun b11 => rfl)))
      (fun b9 => bifT (f := k) (fun b10 => rfl)
      (fun b10 => rfl)))))
      (fun b7 => bifT (f := k) (fun b8 => bifT (f := k) (fun b9 => rfl)
      (fun b9 => bifT (f := k) (fun b10 => rfl)
      (fun b10 => rfl)))
      (fun b8 => bifT (f := k) (fun b9 => rfl)
      (fun b9 => rfl))))))
      (fun b5 => bifT (f := k) (fun b6 => letT (f := k) (fun c17 hc17 => bifT (f := k) (fun b7 => bifT (f := k) (fun b8 => rfl)
      (fun b8 => bifT (f := k) (fun b9 => rfl)
      (fun b9 => rfl)))
      (fun b7 => bifT (f := k) (fun b8 => bifT (f := k) (fun b9 => rfl)
      (fun b9 => bifT (f := k) (fun b10 => rfl)
      (fun b10 => rfl)))
      (fun b8 => bifT (f := k) (fun b9 => rfl)
      (fun b9 => rfl)))))
      (fun b6 => bifT (f := k) (fun b7 => bifT (f := k) (fun b8 => rfl)
      (fun b8 => bifT (f := k) (fun b9 => rfl)
      (fun b9 => rfl)))
      (fun b7 => bifT (f := k) (fun b8 => rfl)
      (fun b8 => rfl))))))
      (fun b3 => bifT (f := k) (fun b4 => letT (f := k) (fun c18 hc18 => bifT (f := k) (fun b5 => rfl)
      (fun b5 => bifT (f := k) (fun b6 => letT (f := k) (fun c19 hc19 => bifT (f := k) (fun b7 => bifT (f := k) (fun b8 => rfl)
      (fun b8 => bifT (f := k) (fun b9 => rfl)
      (fun b9 => rfl)))
      (fun b7 => bifT (f := k) (fun b8 => bifT (f := k) (fun b9 => rfl)
      (fun b9 => bifT (f := k) (fun b10 => rfl)
      (fun b10 => rfl)))
      (fun b8 => bifT (f := k) (fun b9 => rfl)
      (fun b9 => rfl)))))
      (fun b6 => bifT (f := k) (fun b7 => bifT (f := k) (fun b8 => rfl)
      (fun b8 => bifT (f := k) (fun b9 => rfl)
      (fun b9 => rfl)))
      (fun b7 => bifT (f := k) (fun b8 => rfl)
      (fun b8 => rfl))))))
      (fun b4 => bifT (f := k) (fun b5 => letT (f := k) (fun c20 hc20 => bifT (f := k) (fun b6 => bifT (f := k) (fun b7 => rfl)
      (fun b7 => bifT (f := k) (fun b8 => rfl)
      (fun b8 => rfl)))
      (fun b6 => bifT (f := k) (fun b7 => bifT (f := k) (fun b8 => rfl)
      (fun b8 => bifT (f := k) (fun b9 => rfl)
      (fun b9 => rfl)))
      (fun b7 => bifT (f := k) (fun b8 => rfl)
      (fun b8 => rfl)))))
      (fun b5 => bifT (f := k) (fun b6 => bifT (f := k) (fun b7 => rfl)
      (fun b7 => bifT (f := k) (fun b8 => rfl)
      (fun b8 => rfl)))
      (fun b6 => bifT (f := k) (fun b7 => rfl)
      (fun b7 => rfl)))))))
      (fun b1 => letT (f := k) (fun c21 hc21 => bifT (f := k) (fun b2 => bifT (f := k) (fun b3 => rfl)
      (fun b3 => bifT (f := k) (fun b4 => bifT (f := k) (fun b5 => bifT (f := k) (fun b6 => rfl)
      (fun b6 => bifT (f := k) (fun b7 => letT (f := k) (fun c22 hc22 => bifT (f := k) (fun b8 => rfl)
      (fun b8 => bifT (f := k) (fun b9 => letT (f := k) (fun c23 hc23 => bifT (f := k) (fun b10 => bifT (f := k) (fun b11 => rfl)
      (fun b11 => bifT (f := k) (fun b12 => rfl)
      (fun b12 => rfl)))
      (fun b10 => bifT (f := k) (fun b11 => bifT (f := k) (fun b12 => rfl)
      (fun b12 => bifT (f := k) (fun b13 => rfl)
      (fun b13 => rfl)))
      (fun b11 => bifT (f := k) (fun b12 => rfl)
      (fun b12 => rfl)))))
      (fun b9 => bifT (f := k) (fun b10 => bifT (f := k) (fun b11 => rfl)
      (fun b11 => bifT (f := k) (fun b12 => rfl)
      (fun b12 => rfl)))
      (fun b10 => bifT (f := k) (fun b11 => rfl)
      (fun b11 => rfl))))))
      (fun b7 => bifT (f := k) (fun b8 => letT (f := k) (fun c24 hc24 => bifT (f := k) (fun b9 => bifT (f := k) (fun b10 => rfl)
      (fun b10 => bifT (f := k) (fun b11 => rfl)
      (fun b11 => rfl)))
      (fun b9 => bifT (f := k) (fun b10 => bifT (f := k) (fun b11 => rfl)
      (fun b11 => bifT (f := k) (fun b12 => rfl)
      (fun b12 => rfl)))
      (fun b10 => bifT (f := k) (fun b11 => rfl)
      (fun b11 => rfl)))))
      (fun b8 => bifT (f := k) (fun b9 => bifT (f := k) (fun b10 => rfl)
      (fun b10 => bifT (f := k) (fun b11 => rfl)
      (fun b11 => rfl)))
      (fun b9 => bifT (f := k) (fun b10 => rfl)
      (fun b10 => rfl))))))
      (fun b5 => bifT (f := k) (fun b6 => letT (f := k) (fun c25 hc25 => bifT (f := k) (fun b7 => rfl)
      (fun b7 => bifT (f := k) (fun b8 => letT (f := k) (fun c26 hc26 => bifT (f := k) (fun b9 => bifT (f := k) (fun b10 => rfl)
      (fun b10 => bifT (f := k) (fun b11 => rfl)
      (fun b11 => rfl)))
      (fun b9 => bifT (f := k) (fun b10 => bifT (f := k) (fun b11 => rfl)
      (fun b11 => bifT (f := k) (fun b12 => rfl)
      (fun b12 => rfl)))
      (fun b10 => bifT (f := k) (fun b11 => rfl)
      (fun b11 => rfl)))))
      (fun b8 => bifT (f := k) (fun b9 => bifT (f := k) (fun b10 => rfl)
      (fun b10 => bifT (f := k) (fun b11 => rfl)
      (fun b11 => rfl)))
      (fun b9 => bifT (f := k) (fun b10 => rfl)
      (fun b10 => rfl))))))
      (fun b6 => bifT (f := k) (fun b7 => letT (f := k) (fun c27 hc27 => bifT (f := k) (fun b8 => bifT (f := k) (fun b9 => rfl)
      (fun b9 => bifT (f := k) (fun b10 => rfl)
      (fun b10 => rfl)))
      (fun b8 => bifT (f := k) (fun b9 => bifT (f := k) (fun b10 => rfl)
      (fun b10 => bifT (f := k) (fun b11 => rfl)
      (fun b11 => rfl)))
      (fun b9 => bifT (f := k) (fun b10 => rfl)
      (fun b10 => rfl)))))
      (fun b7 => bifT (f := k) (fun b8 => bifT (f := k) (fun b9 => rfl)
      (fun b9 => bifT (f := k) (fun b10 => rfl)
      (fun b10 => rfl)))
      (fun b8 => bifT (f := k) (fun b9 => rfl)
      (fun b9 => rfl))))))
      (fun b4 => bifT (f := k) (fun b5 => letT (f := k) (fun c28 hc28 => bifT (f := k) (fun b6 => rfl)
      (fun b6 => bifT (f := k) (fun b7 => letT (f := k) (fun c29 hc29 => bifT (f := k) (fun b8 => bifT (f := k) (fun b9 => rfl)
      (fun b9 => bifT (f := k) (fun b10 => rfl)
      (fun b10 => rfl)))
      (fun b8 => bifT (f := k) (fun b9 => bifT (f := k) (fun b10 => rfl)
      (fun b10 => bifT (f := k) (fun b11 => rfl)
      (fun b11 => rfl)))
      (fun b9 => bifT (f := k) (fun b10 => rfl)
      (fun b10 => rfl)))))
      (fun b7 => bifT (f := k) (fun b8 => bifT (f := k) (fun b9 => rfl)
      (fun b9 => bifT (f := k) (fun b10 => rfl)
      (fun b10 => rfl)))
      (fun b8 => bifT (f := k) (fun b9 => rfl)
      (fun b9 => rfl))))))
      (fun b5 => bifT (f := k) (fun b6 => letT (f := k) (fun c30 hc30 => bifT (f := k) (fun b7 => bifT (f := k) (fun b8 => rfl)
      (fun b8 => bifT (f := k) (fun b9 => rfl)
      (fun b9 => rfl)))
      (fun b7 => bifT (f := k) (fun b8 => bifT (f := k) (fun b9 => rfl)
      (fun b9 => bifT (f := k) (fun b10 => rfl)
      (fun b10 => rfl)))
      (fun b8 => bifT (f := k) (fun b9 => rfl)
      (fun b9 => rfl)))))
      (fun b6 => bifT (f := k) (fun b7 => bifT (f := k) (fun b8 => rfl)
      (fun b8 => bifT (f := k) (fun b9 => rfl)
      (fun b9 => rfl)))
      (fun b7 => bifT (f := k) (fun b8 => rfl)
      (fun b8 => rfl)))))))
      (fun b2 => letT (f := k) (fun c31 hc31 => bifT (f := k) (fun b3 => rfl)
      (fun b3 => bifT (f := k) (fun b4 => bifT (f := k) (fun b5 => bifT (f := k) (fun b6 => rfl)
      (fun b6 => bifT (f := k) (fun b7 => letT (f := k) (fun c32 hc32 => bifT (f := k) (fun b8 => rfl)
      (fun b8 => bifT (f := k) (fun b9 => letT (f := k) (fun c33 hc33 => bifT (f := k) (fun b10 => bifT (f := k) (fun b11 => rfl)
      (fun b11 => bifT (f := k) (fun b12 => rfl)
      (fun b12 => rfl)))
      (fun b10 => bifT (f := k) (fun b11 => bifT (f := k) (fun b12 => rfl)
      (fun b12 => bifT (f := k) (fun b13 => rfl)
      (fun b13 => rfl)))
      (fun b11 => bifT (f := k) (fun b12 => rfl)
      (fun b12 => rfl)))))
      (fun b9 => bifT (f := k) (fun b10 => bifT (f := k) (fun b11 => rfl)
      (fun b11 => bifT (f := k) (fun b12 => rfl)
      (fun b12 => rfl)))
      (fun b10 => bifT (f := k) (fun b11 => rfl)
      (fun b11 => rfl))))))
      (fun b7 => bifT (f := k) (fun b8 => letT (f := k) (fun c34 hc34 => bifT (f := k) (fun b9 => bifT (f := k) (fun b10 => rfl)
      (fun b10 => bifT (f := k) (fun b11 => rfl)
      (fun b11 => rfl)))
      (fun b9 => bifT (f := k) (fun b10 => bifT (f := k) (fun b11 => rfl)
      (fun b11 => bifT (f := k) (fun b12 => rfl)
      (fun b12 => rfl)))
      (fun b10 => bifT (f := k) (fun b11 => rfl)
      (fun b11 => rfl)))))
      (fun b8 => bifT (f := k) (fun b9 => bifT (f := k) (fun b10 => rfl)
      (fun b10 => bifT (f := k) (fun b11 => rfl)
      (fun b11 => rfl)))
      (fun b9 => bifT (f := k) (fun b10 => rfl)
      (fun b10 => rfl))))))
      (fun b5 => bifT (f := k) (fun b6 => letT (f := k) (fun c35 hc35 => bifT (f := k) (fun b7 => rfl)
      (fun b7 => bifT (f := k) (fun b8 => letT (f := k) (fun c36 hc36 => bifT (f := k) (fun b9 => bifT (f := k) (fun b10 => rfl)
      (fun b10 => bifT (f := k) (fun b11 => rfl)
      (fun b11 => rfl)))
      (fun b9 => bifT (f := k) (fun b10 => bifT (f := k) (fun b11 => rfl)
      (fun b11 => bifT (f := k) (fun b12 => rfl)
      (fun b12 => rfl)))
      (fun b10 => bifT (f := k) (fun b11 => rfl)
      (fun b11 => rfl)))))
      (fun b8 => bifT (f := k) (fun b9 => bifT (f := k) (fun b10 => rfl)
      (fun b10 => bifT (f := k) (fun b11 => rfl)
      (fun b11 => rfl)))
      (fun b9 => bifT (f := k) (fun b10 => rfl)
      (fun b10 => rfl))))))
      (fun b6 => bifT (f := k) (fun b7 => letT (f := k) (fun c37 hc37 => bifT (f := k) (fun b8 => bifT (f := k) (fun b9 => rfl)
      (fun b9 => bifT (f := k) (fun b10 => rfl)
      (fun b10 => rfl)))
      (fun b8 => bifT (f := k) (fun b9 => bifT (f := k) (fun b10 => rfl)
      (fun b10 => bifT (f := k) (fun b11 => rfl)
      (fun b11 => rfl)))
      (fun b9 => bifT (f := k) (fun b10 => rfl)
      (fun b10 => rfl)))))
      (fun b7 => bifT (f := k) (fun b8 => bifT (f := k) (fun b9 => rfl)
      (fun b9 => bifT (f := k) (fun b10 => rfl)
      (fun b10 => rfl)))
      (fun b8 => bifT (f := k) (fun b9 => rfl)
      (fun b9 => rfl))))))
      (fun b4 => bifT (f := k) (fun b5 => letT (f := k) (fun c38 hc38 => bifT (f := k) (fun b6 => rfl)
      (fun b6 => bifT (f := k) (fun b7 => letT (f := k) (fun c39 hc39 => bifT (f := k) (fun b8 => bifT (f := k) (fun b9 => rfl)
      (fun b9 => bifT (f := k) (fun b10 => rfl)
      (fun b10 => rfl)))
      (fun b8 => bifT (f := k) (fun b9 => bifT (f := k) (fun b10 => rfl)
      (fun b10 => bifT (f := k) (fun b11 => rfl)
      (fun b11 => rfl)))
      (fun b9 => bifT (f := k) (fun b10 => rfl)
      (fun b10 => rfl)))))
      (fun b7 => bifT (f := k) (fun b8 => bifT (f := k) (fun b9 => rfl)
      (fun b9 => bifT (f := k) (fun b10 => rfl)
      (fun b10 => rfl)))
      (fun b8 => bifT (f := k) (fun b9 => rfl)
      (fun b9 => rfl))))))
      (fun b5 => bifT (f := k) (fun b6 => letT (f := k) (fun c40 hc40 => bifT (f := k) (fun b7 => bifT (f := k) (fun b8 => rfl)
      (fun b8 => bifT (f := k) (fun b9 => rfl)
      (fun b9 => rfl)))
      (fun b7 => bifT (f := k) (fun b8 => bifT (f := k) (fun b9 => rfl)
      (fun b9 => bifT (f := k) (fun b10 => rfl)
      (fun b10 => rfl)))
      (fun b8 => bifT (f := k) (fun b9 => rfl)
      (fun b9 => rfl)))))
      (fun b6 => bifT (f := k) (fun b7 => bifT (f := k) (fun b8 => rfl)
      (fun b8 => bifT (f := k) (fun b9 => rfl)
      (fun b9 => rfl)))
      (fun b7 => bifT (f := k) (fun b8 => rfl)
      (fun b8 => rfl)))))))))))))
theorem i_ActOk_c (x0 : Acti)  : Con Try.prog 39 (pvs [.st .acti] (x0, ())) [rv (.sc .bool) [] (i_ActOk x0)] := by
  exact evalFn_con0 teFact mixFact (orcOf_ok _) Try.func39 (by kernel_rfl) ((i_ActOk_lk x0).trans (i_ActOk_p x0  _ _ _))
noncomputable def i_ActOk_e : Ent1 Try.prog := entA 39 [.st .acti] (fun x => (i_ActOk x.1)) (fun v => [rv (.sc .bool) [] v]) (fun x => i_ActOk_c x.1)



theorem s_WordOk_eq (n b : Int) : s_WordOk n b = bif s_l1In b 1 62 then s_l1In n 0 (IntKind.wrap .i64 ((IntKind.wrap .i64 (1 * 2 ^ (min (IntKind.wrap .u64 b).toNat 64))) - 1)) else false := by
  simp only [s_WordOk, letK]
theorem i_WordOk_eq (n b : Int) : i_WordOk n b = bif i_within b 1 62 then i_within n 0 (IntKind.wrap .i64 ((IntKind.wrap .i64 (1 * 2 ^ (min b.toNat 64))) - 1)) else false := by
  simp only [i_WordOk, letK]
theorem q_WordOk (n b : Int) : s_WordOk n b = i_WordOk n b := by
  rw [s_WordOk_eq, i_WordOk_eq, s_l1In_eq, i_within_eq]
  cases h : (decide (1 ≤ b) && decide (b ≤ 62)) with
  | false => rw [cond_false, cond_false]
  | true =>
    have h1 : 1 ≤ b ∧ b ≤ 62 := by simpa using h
    have h2 : IntKind.u64.wrap b = b := by rw [wrapU_def]; exact Int.emod_eq_of_lt (by omega) (by omega)
    rw [h2, cond_true, cond_true, s_l1In_eq, i_within_eq]


theorem q_within (a b c : Int) : s_l1In a b c = i_within a b c := by rw [s_l1In_eq, i_within_eq]


theorem q_TupleOk (x : Tupl) : s_TupleOk x = i_TupleOk x := by simp only [s_TupleOk, i_TupleOk, q_WordOk]


theorem forN_congrI {A W : Type} {f g : Int → A → Stp A W} {st : Int} {P : A → Prop} (h : ∀ i a, P a → f i a = g i a) (hp : ∀ i a a', P a → f i a = .next a' → P a') : ∀ (k : Nat) (i : Int) (a : A), P a → forN f st k i a = forN g st k i a
  | 0, _, _, _ => rfl
  | k + 1, i, a, ha => by
    simp only [forN, ← h i a ha]
    cases hf : f i a with
    | out w => rfl
    | next a' => simp only [Stp.elim]; exact forN_congrI h hp k _ _ (hp i a a' ha hf)


theorem q_SameMac (x y : Mac) : s_SameMac x y = i_SameMac x y := by
  unfold s_SameMac i_SameMac g_Equal_MacRow letK
  rw [show forN (s_SameMac_L0_f x.use x.k x.l x.rows y.use y.k y.l y.rows) 1 (Int.toNat ((x.rows.length : Int) - 0)) 0 () = forN (g_Equal_MacRow_L0_f x.rows y.rows (x.rows.length : Int)) 1 (Int.toNat ((x.rows.length : Int) - 0)) 0 () from forN_congr (fun _ _ => rfl) _ _ _]
  have e1 : (x.k != y.k) = !(x.k == y.k) := rfl
  have e2 : (x.l != y.l) = !(x.l == y.l) := rfl
  rw [e1, e2]
  cases (x.use == y.use) <;> cases (x.k == y.k) <;> cases (x.l == y.l) <;> rfl
theorem SameMac_refl (x : Mac) : i_SameMac x x = true := by
  unfold i_SameMac g_Equal_MacRow letK
  rw [toNat_sub0, forN_list x.rows _ rfl (F := fun j y a => bif (fun _ => false) y then .out () else .next ()) (by
    intro j y a h
    simp [g_Equal_MacRow_L0_f])]
  rw [listN_all x.rows 0 (by simp)]
  simp [Stp.elim]
theorem SameMac_none (x : Mac) (h : i_SameMac x ⟨false, 0, 0, []⟩ = true) : x = ⟨false, 0, 0, []⟩ := by
  unfold i_SameMac g_Equal_MacRow letK at h
  obtain ⟨u, k, l, r⟩ := x
  cases r with
  | nil => simp [forN, Stp.elim] at h; obtain ⟨h1, h2, h3⟩ := h; subst h1; subst h2; subst h3; rfl
  | cons a b =>
    have : (((a :: b).length : Int) != (([] : List MacRow).length : Int)) = true := by simp; omega
    simp only [this, cond_true] at h
    revert h
    cases (u == false) <;> cases (k == 0) <;> cases (l == 0) <;> simp


theorem forN_ext {A W : Type} {f g : Int → A → Stp A W} : ∀ (k : Nat) (i : Nat) (a : A), (∀ j a, j < i + k → f (j : Int) a = g (j : Int) a) → forN f 1 k (i : Int) a = forN g 1 k (i : Int) a
  | 0, _, _, _ => rfl
  | k + 1, i, a, h => by
    simp only [forN, h i a (by omega)]
    cases g (i : Int) a with
    | out w => rfl
    | next a' => simp only [Stp.elim]; rw [show ((i : Int) + 1) = ((i + 1 : Nat) : Int) by omega]; exact forN_ext k (i + 1) a' (fun j a hj => h j a (by omega))
theorem MacOk_in (r : List MacRow) (u : Bool) (k l : Int) (j : Nat) (hj : j < r.length) :
    Stp.elim (γ := Stp Unit Unit) (fun a3 => .next ()) (fun p3 => .out ()) (forN (s_MacOk_L0_0_f (j : Int) u k l r) 1 (Int.toNat ((j : Int) - 0)) 0 ()) =
    bif (g_ContainsFunc_MacRow_i_MacOk_1 ((r.take j).drop 0) (r.getD j (Ty.zero .macRow))).1 then .out () else .next () := by
  let p : MacRow → Bool := fun y => y.input == (r.getD j (Ty.zero .macRow)).input
  unfold g_ContainsFunc_MacRow_i_MacOk_1 g_IndexFunc_MacRow_i_MacOk_1
  rw [List.drop_zero]
  have hl : (r.take j).length = j := by rw [List.length_take]; omega
  rw [forN_list (r.take j) _ (by rw [hl]; simp) (F := fun q y a => bif p y then .out () else .next ()) (by
    intro q y a h
    have hq : q < j := by
      have := (List.getElem?_eq_some_iff.1 h).1; omega
    have h2 : r[q]? = some y := by rw [List.getElem?_take] at h; simpa [hq] using h
    simp only [s_MacOk_L0_0_f, toNat_cast, getD_some h2, p])]
  rw [forN_list (r.take j) _ (by simp) (F := fun q y a => bif p y then .out (q : Int) else .next ()) (by
    intro q y a h
    simp only [g_IndexFunc_MacRow_i_MacOk_1_L0_f, letK, i_MacOk_1, toNat_cast, getD_some h, p])]
  rw [listN_find (w := fun _ _ => ()), listN_find (w := fun j _ => (j : Int))]
  simp only [letK]
  cases h : (r.take j).findIdx? p with
  | none => simp [Stp.elim]
  | some i =>
    have := (List.findIdx?_eq_some_iff_getElem.1 h).1
    simp only [List.getElem?_eq_getElem this, Stp.elim]
    simp
theorem q_MacOk (x : Mac) : s_MacOk x = i_MacOk x := by
  unfold s_MacOk i_MacOk
  have e : forN (s_MacOk_L0_f x.use x.k x.l x.rows) 1 (Int.toNat ((x.rows.length : Int) - 0)) 0 () = forN (i_MacOk_L0_f x.rows (x.rows.length : Int) x.use x.k x.l x.rows) 1 (Int.toNat ((x.rows.length : Int) - 0)) 0 () := by
    rw [toNat_sub0]
    refine forN_ext x.rows.length 0 () (fun j a hj => ?_)
    have := MacOk_in x.rows x.use x.k x.l j (by omega)
    simp only [s_MacOk_L0_f, i_MacOk_L0_f, letK, toNat_cast, q_within] at this ⊢
    rw [this]
  rw [e]
  have e1 : (x.k != 0) = !(x.k == 0) := rfl
  have e2 : (x.l != 0) = !(x.l == 0) := rfl
  have e3 : decide (64 < (x.rows.length : Int)) = !decide ((x.rows.length : Int) ≤ 64) := by
    rcases Int.lt_or_le 64 (x.rows.length : Int) with h | h
    · simp [h, show ¬ ((x.rows.length : Int) ≤ 64) by omega]
    · simp [h, show ¬ (64 < (x.rows.length : Int)) by omega]
  rw [e1, e2, e3]
  cases x.use with
  | false => rfl
  | true =>
    cases forN (i_MacOk_L0_f x.rows (x.rows.length : Int) true x.k x.l x.rows) 1 (Int.toNat ((x.rows.length : Int) - 0)) 0 () <;> cases (x.k == 0) <;> cases (x.l == 0) <;> cases decide ((x.rows.length : Int) ≤ 64) <;> rfl


theorem q_PutWord (n b : Int) : s_PutWord n b = i_PutWord n b := by
  unfold s_PutWord i_PutWord
  simp only [letK, q_within, q_WordOk]
  cases h1 : i_within b 1 6 with
  | false => rfl
  | true =>
    simp only [Bool.not_true, cond_false]
    cases h2 : i_WordOk n (IntKind.wrap .i64 (8 * b)) with
    | false => rfl
    | true =>
      simp only [Bool.not_true, cond_false]
      have hb : 0 ≤ n ∧ n ≤ 9223372036854775807 := by
        rw [i_WordOk_eq, i_within_eq, i_within_eq] at h2
        revert h2
        cases (decide (1 ≤ IntKind.wrap .i64 (8 * b)) && decide (IntKind.wrap .i64 (8 * b) ≤ 62)) with
        | false => simp
        | true =>
          simp only [cond_true, Bool.and_eq_true, decide_eq_true_eq]
          generalize (IntKind.wrap .i64 (1 * 2 ^ (min (IntKind.wrap .i64 (8 * b)).toNat 64))) = z
          rw [wrap64_def]
          omega
      have e : ∀ k i r, forN s_PutWord_L0_f (-1) k i (n, r) = forN i_PutWord_L0_f (-1) k i (n, r) := by
       intro k i r
       refine forN_congrI (P := fun a => 0 ≤ a.1 ∧ a.1 ≤ 9223372036854775807) (fun i a ha => ?_) (fun i a a' ha he => ?_) k i (n, r) hb
       · unfold s_PutWord_L0_f i_PutWord_L0_f
         rw [(tdiv_pos 256).1 ha.1, (tmod_pos 256).1 ha.1, wrap64 (by omega) (by omega), Int.fdiv_eq_ediv_of_nonneg a.1 (by omega), wrap8_def, wrap8_def, Int.emod_emod]
       · unfold s_PutWord_L0_f at he
         cases he
         show 0 ≤ IntKind.wrap .i64 (a.1.tdiv 256) ∧ _
         rw [(tdiv_pos 256).1 ha.1, wrap64 (by omega) (by omega)]
         omega
      rw [e]
      all_goals rfl


theorem q_CookieParts (x : Int) : s_CookieParts x = i_CookieParts x := by simp only [s_CookieParts, i_CookieParts, q_WordOk]


theorem q_MacInput (x : Tupl) (a b c : Int) : s_MacInput x a b c = i_MacInput x a b c := by simp only [s_MacInput, i_MacInput, q_PutWord, q_TupleOk, q_WordOk, q_within]


theorem q_l1Has (xs : List Bytes) (x : Bytes) : s_l1Has xs x = g_Contains_string xs x := by
  unfold s_l1Has g_Contains_string g_Index_string
  let p : Bytes → Bool := fun y => y == x
  rw [toNat_sub0, forN_list xs _ rfl (F := fun j y a => bif p y then .out () else .next ()) (by
    intro j y a h
    simp only [s_l1Has_L0_f, letK, toNat_cast, getD_some h, p])]
  rw [forN_list xs _ rfl (F := fun j y a => bif p y then .out (j : Int) else .next ()) (by
    intro j y a h
    have : (x == y) = (y == x) := by rw [Bool.eq_iff_iff]; simp only [beq_iff_eq]; exact eq_comm
    simp only [g_Index_string_L0_f, letK, toNat_cast, getD_some h, p, this])]
  rw [listN_find (w := fun _ _ => ()), listN_find (w := fun j _ => (j : Int))]
  simp only [letK]
  cases h : xs.findIdx? p with
  | none => simp [Stp.elim]
  | some i =>
    have := (List.findIdx?_eq_some_iff_getElem.1 h).1
    simp only [List.getElem?_eq_getElem this, Stp.elim]
    simp


theorem q_GuessInputs (e : Int) (xs : List Issu) : s_GuessInputs e xs = i_GuessInputs e xs := by
  unfold s_GuessInputs i_GuessInputs
  rw [show forN (s_GuessInputs_L0_f e xs) 1 (Int.toNat ((xs.length : Int) - 0)) 0 [] = forN (i_GuessInputs_L0_f e xs (xs.length : Int)) 1 (Int.toNat ((xs.length : Int) - 0)) 0 [] from forN_congr (fun _ _ => by simp only [s_GuessInputs_L0_f, i_GuessInputs_L0_f, q_CookieParts, q_MacInput, q_l1Has]) _ _ _]
  all_goals rfl
theorem GuessInputs_len (e : Int) (xs : List Issu) : (i_GuessInputs e xs).length ≤ xs.length := by
  unfold i_GuessInputs
  cases hf : forN (i_GuessInputs_L0_f e xs (xs.length : Int)) 1 (Int.toNat ((xs.length : Int) - 0)) 0 [] with
  | out p => nomatch p
  | next a =>
    have h5 : (a.length : Int) ≤ 0 + 1 * (Int.toNat ((xs.length : Int) - 0) : Int) := by
      refine forN_inv (Inv := fun i a => (a.length : Int) ≤ i) _ _ _ (by simp) (fun j a _ h a2 he => ?_) a hf
      unfold i_GuessInputs_L0_f at he
      simp only [letK] at he
      revert he
      generalize (i_MacInput _ _ _ _) = m
      generalize g_Contains_string a m = c
      cases hm : (m == ([] : Bytes)) <;> cases c <;> intro he <;> simp only [Bool.not_true, Bool.not_false, cond_true, cond_false] at he <;> cases he <;> (try simp only [List.length_append, List.length_singleton]) <;> omega
    simp only [Stp.elim]
    omega


theorem q_Assigned (xs : List Bytes) (n m : Int) : s_Assigned xs n m = i_Assigned xs n m := by
  unfold s_Assigned i_Assigned
  simp only [letK, q_within, s_TableMac, List.nil_append]
  rw [show forN (s_Assigned_L0_f xs n false 0 0) 1 (Int.toNat ((xs.length : Int) - 0)) 0 (m, []) = forN (i_Assigned_L0_f n xs (xs.length : Int) false 0 0 true 0 0) 1 (Int.toNat ((xs.length : Int) - 0)) 0 (m, []) from forN_congr (fun _ _ => rfl) _ _ _]
  all_goals rfl
theorem Assigned_len (xs : List Bytes) (n m : Int) : (i_Assigned xs n m).rows.length ≤ 4 := by
  unfold i_Assigned letK
  cases i_within n 1 4 with
  | false => simp
  | true =>
    cases decide (m < 0) with
    | true => simp
    | false =>
      cases hd : decide (4 < (xs.length : Int)) with
      | true => simp
      | false =>
        simp only [decide_eq_false_iff_not] at hd
        simp only [Bool.not_true, cond_false]
        cases hf : forN (i_Assigned_L0_f n xs (xs.length : Int) false 0 0 true 0 0) 1 (Int.toNat ((xs.length : Int) - 0)) 0 (m, []) with
        | out p => nomatch p
        | next a =>
          have h5 : (a.2.length : Int) ≤ 0 + 1 * (Int.toNat ((xs.length : Int) - 0) : Int) := by
            refine forN_inv (Inv := fun i (a : Int × List MacRow) => (a.2.length : Int) ≤ i) _ _ _ (by simp) (fun j a _ h a2 he => ?_) a hf
            unfold i_Assigned_L0_f at he
            cases he
            simp only [List.length_append, List.length_singleton]
            omega
          simp only [Stp.elim]
          omega


theorem q_ActOk (x : Acti) : s_ActOk x = i_ActOk x := by
  obtain ⟨kd, t, n, tx, mac⟩ := x
  have hs : i_SameMac mac ⟨false, 0, 0, []⟩ = true → i_MacOk mac = true := fun h => by rw [SameMac_none mac h]; rfl
  have hz : ((t.ip == 0) && ((t.port == 0) && (t.my == 0))) = true → i_TupleOk t = true := fun h => by
    obtain ⟨a, b, c⟩ := t
    simp only [Bool.and_eq_true, beq_iff_eq] at h
    obtain ⟨rfl, rfl, rfl⟩ := h
    decide +kernel
  have hx : (tx == []) = true → decide ((tx.length : Int) ≤ 1600) = true := fun h => by
    have : tx = [] := by simpa using h
    subst this; rfl
  have hn : (n == 0) = true → (decide (0 ≤ n) && decide (n ≤ 65535)) = true := fun h => by
    have : n = 0 := by simpa using h
    subst this; rfl
  have hl : decide (1600 < (tx.length : Int)) = !decide ((tx.length : Int) ≤ 1600) := by
    rcases Int.lt_or_le 1600 (tx.length : Int) with h | h
    · simp [h, show ¬ ((tx.length : Int) ≤ 1600) by omega]
    · simp [h, show ¬ (1600 < (tx.length : Int)) by omega]
  have hb : (n != 0) = !(n == 0) := rfl
  unfold s_ActOk i_ActOk
  simp only [letK, s_l1In_eq, i_within_eq, q_TupleOk, q_SameMac, q_MacOk, SameMac_refl, hl, hb, beq_self_eq_true, bne_self_eq_false, Bool.and_true]
  have hk : kd = 1 ∨ kd = 2 ∨ kd = 3 ∨ kd = 4 ∨ kd = 5 ∨ kd = 6 ∨ kd = 7 ∨ kd = 8 ∨ (decide (1 ≤ kd) && decide (kd ≤ 8)) = false := by
    simp only [Bool.and_eq_false_iff, decide_eq_false_iff_not]; omega
  clear hl hb
  generalize i_SameMac mac ⟨false, 0, 0, []⟩ = S at *
  generalize i_MacOk mac = M at *
  generalize i_TupleOk t = T at *
  generalize ((t.ip == 0) && ((t.port == 0) && (t.my == 0))) = Z at *
  generalize (tx == []) = X at *
  generalize decide ((tx.length : Int) ≤ 1600) = L at *
  generalize (decide (0 ≤ n) && decide (n ≤ 65535)) = NN at *
  generalize (n == 0) = N0 at *
  clear tx n t mac
  rcases hk with rfl | rfl | rfl | rfl | rfl | rfl | rfl | rfl | hk
  iterate 8 (revert S M T Z X L NN N0; decide +kernel)
  simp [hk]


def NEXT {α : Type} (s : Stp (Int × List α) Empty) : Int × List α := match s with | .next p => p | .out e => nomatch e
def iterS (S : Int → Int) : Nat → Int → Int | 0, a => a | n + 1, a => iterS S n (S a)
theorem gset {α : Type} {xs : List α} {j : Nat} (h : j < xs.length) (v z : α) : (xs.set j v).getD j z = v := by
  simp [List.getD, List.getElem?_set, h]
theorem gset_ne {α : Type} {xs : List α} {j i : Nat} (h : i < j) (v z : α) : (xs.set j v).getD i z = xs.getD i z := by
  simp [List.getD, List.getElem?_set, show ¬ j = i by omega]
theorem markN {α : Type} {S : Int → Int} {M : Int → α → α} {z : α} {fm : Int → Int × List α → Stp (Int × List α) Empty}
    (hm : ∀ (j : Nat) a ys, j < ys.length → fm (j : Int) (a, ys) = .next (S a, ys.set j (M a (ys.getD j z)))) :
    ∀ (n i : Nat) (k : Int) (xs : List α), i + n ≤ xs.length → ∃ ys, forN fm 1 n (i : Int) (k, xs) = .next (iterS S n k, ys) ∧ ys.length = xs.length ∧ (∀ j, j < i → ys.getD j z = xs.getD j z) ∧ (∀ t, t < n → ∃ y, ys.getD (i + t) z = M (iterS S t k) y)
  | 0, i, k, xs, _ => ⟨xs, rfl, rfl, fun _ _ => rfl, fun t h => absurd h (Nat.not_lt_zero _)⟩
  | n + 1, i, k, xs, h => by
    simp only [forN, hm i k xs (by omega), Stp.elim]
    rw [show ((i : Int) + 1) = ((i + 1 : Nat) : Int) by omega]
    obtain ⟨ys, h1, h2, h3, h4⟩ := markN hm n (i + 1) (S k) (xs.set i (M k (xs.getD i z))) (by rw [List.length_set]; omega)
    refine ⟨ys, h1, by rw [h2, List.length_set], fun j hj => ?_, fun t ht => ?_⟩
    · rw [h3 j (by omega), gset_ne hj]
    · cases t with
      | zero => rw [Nat.add_zero, h3 i (by omega), gset (by omega)]; exact ⟨_, rfl⟩
      | succ t =>
        obtain ⟨y, hy⟩ := h4 t (by omega)
        exact ⟨y, by rw [show i + (t + 1) = i + 1 + t by omega]; exact hy⟩
theorem heldN {α : Type} {S : Int → Int} {M : Int → α → α} {z : α} {ys : List α} {fh : Int → Int → Stp Int Int}
    (hh : ∀ (j : Nat) a y, ys.getD j z = M a y → fh (j : Int) a = .next (S a)) :
    ∀ (n i : Nat) (k : Int), (∀ t, t < n → ∃ y, ys.getD (i + t) z = M (iterS S t k) y) → forN fh 1 n (i : Int) k = .next (iterS S n k)
  | 0, i, k, _ => rfl
  | n + 1, i, k, h => by
    obtain ⟨y, hy⟩ := h 0 (by omega)
    simp only [forN, hh i k y hy, Stp.elim]
    rw [show ((i : Int) + 1) = ((i + 1 : Nat) : Int) by omega]
    exact heldN hh n (i + 1) (S k) fun t ht => by
      obtain ⟨y, hy⟩ := h (t + 1) (by omega)
      exact ⟨y, by rw [show i + 1 + t = i + (t + 1) by omega]; exact hy⟩
theorem iterS_le {S : Int → Int} (hS : ∀ a, 0 ≤ a → a ≤ 4611686018427387904 → a ≤ S a ∧ S a ≤ a + 64) : ∀ (n : Nat) (k : Int), 0 ≤ k → k + 64 * n ≤ 4611686018427387904 → k ≤ iterS S n k ∧ iterS S n k ≤ k + 64 * n
  | 0, k, h, _ => ⟨Int.le_refl _, by simp [iterS]⟩
  | n + 1, k, h, hb => by
    have h1 := hS k h (by omega)
    have h2 := iterS_le hS n (S k) (by omega) (by omega)
    simp only [iterS]
    omega


theorem factFl (f : Fl) : FactC (f.cell f.zero) := by
  cases f with
  | int k => exact .int _ _ (by cases k <;> exact ⟨by decide, by decide⟩)
  | bool => exact .bool _
  | str => exact .str _ (Nat.zero_le _)
  | sl t => exact .sl _ _ (Nat.zero_le _) (fun x hx => nomatch hx)
theorem factZeroH : ∀ (fs : List Fl), ∀ c ∈ cellsH fs (zeroH fs), FactC c
  | [], c, hc => nomatch hc
  | f :: fs, c, hc => by
    rcases List.mem_cons.1 hc with rfl | h
    · exact factFl f
    · exact factZeroH fs c h
theorem factZero (t : Ty) : ∀ c ∈ Ty.cells t (Ty.zero t), FactC c := by
  have : Ty.cells t (Ty.zero t) = cellsH t.fl (zeroH t.fl) := by simp only [Ty.cells, Ty.zero, Ty.toH_ofH]
  rw [this]
  exact factZeroH _

theorem w_szStringS_sm (x0 : List Bytes) (x1 : Int) (hn : 0 ≤ x1 ∧ x1 ≤ 1048576) (hx0 : x0.length ≤ 140737488355328) (hx0_e : ∀ y ∈ x0, List.length y ≤ 4611686018427387904) : 0 ≤ w_szStringS x0 x1 → w_szStringS x0 x1 ≤ 1048576 ∧ x0.length ≤ 1048576 := by
  unfold w_szStringS
  rw [wrap64 (by omega) (by omega)]
  cases hd : decide (x1 - (x0.length : Int) < 0) with
  | true => intro h; simp only [cond_true] at h; omega
  | false =>
    simp only [decide_eq_false_iff_not] at hd
    simp only [cond_false]
    cases hf : forN (w_szStringS_L0_f x0) 1 (Int.toNat ((x0.length : Int) - 0)) 0 (x1 - (x0.length : Int)) with
    | out p => intro h; simp only [Stp.elim] at h; omega
    | next a =>
      have h5 : 0 ≤ a ∧ a ≤ 1048576 := by
        refine forN_inv (Inv := fun _ a => 0 ≤ a ∧ a ≤ 1048576) _ _ _ (by omega) (fun j a _ h a2 he => ?_) a hf
        have hl : List.length (x0.getD (0 + 1 * (j : Int)).toNat []) ≤ 4611686018427387904 := getD_all (p := fun y => List.length y ≤ 4611686018427387904) (by simp) hx0_e _
        unfold w_szStringS_L0_f at he
        rw [wrap64 (by omega) (by omega)] at he
        cases hc : decide (a - ((x0.getD (0 + 1 * (j : Int)).toNat []).length : Int) < 0) <;> rw [hc] at he <;> cases he
        simp only [decide_eq_false_iff_not] at hc
        omega
      intro _; simp only [Stp.elim]; omega

theorem toStringS_eq (xs : List Bytes) : w_toStringS xs = xs := by
  unfold w_toStringS
  rw [toNat_sub0, forN_list xs _ rfl (F := fun j x a => .next (a.set j x)) (by
    intro j x a h
    simp only [w_toStringS_L0_f, letK, toNat_cast, getD_some h])]
  have := fun r hr => listN_fill (W := Empty) (fun x => x) xs 0 r hr
  rw [this _ (by simp)]
  simp [Stp.elim]

theorem eqStringS_refl (xs : List Bytes) : w_eqStringS xs xs = true := by
  unfold w_eqStringS
  rw [toNat_sub0, forN_list xs _ rfl (F := fun j x a => bif (fun _ => false) x then .out () else .next ()) (by
    intro j x a h
    simp [w_eqStringS_L0_f, letK, toNat_cast])]
  rw [listN_all xs 0 (by simp)]
  simp [Stp.elim]

theorem markStringS_held (xs : List Bytes) (k : Int) (hl : xs.length ≤ 140737488355328) (hk : 0 ≤ k ∧ k ≤ 1125899906842624) : 0 ≤ (w_markStringS xs k).1 ∧ (w_markStringS xs k).1 ≤ k + 64 * xs.length ∧ (w_markStringS xs k).2.length = xs.length ∧ w_heldStringS (w_markStringS xs k).2 k = (w_markStringS xs k).1 := by
  obtain ⟨ys, h1, h2, _, h3⟩ := markN (S := (fun a : Int => (NEXT (w_markStringS_L0_f 0 (a, []))).1)) (M := (fun (a : Int) y => (NEXT (w_markStringS_L0_f 0 (a, [y]))).2.getD 0 [])) (z := []) (fm := w_markStringS_L0_f) (fun j a ys h => by simp [w_markStringS_L0_f, letK, NEXT, gset, h]) xs.length 0 k xs (by omega)
  have h4 := iterS_le (S := (fun a : Int => (NEXT (w_markStringS_L0_f 0 (a, []))).1)) (fun a h h2 => by simp only [w_markStringS_L0_f, letK, NEXT, wrap64_def]; omega) xs.length k hk.1 (by omega)
  have e : w_markStringS xs k = (iterS (fun a : Int => (NEXT (w_markStringS_L0_f 0 (a, []))).1) xs.length k, ys) := by
    unfold w_markStringS
    rw [toNat_sub0, show (0 : Int) = ((0 : Nat) : Int) from rfl, h1]
    rfl
  have h5 := heldN (S := (fun a : Int => (NEXT (w_markStringS_L0_f 0 (a, []))).1)) (M := (fun (a : Int) y => (NEXT (w_markStringS_L0_f 0 (a, [y]))).2.getD 0 [])) (z := []) (ys := ys) (fh := w_heldStringS_L0_f ys) (fun j a y h => by simp only [NEXT, w_markStringS_L0_f, letK] at h; simp [w_heldStringS_L0_f, letK, NEXT, w_markStringS_L0_f, h] at h ⊢ <;> simp [h]) xs.length 0 k h3
  have e2 : w_heldStringS ys k = iterS (fun a : Int => (NEXT (w_markStringS_L0_f 0 (a, []))).1) xs.length k := by
    unfold w_heldStringS
    rw [toNat_sub0, h2, show (0 : Int) = ((0 : Nat) : Int) from rfl, h5]
    rfl
  rw [e]
  exact ⟨by show 0 ≤ iterS _ _ _; omega, h4.2, h2, e2⟩

theorem eqTuple_refl (x : Tupl) : w_eqTuple x x = true := by simp [w_eqTuple, letK]

theorem w_szIssueS_sm (x0 : List Issu) (x1 : Int) (hn : 0 ≤ x1 ∧ x1 ≤ 1048576) (hx0 : x0.length ≤ 140737488355328) : 0 ≤ w_szIssueS x0 x1 → w_szIssueS x0 x1 ≤ 1048576 ∧ x0.length ≤ 1048576 := by
  unfold w_szIssueS
  rw [wrap64 (by omega) (by omega)]
  cases hd : decide (x1 - (x0.length : Int) < 0) with
  | true => intro h; simp only [cond_true] at h; omega
  | false =>
    simp only [decide_eq_false_iff_not] at hd
    simp only [cond_false]
    intro h; omega

theorem markIssueS_held (xs : List Issu) (k : Int) (hl : xs.length ≤ 140737488355328) (hk : 0 ≤ k ∧ k ≤ 1125899906842624) : 0 ≤ (w_markIssueS xs k).1 ∧ (w_markIssueS xs k).1 ≤ k + 64 * xs.length ∧ (w_markIssueS xs k).2.length = xs.length := by
  obtain ⟨ys, h1, h2, _, h3⟩ := markN (S := (fun a : Int => (NEXT (w_markIssueS_L0_f 0 (a, []))).1)) (M := (fun (a : Int) y => (NEXT (w_markIssueS_L0_f 0 (a, [y]))).2.getD 0 (Ty.zero .issu))) (z := (Ty.zero .issu)) (fm := w_markIssueS_L0_f) (fun j a ys h => by simp [w_markIssueS_L0_f, letK, NEXT, gset, h]) xs.length 0 k xs (by omega)
  have h4 := iterS_le (S := (fun a : Int => (NEXT (w_markIssueS_L0_f 0 (a, []))).1)) (fun a h h2 => by simp only [w_markIssueS_L0_f, letK, NEXT, wrap64_def]; omega) xs.length k hk.1 (by omega)
  have e : w_markIssueS xs k = (iterS (fun a : Int => (NEXT (w_markIssueS_L0_f 0 (a, []))).1) xs.length k, ys) := by
    unfold w_markIssueS
    rw [toNat_sub0, show (0 : Int) = ((0 : Nat) : Int) from rfl, h1]
    rfl
  rw [e]
  exact ⟨by show 0 ≤ iterS _ _ _; omega, h4.2, h2⟩

theorem markMacRowS_held (xs : List MacRow) (k : Int) (hl : xs.length ≤ 140737488355328) (hk : 0 ≤ k ∧ k ≤ 1125899906842624) : 0 ≤ (w_markMacRowS xs k).1 ∧ (w_markMacRowS xs k).1 ≤ k + 64 * xs.length ∧ (w_markMacRowS xs k).2.length = xs.length ∧ w_heldMacRowS (w_markMacRowS xs k).2 k = (w_markMacRowS xs k).1 := by
  obtain ⟨ys, h1, h2, _, h3⟩ := markN (S := (fun a : Int => (NEXT (w_markMacRowS_L0_f 0 (a, []))).1)) (M := (fun (a : Int) y => (NEXT (w_markMacRowS_L0_f 0 (a, [y]))).2.getD 0 (Ty.zero .macRow))) (z := (Ty.zero .macRow)) (fm := w_markMacRowS_L0_f) (fun j a ys h => by simp [w_markMacRowS_L0_f, letK, NEXT, gset, h]) xs.length 0 k xs (by omega)
  have h4 := iterS_le (S := (fun a : Int => (NEXT (w_markMacRowS_L0_f 0 (a, []))).1)) (fun a h h2 => by simp only [w_markMacRowS_L0_f, letK, NEXT, wrap64_def]; omega) xs.length k hk.1 (by omega)
  have e : w_markMacRowS xs k = (iterS (fun a : Int => (NEXT (w_markMacRowS_L0_f 0 (a, []))).1) xs.length k, ys) := by
    unfold w_markMacRowS
    rw [toNat_sub0, show (0 : Int) = ((0 : Nat) : Int) from rfl, h1]
    rfl
  have h5 := heldN (S := (fun a : Int => (NEXT (w_markMacRowS_L0_f 0 (a, []))).1)) (M := (fun (a : Int) y => (NEXT (w_markMacRowS_L0_f 0 (a, [y]))).2.getD 0 (Ty.zero .macRow))) (z := (Ty.zero .macRow)) (ys := ys) (fh := w_heldMacRowS_L0_f ys) (fun j a y h => by simp only [NEXT, w_markMacRowS_L0_f, letK] at h; simp [w_heldMacRowS_L0_f, letK, NEXT, w_markMacRowS_L0_f, h] at h ⊢ <;> simp [h]) xs.length 0 k h3
  have e2 : w_heldMacRowS ys k = iterS (fun a : Int => (NEXT (w_markMacRowS_L0_f 0 (a, []))).1) xs.length k := by
    unfold w_heldMacRowS
    rw [toNat_sub0, h2, show (0 : Int) = ((0 : Nat) : Int) from rfl, h5]
    rfl
  rw [e]
  exact ⟨by show 0 ≤ iterS _ _ _; omega, h4.2, h2, e2⟩

theorem eqIssue_refl (x : Issu) : w_eqIssue x x = true := by simp [w_eqIssue, letK, eqTuple_refl]

theorem toTuple_eq (x : Tupl) : w_toTuple x = x := by
  first | rfl | simp only [w_toTuple, letK] | (simp [w_toTuple, letK])

theorem eqMacRow_refl (x : MacRow) : w_eqMacRow x x = true := by simp [w_eqMacRow, letK]

theorem w_szMacRowS_sm (x0 : List MacRow) (x1 : Int) (hn : 0 ≤ x1 ∧ x1 ≤ 1048576) (hx0 : x0.length ≤ 140737488355328) (hx0_e : ∀ y ∈ x0, ∀ c ∈ Ty.cells .macRow y, FactC c) : 0 ≤ w_szMacRowS x0 x1 → w_szMacRowS x0 x1 ≤ 1048576 ∧ x0.length ≤ 1048576 := by
  unfold w_szMacRowS
  rw [wrap64 (by omega) (by omega)]
  cases hd : decide (x1 - (x0.length : Int) < 0) with
  | true => intro h; simp only [cond_true] at h; omega
  | false =>
    simp only [decide_eq_false_iff_not] at hd
    simp only [cond_false]
    cases hf : forN (w_szMacRowS_L0_f x0) 1 (Int.toNat ((x0.length : Int) - 0)) 0 (x1 - (x0.length : Int)) with
    | out p => intro h; simp only [Stp.elim] at h; omega
    | next a =>
      have h5 : 0 ≤ a ∧ a ≤ 1048576 := by
        refine forN_inv (Inv := fun _ a => 0 ≤ a ∧ a ≤ 1048576) _ _ _ (by omega) (fun j a _ h a2 he => ?_) a hf
        have hq : ∀ y : MacRow, (∀ c ∈ Ty.cells .macRow y, FactC c) → 0 ≤ w_szMacRow y a → w_szMacRow y a ≤ 1048576 := fun y hy h0 => (w_szMacRow_sm y a h (hy (.str y.input) List.mem_cons_self).slen h0).1
        have hz : ∀ c ∈ Ty.cells .macRow (x0.getD (0 + 1 * (j : Int)).toNat (Ty.zero .macRow)), FactC c := getD_all (p := fun y => ∀ c ∈ Ty.cells .macRow y, FactC c) (factZero _) hx0_e _
        unfold w_szMacRowS_L0_f at he
        simp only [letK] at he
        cases hc : decide (w_szMacRow (x0.getD (0 + 1 * (j : Int)).toNat (Ty.zero .macRow)) a < 0) <;> rw [hc] at he <;> cases he
        simp only [decide_eq_false_iff_not] at hc
        exact ⟨by omega, hq _ hz (by omega)⟩
      intro _; simp only [Stp.elim]; omega

theorem toMacRow_eq (x : MacRow) : w_toMacRow x = x := by
  first | rfl | simp only [w_toMacRow, letK] | (simp [w_toMacRow, letK])

/-- laws.szMac -/
def w_szMac_N (x0 : Mac) (x1 : Int) (γ : Type) (fail : γ) (k : Int → γ) : γ :=
  letK (α := Int) (w_szMacRowS x0.rows x1) fun c1 =>
  bif (decide (c1 < 0)) then
    k (-1)
  else
  k c1
def w_szMac (x0 : Mac) (x1 : Int) : Int :=
  letK (α := Int) (w_szMacRowS x0.rows x1) fun c1 =>
  bif (decide (c1 < 0)) then
    (-1)
  else
  c1
theorem w_szMac_lk (x0 : Mac) (x1 : Int) : evalFn te (orcOf (P := Try.prog) [w_szMacRowS_e]) lorc0 [] Try.f79 (pvs [.st .mac, .sc (.int .i64)] (x0, x1, ())) =
  w_szMac_N x0 x1 _ none (fun v => some [(false, [RC.c (.int .i64 v)])]) := by kernel_rfl
theorem w_szMac_p (x0 : Mac) (x1 : Int)   (γ : Type) (fail : γ) (k : Int → γ) : w_szMac_N x0 x1 γ fail k = k (w_szMac x0 x1) := by
  unfold w_szMac_N w_szMac
  exact letT (f := k) (fun c1 hc1 => bifT (f := k) (fun b0 => rfl)
      (fun b0 => rfl))
theorem w_szMac_c (x0 : Mac) (x1 : Int)  : Con Try.prog 79 (pvs [.st .mac, .sc (.int .i64)] (x0, x1, ())) [rv (.sc (.int .i64)) [] (w_szMac x0 x1)] := by
  exact evalFn_con0 teFact mixFact (orcOf_ok _) Try.func79 (by kernel_rfl) ((w_szMac_lk x0 x1).trans (w_szMac_p x0 x1  _ _ _))
noncomputable def w_szMac_e : Ent1 Try.prog := entA 79 [.st .mac, .sc (.int .i64)] (fun x => (w_szMac x.1 x.2.1)) (fun v => [rv (.sc (.int .i64)) [] v]) (fun x => w_szMac_c x.1 x.2.1)

theorem w_szMac_sm (x0 : Mac) (x1 : Int)  (hn : 0 ≤ x1 ∧ x1 ≤ 1048576) (hx0_rows : x0.rows.length ≤ 140737488355328) (hx0_rows_e : ∀ y ∈ x0.rows, ∀ c ∈ Ty.cells .macRow y, FactC c) : (fun v : Int => 0 ≤ v → v ≤ 1048576 ∧ x0.rows.length ≤ 1048576) (w_szMac x0 x1) := by
  unfold w_szMac
  exact letP (P := (fun v : Int => 0 ≤ v → v ≤ 1048576 ∧ x0.rows.length ≤ 1048576)) (fun c1 hc1 => have kc1 := w_szMacRowS_sm x0.rows x1 (by grind [wrap64]) (by assumption) (by assumption); bifP (P := (fun v : Int => 0 ≤ v → v ≤ 1048576 ∧ x0.rows.length ≤ 1048576)) (fun b0 => (by (try simp only [Nat.ble_eq, Bool.and_eq_true, decide_eq_true_eq]); grind [maxSl, maxStr, toBytes_length, toInts_length, List.length_set, wrap64, w_szMacRowS_sm]))
      (fun b0 => (by (try simp only [Nat.ble_eq, Bool.and_eq_true, decide_eq_true_eq]); grind [maxSl, maxStr, toBytes_length, toInts_length, List.length_set, wrap64, w_szMacRowS_sm])))

/-- laws.FnExactAssigned -/
def w_FnExactAssigned_N (x0 : List Bytes) (x1 : Int) (x2 : Int) (γ : Type) (fail : γ) (k : Bool → γ) : γ :=
  letK (α := Int) (w_szStringS x0 1048576) fun c1 =>
  bif (decide (c1 < 0)) then
    k true
  else
  bif (decide (x0.length ≤ 4294967296)) then
  letK (α := List Bytes) (w_toStringS x0) fun c2 =>
  bif (decide (c2.length ≤ 4294967296)) then
  letK (α := Mac) (s_Assigned c2 x1 x2) fun c3 =>
  bif (decide (x0.length ≤ 4294967296)) then
  letK (α := List Bytes) (w_toStringS x0) fun c4 =>
  bif (decide (c4.length ≤ 4294967296)) then
  letK (α := Mac) (i_Assigned c4 x1 x2) fun c5 =>
  letK (α := Bool) (w_eqMac c5 c3) fun c6 =>
  bif (!c6) then
    k false
  else
  bif (decide (x0.length ≤ 4294967296)) then
  letK (α := List Bytes) (w_toStringS x0) fun c7 =>
  letK (α := Bool) (w_eqStringS c4 c7) fun c8 =>
  bif (!c8) then
    k false
  else
  letK (α := Int × List Bytes) (w_markStringS c4 1) fun c9 =>
  bif (decide (c9.1 < 0)) then
    k false
  else
  letK (α := Bool) (w_eqMac c5 c3) fun c10 =>
  bif (!c10) then
    k false
  else
  letK (α := Int × List MacRow) (w_markMac c5 1) fun c11 =>
  letK (α := Int) (w_heldMac ({ c5 with rows := c11.2 } : Mac) 1) fun c12 =>
  bif (decide (c12 < 0)) then
    k false
  else
  bif (c12 != c11.1) then
    k false
  else
  bif (decide (x0.length ≤ 4294967296)) then
  letK (α := List Bytes) (w_toStringS x0) fun c13 =>
  bif (decide (c13.length ≤ 4294967296)) then
  letK (α := Mac) (i_Assigned c13 x1 x2) fun c14 =>
  letK (α := Bool) (w_eqMac c14 c3) fun c15 =>
  bif (!c15) then
    k false
  else
  letK (α := Int) (w_heldMac ({ c5 with rows := c11.2 } : Mac) 1) fun c16 =>
  bif (decide (c16 < 0)) then
    k false
  else
  bif (c16 != c11.1) then
    k false
  else
  k true
  else fail
  else fail
  else fail
  else fail
  else fail
  else fail
  else fail
def w_FnExactAssigned (x0 : List Bytes) (x1 : Int) (x2 : Int) : Bool :=
  letK (α := Int) (w_szStringS x0 1048576) fun c1 =>
  bif (decide (c1 < 0)) then
    true
  else
  letK (α := List Bytes) (w_toStringS x0) fun c2 =>
  letK (α := Mac) (s_Assigned c2 x1 x2) fun c3 =>
  letK (α := List Bytes) (w_toStringS x0) fun c4 =>
  letK (α := Mac) (i_Assigned c4 x1 x2) fun c5 =>
  letK (α := Bool) (w_eqMac c5 c3) fun c6 =>
  bif (!c6) then
    false
  else
  letK (α := List Bytes) (w_toStringS x0) fun c7 =>
  letK (α := Bool) (w_eqStringS c4 c7) fun c8 =>
  bif (!c8) then
    false
  else
  letK (α := Int × List Bytes) (w_markStringS c4 1) fun c9 =>
  bif (decide (c9.1 < 0)) then
    false
  else
  letK (α := Bool) (w_eqMac c5 c3) fun c10 =>
  bif (!c10) then
    false
  else
  letK (α := Int × List MacRow) (w_markMac c5 1) fun c11 =>
  letK (α := Int) (w_heldMac ({ c5 with rows := c11.2 } : Mac) 1) fun c12 =>
  bif (decide (c12 < 0)) then
    false
  else
  bif (c12 != c11.1) then
    false
  else
  letK (α := List Bytes) (w_toStringS x0) fun c13 =>
  letK (α := Mac) (i_Assigned c13 x1 x2) fun c14 =>
  letK (α := Bool) (w_eqMac c14 c3) fun c15 =>
  bif (!c15) then
    false
  else
  letK (α := Int) (w_heldMac ({ c5 with rows := c11.2 } : Mac) 1) fun c16 =>
  bif (decide (c16 < 0)) then
    false
  else
  bif (c16 != c11.1) then
    false
  else
  true
theorem w_FnExactAssigned_lk (x0 : List Bytes) (x1 : Int) (x2 : Int) : evalFn te (orcOf (P := Try.prog) [w_szStringS_e, w_toStringS_e, s_Assigned_e, i_Assigned_e, w_eqMac_e, w_eqStringS_e, w_markStringS_e, w_markMac_e, w_heldMac_e]) lorc0 [] Try.f3 (pvs [.sc (.sl .str), .sc (.int .i64), .sc (.int .i64)] (x0, x1, x2, ())) =
  w_FnExactAssigned_N x0 x1 x2 _ none (fun v => some [(false, [RC.c (.bool v)])]) := by kernel_rfl
theorem w_FnExactAssigned_p (x0 : List Bytes) (x1 : Int) (x2 : Int) (hx0 : x0.length ≤ 140737488355328) (hx0_e : ∀ y ∈ x0, List.length y ≤ 4611686018427387904) (hx1 : inK .i64 x1) (hx2 : inK .i64 x2)  (γ : Type) (fail : γ) (k : Bool → γ) : w_FnExactAssigned_N x0 x1 x2 γ fail k = k (w_FnExactAssigned x0 x1 x2) := by
  unfold w_FnExactAssigned_N w_FnExactAssigned
  exact letT (f := k) (fun c1 hc1 => have kc1 := w_szStringS_sm x0 1048576 (by grind [wrap64]) (by assumption) (by assumption); bifT (f := k) (fun b0 => rfl)
      (fun b0 => bifG (by (try simp only [Nat.ble_eq, Bool.and_eq_true, decide_eq_true_eq]); grind [maxSl, maxStr, toBytes_length, toInts_length, List.length_set, wrap64, w_szStringS_sm]) (letT (f := k) (fun c2 hc2 => have kc2 := toStringS_eq x0; bifG (by (try simp only [Nat.ble_eq, Bool.and_eq_true, decide_eq_true_eq]); grind [maxSl, maxStr, toBytes_length, toInts_length, List.length_set, wrap64, w_szStringS_sm]) (letT (f := k) (fun c3 hc3 => bifG (by (try simp only [Nat.ble_eq, Bool.and_eq_true, decide_eq_true_eq]); grind [maxSl, maxStr, toBytes_length, toInts_length, List.length_set, wrap64, w_szStringS_sm]) (letT (f := k) (fun c4 hc4 => have kc4 := toStringS_eq x0; bifG (by (try simp only [Nat.ble_eq, Bool.and_eq_true, decide_eq_true_eq]); grind [maxSl, maxStr, toBytes_length, toInts_length, List.length_set, wrap64, w_szStringS_sm]) (letT (f := k) (fun c5 hc5 => letT (f := k) (fun c6 hc6 => bifT (f := k) (fun b1 => rfl)
      (fun b1 => bifG (by (try simp only [Nat.ble_eq, Bool.and_eq_true, decide_eq_true_eq]); grind [maxSl, maxStr, toBytes_length, toInts_length, List.length_set, wrap64, w_szStringS_sm]) (letT (f := k) (fun c7 hc7 => have kc7 := toStringS_eq x0; letT (f := k) (fun c8 hc8 => bifT (f := k) (fun b2 => rfl)
      (fun b2 => letT (f := k) (fun c9 hc9 => bifT (f := k) (fun b3 => rfl)
      (fun b3 => letT (f := k) (fun c10 hc10 => bifT (f := k) (fun b4 => rfl)
      (fun b4 => letT (f := k) (fun c11 hc11 => letT (f := k) (fun c12 hc12 => bifT (f := k) (fun b5 => rfl)
      (fun b5 => bifT (f := k) (fun b6 => rfl)
      (fun b6 => bifG (by (try simp only [Nat.ble_eq, Bool.and_eq_true, decide_eq_true_eq]); grind [maxSl, maxStr, toBytes_length, toInts_length, List.length_set, wrap64, w_szStringS_sm]) (letT (f := k) (fun c13 hc13 => have kc13 := toStringS_eq x0; bifG (by (try simp only [Nat.ble_eq, Bool.and_eq_true, decide_eq_true_eq]); grind [maxSl, maxStr, toBytes_length, toInts_length, List.length_set, wrap64, w_szStringS_sm]) (letT (f := k) (fun c14 hc14 => letT (f := k) (fun c15 hc15 => bifT (f := k) (fun b7 => rfl)
      (fun b7 => letT (f := k) (fun c16 hc16 => bifT (f := k) (fun b8 => rfl)
      (fun b8 => bifT (f := k) (fun b9 => rfl)
      (fun b9 => rfl)))))))))))))))))))))))))))))))))
theorem w_FnExactAssigned_c (x0 : List Bytes) (x1 : Int) (x2 : Int)  : Con Try.prog 3 (pvs [.sc (.sl .str), .sc (.int .i64), .sc (.int .i64)] (x0, x1, x2, ())) [rv (.sc .bool) [] (w_FnExactAssigned x0 x1 x2)] := by
  refine Con.of_facts (enters_of Try.func3 rfl (by kernel_rfl)) fun hf => ?_
  replace hf := factAt hf
  exact evalFn_con0 teFact mixFact (orcOf_ok _) Try.func3 (by kernel_rfl) ((w_FnExactAssigned_lk x0 x1 x2).trans (w_FnExactAssigned_p x0 x1 x2 ((hf 0 0 rfl rfl).len) (fun y hy => ((hf 0 0 rfl rfl).elem hy (.str y) List.mem_cons_self).slen) ((hf 1 0 rfl rfl).rng) ((hf 2 0 rfl rfl).rng) _ _ _))
noncomputable def w_FnExactAssigned_e : Ent1 Try.prog := entA 3 [.sc (.sl .str), .sc (.int .i64), .sc (.int .i64)] (fun x => (w_FnExactAssigned x.1 x.2.1 x.2.2.1)) (fun v => [rv (.sc .bool) [] v]) (fun x => w_FnExactAssigned_c x.1 x.2.1 x.2.2.1)


/-- laws.szAct -/
def w_szAct_N (x0 : Acti) (x1 : Int) (γ : Type) (fail : γ) (k : Int → γ) : γ :=
  bif (decide ((IntKind.wrap .i64 (x1 - (x0.text.length : Int))) < 0)) then
    k (-1)
  else
  letK (α := Int) (w_szMac x0.mac (IntKind.wrap .i64 (x1 - (x0.text.length : Int)))) fun c1 =>
  bif (decide (c1 < 0)) then
    k (-1)
  else
  k c1
def w_szAct (x0 : Acti) (x1 : Int) : Int :=
  bif (decide ((IntKind.wrap .i64 (x1 - (x0.text.length : Int))) < 0)) then
    (-1)
  else
  letK (α := Int) (w_szMac x0.mac (IntKind.wrap .i64 (x1 - (x0.text.length : Int)))) fun c1 =>
  bif (decide (c1 < 0)) then
    (-1)
  else
  c1
theorem w_szAct_lk (x0 : Acti) (x1 : Int) : evalFn te (orcOf (P := Try.prog) [w_szMac_e]) lorc0 [] Try.f36 (pvs [.st .acti, .sc (.int .i64)] (x0, x1, ())) =
  w_szAct_N x0 x1 _ none (fun v => some [(false, [RC.c (.int .i64 v)])]) := by kernel_rfl
theorem w_szAct_p (x0 : Acti) (x1 : Int)   (γ : Type) (fail : γ) (k : Int → γ) : w_szAct_N x0 x1 γ fail k = k (w_szAct x0 x1) := by
  unfold w_szAct_N w_szAct
  exact bifT (f := k) (fun b0 => rfl)
      (fun b0 => letT (f := k) (fun c1 hc1 => bifT (f := k) (fun b1 => rfl)
      (fun b1 => rfl)))
theorem w_szAct_c (x0 : Acti) (x1 : Int)  : Con Try.prog 36 (pvs [.st .acti, .sc (.int .i64)] (x0, x1, ())) [rv (.sc (.int .i64)) [] (w_szAct x0 x1)] := by
  exact evalFn_con0 teFact mixFact (orcOf_ok _) Try.func36 (by kernel_rfl) ((w_szAct_lk x0 x1).trans (w_szAct_p x0 x1  _ _ _))
noncomputable def w_szAct_e : Ent1 Try.prog := entA 36 [.st .acti, .sc (.int .i64)] (fun x => (w_szAct x.1 x.2.1)) (fun v => [rv (.sc (.int .i64)) [] v]) (fun x => w_szAct_c x.1 x.2.1)

theorem w_szAct_sm (x0 : Acti) (x1 : Int)  (hn : 0 ≤ x1 ∧ x1 ≤ 1048576) (hx0_text : List.length x0.text ≤ 4611686018427387904) (hx0_mac_rows : x0.mac.rows.length ≤ 140737488355328) (hx0_mac_rows_e : ∀ y ∈ x0.mac.rows, ∀ c ∈ Ty.cells .macRow y, FactC c) : (fun v : Int => 0 ≤ v → v ≤ 1048576 ∧ List.length x0.text ≤ 1048576 ∧ x0.mac.rows.length ≤ 1048576) (w_szAct x0 x1) := by
  unfold w_szAct
  exact bifP (P := (fun v : Int => 0 ≤ v → v ≤ 1048576 ∧ List.length x0.text ≤ 1048576 ∧ x0.mac.rows.length ≤ 1048576)) (fun b0 => (by (try simp only [Nat.ble_eq, Bool.and_eq_true, decide_eq_true_eq]); grind [maxSl, maxStr, toBytes_length, toInts_length, List.length_set, wrap64, w_szMac_sm]))
      (fun b0 => letP (P := (fun v : Int => 0 ≤ v → v ≤ 1048576 ∧ List.length x0.text ≤ 1048576 ∧ x0.mac.rows.length ≤ 1048576)) (fun c1 hc1 => have kc1 := w_szMac_sm x0.mac (IntKind.wrap .i64 (x1 - (x0.text.length : Int))) (by grind [wrap64]) (by assumption) (by assumption); bifP (P := (fun v : Int => 0 ≤ v → v ≤ 1048576 ∧ List.length x0.text ≤ 1048576 ∧ x0.mac.rows.length ≤ 1048576)) (fun b1 => (by (try simp only [Nat.ble_eq, Bool.and_eq_true, decide_eq_true_eq]); grind [maxSl, maxStr, toBytes_length, toInts_length, List.length_set, wrap64, w_szMac_sm]))
      (fun b1 => (by (try simp only [Nat.ble_eq, Bool.and_eq_true, decide_eq_true_eq]); grind [maxSl, maxStr, toBytes_length, toInts_length, List.length_set, wrap64, w_szMac_sm]))))


theorem markMac_held (x : Mac) (k : Int) (hl : x.rows.length ≤ 140737488355328) (hk : 0 ≤ k ∧ k ≤ 1125899906842624) : 0 ≤ (w_markMac x k).1 ∧ (w_markMac x k).1 ≤ k + 64 * x.rows.length ∧ (w_markMac x k).2.length = x.rows.length ∧ w_heldMac { x with rows := (w_markMac x k).2 } k = (w_markMac x k).1 := by
  obtain ⟨h1, h2, h3, h4⟩ := markMacRowS_held x.rows k hl hk
  refine ⟨h1, h2, h3, ?_⟩
  simp only [w_heldMac, w_markMac, letK, h4]
  cases hd : decide ((w_markMacRowS x.rows k).1 < 0) with
  | true => simp only [decide_eq_true_eq] at hd; omega
  | false => rfl

theorem eqIssueS_refl (xs : List Issu) : w_eqIssueS xs xs = true := by
  unfold w_eqIssueS
  rw [toNat_sub0, forN_list xs _ rfl (F := fun j x a => bif (fun _ => false) x then .out () else .next ()) (by
    intro j x a h
    simp [w_eqIssueS_L0_f, letK, toNat_cast, eqIssue_refl])]
  rw [listN_all xs 0 (by simp)]
  simp [Stp.elim]

theorem eqMacRowS_refl (xs : List MacRow) : w_eqMacRowS xs xs = true := by
  unfold w_eqMacRowS
  rw [toNat_sub0, forN_list xs _ rfl (F := fun j x a => bif (fun _ => false) x then .out () else .next ()) (by
    intro j x a h
    simp [w_eqMacRowS_L0_f, letK, toNat_cast, eqMacRow_refl])]
  rw [listN_all xs 0 (by simp)]
  simp [Stp.elim]

theorem toIssue_eq (x : Issu) : w_toIssue x = x := by
  first | rfl | simp only [w_toIssue, letK, toTuple_eq] | (simp [w_toIssue, letK, toTuple_eq])

theorem toMacRowS_eq (xs : List MacRow) : w_toMacRowS xs = xs := by
  unfold w_toMacRowS
  rw [toNat_sub0, forN_list xs _ rfl (F := fun j x a => .next (a.set j x)) (by
    intro j x a h
    simp only [w_toMacRowS_L0_f, letK, toNat_cast, getD_some h, toMacRow_eq])]
  have := fun r hr => listN_fill (W := Empty) (fun x => x) xs 0 r hr
  rw [this _ (by simp)]
  simp [Stp.elim]

theorem eqMac_refl (x : Mac) : w_eqMac x x = true := by simp [w_eqMac, letK, eqMacRowS_refl]

theorem toIssueS_eq (xs : List Issu) : w_toIssueS xs = xs := by
  unfold w_toIssueS
  rw [toNat_sub0, forN_list xs _ rfl (F := fun j x a => .next (a.set j x)) (by
    intro j x a h
    simp only [w_toIssueS_L0_f, letK, toNat_cast, getD_some h, toIssue_eq])]
  have := fun r hr => listN_fill (W := Empty) (fun x => x) xs 0 r hr
  rw [this _ (by simp)]
  simp [Stp.elim]

end Go.Proofs.Ythlhmhlphnjjkaa
