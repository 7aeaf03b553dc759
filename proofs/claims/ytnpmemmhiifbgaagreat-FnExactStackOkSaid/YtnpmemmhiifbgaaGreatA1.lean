/-
  Contracts of functions and plain laws (printed by a program): each theorem says what a function of the program returns; conditions are its hypotheses.
-/
import Derived.Test.YtnpmemmhiifbgaaGreatBase
set_option maxRecDepth 4000
set_option linter.unusedVariables false
set_option linter.unusedSimpArgs false
namespace Go.Proofs.YtnpmemmhiifbgaaGreat
open Go Go.RowKit

/-- laws.szEntryS -/
def w_szEntryS_N (x0 : List Entr) (x1 : Int) (γ : Type) (fail : γ) (k : Int → γ) : γ :=
  bif (decide ((IntKind.wrap .i64 (x1 - (x0.length : Int))) < 0)) then
    k (-1)
  else
  k (IntKind.wrap .i64 (x1 - (x0.length : Int)))
def w_szEntryS (x0 : List Entr) (x1 : Int) : Int :=
  bif (decide ((IntKind.wrap .i64 (x1 - (x0.length : Int))) < 0)) then
    (-1)
  else
  (IntKind.wrap .i64 (x1 - (x0.length : Int)))
theorem w_szEntryS_lk (x0 : List Entr) (x1 : Int) : evalFn te (orcOf (P := Tryz.prog) []) lorc0 [] Tryz.f19 (pvs [.sc (.sl .entr), .sc (.int .i64)] (x0, x1, ())) =
  w_szEntryS_N x0 x1 _ none (fun v => some [(false, [RC.c (.int .i64 v)])]) := by kernel_rfl
theorem w_szEntryS_p (x0 : List Entr) (x1 : Int)   (γ : Type) (fail : γ) (k : Int → γ) : w_szEntryS_N x0 x1 γ fail k = k (w_szEntryS x0 x1) := by
  unfold w_szEntryS_N w_szEntryS
  exact bifT (f := k) (fun b0 => rfl)
      (fun b0 => rfl)
theorem w_szEntryS_c (x0 : List Entr) (x1 : Int)  : Con Tryz.prog 19 (pvs [.sc (.sl .entr), .sc (.int .i64)] (x0, x1, ())) [rv (.sc (.int .i64)) [] (w_szEntryS x0 x1)] := by
  exact evalFn_con0 teFact mixFact (orcOf_ok _) Tryz.func19 (by kernel_rfl) ((w_szEntryS_lk x0 x1).trans (w_szEntryS_p x0 x1  _ _ _))
noncomputable def w_szEntryS_e : Ent1 Tryz.prog := entA 19 [.sc (.sl .entr), .sc (.int .i64)] (fun x => (w_szEntryS x.1 x.2.1)) (fun v => [rv (.sc (.int .i64)) [] v]) (fun x => w_szEntryS_c x.1 x.2.1)


/-- laws.szHalfS -/
def w_szHalfS_N (x0 : List Half) (x1 : Int) (γ : Type) (fail : γ) (k : Int → γ) : γ :=
  bif (decide ((IntKind.wrap .i64 (x1 - (x0.length : Int))) < 0)) then
    k (-1)
  else
  k (IntKind.wrap .i64 (x1 - (x0.length : Int)))
def w_szHalfS (x0 : List Half) (x1 : Int) : Int :=
  bif (decide ((IntKind.wrap .i64 (x1 - (x0.length : Int))) < 0)) then
    (-1)
  else
  (IntKind.wrap .i64 (x1 - (x0.length : Int)))
theorem w_szHalfS_lk (x0 : List Half) (x1 : Int) : evalFn te (orcOf (P := Tryz.prog) []) lorc0 [] Tryz.f21 (pvs [.sc (.sl .half), .sc (.int .i64)] (x0, x1, ())) =
  w_szHalfS_N x0 x1 _ none (fun v => some [(false, [RC.c (.int .i64 v)])]) := by kernel_rfl
theorem w_szHalfS_p (x0 : List Half) (x1 : Int)   (γ : Type) (fail : γ) (k : Int → γ) : w_szHalfS_N x0 x1 γ fail k = k (w_szHalfS x0 x1) := by
  unfold w_szHalfS_N w_szHalfS
  exact bifT (f := k) (fun b0 => rfl)
      (fun b0 => rfl)
theorem w_szHalfS_c (x0 : List Half) (x1 : Int)  : Con Tryz.prog 21 (pvs [.sc (.sl .half), .sc (.int .i64)] (x0, x1, ())) [rv (.sc (.int .i64)) [] (w_szHalfS x0 x1)] := by
  exact evalFn_con0 teFact mixFact (orcOf_ok _) Tryz.func21 (by kernel_rfl) ((w_szHalfS_lk x0 x1).trans (w_szHalfS_p x0 x1  _ _ _))
noncomputable def w_szHalfS_e : Ent1 Tryz.prog := entA 21 [.sc (.sl .half), .sc (.int .i64)] (fun x => (w_szHalfS x.1 x.2.1)) (fun v => [rv (.sc (.int .i64)) [] v]) (fun x => w_szHalfS_c x.1 x.2.1)


/-- spec.l1In -/
def s_l1In_N (x0 : Int) (x1 : Int) (x2 : Int) (γ : Type) (fail : γ) (k : Bool → γ) : γ :=
  bif (decide (x1 ≤ x0)) then
    k (decide (x0 ≤ x2))
  else
  k false
def s_l1In (x0 : Int) (x1 : Int) (x2 : Int) : Bool :=
  bif (decide (x1 ≤ x0)) then
    (decide (x0 ≤ x2))
  else
  false
theorem s_l1In_lk (x0 : Int) (x1 : Int) (x2 : Int) : evalFn te (orcOf (P := Tryz.prog) []) lorc0 [] Tryz.f28 (pvs [.sc (.int .i64), .sc (.int .i64), .sc (.int .i64)] (x0, x1, x2, ())) =
  s_l1In_N x0 x1 x2 _ none (fun v => some [(false, [RC.c (.bool v)])]) := by kernel_rfl
theorem s_l1In_p (x0 : Int) (x1 : Int) (x2 : Int)   (γ : Type) (fail : γ) (k : Bool → γ) : s_l1In_N x0 x1 x2 γ fail k = k (s_l1In x0 x1 x2) := by
  unfold s_l1In_N s_l1In
  exact bifT (f := k) (fun b0 => rfl)
      (fun b0 => rfl)
theorem s_l1In_c (x0 : Int) (x1 : Int) (x2 : Int)  : Con Tryz.prog 28 (pvs [.sc (.int .i64), .sc (.int .i64), .sc (.int .i64)] (x0, x1, x2, ())) [rv (.sc .bool) [] (s_l1In x0 x1 x2)] := by
  exact evalFn_con0 teFact mixFact (orcOf_ok _) Tryz.func28 (by kernel_rfl) ((s_l1In_lk x0 x1 x2).trans (s_l1In_p x0 x1 x2  _ _ _))
noncomputable def s_l1In_e : Ent1 Tryz.prog := entA 28 [.sc (.int .i64), .sc (.int .i64), .sc (.int .i64)] (fun x => (s_l1In x.1 x.2.1 x.2.2.1)) (fun v => [rv (.sc .bool) [] v]) (fun x => s_l1In_c x.1 x.2.1 x.2.2.1)

theorem s_l1In_eq (n lo hi : Int) : s_l1In n lo hi = (decide (lo ≤ n) && decide (n ≤ hi)) := by
  unfold s_l1In
  cases decide (lo ≤ n) <;> rfl


/-- spec.FindConn -/
def s_FindConn_ann : List (Nat × Keep) := [(0, ⟨[2, 3, 5], [], false, 0⟩)]
def s_FindConn_L0_sh : Sh := ⟨[(2, false, [.ptr 0 0]), (3, false, [.ptr 1 0]), (5, false, [.int .i64])], [.box [.sl .arg .conn, .sl .arg .tupl], .box [.int .i64, .int .i64, .int .i64]]⟩
def s_FindConn_L0_es : List (Ex × Sh) := [(.ret, ⟨[(4, false, [.int .i64])], []⟩), (.exit 0, ⟨[(4, false, [.undef])], []⟩)]
def s_FindConn_L0_mk (v0 : Int) (v1 : List Conn) (v2 : List Tupl) (v3 : Int) (v4 : Int) (v5 : Int) : s_FindConn_L0_sh.T := ((((), ()), (((), ()), ((v0, ()), ()))), ((v1, (v2, ())), ((v3, (v4, (v5, ()))), ())))
def s_FindConn_L0_mx0 (y0 : Int) : Sh.T ⟨[(4, false, [.int .i64])], []⟩ := (((y0, ()), ()), ())
def s_FindConn_L0_mx1  : Sh.T ⟨[(4, false, [.undef])], []⟩ := ((((), ()), ()), ())
def s_FindConn_L0_B (v0 : Int) (v1 : List Conn) (v2 : List Tupl) (v3 : Int) (v4 : Int) (v5 : Int) (γ : Type) (fail : γ) (next : s_FindConn_L0_sh.T → γ) (out : WT s_FindConn_L0_es → γ) : γ :=
  bif (decide (v0 < (v1.length : Int))) then
    bif ((decide (0 ≤ v0)) && (decide (v0 < (v1.length : Int)))) then
    bif (((v1.getD v0.toNat (Ty.zero .conn)).tuple.ip == v3) && (((v1.getD v0.toNat (Ty.zero .conn)).tuple.port == v4) && (((v1.getD v0.toNat (Ty.zero .conn)).tuple.my == v5) && true))) then
      out (Sum.inl (s_FindConn_L0_mx0 v0))
    else
    next (s_FindConn_L0_mk (IntKind.wrap .i64 (v0 + 1)) v1 v2 v3 v4 v5)
    else fail
  else
  out (Sum.inr (s_FindConn_L0_mx1 ))
theorem s_FindConn_L0_par (v0 : Int) (v1 : List Conn) (v2 : List Tupl) (v3 : Int) (v4 : Int) (v5 : Int) (γ : Type) (fail : γ) (next : s_FindConn_L0_sh.T → γ) (out : WT s_FindConn_L0_es → γ) : s_FindConn_L0_B v0 v1 v2 v3 v4 v5 γ fail next out = optK (s_FindConn_L0_B v0 v1 v2 v3 v4 v5 _ none (fun v' => some (.inl v')) (fun w => some (.inr w))) fail (fun r => Sum.elim next out r) := by
  unfold s_FindConn_L0_B
  exact bifT (f := (fun o => optK o fail (fun r => Sum.elim next out r))) (fun _ => bifT (f := (fun o => optK o fail (fun r => Sum.elim next out r))) (fun _ => bifT (f := (fun o => optK o fail (fun r => Sum.elim next out r))) (fun _ => rfl)
      (fun _ => rfl)) (fun _ => rfl))
      (fun _ => rfl)
def s_FindConn_L0_r : Round s_FindConn_L0_sh.T (WT s_FindConn_L0_es) where
  B v γ fail next out := s_FindConn_L0_B v.1.2.2.1.1 v.2.1.1 v.2.1.2.1 v.2.2.1.1 v.2.2.1.2.1 v.2.2.1.2.2.1 γ fail next out
  par v γ fail next out := s_FindConn_L0_par v.1.2.2.1.1 v.2.1.1 v.2.1.2.1 v.2.2.1.1 v.2.2.1.2.1 v.2.2.1.2.2.1 γ fail next out
def s_FindConn_L0_fu (v0 : Int) (v1 : List Conn) (v2 : List Tupl) (v3 : Int) (v4 : Int) (v5 : Int) : Nat := (Int.toNat ((v1.length : Int) - v0)) + 1
theorem s_FindConn_L0_lk (v : s_FindConn_L0_sh.T) (next : St → Option Res) (k : Ex → St → Option Res) : evalK te (orcOf (P := Tryz.prog) []) (lorcOf []) Tryz.f29.ntmps s_FindConn_ann (nthLoop (bodyOf Tryz.f29) 0 0) 0 (s_FindConn_L0_sh.enc v) (endK ⟨[2, 3, 5], [], false, 0⟩ ⟨[4], [], false, 0⟩ next k) =
  s_FindConn_L0_r.B v _ none (fun v' => next (s_FindConn_L0_sh.enc v')) (fun w => outK s_FindConn_L0_es k w) := by kernel_rfl
def s_FindConn_L0_le : LE := leOf 0 s_FindConn_L0_sh s_FindConn_L0_es s_FindConn_L0_r.step (fun v => s_FindConn_L0_fu v.1.2.2.1.1 v.2.1.1 v.2.1.2.1 v.2.2.1.1 v.2.2.1.2.1 v.2.2.1.2.2.1)
theorem s_FindConn_L0_ls (w0 : World) (mo : Mts) (I0 : Nat → Prop) (hmo : mo.length = 0) : LSem Tryz.prog (Sim w0 mo Tryz.f29.ntmps I0) (fun b s k => match Nat.beq 0 b with | true => s_FindConn_L0_le.run s k | false => none) 0 (nthLoop (bodyOf Tryz.f29) 0 0) :=
  le_sem hmo (lorc := lorcOf []) (ann := s_FindConn_ann) (keep := ⟨[2, 3, 5], [], false, 0⟩) (kout := ⟨[4], [], false, 0⟩) teFact mixFact (orcOf_ok _) (by kernel_rfl) (allLoops_of (bs := []) (by kernel_rfl) trivial) s_FindConn_L0_r _ s_FindConn_L0_lk
def s_FindConn_L0_f (v1 : List Conn) (v2 : List Tupl) (v3 : Int) (v4 : Int) (v5 : Int) (v0 : Int) (a : Unit) : Stp (Unit) ((Int)) :=
  bif (((v1.getD v0.toNat (Ty.zero .conn)).tuple.ip == v3) && (((v1.getD v0.toNat (Ty.zero .conn)).tuple.port == v4) && (((v1.getD v0.toNat (Ty.zero .conn)).tuple.my == v5) && true))) then
    .out (v0)
  else
  .next ()
theorem s_FindConn_L0_st (v0 : Int) (v1 : List Conn) (v2 : List Tupl) (v3 : Int) (v4 : Int) (v5 : Int) (hlo : 0 ≤ v0) (hhi : v0 < (v1.length : Int)) (hN : (v1.length : Int) ≤ 4611686018427387904) : s_FindConn_L0_r.step (s_FindConn_L0_mk v0 v1 v2 v3 v4 v5) = Stp.elim (fun a' : Unit => some (Sum.inl (s_FindConn_L0_mk (v0 + 1) v1 v2 v3 v4 v5))) (fun w => some (Sum.inr ((fun p : Int => Sum.inl (s_FindConn_L0_mx0 p)) w))) (s_FindConn_L0_f v1 v2 v3 v4 v5 v0 ()) := by
  have hw : (IntKind.wrap .i64 (v0 + 1)) = v0 + 1 := wrap64 (by omega) (by omega)
  show s_FindConn_L0_B v0 v1 v2 v3 v4 v5 (Option (s_FindConn_L0_sh.T ⊕ WT s_FindConn_L0_es)) none (fun v' => some (Sum.inl v')) (fun w => some (Sum.inr w)) = _
  unfold s_FindConn_L0_B s_FindConn_L0_f
  exact bifG (by simp only [decide_eq_true_eq]; omega) (bifG (by (try simp only [Nat.ble_eq, Bool.and_eq_true, decide_eq_true_eq]); grind [maxSl, maxStr, toBytes_length, toInts_length, List.length_set, wrap64]) (bifT (f := (Stp.elim (fun a' : Unit => some (Sum.inl (s_FindConn_L0_mk (v0 + 1) v1 v2 v3 v4 v5))) (fun w => some (Sum.inr ((fun p : Int => Sum.inl (s_FindConn_L0_mx0 p)) w))))) (fun b0 => rfl)
      (fun b0 => (by exact congrArg (fun z => some (Sum.inl (s_FindConn_L0_mk z v1 v2 v3 v4 v5))) hw))))
theorem s_FindConn_L0_cl (v0 : Int) (v1 : List Conn) (v2 : List Tupl) (v3 : Int) (v4 : Int) (v5 : Int) (h0 : 0 ≤ v0) (h1 : (v1.length : Int) ≤ 4611686018427387904) : loopF s_FindConn_L0_r.step (s_FindConn_L0_fu v0 v1 v2 v3 v4 v5) (s_FindConn_L0_mk v0 v1 v2 v3 v4 v5) = some (Stp.elim (fun a => (fun i a => Sum.inr (s_FindConn_L0_mx1 )) (v0 + 1 * (((Int.toNat ((v1.length : Int) - v0)) : Nat) : Int)) a) (fun p : Int => Sum.inl (s_FindConn_L0_mx0 p)) (forN (s_FindConn_L0_f v1 v2 v3 v4 v5) 1 (Int.toNat ((v1.length : Int) - v0)) v0 ())) :=
  forN_loop (step := s_FindConn_L0_r.step) (mk := fun v0 a => s_FindConn_L0_mk v0 v1 v2 v3 v4 v5) (f := s_FindConn_L0_f v1 v2 v3 v4 v5) (e := (fun i a => Sum.inr (s_FindConn_L0_mx1 ))) (emb := (fun p : Int => Sum.inl (s_FindConn_L0_mx0 p))) (st := 1) (Inv := fun v0 a => True) (Int.toNat ((v1.length : Int) - v0)) v0 () _ (Nat.lt_succ_self _) trivial
    (fun j a hj hv => ⟨s_FindConn_L0_st (v0 + 1 * (j : Int)) v1 v2 v3 v4 v5 (by omega) (by omega) (by omega), fun _ _ => trivial⟩)
    (fun a hv => by
      show s_FindConn_L0_B (v0 + 1 * (((Int.toNat ((v1.length : Int) - v0)) : Nat) : Int)) v1 v2 v3 v4 v5 (Option (s_FindConn_L0_sh.T ⊕ WT s_FindConn_L0_es)) none (fun v' => some (Sum.inl v')) (fun w => some (Sum.inr w)) = _
      unfold s_FindConn_L0_B
      exact bifN (by simp only [decide_eq_false_iff_not]; omega) rfl)
def s_FindConn_N (x0 : Tabl) (x1 : Tupl) (γ : Type) (fail : γ) (k : Int → γ) : γ :=
  optK (loopF s_FindConn_L0_r.step (s_FindConn_L0_fu 0 x0.conns x0.waiting x1.ip x1.port x1.my) (s_FindConn_L0_mk 0 x0.conns x0.waiting x1.ip x1.port x1.my)) fail fun w1 =>
    Sum.elim (fun w1 =>
      k w1.1.1.1)
    (fun w1 =>
      k (-1)) w1
def s_FindConn (x0 : Tabl) (x1 : Tupl) : Int :=
  Stp.elim (fun a2 =>
    (-1))
    (fun p2 =>
      p2)
    (forN (s_FindConn_L0_f x0.conns x0.waiting x1.ip x1.port x1.my) 1 (Int.toNat ((x0.conns.length : Int) - 0)) 0 ())
theorem s_FindConn_lk (x0 : Tabl) (x1 : Tupl) : evalFn te (orcOf (P := Tryz.prog) []) (lorcOf [s_FindConn_L0_le]) s_FindConn_ann Tryz.f29 (pvs [.st .tabl, .st .tupl] (x0, x1, ())) =
  s_FindConn_N x0 x1 _ none (fun v => some [(false, [RC.c (.int .i64 v)])]) := by kernel_rfl
theorem s_FindConn_p (x0 : Tabl) (x1 : Tupl) (hx0_conns : x0.conns.length ≤ 140737488355328) (hx0_conns_e : ∀ y ∈ x0.conns, ∀ c ∈ Ty.cells .conn y, FactC c) (hx0_waiting : x0.waiting.length ≤ 140737488355328) (hx1_ip : inK .i64 x1.ip) (hx1_port : inK .i64 x1.port) (hx1_my : inK .i64 x1.my)  (γ : Type) (fail : γ) (k : Int → γ) : s_FindConn_N x0 x1 γ fail k = k (s_FindConn x0 x1) := by
  unfold s_FindConn_N s_FindConn
  exact loopT (f := k) (s_FindConn_L0_cl 0 x0.conns x0.waiting x1.ip x1.port x1.my (by (try simp only [Nat.ble_eq, Bool.and_eq_true, decide_eq_true_eq, s_FindConn_L0_mx0, s_FindConn_L0_mx1]); grind [maxSl, maxStr, toBytes_length, toInts_length, List.length_set, wrap64]) (by (try simp only [Nat.ble_eq, Bool.and_eq_true, decide_eq_true_eq, s_FindConn_L0_mx0, s_FindConn_L0_mx1]); grind [maxSl, maxStr, toBytes_length, toInts_length, List.length_set, wrap64])) (fun a2 => rfl)
      (fun p2 => rfl)
theorem s_FindConn_c (x0 : Tabl) (x1 : Tupl)  : Con Tryz.prog 29 (pvs [.st .tabl, .st .tupl] (x0, x1, ())) [rv (.sc (.int .i64)) [] (s_FindConn x0 x1)] := by
  refine Con.of_facts (enters_of Tryz.func29 rfl (by kernel_rfl)) fun hf => ?_
  replace hf := factAt hf
  exact evalFn_conL teFact mixFact (orcOf_ok _) Tryz.func29 (by kernel_rfl) (bs := [0]) (by kernel_rfl) (by kernel_rfl) (fun w0 mo I0 hmo => ⟨lsem_of_lorc (s_FindConn_L0_ls w0 mo I0 hmo) (by kernel_rfl), trivial⟩) ((s_FindConn_lk x0 x1).trans (s_FindConn_p x0 x1 ((hf 0 0 rfl rfl).len) (fun y hy => (hf 0 0 rfl rfl).elem hy) ((hf 0 1 rfl rfl).len) ((hf 1 0 rfl rfl).rng) ((hf 1 1 rfl rfl).rng) ((hf 1 2 rfl rfl).rng) _ _ _))
noncomputable def s_FindConn_e : Ent1 Tryz.prog := entA 29 [.st .tabl, .st .tupl] (fun x => (s_FindConn x.1 x.2.1)) (fun v => [rv (.sc (.int .i64)) [] v]) (fun x => s_FindConn_c x.1 x.2.1)


/-- laws.toLimits -/
def w_toLimits_N (x0 : Limi) (γ : Type) (fail : γ) (k : Limi → γ) : γ :=
  k x0
def w_toLimits (x0 : Limi) : Limi :=
  x0
theorem w_toLimits_lk (x0 : Limi) : evalFn te (orcOf (P := Tryz.prog) []) lorc0 [] Tryz.f32 (pvs [.st .limi] (x0, ())) =
  w_toLimits_N x0 _ none (fun v => some [(true, [RC.c (.int .i64 v.halves), RC.c (.int .i64 v.waiting), RC.c (.int .i64 v.conns), RC.c (.int .i64 v.chal)])]) := by kernel_rfl
theorem w_toLimits_p (x0 : Limi)   (γ : Type) (fail : γ) (k : Limi → γ) : w_toLimits_N x0 γ fail k = k (w_toLimits x0) := by
  unfold w_toLimits_N w_toLimits
  exact rfl
theorem w_toLimits_c (x0 : Limi)  : Con Tryz.prog 32 (pvs [.st .limi] (x0, ())) [rv (.st .limi) [] (w_toLimits x0)] := by
  exact evalFn_con0 teFact mixFact (orcOf_ok _) Tryz.func32 (by kernel_rfl) ((w_toLimits_lk x0).trans (w_toLimits_p x0  _ _ _))
noncomputable def w_toLimits_e : Ent1 Tryz.prog := entA 32 [.st .limi] (fun x => (w_toLimits x.1)) (fun v => [rv (.st .limi) [] v]) (fun x => w_toLimits_c x.1)


/-- impl.within -/
def i_within_N (x0 : Int) (x1 : Int) (x2 : Int) (γ : Type) (fail : γ) (k : Bool → γ) : γ :=
  bif (decide (x1 ≤ x0)) then
    k (decide (x0 ≤ x2))
  else
  k false
def i_within (x0 : Int) (x1 : Int) (x2 : Int) : Bool :=
  bif (decide (x1 ≤ x0)) then
    (decide (x0 ≤ x2))
  else
  false
theorem i_within_lk (x0 : Int) (x1 : Int) (x2 : Int) : evalFn te (orcOf (P := Tryz.prog) []) lorc0 [] Tryz.f40 (pvs [.sc (.int .i64), .sc (.int .i64), .sc (.int .i64)] (x0, x1, x2, ())) =
  i_within_N x0 x1 x2 _ none (fun v => some [(false, [RC.c (.bool v)])]) := by kernel_rfl
theorem i_within_p (x0 : Int) (x1 : Int) (x2 : Int)   (γ : Type) (fail : γ) (k : Bool → γ) : i_within_N x0 x1 x2 γ fail k = k (i_within x0 x1 x2) := by
  unfold i_within_N i_within
  exact bifT (f := k) (fun b0 => rfl)
      (fun b0 => rfl)
theorem i_within_c (x0 : Int) (x1 : Int) (x2 : Int)  : Con Tryz.prog 40 (pvs [.sc (.int .i64), .sc (.int .i64), .sc (.int .i64)] (x0, x1, x2, ())) [rv (.sc .bool) [] (i_within x0 x1 x2)] := by
  exact evalFn_con0 teFact mixFact (orcOf_ok _) Tryz.func40 (by kernel_rfl) ((i_within_lk x0 x1 x2).trans (i_within_p x0 x1 x2  _ _ _))
noncomputable def i_within_e : Ent1 Tryz.prog := entA 40 [.sc (.int .i64), .sc (.int .i64), .sc (.int .i64)] (fun x => (i_within x.1 x.2.1 x.2.2.1)) (fun v => [rv (.sc .bool) [] v]) (fun x => i_within_c x.1 x.2.1 x.2.2.1)

theorem i_within_eq (n lo hi : Int) : i_within n lo hi = (decide (lo ≤ n) && decide (n ≤ hi)) := by
  unfold i_within
  cases decide (lo ≤ n) <;> rfl


/-- laws.eqLimits -/
def w_eqLimits_N (x0 : Limi) (x1 : Limi) (γ : Type) (fail : γ) (k : Bool → γ) : γ :=
  bif (x0.halves != x1.halves) then
    k false
  else
  bif (x0.waiting != x1.waiting) then
    k false
  else
  bif (x0.conns != x1.conns) then
    k false
  else
  bif (x0.chal != x1.chal) then
    k false
  else
  k true
def w_eqLimits (x0 : Limi) (x1 : Limi) : Bool :=
  bif (x0.halves != x1.halves) then
    false
  else
  bif (x0.waiting != x1.waiting) then
    false
  else
  bif (x0.conns != x1.conns) then
    false
  else
  bif (x0.chal != x1.chal) then
    false
  else
  true
theorem w_eqLimits_lk (x0 : Limi) (x1 : Limi) : evalFn te (orcOf (P := Tryz.prog) []) lorc0 [] Tryz.f46 (pvs [.st .limi, .st .limi] (x0, x1, ())) =
  w_eqLimits_N x0 x1 _ none (fun v => some [(false, [RC.c (.bool v)])]) := by kernel_rfl
theorem w_eqLimits_p (x0 : Limi) (x1 : Limi)   (γ : Type) (fail : γ) (k : Bool → γ) : w_eqLimits_N x0 x1 γ fail k = k (w_eqLimits x0 x1) := by
  unfold w_eqLimits_N w_eqLimits
  exact bifT (f := k) (fun b0 => rfl)
      (fun b0 => bifT (f := k) (fun b1 => rfl)
      (fun b1 => bifT (f := k) (fun b2 => rfl)
      (fun b2 => bifT (f := k) (fun b3 => rfl)
      (fun b3 => rfl))))
theorem w_eqLimits_c (x0 : Limi) (x1 : Limi)  : Con Tryz.prog 46 (pvs [.st .limi, .st .limi] (x0, x1, ())) [rv (.sc .bool) [] (w_eqLimits x0 x1)] := by
  exact evalFn_con0 teFact mixFact (orcOf_ok _) Tryz.func46 (by kernel_rfl) ((w_eqLimits_lk x0 x1).trans (w_eqLimits_p x0 x1  _ _ _))
noncomputable def w_eqLimits_e : Ent1 Tryz.prog := entA 46 [.st .limi, .st .limi] (fun x => (w_eqLimits x.1 x.2.1)) (fun v => [rv (.sc .bool) [] v]) (fun x => w_eqLimits_c x.1 x.2.1)


/-- laws.szTupleS -/
def w_szTupleS_N (x0 : List Tupl) (x1 : Int) (γ : Type) (fail : γ) (k : Int → γ) : γ :=
  bif (decide ((IntKind.wrap .i64 (x1 - (x0.length : Int))) < 0)) then
    k (-1)
  else
  k (IntKind.wrap .i64 (x1 - (x0.length : Int)))
def w_szTupleS (x0 : List Tupl) (x1 : Int) : Int :=
  bif (decide ((IntKind.wrap .i64 (x1 - (x0.length : Int))) < 0)) then
    (-1)
  else
  (IntKind.wrap .i64 (x1 - (x0.length : Int)))
theorem w_szTupleS_lk (x0 : List Tupl) (x1 : Int) : evalFn te (orcOf (P := Tryz.prog) []) lorc0 [] Tryz.f51 (pvs [.sc (.sl .tupl), .sc (.int .i64)] (x0, x1, ())) =
  w_szTupleS_N x0 x1 _ none (fun v => some [(false, [RC.c (.int .i64 v)])]) := by kernel_rfl
theorem w_szTupleS_p (x0 : List Tupl) (x1 : Int)   (γ : Type) (fail : γ) (k : Int → γ) : w_szTupleS_N x0 x1 γ fail k = k (w_szTupleS x0 x1) := by
  unfold w_szTupleS_N w_szTupleS
  exact bifT (f := k) (fun b0 => rfl)
      (fun b0 => rfl)
theorem w_szTupleS_c (x0 : List Tupl) (x1 : Int)  : Con Tryz.prog 51 (pvs [.sc (.sl .tupl), .sc (.int .i64)] (x0, x1, ())) [rv (.sc (.int .i64)) [] (w_szTupleS x0 x1)] := by
  exact evalFn_con0 teFact mixFact (orcOf_ok _) Tryz.func51 (by kernel_rfl) ((w_szTupleS_lk x0 x1).trans (w_szTupleS_p x0 x1  _ _ _))
noncomputable def w_szTupleS_e : Ent1 Tryz.prog := entA 51 [.sc (.sl .tupl), .sc (.int .i64)] (fun x => (w_szTupleS x.1 x.2.1)) (fun v => [rv (.sc (.int .i64)) [] v]) (fun x => w_szTupleS_c x.1 x.2.1)


/-- spec.l15At -/
def s_l15At_ann : List (Nat × Keep) := [(0, ⟨[0, 1, 5], [], false, 0⟩)]
def s_l15At_L0_sh : Sh := ⟨[(0, false, [.sl .arg .entr]), (1, false, [.int .i64]), (5, false, [.int .i64])], []⟩
def s_l15At_L0_es : List (Ex × Sh) := [(.ret, ⟨[(4, false, [.int .i64])], []⟩), (.exit 0, ⟨[(4, false, [.undef])], []⟩)]
def s_l15At_L0_mk (v0 : List Entr) (v1 : Int) (v2 : Int) : s_l15At_L0_sh.T := (((v0, ()), ((v1, ()), ((v2, ()), ()))), ())
def s_l15At_L0_mx0 (y0 : Int) : Sh.T ⟨[(4, false, [.int .i64])], []⟩ := (((y0, ()), ()), ())
def s_l15At_L0_mx1  : Sh.T ⟨[(4, false, [.undef])], []⟩ := ((((), ()), ()), ())
def s_l15At_L0_B (v0 : List Entr) (v1 : Int) (v2 : Int) (γ : Type) (fail : γ) (next : s_l15At_L0_sh.T → γ) (out : WT s_l15At_L0_es → γ) : γ :=
  bif (decide (v2 < (v0.length : Int))) then
    bif ((decide (0 ≤ v2)) && (decide (v2 < (v0.length : Int)))) then
    bif ((v0.getD v2.toNat (Ty.zero .entr)).ip == v1) then
      out (Sum.inl (s_l15At_L0_mx0 v2))
    else
    next (s_l15At_L0_mk v0 v1 (IntKind.wrap .i64 (v2 + 1)))
    else fail
  else
  out (Sum.inr (s_l15At_L0_mx1 ))
theorem s_l15At_L0_par (v0 : List Entr) (v1 : Int) (v2 : Int) (γ : Type) (fail : γ) (next : s_l15At_L0_sh.T → γ) (out : WT s_l15At_L0_es → γ) : s_l15At_L0_B v0 v1 v2 γ fail next out = optK (s_l15At_L0_B v0 v1 v2 _ none (fun v' => some (.inl v')) (fun w => some (.inr w))) fail (fun r => Sum.elim next out r) := by
  unfold s_l15At_L0_B
  exact bifT (f := (fun o => optK o fail (fun r => Sum.elim next out r))) (fun _ => bifT (f := (fun o => optK o fail (fun r => Sum.elim next out r))) (fun _ => bifT (f := (fun o => optK o fail (fun r => Sum.elim next out r))) (fun _ => rfl)
      (fun _ => rfl)) (fun _ => rfl))
      (fun _ => rfl)
def s_l15At_L0_r : Round s_l15At_L0_sh.T (WT s_l15At_L0_es) where
  B v γ fail next out := s_l15At_L0_B v.1.1.1 v.1.2.1.1 v.1.2.2.1.1 γ fail next out
  par v γ fail next out := s_l15At_L0_par v.1.1.1 v.1.2.1.1 v.1.2.2.1.1 γ fail next out
def s_l15At_L0_fu (v0 : List Entr) (v1 : Int) (v2 : Int) : Nat := (Int.toNat ((v0.length : Int) - v2)) + 1
theorem s_l15At_L0_lk (v : s_l15At_L0_sh.T) (next : St → Option Res) (k : Ex → St → Option Res) : evalK te (orcOf (P := Tryz.prog) []) (lorcOf []) Tryz.f52.ntmps s_l15At_ann (nthLoop (bodyOf Tryz.f52) 0 0) 0 (s_l15At_L0_sh.enc v) (endK ⟨[0, 1, 5], [], false, 0⟩ ⟨[4], [], false, 0⟩ next k) =
  s_l15At_L0_r.B v _ none (fun v' => next (s_l15At_L0_sh.enc v')) (fun w => outK s_l15At_L0_es k w) := by kernel_rfl
def s_l15At_L0_le : LE := leOf 0 s_l15At_L0_sh s_l15At_L0_es s_l15At_L0_r.step (fun v => s_l15At_L0_fu v.1.1.1 v.1.2.1.1 v.1.2.2.1.1)
theorem s_l15At_L0_ls (w0 : World) (mo : Mts) (I0 : Nat → Prop) (hmo : mo.length = 0) : LSem Tryz.prog (Sim w0 mo Tryz.f52.ntmps I0) (fun b s k => match Nat.beq 0 b with | true => s_l15At_L0_le.run s k | false => none) 0 (nthLoop (bodyOf Tryz.f52) 0 0) :=
  le_sem hmo (lorc := lorcOf []) (ann := s_l15At_ann) (keep := ⟨[0, 1, 5], [], false, 0⟩) (kout := ⟨[4], [], false, 0⟩) teFact mixFact (orcOf_ok _) (by kernel_rfl) (allLoops_of (bs := []) (by kernel_rfl) trivial) s_l15At_L0_r _ s_l15At_L0_lk
def s_l15At_L0_f (v0 : List Entr) (v1 : Int) (v2 : Int) (a : Unit) : Stp (Unit) ((Int)) :=
  bif ((v0.getD v2.toNat (Ty.zero .entr)).ip == v1) then
    .out (v2)
  else
  .next ()
theorem s_l15At_L0_st (v0 : List Entr) (v1 : Int) (v2 : Int) (hlo : 0 ≤ v2) (hhi : v2 < (v0.length : Int)) (hN : (v0.length : Int) ≤ 4611686018427387904) : s_l15At_L0_r.step (s_l15At_L0_mk v0 v1 v2) = Stp.elim (fun a' : Unit => some (Sum.inl (s_l15At_L0_mk v0 v1 (v2 + 1)))) (fun w => some (Sum.inr ((fun p : Int => Sum.inl (s_l15At_L0_mx0 p)) w))) (s_l15At_L0_f v0 v1 v2 ()) := by
  have hw : (IntKind.wrap .i64 (v2 + 1)) = v2 + 1 := wrap64 (by omega) (by omega)
  show s_l15At_L0_B v0 v1 v2 (Option (s_l15At_L0_sh.T ⊕ WT s_l15At_L0_es)) none (fun v' => some (Sum.inl v')) (fun w => some (Sum.inr w)) = _
  unfold s_l15At_L0_B s_l15At_L0_f
  exact bifG (by simp only [decide_eq_true_eq]; omega) (bifG (by (try simp only [Nat.ble_eq, Bool.and_eq_true, decide_eq_true_eq]); grind [maxSl, maxStr, toBytes_length, toInts_length, List.length_set, wrap64]) (bifT (f := (Stp.elim (fun a' : Unit => some (Sum.inl (s_l15At_L0_mk v0 v1 (v2 + 1)))) (fun w => some (Sum.inr ((fun p : Int => Sum.inl (s_l15At_L0_mx0 p)) w))))) (fun b0 => rfl)
      (fun b0 => (by exact congrArg (fun z => some (Sum.inl (s_l15At_L0_mk v0 v1 z))) hw))))
theorem s_l15At_L0_cl (v0 : List Entr) (v1 : Int) (v2 : Int) (h0 : 0 ≤ v2) (h1 : (v0.length : Int) ≤ 4611686018427387904) : loopF s_l15At_L0_r.step (s_l15At_L0_fu v0 v1 v2) (s_l15At_L0_mk v0 v1 v2) = some (Stp.elim (fun a => (fun i a => Sum.inr (s_l15At_L0_mx1 )) (v2 + 1 * (((Int.toNat ((v0.length : Int) - v2)) : Nat) : Int)) a) (fun p : Int => Sum.inl (s_l15At_L0_mx0 p)) (forN (s_l15At_L0_f v0 v1) 1 (Int.toNat ((v0.length : Int) - v2)) v2 ())) :=
  forN_loop (step := s_l15At_L0_r.step) (mk := fun v2 a => s_l15At_L0_mk v0 v1 v2) (f := s_l15At_L0_f v0 v1) (e := (fun i a => Sum.inr (s_l15At_L0_mx1 ))) (emb := (fun p : Int => Sum.inl (s_l15At_L0_mx0 p))) (st := 1) (Inv := fun v2 a => True) (Int.toNat ((v0.length : Int) - v2)) v2 () _ (Nat.lt_succ_self _) trivial
    (fun j a hj hv => ⟨s_l15At_L0_st v0 v1 (v2 + 1 * (j : Int)) (by omega) (by omega) (by omega), fun _ _ => trivial⟩)
    (fun a hv => by
      show s_l15At_L0_B v0 v1 (v2 + 1 * (((Int.toNat ((v0.length : Int) - v2)) : Nat) : Int)) (Option (s_l15At_L0_sh.T ⊕ WT s_l15At_L0_es)) none (fun v' => some (Sum.inl v')) (fun w => some (Sum.inr w)) = _
      unfold s_l15At_L0_B
      exact bifN (by simp only [decide_eq_false_iff_not]; omega) rfl)
def s_l15At_N (x0 : List Entr) (x1 : Int) (γ : Type) (fail : γ) (k : Int → γ) : γ :=
  optK (loopF s_l15At_L0_r.step (s_l15At_L0_fu x0 x1 0) (s_l15At_L0_mk x0 x1 0)) fail fun w1 =>
    Sum.elim (fun w1 =>
      k w1.1.1.1)
    (fun w1 =>
      k (-1)) w1
def s_l15At (x0 : List Entr) (x1 : Int) : Int :=
  Stp.elim (fun a2 =>
    (-1))
    (fun p2 =>
      p2)
    (forN (s_l15At_L0_f x0 x1) 1 (Int.toNat ((x0.length : Int) - 0)) 0 ())
theorem s_l15At_lk (x0 : List Entr) (x1 : Int) : evalFn te (orcOf (P := Tryz.prog) []) (lorcOf [s_l15At_L0_le]) s_l15At_ann Tryz.f52 (pvs [.sc (.sl .entr), .sc (.int .i64)] (x0, x1, ())) =
  s_l15At_N x0 x1 _ none (fun v => some [(false, [RC.c (.int .i64 v)])]) := by kernel_rfl
theorem s_l15At_p (x0 : List Entr) (x1 : Int) (hx0 : x0.length ≤ 140737488355328) (hx1 : inK .i64 x1)  (γ : Type) (fail : γ) (k : Int → γ) : s_l15At_N x0 x1 γ fail k = k (s_l15At x0 x1) := by
  unfold s_l15At_N s_l15At
  exact loopT (f := k) (s_l15At_L0_cl x0 x1 0 (by (try simp only [Nat.ble_eq, Bool.and_eq_true, decide_eq_true_eq, s_l15At_L0_mx0, s_l15At_L0_mx1]); grind [maxSl, maxStr, toBytes_length, toInts_length, List.length_set, wrap64]) (by (try simp only [Nat.ble_eq, Bool.and_eq_true, decide_eq_true_eq, s_l15At_L0_mx0, s_l15At_L0_mx1]); grind [maxSl, maxStr, toBytes_length, toInts_length, List.length_set, wrap64])) (fun a2 => rfl)
      (fun p2 => rfl)
theorem s_l15At_c (x0 : List Entr) (x1 : Int)  : Con Tryz.prog 52 (pvs [.sc (.sl .entr), .sc (.int .i64)] (x0, x1, ())) [rv (.sc (.int .i64)) [] (s_l15At x0 x1)] := by
  refine Con.of_facts (enters_of Tryz.func52 rfl (by kernel_rfl)) fun hf => ?_
  replace hf := factAt hf
  exact evalFn_conL teFact mixFact (orcOf_ok _) Tryz.func52 (by kernel_rfl) (bs := [0]) (by kernel_rfl) (by kernel_rfl) (fun w0 mo I0 hmo => ⟨lsem_of_lorc (s_l15At_L0_ls w0 mo I0 hmo) (by kernel_rfl), trivial⟩) ((s_l15At_lk x0 x1).trans (s_l15At_p x0 x1 ((hf 0 0 rfl rfl).len) ((hf 1 0 rfl rfl).rng) _ _ _))
noncomputable def s_l15At_e : Ent1 Tryz.prog := entA 52 [.sc (.sl .entr), .sc (.int .i64)] (fun x => (s_l15At x.1 x.2.1)) (fun v => [rv (.sc (.int .i64)) [] v]) (fun x => s_l15At_c x.1 x.2.1)


/-- spec.MacOk -/
def s_MacOk_ann : List (Nat × Keep) := [(2, ⟨[1, 3, 4], [], false, 0⟩), (0, ⟨[1, 3], [], false, 0⟩)]
def s_MacOk_L0_0_sh : Sh := ⟨[(1, false, [.ptr 0 0]), (3, false, [.int .i64]), (4, false, [.int .i64])], [.box [.bool, .int .u64, .int .u64, .sl .arg .macRow]]⟩
def s_MacOk_L0_0_es : List (Ex × Sh) := [(.ret, ⟨[(1, false, [.ptr 0 0]), (2, false, [.bool]), (3, false, [.int .i64])], [.box [.bool, .int .u64, .int .u64, .sl .arg .macRow]]⟩), (.exit 2, ⟨[(1, false, [.ptr 0 0]), (2, false, [.undef]), (3, false, [.int .i64])], [.box [.bool, .int .u64, .int .u64, .sl .arg .macRow]]⟩)]
def s_MacOk_L0_0_mk (vb0 : Int) (vb1 : Int) (vb2 : Bool) (vb3 : Int) (vb4 : Int) (vb5 : List MacRow) : s_MacOk_L0_0_sh.T := ((((), ()), ((vb0, ()), ((vb1, ()), ()))), ((vb2, (vb3, (vb4, (vb5, ())))), ()))
def s_MacOk_L0_0_mx0 (y0 : Bool) (y1 : Int) (y2 : Bool) (y3 : Int) (y4 : Int) (y5 : List MacRow) : Sh.T ⟨[(1, false, [.ptr 0 0]), (2, false, [.bool]), (3, false, [.int .i64])], [.box [.bool, .int .u64, .int .u64, .sl .arg .macRow]]⟩ := ((((), ()), ((y0, ()), ((y1, ()), ()))), ((y2, (y3, (y4, (y5, ())))), ()))
def s_MacOk_L0_0_mx1 (y0 : Int) (y1 : Bool) (y2 : Int) (y3 : Int) (y4 : List MacRow) : Sh.T ⟨[(1, false, [.ptr 0 0]), (2, false, [.undef]), (3, false, [.int .i64])], [.box [.bool, .int .u64, .int .u64, .sl .arg .macRow]]⟩ := ((((), ()), (((), ()), ((y0, ()), ()))), ((y1, (y2, (y3, (y4, ())))), ()))
def s_MacOk_L0_0_B (vb0 : Int) (vb1 : Int) (vb2 : Bool) (vb3 : Int) (vb4 : Int) (vb5 : List MacRow) (γ : Type) (fail : γ) (next : s_MacOk_L0_0_sh.T → γ) (out : WT s_MacOk_L0_0_es → γ) : γ :=
  bif (decide (vb1 < vb0)) then
    bif ((decide (0 ≤ vb1)) && (decide (vb1 < (vb5.length : Int)))) then
    bif ((decide (0 ≤ vb0)) && (decide (vb0 < (vb5.length : Int)))) then
    bif ((vb5.getD vb1.toNat (Ty.zero .macRow)).input == (vb5.getD vb0.toNat (Ty.zero .macRow)).input) then
      out (Sum.inl (s_MacOk_L0_0_mx0 false vb0 vb2 vb3 vb4 vb5))
    else
    next (s_MacOk_L0_0_mk vb0 (IntKind.wrap .i64 (vb1 + 1)) vb2 vb3 vb4 vb5)
    else fail
    else fail
  else
  out (Sum.inr (s_MacOk_L0_0_mx1 vb0 vb2 vb3 vb4 vb5))
theorem s_MacOk_L0_0_par (vb0 : Int) (vb1 : Int) (vb2 : Bool) (vb3 : Int) (vb4 : Int) (vb5 : List MacRow) (γ : Type) (fail : γ) (next : s_MacOk_L0_0_sh.T → γ) (out : WT s_MacOk_L0_0_es → γ) : s_MacOk_L0_0_B vb0 vb1 vb2 vb3 vb4 vb5 γ fail next out = optK (s_MacOk_L0_0_B vb0 vb1 vb2 vb3 vb4 vb5 _ none (fun v' => some (.inl v')) (fun w => some (.inr w))) fail (fun r => Sum.elim next out r) := by
  unfold s_MacOk_L0_0_B
  exact bifT (f := (fun o => optK o fail (fun r => Sum.elim next out r))) (fun _ => bifT (f := (fun o => optK o fail (fun r => Sum.elim next out r))) (fun _ => bifT (f := (fun o => optK o fail (fun r => Sum.elim next out r))) (fun _ => bifT (f := (fun o => optK o fail (fun r => Sum.elim next out r))) (fun _ => rfl)
      (fun _ => rfl)) (fun _ => rfl)) (fun _ => rfl))
      (fun _ => rfl)
def s_MacOk_L0_0_r : Round s_MacOk_L0_0_sh.T (WT s_MacOk_L0_0_es) where
  B v γ fail next out := s_MacOk_L0_0_B v.1.2.1.1 v.1.2.2.1.1 v.2.1.1 v.2.1.2.1 v.2.1.2.2.1 v.2.1.2.2.2.1 γ fail next out
  par v γ fail next out := s_MacOk_L0_0_par v.1.2.1.1 v.1.2.2.1.1 v.2.1.1 v.2.1.2.1 v.2.1.2.2.1 v.2.1.2.2.2.1 γ fail next out
def s_MacOk_L0_0_fu (vb0 : Int) (vb1 : Int) (vb2 : Bool) (vb3 : Int) (vb4 : Int) (vb5 : List MacRow) : Nat := (Int.toNat (vb0 - vb1)) + 1
theorem s_MacOk_L0_0_lk (v : s_MacOk_L0_0_sh.T) (next : St → Option Res) (k : Ex → St → Option Res) : evalK te (orcOf (P := Tryz.prog) [s_l1In_e]) (lorcOf []) Tryz.f53.ntmps s_MacOk_ann (nthLoop (nthLoop (bodyOf Tryz.f53) 0 0) 0 0) 2 (s_MacOk_L0_0_sh.enc v) (endK ⟨[1, 3, 4], [], false, 0⟩ ⟨[1, 2, 3], [], false, 0⟩ next k) =
  s_MacOk_L0_0_r.B v _ none (fun v' => next (s_MacOk_L0_0_sh.enc v')) (fun w => outK s_MacOk_L0_0_es k w) := by kernel_rfl
def s_MacOk_L0_0_le : LE := leOf 2 s_MacOk_L0_0_sh s_MacOk_L0_0_es s_MacOk_L0_0_r.step (fun v => s_MacOk_L0_0_fu v.1.2.1.1 v.1.2.2.1.1 v.2.1.1 v.2.1.2.1 v.2.1.2.2.1 v.2.1.2.2.2.1)
theorem s_MacOk_L0_0_ls (w0 : World) (mo : Mts) (I0 : Nat → Prop) (hmo : mo.length = 0) : LSem Tryz.prog (Sim w0 mo Tryz.f53.ntmps I0) (fun b s k => match Nat.beq 2 b with | true => s_MacOk_L0_0_le.run s k | false => none) 2 (nthLoop (nthLoop (bodyOf Tryz.f53) 0 0) 0 0) :=
  le_sem hmo (lorc := lorcOf []) (ann := s_MacOk_ann) (keep := ⟨[1, 3, 4], [], false, 0⟩) (kout := ⟨[1, 2, 3], [], false, 0⟩) teFact mixFact (orcOf_ok _) (by kernel_rfl) (allLoops_of (bs := []) (by kernel_rfl) trivial) s_MacOk_L0_0_r _ s_MacOk_L0_0_lk
def s_MacOk_L0_0_f (vb0 : Int) (vb2 : Bool) (vb3 : Int) (vb4 : Int) (vb5 : List MacRow) (vb1 : Int) (a : Unit) : Stp (Unit) ((Unit)) :=
  bif ((vb5.getD vb1.toNat (Ty.zero .macRow)).input == (vb5.getD vb0.toNat (Ty.zero .macRow)).input) then
    .out (())
  else
  .next ()
theorem s_MacOk_L0_0_st (vb0 : Int) (vb1 : Int) (vb2 : Bool) (vb3 : Int) (vb4 : Int) (vb5 : List MacRow) (hlo : 0 ≤ vb1) (hhi : vb1 < vb0) (hN : vb0 ≤ 4611686018427387904) (hi0 : vb0 ≤ (vb5.length : Int)) (hi1 : 0 ≤ vb0) (hi2 : vb0 < (vb5.length : Int)) : s_MacOk_L0_0_r.step (s_MacOk_L0_0_mk vb0 vb1 vb2 vb3 vb4 vb5) = Stp.elim (fun a' : Unit => some (Sum.inl (s_MacOk_L0_0_mk vb0 (vb1 + 1) vb2 vb3 vb4 vb5))) (fun w => some (Sum.inr ((fun p : Unit => Sum.inl (s_MacOk_L0_0_mx0 false vb0 vb2 vb3 vb4 vb5)) w))) (s_MacOk_L0_0_f vb0 vb2 vb3 vb4 vb5 vb1 ()) := by
  have hw : (IntKind.wrap .i64 (vb1 + 1)) = vb1 + 1 := wrap64 (by omega) (by omega)
  show s_MacOk_L0_0_B vb0 vb1 vb2 vb3 vb4 vb5 (Option (s_MacOk_L0_0_sh.T ⊕ WT s_MacOk_L0_0_es)) none (fun v' => some (Sum.inl v')) (fun w => some (Sum.inr w)) = _
  unfold s_MacOk_L0_0_B s_MacOk_L0_0_f
  exact bifG (by simp only [decide_eq_true_eq]; omega) (bifG (by (try simp only [Nat.ble_eq, Bool.and_eq_true, decide_eq_true_eq]); grind [maxSl, maxStr, toBytes_length, toInts_length, List.length_set, wrap64]) (bifG (by (try simp only [Nat.ble_eq, Bool.and_eq_true, decide_eq_true_eq]); grind [maxSl, maxStr, toBytes_length, toInts_length, List.length_set, wrap64]) (bifT (f := (Stp.elim (fun a' : Unit => some (Sum.inl (s_MacOk_L0_0_mk vb0 (vb1 + 1) vb2 vb3 vb4 vb5))) (fun w => some (Sum.inr ((fun p : Unit => Sum.inl (s_MacOk_L0_0_mx0 false vb0 vb2 vb3 vb4 vb5)) w))))) (fun b0 => rfl)
      (fun b0 => (by exact congrArg (fun z => some (Sum.inl (s_MacOk_L0_0_mk vb0 z vb2 vb3 vb4 vb5))) hw)))))
theorem s_MacOk_L0_0_cl (vb0 : Int) (vb1 : Int) (vb2 : Bool) (vb3 : Int) (vb4 : Int) (vb5 : List MacRow) (h0 : 0 ≤ vb1) (h1 : vb0 ≤ 4611686018427387904) (h2 : vb0 ≤ (vb5.length : Int)) (h3 : 0 ≤ vb0) (h4 : vb0 < (vb5.length : Int)) : loopF s_MacOk_L0_0_r.step (s_MacOk_L0_0_fu vb0 vb1 vb2 vb3 vb4 vb5) (s_MacOk_L0_0_mk vb0 vb1 vb2 vb3 vb4 vb5) = some (Stp.elim (fun a => (fun i a => Sum.inr (s_MacOk_L0_0_mx1 vb0 vb2 vb3 vb4 vb5)) (vb1 + 1 * (((Int.toNat (vb0 - vb1)) : Nat) : Int)) a) (fun p : Unit => Sum.inl (s_MacOk_L0_0_mx0 false vb0 vb2 vb3 vb4 vb5)) (forN (s_MacOk_L0_0_f vb0 vb2 vb3 vb4 vb5) 1 (Int.toNat (vb0 - vb1)) vb1 ())) :=
  forN_loop (step := s_MacOk_L0_0_r.step) (mk := fun vb1 a => s_MacOk_L0_0_mk vb0 vb1 vb2 vb3 vb4 vb5) (f := s_MacOk_L0_0_f vb0 vb2 vb3 vb4 vb5) (e := (fun i a => Sum.inr (s_MacOk_L0_0_mx1 vb0 vb2 vb3 vb4 vb5))) (emb := (fun p : Unit => Sum.inl (s_MacOk_L0_0_mx0 false vb0 vb2 vb3 vb4 vb5))) (st := 1) (Inv := fun vb1 a => True) (Int.toNat (vb0 - vb1)) vb1 () _ (Nat.lt_succ_self _) trivial
    (fun j a hj hv => ⟨s_MacOk_L0_0_st vb0 (vb1 + 1 * (j : Int)) vb2 vb3 vb4 vb5 (by omega) (by omega) (by omega) h2 h3 h4, fun _ _ => trivial⟩)
    (fun a hv => by
      show s_MacOk_L0_0_B vb0 (vb1 + 1 * (((Int.toNat (vb0 - vb1)) : Nat) : Int)) vb2 vb3 vb4 vb5 (Option (s_MacOk_L0_0_sh.T ⊕ WT s_MacOk_L0_0_es)) none (fun v' => some (Sum.inl v')) (fun w => some (Sum.inr w)) = _
      unfold s_MacOk_L0_0_B
      exact bifN (by simp only [decide_eq_false_iff_not]; omega) rfl)
def s_MacOk_L0_sh : Sh := ⟨[(1, false, [.ptr 0 0]), (3, false, [.int .i64])], [.box [.bool, .int .u64, .int .u64, .sl .arg .macRow]]⟩
def s_MacOk_L0_es : List (Ex × Sh) := [(.ret, ⟨[(1, false, [.ptr 0 0]), (2, false, [.bool])], [.box [.bool, .int .u64, .int .u64, .sl .arg .macRow]]⟩), (.exit 0, ⟨[(1, false, [.ptr 0 0]), (2, false, [.undef])], [.box [.bool, .int .u64, .int .u64, .sl .arg .macRow]]⟩)]
def s_MacOk_L0_mk (v0 : Int) (v1 : Bool) (v2 : Int) (v3 : Int) (v4 : List MacRow) : s_MacOk_L0_sh.T := ((((), ()), ((v0, ()), ())), ((v1, (v2, (v3, (v4, ())))), ()))
def s_MacOk_L0_mx0 (y0 : Bool) (y1 : Bool) (y2 : Int) (y3 : Int) (y4 : List MacRow) : Sh.T ⟨[(1, false, [.ptr 0 0]), (2, false, [.bool])], [.box [.bool, .int .u64, .int .u64, .sl .arg .macRow]]⟩ := ((((), ()), ((y0, ()), ())), ((y1, (y2, (y3, (y4, ())))), ()))
def s_MacOk_L0_mx1 (y0 : Bool) (y1 : Int) (y2 : Int) (y3 : List MacRow) : Sh.T ⟨[(1, false, [.ptr 0 0]), (2, false, [.undef])], [.box [.bool, .int .u64, .int .u64, .sl .arg .macRow]]⟩ := ((((), ()), (((), ()), ())), ((y0, (y1, (y2, (y3, ())))), ()))
def s_MacOk_L0_B (v0 : Int) (v1 : Bool) (v2 : Int) (v3 : Int) (v4 : List MacRow) (γ : Type) (fail : γ) (next : s_MacOk_L0_sh.T → γ) (out : WT s_MacOk_L0_es → γ) : γ :=
  bif (decide (v0 < (v4.length : Int))) then
    bif ((decide (0 ≤ v0)) && (decide (v0 < (v4.length : Int)))) then
    letK (α := Bool) (s_l1In ((v4.getD v0.toNat (Ty.zero .macRow)).value) 0 16777215) fun c1 =>
    bif (!c1) then
      out (Sum.inl (s_MacOk_L0_mx0 false v1 v2 v3 v4))
    else
    optK (loopF s_MacOk_L0_0_r.step (s_MacOk_L0_0_fu v0 0 v1 v2 v3 v4) (s_MacOk_L0_0_mk v0 0 v1 v2 v3 v4)) fail fun w2 =>
      Sum.elim (fun w2 =>
        out (Sum.inl (s_MacOk_L0_mx0 w2.1.2.1.1 w2.2.1.1 w2.2.1.2.1 w2.2.1.2.2.1 w2.2.1.2.2.2.1)))
      (fun w2 =>
        next (s_MacOk_L0_mk (IntKind.wrap .i64 (w2.1.2.2.1.1 + 1)) w2.2.1.1 w2.2.1.2.1 w2.2.1.2.2.1 w2.2.1.2.2.2.1)) w2
    else fail
  else
  out (Sum.inr (s_MacOk_L0_mx1 v1 v2 v3 v4))
theorem s_MacOk_L0_par (v0 : Int) (v1 : Bool) (v2 : Int) (v3 : Int) (v4 : List MacRow) (γ : Type) (fail : γ) (next : s_MacOk_L0_sh.T → γ) (out : WT s_MacOk_L0_es → γ) : s_MacOk_L0_B v0 v1 v2 v3 v4 γ fail next out = optK (s_MacOk_L0_B v0 v1 v2 v3 v4 _ none (fun v' => some (.inl v')) (fun w => some (.inr w))) fail (fun r => Sum.elim next out r) := by
  unfold s_MacOk_L0_B
  exact bifT (f := (fun o => optK o fail (fun r => Sum.elim next out r))) (fun _ => bifT (f := (fun o => optK o fail (fun r => Sum.elim next out r))) (fun _ => letT (f := (fun o => optK o fail (fun r => Sum.elim next out r))) (fun c1 _ => bifT (f := (fun o => optK o fail (fun r => Sum.elim next out r))) (fun _ => rfl)
      (fun _ => optT (f := (fun o => optK o fail (fun r => Sum.elim next out r))) rfl (fun w2 => sumT (f := (fun o => optK o fail (fun r => Sum.elim next out r))) (fun w2 => rfl) (fun w2 => rfl))))) (fun _ => rfl))
      (fun _ => rfl)
def s_MacOk_L0_r : Round s_MacOk_L0_sh.T (WT s_MacOk_L0_es) where
  B v γ fail next out := s_MacOk_L0_B v.1.2.1.1 v.2.1.1 v.2.1.2.1 v.2.1.2.2.1 v.2.1.2.2.2.1 γ fail next out
  par v γ fail next out := s_MacOk_L0_par v.1.2.1.1 v.2.1.1 v.2.1.2.1 v.2.1.2.2.1 v.2.1.2.2.2.1 γ fail next out
def s_MacOk_L0_fu (v0 : Int) (v1 : Bool) (v2 : Int) (v3 : Int) (v4 : List MacRow) : Nat := (Int.toNat ((v4.length : Int) - v0)) + 1
theorem s_MacOk_L0_lk (v : s_MacOk_L0_sh.T) (next : St → Option Res) (k : Ex → St → Option Res) : evalK te (orcOf (P := Tryz.prog) [s_l1In_e]) (lorcOf [s_MacOk_L0_0_le]) Tryz.f53.ntmps s_MacOk_ann (nthLoop (bodyOf Tryz.f53) 0 0) 0 (s_MacOk_L0_sh.enc v) (endK ⟨[1, 3], [], false, 0⟩ ⟨[1, 2], [], false, 0⟩ next k) =
  s_MacOk_L0_r.B v _ none (fun v' => next (s_MacOk_L0_sh.enc v')) (fun w => outK s_MacOk_L0_es k w) := by kernel_rfl
def s_MacOk_L0_le : LE := leOf 0 s_MacOk_L0_sh s_MacOk_L0_es s_MacOk_L0_r.step (fun v => s_MacOk_L0_fu v.1.2.1.1 v.2.1.1 v.2.1.2.1 v.2.1.2.2.1 v.2.1.2.2.2.1)
theorem s_MacOk_L0_ls (w0 : World) (mo : Mts) (I0 : Nat → Prop) (hmo : mo.length = 0) : LSem Tryz.prog (Sim w0 mo Tryz.f53.ntmps I0) (fun b s k => match Nat.beq 0 b with | true => s_MacOk_L0_le.run s k | false => none) 0 (nthLoop (bodyOf Tryz.f53) 0 0) :=
  le_sem hmo (lorc := lorcOf [s_MacOk_L0_0_le]) (ann := s_MacOk_ann) (keep := ⟨[1, 3], [], false, 0⟩) (kout := ⟨[1, 2], [], false, 0⟩) teFact mixFact (orcOf_ok _) (by kernel_rfl) (allLoops_of (bs := [2]) (by kernel_rfl) ⟨lsem_of_lorc (s_MacOk_L0_0_ls w0 mo I0 hmo) (by kernel_rfl), trivial⟩) s_MacOk_L0_r _ s_MacOk_L0_lk
def s_MacOk_L0_f (v1 : Bool) (v2 : Int) (v3 : Int) (v4 : List MacRow) (v0 : Int) (a : Unit) : Stp (Unit) ((Unit)) :=
  letK (α := Bool) (s_l1In ((v4.getD v0.toNat (Ty.zero .macRow)).value) 0 16777215) fun c1 =>
  bif (!c1) then
    .out (())
  else
  Stp.elim (fun a3 =>
    .next ())
    (fun p3 =>
      .out (()))
    (forN (s_MacOk_L0_0_f v0 v1 v2 v3 v4) 1 (Int.toNat (v0 - 0)) 0 ())
theorem s_MacOk_L0_st (v0 : Int) (v1 : Bool) (v2 : Int) (v3 : Int) (v4 : List MacRow) (hlo : 0 ≤ v0) (hhi : v0 < (v4.length : Int)) (hN : (v4.length : Int) ≤ 4611686018427387904) : s_MacOk_L0_r.step (s_MacOk_L0_mk v0 v1 v2 v3 v4) = Stp.elim (fun a' : Unit => some (Sum.inl (s_MacOk_L0_mk (v0 + 1) v1 v2 v3 v4))) (fun w => some (Sum.inr ((fun p : Unit => Sum.inl (s_MacOk_L0_mx0 false v1 v2 v3 v4)) w))) (s_MacOk_L0_f v1 v2 v3 v4 v0 ()) := by
  have hw : (IntKind.wrap .i64 (v0 + 1)) = v0 + 1 := wrap64 (by omega) (by omega)
  show s_MacOk_L0_B v0 v1 v2 v3 v4 (Option (s_MacOk_L0_sh.T ⊕ WT s_MacOk_L0_es)) none (fun v' => some (Sum.inl v')) (fun w => some (Sum.inr w)) = _
  unfold s_MacOk_L0_B s_MacOk_L0_f
  exact bifG (by simp only [decide_eq_true_eq]; omega) (bifG (by (try simp only [Nat.ble_eq, Bool.and_eq_true, decide_eq_true_eq, s_MacOk_L0_0_mx0, s_MacOk_L0_0_mx1]); grind [maxSl, maxStr, toBytes_length, toInts_length, List.length_set, wrap64]) (letT (f := (Stp.elim (fun a' : Unit => some (Sum.inl (s_MacOk_L0_mk (v0 + 1) v1 v2 v3 v4))) (fun w => some (Sum.inr ((fun p : Unit => Sum.inl (s_MacOk_L0_mx0 false v1 v2 v3 v4)) w))))) (fun c1 hc1 => bifT (f := (Stp.elim (fun a' : Unit => some (Sum.inl (s_MacOk_L0_mk (v0 + 1) v1 v2 v3 v4))) (fun w => some (Sum.inr ((fun p : Unit => Sum.inl (s_MacOk_L0_mx0 false v1 v2 v3 v4)) w))))) (fun b0 => rfl)
      (fun b0 => loopT (f := (Stp.elim (fun a' : Unit => some (Sum.inl (s_MacOk_L0_mk (v0 + 1) v1 v2 v3 v4))) (fun w => some (Sum.inr ((fun p : Unit => Sum.inl (s_MacOk_L0_mx0 false v1 v2 v3 v4)) w))))) (s_MacOk_L0_0_cl v0 0 v1 v2 v3 v4 (by (try simp only [Nat.ble_eq, Bool.and_eq_true, decide_eq_true_eq, s_MacOk_L0_0_mx0, s_MacOk_L0_0_mx1]); grind [maxSl, maxStr, toBytes_length, toInts_length, List.length_set, wrap64]) (by (try simp only [Nat.ble_eq, Bool.and_eq_true, decide_eq_true_eq, s_MacOk_L0_0_mx0, s_MacOk_L0_0_mx1]); grind [maxSl, maxStr, toBytes_length, toInts_length, List.length_set, wrap64]) (by (try simp only [Nat.ble_eq, Bool.and_eq_true, decide_eq_true_eq, s_MacOk_L0_0_mx0, s_MacOk_L0_0_mx1]); grind [maxSl, maxStr, toBytes_length, toInts_length, List.length_set, wrap64]) (by (try simp only [Nat.ble_eq, Bool.and_eq_true, decide_eq_true_eq, s_MacOk_L0_0_mx0, s_MacOk_L0_0_mx1]); grind [maxSl, maxStr, toBytes_length, toInts_length, List.length_set, wrap64]) (by (try simp only [Nat.ble_eq, Bool.and_eq_true, decide_eq_true_eq, s_MacOk_L0_0_mx0, s_MacOk_L0_0_mx1]); grind [maxSl, maxStr, toBytes_length, toInts_length, List.length_set, wrap64])) (fun a3 => (by exact congrArg (fun z => some (Sum.inl (s_MacOk_L0_mk z v1 v2 v3 v4))) hw))
      (fun p3 => rfl)))))
theorem s_MacOk_L0_cl (v0 : Int) (v1 : Bool) (v2 : Int) (v3 : Int) (v4 : List MacRow) (h0 : 0 ≤ v0) (h1 : (v4.length : Int) ≤ 4611686018427387904) : loopF s_MacOk_L0_r.step (s_MacOk_L0_fu v0 v1 v2 v3 v4) (s_MacOk_L0_mk v0 v1 v2 v3 v4) = some (Stp.elim (fun a => (fun i a => Sum.inr (s_MacOk_L0_mx1 v1 v2 v3 v4)) (v0 + 1 * (((Int.toNat ((v4.length : Int) - v0)) : Nat) : Int)) a) (fun p : Unit => Sum.inl (s_MacOk_L0_mx0 false v1 v2 v3 v4)) (forN (s_MacOk_L0_f v1 v2 v3 v4) 1 (Int.toNat ((v4.length : Int) - v0)) v0 ())) :=
  forN_loop (step := s_MacOk_L0_r.step) (mk := fun v0 a => s_MacOk_L0_mk v0 v1 v2 v3 v4) (f := s_MacOk_L0_f v1 v2 v3 v4) (e := (fun i a => Sum.inr (s_MacOk_L0_mx1 v1 v2 v3 v4))) (emb := (fun p : Unit => Sum.inl (s_MacOk_L0_mx0 false v1 v2 v3 v4))) (st := 1) (Inv := fun v0 a => True) (Int.toNat ((v4.length : Int) - v0)) v0 () _ (Nat.lt_succ_self _) trivial
    (fun j a hj hv => ⟨s_MacOk_L0_st (v0 + 1 * (j : Int)) v1 v2 v3 v4 (by omega) (by omega) (by omega), fun _ _ => trivial⟩)
    (fun a hv => by
      show s_MacOk_L0_B (v0 + 1 * (((Int.toNat ((v4.length : Int) - v0)) : Nat) : Int)) v1 v2 v3 v4 (Option (s_MacOk_L0_sh.T ⊕ WT s_MacOk_L0_es)) none (fun v' => some (Sum.inl v')) (fun w => some (Sum.inr w)) = _
      unfold s_MacOk_L0_B
      exact bifN (by simp only [decide_eq_false_iff_not]; omega) rfl)
def s_MacOk_N (x0 : Mac) (γ : Type) (fail : γ) (k : Bool → γ) : γ :=
  bif (!x0.use) then
    k ((x0.rows.length : Int) == 0)
  else
  optK (loopF s_MacOk_L0_r.step (s_MacOk_L0_fu 0 x0.use x0.k x0.l x0.rows) (s_MacOk_L0_mk 0 x0.use x0.k x0.l x0.rows)) fail fun w4 =>
    Sum.elim (fun w4 =>
      k w4.1.2.1.1)
    (fun w4 =>
      bif (w4.2.1.2.1 == 0) then
        bif (w4.2.1.2.2.1 == 0) then
          k (decide ((w4.2.1.2.2.2.1.length : Int) ≤ 64))
        else
        k false
      else
      k false) w4
def s_MacOk (x0 : Mac) : Bool :=
  bif (!x0.use) then
    ((x0.rows.length : Int) == 0)
  else
  Stp.elim (fun a5 =>
    bif (x0.k == 0) then
      bif (x0.l == 0) then
        (decide ((x0.rows.length : Int) ≤ 64))
      else
      false
    else
    false)
    (fun p5 =>
      false)
    (forN (s_MacOk_L0_f x0.use x0.k x0.l x0.rows) 1 (Int.toNat ((x0.rows.length : Int) - 0)) 0 ())
theorem s_MacOk_lk (x0 : Mac) : evalFn te (orcOf (P := Tryz.prog) [s_l1In_e]) (lorcOf [s_MacOk_L0_le]) s_MacOk_ann Tryz.f53 (pvs [.st .mac] (x0, ())) =
  s_MacOk_N x0 _ none (fun v => some [(false, [RC.c (.bool v)])]) := by kernel_rfl
theorem s_MacOk_p (x0 : Mac) (hx0_k : inK .u64 x0.k) (hx0_l : inK .u64 x0.l) (hx0_rows : x0.rows.length ≤ 140737488355328) (hx0_rows_e : ∀ y ∈ x0.rows, ∀ c ∈ Ty.cells .macRow y, FactC c)  (γ : Type) (fail : γ) (k : Bool → γ) : s_MacOk_N x0 γ fail k = k (s_MacOk x0) := by
  unfold s_MacOk_N s_MacOk
  exact bifT (f := k) (fun b0 => rfl)
      (fun b0 => loopT (f := k) (s_MacOk_L0_cl 0 x0.use x0.k x0.l x0.rows (by (try simp only [Nat.ble_eq, Bool.and_eq_true, decide_eq_true_eq, s_MacOk_L0_0_mx0, s_MacOk_L0_0_mx1, s_MacOk_L0_mx0, s_MacOk_L0_mx1]); grind [maxSl, maxStr, toBytes_length, toInts_length, List.length_set, wrap64]) (by (try simp only [Nat.ble_eq, Bool.and_eq_true, decide_eq_true_eq, s_MacOk_L0_0_mx0, s_MacOk_L0_0_mx1, s_MacOk_L0_mx0, s_MacOk_L0_mx1]); grind [maxSl, maxStr, toBytes_length, toInts_length, List.length_set, wrap64])) (fun a5 => bifT (f := k) (fun b1 => bifT (f := k) (fun b2 => rfl)
      (fun b2 => rfl))
      (fun b1 => rfl))
      (fun p5 => rfl))
theorem s_MacOk_c (x0 : Mac)  : Con Tryz.prog 53 (pvs [.st .mac] (x0, ())) [rv (.sc .bool) [] (s_MacOk x0)] := by
  refine Con.of_facts (enters_of Tryz.func53 rfl (by kernel_rfl)) fun hf => ?_
  replace hf := factAt hf
  exact evalFn_conL teFact mixFact (orcOf_ok _) Tryz.func53 (by kernel_rfl) (bs := [0]) (by kernel_rfl) (by kernel_rfl) (fun w0 mo I0 hmo => ⟨lsem_of_lorc (s_MacOk_L0_ls w0 mo I0 hmo) (by kernel_rfl), trivial⟩) ((s_MacOk_lk x0).trans (s_MacOk_p x0 ((hf 0 1 rfl rfl).rng) ((hf 0 2 rfl rfl).rng) ((hf 0 3 rfl rfl).len) (fun y hy => (hf 0 3 rfl rfl).elem hy) _ _ _))
noncomputable def s_MacOk_e : Ent1 Tryz.prog := entA 53 [.st .mac] (fun x => (s_MacOk x.1)) (fun v => [rv (.sc .bool) [] v]) (fun x => s_MacOk_c x.1)


/-- spec.SameMac -/
def s_SameMac_ann : List (Nat × Keep) := [(0, ⟨[2, 3, 5], [], false, 0⟩)]
def s_SameMac_L0_sh : Sh := ⟨[(2, false, [.ptr 0 0]), (3, false, [.ptr 1 0]), (5, false, [.int .i64])], [.box [.bool, .int .u64, .int .u64, .sl .arg .macRow], .box [.bool, .int .u64, .int .u64, .sl .arg .macRow]]⟩
def s_SameMac_L0_es : List (Ex × Sh) := [(.ret, ⟨[(4, false, [.bool])], []⟩), (.exit 0, ⟨[(4, false, [.undef])], []⟩)]
def s_SameMac_L0_mk (v0 : Int) (v1 : Bool) (v2 : Int) (v3 : Int) (v4 : List MacRow) (v5 : Bool) (v6 : Int) (v7 : Int) (v8 : List MacRow) : s_SameMac_L0_sh.T := ((((), ()), (((), ()), ((v0, ()), ()))), ((v1, (v2, (v3, (v4, ())))), ((v5, (v6, (v7, (v8, ())))), ())))
def s_SameMac_L0_mx0 (y0 : Bool) : Sh.T ⟨[(4, false, [.bool])], []⟩ := (((y0, ()), ()), ())
def s_SameMac_L0_mx1  : Sh.T ⟨[(4, false, [.undef])], []⟩ := ((((), ()), ()), ())
def s_SameMac_L0_B (v0 : Int) (v1 : Bool) (v2 : Int) (v3 : Int) (v4 : List MacRow) (v5 : Bool) (v6 : Int) (v7 : Int) (v8 : List MacRow) (γ : Type) (fail : γ) (next : s_SameMac_L0_sh.T → γ) (out : WT s_SameMac_L0_es → γ) : γ :=
  bif (decide (v0 < (v4.length : Int))) then
    bif ((decide (0 ≤ v0)) && (decide (v0 < (v4.length : Int)))) then
    bif ((decide (0 ≤ v0)) && (decide (v0 < (v8.length : Int)))) then
    bif (!(((v4.getD v0.toNat (Ty.zero .macRow)).input == (v8.getD v0.toNat (Ty.zero .macRow)).input) && (((v4.getD v0.toNat (Ty.zero .macRow)).value == (v8.getD v0.toNat (Ty.zero .macRow)).value) && true))) then
      out (Sum.inl (s_SameMac_L0_mx0 false))
    else
    next (s_SameMac_L0_mk (IntKind.wrap .i64 (v0 + 1)) v1 v2 v3 v4 v5 v6 v7 v8)
    else fail
    else fail
  else
  out (Sum.inr (s_SameMac_L0_mx1 ))
theorem s_SameMac_L0_par (v0 : Int) (v1 : Bool) (v2 : Int) (v3 : Int) (v4 : List MacRow) (v5 : Bool) (v6 : Int) (v7 : Int) (v8 : List MacRow) (γ : Type) (fail : γ) (next : s_SameMac_L0_sh.T → γ) (out : WT s_SameMac_L0_es → γ) : s_SameMac_L0_B v0 v1 v2 v3 v4 v5 v6 v7 v8 γ fail next out = optK (s_SameMac_L0_B v0 v1 v2 v3 v4 v5 v6 v7 v8 _ none (fun v' => some (.inl v')) (fun w => some (.inr w))) fail (fun r => Sum.elim next out r) := by
  unfold s_SameMac_L0_B
  exact bifT (f := (fun o => optK o fail (fun r => Sum.elim next out r))) (fun _ => bifT (f := (fun o => optK o fail (fun r => Sum.elim next out r))) (fun _ => bifT (f := (fun o => optK o fail (fun r => Sum.elim next out r))) (fun _ => bifT (f := (fun o => optK o fail (fun r => Sum.elim next out r))) (fun _ => rfl)
      (fun _ => rfl)) (fun _ => rfl)) (fun _ => rfl))
      (fun _ => rfl)
def s_SameMac_L0_r : Round s_SameMac_L0_sh.T (WT s_SameMac_L0_es) where
  B v γ fail next out := s_SameMac_L0_B v.1.2.2.1.1 v.2.1.1 v.2.1.2.1 v.2.1.2.2.1 v.2.1.2.2.2.1 v.2.2.1.1 v.2.2.1.2.1 v.2.2.1.2.2.1 v.2.2.1.2.2.2.1 γ fail next out
  par v γ fail next out := s_SameMac_L0_par v.1.2.2.1.1 v.2.1.1 v.2.1.2.1 v.2.1.2.2.1 v.2.1.2.2.2.1 v.2.2.1.1 v.2.2.1.2.1 v.2.2.1.2.2.1 v.2.2.1.2.2.2.1 γ fail next out
def s_SameMac_L0_fu (v0 : Int) (v1 : Bool) (v2 : Int) (v3 : Int) (v4 : List MacRow) (v5 : Bool) (v6 : Int) (v7 : Int) (v8 : List MacRow) : Nat := (Int.toNat ((v4.length : Int) - v0)) + 1
theorem s_SameMac_L0_lk (v : s_SameMac_L0_sh.T) (next : St → Option Res) (k : Ex → St → Option Res) : evalK te (orcOf (P := Tryz.prog) []) (lorcOf []) Tryz.f54.ntmps s_SameMac_ann (nthLoop (bodyOf Tryz.f54) 0 0) 0 (s_SameMac_L0_sh.enc v) (endK ⟨[2, 3, 5], [], false, 0⟩ ⟨[4], [], false, 0⟩ next k) =
  s_SameMac_L0_r.B v _ none (fun v' => next (s_SameMac_L0_sh.enc v')) (fun w => outK s_SameMac_L0_es k w) := by kernel_rfl
def s_SameMac_L0_le : LE := leOf 0 s_SameMac_L0_sh s_SameMac_L0_es s_SameMac_L0_r.step (fun v => s_SameMac_L0_fu v.1.2.2.1.1 v.2.1.1 v.2.1.2.1 v.2.1.2.2.1 v.2.1.2.2.2.1 v.2.2.1.1 v.2.2.1.2.1 v.2.2.1.2.2.1 v.2.2.1.2.2.2.1)
theorem s_SameMac_L0_ls (w0 : World) (mo : Mts) (I0 : Nat → Prop) (hmo : mo.length = 0) : LSem Tryz.prog (Sim w0 mo Tryz.f54.ntmps I0) (fun b s k => match Nat.beq 0 b with | true => s_SameMac_L0_le.run s k | false => none) 0 (nthLoop (bodyOf Tryz.f54) 0 0) :=
  le_sem hmo (lorc := lorcOf []) (ann := s_SameMac_ann) (keep := ⟨[2, 3, 5], [], false, 0⟩) (kout := ⟨[4], [], false, 0⟩) teFact mixFact (orcOf_ok _) (by kernel_rfl) (allLoops_of (bs := []) (by kernel_rfl) trivial) s_SameMac_L0_r _ s_SameMac_L0_lk
def s_SameMac_L0_f (v1 : Bool) (v2 : Int) (v3 : Int) (v4 : List MacRow) (v5 : Bool) (v6 : Int) (v7 : Int) (v8 : List MacRow) (v0 : Int) (a : Unit) : Stp (Unit) ((Unit)) :=
  bif (!(((v4.getD v0.toNat (Ty.zero .macRow)).input == (v8.getD v0.toNat (Ty.zero .macRow)).input) && (((v4.getD v0.toNat (Ty.zero .macRow)).value == (v8.getD v0.toNat (Ty.zero .macRow)).value) && true))) then
    .out (())
  else
  .next ()
theorem s_SameMac_L0_st (v0 : Int) (v1 : Bool) (v2 : Int) (v3 : Int) (v4 : List MacRow) (v5 : Bool) (v6 : Int) (v7 : Int) (v8 : List MacRow) (hlo : 0 ≤ v0) (hhi : v0 < (v4.length : Int)) (hN : (v4.length : Int) ≤ 4611686018427387904) (hi0 : (v4.length : Int) ≤ (v8.length : Int)) : s_SameMac_L0_r.step (s_SameMac_L0_mk v0 v1 v2 v3 v4 v5 v6 v7 v8) = Stp.elim (fun a' : Unit => some (Sum.inl (s_SameMac_L0_mk (v0 + 1) v1 v2 v3 v4 v5 v6 v7 v8))) (fun w => some (Sum.inr ((fun p : Unit => Sum.inl (s_SameMac_L0_mx0 false)) w))) (s_SameMac_L0_f v1 v2 v3 v4 v5 v6 v7 v8 v0 ()) := by
  have hw : (IntKind.wrap .i64 (v0 + 1)) = v0 + 1 := wrap64 (by omega) (by omega)
  show s_SameMac_L0_B v0 v1 v2 v3 v4 v5 v6 v7 v8 (Option (s_SameMac_L0_sh.T ⊕ WT s_SameMac_L0_es)) none (fun v' => some (Sum.inl v')) (fun w => some (Sum.inr w)) = _
  unfold s_SameMac_L0_B s_SameMac_L0_f
  exact bifG (by simp only [decide_eq_true_eq]; omega) (bifG (by (try simp only [Nat.ble_eq, Bool.and_eq_true, decide_eq_true_eq]); grind [maxSl, maxStr, toBytes_length, toInts_length, List.length_set, wrap64]) (bifG (by (try simp only [Nat.ble_eq, Bool.and_eq_true, decide_eq_true_eq]); grind [maxSl, maxStr, toBytes_length, toInts_length, List.length_set, wrap64]) (bifT (f := (Stp.elim (fun a' : Unit => some (Sum.inl (s_SameMac_L0_mk (v0 + 1) v1 v2 v3 v4 v5 v6 v7 v8))) (fun w => some (Sum.inr ((fun p : Unit => Sum.inl (s_SameMac_L0_mx0 false)) w))))) (fun b0 => rfl)
      (fun b0 => (by exact congrArg (fun z => some (Sum.inl (s_SameMac_L0_mk z v1 v2 v3 v4 v5 v6 v7 v8))) hw)))))
theorem s_SameMac_L0_cl (v0 : Int) (v1 : Bool) (v2 : Int) (v3 : Int) (v4 : List MacRow) (v5 : Bool) (v6 : Int) (v7 : Int) (v8 : List MacRow) (h0 : 0 ≤ v0) (h1 : (v4.length : Int) ≤ 4611686018427387904) (h2 : (v4.length : Int) ≤ (v8.length : Int)) : loopF s_SameMac_L0_r.step (s_SameMac_L0_fu v0 v1 v2 v3 v4 v5 v6 v7 v8) (s_SameMac_L0_mk v0 v1 v2 v3 v4 v5 v6 v7 v8) = some (Stp.elim (fun a => (fun i a => Sum.inr (s_SameMac_L0_mx1 )) (v0 + 1 * (((Int.toNat ((v4.length : Int) - v0)) : Nat) : Int)) a) (fun p : Unit => Sum.inl (s_SameMac_L0_mx0 false)) (forN (s_SameMac_L0_f v1 v2 v3 v4 v5 v6 v7 v8) 1 (Int.toNat ((v4.length : Int) - v0)) v0 ())) :=
  forN_loop (step := s_SameMac_L0_r.step) (mk := fun v0 a => s_SameMac_L0_mk v0 v1 v2 v3 v4 v5 v6 v7 v8) (f := s_SameMac_L0_f v1 v2 v3 v4 v5 v6 v7 v8) (e := (fun i a => Sum.inr (s_SameMac_L0_mx1 ))) (emb := (fun p : Unit => Sum.inl (s_SameMac_L0_mx0 false))) (st := 1) (Inv := fun v0 a => True) (Int.toNat ((v4.length : Int) - v0)) v0 () _ (Nat.lt_succ_self _) trivial
    (fun j a hj hv => ⟨s_SameMac_L0_st (v0 + 1 * (j : Int)) v1 v2 v3 v4 v5 v6 v7 v8 (by omega) (by omega) (by omega) h2, fun _ _ => trivial⟩)
    (fun a hv => by
      show s_SameMac_L0_B (v0 + 1 * (((Int.toNat ((v4.length : Int) - v0)) : Nat) : Int)) v1 v2 v3 v4 v5 v6 v7 v8 (Option (s_SameMac_L0_sh.T ⊕ WT s_SameMac_L0_es)) none (fun v' => some (Sum.inl v')) (fun w => some (Sum.inr w)) = _
      unfold s_SameMac_L0_B
      exact bifN (by simp only [decide_eq_false_iff_not]; omega) rfl)
def s_SameMac_N (x0 : Mac) (x1 : Mac) (γ : Type) (fail : γ) (k : Bool → γ) : γ :=
  bif (!(x0.use == x1.use)) then
    k false
  else
  bif (x0.k != x1.k) then
    k false
  else
  bif (x0.l != x1.l) then
    k false
  else
  bif ((x0.rows.length : Int) != (x1.rows.length : Int)) then
    k false
  else
  optK (loopF s_SameMac_L0_r.step (s_SameMac_L0_fu 0 x0.use x0.k x0.l x0.rows x1.use x1.k x1.l x1.rows) (s_SameMac_L0_mk 0 x0.use x0.k x0.l x0.rows x1.use x1.k x1.l x1.rows)) fail fun w1 =>
    Sum.elim (fun w1 =>
      k w1.1.1.1)
    (fun w1 =>
      k true) w1
def s_SameMac (x0 : Mac) (x1 : Mac) : Bool :=
  bif (!(x0.use == x1.use)) then
    false
  else
  bif (x0.k != x1.k) then
    false
  else
  bif (x0.l != x1.l) then
    false
  else
  bif ((x0.rows.length : Int) != (x1.rows.length : Int)) then
    false
  else
  Stp.elim (fun a2 =>
    true)
    (fun p2 =>
      false)
    (forN (s_SameMac_L0_f x0.use x0.k x0.l x0.rows x1.use x1.k x1.l x1.rows) 1 (Int.toNat ((x0.rows.length : Int) - 0)) 0 ())
theorem s_SameMac_lk (x0 : Mac) (x1 : Mac) : evalFn te (orcOf (P := Tryz.prog) []) (lorcOf [s_SameMac_L0_le]) s_SameMac_ann Tryz.f54 (pvs [.st .mac, .st .mac] (x0, x1, ())) =
  s_SameMac_N x0 x1 _ none (fun v => some [(false, [RC.c (.bool v)])]) := by kernel_rfl
theorem s_SameMac_p (x0 : Mac) (x1 : Mac) (hx0_k : inK .u64 x0.k) (hx0_l : inK .u64 x0.l) (hx0_rows : x0.rows.length ≤ 140737488355328) (hx0_rows_e : ∀ y ∈ x0.rows, ∀ c ∈ Ty.cells .macRow y, FactC c) (hx1_k : inK .u64 x1.k) (hx1_l : inK .u64 x1.l) (hx1_rows : x1.rows.length ≤ 140737488355328) (hx1_rows_e : ∀ y ∈ x1.rows, ∀ c ∈ Ty.cells .macRow y, FactC c)  (γ : Type) (fail : γ) (k : Bool → γ) : s_SameMac_N x0 x1 γ fail k = k (s_SameMac x0 x1) := by
  unfold s_SameMac_N s_SameMac
  exact bifT (f := k) (fun b0 => rfl)
      (fun b0 => bifT (f := k) (fun b1 => rfl)
      (fun b1 => bifT (f := k) (fun b2 => rfl)
      (fun b2 => bifT (f := k) (fun b3 => rfl)
      (fun b3 => loopT (f := k) (s_SameMac_L0_cl 0 x0.use x0.k x0.l x0.rows x1.use x1.k x1.l x1.rows (by (try simp only [Nat.ble_eq, Bool.and_eq_true, decide_eq_true_eq, s_SameMac_L0_mx0, s_SameMac_L0_mx1]); grind [maxSl, maxStr, toBytes_length, toInts_length, List.length_set, wrap64]) (by (try simp only [Nat.ble_eq, Bool.and_eq_true, decide_eq_true_eq, s_SameMac_L0_mx0, s_SameMac_L0_mx1]); grind [maxSl, maxStr, toBytes_length, toInts_length, List.length_set, wrap64]) (by (try simp only [Nat.ble_eq, Bool.and_eq_true, decide_eq_true_eq, s_SameMac_L0_mx0, s_SameMac_L0_mx1]); grind [maxSl, maxStr, toBytes_length, toInts_length, List.length_set, wrap64])) (fun a2 => rfl)
      (fun p2 => rfl)))))
theorem s_SameMac_c (x0 : Mac) (x1 : Mac)  : Con Tryz.prog 54 (pvs [.st .mac, .st .mac] (x0, x1, ())) [rv (.sc .bool) [] (s_SameMac x0 x1)] := by
  refine Con.of_facts (enters_of Tryz.func54 rfl (by kernel_rfl)) fun hf => ?_
  replace hf := factAt hf
  exact evalFn_conL teFact mixFact (orcOf_ok _) Tryz.func54 (by kernel_rfl) (bs := [0]) (by kernel_rfl) (by kernel_rfl) (fun w0 mo I0 hmo => ⟨lsem_of_lorc (s_SameMac_L0_ls w0 mo I0 hmo) (by kernel_rfl), trivial⟩) ((s_SameMac_lk x0 x1).trans (s_SameMac_p x0 x1 ((hf 0 1 rfl rfl).rng) ((hf 0 2 rfl rfl).rng) ((hf 0 3 rfl rfl).len) (fun y hy => (hf 0 3 rfl rfl).elem hy) ((hf 1 1 rfl rfl).rng) ((hf 1 2 rfl rfl).rng) ((hf 1 3 rfl rfl).len) (fun y hy => (hf 1 3 rfl rfl).elem hy) _ _ _))
noncomputable def s_SameMac_e : Ent1 Tryz.prog := entA 54 [.st .mac, .st .mac] (fun x => (s_SameMac x.1 x.2.1)) (fun v => [rv (.sc .bool) [] v]) (fun x => s_SameMac_c x.1 x.2.1)


/-- spec.LimitsOk -/
def s_LimitsOk_N (x0 : Limi) (γ : Type) (fail : γ) (k : Bool → γ) : γ :=
  letK (α := Bool) (s_l1In x0.halves 1 64) fun c1 =>
  bif c1 then
    letK (α := Bool) (s_l1In x0.waiting 1 16) fun c2 =>
    bif c2 then
      letK (α := Bool) (s_l1In x0.conns 1 16) fun c3 =>
      bif c3 then
        letK (α := Bool) (s_l1In x0.chal 0 1000) fun c4 =>
        k c4
      else
      k false
    else
    k false
  else
  k false
def s_LimitsOk (x0 : Limi) : Bool :=
  letK (α := Bool) (s_l1In x0.halves 1 64) fun c1 =>
  bif c1 then
    letK (α := Bool) (s_l1In x0.waiting 1 16) fun c2 =>
    bif c2 then
      letK (α := Bool) (s_l1In x0.conns 1 16) fun c3 =>
      bif c3 then
        letK (α := Bool) (s_l1In x0.chal 0 1000) fun c4 =>
        c4
      else
      false
    else
    false
  else
  false
theorem s_LimitsOk_lk (x0 : Limi) : evalFn te (orcOf (P := Tryz.prog) [s_l1In_e]) lorc0 [] Tryz.f55 (pvs [.st .limi] (x0, ())) =
  s_LimitsOk_N x0 _ none (fun v => some [(false, [RC.c (.bool v)])]) := by kernel_rfl
theorem s_LimitsOk_p (x0 : Limi)   (γ : Type) (fail : γ) (k : Bool → γ) : s_LimitsOk_N x0 γ fail k = k (s_LimitsOk x0) := by
  unfold s_LimitsOk_N s_LimitsOk
  exact letT (f := k) (fun c1 hc1 => bifT (f := k) (fun b0 => letT (f := k) (fun c2 hc2 => bifT (f := k) (fun b1 => letT (f := k) (fun c3 hc3 => bifT (f := k) (fun b2 => letT (f := k) (fun c4 hc4 => rfl))
      (fun b2 => rfl)))
      (fun b1 => rfl)))
      (fun b0 => rfl))
theorem s_LimitsOk_c (x0 : Limi)  : Con Tryz.prog 55 (pvs [.st .limi] (x0, ())) [rv (.sc .bool) [] (s_LimitsOk x0)] := by
  exact evalFn_con0 teFact mixFact (orcOf_ok _) Tryz.func55 (by kernel_rfl) ((s_LimitsOk_lk x0).trans (s_LimitsOk_p x0  _ _ _))
noncomputable def s_LimitsOk_e : Ent1 Tryz.prog := entA 55 [.st .limi] (fun x => (s_LimitsOk x.1)) (fun v => [rv (.sc .bool) [] v]) (fun x => s_LimitsOk_c x.1)


/-- spec.l25Waits -/
def s_l25Waits_ann : List (Nat × Keep) := [(0, ⟨[0, 3, 5], [], false, 0⟩)]
def s_l25Waits_L0_sh : Sh := ⟨[(0, false, [.sl .arg .tupl]), (3, false, [.ptr 0 0]), (5, false, [.int .i64])], [.box [.int .i64, .int .i64, .int .i64]]⟩
def s_l25Waits_L0_es : List (Ex × Sh) := [(.ret, ⟨[(4, false, [.bool])], []⟩), (.exit 0, ⟨[(4, false, [.undef])], []⟩)]
def s_l25Waits_L0_mk (v0 : List Tupl) (v1 : Int) (v2 : Int) (v3 : Int) (v4 : Int) : s_l25Waits_L0_sh.T := (((v0, ()), (((), ()), ((v1, ()), ()))), ((v2, (v3, (v4, ()))), ()))
def s_l25Waits_L0_mx0 (y0 : Bool) : Sh.T ⟨[(4, false, [.bool])], []⟩ := (((y0, ()), ()), ())
def s_l25Waits_L0_mx1  : Sh.T ⟨[(4, false, [.undef])], []⟩ := ((((), ()), ()), ())
def s_l25Waits_L0_B (v0 : List Tupl) (v1 : Int) (v2 : Int) (v3 : Int) (v4 : Int) (γ : Type) (fail : γ) (next : s_l25Waits_L0_sh.T → γ) (out : WT s_l25Waits_L0_es → γ) : γ :=
  bif (decide (v1 < (v0.length : Int))) then
    bif ((decide (0 ≤ v1)) && (decide (v1 < (v0.length : Int)))) then
    bif (((v0.getD v1.toNat (Ty.zero .tupl)).ip == v2) && (((v0.getD v1.toNat (Ty.zero .tupl)).port == v3) && (((v0.getD v1.toNat (Ty.zero .tupl)).my == v4) && true))) then
      out (Sum.inl (s_l25Waits_L0_mx0 true))
    else
    next (s_l25Waits_L0_mk v0 (IntKind.wrap .i64 (v1 + 1)) v2 v3 v4)
    else fail
  else
  out (Sum.inr (s_l25Waits_L0_mx1 ))
theorem s_l25Waits_L0_par (v0 : List Tupl) (v1 : Int) (v2 : Int) (v3 : Int) (v4 : Int) (γ : Type) (fail : γ) (next : s_l25Waits_L0_sh.T → γ) (out : WT s_l25Waits_L0_es → γ) : s_l25Waits_L0_B v0 v1 v2 v3 v4 γ fail next out = optK (s_l25Waits_L0_B v0 v1 v2 v3 v4 _ none (fun v' => some (.inl v')) (fun w => some (.inr w))) fail (fun r => Sum.elim next out r) := by
  unfold s_l25Waits_L0_B
  exact bifT (f := (fun o => optK o fail (fun r => Sum.elim next out r))) (fun _ => bifT (f := (fun o => optK o fail (fun r => Sum.elim next out r))) (fun _ => bifT (f := (fun o => optK o fail (fun r => Sum.elim next out r))) (fun _ => rfl)
      (fun _ => rfl)) (fun _ => rfl))
      (fun _ => rfl)
def s_l25Waits_L0_r : Round s_l25Waits_L0_sh.T (WT s_l25Waits_L0_es) where
  B v γ fail next out := s_l25Waits_L0_B v.1.1.1 v.1.2.2.1.1 v.2.1.1 v.2.1.2.1 v.2.1.2.2.1 γ fail next out
  par v γ fail next out := s_l25Waits_L0_par v.1.1.1 v.1.2.2.1.1 v.2.1.1 v.2.1.2.1 v.2.1.2.2.1 γ fail next out
def s_l25Waits_L0_fu (v0 : List Tupl) (v1 : Int) (v2 : Int) (v3 : Int) (v4 : Int) : Nat := (Int.toNat ((v0.length : Int) - v1)) + 1
theorem s_l25Waits_L0_lk (v : s_l25Waits_L0_sh.T) (next : St → Option Res) (k : Ex → St → Option Res) : evalK te (orcOf (P := Tryz.prog) []) (lorcOf []) Tryz.f57.ntmps s_l25Waits_ann (nthLoop (bodyOf Tryz.f57) 0 0) 0 (s_l25Waits_L0_sh.enc v) (endK ⟨[0, 3, 5], [], false, 0⟩ ⟨[4], [], false, 0⟩ next k) =
  s_l25Waits_L0_r.B v _ none (fun v' => next (s_l25Waits_L0_sh.enc v')) (fun w => outK s_l25Waits_L0_es k w) := by kernel_rfl
def s_l25Waits_L0_le : LE := leOf 0 s_l25Waits_L0_sh s_l25Waits_L0_es s_l25Waits_L0_r.step (fun v => s_l25Waits_L0_fu v.1.1.1 v.1.2.2.1.1 v.2.1.1 v.2.1.2.1 v.2.1.2.2.1)
theorem s_l25Waits_L0_ls (w0 : World) (mo : Mts) (I0 : Nat → Prop) (hmo : mo.length = 0) : LSem Tryz.prog (Sim w0 mo Tryz.f57.ntmps I0) (fun b s k => match Nat.beq 0 b with | true => s_l25Waits_L0_le.run s k | false => none) 0 (nthLoop (bodyOf Tryz.f57) 0 0) :=
  le_sem hmo (lorc := lorcOf []) (ann := s_l25Waits_ann) (keep := ⟨[0, 3, 5], [], false, 0⟩) (kout := ⟨[4], [], false, 0⟩) teFact mixFact (orcOf_ok _) (by kernel_rfl) (allLoops_of (bs := []) (by kernel_rfl) trivial) s_l25Waits_L0_r _ s_l25Waits_L0_lk
def s_l25Waits_L0_f (v0 : List Tupl) (v2 : Int) (v3 : Int) (v4 : Int) (v1 : Int) (a : Unit) : Stp (Unit) ((Unit)) :=
  bif (((v0.getD v1.toNat (Ty.zero .tupl)).ip == v2) && (((v0.getD v1.toNat (Ty.zero .tupl)).port == v3) && (((v0.getD v1.toNat (Ty.zero .tupl)).my == v4) && true))) then
    .out (())
  else
  .next ()
theorem s_l25Waits_L0_st (v0 : List Tupl) (v1 : Int) (v2 : Int) (v3 : Int) (v4 : Int) (hlo : 0 ≤ v1) (hhi : v1 < (v0.length : Int)) (hN : (v0.length : Int) ≤ 4611686018427387904) : s_l25Waits_L0_r.step (s_l25Waits_L0_mk v0 v1 v2 v3 v4) = Stp.elim (fun a' : Unit => some (Sum.inl (s_l25Waits_L0_mk v0 (v1 + 1) v2 v3 v4))) (fun w => some (Sum.inr ((fun p : Unit => Sum.inl (s_l25Waits_L0_mx0 true)) w))) (s_l25Waits_L0_f v0 v2 v3 v4 v1 ()) := by
  have hw : (IntKind.wrap .i64 (v1 + 1)) = v1 + 1 := wrap64 (by omega) (by omega)
  show s_l25Waits_L0_B v0 v1 v2 v3 v4 (Option (s_l25Waits_L0_sh.T ⊕ WT s_l25Waits_L0_es)) none (fun v' => some (Sum.inl v')) (fun w => some (Sum.inr w)) = _
  unfold s_l25Waits_L0_B s_l25Waits_L0_f
  exact bifG (by simp only [decide_eq_true_eq]; omega) (bifG (by (try simp only [Nat.ble_eq, Bool.and_eq_true, decide_eq_true_eq]); grind [maxSl, maxStr, toBytes_length, toInts_length, List.length_set, wrap64]) (bifT (f := (Stp.elim (fun a' : Unit => some (Sum.inl (s_l25Waits_L0_mk v0 (v1 + 1) v2 v3 v4))) (fun w => some (Sum.inr ((fun p : Unit => Sum.inl (s_l25Waits_L0_mx0 true)) w))))) (fun b0 => rfl)
      (fun b0 => (by exact congrArg (fun z => some (Sum.inl (s_l25Waits_L0_mk v0 z v2 v3 v4))) hw))))
theorem s_l25Waits_L0_cl (v0 : List Tupl) (v1 : Int) (v2 : Int) (v3 : Int) (v4 : Int) (h0 : 0 ≤ v1) (h1 : (v0.length : Int) ≤ 4611686018427387904) : loopF s_l25Waits_L0_r.step (s_l25Waits_L0_fu v0 v1 v2 v3 v4) (s_l25Waits_L0_mk v0 v1 v2 v3 v4) = some (Stp.elim (fun a => (fun i a => Sum.inr (s_l25Waits_L0_mx1 )) (v1 + 1 * (((Int.toNat ((v0.length : Int) - v1)) : Nat) : Int)) a) (fun p : Unit => Sum.inl (s_l25Waits_L0_mx0 true)) (forN (s_l25Waits_L0_f v0 v2 v3 v4) 1 (Int.toNat ((v0.length : Int) - v1)) v1 ())) :=
  forN_loop (step := s_l25Waits_L0_r.step) (mk := fun v1 a => s_l25Waits_L0_mk v0 v1 v2 v3 v4) (f := s_l25Waits_L0_f v0 v2 v3 v4) (e := (fun i a => Sum.inr (s_l25Waits_L0_mx1 ))) (emb := (fun p : Unit => Sum.inl (s_l25Waits_L0_mx0 true))) (st := 1) (Inv := fun v1 a => True) (Int.toNat ((v0.length : Int) - v1)) v1 () _ (Nat.lt_succ_self _) trivial
    (fun j a hj hv => ⟨s_l25Waits_L0_st v0 (v1 + 1 * (j : Int)) v2 v3 v4 (by omega) (by omega) (by omega), fun _ _ => trivial⟩)
    (fun a hv => by
      show s_l25Waits_L0_B v0 (v1 + 1 * (((Int.toNat ((v0.length : Int) - v1)) : Nat) : Int)) v2 v3 v4 (Option (s_l25Waits_L0_sh.T ⊕ WT s_l25Waits_L0_es)) none (fun v' => some (Sum.inl v')) (fun w => some (Sum.inr w)) = _
      unfold s_l25Waits_L0_B
      exact bifN (by simp only [decide_eq_false_iff_not]; omega) rfl)
def s_l25Waits_N (x0 : List Tupl) (x1 : Tupl) (γ : Type) (fail : γ) (k : Bool → γ) : γ :=
  optK (loopF s_l25Waits_L0_r.step (s_l25Waits_L0_fu x0 0 x1.ip x1.port x1.my) (s_l25Waits_L0_mk x0 0 x1.ip x1.port x1.my)) fail fun w1 =>
    Sum.elim (fun w1 =>
      k w1.1.1.1)
    (fun w1 =>
      k false) w1
def s_l25Waits (x0 : List Tupl) (x1 : Tupl) : Bool :=
  Stp.elim (fun a2 =>
    false)
    (fun p2 =>
      true)
    (forN (s_l25Waits_L0_f x0 x1.ip x1.port x1.my) 1 (Int.toNat ((x0.length : Int) - 0)) 0 ())
theorem s_l25Waits_lk (x0 : List Tupl) (x1 : Tupl) : evalFn te (orcOf (P := Tryz.prog) []) (lorcOf [s_l25Waits_L0_le]) s_l25Waits_ann Tryz.f57 (pvs [.sc (.sl .tupl), .st .tupl] (x0, x1, ())) =
  s_l25Waits_N x0 x1 _ none (fun v => some [(false, [RC.c (.bool v)])]) := by kernel_rfl
theorem s_l25Waits_p (x0 : List Tupl) (x1 : Tupl) (hx0 : x0.length ≤ 140737488355328) (hx1_ip : inK .i64 x1.ip) (hx1_port : inK .i64 x1.port) (hx1_my : inK .i64 x1.my)  (γ : Type) (fail : γ) (k : Bool → γ) : s_l25Waits_N x0 x1 γ fail k = k (s_l25Waits x0 x1) := by
  unfold s_l25Waits_N s_l25Waits
  exact loopT (f := k) (s_l25Waits_L0_cl x0 0 x1.ip x1.port x1.my (by (try simp only [Nat.ble_eq, Bool.and_eq_true, decide_eq_true_eq, s_l25Waits_L0_mx0, s_l25Waits_L0_mx1]); grind [maxSl, maxStr, toBytes_length, toInts_length, List.length_set, wrap64]) (by (try simp only [Nat.ble_eq, Bool.and_eq_true, decide_eq_true_eq, s_l25Waits_L0_mx0, s_l25Waits_L0_mx1]); grind [maxSl, maxStr, toBytes_length, toInts_length, List.length_set, wrap64])) (fun a2 => rfl)
      (fun p2 => rfl)
theorem s_l25Waits_c (x0 : List Tupl) (x1 : Tupl)  : Con Tryz.prog 57 (pvs [.sc (.sl .tupl), .st .tupl] (x0, x1, ())) [rv (.sc .bool) [] (s_l25Waits x0 x1)] := by
  refine Con.of_facts (enters_of Tryz.func57 rfl (by kernel_rfl)) fun hf => ?_
  replace hf := factAt hf
  exact evalFn_conL teFact mixFact (orcOf_ok _) Tryz.func57 (by kernel_rfl) (bs := [0]) (by kernel_rfl) (by kernel_rfl) (fun w0 mo I0 hmo => ⟨lsem_of_lorc (s_l25Waits_L0_ls w0 mo I0 hmo) (by kernel_rfl), trivial⟩) ((s_l25Waits_lk x0 x1).trans (s_l25Waits_p x0 x1 ((hf 0 0 rfl rfl).len) ((hf 1 0 rfl rfl).rng) ((hf 1 1 rfl rfl).rng) ((hf 1 2 rfl rfl).rng) _ _ _))
noncomputable def s_l25Waits_e : Ent1 Tryz.prog := entA 57 [.sc (.sl .tupl), .st .tupl] (fun x => (s_l25Waits x.1 x.2.1)) (fun v => [rv (.sc .bool) [] v]) (fun x => s_l25Waits_c x.1 x.2.1)


/-- spec.FindHalf -/
def s_FindHalf_ann : List (Nat × Keep) := [(0, ⟨[0, 3, 5], [], false, 0⟩)]
def s_FindHalf_L0_sh : Sh := ⟨[(0, false, [.sl .arg .half]), (3, false, [.ptr 0 0]), (5, false, [.int .i64])], [.box [.int .i64, .int .i64, .int .i64]]⟩
def s_FindHalf_L0_es : List (Ex × Sh) := [(.ret, ⟨[(4, false, [.int .i64])], []⟩), (.exit 0, ⟨[(4, false, [.undef])], []⟩)]
def s_FindHalf_L0_mk (v0 : List Half) (v1 : Int) (v2 : Int) (v3 : Int) (v4 : Int) : s_FindHalf_L0_sh.T := (((v0, ()), (((), ()), ((v1, ()), ()))), ((v2, (v3, (v4, ()))), ()))
def s_FindHalf_L0_mx0 (y0 : Int) : Sh.T ⟨[(4, false, [.int .i64])], []⟩ := (((y0, ()), ()), ())
def s_FindHalf_L0_mx1  : Sh.T ⟨[(4, false, [.undef])], []⟩ := ((((), ()), ()), ())
def s_FindHalf_L0_B (v0 : List Half) (v1 : Int) (v2 : Int) (v3 : Int) (v4 : Int) (γ : Type) (fail : γ) (next : s_FindHalf_L0_sh.T → γ) (out : WT s_FindHalf_L0_es → γ) : γ :=
  bif (decide (v1 < (v0.length : Int))) then
    bif ((decide (0 ≤ v1)) && (decide (v1 < (v0.length : Int)))) then
    bif (((v0.getD v1.toNat (Ty.zero .half)).tuple.ip == v2) && (((v0.getD v1.toNat (Ty.zero .half)).tuple.port == v3) && (((v0.getD v1.toNat (Ty.zero .half)).tuple.my == v4) && true))) then
      out (Sum.inl (s_FindHalf_L0_mx0 v1))
    else
    next (s_FindHalf_L0_mk v0 (IntKind.wrap .i64 (v1 + 1)) v2 v3 v4)
    else fail
  else
  out (Sum.inr (s_FindHalf_L0_mx1 ))
theorem s_FindHalf_L0_par (v0 : List Half) (v1 : Int) (v2 : Int) (v3 : Int) (v4 : Int) (γ : Type) (fail : γ) (next : s_FindHalf_L0_sh.T → γ) (out : WT s_FindHalf_L0_es → γ) : s_FindHalf_L0_B v0 v1 v2 v3 v4 γ fail next out = optK (s_FindHalf_L0_B v0 v1 v2 v3 v4 _ none (fun v' => some (.inl v')) (fun w => some (.inr w))) fail (fun r => Sum.elim next out r) := by
  unfold s_FindHalf_L0_B
  exact bifT (f := (fun o => optK o fail (fun r => Sum.elim next out r))) (fun _ => bifT (f := (fun o => optK o fail (fun r => Sum.elim next out r))) (fun _ => bifT (f := (fun o => optK o fail (fun r => Sum.elim next out r))) (fun _ => rfl)
      (fun _ => rfl)) (fun _ => rfl))
      (fun _ => rfl)
def s_FindHalf_L0_r : Round s_FindHalf_L0_sh.T (WT s_FindHalf_L0_es) where
  B v γ fail next out := s_FindHalf_L0_B v.1.1.1 v.1.2.2.1.1 v.2.1.1 v.2.1.2.1 v.2.1.2.2.1 γ fail next out
  par v γ fail next out := s_FindHalf_L0_par v.1.1.1 v.1.2.2.1.1 v.2.1.1 v.2.1.2.1 v.2.1.2.2.1 γ fail next out
def s_FindHalf_L0_fu (v0 : List Half) (v1 : Int) (v2 : Int) (v3 : Int) (v4 : Int) : Nat := (Int.toNat ((v0.length : Int) - v1)) + 1
theorem s_FindHalf_L0_lk (v : s_FindHalf_L0_sh.T) (next : St → Option Res) (k : Ex → St → Option Res) : evalK te (orcOf (P := Tryz.prog) []) (lorcOf []) Tryz.f60.ntmps s_FindHalf_ann (nthLoop (bodyOf Tryz.f60) 0 0) 0 (s_FindHalf_L0_sh.enc v) (endK ⟨[0, 3, 5], [], false, 0⟩ ⟨[4], [], false, 0⟩ next k) =
  s_FindHalf_L0_r.B v _ none (fun v' => next (s_FindHalf_L0_sh.enc v')) (fun w => outK s_FindHalf_L0_es k w) := by kernel_rfl
def s_FindHalf_L0_le : LE := leOf 0 s_FindHalf_L0_sh s_FindHalf_L0_es s_FindHalf_L0_r.step (fun v => s_FindHalf_L0_fu v.1.1.1 v.1.2.2.1.1 v.2.1.1 v.2.1.2.1 v.2.1.2.2.1)
theorem s_FindHalf_L0_ls (w0 : World) (mo : Mts) (I0 : Nat → Prop) (hmo : mo.length = 0) : LSem Tryz.prog (Sim w0 mo Tryz.f60.ntmps I0) (fun b s k => match Nat.beq 0 b with | true => s_FindHalf_L0_le.run s k | false => none) 0 (nthLoop (bodyOf Tryz.f60) 0 0) :=
  le_sem hmo (lorc := lorcOf []) (ann := s_FindHalf_ann) (keep := ⟨[0, 3, 5], [], false, 0⟩) (kout := ⟨[4], [], false, 0⟩) teFact mixFact (orcOf_ok _) (by kernel_rfl) (allLoops_of (bs := []) (by kernel_rfl) trivial) s_FindHalf_L0_r _ s_FindHalf_L0_lk
def s_FindHalf_L0_f (v0 : List Half) (v2 : Int) (v3 : Int) (v4 : Int) (v1 : Int) (a : Unit) : Stp (Unit) ((Int)) :=
  bif (((v0.getD v1.toNat (Ty.zero .half)).tuple.ip == v2) && (((v0.getD v1.toNat (Ty.zero .half)).tuple.port == v3) && (((v0.getD v1.toNat (Ty.zero .half)).tuple.my == v4) && true))) then
    .out (v1)
  else
  .next ()
theorem s_FindHalf_L0_st (v0 : List Half) (v1 : Int) (v2 : Int) (v3 : Int) (v4 : Int) (hlo : 0 ≤ v1) (hhi : v1 < (v0.length : Int)) (hN : (v0.length : Int) ≤ 4611686018427387904) : s_FindHalf_L0_r.step (s_FindHalf_L0_mk v0 v1 v2 v3 v4) = Stp.elim (fun a' : Unit => some (Sum.inl (s_FindHalf_L0_mk v0 (v1 + 1) v2 v3 v4))) (fun w => some (Sum.inr ((fun p : Int => Sum.inl (s_FindHalf_L0_mx0 p)) w))) (s_FindHalf_L0_f v0 v2 v3 v4 v1 ()) := by
  have hw : (IntKind.wrap .i64 (v1 + 1)) = v1 + 1 := wrap64 (by omega) (by omega)
  show s_FindHalf_L0_B v0 v1 v2 v3 v4 (Option (s_FindHalf_L0_sh.T ⊕ WT s_FindHalf_L0_es)) none (fun v' => some (Sum.inl v')) (fun w => some (Sum.inr w)) = _
  unfold s_FindHalf_L0_B s_FindHalf_L0_f
  exact bifG (by simp only [decide_eq_true_eq]; omega) (bifG (by (try simp only [Nat.ble_eq, Bool.and_eq_true, decide_eq_true_eq]); grind [maxSl, maxStr, toBytes_length, toInts_length, List.length_set, wrap64]) (bifT (f := (Stp.elim (fun a' : Unit => some (Sum.inl (s_FindHalf_L0_mk v0 (v1 + 1) v2 v3 v4))) (fun w => some (Sum.inr ((fun p : Int => Sum.inl (s_FindHalf_L0_mx0 p)) w))))) (fun b0 => rfl)
      (fun b0 => (by exact congrArg (fun z => some (Sum.inl (s_FindHalf_L0_mk v0 z v2 v3 v4))) hw))))
theorem s_FindHalf_L0_cl (v0 : List Half) (v1 : Int) (v2 : Int) (v3 : Int) (v4 : Int) (h0 : 0 ≤ v1) (h1 : (v0.length : Int) ≤ 4611686018427387904) : loopF s_FindHalf_L0_r.step (s_FindHalf_L0_fu v0 v1 v2 v3 v4) (s_FindHalf_L0_mk v0 v1 v2 v3 v4) = some (Stp.elim (fun a => (fun i a => Sum.inr (s_FindHalf_L0_mx1 )) (v1 + 1 * (((Int.toNat ((v0.length : Int) - v1)) : Nat) : Int)) a) (fun p : Int => Sum.inl (s_FindHalf_L0_mx0 p)) (forN (s_FindHalf_L0_f v0 v2 v3 v4) 1 (Int.toNat ((v0.length : Int) - v1)) v1 ())) :=
  forN_loop (step := s_FindHalf_L0_r.step) (mk := fun v1 a => s_FindHalf_L0_mk v0 v1 v2 v3 v4) (f := s_FindHalf_L0_f v0 v2 v3 v4) (e := (fun i a => Sum.inr (s_FindHalf_L0_mx1 ))) (emb := (fun p : Int => Sum.inl (s_FindHalf_L0_mx0 p))) (st := 1) (Inv := fun v1 a => True) (Int.toNat ((v0.length : Int) - v1)) v1 () _ (Nat.lt_succ_self _) trivial
    (fun j a hj hv => ⟨s_FindHalf_L0_st v0 (v1 + 1 * (j : Int)) v2 v3 v4 (by omega) (by omega) (by omega), fun _ _ => trivial⟩)
    (fun a hv => by
      show s_FindHalf_L0_B v0 (v1 + 1 * (((Int.toNat ((v0.length : Int) - v1)) : Nat) : Int)) v2 v3 v4 (Option (s_FindHalf_L0_sh.T ⊕ WT s_FindHalf_L0_es)) none (fun v' => some (Sum.inl v')) (fun w => some (Sum.inr w)) = _
      unfold s_FindHalf_L0_B
      exact bifN (by simp only [decide_eq_false_iff_not]; omega) rfl)
def s_FindHalf_N (x0 : List Half) (x1 : Tupl) (γ : Type) (fail : γ) (k : Int → γ) : γ :=
  optK (loopF s_FindHalf_L0_r.step (s_FindHalf_L0_fu x0 0 x1.ip x1.port x1.my) (s_FindHalf_L0_mk x0 0 x1.ip x1.port x1.my)) fail fun w1 =>
    Sum.elim (fun w1 =>
      k w1.1.1.1)
    (fun w1 =>
      k (-1)) w1
def s_FindHalf (x0 : List Half) (x1 : Tupl) : Int :=
  Stp.elim (fun a2 =>
    (-1))
    (fun p2 =>
      p2)
    (forN (s_FindHalf_L0_f x0 x1.ip x1.port x1.my) 1 (Int.toNat ((x0.length : Int) - 0)) 0 ())
theorem s_FindHalf_lk (x0 : List Half) (x1 : Tupl) : evalFn te (orcOf (P := Tryz.prog) []) (lorcOf [s_FindHalf_L0_le]) s_FindHalf_ann Tryz.f60 (pvs [.sc (.sl .half), .st .tupl] (x0, x1, ())) =
  s_FindHalf_N x0 x1 _ none (fun v => some [(false, [RC.c (.int .i64 v)])]) := by kernel_rfl
theorem s_FindHalf_p (x0 : List Half) (x1 : Tupl) (hx0 : x0.length ≤ 140737488355328) (hx1_ip : inK .i64 x1.ip) (hx1_port : inK .i64 x1.port) (hx1_my : inK .i64 x1.my)  (γ : Type) (fail : γ) (k : Int → γ) : s_FindHalf_N x0 x1 γ fail k = k (s_FindHalf x0 x1) := by
  unfold s_FindHalf_N s_FindHalf
  exact loopT (f := k) (s_FindHalf_L0_cl x0 0 x1.ip x1.port x1.my (by (try simp only [Nat.ble_eq, Bool.and_eq_true, decide_eq_true_eq, s_FindHalf_L0_mx0, s_FindHalf_L0_mx1]); grind [maxSl, maxStr, toBytes_length, toInts_length, List.length_set, wrap64]) (by (try simp only [Nat.ble_eq, Bool.and_eq_true, decide_eq_true_eq, s_FindHalf_L0_mx0, s_FindHalf_L0_mx1]); grind [maxSl, maxStr, toBytes_length, toInts_length, List.length_set, wrap64])) (fun a2 => rfl)
      (fun p2 => rfl)
theorem s_FindHalf_c (x0 : List Half) (x1 : Tupl)  : Con Tryz.prog 60 (pvs [.sc (.sl .half), .st .tupl] (x0, x1, ())) [rv (.sc (.int .i64)) [] (s_FindHalf x0 x1)] := by
  refine Con.of_facts (enters_of Tryz.func60 rfl (by kernel_rfl)) fun hf => ?_
  replace hf := factAt hf
  exact evalFn_conL teFact mixFact (orcOf_ok _) Tryz.func60 (by kernel_rfl) (bs := [0]) (by kernel_rfl) (by kernel_rfl) (fun w0 mo I0 hmo => ⟨lsem_of_lorc (s_FindHalf_L0_ls w0 mo I0 hmo) (by kernel_rfl), trivial⟩) ((s_FindHalf_lk x0 x1).trans (s_FindHalf_p x0 x1 ((hf 0 0 rfl rfl).len) ((hf 1 0 rfl rfl).rng) ((hf 1 1 rfl rfl).rng) ((hf 1 2 rfl rfl).rng) _ _ _))
noncomputable def s_FindHalf_e : Ent1 Tryz.prog := entA 60 [.sc (.sl .half), .st .tupl] (fun x => (s_FindHalf x.1 x.2.1)) (fun v => [rv (.sc (.int .i64)) [] v]) (fun x => s_FindHalf_c x.1 x.2.1)


/-- laws.toEntry -/
def w_toEntry_N (x0 : Entr) (γ : Type) (fail : γ) (k : Entr → γ) : γ :=
  k x0
def w_toEntry (x0 : Entr) : Entr :=
  x0
theorem w_toEntry_lk (x0 : Entr) : evalFn te (orcOf (P := Tryz.prog) []) lorc0 [] Tryz.f61 (pvs [.st .entr] (x0, ())) =
  w_toEntry_N x0 _ none (fun v => some [(true, [RC.c (.int .i64 v.ip), RC.c (.int .i64 v.hw), RC.c (.int .i64 v.age)])]) := by kernel_rfl
theorem w_toEntry_p (x0 : Entr)   (γ : Type) (fail : γ) (k : Entr → γ) : w_toEntry_N x0 γ fail k = k (w_toEntry x0) := by
  unfold w_toEntry_N w_toEntry
  exact rfl
theorem w_toEntry_c (x0 : Entr)  : Con Tryz.prog 61 (pvs [.st .entr] (x0, ())) [rv (.st .entr) [] (w_toEntry x0)] := by
  exact evalFn_con0 teFact mixFact (orcOf_ok _) Tryz.func61 (by kernel_rfl) ((w_toEntry_lk x0).trans (w_toEntry_p x0  _ _ _))
noncomputable def w_toEntry_e : Ent1 Tryz.prog := entA 61 [.st .entr] (fun x => (w_toEntry x.1)) (fun v => [rv (.st .entr) [] v]) (fun x => w_toEntry_c x.1)


/-- impl.HwOf -/
def i_HwOf_ann : List (Nat × Keep) := [(0, ⟨[1, 8, 9, 10], [], false, 0⟩)]
def i_HwOf_L0_sh : Sh := ⟨[(1, false, [.int .i64]), (8, false, [.sl .arg .entr]), (9, false, [.int .i64]), (10, false, [.int .i64])], []⟩
def i_HwOf_L0_es : List (Ex × Sh) := [(.ret, ⟨[(4, false, [.int .i64]), (5, false, [.bool])], []⟩), (.exit 0, ⟨[(4, false, [.undef]), (5, false, [.undef])], []⟩)]
def i_HwOf_L0_mk (v0 : Int) (v1 : List Entr) (v2 : Int) (v3 : Int) : i_HwOf_L0_sh.T := (((v0, ()), ((v1, ()), ((v2, ()), ((v3, ()), ())))), ())
def i_HwOf_L0_mx0 (y0 : Int) (y1 : Bool) : Sh.T ⟨[(4, false, [.int .i64]), (5, false, [.bool])], []⟩ := (((y0, ()), ((y1, ()), ())), ())
def i_HwOf_L0_mx1  : Sh.T ⟨[(4, false, [.undef]), (5, false, [.undef])], []⟩ := ((((), ()), (((), ()), ())), ())
def i_HwOf_L0_B (v0 : Int) (v1 : List Entr) (v2 : Int) (v3 : Int) (γ : Type) (fail : γ) (next : i_HwOf_L0_sh.T → γ) (out : WT i_HwOf_L0_es → γ) : γ :=
  bif (decide (v3 < v2)) then
    bif ((decide (0 ≤ v3)) && (decide (v3 < (v1.length : Int)))) then
    bif ((v1.getD v3.toNat (Ty.zero .entr)).ip == v0) then
      out (Sum.inl (i_HwOf_L0_mx0 ((v1.getD v3.toNat (Ty.zero .entr)).hw) true))
    else
    next (i_HwOf_L0_mk v0 v1 v2 (IntKind.wrap .i64 (v3 + 1)))
    else fail
  else
  out (Sum.inr (i_HwOf_L0_mx1 ))
theorem i_HwOf_L0_par (v0 : Int) (v1 : List Entr) (v2 : Int) (v3 : Int) (γ : Type) (fail : γ) (next : i_HwOf_L0_sh.T → γ) (out : WT i_HwOf_L0_es → γ) : i_HwOf_L0_B v0 v1 v2 v3 γ fail next out = optK (i_HwOf_L0_B v0 v1 v2 v3 _ none (fun v' => some (.inl v')) (fun w => some (.inr w))) fail (fun r => Sum.elim next out r) := by
  unfold i_HwOf_L0_B
  exact bifT (f := (fun o => optK o fail (fun r => Sum.elim next out r))) (fun _ => bifT (f := (fun o => optK o fail (fun r => Sum.elim next out r))) (fun _ => bifT (f := (fun o => optK o fail (fun r => Sum.elim next out r))) (fun _ => rfl)
      (fun _ => rfl)) (fun _ => rfl))
      (fun _ => rfl)
def i_HwOf_L0_r : Round i_HwOf_L0_sh.T (WT i_HwOf_L0_es) where
  B v γ fail next out := i_HwOf_L0_B v.1.1.1 v.1.2.1.1 v.1.2.2.1.1 v.1.2.2.2.1.1 γ fail next out
  par v γ fail next out := i_HwOf_L0_par v.1.1.1 v.1.2.1.1 v.1.2.2.1.1 v.1.2.2.2.1.1 γ fail next out
def i_HwOf_L0_fu (v0 : Int) (v1 : List Entr) (v2 : Int) (v3 : Int) : Nat := (Int.toNat (v2 - v3)) + 1
theorem i_HwOf_L0_lk (v : i_HwOf_L0_sh.T) (next : St → Option Res) (k : Ex → St → Option Res) : evalK te (orcOf (P := Tryz.prog) []) (lorcOf []) Tryz.f66.ntmps i_HwOf_ann (nthLoop (bodyOf Tryz.f66) 0 0) 0 (i_HwOf_L0_sh.enc v) (endK ⟨[1, 8, 9, 10], [], false, 0⟩ ⟨[4, 5], [], false, 0⟩ next k) =
  i_HwOf_L0_r.B v _ none (fun v' => next (i_HwOf_L0_sh.enc v')) (fun w => outK i_HwOf_L0_es k w) := by kernel_rfl
def i_HwOf_L0_le : LE := leOf 0 i_HwOf_L0_sh i_HwOf_L0_es i_HwOf_L0_r.step (fun v => i_HwOf_L0_fu v.1.1.1 v.1.2.1.1 v.1.2.2.1.1 v.1.2.2.2.1.1)
theorem i_HwOf_L0_ls (w0 : World) (mo : Mts) (I0 : Nat → Prop) (hmo : mo.length = 0) : LSem Tryz.prog (Sim w0 mo Tryz.f66.ntmps I0) (fun b s k => match Nat.beq 0 b with | true => i_HwOf_L0_le.run s k | false => none) 0 (nthLoop (bodyOf Tryz.f66) 0 0) :=
  le_sem hmo (lorc := lorcOf []) (ann := i_HwOf_ann) (keep := ⟨[1, 8, 9, 10], [], false, 0⟩) (kout := ⟨[4, 5], [], false, 0⟩) teFact mixFact (orcOf_ok _) (by kernel_rfl) (allLoops_of (bs := []) (by kernel_rfl) trivial) i_HwOf_L0_r _ i_HwOf_L0_lk
def i_HwOf_L0_f (v0 : Int) (v1 : List Entr) (v2 : Int) (v3 : Int) (a : Unit) : Stp (Unit) ((Int)) :=
  bif ((v1.getD v3.toNat (Ty.zero .entr)).ip == v0) then
    .out ((v1.getD v3.toNat (Ty.zero .entr)).hw)
  else
  .next ()
theorem i_HwOf_L0_st (v0 : Int) (v1 : List Entr) (v2 : Int) (v3 : Int) (hlo : 0 ≤ v3) (hhi : v3 < v2) (hN : v2 ≤ 4611686018427387904) (hi0 : v2 ≤ (v1.length : Int)) : i_HwOf_L0_r.step (i_HwOf_L0_mk v0 v1 v2 v3) = Stp.elim (fun a' : Unit => some (Sum.inl (i_HwOf_L0_mk v0 v1 v2 (v3 + 1)))) (fun w => some (Sum.inr ((fun p : Int => Sum.inl (i_HwOf_L0_mx0 p true)) w))) (i_HwOf_L0_f v0 v1 v2 v3 ()) := by
  have hw : (IntKind.wrap .i64 (v3 + 1)) = v3 + 1 := wrap64 (by omega) (by omega)
  show i_HwOf_L0_B v0 v1 v2 v3 (Option (i_HwOf_L0_sh.T ⊕ WT i_HwOf_L0_es)) none (fun v' => some (Sum.inl v')) (fun w => some (Sum.inr w)) = _
  unfold i_HwOf_L0_B i_HwOf_L0_f
  exact bifG (by simp only [decide_eq_true_eq]; omega) (bifG (by (try simp only [Nat.ble_eq, Bool.and_eq_true, decide_eq_true_eq]); grind [maxSl, maxStr, toBytes_length, toInts_length, List.length_set, wrap64]) (bifT (f := (Stp.elim (fun a' : Unit => some (Sum.inl (i_HwOf_L0_mk v0 v1 v2 (v3 + 1)))) (fun w => some (Sum.inr ((fun p : Int => Sum.inl (i_HwOf_L0_mx0 p true)) w))))) (fun b0 => rfl)
      (fun b0 => (by exact congrArg (fun z => some (Sum.inl (i_HwOf_L0_mk v0 v1 v2 z))) hw))))
theorem i_HwOf_L0_cl (v0 : Int) (v1 : List Entr) (v2 : Int) (v3 : Int) (h0 : 0 ≤ v3) (h1 : v2 ≤ 4611686018427387904) (h2 : v2 ≤ (v1.length : Int)) : loopF i_HwOf_L0_r.step (i_HwOf_L0_fu v0 v1 v2 v3) (i_HwOf_L0_mk v0 v1 v2 v3) = some (Stp.elim (fun a => (fun i a => Sum.inr (i_HwOf_L0_mx1 )) (v3 + 1 * (((Int.toNat (v2 - v3)) : Nat) : Int)) a) (fun p : Int => Sum.inl (i_HwOf_L0_mx0 p true)) (forN (i_HwOf_L0_f v0 v1 v2) 1 (Int.toNat (v2 - v3)) v3 ())) :=
  forN_loop (step := i_HwOf_L0_r.step) (mk := fun v3 a => i_HwOf_L0_mk v0 v1 v2 v3) (f := i_HwOf_L0_f v0 v1 v2) (e := (fun i a => Sum.inr (i_HwOf_L0_mx1 ))) (emb := (fun p : Int => Sum.inl (i_HwOf_L0_mx0 p true))) (st := 1) (Inv := fun v3 a => True) (Int.toNat (v2 - v3)) v3 () _ (Nat.lt_succ_self _) trivial
    (fun j a hj hv => ⟨i_HwOf_L0_st v0 v1 v2 (v3 + 1 * (j : Int)) (by omega) (by omega) (by omega) h2, fun _ _ => trivial⟩)
    (fun a hv => by
      show i_HwOf_L0_B v0 v1 v2 (v3 + 1 * (((Int.toNat (v2 - v3)) : Nat) : Int)) (Option (i_HwOf_L0_sh.T ⊕ WT i_HwOf_L0_es)) none (fun v' => some (Sum.inl v')) (fun w => some (Sum.inr w)) = _
      unfold i_HwOf_L0_B
      exact bifN (by simp only [decide_eq_false_iff_not]; omega) rfl)
def i_HwOf_N (x0 : List Entr) (x1 : Int) (γ : Type) (fail : γ) (k : Int × Bool → γ) : γ :=
  optK (loopF i_HwOf_L0_r.step (i_HwOf_L0_fu x1 x0 (x0.length : Int) 0) (i_HwOf_L0_mk x1 x0 (x0.length : Int) 0)) fail fun w1 =>
    Sum.elim (fun w1 =>
      k (w1.1.1.1, w1.1.2.1.1))
    (fun w1 =>
      k (0, false)) w1
def i_HwOf (x0 : List Entr) (x1 : Int) : Int × Bool :=
  Stp.elim (fun a2 =>
    (0, false))
    (fun p2 =>
      (p2, true))
    (forN (i_HwOf_L0_f x1 x0 (x0.length : Int)) 1 (Int.toNat ((x0.length : Int) - 0)) 0 ())
theorem i_HwOf_lk (x0 : List Entr) (x1 : Int) : evalFn te (orcOf (P := Tryz.prog) []) (lorcOf [i_HwOf_L0_le]) i_HwOf_ann Tryz.f66 (pvs [.sc (.sl .entr), .sc (.int .i64)] (x0, x1, ())) =
  i_HwOf_N x0 x1 _ none (fun v => some [(false, [RC.c (.int .i64 v.1)]), (false, [RC.c (.bool v.2)])]) := by kernel_rfl
theorem i_HwOf_p (x0 : List Entr) (x1 : Int) (hx0 : x0.length ≤ 140737488355328) (hx1 : inK .i64 x1)  (γ : Type) (fail : γ) (k : Int × Bool → γ) : i_HwOf_N x0 x1 γ fail k = k (i_HwOf x0 x1) := by
  unfold i_HwOf_N i_HwOf
  exact loopT (f := k) (i_HwOf_L0_cl x1 x0 (x0.length : Int) 0 (by (try simp only [Nat.ble_eq, Bool.and_eq_true, decide_eq_true_eq, i_HwOf_L0_mx0, i_HwOf_L0_mx1]); grind [maxSl, maxStr, toBytes_length, toInts_length, List.length_set, wrap64]) (by (try simp only [Nat.ble_eq, Bool.and_eq_true, decide_eq_true_eq, i_HwOf_L0_mx0, i_HwOf_L0_mx1]); grind [maxSl, maxStr, toBytes_length, toInts_length, List.length_set, wrap64]) (by (try simp only [Nat.ble_eq, Bool.and_eq_true, decide_eq_true_eq, i_HwOf_L0_mx0, i_HwOf_L0_mx1]); grind [maxSl, maxStr, toBytes_length, toInts_length, List.length_set, wrap64])) (fun a2 => rfl)
      (fun p2 => rfl)
theorem i_HwOf_c (x0 : List Entr) (x1 : Int)  : Con Tryz.prog 66 (pvs [.sc (.sl .entr), .sc (.int .i64)] (x0, x1, ())) [rv (.sc (.int .i64)) [] (i_HwOf x0 x1).1, rv (.sc .bool) [] (i_HwOf x0 x1).2] := by
  refine Con.of_facts (enters_of Tryz.func66 rfl (by kernel_rfl)) fun hf => ?_
  replace hf := factAt hf
  exact evalFn_conL teFact mixFact (orcOf_ok _) Tryz.func66 (by kernel_rfl) (bs := [0]) (by kernel_rfl) (by kernel_rfl) (fun w0 mo I0 hmo => ⟨lsem_of_lorc (i_HwOf_L0_ls w0 mo I0 hmo) (by kernel_rfl), trivial⟩) ((i_HwOf_lk x0 x1).trans (i_HwOf_p x0 x1 ((hf 0 0 rfl rfl).len) ((hf 1 0 rfl rfl).rng) _ _ _))
noncomputable def i_HwOf_e : Ent1 Tryz.prog := entA 66 [.sc (.sl .entr), .sc (.int .i64)] (fun x => (i_HwOf x.1 x.2.1)) (fun v => [rv (.sc (.int .i64)) [] v.1, rv (.sc .bool) [] v.2]) (fun x => i_HwOf_c x.1 x.2.1)


/-- impl.LimitsOk -/
def i_LimitsOk_N (x0 : Limi) (γ : Type) (fail : γ) (k : Bool → γ) : γ :=
  letK (α := Bool) (i_within x0.halves 1 64) fun c1 =>
  bif c1 then
    letK (α := Bool) (i_within x0.waiting 1 16) fun c2 =>
    bif c2 then
      letK (α := Bool) (i_within x0.conns 1 16) fun c3 =>
      bif c3 then
        letK (α := Bool) (i_within x0.chal 0 1000) fun c4 =>
        k c4
      else
      k false
    else
    k false
  else
  k false
def i_LimitsOk (x0 : Limi) : Bool :=
  letK (α := Bool) (i_within x0.halves 1 64) fun c1 =>
  bif c1 then
    letK (α := Bool) (i_within x0.waiting 1 16) fun c2 =>
    bif c2 then
      letK (α := Bool) (i_within x0.conns 1 16) fun c3 =>
      bif c3 then
        letK (α := Bool) (i_within x0.chal 0 1000) fun c4 =>
        c4
      else
      false
    else
    false
  else
  false
theorem i_LimitsOk_lk (x0 : Limi) : evalFn te (orcOf (P := Tryz.prog) [i_within_e]) lorc0 [] Tryz.f69 (pvs [.st .limi] (x0, ())) =
  i_LimitsOk_N x0 _ none (fun v => some [(false, [RC.c (.bool v)])]) := by kernel_rfl
theorem i_LimitsOk_p (x0 : Limi)   (γ : Type) (fail : γ) (k : Bool → γ) : i_LimitsOk_N x0 γ fail k = k (i_LimitsOk x0) := by
  unfold i_LimitsOk_N i_LimitsOk
  exact letT (f := k) (fun c1 hc1 => bifT (f := k) (fun b0 => letT (f := k) (fun c2 hc2 => bifT (f := k) (fun b1 => letT (f := k) (fun c3 hc3 => bifT (f := k) (fun b2 => letT (f := k) (fun c4 hc4 => rfl))
      (fun b2 => rfl)))
      (fun b1 => rfl)))
      (fun b0 => rfl))
theorem i_LimitsOk_c (x0 : Limi)  : Con Tryz.prog 69 (pvs [.st .limi] (x0, ())) [rv (.sc .bool) [] (i_LimitsOk x0)] := by
  exact evalFn_con0 teFact mixFact (orcOf_ok _) Tryz.func69 (by kernel_rfl) ((i_LimitsOk_lk x0).trans (i_LimitsOk_p x0  _ _ _))
noncomputable def i_LimitsOk_e : Ent1 Tryz.prog := entA 69 [.st .limi] (fun x => (i_LimitsOk x.1)) (fun v => [rv (.sc .bool) [] v]) (fun x => i_LimitsOk_c x.1)


/-- slices.Index[[]impl.Tuple,impl.Tuple] -/
def g_Index_Tuple_ann : List (Nat × Keep) := [(0, ⟨[0, 3, 7, 8], [], false, 0⟩)]
def g_Index_Tuple_L0_sh : Sh := ⟨[(0, false, [.sl .arg .tupl]), (3, false, [.ptr 0 0]), (7, false, [.int .i64]), (8, false, [.int .i64])], [.box [.int .i64, .int .i64, .int .i64]]⟩
def g_Index_Tuple_L0_es : List (Ex × Sh) := [(.ret, ⟨[(4, false, [.int .i64])], []⟩), (.exit 0, ⟨[(4, false, [.undef])], []⟩)]
def g_Index_Tuple_L0_mk (v0 : List Tupl) (v1 : Int) (v2 : Int) (v3 : Int) (v4 : Int) (v5 : Int) : g_Index_Tuple_L0_sh.T := (((v0, ()), (((), ()), ((v1, ()), ((v2, ()), ())))), ((v3, (v4, (v5, ()))), ()))
def g_Index_Tuple_L0_mx0 (y0 : Int) : Sh.T ⟨[(4, false, [.int .i64])], []⟩ := (((y0, ()), ()), ())
def g_Index_Tuple_L0_mx1  : Sh.T ⟨[(4, false, [.undef])], []⟩ := ((((), ()), ()), ())
def g_Index_Tuple_L0_B (v0 : List Tupl) (v1 : Int) (v2 : Int) (v3 : Int) (v4 : Int) (v5 : Int) (γ : Type) (fail : γ) (next : g_Index_Tuple_L0_sh.T → γ) (out : WT g_Index_Tuple_L0_es → γ) : γ :=
  bif (decide (v2 < v1)) then
    bif ((decide (0 ≤ v2)) && (decide (v2 < (v0.length : Int)))) then
    bif ((v3 == (v0.getD v2.toNat (Ty.zero .tupl)).ip) && ((v4 == (v0.getD v2.toNat (Ty.zero .tupl)).port) && ((v5 == (v0.getD v2.toNat (Ty.zero .tupl)).my) && true))) then
      out (Sum.inl (g_Index_Tuple_L0_mx0 v2))
    else
    next (g_Index_Tuple_L0_mk v0 v1 (IntKind.wrap .i64 (v2 + 1)) v3 v4 v5)
    else fail
  else
  out (Sum.inr (g_Index_Tuple_L0_mx1 ))
theorem g_Index_Tuple_L0_par (v0 : List Tupl) (v1 : Int) (v2 : Int) (v3 : Int) (v4 : Int) (v5 : Int) (γ : Type) (fail : γ) (next : g_Index_Tuple_L0_sh.T → γ) (out : WT g_Index_Tuple_L0_es → γ) : g_Index_Tuple_L0_B v0 v1 v2 v3 v4 v5 γ fail next out = optK (g_Index_Tuple_L0_B v0 v1 v2 v3 v4 v5 _ none (fun v' => some (.inl v')) (fun w => some (.inr w))) fail (fun r => Sum.elim next out r) := by
  unfold g_Index_Tuple_L0_B
  exact bifT (f := (fun o => optK o fail (fun r => Sum.elim next out r))) (fun _ => bifT (f := (fun o => optK o fail (fun r => Sum.elim next out r))) (fun _ => bifT (f := (fun o => optK o fail (fun r => Sum.elim next out r))) (fun _ => rfl)
      (fun _ => rfl)) (fun _ => rfl))
      (fun _ => rfl)
def g_Index_Tuple_L0_r : Round g_Index_Tuple_L0_sh.T (WT g_Index_Tuple_L0_es) where
  B v γ fail next out := g_Index_Tuple_L0_B v.1.1.1 v.1.2.2.1.1 v.1.2.2.2.1.1 v.2.1.1 v.2.1.2.1 v.2.1.2.2.1 γ fail next out
  par v γ fail next out := g_Index_Tuple_L0_par v.1.1.1 v.1.2.2.1.1 v.1.2.2.2.1.1 v.2.1.1 v.2.1.2.1 v.2.1.2.2.1 γ fail next out
def g_Index_Tuple_L0_fu (v0 : List Tupl) (v1 : Int) (v2 : Int) (v3 : Int) (v4 : Int) (v5 : Int) : Nat := (Int.toNat (v1 - v2)) + 1
theorem g_Index_Tuple_L0_lk (v : g_Index_Tuple_L0_sh.T) (next : St → Option Res) (k : Ex → St → Option Res) : evalK te (orcOf (P := Tryz.prog) []) (lorcOf []) Tryz.f71.ntmps g_Index_Tuple_ann (nthLoop (bodyOf Tryz.f71) 0 0) 0 (g_Index_Tuple_L0_sh.enc v) (endK ⟨[0, 3, 7, 8], [], false, 0⟩ ⟨[4], [], false, 0⟩ next k) =
  g_Index_Tuple_L0_r.B v _ none (fun v' => next (g_Index_Tuple_L0_sh.enc v')) (fun w => outK g_Index_Tuple_L0_es k w) := by kernel_rfl
def g_Index_Tuple_L0_le : LE := leOf 0 g_Index_Tuple_L0_sh g_Index_Tuple_L0_es g_Index_Tuple_L0_r.step (fun v => g_Index_Tuple_L0_fu v.1.1.1 v.1.2.2.1.1 v.1.2.2.2.1.1 v.2.1.1 v.2.1.2.1 v.2.1.2.2.1)
theorem g_Index_Tuple_L0_ls (w0 : World) (mo : Mts) (I0 : Nat → Prop) (hmo : mo.length = 0) : LSem Tryz.prog (Sim w0 mo Tryz.f71.ntmps I0) (fun b s k => match Nat.beq 0 b with | true => g_Index_Tuple_L0_le.run s k | false => none) 0 (nthLoop (bodyOf Tryz.f71) 0 0) :=
  le_sem hmo (lorc := lorcOf []) (ann := g_Index_Tuple_ann) (keep := ⟨[0, 3, 7, 8], [], false, 0⟩) (kout := ⟨[4], [], false, 0⟩) teFact mixFact (orcOf_ok _) (by kernel_rfl) (allLoops_of (bs := []) (by kernel_rfl) trivial) g_Index_Tuple_L0_r _ g_Index_Tuple_L0_lk
def g_Index_Tuple_L0_f (v0 : List Tupl) (v1 : Int) (v3 : Int) (v4 : Int) (v5 : Int) (v2 : Int) (a : Unit) : Stp (Unit) ((Int)) :=
  bif ((v3 == (v0.getD v2.toNat (Ty.zero .tupl)).ip) && ((v4 == (v0.getD v2.toNat (Ty.zero .tupl)).port) && ((v5 == (v0.getD v2.toNat (Ty.zero .tupl)).my) && true))) then
    .out (v2)
  else
  .next ()
theorem g_Index_Tuple_L0_st (v0 : List Tupl) (v1 : Int) (v2 : Int) (v3 : Int) (v4 : Int) (v5 : Int) (hlo : 0 ≤ v2) (hhi : v2 < v1) (hN : v1 ≤ 4611686018427387904) (hi0 : v1 ≤ (v0.length : Int)) : g_Index_Tuple_L0_r.step (g_Index_Tuple_L0_mk v0 v1 v2 v3 v4 v5) = Stp.elim (fun a' : Unit => some (Sum.inl (g_Index_Tuple_L0_mk v0 v1 (v2 + 1) v3 v4 v5))) (fun w => some (Sum.inr ((fun p : Int => Sum.inl (g_Index_Tuple_L0_mx0 p)) w))) (g_Index_Tuple_L0_f v0 v1 v3 v4 v5 v2 ()) := by
  have hw : (IntKind.wrap .i64 (v2 + 1)) = v2 + 1 := wrap64 (by omega) (by omega)
  show g_Index_Tuple_L0_B v0 v1 v2 v3 v4 v5 (Option (g_Index_Tuple_L0_sh.T ⊕ WT g_Index_Tuple_L0_es)) none (fun v' => some (Sum.inl v')) (fun w => some (Sum.inr w)) = _
  unfold g_Index_Tuple_L0_B g_Index_Tuple_L0_f
  exact bifG (by simp only [decide_eq_true_eq]; omega) (bifG (by (try simp only [Nat.ble_eq, Bool.and_eq_true, decide_eq_true_eq]); grind [maxSl, maxStr, toBytes_length, toInts_length, List.length_set, wrap64]) (bifT (f := (Stp.elim (fun a' : Unit => some (Sum.inl (g_Index_Tuple_L0_mk v0 v1 (v2 + 1) v3 v4 v5))) (fun w => some (Sum.inr ((fun p : Int => Sum.inl (g_Index_Tuple_L0_mx0 p)) w))))) (fun b0 => rfl)
      (fun b0 => (by exact congrArg (fun z => some (Sum.inl (g_Index_Tuple_L0_mk v0 v1 z v3 v4 v5))) hw))))
theorem g_Index_Tuple_L0_cl (v0 : List Tupl) (v1 : Int) (v2 : Int) (v3 : Int) (v4 : Int) (v5 : Int) (h0 : 0 ≤ v2) (h1 : v1 ≤ 4611686018427387904) (h2 : v1 ≤ (v0.length : Int)) : loopF g_Index_Tuple_L0_r.step (g_Index_Tuple_L0_fu v0 v1 v2 v3 v4 v5) (g_Index_Tuple_L0_mk v0 v1 v2 v3 v4 v5) = some (Stp.elim (fun a => (fun i a => Sum.inr (g_Index_Tuple_L0_mx1 )) (v2 + 1 * (((Int.toNat (v1 - v2)) : Nat) : Int)) a) (fun p : Int => Sum.inl (g_Index_Tuple_L0_mx0 p)) (forN (g_Index_Tuple_L0_f v0 v1 v3 v4 v5) 1 (Int.toNat (v1 - v2)) v2 ())) :=
  forN_loop (step := g_Index_Tuple_L0_r.step) (mk := fun v2 a => g_Index_Tuple_L0_mk v0 v1 v2 v3 v4 v5) (f := g_Index_Tuple_L0_f v0 v1 v3 v4 v5) (e := (fun i a => Sum.inr (g_Index_Tuple_L0_mx1 ))) (emb := (fun p : Int => Sum.inl (g_Index_Tuple_L0_mx0 p))) (st := 1) (Inv := fun v2 a => True) (Int.toNat (v1 - v2)) v2 () _ (Nat.lt_succ_self _) trivial
    (fun j a hj hv => ⟨g_Index_Tuple_L0_st v0 v1 (v2 + 1 * (j : Int)) v3 v4 v5 (by omega) (by omega) (by omega) h2, fun _ _ => trivial⟩)
    (fun a hv => by
      show g_Index_Tuple_L0_B v0 v1 (v2 + 1 * (((Int.toNat (v1 - v2)) : Nat) : Int)) v3 v4 v5 (Option (g_Index_Tuple_L0_sh.T ⊕ WT g_Index_Tuple_L0_es)) none (fun v' => some (Sum.inl v')) (fun w => some (Sum.inr w)) = _
      unfold g_Index_Tuple_L0_B
      exact bifN (by simp only [decide_eq_false_iff_not]; omega) rfl)
def g_Index_Tuple_N (x0 : List Tupl) (x1 : Tupl) (γ : Type) (fail : γ) (k : Int → γ) : γ :=
  optK (loopF g_Index_Tuple_L0_r.step (g_Index_Tuple_L0_fu x0 (x0.length : Int) 0 x1.ip x1.port x1.my) (g_Index_Tuple_L0_mk x0 (x0.length : Int) 0 x1.ip x1.port x1.my)) fail fun w1 =>
    Sum.elim (fun w1 =>
      k w1.1.1.1)
    (fun w1 =>
      k (-1)) w1
def g_Index_Tuple (x0 : List Tupl) (x1 : Tupl) : Int :=
  Stp.elim (fun a2 =>
    (-1))
    (fun p2 =>
      p2)
    (forN (g_Index_Tuple_L0_f x0 (x0.length : Int) x1.ip x1.port x1.my) 1 (Int.toNat ((x0.length : Int) - 0)) 0 ())
theorem g_Index_Tuple_lk (x0 : List Tupl) (x1 : Tupl) : evalFn te (orcOf (P := Tryz.prog) []) (lorcOf [g_Index_Tuple_L0_le]) g_Index_Tuple_ann Tryz.f71 (pvs [.sc (.sl .tupl), .st .tupl] (x0, x1, ())) =
  g_Index_Tuple_N x0 x1 _ none (fun v => some [(false, [RC.c (.int .i64 v)])]) := by kernel_rfl
theorem g_Index_Tuple_p (x0 : List Tupl) (x1 : Tupl) (hx0 : x0.length ≤ 140737488355328) (hx1_ip : inK .i64 x1.ip) (hx1_port : inK .i64 x1.port) (hx1_my : inK .i64 x1.my)  (γ : Type) (fail : γ) (k : Int → γ) : g_Index_Tuple_N x0 x1 γ fail k = k (g_Index_Tuple x0 x1) := by
  unfold g_Index_Tuple_N g_Index_Tuple
  exact loopT (f := k) (g_Index_Tuple_L0_cl x0 (x0.length : Int) 0 x1.ip x1.port x1.my (by (try simp only [Nat.ble_eq, Bool.and_eq_true, decide_eq_true_eq, g_Index_Tuple_L0_mx0, g_Index_Tuple_L0_mx1]); grind [maxSl, maxStr, toBytes_length, toInts_length, List.length_set, wrap64]) (by (try simp only [Nat.ble_eq, Bool.and_eq_true, decide_eq_true_eq, g_Index_Tuple_L0_mx0, g_Index_Tuple_L0_mx1]); grind [maxSl, maxStr, toBytes_length, toInts_length, List.length_set, wrap64]) (by (try simp only [Nat.ble_eq, Bool.and_eq_true, decide_eq_true_eq, g_Index_Tuple_L0_mx0, g_Index_Tuple_L0_mx1]); grind [maxSl, maxStr, toBytes_length, toInts_length, List.length_set, wrap64])) (fun a2 => rfl)
      (fun p2 => rfl)
theorem g_Index_Tuple_c (x0 : List Tupl) (x1 : Tupl)  : Con Tryz.prog 71 (pvs [.sc (.sl .tupl), .st .tupl] (x0, x1, ())) [rv (.sc (.int .i64)) [] (g_Index_Tuple x0 x1)] := by
  refine Con.of_facts (enters_of Tryz.func71 rfl (by kernel_rfl)) fun hf => ?_
  replace hf := factAt hf
  exact evalFn_conL teFact mixFact (orcOf_ok _) Tryz.func71 (by kernel_rfl) (bs := [0]) (by kernel_rfl) (by kernel_rfl) (fun w0 mo I0 hmo => ⟨lsem_of_lorc (g_Index_Tuple_L0_ls w0 mo I0 hmo) (by kernel_rfl), trivial⟩) ((g_Index_Tuple_lk x0 x1).trans (g_Index_Tuple_p x0 x1 ((hf 0 0 rfl rfl).len) ((hf 1 0 rfl rfl).rng) ((hf 1 1 rfl rfl).rng) ((hf 1 2 rfl rfl).rng) _ _ _))
noncomputable def g_Index_Tuple_e : Ent1 Tryz.prog := entA 71 [.sc (.sl .tupl), .st .tupl] (fun x => (g_Index_Tuple x.1 x.2.1)) (fun v => [rv (.sc (.int .i64)) [] v]) (fun x => g_Index_Tuple_c x.1 x.2.1)


/-- laws.eqEntry -/
def w_eqEntry_N (x0 : Entr) (x1 : Entr) (γ : Type) (fail : γ) (k : Bool → γ) : γ :=
  bif (x0.ip != x1.ip) then
    k false
  else
  bif (x0.hw != x1.hw) then
    k false
  else
  bif (x0.age != x1.age) then
    k false
  else
  k true
def w_eqEntry (x0 : Entr) (x1 : Entr) : Bool :=
  bif (x0.ip != x1.ip) then
    false
  else
  bif (x0.hw != x1.hw) then
    false
  else
  bif (x0.age != x1.age) then
    false
  else
  true
theorem w_eqEntry_lk (x0 : Entr) (x1 : Entr) : evalFn te (orcOf (P := Tryz.prog) []) lorc0 [] Tryz.f78 (pvs [.st .entr, .st .entr] (x0, x1, ())) =
  w_eqEntry_N x0 x1 _ none (fun v => some [(false, [RC.c (.bool v)])]) := by kernel_rfl
theorem w_eqEntry_p (x0 : Entr) (x1 : Entr)   (γ : Type) (fail : γ) (k : Bool → γ) : w_eqEntry_N x0 x1 γ fail k = k (w_eqEntry x0 x1) := by
  unfold w_eqEntry_N w_eqEntry
  exact bifT (f := k) (fun b0 => rfl)
      (fun b0 => bifT (f := k) (fun b1 => rfl)
      (fun b1 => bifT (f := k) (fun b2 => rfl)
      (fun b2 => rfl)))
theorem w_eqEntry_c (x0 : Entr) (x1 : Entr)  : Con Tryz.prog 78 (pvs [.st .entr, .st .entr] (x0, x1, ())) [rv (.sc .bool) [] (w_eqEntry x0 x1)] := by
  exact evalFn_con0 teFact mixFact (orcOf_ok _) Tryz.func78 (by kernel_rfl) ((w_eqEntry_lk x0 x1).trans (w_eqEntry_p x0 x1  _ _ _))
noncomputable def w_eqEntry_e : Ent1 Tryz.prog := entA 78 [.st .entr, .st .entr] (fun x => (w_eqEntry x.1 x.2.1)) (fun v => [rv (.sc .bool) [] v]) (fun x => w_eqEntry_c x.1 x.2.1)


/-- spec.l19Fin -/
def s_l19Fin_N (x0 : Int) (γ : Type) (fail : γ) (k : Bool → γ) : γ :=
  bif (x0 != 1) then
    k (x0 != 4)
  else
  k false
def s_l19Fin (x0 : Int) : Bool :=
  bif (x0 != 1) then
    (x0 != 4)
  else
  false
theorem s_l19Fin_lk (x0 : Int) : evalFn te (orcOf (P := Tryz.prog) []) lorc0 [] Tryz.f87 (pvs [.sc (.int .i64)] (x0, ())) =
  s_l19Fin_N x0 _ none (fun v => some [(false, [RC.c (.bool v)])]) := by kernel_rfl
theorem s_l19Fin_p (x0 : Int)   (γ : Type) (fail : γ) (k : Bool → γ) : s_l19Fin_N x0 γ fail k = k (s_l19Fin x0) := by
  unfold s_l19Fin_N s_l19Fin
  exact bifT (f := k) (fun b0 => rfl)
      (fun b0 => rfl)
theorem s_l19Fin_c (x0 : Int)  : Con Tryz.prog 87 (pvs [.sc (.int .i64)] (x0, ())) [rv (.sc .bool) [] (s_l19Fin x0)] := by
  exact evalFn_con0 teFact mixFact (orcOf_ok _) Tryz.func87 (by kernel_rfl) ((s_l19Fin_lk x0).trans (s_l19Fin_p x0  _ _ _))
noncomputable def s_l19Fin_e : Ent1 Tryz.prog := entA 87 [.sc (.int .i64)] (fun x => (s_l19Fin x.1)) (fun v => [rv (.sc .bool) [] v]) (fun x => s_l19Fin_c x.1)


/-- laws.toTuple -/
def w_toTuple_N (x0 : Tupl) (γ : Type) (fail : γ) (k : Tupl → γ) : γ :=
  k x0
def w_toTuple (x0 : Tupl) : Tupl :=
  x0
theorem w_toTuple_lk (x0 : Tupl) : evalFn te (orcOf (P := Tryz.prog) []) lorc0 [] Tryz.f89 (pvs [.st .tupl] (x0, ())) =
  w_toTuple_N x0 _ none (fun v => some [(true, [RC.c (.int .i64 v.ip), RC.c (.int .i64 v.port), RC.c (.int .i64 v.my)])]) := by kernel_rfl
theorem w_toTuple_p (x0 : Tupl)   (γ : Type) (fail : γ) (k : Tupl → γ) : w_toTuple_N x0 γ fail k = k (w_toTuple x0) := by
  unfold w_toTuple_N w_toTuple
  exact rfl
theorem w_toTuple_c (x0 : Tupl)  : Con Tryz.prog 89 (pvs [.st .tupl] (x0, ())) [rv (.st .tupl) [] (w_toTuple x0)] := by
  exact evalFn_con0 teFact mixFact (orcOf_ok _) Tryz.func89 (by kernel_rfl) ((w_toTuple_lk x0).trans (w_toTuple_p x0  _ _ _))
noncomputable def w_toTuple_e : Ent1 Tryz.prog := entA 89 [.st .tupl] (fun x => (w_toTuple x.1)) (fun v => [rv (.st .tupl) [] v]) (fun x => w_toTuple_c x.1)


/-- laws.toOptions -/
def w_toOptions_N (x0 : Opti) (γ : Type) (fail : γ) (k : Opti → γ) : γ :=
  k x0
def w_toOptions (x0 : Opti) : Opti :=
  x0
theorem w_toOptions_lk (x0 : Opti) : evalFn te (orcOf (P := Tryz.prog) []) lorc0 [] Tryz.f90 (pvs [.st .opti] (x0, ())) =
  w_toOptions_N x0 _ none (fun v => some [(true, [RC.c (.int .i64 v.mss), RC.c (.int .i64 v.scale), RC.c (.bool v.sack), RC.c (.bool v.stamp), RC.c (.int .i64 v.val), RC.c (.int .i64 v.echo)])]) := by kernel_rfl
theorem w_toOptions_p (x0 : Opti)   (γ : Type) (fail : γ) (k : Opti → γ) : w_toOptions_N x0 γ fail k = k (w_toOptions x0) := by
  unfold w_toOptions_N w_toOptions
  exact rfl
theorem w_toOptions_c (x0 : Opti)  : Con Tryz.prog 90 (pvs [.st .opti] (x0, ())) [rv (.st .opti) [] (w_toOptions x0)] := by
  exact evalFn_con0 teFact mixFact (orcOf_ok _) Tryz.func90 (by kernel_rfl) ((w_toOptions_lk x0).trans (w_toOptions_p x0  _ _ _))
noncomputable def w_toOptions_e : Ent1 Tryz.prog := entA 90 [.st .opti] (fun x => (w_toOptions x.1)) (fun v => [rv (.st .opti) [] v]) (fun x => w_toOptions_c x.1)


/-- slices.Equal[[]impl.MacRow,impl.MacRow] -/
def g_Equal_MacRow_ann : List (Nat × Keep) := [(0, ⟨[0, 1, 12, 13], [], false, 0⟩)]
def g_Equal_MacRow_L0_sh : Sh := ⟨[(0, false, [.sl .arg .macRow]), (1, false, [.sl .arg .macRow]), (12, false, [.int .i64]), (13, false, [.int .i64])], []⟩
def g_Equal_MacRow_L0_es : List (Ex × Sh) := [(.ret, ⟨[(4, false, [.bool])], []⟩), (.exit 0, ⟨[(4, false, [.undef])], []⟩)]
def g_Equal_MacRow_L0_mk (v0 : List MacRow) (v1 : List MacRow) (v2 : Int) (v3 : Int) : g_Equal_MacRow_L0_sh.T := (((v0, ()), ((v1, ()), ((v2, ()), ((v3, ()), ())))), ())
def g_Equal_MacRow_L0_mx0 (y0 : Bool) : Sh.T ⟨[(4, false, [.bool])], []⟩ := (((y0, ()), ()), ())
def g_Equal_MacRow_L0_mx1  : Sh.T ⟨[(4, false, [.undef])], []⟩ := ((((), ()), ()), ())
def g_Equal_MacRow_L0_B (v0 : List MacRow) (v1 : List MacRow) (v2 : Int) (v3 : Int) (γ : Type) (fail : γ) (next : g_Equal_MacRow_L0_sh.T → γ) (out : WT g_Equal_MacRow_L0_es → γ) : γ :=
  bif (decide (v3 < v2)) then
    bif ((decide (0 ≤ v3)) && (decide (v3 < (v0.length : Int)))) then
    bif ((decide (0 ≤ v3)) && (decide (v3 < (v1.length : Int)))) then
    bif (!(((v0.getD v3.toNat (Ty.zero .macRow)).input == (v1.getD v3.toNat (Ty.zero .macRow)).input) && (((v0.getD v3.toNat (Ty.zero .macRow)).value == (v1.getD v3.toNat (Ty.zero .macRow)).value) && true))) then
      out (Sum.inl (g_Equal_MacRow_L0_mx0 false))
    else
    next (g_Equal_MacRow_L0_mk v0 v1 v2 (IntKind.wrap .i64 (v3 + 1)))
    else fail
    else fail
  else
  out (Sum.inr (g_Equal_MacRow_L0_mx1 ))
theorem g_Equal_MacRow_L0_par (v0 : List MacRow) (v1 : List MacRow) (v2 : Int) (v3 : Int) (γ : Type) (fail : γ) (next : g_Equal_MacRow_L0_sh.T → γ) (out : WT g_Equal_MacRow_L0_es → γ) : g_Equal_MacRow_L0_B v0 v1 v2 v3 γ fail next out = optK (g_Equal_MacRow_L0_B v0 v1 v2 v3 _ none (fun v' => some (.inl v')) (fun w => some (.inr w))) fail (fun r => Sum.elim next out r) := by
  unfold g_Equal_MacRow_L0_B
  exact bifT (f := (fun o => optK o fail (fun r => Sum.elim next out r))) (fun _ => bifT (f := (fun o => optK o fail (fun r => Sum.elim next out r))) (fun _ => bifT (f := (fun o => optK o fail (fun r => Sum.elim next out r))) (fun _ => bifT (f := (fun o => optK o fail (fun r => Sum.elim next out r))) (fun _ => rfl)
      (fun _ => rfl)) (fun _ => rfl)) (fun _ => rfl))
      (fun _ => rfl)
def g_Equal_MacRow_L0_r : Round g_Equal_MacRow_L0_sh.T (WT g_Equal_MacRow_L0_es) where
  B v γ fail next out := g_Equal_MacRow_L0_B v.1.1.1 v.1.2.1.1 v.1.2.2.1.1 v.1.2.2.2.1.1 γ fail next out
  par v γ fail next out := g_Equal_MacRow_L0_par v.1.1.1 v.1.2.1.1 v.1.2.2.1.1 v.1.2.2.2.1.1 γ fail next out
def g_Equal_MacRow_L0_fu (v0 : List MacRow) (v1 : List MacRow) (v2 : Int) (v3 : Int) : Nat := (Int.toNat (v2 - v3)) + 1
theorem g_Equal_MacRow_L0_lk (v : g_Equal_MacRow_L0_sh.T) (next : St → Option Res) (k : Ex → St → Option Res) : evalK te (orcOf (P := Tryz.prog) []) (lorcOf []) Tryz.f94.ntmps g_Equal_MacRow_ann (nthLoop (bodyOf Tryz.f94) 0 0) 0 (g_Equal_MacRow_L0_sh.enc v) (endK ⟨[0, 1, 12, 13], [], false, 0⟩ ⟨[4], [], false, 0⟩ next k) =
  g_Equal_MacRow_L0_r.B v _ none (fun v' => next (g_Equal_MacRow_L0_sh.enc v')) (fun w => outK g_Equal_MacRow_L0_es k w) := by kernel_rfl
def g_Equal_MacRow_L0_le : LE := leOf 0 g_Equal_MacRow_L0_sh g_Equal_MacRow_L0_es g_Equal_MacRow_L0_r.step (fun v => g_Equal_MacRow_L0_fu v.1.1.1 v.1.2.1.1 v.1.2.2.1.1 v.1.2.2.2.1.1)
theorem g_Equal_MacRow_L0_ls (w0 : World) (mo : Mts) (I0 : Nat → Prop) (hmo : mo.length = 0) : LSem Tryz.prog (Sim w0 mo Tryz.f94.ntmps I0) (fun b s k => match Nat.beq 0 b with | true => g_Equal_MacRow_L0_le.run s k | false => none) 0 (nthLoop (bodyOf Tryz.f94) 0 0) :=
  le_sem hmo (lorc := lorcOf []) (ann := g_Equal_MacRow_ann) (keep := ⟨[0, 1, 12, 13], [], false, 0⟩) (kout := ⟨[4], [], false, 0⟩) teFact mixFact (orcOf_ok _) (by kernel_rfl) (allLoops_of (bs := []) (by kernel_rfl) trivial) g_Equal_MacRow_L0_r _ g_Equal_MacRow_L0_lk
def g_Equal_MacRow_L0_f (v0 : List MacRow) (v1 : List MacRow) (v2 : Int) (v3 : Int) (a : Unit) : Stp (Unit) ((Unit)) :=
  bif (!(((v0.getD v3.toNat (Ty.zero .macRow)).input == (v1.getD v3.toNat (Ty.zero .macRow)).input) && (((v0.getD v3.toNat (Ty.zero .macRow)).value == (v1.getD v3.toNat (Ty.zero .macRow)).value) && true))) then
    .out (())
  else
  .next ()
theorem g_Equal_MacRow_L0_st (v0 : List MacRow) (v1 : List MacRow) (v2 : Int) (v3 : Int) (hlo : 0 ≤ v3) (hhi : v3 < v2) (hN : v2 ≤ 4611686018427387904) (hi0 : v2 ≤ (v0.length : Int)) (hi1 : v2 ≤ (v1.length : Int)) : g_Equal_MacRow_L0_r.step (g_Equal_MacRow_L0_mk v0 v1 v2 v3) = Stp.elim (fun a' : Unit => some (Sum.inl (g_Equal_MacRow_L0_mk v0 v1 v2 (v3 + 1)))) (fun w => some (Sum.inr ((fun p : Unit => Sum.inl (g_Equal_MacRow_L0_mx0 false)) w))) (g_Equal_MacRow_L0_f v0 v1 v2 v3 ()) := by
  have hw : (IntKind.wrap .i64 (v3 + 1)) = v3 + 1 := wrap64 (by omega) (by omega)
  show g_Equal_MacRow_L0_B v0 v1 v2 v3 (Option (g_Equal_MacRow_L0_sh.T ⊕ WT g_Equal_MacRow_L0_es)) none (fun v' => some (Sum.inl v')) (fun w => some (Sum.inr w)) = _
  unfold g_Equal_MacRow_L0_B g_Equal_MacRow_L0_f
  exact bifG (by simp only [decide_eq_true_eq]; omega) (bifG (by (try simp only [Nat.ble_eq, Bool.and_eq_true, decide_eq_true_eq]); grind [maxSl, maxStr, toBytes_length, toInts_length, List.length_set, wrap64]) (bifG (by (try simp only [Nat.ble_eq, Bool.and_eq_true, decide_eq_true_eq]); grind [maxSl, maxStr, toBytes_length, toInts_length, List.length_set, wrap64]) (bifT (f := (Stp.elim (fun a' : Unit => some (Sum.inl (g_Equal_MacRow_L0_mk v0 v1 v2 (v3 + 1)))) (fun w => some (Sum.inr ((fun p : Unit => Sum.inl (g_Equal_MacRow_L0_mx0 false)) w))))) (fun b0 => rfl)
      (fun b0 => (by exact congrArg (fun z => some (Sum.inl (g_Equal_MacRow_L0_mk v0 v1 v2 z))) hw)))))
theorem g_Equal_MacRow_L0_cl (v0 : List MacRow) (v1 : List MacRow) (v2 : Int) (v3 : Int) (h0 : 0 ≤ v3) (h1 : v2 ≤ 4611686018427387904) (h2 : v2 ≤ (v0.length : Int)) (h3 : v2 ≤ (v1.length : Int)) : loopF g_Equal_MacRow_L0_r.step (g_Equal_MacRow_L0_fu v0 v1 v2 v3) (g_Equal_MacRow_L0_mk v0 v1 v2 v3) = some (Stp.elim (fun a => (fun i a => Sum.inr (g_Equal_MacRow_L0_mx1 )) (v3 + 1 * (((Int.toNat (v2 - v3)) : Nat) : Int)) a) (fun p : Unit => Sum.inl (g_Equal_MacRow_L0_mx0 false)) (forN (g_Equal_MacRow_L0_f v0 v1 v2) 1 (Int.toNat (v2 - v3)) v3 ())) :=
  forN_loop (step := g_Equal_MacRow_L0_r.step) (mk := fun v3 a => g_Equal_MacRow_L0_mk v0 v1 v2 v3) (f := g_Equal_MacRow_L0_f v0 v1 v2) (e := (fun i a => Sum.inr (g_Equal_MacRow_L0_mx1 ))) (emb := (fun p : Unit => Sum.inl (g_Equal_MacRow_L0_mx0 false))) (st := 1) (Inv := fun v3 a => True) (Int.toNat (v2 - v3)) v3 () _ (Nat.lt_succ_self _) trivial
    (fun j a hj hv => ⟨g_Equal_MacRow_L0_st v0 v1 v2 (v3 + 1 * (j : Int)) (by omega) (by omega) (by omega) h2 h3, fun _ _ => trivial⟩)
    (fun a hv => by
      show g_Equal_MacRow_L0_B v0 v1 v2 (v3 + 1 * (((Int.toNat (v2 - v3)) : Nat) : Int)) (Option (g_Equal_MacRow_L0_sh.T ⊕ WT g_Equal_MacRow_L0_es)) none (fun v' => some (Sum.inl v')) (fun w => some (Sum.inr w)) = _
      unfold g_Equal_MacRow_L0_B
      exact bifN (by simp only [decide_eq_false_iff_not]; omega) rfl)
def g_Equal_MacRow_N (x0 : List MacRow) (x1 : List MacRow) (γ : Type) (fail : γ) (k : Bool → γ) : γ :=
  bif ((x0.length : Int) != (x1.length : Int)) then
    k false
  else
  optK (loopF g_Equal_MacRow_L0_r.step (g_Equal_MacRow_L0_fu x0 x1 (x0.length : Int) 0) (g_Equal_MacRow_L0_mk x0 x1 (x0.length : Int) 0)) fail fun w1 =>
    Sum.elim (fun w1 =>
      k w1.1.1.1)
    (fun w1 =>
      k true) w1
def g_Equal_MacRow (x0 : List MacRow) (x1 : List MacRow) : Bool :=
  bif ((x0.length : Int) != (x1.length : Int)) then
    false
  else
  Stp.elim (fun a2 =>
    true)
    (fun p2 =>
      false)
    (forN (g_Equal_MacRow_L0_f x0 x1 (x0.length : Int)) 1 (Int.toNat ((x0.length : Int) - 0)) 0 ())
theorem g_Equal_MacRow_lk (x0 : List MacRow) (x1 : List MacRow) : evalFn te (orcOf (P := Tryz.prog) []) (lorcOf [g_Equal_MacRow_L0_le]) g_Equal_MacRow_ann Tryz.f94 (pvs [.sc (.sl .macRow), .sc (.sl .macRow)] (x0, x1, ())) =
  g_Equal_MacRow_N x0 x1 _ none (fun v => some [(false, [RC.c (.bool v)])]) := by kernel_rfl
theorem g_Equal_MacRow_p (x0 : List MacRow) (x1 : List MacRow) (hx0 : x0.length ≤ 140737488355328) (hx0_e : ∀ y ∈ x0, ∀ c ∈ Ty.cells .macRow y, FactC c) (hx1 : x1.length ≤ 140737488355328) (hx1_e : ∀ y ∈ x1, ∀ c ∈ Ty.cells .macRow y, FactC c)  (γ : Type) (fail : γ) (k : Bool → γ) : g_Equal_MacRow_N x0 x1 γ fail k = k (g_Equal_MacRow x0 x1) := by
  unfold g_Equal_MacRow_N g_Equal_MacRow
  exact bifT (f := k) (fun b0 => rfl)
      (fun b0 => loopT (f := k) (g_Equal_MacRow_L0_cl x0 x1 (x0.length : Int) 0 (by (try simp only [Nat.ble_eq, Bool.and_eq_true, decide_eq_true_eq, g_Equal_MacRow_L0_mx0, g_Equal_MacRow_L0_mx1]); grind [maxSl, maxStr, toBytes_length, toInts_length, List.length_set, wrap64]) (by (try simp only [Nat.ble_eq, Bool.and_eq_true, decide_eq_true_eq, g_Equal_MacRow_L0_mx0, g_Equal_MacRow_L0_mx1]); grind [maxSl, maxStr, toBytes_length, toInts_length, List.length_set, wrap64]) (by (try simp only [Nat.ble_eq, Bool.and_eq_true, decide_eq_true_eq, g_Equal_MacRow_L0_mx0, g_Equal_MacRow_L0_mx1]); grind [maxSl, maxStr, toBytes_length, toInts_length, List.length_set, wrap64]) (by (try simp only [Nat.ble_eq, Bool.and_eq_true, decide_eq_true_eq, g_Equal_MacRow_L0_mx0, g_Equal_MacRow_L0_mx1]); grind [maxSl, maxStr, toBytes_length, toInts_length, List.length_set, wrap64])) (fun a2 => rfl)
      (fun p2 => rfl))
theorem g_Equal_MacRow_c (x0 : List MacRow) (x1 : List MacRow)  : Con Tryz.prog 94 (pvs [.sc (.sl .macRow), .sc (.sl .macRow)] (x0, x1, ())) [rv (.sc .bool) [] (g_Equal_MacRow x0 x1)] := by
  refine Con.of_facts (enters_of Tryz.func94 rfl (by kernel_rfl)) fun hf => ?_
  replace hf := factAt hf
  exact evalFn_conL teFact mixFact (orcOf_ok _) Tryz.func94 (by kernel_rfl) (bs := [0]) (by kernel_rfl) (by kernel_rfl) (fun w0 mo I0 hmo => ⟨lsem_of_lorc (g_Equal_MacRow_L0_ls w0 mo I0 hmo) (by kernel_rfl), trivial⟩) ((g_Equal_MacRow_lk x0 x1).trans (g_Equal_MacRow_p x0 x1 ((hf 0 0 rfl rfl).len) (fun y hy => (hf 0 0 rfl rfl).elem hy) ((hf 1 0 rfl rfl).len) (fun y hy => (hf 1 0 rfl rfl).elem hy) _ _ _))
noncomputable def g_Equal_MacRow_e : Ent1 Tryz.prog := entA 94 [.sc (.sl .macRow), .sc (.sl .macRow)] (fun x => (g_Equal_MacRow x.1 x.2.1)) (fun v => [rv (.sc .bool) [] v]) (fun x => g_Equal_MacRow_c x.1 x.2.1)


/-- laws.eqTuple -/
def w_eqTuple_N (x0 : Tupl) (x1 : Tupl) (γ : Type) (fail : γ) (k : Bool → γ) : γ :=
  bif (x0.ip != x1.ip) then
    k false
  else
  bif (x0.port != x1.port) then
    k false
  else
  bif (x0.my != x1.my) then
    k false
  else
  k true
def w_eqTuple (x0 : Tupl) (x1 : Tupl) : Bool :=
  bif (x0.ip != x1.ip) then
    false
  else
  bif (x0.port != x1.port) then
    false
  else
  bif (x0.my != x1.my) then
    false
  else
  true
theorem w_eqTuple_lk (x0 : Tupl) (x1 : Tupl) : evalFn te (orcOf (P := Tryz.prog) []) lorc0 [] Tryz.f99 (pvs [.st .tupl, .st .tupl] (x0, x1, ())) =
  w_eqTuple_N x0 x1 _ none (fun v => some [(false, [RC.c (.bool v)])]) := by kernel_rfl
theorem w_eqTuple_p (x0 : Tupl) (x1 : Tupl)   (γ : Type) (fail : γ) (k : Bool → γ) : w_eqTuple_N x0 x1 γ fail k = k (w_eqTuple x0 x1) := by
  unfold w_eqTuple_N w_eqTuple
  exact bifT (f := k) (fun b0 => rfl)
      (fun b0 => bifT (f := k) (fun b1 => rfl)
      (fun b1 => bifT (f := k) (fun b2 => rfl)
      (fun b2 => rfl)))
theorem w_eqTuple_c (x0 : Tupl) (x1 : Tupl)  : Con Tryz.prog 99 (pvs [.st .tupl, .st .tupl] (x0, x1, ())) [rv (.sc .bool) [] (w_eqTuple x0 x1)] := by
  exact evalFn_con0 teFact mixFact (orcOf_ok _) Tryz.func99 (by kernel_rfl) ((w_eqTuple_lk x0 x1).trans (w_eqTuple_p x0 x1  _ _ _))
noncomputable def w_eqTuple_e : Ent1 Tryz.prog := entA 99 [.st .tupl, .st .tupl] (fun x => (w_eqTuple x.1 x.2.1)) (fun v => [rv (.sc .bool) [] v]) (fun x => w_eqTuple_c x.1 x.2.1)


/-- laws.eqOptions -/
def w_eqOptions_N (x0 : Opti) (x1 : Opti) (γ : Type) (fail : γ) (k : Bool → γ) : γ :=
  bif (x0.mss != x1.mss) then
    k false
  else
  bif (x0.scale != x1.scale) then
    k false
  else
  bif (!(x0.sack == x1.sack)) then
    k false
  else
  bif (!(x0.stamp == x1.stamp)) then
    k false
  else
  bif (x0.val != x1.val) then
    k false
  else
  bif (x0.echo != x1.echo) then
    k false
  else
  k true
def w_eqOptions (x0 : Opti) (x1 : Opti) : Bool :=
  bif (x0.mss != x1.mss) then
    false
  else
  bif (x0.scale != x1.scale) then
    false
  else
  bif (!(x0.sack == x1.sack)) then
    false
  else
  bif (!(x0.stamp == x1.stamp)) then
    false
  else
  bif (x0.val != x1.val) then
    false
  else
  bif (x0.echo != x1.echo) then
    false
  else
  true
theorem w_eqOptions_lk (x0 : Opti) (x1 : Opti) : evalFn te (orcOf (P := Tryz.prog) []) lorc0 [] Tryz.f100 (pvs [.st .opti, .st .opti] (x0, x1, ())) =
  w_eqOptions_N x0 x1 _ none (fun v => some [(false, [RC.c (.bool v)])]) := by kernel_rfl
theorem w_eqOptions_p (x0 : Opti) (x1 : Opti)   (γ : Type) (fail : γ) (k : Bool → γ) : w_eqOptions_N x0 x1 γ fail k = k (w_eqOptions x0 x1) := by
  unfold w_eqOptions_N w_eqOptions
  exact bifT (f := k) (fun b0 => rfl)
      (fun b0 => bifT (f := k) (fun b1 => rfl)
      (fun b1 => bifT (f := k) (fun b2 => rfl)
      (fun b2 => bifT (f := k) (fun b3 => rfl)
      (fun b3 => bifT (f := k) (fun b4 => rfl)
      (fun b4 => bifT (f := k) (fun b5 => rfl)
      (fun b5 => rfl))))))
theorem w_eqOptions_c (x0 : Opti) (x1 : Opti)  : Con Tryz.prog 100 (pvs [.st .opti, .st .opti] (x0, x1, ())) [rv (.sc .bool) [] (w_eqOptions x0 x1)] := by
  exact evalFn_con0 teFact mixFact (orcOf_ok _) Tryz.func100 (by kernel_rfl) ((w_eqOptions_lk x0 x1).trans (w_eqOptions_p x0 x1  _ _ _))
noncomputable def w_eqOptions_e : Ent1 Tryz.prog := entA 100 [.st .opti, .st .opti] (fun x => (w_eqOptions x.1 x.2.1)) (fun v => [rv (.sc .bool) [] v]) (fun x => w_eqOptions_c x.1 x.2.1)


/-- laws.szMacRow -/
def w_szMacRow_N (x0 : MacRow) (x1 : Int) (γ : Type) (fail : γ) (k : Int → γ) : γ :=
  bif (decide ((IntKind.wrap .i64 (x1 - (x0.input.length : Int))) < 0)) then
    k (-1)
  else
  k (IntKind.wrap .i64 (x1 - (x0.input.length : Int)))
def w_szMacRow (x0 : MacRow) (x1 : Int) : Int :=
  bif (decide ((IntKind.wrap .i64 (x1 - (x0.input.length : Int))) < 0)) then
    (-1)
  else
  (IntKind.wrap .i64 (x1 - (x0.input.length : Int)))
theorem w_szMacRow_lk (x0 : MacRow) (x1 : Int) : evalFn te (orcOf (P := Tryz.prog) []) lorc0 [] Tryz.f102 (pvs [.st .macRow, .sc (.int .i64)] (x0, x1, ())) =
  w_szMacRow_N x0 x1 _ none (fun v => some [(false, [RC.c (.int .i64 v)])]) := by kernel_rfl
theorem w_szMacRow_p (x0 : MacRow) (x1 : Int)   (γ : Type) (fail : γ) (k : Int → γ) : w_szMacRow_N x0 x1 γ fail k = k (w_szMacRow x0 x1) := by
  unfold w_szMacRow_N w_szMacRow
  exact bifT (f := k) (fun b0 => rfl)
      (fun b0 => rfl)
theorem w_szMacRow_c (x0 : MacRow) (x1 : Int)  : Con Tryz.prog 102 (pvs [.st .macRow, .sc (.int .i64)] (x0, x1, ())) [rv (.sc (.int .i64)) [] (w_szMacRow x0 x1)] := by
  exact evalFn_con0 teFact mixFact (orcOf_ok _) Tryz.func102 (by kernel_rfl) ((w_szMacRow_lk x0 x1).trans (w_szMacRow_p x0 x1  _ _ _))
noncomputable def w_szMacRow_e : Ent1 Tryz.prog := entA 102 [.st .macRow, .sc (.int .i64)] (fun x => (w_szMacRow x.1 x.2.1)) (fun v => [rv (.sc (.int .i64)) [] v]) (fun x => w_szMacRow_c x.1 x.2.1)

theorem w_szMacRow_sm (x0 : MacRow) (x1 : Int)  (hn : 0 ≤ x1 ∧ x1 ≤ 1048576) (hx0_input : List.length x0.input ≤ 4611686018427387904) : (fun v : Int => 0 ≤ v → v ≤ 1048576 ∧ List.length x0.input ≤ 1048576) (w_szMacRow x0 x1) := by
  unfold w_szMacRow
  exact bifP (P := (fun v : Int => 0 ≤ v → v ≤ 1048576 ∧ List.length x0.input ≤ 1048576)) (fun b0 => (by (try simp only [Nat.ble_eq, Bool.and_eq_true, decide_eq_true_eq]); grind [maxSl, maxStr, toBytes_length, toInts_length, List.length_set, wrap64]))
      (fun b0 => (by (try simp only [Nat.ble_eq, Bool.and_eq_true, decide_eq_true_eq]); grind [maxSl, maxStr, toBytes_length, toInts_length, List.length_set, wrap64]))

/-- laws.szSender -/
def w_szSender_N (x0 : Sndr) (x1 : Int) (γ : Type) (fail : γ) (k : Int → γ) : γ :=
  bif (decide ((IntKind.wrap .i64 (x1 - (x0.data.length : Int))) < 0)) then
    k (-1)
  else
  k (IntKind.wrap .i64 (x1 - (x0.data.length : Int)))
def w_szSender (x0 : Sndr) (x1 : Int) : Int :=
  bif (decide ((IntKind.wrap .i64 (x1 - (x0.data.length : Int))) < 0)) then
    (-1)
  else
  (IntKind.wrap .i64 (x1 - (x0.data.length : Int)))
theorem w_szSender_lk (x0 : Sndr) (x1 : Int) : evalFn te (orcOf (P := Tryz.prog) []) lorc0 [] Tryz.f103 (pvs [.st .sndr, .sc (.int .i64)] (x0, x1, ())) =
  w_szSender_N x0 x1 _ none (fun v => some [(false, [RC.c (.int .i64 v)])]) := by kernel_rfl
theorem w_szSender_p (x0 : Sndr) (x1 : Int)   (γ : Type) (fail : γ) (k : Int → γ) : w_szSender_N x0 x1 γ fail k = k (w_szSender x0 x1) := by
  unfold w_szSender_N w_szSender
  exact bifT (f := k) (fun b0 => rfl)
      (fun b0 => rfl)
theorem w_szSender_c (x0 : Sndr) (x1 : Int)  : Con Tryz.prog 103 (pvs [.st .sndr, .sc (.int .i64)] (x0, x1, ())) [rv (.sc (.int .i64)) [] (w_szSender x0 x1)] := by
  exact evalFn_con0 teFact mixFact (orcOf_ok _) Tryz.func103 (by kernel_rfl) ((w_szSender_lk x0 x1).trans (w_szSender_p x0 x1  _ _ _))
noncomputable def w_szSender_e : Ent1 Tryz.prog := entA 103 [.st .sndr, .sc (.int .i64)] (fun x => (w_szSender x.1 x.2.1)) (fun v => [rv (.sc (.int .i64)) [] v]) (fun x => w_szSender_c x.1 x.2.1)

theorem w_szSender_sm (x0 : Sndr) (x1 : Int)  (hn : 0 ≤ x1 ∧ x1 ≤ 1048576) (hx0_data : List.length x0.data ≤ 4611686018427387904) : (fun v : Int => 0 ≤ v → v ≤ 1048576 ∧ List.length x0.data ≤ 1048576) (w_szSender x0 x1) := by
  unfold w_szSender
  exact bifP (P := (fun v : Int => 0 ≤ v → v ≤ 1048576 ∧ List.length x0.data ≤ 1048576)) (fun b0 => (by (try simp only [Nat.ble_eq, Bool.and_eq_true, decide_eq_true_eq]); grind [maxSl, maxStr, toBytes_length, toInts_length, List.length_set, wrap64]))
      (fun b0 => (by (try simp only [Nat.ble_eq, Bool.and_eq_true, decide_eq_true_eq]); grind [maxSl, maxStr, toBytes_length, toInts_length, List.length_set, wrap64]))

/-- laws.toMacRow -/
def w_toMacRow_N (x0 : MacRow) (γ : Type) (fail : γ) (k : MacRow → γ) : γ :=
  k x0
def w_toMacRow (x0 : MacRow) : MacRow :=
  x0
theorem w_toMacRow_lk (x0 : MacRow) : evalFn te (orcOf (P := Tryz.prog) []) lorc0 [] Tryz.f106 (pvs [.st .macRow] (x0, ())) =
  w_toMacRow_N x0 _ none (fun v => some [(true, [RC.c (.str v.input), RC.c (.int .i64 v.value)])]) := by kernel_rfl
theorem w_toMacRow_p (x0 : MacRow)   (γ : Type) (fail : γ) (k : MacRow → γ) : w_toMacRow_N x0 γ fail k = k (w_toMacRow x0) := by
  unfold w_toMacRow_N w_toMacRow
  exact rfl
theorem w_toMacRow_c (x0 : MacRow)  : Con Tryz.prog 106 (pvs [.st .macRow] (x0, ())) [rv (.st .macRow) [] (w_toMacRow x0)] := by
  exact evalFn_con0 teFact mixFact (orcOf_ok _) Tryz.func106 (by kernel_rfl) ((w_toMacRow_lk x0).trans (w_toMacRow_p x0  _ _ _))
noncomputable def w_toMacRow_e : Ent1 Tryz.prog := entA 106 [.st .macRow] (fun x => (w_toMacRow x.1)) (fun v => [rv (.st .macRow) [] v]) (fun x => w_toMacRow_c x.1)


/-- laws.toSender -/
def w_toSender_N (x0 : Sndr) (γ : Type) (fail : γ) (k : Sndr → γ) : γ :=
  k x0
def w_toSender (x0 : Sndr) : Sndr :=
  x0
theorem w_toSender_lk (x0 : Sndr) : evalFn te (orcOf (P := Tryz.prog) []) lorc0 [] Tryz.f107 (pvs [.st .sndr] (x0, ())) =
  w_toSender_N x0 _ none (fun v => some [(true, [RC.c (.int .i64 v.una), RC.c (.str v.data), RC.c (.int .i64 v.sent), RC.c (.bool v.fin), RC.c (.bool v.finSent), RC.c (.bool v.done)])]) := by kernel_rfl
theorem w_toSender_p (x0 : Sndr)   (γ : Type) (fail : γ) (k : Sndr → γ) : w_toSender_N x0 γ fail k = k (w_toSender x0) := by
  unfold w_toSender_N w_toSender
  exact rfl
theorem w_toSender_c (x0 : Sndr)  : Con Tryz.prog 107 (pvs [.st .sndr] (x0, ())) [rv (.st .sndr) [] (w_toSender x0)] := by
  exact evalFn_con0 teFact mixFact (orcOf_ok _) Tryz.func107 (by kernel_rfl) ((w_toSender_lk x0).trans (w_toSender_p x0  _ _ _))
noncomputable def w_toSender_e : Ent1 Tryz.prog := entA 107 [.st .sndr] (fun x => (w_toSender x.1)) (fun v => [rv (.st .sndr) [] v]) (fun x => w_toSender_c x.1)


/-- impl.WindowOf -/
def i_WindowOf_N (x0 : Recv) (γ : Type) (fail : γ) (k : Int → γ) : γ :=
  bif x0.done then
    k 0
  else
  letK (α := Int) (if 0 < (IntKind.wrap .i64 (32 - (x0.data.length : Int))) then (IntKind.wrap .i64 (32 - (x0.data.length : Int))) else 0) fun e1 =>
  k e1
def i_WindowOf (x0 : Recv) : Int :=
  bif x0.done then
    0
  else
  letK (α := Int) (if 0 < (IntKind.wrap .i64 (32 - (x0.data.length : Int))) then (IntKind.wrap .i64 (32 - (x0.data.length : Int))) else 0) fun e1 =>
  e1
theorem i_WindowOf_lk (x0 : Recv) : evalFn te (orcOf (P := Tryz.prog) []) lorc0 [] Tryz.f110 (pvs [.st .recv] (x0, ())) =
  i_WindowOf_N x0 _ none (fun v => some [(false, [RC.c (.int .i64 v)])]) := by kernel_rfl
theorem i_WindowOf_p (x0 : Recv)   (γ : Type) (fail : γ) (k : Int → γ) : i_WindowOf_N x0 γ fail k = k (i_WindowOf x0) := by
  unfold i_WindowOf_N i_WindowOf
  exact bifT (f := k) (fun b0 => rfl)
      (fun b0 => letT (f := k) (fun e1 he1 => rfl))
theorem i_WindowOf_c (x0 : Recv)  : Con Tryz.prog 110 (pvs [.st .recv] (x0, ())) [rv (.sc (.int .i64)) [] (i_WindowOf x0)] := by
  exact evalFn_con0 teFact mixFact (orcOf_ok _) Tryz.func110 (by kernel_rfl) ((i_WindowOf_lk x0).trans (i_WindowOf_p x0  _ _ _))
noncomputable def i_WindowOf_e : Ent1 Tryz.prog := entA 110 [.st .recv] (fun x => (i_WindowOf x.1)) (fun v => [rv (.sc (.int .i64)) [] v]) (fun x => i_WindowOf_c x.1)


/-- laws.eqMacRow -/
def w_eqMacRow_N (x0 : MacRow) (x1 : MacRow) (γ : Type) (fail : γ) (k : Bool → γ) : γ :=
  bif (!(x0.input == x1.input)) then
    k false
  else
  bif (x0.value != x1.value) then
    k false
  else
  k true
def w_eqMacRow (x0 : MacRow) (x1 : MacRow) : Bool :=
  bif (!(x0.input == x1.input)) then
    false
  else
  bif (x0.value != x1.value) then
    false
  else
  true
theorem w_eqMacRow_lk (x0 : MacRow) (x1 : MacRow) : evalFn te (orcOf (P := Tryz.prog) []) lorc0 [] Tryz.f111 (pvs [.st .macRow, .st .macRow] (x0, x1, ())) =
  w_eqMacRow_N x0 x1 _ none (fun v => some [(false, [RC.c (.bool v)])]) := by kernel_rfl
theorem w_eqMacRow_p (x0 : MacRow) (x1 : MacRow)   (γ : Type) (fail : γ) (k : Bool → γ) : w_eqMacRow_N x0 x1 γ fail k = k (w_eqMacRow x0 x1) := by
  unfold w_eqMacRow_N w_eqMacRow
  exact bifT (f := k) (fun b0 => rfl)
      (fun b0 => bifT (f := k) (fun b1 => rfl)
      (fun b1 => rfl))
theorem w_eqMacRow_c (x0 : MacRow) (x1 : MacRow)  : Con Tryz.prog 111 (pvs [.st .macRow, .st .macRow] (x0, x1, ())) [rv (.sc .bool) [] (w_eqMacRow x0 x1)] := by
  exact evalFn_con0 teFact mixFact (orcOf_ok _) Tryz.func111 (by kernel_rfl) ((w_eqMacRow_lk x0 x1).trans (w_eqMacRow_p x0 x1  _ _ _))
noncomputable def w_eqMacRow_e : Ent1 Tryz.prog := entA 111 [.st .macRow, .st .macRow] (fun x => (w_eqMacRow x.1 x.2.1)) (fun v => [rv (.sc .bool) [] v]) (fun x => w_eqMacRow_c x.1 x.2.1)


/-- laws.eqSender -/
def w_eqSender_N (x0 : Sndr) (x1 : Sndr) (γ : Type) (fail : γ) (k : Bool → γ) : γ :=
  bif (x0.una != x1.una) then
    k false
  else
  bif (!(x0.data == x1.data)) then
    k false
  else
  bif (x0.sent != x1.sent) then
    k false
  else
  bif (!(x0.fin == x1.fin)) then
    k false
  else
  bif (!(x0.finSent == x1.finSent)) then
    k false
  else
  bif (!(x0.done == x1.done)) then
    k false
  else
  k true
def w_eqSender (x0 : Sndr) (x1 : Sndr) : Bool :=
  bif (x0.una != x1.una) then
    false
  else
  bif (!(x0.data == x1.data)) then
    false
  else
  bif (x0.sent != x1.sent) then
    false
  else
  bif (!(x0.fin == x1.fin)) then
    false
  else
  bif (!(x0.finSent == x1.finSent)) then
    false
  else
  bif (!(x0.done == x1.done)) then
    false
  else
  true
theorem w_eqSender_lk (x0 : Sndr) (x1 : Sndr) : evalFn te (orcOf (P := Tryz.prog) []) lorc0 [] Tryz.f112 (pvs [.st .sndr, .st .sndr] (x0, x1, ())) =
  w_eqSender_N x0 x1 _ none (fun v => some [(false, [RC.c (.bool v)])]) := by kernel_rfl
theorem w_eqSender_p (x0 : Sndr) (x1 : Sndr)   (γ : Type) (fail : γ) (k : Bool → γ) : w_eqSender_N x0 x1 γ fail k = k (w_eqSender x0 x1) := by
  unfold w_eqSender_N w_eqSender
  exact bifT (f := k) (fun b0 => rfl)
      (fun b0 => bifT (f := k) (fun b1 => rfl)
      (fun b1 => bifT (f := k) (fun b2 => rfl)
      (fun b2 => bifT (f := k) (fun b3 => rfl)
      (fun b3 => bifT (f := k) (fun b4 => rfl)
      (fun b4 => bifT (f := k) (fun b5 => rfl)
      (fun b5 => rfl))))))
theorem w_eqSender_c (x0 : Sndr) (x1 : Sndr)  : Con Tryz.prog 112 (pvs [.st .sndr, .st .sndr] (x0, x1, ())) [rv (.sc .bool) [] (w_eqSender x0 x1)] := by
  exact evalFn_con0 teFact mixFact (orcOf_ok _) Tryz.func112 (by kernel_rfl) ((w_eqSender_lk x0 x1).trans (w_eqSender_p x0 x1  _ _ _))
noncomputable def w_eqSender_e : Ent1 Tryz.prog := entA 112 [.st .sndr, .st .sndr] (fun x => (w_eqSender x.1 x.2.1)) (fun v => [rv (.sc .bool) [] v]) (fun x => w_eqSender_c x.1 x.2.1)


/-- spec.l1Max -/
def s_l1Max_N (x0 : Int) (x1 : Int) (γ : Type) (fail : γ) (k : Int → γ) : γ :=
  bif (decide (x1 < x0)) then
    k x0
  else
  k x1
def s_l1Max (x0 : Int) (x1 : Int) : Int :=
  bif (decide (x1 < x0)) then
    x0
  else
  x1
theorem s_l1Max_lk (x0 : Int) (x1 : Int) : evalFn te (orcOf (P := Tryz.prog) []) lorc0 [] Tryz.f115 (pvs [.sc (.int .i64), .sc (.int .i64)] (x0, x1, ())) =
  s_l1Max_N x0 x1 _ none (fun v => some [(false, [RC.c (.int .i64 v)])]) := by kernel_rfl
theorem s_l1Max_p (x0 : Int) (x1 : Int)   (γ : Type) (fail : γ) (k : Int → γ) : s_l1Max_N x0 x1 γ fail k = k (s_l1Max x0 x1) := by
  unfold s_l1Max_N s_l1Max
  exact bifT (f := k) (fun b0 => rfl)
      (fun b0 => rfl)
theorem s_l1Max_c (x0 : Int) (x1 : Int)  : Con Tryz.prog 115 (pvs [.sc (.int .i64), .sc (.int .i64)] (x0, x1, ())) [rv (.sc (.int .i64)) [] (s_l1Max x0 x1)] := by
  exact evalFn_con0 teFact mixFact (orcOf_ok _) Tryz.func115 (by kernel_rfl) ((s_l1Max_lk x0 x1).trans (s_l1Max_p x0 x1  _ _ _))
noncomputable def s_l1Max_e : Ent1 Tryz.prog := entA 115 [.sc (.int .i64), .sc (.int .i64)] (fun x => (s_l1Max x.1 x.2.1)) (fun v => [rv (.sc (.int .i64)) [] v]) (fun x => s_l1Max_c x.1 x.2.1)


/-- laws.szPiece -/
def w_szPiece_N (x0 : Piec) (x1 : Int) (γ : Type) (fail : γ) (k : Int → γ) : γ :=
  bif (decide ((IntKind.wrap .i64 (x1 - (x0.text.length : Int))) < 0)) then
    k (-1)
  else
  k (IntKind.wrap .i64 (x1 - (x0.text.length : Int)))
def w_szPiece (x0 : Piec) (x1 : Int) : Int :=
  bif (decide ((IntKind.wrap .i64 (x1 - (x0.text.length : Int))) < 0)) then
    (-1)
  else
  (IntKind.wrap .i64 (x1 - (x0.text.length : Int)))
theorem w_szPiece_lk (x0 : Piec) (x1 : Int) : evalFn te (orcOf (P := Tryz.prog) []) lorc0 [] Tryz.f118 (pvs [.st .piec, .sc (.int .i64)] (x0, x1, ())) =
  w_szPiece_N x0 x1 _ none (fun v => some [(false, [RC.c (.int .i64 v)])]) := by kernel_rfl
theorem w_szPiece_p (x0 : Piec) (x1 : Int)   (γ : Type) (fail : γ) (k : Int → γ) : w_szPiece_N x0 x1 γ fail k = k (w_szPiece x0 x1) := by
  unfold w_szPiece_N w_szPiece
  exact bifT (f := k) (fun b0 => rfl)
      (fun b0 => rfl)
theorem w_szPiece_c (x0 : Piec) (x1 : Int)  : Con Tryz.prog 118 (pvs [.st .piec, .sc (.int .i64)] (x0, x1, ())) [rv (.sc (.int .i64)) [] (w_szPiece x0 x1)] := by
  exact evalFn_con0 teFact mixFact (orcOf_ok _) Tryz.func118 (by kernel_rfl) ((w_szPiece_lk x0 x1).trans (w_szPiece_p x0 x1  _ _ _))
noncomputable def w_szPiece_e : Ent1 Tryz.prog := entA 118 [.st .piec, .sc (.int .i64)] (fun x => (w_szPiece x.1 x.2.1)) (fun v => [rv (.sc (.int .i64)) [] v]) (fun x => w_szPiece_c x.1 x.2.1)

theorem w_szPiece_sm (x0 : Piec) (x1 : Int)  (hn : 0 ≤ x1 ∧ x1 ≤ 1048576) (hx0_text : List.length x0.text ≤ 4611686018427387904) : (fun v : Int => 0 ≤ v → v ≤ 1048576 ∧ List.length x0.text ≤ 1048576) (w_szPiece x0 x1) := by
  unfold w_szPiece
  exact bifP (P := (fun v : Int => 0 ≤ v → v ≤ 1048576 ∧ List.length x0.text ≤ 1048576)) (fun b0 => (by (try simp only [Nat.ble_eq, Bool.and_eq_true, decide_eq_true_eq]); grind [maxSl, maxStr, toBytes_length, toInts_length, List.length_set, wrap64]))
      (fun b0 => (by (try simp only [Nat.ble_eq, Bool.and_eq_true, decide_eq_true_eq]); grind [maxSl, maxStr, toBytes_length, toInts_length, List.length_set, wrap64]))

/-- laws.toPiece -/
def w_toPiece_N (x0 : Piec) (γ : Type) (fail : γ) (k : Piec → γ) : γ :=
  k x0
def w_toPiece (x0 : Piec) : Piec :=
  x0
theorem w_toPiece_lk (x0 : Piec) : evalFn te (orcOf (P := Tryz.prog) []) lorc0 [] Tryz.f119 (pvs [.st .piec] (x0, ())) =
  w_toPiece_N x0 _ none (fun v => some [(true, [RC.c (.int .i64 v.off), RC.c (.str v.text)])]) := by kernel_rfl
theorem w_toPiece_p (x0 : Piec)   (γ : Type) (fail : γ) (k : Piec → γ) : w_toPiece_N x0 γ fail k = k (w_toPiece x0) := by
  unfold w_toPiece_N w_toPiece
  exact rfl
theorem w_toPiece_c (x0 : Piec)  : Con Tryz.prog 119 (pvs [.st .piec] (x0, ())) [rv (.st .piec) [] (w_toPiece x0)] := by
  exact evalFn_con0 teFact mixFact (orcOf_ok _) Tryz.func119 (by kernel_rfl) ((w_toPiece_lk x0).trans (w_toPiece_p x0  _ _ _))
noncomputable def w_toPiece_e : Ent1 Tryz.prog := entA 119 [.st .piec] (fun x => (w_toPiece x.1)) (fun v => [rv (.st .piec) [] v]) (fun x => w_toPiece_c x.1)


/-- laws.eqPiece -/
def w_eqPiece_N (x0 : Piec) (x1 : Piec) (γ : Type) (fail : γ) (k : Bool → γ) : γ :=
  bif (x0.off != x1.off) then
    k false
  else
  bif (!(x0.text == x1.text)) then
    k false
  else
  k true
def w_eqPiece (x0 : Piec) (x1 : Piec) : Bool :=
  bif (x0.off != x1.off) then
    false
  else
  bif (!(x0.text == x1.text)) then
    false
  else
  true
theorem w_eqPiece_lk (x0 : Piec) (x1 : Piec) : evalFn te (orcOf (P := Tryz.prog) []) lorc0 [] Tryz.f120 (pvs [.st .piec, .st .piec] (x0, x1, ())) =
  w_eqPiece_N x0 x1 _ none (fun v => some [(false, [RC.c (.bool v)])]) := by kernel_rfl
theorem w_eqPiece_p (x0 : Piec) (x1 : Piec)   (γ : Type) (fail : γ) (k : Bool → γ) : w_eqPiece_N x0 x1 γ fail k = k (w_eqPiece x0 x1) := by
  unfold w_eqPiece_N w_eqPiece
  exact bifT (f := k) (fun b0 => rfl)
      (fun b0 => bifT (f := k) (fun b1 => rfl)
      (fun b1 => rfl))
theorem w_eqPiece_c (x0 : Piec) (x1 : Piec)  : Con Tryz.prog 120 (pvs [.st .piec, .st .piec] (x0, x1, ())) [rv (.sc .bool) [] (w_eqPiece x0 x1)] := by
  exact evalFn_con0 teFact mixFact (orcOf_ok _) Tryz.func120 (by kernel_rfl) ((w_eqPiece_lk x0 x1).trans (w_eqPiece_p x0 x1  _ _ _))
noncomputable def w_eqPiece_e : Ent1 Tryz.prog := entA 120 [.st .piec, .st .piec] (fun x => (w_eqPiece x.1 x.2.1)) (fun v => [rv (.sc .bool) [] v]) (fun x => w_eqPiece_c x.1 x.2.1)


/-- spec.WordOk -/
def s_WordOk_N (x0 : Int) (x1 : Int) (γ : Type) (fail : γ) (k : Bool → γ) : γ :=
  letK (α := Bool) (s_l1In x1 1 62) fun c1 =>
  bif c1 then
    bif (decide (0 ≤ (IntKind.wrap .u64 x1))) then
    letK (α := Int) (IntKind.wrap .i64 ((IntKind.wrap .i64 (1 * 2 ^ (min (IntKind.wrap .u64 x1).toNat 64))) - 1)) fun e2 =>
    letK (α := Bool) (s_l1In x0 0 e2) fun c3 =>
    k c3
    else fail
  else
  k false
def s_WordOk (x0 : Int) (x1 : Int) : Bool :=
  letK (α := Bool) (s_l1In x1 1 62) fun c1 =>
  bif c1 then
    letK (α := Int) (IntKind.wrap .i64 ((IntKind.wrap .i64 (1 * 2 ^ (min (IntKind.wrap .u64 x1).toNat 64))) - 1)) fun e2 =>
    letK (α := Bool) (s_l1In x0 0 e2) fun c3 =>
    c3
  else
  false
theorem s_WordOk_lk (x0 : Int) (x1 : Int) : evalFn te (orcOf (P := Tryz.prog) [s_l1In_e]) lorc0 [] Tryz.f23 (pvs [.sc (.int .i64), .sc (.int .i64)] (x0, x1, ())) =
  s_WordOk_N x0 x1 _ none (fun v => some [(false, [RC.c (.bool v)])]) := by kernel_rfl
theorem s_WordOk_p (x0 : Int) (x1 : Int) (hx0 : inK .i64 x0) (hx1 : inK .i64 x1)  (γ : Type) (fail : γ) (k : Bool → γ) : s_WordOk_N x0 x1 γ fail k = k (s_WordOk x0 x1) := by
  unfold s_WordOk_N s_WordOk
  exact letT (f := k) (fun c1 hc1 => bifT (f := k) (fun b0 => bifG (by simp only [decide_eq_true_eq]; exact wrapU_nonneg _) (letT (f := k) (fun e2 he2 => letT (f := k) (fun c3 hc3 => rfl))))
      (fun b0 => rfl))
theorem s_WordOk_c (x0 : Int) (x1 : Int)  : Con Tryz.prog 23 (pvs [.sc (.int .i64), .sc (.int .i64)] (x0, x1, ())) [rv (.sc .bool) [] (s_WordOk x0 x1)] := by
  refine Con.of_facts (enters_of Tryz.func23 rfl (by kernel_rfl)) fun hf => ?_
  replace hf := factAt hf
  exact evalFn_con0 teFact mixFact (orcOf_ok _) Tryz.func23 (by kernel_rfl) ((s_WordOk_lk x0 x1).trans (s_WordOk_p x0 x1 ((hf 0 0 rfl rfl).rng) ((hf 1 0 rfl rfl).rng) _ _ _))
noncomputable def s_WordOk_e : Ent1 Tryz.prog := entA 23 [.sc (.int .i64), .sc (.int .i64)] (fun x => (s_WordOk x.1 x.2.1)) (fun v => [rv (.sc .bool) [] v]) (fun x => s_WordOk_c x.1 x.2.1)


/-- spec.CacheOk -/
def s_CacheOk_ann : List (Nat × Keep) := [(0, ⟨[0, 3], [], false, 0⟩)]
def s_CacheOk_L0_sh : Sh := ⟨[(0, false, [.sl .arg .entr]), (3, false, [.int .i64])], []⟩
def s_CacheOk_L0_es : List (Ex × Sh) := [(.ret, ⟨[(0, false, [.sl .arg .entr]), (2, false, [.bool])], []⟩), (.exit 0, ⟨[(0, false, [.sl .arg .entr]), (2, false, [.undef])], []⟩)]
def s_CacheOk_L0_mk (v0 : List Entr) (v1 : Int) : s_CacheOk_L0_sh.T := (((v0, ()), ((v1, ()), ())), ())
def s_CacheOk_L0_mx0 (y0 : List Entr) (y1 : Bool) : Sh.T ⟨[(0, false, [.sl .arg .entr]), (2, false, [.bool])], []⟩ := (((y0, ()), ((y1, ()), ())), ())
def s_CacheOk_L0_mx1 (y0 : List Entr) : Sh.T ⟨[(0, false, [.sl .arg .entr]), (2, false, [.undef])], []⟩ := (((y0, ()), (((), ()), ())), ())
def s_CacheOk_L0_B (v0 : List Entr) (v1 : Int) (γ : Type) (fail : γ) (next : s_CacheOk_L0_sh.T → γ) (out : WT s_CacheOk_L0_es → γ) : γ :=
  bif (decide (v1 < (v0.length : Int))) then
    bif ((decide (0 ≤ v1)) && (decide (v1 < (v0.length : Int)))) then
    letK (α := Bool) (s_WordOk ((v0.getD v1.toNat (Ty.zero .entr)).ip) 32) fun c1 =>
    bif (!c1) then
      out (Sum.inl (s_CacheOk_L0_mx0 v0 false))
    else
    letK (α := Bool) (s_WordOk ((v0.getD v1.toNat (Ty.zero .entr)).hw) 48) fun c2 =>
    bif (!c2) then
      out (Sum.inl (s_CacheOk_L0_mx0 v0 false))
    else
    letK (α := Bool) (s_l1In ((v0.getD v1.toNat (Ty.zero .entr)).age) 0 9) fun c3 =>
    bif (!c3) then
      out (Sum.inl (s_CacheOk_L0_mx0 v0 false))
    else
    bif ((decide (0 ≤ v1)) && (decide (v1 ≤ (v0.length : Int)))) then
    letK (α := Int) (s_l15At ((v0.take v1.toNat).drop 0) ((v0.getD v1.toNat (Ty.zero .entr)).ip)) fun c4 =>
    bif (decide (0 ≤ c4)) then
      out (Sum.inl (s_CacheOk_L0_mx0 v0 false))
    else
    next (s_CacheOk_L0_mk v0 (IntKind.wrap .i64 (v1 + 1)))
    else fail
    else fail
  else
  out (Sum.inr (s_CacheOk_L0_mx1 v0))
theorem s_CacheOk_L0_par (v0 : List Entr) (v1 : Int) (γ : Type) (fail : γ) (next : s_CacheOk_L0_sh.T → γ) (out : WT s_CacheOk_L0_es → γ) : s_CacheOk_L0_B v0 v1 γ fail next out = optK (s_CacheOk_L0_B v0 v1 _ none (fun v' => some (.inl v')) (fun w => some (.inr w))) fail (fun r => Sum.elim next out r) := by
  unfold s_CacheOk_L0_B
  exact bifT (f := (fun o => optK o fail (fun r => Sum.elim next out r))) (fun _ => bifT (f := (fun o => optK o fail (fun r => Sum.elim next out r))) (fun _ => letT (f := (fun o => optK o fail (fun r => Sum.elim next out r))) (fun c1 _ => bifT (f := (fun o => optK o fail (fun r => Sum.elim next out r))) (fun _ => rfl)
      (fun _ => letT (f := (fun o => optK o fail (fun r => Sum.elim next out r))) (fun c2 _ => bifT (f := (fun o => optK o fail (fun r => Sum.elim next out r))) (fun _ => rfl)
      (fun _ => letT (f := (fun o => optK o fail (fun r => Sum.elim next out r))) (fun c3 _ => bifT (f := (fun o => optK o fail (fun r => Sum.elim next out r))) (fun _ => rfl)
      (fun _ => bifT (f := (fun o => optK o fail (fun r => Sum.elim next out r))) (fun _ => letT (f := (fun o => optK o fail (fun r => Sum.elim next out r))) (fun c4 _ => bifT (f := (fun o => optK o fail (fun r => Sum.elim next out r))) (fun _ => rfl)
      (fun _ => rfl))) (fun _ => rfl)))))))) (fun _ => rfl))
      (fun _ => rfl)
def s_CacheOk_L0_r : Round s_CacheOk_L0_sh.T (WT s_CacheOk_L0_es) where
  B v γ fail next out := s_CacheOk_L0_B v.1.1.1 v.1.2.1.1 γ fail next out
  par v γ fail next out := s_CacheOk_L0_par v.1.1.1 v.1.2.1.1 γ fail next out
def s_CacheOk_L0_fu (v0 : List Entr) (v1 : Int) : Nat := (Int.toNat ((v0.length : Int) - v1)) + 1
theorem s_CacheOk_L0_lk (v : s_CacheOk_L0_sh.T) (next : St → Option Res) (k : Ex → St → Option Res) : evalK te (orcOf (P := Tryz.prog) [s_WordOk_e, s_l1In_e, s_l15At_e]) (lorcOf []) Tryz.f24.ntmps s_CacheOk_ann (nthLoop (bodyOf Tryz.f24) 0 0) 0 (s_CacheOk_L0_sh.enc v) (endK ⟨[0, 3], [], false, 0⟩ ⟨[0, 2], [], false, 0⟩ next k) =
  s_CacheOk_L0_r.B v _ none (fun v' => next (s_CacheOk_L0_sh.enc v')) (fun w => outK s_CacheOk_L0_es k w) := by kernel_rfl
def s_CacheOk_L0_le : LE := leOf 0 s_CacheOk_L0_sh s_CacheOk_L0_es s_CacheOk_L0_r.step (fun v => s_CacheOk_L0_fu v.1.1.1 v.1.2.1.1)
theorem s_CacheOk_L0_ls (w0 : World) (mo : Mts) (I0 : Nat → Prop) (hmo : mo.length = 0) : LSem Tryz.prog (Sim w0 mo Tryz.f24.ntmps I0) (fun b s k => match Nat.beq 0 b with | true => s_CacheOk_L0_le.run s k | false => none) 0 (nthLoop (bodyOf Tryz.f24) 0 0) :=
  le_sem hmo (lorc := lorcOf []) (ann := s_CacheOk_ann) (keep := ⟨[0, 3], [], false, 0⟩) (kout := ⟨[0, 2], [], false, 0⟩) teFact mixFact (orcOf_ok _) (by kernel_rfl) (allLoops_of (bs := []) (by kernel_rfl) trivial) s_CacheOk_L0_r _ s_CacheOk_L0_lk
def s_CacheOk_L0_f (v0 : List Entr) (v1 : Int) (a : Unit) : Stp (Unit) ((Unit)) :=
  letK (α := Bool) (s_WordOk ((v0.getD v1.toNat (Ty.zero .entr)).ip) 32) fun c1 =>
  bif (!c1) then
    .out (())
  else
  letK (α := Bool) (s_WordOk ((v0.getD v1.toNat (Ty.zero .entr)).hw) 48) fun c2 =>
  bif (!c2) then
    .out (())
  else
  letK (α := Bool) (s_l1In ((v0.getD v1.toNat (Ty.zero .entr)).age) 0 9) fun c3 =>
  bif (!c3) then
    .out (())
  else
  letK (α := Int) (s_l15At ((v0.take v1.toNat).drop 0) ((v0.getD v1.toNat (Ty.zero .entr)).ip)) fun c4 =>
  bif (decide (0 ≤ c4)) then
    .out (())
  else
  .next ()
theorem s_CacheOk_L0_st (v0 : List Entr) (v1 : Int) (hlo : 0 ≤ v1) (hhi : v1 < (v0.length : Int)) (hN : (v0.length : Int) ≤ 4611686018427387904) : s_CacheOk_L0_r.step (s_CacheOk_L0_mk v0 v1) = Stp.elim (fun a' : Unit => some (Sum.inl (s_CacheOk_L0_mk v0 (v1 + 1)))) (fun w => some (Sum.inr ((fun p : Unit => Sum.inl (s_CacheOk_L0_mx0 v0 false)) w))) (s_CacheOk_L0_f v0 v1 ()) := by
  have hw : (IntKind.wrap .i64 (v1 + 1)) = v1 + 1 := wrap64 (by omega) (by omega)
  show s_CacheOk_L0_B v0 v1 (Option (s_CacheOk_L0_sh.T ⊕ WT s_CacheOk_L0_es)) none (fun v' => some (Sum.inl v')) (fun w => some (Sum.inr w)) = _
  unfold s_CacheOk_L0_B s_CacheOk_L0_f
  exact bifG (by simp only [decide_eq_true_eq]; omega) (bifG (by (try simp only [Nat.ble_eq, Bool.and_eq_true, decide_eq_true_eq]); grind [maxSl, maxStr, toBytes_length, toInts_length, List.length_set, wrap64]) (letT (f := (Stp.elim (fun a' : Unit => some (Sum.inl (s_CacheOk_L0_mk v0 (v1 + 1)))) (fun w => some (Sum.inr ((fun p : Unit => Sum.inl (s_CacheOk_L0_mx0 v0 false)) w))))) (fun c1 hc1 => bifT (f := (Stp.elim (fun a' : Unit => some (Sum.inl (s_CacheOk_L0_mk v0 (v1 + 1)))) (fun w => some (Sum.inr ((fun p : Unit => Sum.inl (s_CacheOk_L0_mx0 v0 false)) w))))) (fun b0 => rfl)
      (fun b0 => letT (f := (Stp.elim (fun a' : Unit => some (Sum.inl (s_CacheOk_L0_mk v0 (v1 + 1)))) (fun w => some (Sum.inr ((fun p : Unit => Sum.inl (s_CacheOk_L0_mx0 v0 false)) w))))) (fun c2 hc2 => bifT (f := (Stp.elim (fun a' : Unit => some (Sum.inl (s_CacheOk_L0_mk v0 (v1 + 1)))) (fun w => some (Sum.inr ((fun p : Unit => Sum.inl (s_CacheOk_L0_mx0 v0 false)) w))))) (fun b1 => rfl)
      (fun b1 => letT (f := (Stp.elim (fun a' : Unit => some (Sum.inl (s_CacheOk_L0_mk v0 (v1 + 1)))) (fun w => some (Sum.inr ((fun p : Unit => Sum.inl (s_CacheOk_L0_mx0 v0 false)) w))))) (fun c3 hc3 => bifT (f := (Stp.elim (fun a' : Unit => some (Sum.inl (s_CacheOk_L0_mk v0 (v1 + 1)))) (fun w => some (Sum.inr ((fun p : Unit => Sum.inl (s_CacheOk_L0_mx0 v0 false)) w))))) (fun b2 => rfl)
      (fun b2 => bifG (by (try simp only [Nat.ble_eq, Bool.and_eq_true, decide_eq_true_eq]); grind [maxSl, maxStr, toBytes_length, toInts_length, List.length_set, wrap64]) (letT (f := (Stp.elim (fun a' : Unit => some (Sum.inl (s_CacheOk_L0_mk v0 (v1 + 1)))) (fun w => some (Sum.inr ((fun p : Unit => Sum.inl (s_CacheOk_L0_mx0 v0 false)) w))))) (fun c4 hc4 => bifT (f := (Stp.elim (fun a' : Unit => some (Sum.inl (s_CacheOk_L0_mk v0 (v1 + 1)))) (fun w => some (Sum.inr ((fun p : Unit => Sum.inl (s_CacheOk_L0_mx0 v0 false)) w))))) (fun b3 => rfl)
      (fun b3 => (by exact congrArg (fun z => some (Sum.inl (s_CacheOk_L0_mk v0 z))) hw))))))))))))
theorem s_CacheOk_L0_cl (v0 : List Entr) (v1 : Int) (h0 : 0 ≤ v1) (h1 : (v0.length : Int) ≤ 4611686018427387904) : loopF s_CacheOk_L0_r.step (s_CacheOk_L0_fu v0 v1) (s_CacheOk_L0_mk v0 v1) = some (Stp.elim (fun a => (fun i a => Sum.inr (s_CacheOk_L0_mx1 v0)) (v1 + 1 * (((Int.toNat ((v0.length : Int) - v1)) : Nat) : Int)) a) (fun p : Unit => Sum.inl (s_CacheOk_L0_mx0 v0 false)) (forN (s_CacheOk_L0_f v0) 1 (Int.toNat ((v0.length : Int) - v1)) v1 ())) :=
  forN_loop (step := s_CacheOk_L0_r.step) (mk := fun v1 a => s_CacheOk_L0_mk v0 v1) (f := s_CacheOk_L0_f v0) (e := (fun i a => Sum.inr (s_CacheOk_L0_mx1 v0))) (emb := (fun p : Unit => Sum.inl (s_CacheOk_L0_mx0 v0 false))) (st := 1) (Inv := fun v1 a => True) (Int.toNat ((v0.length : Int) - v1)) v1 () _ (Nat.lt_succ_self _) trivial
    (fun j a hj hv => ⟨s_CacheOk_L0_st v0 (v1 + 1 * (j : Int)) (by omega) (by omega) (by omega), fun _ _ => trivial⟩)
    (fun a hv => by
      show s_CacheOk_L0_B v0 (v1 + 1 * (((Int.toNat ((v0.length : Int) - v1)) : Nat) : Int)) (Option (s_CacheOk_L0_sh.T ⊕ WT s_CacheOk_L0_es)) none (fun v' => some (Sum.inl v')) (fun w => some (Sum.inr w)) = _
      unfold s_CacheOk_L0_B
      exact bifN (by simp only [decide_eq_false_iff_not]; omega) rfl)
def s_CacheOk_N (x0 : List Entr) (γ : Type) (fail : γ) (k : Bool → γ) : γ :=
  optK (loopF s_CacheOk_L0_r.step (s_CacheOk_L0_fu x0 0) (s_CacheOk_L0_mk x0 0)) fail fun w5 =>
    Sum.elim (fun w5 =>
      k w5.1.2.1.1)
    (fun w5 =>
      k (decide ((w5.1.1.1.length : Int) ≤ 4))) w5
def s_CacheOk (x0 : List Entr) : Bool :=
  Stp.elim (fun a6 =>
    (decide ((x0.length : Int) ≤ 4)))
    (fun p6 =>
      false)
    (forN (s_CacheOk_L0_f x0) 1 (Int.toNat ((x0.length : Int) - 0)) 0 ())
theorem s_CacheOk_lk (x0 : List Entr) : evalFn te (orcOf (P := Tryz.prog) [s_WordOk_e, s_l1In_e, s_l15At_e]) (lorcOf [s_CacheOk_L0_le]) s_CacheOk_ann Tryz.f24 (pvs [.sc (.sl .entr)] (x0, ())) =
  s_CacheOk_N x0 _ none (fun v => some [(false, [RC.c (.bool v)])]) := by kernel_rfl
theorem s_CacheOk_p (x0 : List Entr) (hx0 : x0.length ≤ 140737488355328)  (γ : Type) (fail : γ) (k : Bool → γ) : s_CacheOk_N x0 γ fail k = k (s_CacheOk x0) := by
  unfold s_CacheOk_N s_CacheOk
  exact loopT (f := k) (s_CacheOk_L0_cl x0 0 (by (try simp only [Nat.ble_eq, Bool.and_eq_true, decide_eq_true_eq, s_CacheOk_L0_mx0, s_CacheOk_L0_mx1]); grind [maxSl, maxStr, toBytes_length, toInts_length, List.length_set, wrap64]) (by (try simp only [Nat.ble_eq, Bool.and_eq_true, decide_eq_true_eq, s_CacheOk_L0_mx0, s_CacheOk_L0_mx1]); grind [maxSl, maxStr, toBytes_length, toInts_length, List.length_set, wrap64])) (fun a6 => rfl)
      (fun p6 => rfl)
theorem s_CacheOk_c (x0 : List Entr)  : Con Tryz.prog 24 (pvs [.sc (.sl .entr)] (x0, ())) [rv (.sc .bool) [] (s_CacheOk x0)] := by
  refine Con.of_facts (enters_of Tryz.func24 rfl (by kernel_rfl)) fun hf => ?_
  replace hf := factAt hf
  exact evalFn_conL teFact mixFact (orcOf_ok _) Tryz.func24 (by kernel_rfl) (bs := [0]) (by kernel_rfl) (by kernel_rfl) (fun w0 mo I0 hmo => ⟨lsem_of_lorc (s_CacheOk_L0_ls w0 mo I0 hmo) (by kernel_rfl), trivial⟩) ((s_CacheOk_lk x0).trans (s_CacheOk_p x0 ((hf 0 0 rfl rfl).len) _ _ _))
noncomputable def s_CacheOk_e : Ent1 Tryz.prog := entA 24 [.sc (.sl .entr)] (fun x => (s_CacheOk x.1)) (fun v => [rv (.sc .bool) [] v]) (fun x => s_CacheOk_c x.1)


/-- spec.KeysOk -/
def s_KeysOk_N (x0 : Keys) (γ : Type) (fail : γ) (k : Bool → γ) : γ :=
  letK (α := Bool) (s_WordOk x0.epoch 32) fun c1 =>
  bif (!c1) then
    k false
  else
  letK (α := Bool) (s_MacOk x0.now) fun c2 =>
  bif (!c2) then
    k false
  else
  letK (α := Bool) (s_MacOk x0.before) fun c3 =>
  bif (!c3) then
    k false
  else
  bif x0.two then
    k (decide (1 ≤ x0.epoch))
  else
  letK (α := Bool) (s_SameMac x0.before (⟨false, 0, 0, []⟩ : Mac)) fun c4 =>
  k c4
def s_KeysOk (x0 : Keys) : Bool :=
  letK (α := Bool) (s_WordOk x0.epoch 32) fun c1 =>
  bif (!c1) then
    false
  else
  letK (α := Bool) (s_MacOk x0.now) fun c2 =>
  bif (!c2) then
    false
  else
  letK (α := Bool) (s_MacOk x0.before) fun c3 =>
  bif (!c3) then
    false
  else
  bif x0.two then
    (decide (1 ≤ x0.epoch))
  else
  letK (α := Bool) (s_SameMac x0.before (⟨false, 0, 0, []⟩ : Mac)) fun c4 =>
  c4
theorem s_KeysOk_lk (x0 : Keys) : evalFn te (orcOf (P := Tryz.prog) [s_WordOk_e, s_MacOk_e, s_SameMac_e]) lorc0 [] Tryz.f25 (pvs [.st .keys] (x0, ())) =
  s_KeysOk_N x0 _ none (fun v => some [(false, [RC.c (.bool v)])]) := by kernel_rfl
theorem s_KeysOk_p (x0 : Keys)   (γ : Type) (fail : γ) (k : Bool → γ) : s_KeysOk_N x0 γ fail k = k (s_KeysOk x0) := by
  unfold s_KeysOk_N s_KeysOk
  exact letT (f := k) (fun c1 hc1 => bifT (f := k) (fun b0 => rfl)
      (fun b0 => letT (f := k) (fun c2 hc2 => bifT (f := k) (fun b1 => rfl)
      (fun b1 => letT (f := k) (fun c3 hc3 => bifT (f := k) (fun b2 => rfl)
      (fun b2 => bifT (f := k) (fun b3 => rfl)
      (fun b3 => letT (f := k) (fun c4 hc4 => rfl))))))))
theorem s_KeysOk_c (x0 : Keys)  : Con Tryz.prog 25 (pvs [.st .keys] (x0, ())) [rv (.sc .bool) [] (s_KeysOk x0)] := by
  exact evalFn_con0 teFact mixFact (orcOf_ok _) Tryz.func25 (by kernel_rfl) ((s_KeysOk_lk x0).trans (s_KeysOk_p x0  _ _ _))
noncomputable def s_KeysOk_e : Ent1 Tryz.prog := entA 25 [.st .keys] (fun x => (s_KeysOk x.1)) (fun v => [rv (.sc .bool) [] v]) (fun x => s_KeysOk_c x.1)


/-- laws.toEntryS -/
def w_toEntryS_ann : List (Nat × Keep) := [(0, ⟨[0, 3, 4], [], false, 0⟩)]
def w_toEntryS_L0_sh : Sh := ⟨[(0, false, [.sl .arg .entr]), (3, false, [.own 0]), (4, false, [.int .i64])], [.arr .entr false true]⟩
def w_toEntryS_L0_es : List (Ex × Sh) := [(.exit 0, ⟨[(2, false, [.undef]), (3, false, [.own 0])], [.arr .entr false true]⟩)]
def w_toEntryS_L0_mk (v0 : List Entr) (v1 : Int) (v2 : List Entr) : w_toEntryS_L0_sh.T := (((v0, ()), (((), ()), ((v1, ()), ()))), (v2, ()))
def w_toEntryS_L0_mx0 (y0 : List Entr) : Sh.T ⟨[(2, false, [.undef]), (3, false, [.own 0])], [.arr .entr false true]⟩ := ((((), ()), (((), ()), ())), (y0, ()))
def w_toEntryS_L0_B (v0 : List Entr) (v1 : Int) (v2 : List Entr) (γ : Type) (fail : γ) (next : w_toEntryS_L0_sh.T → γ) (out : WT w_toEntryS_L0_es → γ) : γ :=
  bif (decide (v1 < (v0.length : Int))) then
    bif ((decide (0 ≤ v1)) && (decide (v1 < (v0.length : Int)))) then
    letK (α := Entr) (w_toEntry (v0.getD v1.toNat (Ty.zero .entr))) fun c1 =>
    bif ((decide (0 ≤ v1)) && (decide (v1 < (v2.length : Int)))) then
    next (w_toEntryS_L0_mk v0 (IntKind.wrap .i64 (v1 + 1)) (v2.set v1.toNat c1))
    else fail
    else fail
  else
  out (w_toEntryS_L0_mx0 v2)
theorem w_toEntryS_L0_par (v0 : List Entr) (v1 : Int) (v2 : List Entr) (γ : Type) (fail : γ) (next : w_toEntryS_L0_sh.T → γ) (out : WT w_toEntryS_L0_es → γ) : w_toEntryS_L0_B v0 v1 v2 γ fail next out = optK (w_toEntryS_L0_B v0 v1 v2 _ none (fun v' => some (.inl v')) (fun w => some (.inr w))) fail (fun r => Sum.elim next out r) := by
  unfold w_toEntryS_L0_B
  exact bifT (f := (fun o => optK o fail (fun r => Sum.elim next out r))) (fun _ => bifT (f := (fun o => optK o fail (fun r => Sum.elim next out r))) (fun _ => letT (f := (fun o => optK o fail (fun r => Sum.elim next out r))) (fun c1 _ => bifT (f := (fun o => optK o fail (fun r => Sum.elim next out r))) (fun _ => rfl) (fun _ => rfl))) (fun _ => rfl))
      (fun _ => rfl)
def w_toEntryS_L0_r : Round w_toEntryS_L0_sh.T (WT w_toEntryS_L0_es) where
  B v γ fail next out := w_toEntryS_L0_B v.1.1.1 v.1.2.2.1.1 v.2.1 γ fail next out
  par v γ fail next out := w_toEntryS_L0_par v.1.1.1 v.1.2.2.1.1 v.2.1 γ fail next out
def w_toEntryS_L0_fu (v0 : List Entr) (v1 : Int) (v2 : List Entr) : Nat := (Int.toNat ((v0.length : Int) - v1)) + 1
theorem w_toEntryS_L0_lk (v : w_toEntryS_L0_sh.T) (next : St → Option Res) (k : Ex → St → Option Res) : evalK te (orcOf (P := Tryz.prog) [w_toEntry_e]) (lorcOf []) Tryz.f30.ntmps w_toEntryS_ann (nthLoop (bodyOf Tryz.f30) 0 0) 0 (w_toEntryS_L0_sh.enc v) (endK ⟨[0, 3, 4], [], false, 0⟩ ⟨[2, 3], [], false, 0⟩ next k) =
  w_toEntryS_L0_r.B v _ none (fun v' => next (w_toEntryS_L0_sh.enc v')) (fun w => outK w_toEntryS_L0_es k w) := by kernel_rfl
def w_toEntryS_L0_le : LE := leOf 0 w_toEntryS_L0_sh w_toEntryS_L0_es w_toEntryS_L0_r.step (fun v => w_toEntryS_L0_fu v.1.1.1 v.1.2.2.1.1 v.2.1)
theorem w_toEntryS_L0_ls (w0 : World) (mo : Mts) (I0 : Nat → Prop) (hmo : mo.length = 0) : LSem Tryz.prog (Sim w0 mo Tryz.f30.ntmps I0) (fun b s k => match Nat.beq 0 b with | true => w_toEntryS_L0_le.run s k | false => none) 0 (nthLoop (bodyOf Tryz.f30) 0 0) :=
  le_sem hmo (lorc := lorcOf []) (ann := w_toEntryS_ann) (keep := ⟨[0, 3, 4], [], false, 0⟩) (kout := ⟨[2, 3], [], false, 0⟩) teFact mixFact (orcOf_ok _) (by kernel_rfl) (allLoops_of (bs := []) (by kernel_rfl) trivial) w_toEntryS_L0_r _ w_toEntryS_L0_lk
def w_toEntryS_L0_f (v0 : List Entr) (v1 : Int) (a : List Entr) : Stp (List Entr) (Empty) :=
  letK (α := Entr) (w_toEntry (v0.getD v1.toNat (Ty.zero .entr))) fun c1 =>
  .next (a.set v1.toNat c1)
theorem w_toEntryS_L0_st (v0 : List Entr) (v1 : Int) (v2 : List Entr) (hlo : 0 ≤ v1) (hhi : v1 < (v0.length : Int)) (hN : (v0.length : Int) ≤ 4611686018427387904) (hinv : (v0.length : Int) ≤ (v2.length : Int)) : w_toEntryS_L0_r.step (w_toEntryS_L0_mk v0 v1 v2) = Stp.elim (fun a' : List Entr => some (Sum.inl (w_toEntryS_L0_mk v0 (v1 + 1) a'))) (fun w => some (Sum.inr ((fun p : Empty => nomatch p) w))) (w_toEntryS_L0_f v0 v1 v2) := by
  have hw : (IntKind.wrap .i64 (v1 + 1)) = v1 + 1 := wrap64 (by omega) (by omega)
  show w_toEntryS_L0_B v0 v1 v2 (Option (w_toEntryS_L0_sh.T ⊕ WT w_toEntryS_L0_es)) none (fun v' => some (Sum.inl v')) (fun w => some (Sum.inr w)) = _
  unfold w_toEntryS_L0_B w_toEntryS_L0_f
  exact bifG (by simp only [decide_eq_true_eq]; omega) (bifG (by (try simp only [Nat.ble_eq, Bool.and_eq_true, decide_eq_true_eq]); grind [maxSl, maxStr, toBytes_length, toInts_length, List.length_set, wrap64]) (letT (f := (Stp.elim (fun a' : List Entr => some (Sum.inl (w_toEntryS_L0_mk v0 (v1 + 1) a'))) (fun w => some (Sum.inr ((fun p : Empty => nomatch p) w))))) (fun c1 hc1 => bifG (by (try simp only [Nat.ble_eq, Bool.and_eq_true, decide_eq_true_eq]); grind [maxSl, maxStr, toBytes_length, toInts_length, List.length_set, wrap64]) ((by exact congrArg (fun z => some (Sum.inl (w_toEntryS_L0_mk v0 z (v2.set v1.toNat c1)))) hw)))))
theorem w_toEntryS_L0_cl (v0 : List Entr) (v1 : Int) (v2 : List Entr) (h0 : 0 ≤ v1) (h1 : (v0.length : Int) ≤ 4611686018427387904) (h2 : (v0.length : Int) ≤ (v2.length : Int)) : loopF w_toEntryS_L0_r.step (w_toEntryS_L0_fu v0 v1 v2) (w_toEntryS_L0_mk v0 v1 v2) = some (Stp.elim (fun a => (fun i a => w_toEntryS_L0_mx0 a) (v1 + 1 * (((Int.toNat ((v0.length : Int) - v1)) : Nat) : Int)) a) (fun p : Empty => nomatch p) (forN (w_toEntryS_L0_f v0) 1 (Int.toNat ((v0.length : Int) - v1)) v1 v2)) :=
  forN_loop (step := w_toEntryS_L0_r.step) (mk := fun v1 a => w_toEntryS_L0_mk v0 v1 a) (f := w_toEntryS_L0_f v0) (e := (fun i a => w_toEntryS_L0_mx0 a)) (emb := (fun p : Empty => nomatch p)) (st := 1) (Inv := fun v1 a => (v0.length : Int) ≤ (a.length : Int)) (Int.toNat ((v0.length : Int) - v1)) v1 v2 _ (Nat.lt_succ_self _) h2
    (fun j a hj hv => ⟨w_toEntryS_L0_st v0 (v1 + 1 * (j : Int)) a (by omega) (by omega) (by omega) hv, by
      intro a' he
      grind [w_toEntryS_L0_f, letK, Stp.elim, wrap64, List.length_set]⟩)
    (fun a hv => by
      show w_toEntryS_L0_B v0 (v1 + 1 * (((Int.toNat ((v0.length : Int) - v1)) : Nat) : Int)) a (Option (w_toEntryS_L0_sh.T ⊕ WT w_toEntryS_L0_es)) none (fun v' => some (Sum.inl v')) (fun w => some (Sum.inr w)) = _
      unfold w_toEntryS_L0_B
      exact bifN (by simp only [decide_eq_false_iff_not]; omega) rfl)
theorem w_toEntryS_L0_nx (v0 : List Entr) (v1 : Int) (v2 : List Entr) (h0 : 0 ≤ v1) (h1 : (v0.length : Int) ≤ 4611686018427387904) (h2 : (v0.length : Int) ≤ (v2.length : Int)) : ∀ a', forN (w_toEntryS_L0_f v0) 1 (Int.toNat ((v0.length : Int) - v1)) v1 v2 = .next a' → (v0.length : Int) ≤ (a'.length : Int) :=
  forN_inv (f := w_toEntryS_L0_f v0) (st := 1) (Inv := fun v1 a => (v0.length : Int) ≤ (a.length : Int)) (Int.toNat ((v0.length : Int) - v1)) v1 v2 h2
    (fun j a hj hv => by
      intro a' he
      grind [w_toEntryS_L0_f, letK, Stp.elim, wrap64, List.length_set])
def w_toEntryS_N (x0 : List Entr) (γ : Type) (fail : γ) (k : List Entr → γ) : γ :=
  bif ((((decide (0 ≤ (x0.length : Int))) && (decide ((x0.length : Int) = (x0.length : Int)))) && (decide ((x0.length : Int) * 24 ≤ (maxSl : Int)))) && (decide ((x0.length : Int) ≤ (maxSl : Int)))) then
  optK (loopF w_toEntryS_L0_r.step (w_toEntryS_L0_fu x0 0 (List.replicate ((x0.length : Int).toNat) (⟨0, 0, 0⟩ : Entr))) (w_toEntryS_L0_mk x0 0 (List.replicate ((x0.length : Int).toNat) (⟨0, 0, 0⟩ : Entr)))) fail fun w2 =>
    k w2.2.1
  else fail
def w_toEntryS (x0 : List Entr) : List Entr :=
  Stp.elim (fun a3 =>
    a3)
    (fun p : Empty => nomatch p)
    (forN (w_toEntryS_L0_f x0) 1 (Int.toNat ((x0.length : Int) - 0)) 0 (List.replicate ((x0.length : Int).toNat) (⟨0, 0, 0⟩ : Entr)))
theorem w_toEntryS_lk (x0 : List Entr) : evalFn te (orcOf (P := Tryz.prog) [w_toEntry_e]) (lorcOf [w_toEntryS_L0_le]) w_toEntryS_ann Tryz.f30 (pvs [.sc (.sl .entr)] (x0, ())) =
  w_toEntryS_N x0 _ none (fun v => some [(false, [RC.own true .entr v])]) := by kernel_rfl
theorem w_toEntryS_p (x0 : List Entr) (hx0 : x0.length ≤ 140737488355328) (hp : x0.length ≤ 4294967296) (γ : Type) (fail : γ) (k : List Entr → γ) : w_toEntryS_N x0 γ fail k = k (w_toEntryS x0) := by
  unfold w_toEntryS_N w_toEntryS
  exact bifG (by (try simp only [Nat.ble_eq, Bool.and_eq_true, decide_eq_true_eq, w_toEntryS_L0_mx0]); grind [maxSl, maxStr, toBytes_length, toInts_length, List.length_set, wrap64]) (loopX (f := k) (w_toEntryS_L0_cl x0 0 (List.replicate ((x0.length : Int).toNat) (⟨0, 0, 0⟩ : Entr)) (by (try simp only [Nat.ble_eq, Bool.and_eq_true, decide_eq_true_eq, w_toEntryS_L0_mx0]); grind [maxSl, maxStr, toBytes_length, toInts_length, List.length_set, wrap64]) (by (try simp only [Nat.ble_eq, Bool.and_eq_true, decide_eq_true_eq, w_toEntryS_L0_mx0]); grind [maxSl, maxStr, toBytes_length, toInts_length, List.length_set, wrap64]) (by (try simp only [Nat.ble_eq, Bool.and_eq_true, decide_eq_true_eq, w_toEntryS_L0_mx0]); grind [maxSl, maxStr, toBytes_length, toInts_length, List.length_set, wrap64])) (fun a3 ha3 => have ia3 := w_toEntryS_L0_nx x0 0 (List.replicate ((x0.length : Int).toNat) (⟨0, 0, 0⟩ : Entr)) (by (try simp only [Nat.ble_eq, Bool.and_eq_true, decide_eq_true_eq, w_toEntryS_L0_mx0]); grind [maxSl, maxStr, toBytes_length, toInts_length, List.length_set, wrap64]) (by (try simp only [Nat.ble_eq, Bool.and_eq_true, decide_eq_true_eq, w_toEntryS_L0_mx0]); grind [maxSl, maxStr, toBytes_length, toInts_length, List.length_set, wrap64]) (by (try simp only [Nat.ble_eq, Bool.and_eq_true, decide_eq_true_eq, w_toEntryS_L0_mx0]); grind [maxSl, maxStr, toBytes_length, toInts_length, List.length_set, wrap64]) _ ha3; rfl)
      (fun p : Empty => nomatch p))
theorem w_toEntryS_c (x0 : List Entr) (hp : x0.length ≤ 4294967296) : Con Tryz.prog 30 (pvs [.sc (.sl .entr)] (x0, ())) [rv (.sc (.sl .entr)) [.o true] (w_toEntryS x0)] := by
  refine Con.of_facts (enters_of Tryz.func30 rfl (by kernel_rfl)) fun hf => ?_
  replace hf := factAt hf
  exact evalFn_conL teFact mixFact (orcOf_ok _) Tryz.func30 (by kernel_rfl) (bs := [0]) (by kernel_rfl) (by kernel_rfl) (fun w0 mo I0 hmo => ⟨lsem_of_lorc (w_toEntryS_L0_ls w0 mo I0 hmo) (by kernel_rfl), trivial⟩) ((w_toEntryS_lk x0).trans (w_toEntryS_p x0 ((hf 0 0 rfl rfl).len) hp _ _ _))
noncomputable def w_toEntryS_e : Ent1 Tryz.prog := entP 30 [.sc (.sl .entr)] (fun x => (decide (x.1.length ≤ 4294967296))) (fun x => (w_toEntryS x.1)) (fun v => [rv (.sc (.sl .entr)) [.o true] v]) (fun x hx => w_toEntryS_c x.1 (of_decide_eq_true hx))


/-- impl.WordOk -/
def i_WordOk_N (x0 : Int) (x1 : Int) (γ : Type) (fail : γ) (k : Bool → γ) : γ :=
  letK (α := Bool) (i_within x1 1 62) fun c1 =>
  bif c1 then
    bif (decide (0 ≤ x1)) then
    letK (α := Int) (IntKind.wrap .i64 ((IntKind.wrap .i64 (1 * 2 ^ (min x1.toNat 64))) - 1)) fun e2 =>
    letK (α := Bool) (i_within x0 0 e2) fun c3 =>
    k c3
    else fail
  else
  k false
def i_WordOk (x0 : Int) (x1 : Int) : Bool :=
  letK (α := Bool) (i_within x1 1 62) fun c1 =>
  bif c1 then
    letK (α := Int) (IntKind.wrap .i64 ((IntKind.wrap .i64 (1 * 2 ^ (min x1.toNat 64))) - 1)) fun e2 =>
    letK (α := Bool) (i_within x0 0 e2) fun c3 =>
    c3
  else
  false
theorem i_WordOk_lk (x0 : Int) (x1 : Int) : evalFn te (orcOf (P := Tryz.prog) [i_within_e]) lorc0 [] Tryz.f35 (pvs [.sc (.int .i64), .sc (.int .i64)] (x0, x1, ())) =
  i_WordOk_N x0 x1 _ none (fun v => some [(false, [RC.c (.bool v)])]) := by kernel_rfl
theorem i_WordOk_p (x0 : Int) (x1 : Int) (hx0 : inK .i64 x0) (hx1 : inK .i64 x1)  (γ : Type) (fail : γ) (k : Bool → γ) : i_WordOk_N x0 x1 γ fail k = k (i_WordOk x0 x1) := by
  unfold i_WordOk_N i_WordOk
  exact letT (f := k) (fun c1 hc1 => bifT (f := k) (fun b0 => bifG (by (try simp only [Nat.ble_eq, Bool.and_eq_true, decide_eq_true_eq]); grind [maxSl, maxStr, toBytes_length, toInts_length, List.length_set, wrap64, i_within_eq]) (letT (f := k) (fun e2 he2 => letT (f := k) (fun c3 hc3 => rfl))))
      (fun b0 => rfl))
theorem i_WordOk_c (x0 : Int) (x1 : Int)  : Con Tryz.prog 35 (pvs [.sc (.int .i64), .sc (.int .i64)] (x0, x1, ())) [rv (.sc .bool) [] (i_WordOk x0 x1)] := by
  refine Con.of_facts (enters_of Tryz.func35 rfl (by kernel_rfl)) fun hf => ?_
  replace hf := factAt hf
  exact evalFn_con0 teFact mixFact (orcOf_ok _) Tryz.func35 (by kernel_rfl) ((i_WordOk_lk x0 x1).trans (i_WordOk_p x0 x1 ((hf 0 0 rfl rfl).rng) ((hf 1 0 rfl rfl).rng) _ _ _))
noncomputable def i_WordOk_e : Ent1 Tryz.prog := entA 35 [.sc (.int .i64), .sc (.int .i64)] (fun x => (i_WordOk x.1 x.2.1)) (fun v => [rv (.sc .bool) [] v]) (fun x => i_WordOk_c x.1 x.2.1)


/-- impl.CacheOk -/
def i_CacheOk_ann : List (Nat × Keep) := [(0, ⟨[0, 10, 11, 12], [], false, 0⟩)]
def i_CacheOk_L0_sh : Sh := ⟨[(0, false, [.sl .arg .entr]), (10, false, [.sl .arg .entr]), (11, false, [.int .i64]), (12, false, [.int .i64])], []⟩
def i_CacheOk_L0_es : List (Ex × Sh) := [(.ret, ⟨[(2, false, [.bool])], []⟩), (.exit 0, ⟨[(2, false, [.undef])], []⟩)]
def i_CacheOk_L0_mk (v0 : List Entr) (v1 : List Entr) (v2 : Int) (v3 : Int) : i_CacheOk_L0_sh.T := (((v0, ()), ((v1, ()), ((v2, ()), ((v3, ()), ())))), ())
def i_CacheOk_L0_mx0 (y0 : Bool) : Sh.T ⟨[(2, false, [.bool])], []⟩ := (((y0, ()), ()), ())
def i_CacheOk_L0_mx1  : Sh.T ⟨[(2, false, [.undef])], []⟩ := ((((), ()), ()), ())
def i_CacheOk_L0_B (v0 : List Entr) (v1 : List Entr) (v2 : Int) (v3 : Int) (γ : Type) (fail : γ) (next : i_CacheOk_L0_sh.T → γ) (out : WT i_CacheOk_L0_es → γ) : γ :=
  bif (decide (v3 < v2)) then
    bif ((decide (0 ≤ v3)) && (decide (v3 < (v1.length : Int)))) then
    letK (α := Bool) (i_WordOk ((v1.getD v3.toNat (Ty.zero .entr)).ip) 32) fun c1 =>
    bif (!c1) then
      out (Sum.inl (i_CacheOk_L0_mx0 false))
    else
    letK (α := Bool) (i_WordOk ((v1.getD v3.toNat (Ty.zero .entr)).hw) 48) fun c2 =>
    bif (!c2) then
      out (Sum.inl (i_CacheOk_L0_mx0 false))
    else
    letK (α := Bool) (i_within ((v1.getD v3.toNat (Ty.zero .entr)).age) 0 9) fun c3 =>
    bif (!c3) then
      out (Sum.inl (i_CacheOk_L0_mx0 false))
    else
    bif ((decide (0 ≤ v3)) && (decide (v3 ≤ (v0.length : Int)))) then
    letK (α := Int × Bool) (i_HwOf ((v0.take v3.toNat).drop 0) ((v1.getD v3.toNat (Ty.zero .entr)).ip)) fun c4 =>
    bif c4.2 then
      out (Sum.inl (i_CacheOk_L0_mx0 false))
    else
    next (i_CacheOk_L0_mk v0 v1 v2 (IntKind.wrap .i64 (v3 + 1)))
    else fail
    else fail
  else
  out (Sum.inr (i_CacheOk_L0_mx1 ))
theorem i_CacheOk_L0_par (v0 : List Entr) (v1 : List Entr) (v2 : Int) (v3 : Int) (γ : Type) (fail : γ) (next : i_CacheOk_L0_sh.T → γ) (out : WT i_CacheOk_L0_es → γ) : i_CacheOk_L0_B v0 v1 v2 v3 γ fail next out = optK (i_CacheOk_L0_B v0 v1 v2 v3 _ none (fun v' => some (.inl v')) (fun w => some (.inr w))) fail (fun r => Sum.elim next out r) := by
  unfold i_CacheOk_L0_B
  exact bifT (f := (fun o => optK o fail (fun r => Sum.elim next out r))) (fun _ => bifT (f := (fun o => optK o fail (fun r => Sum.elim next out r))) (fun _ => letT (f := (fun o => optK o fail (fun r => Sum.elim next out r))) (fun c1 _ => bifT (f := (fun o => optK o fail (fun r => Sum.elim next out r))) (fun _ => rfl)
      (fun _ => letT (f := (fun o => optK o fail (fun r => Sum.elim next out r))) (fun c2 _ => bifT (f := (fun o => optK o fail (fun r => Sum.elim next out r))) (fun _ => rfl)
      (fun _ => letT (f := (fun o => optK o fail (fun r => Sum.elim next out r))) (fun c3 _ => bifT (f := (fun o => optK o fail (fun r => Sum.elim next out r))) (fun _ => rfl)
      (fun _ => bifT (f := (fun o => optK o fail (fun r => Sum.elim next out r))) (fun _ => letT (f := (fun o => optK o fail (fun r => Sum.elim next out r))) (fun c4 _ => bifT (f := (fun o => optK o fail (fun r => Sum.elim next out r))) (fun _ => rfl)
      (fun _ => rfl))) (fun _ => rfl)))))))) (fun _ => rfl))
      (fun _ => rfl)
def i_CacheOk_L0_r : Round i_CacheOk_L0_sh.T (WT i_CacheOk_L0_es) where
  B v γ fail next out := i_CacheOk_L0_B v.1.1.1 v.1.2.1.1 v.1.2.2.1.1 v.1.2.2.2.1.1 γ fail next out
  par v γ fail next out := i_CacheOk_L0_par v.1.1.1 v.1.2.1.1 v.1.2.2.1.1 v.1.2.2.2.1.1 γ fail next out
def i_CacheOk_L0_fu (v0 : List Entr) (v1 : List Entr) (v2 : Int) (v3 : Int) : Nat := (Int.toNat (v2 - v3)) + 1
theorem i_CacheOk_L0_lk (v : i_CacheOk_L0_sh.T) (next : St → Option Res) (k : Ex → St → Option Res) : evalK te (orcOf (P := Tryz.prog) [i_WordOk_e, i_within_e, i_HwOf_e]) (lorcOf []) Tryz.f36.ntmps i_CacheOk_ann (nthLoop (bodyOf Tryz.f36) 0 0) 0 (i_CacheOk_L0_sh.enc v) (endK ⟨[0, 10, 11, 12], [], false, 0⟩ ⟨[2], [], false, 0⟩ next k) =
  i_CacheOk_L0_r.B v _ none (fun v' => next (i_CacheOk_L0_sh.enc v')) (fun w => outK i_CacheOk_L0_es k w) := by kernel_rfl
def i_CacheOk_L0_le : LE := leOf 0 i_CacheOk_L0_sh i_CacheOk_L0_es i_CacheOk_L0_r.step (fun v => i_CacheOk_L0_fu v.1.1.1 v.1.2.1.1 v.1.2.2.1.1 v.1.2.2.2.1.1)
theorem i_CacheOk_L0_ls (w0 : World) (mo : Mts) (I0 : Nat → Prop) (hmo : mo.length = 0) : LSem Tryz.prog (Sim w0 mo Tryz.f36.ntmps I0) (fun b s k => match Nat.beq 0 b with | true => i_CacheOk_L0_le.run s k | false => none) 0 (nthLoop (bodyOf Tryz.f36) 0 0) :=
  le_sem hmo (lorc := lorcOf []) (ann := i_CacheOk_ann) (keep := ⟨[0, 10, 11, 12], [], false, 0⟩) (kout := ⟨[2], [], false, 0⟩) teFact mixFact (orcOf_ok _) (by kernel_rfl) (allLoops_of (bs := []) (by kernel_rfl) trivial) i_CacheOk_L0_r _ i_CacheOk_L0_lk
def i_CacheOk_L0_f (v0 : List Entr) (v1 : List Entr) (v2 : Int) (v3 : Int) (a : Unit) : Stp (Unit) ((Unit)) :=
  letK (α := Bool) (i_WordOk ((v1.getD v3.toNat (Ty.zero .entr)).ip) 32) fun c1 =>
  bif (!c1) then
    .out (())
  else
  letK (α := Bool) (i_WordOk ((v1.getD v3.toNat (Ty.zero .entr)).hw) 48) fun c2 =>
  bif (!c2) then
    .out (())
  else
  letK (α := Bool) (i_within ((v1.getD v3.toNat (Ty.zero .entr)).age) 0 9) fun c3 =>
  bif (!c3) then
    .out (())
  else
  letK (α := Int × Bool) (i_HwOf ((v0.take v3.toNat).drop 0) ((v1.getD v3.toNat (Ty.zero .entr)).ip)) fun c4 =>
  bif c4.2 then
    .out (())
  else
  .next ()
theorem i_CacheOk_L0_st (v0 : List Entr) (v1 : List Entr) (v2 : Int) (v3 : Int) (hlo : 0 ≤ v3) (hhi : v3 < v2) (hN : v2 ≤ 4611686018427387904) (hi0 : v2 ≤ (v1.length : Int)) (hi1 : v2 ≤ (v0.length : Int)) : i_CacheOk_L0_r.step (i_CacheOk_L0_mk v0 v1 v2 v3) = Stp.elim (fun a' : Unit => some (Sum.inl (i_CacheOk_L0_mk v0 v1 v2 (v3 + 1)))) (fun w => some (Sum.inr ((fun p : Unit => Sum.inl (i_CacheOk_L0_mx0 false)) w))) (i_CacheOk_L0_f v0 v1 v2 v3 ()) := by
  have hw : (IntKind.wrap .i64 (v3 + 1)) = v3 + 1 := wrap64 (by omega) (by omega)
  show i_CacheOk_L0_B v0 v1 v2 v3 (Option (i_CacheOk_L0_sh.T ⊕ WT i_CacheOk_L0_es)) none (fun v' => some (Sum.inl v')) (fun w => some (Sum.inr w)) = _
  unfold i_CacheOk_L0_B i_CacheOk_L0_f
  exact bifG (by simp only [decide_eq_true_eq]; omega) (bifG (by (try simp only [Nat.ble_eq, Bool.and_eq_true, decide_eq_true_eq]); grind [maxSl, maxStr, toBytes_length, toInts_length, List.length_set, wrap64]) (letT (f := (Stp.elim (fun a' : Unit => some (Sum.inl (i_CacheOk_L0_mk v0 v1 v2 (v3 + 1)))) (fun w => some (Sum.inr ((fun p : Unit => Sum.inl (i_CacheOk_L0_mx0 false)) w))))) (fun c1 hc1 => bifT (f := (Stp.elim (fun a' : Unit => some (Sum.inl (i_CacheOk_L0_mk v0 v1 v2 (v3 + 1)))) (fun w => some (Sum.inr ((fun p : Unit => Sum.inl (i_CacheOk_L0_mx0 false)) w))))) (fun b0 => rfl)
      (fun b0 => letT (f := (Stp.elim (fun a' : Unit => some (Sum.inl (i_CacheOk_L0_mk v0 v1 v2 (v3 + 1)))) (fun w => some (Sum.inr ((fun p : Unit => Sum.inl (i_CacheOk_L0_mx0 false)) w))))) (fun c2 hc2 => bifT (f := (Stp.elim (fun a' : Unit => some (Sum.inl (i_CacheOk_L0_mk v0 v1 v2 (v3 + 1)))) (fun w => some (Sum.inr ((fun p : Unit => Sum.inl (i_CacheOk_L0_mx0 false)) w))))) (fun b1 => rfl)
      (fun b1 => letT (f := (Stp.elim (fun a' : Unit => some (Sum.inl (i_CacheOk_L0_mk v0 v1 v2 (v3 + 1)))) (fun w => some (Sum.inr ((fun p : Unit => Sum.inl (i_CacheOk_L0_mx0 false)) w))))) (fun c3 hc3 => bifT (f := (Stp.elim (fun a' : Unit => some (Sum.inl (i_CacheOk_L0_mk v0 v1 v2 (v3 + 1)))) (fun w => some (Sum.inr ((fun p : Unit => Sum.inl (i_CacheOk_L0_mx0 false)) w))))) (fun b2 => rfl)
      (fun b2 => bifG (by (try simp only [Nat.ble_eq, Bool.and_eq_true, decide_eq_true_eq]); grind [maxSl, maxStr, toBytes_length, toInts_length, List.length_set, wrap64]) (letT (f := (Stp.elim (fun a' : Unit => some (Sum.inl (i_CacheOk_L0_mk v0 v1 v2 (v3 + 1)))) (fun w => some (Sum.inr ((fun p : Unit => Sum.inl (i_CacheOk_L0_mx0 false)) w))))) (fun c4 hc4 => bifT (f := (Stp.elim (fun a' : Unit => some (Sum.inl (i_CacheOk_L0_mk v0 v1 v2 (v3 + 1)))) (fun w => some (Sum.inr ((fun p : Unit => Sum.inl (i_CacheOk_L0_mx0 false)) w))))) (fun b3 => rfl)
      (fun b3 => (by exact congrArg (fun z => some (Sum.inl (i_CacheOk_L0_mk v0 v1 v2 z))) hw))))))))))))
theorem i_CacheOk_L0_cl (v0 : List Entr) (v1 : List Entr) (v2 : Int) (v3 : Int) (h0 : 0 ≤ v3) (h1 : v2 ≤ 4611686018427387904) (h2 : v2 ≤ (v1.length : Int)) (h3 : v2 ≤ (v0.length : Int)) : loopF i_CacheOk_L0_r.step (i_CacheOk_L0_fu v0 v1 v2 v3) (i_CacheOk_L0_mk v0 v1 v2 v3) = some (Stp.elim (fun a => (fun i a => Sum.inr (i_CacheOk_L0_mx1 )) (v3 + 1 * (((Int.toNat (v2 - v3)) : Nat) : Int)) a) (fun p : Unit => Sum.inl (i_CacheOk_L0_mx0 false)) (forN (i_CacheOk_L0_f v0 v1 v2) 1 (Int.toNat (v2 - v3)) v3 ())) :=
  forN_loop (step := i_CacheOk_L0_r.step) (mk := fun v3 a => i_CacheOk_L0_mk v0 v1 v2 v3) (f := i_CacheOk_L0_f v0 v1 v2) (e := (fun i a => Sum.inr (i_CacheOk_L0_mx1 ))) (emb := (fun p : Unit => Sum.inl (i_CacheOk_L0_mx0 false))) (st := 1) (Inv := fun v3 a => True) (Int.toNat (v2 - v3)) v3 () _ (Nat.lt_succ_self _) trivial
    (fun j a hj hv => ⟨i_CacheOk_L0_st v0 v1 v2 (v3 + 1 * (j : Int)) (by omega) (by omega) (by omega) h2 h3, fun _ _ => trivial⟩)
    (fun a hv => by
      show i_CacheOk_L0_B v0 v1 v2 (v3 + 1 * (((Int.toNat (v2 - v3)) : Nat) : Int)) (Option (i_CacheOk_L0_sh.T ⊕ WT i_CacheOk_L0_es)) none (fun v' => some (Sum.inl v')) (fun w => some (Sum.inr w)) = _
      unfold i_CacheOk_L0_B
      exact bifN (by simp only [decide_eq_false_iff_not]; omega) rfl)
def i_CacheOk_N (x0 : List Entr) (γ : Type) (fail : γ) (k : Bool → γ) : γ :=
  bif (decide (4 < (x0.length : Int))) then
    k false
  else
  optK (loopF i_CacheOk_L0_r.step (i_CacheOk_L0_fu x0 x0 (x0.length : Int) 0) (i_CacheOk_L0_mk x0 x0 (x0.length : Int) 0)) fail fun w5 =>
    Sum.elim (fun w5 =>
      k w5.1.1.1)
    (fun w5 =>
      k true) w5
def i_CacheOk (x0 : List Entr) : Bool :=
  bif (decide (4 < (x0.length : Int))) then
    false
  else
  Stp.elim (fun a6 =>
    true)
    (fun p6 =>
      false)
    (forN (i_CacheOk_L0_f x0 x0 (x0.length : Int)) 1 (Int.toNat ((x0.length : Int) - 0)) 0 ())
theorem i_CacheOk_lk (x0 : List Entr) : evalFn te (orcOf (P := Tryz.prog) [i_WordOk_e, i_within_e, i_HwOf_e]) (lorcOf [i_CacheOk_L0_le]) i_CacheOk_ann Tryz.f36 (pvs [.sc (.sl .entr)] (x0, ())) =
  i_CacheOk_N x0 _ none (fun v => some [(false, [RC.c (.bool v)])]) := by kernel_rfl
theorem i_CacheOk_p (x0 : List Entr) (hx0 : x0.length ≤ 140737488355328)  (γ : Type) (fail : γ) (k : Bool → γ) : i_CacheOk_N x0 γ fail k = k (i_CacheOk x0) := by
  unfold i_CacheOk_N i_CacheOk
  exact bifT (f := k) (fun b0 => rfl)
      (fun b0 => loopT (f := k) (i_CacheOk_L0_cl x0 x0 (x0.length : Int) 0 (by (try simp only [Nat.ble_eq, Bool.and_eq_true, decide_eq_true_eq, i_CacheOk_L0_mx0, i_CacheOk_L0_mx1]); grind [maxSl, maxStr, toBytes_length, toInts_length, List.length_set, wrap64]) (by (try simp only [Nat.ble_eq, Bool.and_eq_true, decide_eq_true_eq, i_CacheOk_L0_mx0, i_CacheOk_L0_mx1]); grind [maxSl, maxStr, toBytes_length, toInts_length, List.length_set, wrap64]) (by (try simp only [Nat.ble_eq, Bool.and_eq_true, decide_eq_true_eq, i_CacheOk_L0_mx0, i_CacheOk_L0_mx1]); grind [maxSl, maxStr, toBytes_length, toInts_length, List.length_set, wrap64]) (by (try simp only [Nat.ble_eq, Bool.and_eq_true, decide_eq_true_eq, i_CacheOk_L0_mx0, i_CacheOk_L0_mx1]); grind [maxSl, maxStr, toBytes_length, toInts_length, List.length_set, wrap64])) (fun a6 => rfl)
      (fun p6 => rfl))
theorem i_CacheOk_c (x0 : List Entr)  : Con Tryz.prog 36 (pvs [.sc (.sl .entr)] (x0, ())) [rv (.sc .bool) [] (i_CacheOk x0)] := by
  refine Con.of_facts (enters_of Tryz.func36 rfl (by kernel_rfl)) fun hf => ?_
  replace hf := factAt hf
  exact evalFn_conL teFact mixFact (orcOf_ok _) Tryz.func36 (by kernel_rfl) (bs := [0]) (by kernel_rfl) (by kernel_rfl) (fun w0 mo I0 hmo => ⟨lsem_of_lorc (i_CacheOk_L0_ls w0 mo I0 hmo) (by kernel_rfl), trivial⟩) ((i_CacheOk_lk x0).trans (i_CacheOk_p x0 ((hf 0 0 rfl rfl).len) _ _ _))
noncomputable def i_CacheOk_e : Ent1 Tryz.prog := entA 36 [.sc (.sl .entr)] (fun x => (i_CacheOk x.1)) (fun v => [rv (.sc .bool) [] v]) (fun x => i_CacheOk_c x.1)


/-- laws.eqEntryS -/
def w_eqEntryS_ann : List (Nat × Keep) := [(0, ⟨[0, 1, 5], [], false, 0⟩)]
def w_eqEntryS_L0_sh : Sh := ⟨[(0, false, [.sl .arg .entr]), (1, false, [.sl .arg .entr]), (5, false, [.int .i64])], []⟩
def w_eqEntryS_L0_es : List (Ex × Sh) := [(.ret, ⟨[(4, false, [.bool])], []⟩), (.exit 0, ⟨[(4, false, [.undef])], []⟩)]
def w_eqEntryS_L0_mk (v0 : List Entr) (v1 : List Entr) (v2 : Int) : w_eqEntryS_L0_sh.T := (((v0, ()), ((v1, ()), ((v2, ()), ()))), ())
def w_eqEntryS_L0_mx0 (y0 : Bool) : Sh.T ⟨[(4, false, [.bool])], []⟩ := (((y0, ()), ()), ())
def w_eqEntryS_L0_mx1  : Sh.T ⟨[(4, false, [.undef])], []⟩ := ((((), ()), ()), ())
def w_eqEntryS_L0_B (v0 : List Entr) (v1 : List Entr) (v2 : Int) (γ : Type) (fail : γ) (next : w_eqEntryS_L0_sh.T → γ) (out : WT w_eqEntryS_L0_es → γ) : γ :=
  bif (decide (v2 < (v0.length : Int))) then
    bif ((decide (0 ≤ v2)) && (decide (v2 < (v0.length : Int)))) then
    bif ((decide (0 ≤ v2)) && (decide (v2 < (v1.length : Int)))) then
    letK (α := Bool) (w_eqEntry (v0.getD v2.toNat (Ty.zero .entr)) (v1.getD v2.toNat (Ty.zero .entr))) fun c1 =>
    bif (!c1) then
      out (Sum.inl (w_eqEntryS_L0_mx0 false))
    else
    next (w_eqEntryS_L0_mk v0 v1 (IntKind.wrap .i64 (v2 + 1)))
    else fail
    else fail
  else
  out (Sum.inr (w_eqEntryS_L0_mx1 ))
theorem w_eqEntryS_L0_par (v0 : List Entr) (v1 : List Entr) (v2 : Int) (γ : Type) (fail : γ) (next : w_eqEntryS_L0_sh.T → γ) (out : WT w_eqEntryS_L0_es → γ) : w_eqEntryS_L0_B v0 v1 v2 γ fail next out = optK (w_eqEntryS_L0_B v0 v1 v2 _ none (fun v' => some (.inl v')) (fun w => some (.inr w))) fail (fun r => Sum.elim next out r) := by
  unfold w_eqEntryS_L0_B
  exact bifT (f := (fun o => optK o fail (fun r => Sum.elim next out r))) (fun _ => bifT (f := (fun o => optK o fail (fun r => Sum.elim next out r))) (fun _ => bifT (f := (fun o => optK o fail (fun r => Sum.elim next out r))) (fun _ => letT (f := (fun o => optK o fail (fun r => Sum.elim next out r))) (fun c1 _ => bifT (f := (fun o => optK o fail (fun r => Sum.elim next out r))) (fun _ => rfl)
      (fun _ => rfl))) (fun _ => rfl)) (fun _ => rfl))
      (fun _ => rfl)
def w_eqEntryS_L0_r : Round w_eqEntryS_L0_sh.T (WT w_eqEntryS_L0_es) where
  B v γ fail next out := w_eqEntryS_L0_B v.1.1.1 v.1.2.1.1 v.1.2.2.1.1 γ fail next out
  par v γ fail next out := w_eqEntryS_L0_par v.1.1.1 v.1.2.1.1 v.1.2.2.1.1 γ fail next out
def w_eqEntryS_L0_fu (v0 : List Entr) (v1 : List Entr) (v2 : Int) : Nat := (Int.toNat ((v0.length : Int) - v2)) + 1
theorem w_eqEntryS_L0_lk (v : w_eqEntryS_L0_sh.T) (next : St → Option Res) (k : Ex → St → Option Res) : evalK te (orcOf (P := Tryz.prog) [w_eqEntry_e]) (lorcOf []) Tryz.f44.ntmps w_eqEntryS_ann (nthLoop (bodyOf Tryz.f44) 0 0) 0 (w_eqEntryS_L0_sh.enc v) (endK ⟨[0, 1, 5], [], false, 0⟩ ⟨[4], [], false, 0⟩ next k) =
  w_eqEntryS_L0_r.B v _ none (fun v' => next (w_eqEntryS_L0_sh.enc v')) (fun w => outK w_eqEntryS_L0_es k w) := by kernel_rfl
def w_eqEntryS_L0_le : LE := leOf 0 w_eqEntryS_L0_sh w_eqEntryS_L0_es w_eqEntryS_L0_r.step (fun v => w_eqEntryS_L0_fu v.1.1.1 v.1.2.1.1 v.1.2.2.1.1)
theorem w_eqEntryS_L0_ls (w0 : World) (mo : Mts) (I0 : Nat → Prop) (hmo : mo.length = 0) : LSem Tryz.prog (Sim w0 mo Tryz.f44.ntmps I0) (fun b s k => match Nat.beq 0 b with | true => w_eqEntryS_L0_le.run s k | false => none) 0 (nthLoop (bodyOf Tryz.f44) 0 0) :=
  le_sem hmo (lorc := lorcOf []) (ann := w_eqEntryS_ann) (keep := ⟨[0, 1, 5], [], false, 0⟩) (kout := ⟨[4], [], false, 0⟩) teFact mixFact (orcOf_ok _) (by kernel_rfl) (allLoops_of (bs := []) (by kernel_rfl) trivial) w_eqEntryS_L0_r _ w_eqEntryS_L0_lk
def w_eqEntryS_L0_f (v0 : List Entr) (v1 : List Entr) (v2 : Int) (a : Unit) : Stp (Unit) ((Unit)) :=
  letK (α := Bool) (w_eqEntry (v0.getD v2.toNat (Ty.zero .entr)) (v1.getD v2.toNat (Ty.zero .entr))) fun c1 =>
  bif (!c1) then
    .out (())
  else
  .next ()
theorem w_eqEntryS_L0_st (v0 : List Entr) (v1 : List Entr) (v2 : Int) (hlo : 0 ≤ v2) (hhi : v2 < (v0.length : Int)) (hN : (v0.length : Int) ≤ 4611686018427387904) (hi0 : (v0.length : Int) ≤ (v1.length : Int)) : w_eqEntryS_L0_r.step (w_eqEntryS_L0_mk v0 v1 v2) = Stp.elim (fun a' : Unit => some (Sum.inl (w_eqEntryS_L0_mk v0 v1 (v2 + 1)))) (fun w => some (Sum.inr ((fun p : Unit => Sum.inl (w_eqEntryS_L0_mx0 false)) w))) (w_eqEntryS_L0_f v0 v1 v2 ()) := by
  have hw : (IntKind.wrap .i64 (v2 + 1)) = v2 + 1 := wrap64 (by omega) (by omega)
  show w_eqEntryS_L0_B v0 v1 v2 (Option (w_eqEntryS_L0_sh.T ⊕ WT w_eqEntryS_L0_es)) none (fun v' => some (Sum.inl v')) (fun w => some (Sum.inr w)) = _
  unfold w_eqEntryS_L0_B w_eqEntryS_L0_f
  exact bifG (by simp only [decide_eq_true_eq]; omega) (bifG (by (try simp only [Nat.ble_eq, Bool.and_eq_true, decide_eq_true_eq]); grind [maxSl, maxStr, toBytes_length, toInts_length, List.length_set, wrap64]) (bifG (by (try simp only [Nat.ble_eq, Bool.and_eq_true, decide_eq_true_eq]); grind [maxSl, maxStr, toBytes_length, toInts_length, List.length_set, wrap64]) (letT (f := (Stp.elim (fun a' : Unit => some (Sum.inl (w_eqEntryS_L0_mk v0 v1 (v2 + 1)))) (fun w => some (Sum.inr ((fun p : Unit => Sum.inl (w_eqEntryS_L0_mx0 false)) w))))) (fun c1 hc1 => bifT (f := (Stp.elim (fun a' : Unit => some (Sum.inl (w_eqEntryS_L0_mk v0 v1 (v2 + 1)))) (fun w => some (Sum.inr ((fun p : Unit => Sum.inl (w_eqEntryS_L0_mx0 false)) w))))) (fun b0 => rfl)
      (fun b0 => (by exact congrArg (fun z => some (Sum.inl (w_eqEntryS_L0_mk v0 v1 z))) hw))))))
theorem w_eqEntryS_L0_cl (v0 : List Entr) (v1 : List Entr) (v2 : Int) (h0 : 0 ≤ v2) (h1 : (v0.length : Int) ≤ 4611686018427387904) (h2 : (v0.length : Int) ≤ (v1.length : Int)) : loopF w_eqEntryS_L0_r.step (w_eqEntryS_L0_fu v0 v1 v2) (w_eqEntryS_L0_mk v0 v1 v2) = some (Stp.elim (fun a => (fun i a => Sum.inr (w_eqEntryS_L0_mx1 )) (v2 + 1 * (((Int.toNat ((v0.length : Int) - v2)) : Nat) : Int)) a) (fun p : Unit => Sum.inl (w_eqEntryS_L0_mx0 false)) (forN (w_eqEntryS_L0_f v0 v1) 1 (Int.toNat ((v0.length : Int) - v2)) v2 ())) :=
  forN_loop (step := w_eqEntryS_L0_r.step) (mk := fun v2 a => w_eqEntryS_L0_mk v0 v1 v2) (f := w_eqEntryS_L0_f v0 v1) (e := (fun i a => Sum.inr (w_eqEntryS_L0_mx1 ))) (emb := (fun p : Unit => Sum.inl (w_eqEntryS_L0_mx0 false))) (st := 1) (Inv := fun v2 a => True) (Int.toNat ((v0.length : Int) - v2)) v2 () _ (Nat.lt_succ_self _) trivial
    (fun j a hj hv => ⟨w_eqEntryS_L0_st v0 v1 (v2 + 1 * (j : Int)) (by omega) (by omega) (by omega) h2, fun _ _ => trivial⟩)
    (fun a hv => by
      show w_eqEntryS_L0_B v0 v1 (v2 + 1 * (((Int.toNat ((v0.length : Int) - v2)) : Nat) : Int)) (Option (w_eqEntryS_L0_sh.T ⊕ WT w_eqEntryS_L0_es)) none (fun v' => some (Sum.inl v')) (fun w => some (Sum.inr w)) = _
      unfold w_eqEntryS_L0_B
      exact bifN (by simp only [decide_eq_false_iff_not]; omega) rfl)
def w_eqEntryS_N (x0 : List Entr) (x1 : List Entr) (γ : Type) (fail : γ) (k : Bool → γ) : γ :=
  bif ((x0.length : Int) != (x1.length : Int)) then
    k false
  else
  optK (loopF w_eqEntryS_L0_r.step (w_eqEntryS_L0_fu x0 x1 0) (w_eqEntryS_L0_mk x0 x1 0)) fail fun w2 =>
    Sum.elim (fun w2 =>
      k w2.1.1.1)
    (fun w2 =>
      k true) w2
def w_eqEntryS (x0 : List Entr) (x1 : List Entr) : Bool :=
  bif ((x0.length : Int) != (x1.length : Int)) then
    false
  else
  Stp.elim (fun a3 =>
    true)
    (fun p3 =>
      false)
    (forN (w_eqEntryS_L0_f x0 x1) 1 (Int.toNat ((x0.length : Int) - 0)) 0 ())
theorem w_eqEntryS_lk (x0 : List Entr) (x1 : List Entr) : evalFn te (orcOf (P := Tryz.prog) [w_eqEntry_e]) (lorcOf [w_eqEntryS_L0_le]) w_eqEntryS_ann Tryz.f44 (pvs [.sc (.sl .entr), .sc (.sl .entr)] (x0, x1, ())) =
  w_eqEntryS_N x0 x1 _ none (fun v => some [(false, [RC.c (.bool v)])]) := by kernel_rfl
theorem w_eqEntryS_p (x0 : List Entr) (x1 : List Entr) (hx0 : x0.length ≤ 140737488355328) (hx1 : x1.length ≤ 140737488355328)  (γ : Type) (fail : γ) (k : Bool → γ) : w_eqEntryS_N x0 x1 γ fail k = k (w_eqEntryS x0 x1) := by
  unfold w_eqEntryS_N w_eqEntryS
  exact bifT (f := k) (fun b0 => rfl)
      (fun b0 => loopT (f := k) (w_eqEntryS_L0_cl x0 x1 0 (by (try simp only [Nat.ble_eq, Bool.and_eq_true, decide_eq_true_eq, w_eqEntryS_L0_mx0, w_eqEntryS_L0_mx1]); grind [maxSl, maxStr, toBytes_length, toInts_length, List.length_set, wrap64]) (by (try simp only [Nat.ble_eq, Bool.and_eq_true, decide_eq_true_eq, w_eqEntryS_L0_mx0, w_eqEntryS_L0_mx1]); grind [maxSl, maxStr, toBytes_length, toInts_length, List.length_set, wrap64]) (by (try simp only [Nat.ble_eq, Bool.and_eq_true, decide_eq_true_eq, w_eqEntryS_L0_mx0, w_eqEntryS_L0_mx1]); grind [maxSl, maxStr, toBytes_length, toInts_length, List.length_set, wrap64])) (fun a3 => rfl)
      (fun p3 => rfl))
theorem w_eqEntryS_c (x0 : List Entr) (x1 : List Entr)  : Con Tryz.prog 44 (pvs [.sc (.sl .entr), .sc (.sl .entr)] (x0, x1, ())) [rv (.sc .bool) [] (w_eqEntryS x0 x1)] := by
  refine Con.of_facts (enters_of Tryz.func44 rfl (by kernel_rfl)) fun hf => ?_
  replace hf := factAt hf
  exact evalFn_conL teFact mixFact (orcOf_ok _) Tryz.func44 (by kernel_rfl) (bs := [0]) (by kernel_rfl) (by kernel_rfl) (fun w0 mo I0 hmo => ⟨lsem_of_lorc (w_eqEntryS_L0_ls w0 mo I0 hmo) (by kernel_rfl), trivial⟩) ((w_eqEntryS_lk x0 x1).trans (w_eqEntryS_p x0 x1 ((hf 0 0 rfl rfl).len) ((hf 1 0 rfl rfl).len) _ _ _))
noncomputable def w_eqEntryS_e : Ent1 Tryz.prog := entA 44 [.sc (.sl .entr), .sc (.sl .entr)] (fun x => (w_eqEntryS x.1 x.2.1)) (fun v => [rv (.sc .bool) [] v]) (fun x => w_eqEntryS_c x.1 x.2.1)


/-- spec.TupleOk -/
def s_TupleOk_N (x0 : Tupl) (γ : Type) (fail : γ) (k : Bool → γ) : γ :=
  letK (α := Bool) (s_WordOk x0.ip 32) fun c1 =>
  bif c1 then
    letK (α := Bool) (s_WordOk x0.port 16) fun c2 =>
    bif c2 then
      letK (α := Bool) (s_WordOk x0.my 16) fun c3 =>
      k c3
    else
    k false
  else
  k false
def s_TupleOk (x0 : Tupl) : Bool :=
  letK (α := Bool) (s_WordOk x0.ip 32) fun c1 =>
  bif c1 then
    letK (α := Bool) (s_WordOk x0.port 16) fun c2 =>
    bif c2 then
      letK (α := Bool) (s_WordOk x0.my 16) fun c3 =>
      c3
    else
    false
  else
  false
theorem s_TupleOk_lk (x0 : Tupl) : evalFn te (orcOf (P := Tryz.prog) [s_WordOk_e]) lorc0 [] Tryz.f58 (pvs [.st .tupl] (x0, ())) =
  s_TupleOk_N x0 _ none (fun v => some [(false, [RC.c (.bool v)])]) := by kernel_rfl
theorem s_TupleOk_p (x0 : Tupl)   (γ : Type) (fail : γ) (k : Bool → γ) : s_TupleOk_N x0 γ fail k = k (s_TupleOk x0) := by
  unfold s_TupleOk_N s_TupleOk
  exact letT (f := k) (fun c1 hc1 => bifT (f := k) (fun b0 => letT (f := k) (fun c2 hc2 => bifT (f := k) (fun b1 => letT (f := k) (fun c3 hc3 => rfl))
      (fun b1 => rfl)))
      (fun b0 => rfl))
theorem s_TupleOk_c (x0 : Tupl)  : Con Tryz.prog 58 (pvs [.st .tupl] (x0, ())) [rv (.sc .bool) [] (s_TupleOk x0)] := by
  exact evalFn_con0 teFact mixFact (orcOf_ok _) Tryz.func58 (by kernel_rfl) ((s_TupleOk_lk x0).trans (s_TupleOk_p x0  _ _ _))
noncomputable def s_TupleOk_e : Ent1 Tryz.prog := entA 58 [.st .tupl] (fun x => (s_TupleOk x.1)) (fun v => [rv (.sc .bool) [] v]) (fun x => s_TupleOk_c x.1)


/-- spec.OptionsOk -/
def s_OptionsOk_N (x0 : Opti) (γ : Type) (fail : γ) (k : Bool → γ) : γ :=
  bif (!x0.stamp) then
    bif (x0.val != 0) then
      k false
    else
    bif (x0.echo != 0) then
      k false
    else
    letK (α := Bool) (s_WordOk x0.mss 16) fun c1 =>
    bif c1 then
      letK (α := Bool) (s_l1In x0.scale (-1) 14) fun c2 =>
      bif c2 then
        letK (α := Bool) (s_WordOk x0.val 32) fun c3 =>
        bif c3 then
          letK (α := Bool) (s_WordOk x0.echo 32) fun c4 =>
          k c4
        else
        k false
      else
      k false
    else
    k false
  else
  letK (α := Bool) (s_WordOk x0.mss 16) fun c5 =>
  bif c5 then
    letK (α := Bool) (s_l1In x0.scale (-1) 14) fun c6 =>
    bif c6 then
      letK (α := Bool) (s_WordOk x0.val 32) fun c7 =>
      bif c7 then
        letK (α := Bool) (s_WordOk x0.echo 32) fun c8 =>
        k c8
      else
      k false
    else
    k false
  else
  k false
def s_OptionsOk (x0 : Opti) : Bool :=
  bif (!x0.stamp) then
    bif (x0.val != 0) then
      false
    else
    bif (x0.echo != 0) then
      false
    else
    letK (α := Bool) (s_WordOk x0.mss 16) fun c1 =>
    bif c1 then
      letK (α := Bool) (s_l1In x0.scale (-1) 14) fun c2 =>
      bif c2 then
        letK (α := Bool) (s_WordOk x0.val 32) fun c3 =>
        bif c3 then
          letK (α := Bool) (s_WordOk x0.echo 32) fun c4 =>
          c4
        else
        false
      else
      false
    else
    false
  else
  letK (α := Bool) (s_WordOk x0.mss 16) fun c5 =>
  bif c5 then
    letK (α := Bool) (s_l1In x0.scale (-1) 14) fun c6 =>
    bif c6 then
      letK (α := Bool) (s_WordOk x0.val 32) fun c7 =>
      bif c7 then
        letK (α := Bool) (s_WordOk x0.echo 32) fun c8 =>
        c8
      else
      false
    else
    false
  else
  false
theorem s_OptionsOk_lk (x0 : Opti) : evalFn te (orcOf (P := Tryz.prog) [s_WordOk_e, s_l1In_e]) lorc0 [] Tryz.f59 (pvs [.st .opti] (x0, ())) =
  s_OptionsOk_N x0 _ none (fun v => some [(false, [RC.c (.bool v)])]) := by kernel_rfl
theorem s_OptionsOk_p (x0 : Opti)   (γ : Type) (fail : γ) (k : Bool → γ) : s_OptionsOk_N x0 γ fail k = k (s_OptionsOk x0) := by
  unfold s_OptionsOk_N s_OptionsOk
  exact bifT (f := k) (fun b0 => bifT (f := k) (fun b1 => rfl)
      (fun b1 => bifT (f := k) (fun b2 => rfl)
      (fun b2 => letT (f := k) (fun c1 hc1 => bifT (f := k) (fun b3 => letT (f := k) (fun c2 hc2 => bifT (f := k) (fun b4 => letT (f := k) (fun c3 hc3 => bifT (f := k) (fun b5 => letT (f := k) (fun c4 hc4 => rfl))
      (fun b5 => rfl)))
      (fun b4 => rfl)))
      (fun b3 => rfl)))))
      (fun b0 => letT (f := k) (fun c5 hc5 => bifT (f := k) (fun b1 => letT (f := k) (fun c6 hc6 => bifT (f := k) (fun b2 => letT (f := k) (fun c7 hc7 => bifT (f := k) (fun b3 => letT (f := k) (fun c8 hc8 => rfl))
      (fun b3 => rfl)))
      (fun b2 => rfl)))
      (fun b1 => rfl)))
theorem s_OptionsOk_c (x0 : Opti)  : Con Tryz.prog 59 (pvs [.st .opti] (x0, ())) [rv (.sc .bool) [] (s_OptionsOk x0)] := by
  exact evalFn_con0 teFact mixFact (orcOf_ok _) Tryz.func59 (by kernel_rfl) ((s_OptionsOk_lk x0).trans (s_OptionsOk_p x0  _ _ _))
noncomputable def s_OptionsOk_e : Ent1 Tryz.prog := entA 59 [.st .opti] (fun x => (s_OptionsOk x.1)) (fun v => [rv (.sc .bool) [] v]) (fun x => s_OptionsOk_c x.1)


/-- laws.toHalf -/
def w_toHalf_N (x0 : Half) (γ : Type) (fail : γ) (k : Half → γ) : γ :=
  letK (α := Tupl) (w_toTuple x0.tuple) fun c1 =>
  letK (α := Opti) (w_toOptions x0.opts) fun c2 =>
  k (⟨c1, x0.iss, x0.irs, c2, x0.age, x0.window⟩ : Half)
def w_toHalf (x0 : Half) : Half :=
  letK (α := Tupl) (w_toTuple x0.tuple) fun c1 =>
  letK (α := Opti) (w_toOptions x0.opts) fun c2 =>
  (⟨c1, x0.iss, x0.irs, c2, x0.age, x0.window⟩ : Half)
theorem w_toHalf_lk (x0 : Half) : evalFn te (orcOf (P := Tryz.prog) [w_toTuple_e, w_toOptions_e]) lorc0 [] Tryz.f63 (pvs [.st .half] (x0, ())) =
  w_toHalf_N x0 _ none (fun v => some [(true, [RC.c (.int .i64 v.tuple.ip), RC.c (.int .i64 v.tuple.port), RC.c (.int .i64 v.tuple.my), RC.c (.int .i64 v.iss), RC.c (.int .i64 v.irs), RC.c (.int .i64 v.opts.mss), RC.c (.int .i64 v.opts.scale), RC.c (.bool v.opts.sack), RC.c (.bool v.opts.stamp), RC.c (.int .i64 v.opts.val), RC.c (.int .i64 v.opts.echo), RC.c (.int .i64 v.age), RC.c (.int .i64 v.window)])]) := by kernel_rfl
theorem w_toHalf_p (x0 : Half)   (γ : Type) (fail : γ) (k : Half → γ) : w_toHalf_N x0 γ fail k = k (w_toHalf x0) := by
  unfold w_toHalf_N w_toHalf
  exact letT (f := k) (fun c1 hc1 => letT (f := k) (fun c2 hc2 => rfl))
theorem w_toHalf_c (x0 : Half)  : Con Tryz.prog 63 (pvs [.st .half] (x0, ())) [rv (.st .half) [] (w_toHalf x0)] := by
  exact evalFn_con0 teFact mixFact (orcOf_ok _) Tryz.func63 (by kernel_rfl) ((w_toHalf_lk x0).trans (w_toHalf_p x0  _ _ _))
noncomputable def w_toHalf_e : Ent1 Tryz.prog := entA 63 [.st .half] (fun x => (w_toHalf x.1)) (fun v => [rv (.st .half) [] v]) (fun x => w_toHalf_c x.1)


/-- laws.toTupleS -/
def w_toTupleS_ann : List (Nat × Keep) := [(0, ⟨[0, 3, 4], [], false, 0⟩)]
def w_toTupleS_L0_sh : Sh := ⟨[(0, false, [.sl .arg .tupl]), (3, false, [.own 0]), (4, false, [.int .i64])], [.arr .tupl false true]⟩
def w_toTupleS_L0_es : List (Ex × Sh) := [(.exit 0, ⟨[(2, false, [.undef]), (3, false, [.own 0])], [.arr .tupl false true]⟩)]
def w_toTupleS_L0_mk (v0 : List Tupl) (v1 : Int) (v2 : List Tupl) : w_toTupleS_L0_sh.T := (((v0, ()), (((), ()), ((v1, ()), ()))), (v2, ()))
def w_toTupleS_L0_mx0 (y0 : List Tupl) : Sh.T ⟨[(2, false, [.undef]), (3, false, [.own 0])], [.arr .tupl false true]⟩ := ((((), ()), (((), ()), ())), (y0, ()))
def w_toTupleS_L0_B (v0 : List Tupl) (v1 : Int) (v2 : List Tupl) (γ : Type) (fail : γ) (next : w_toTupleS_L0_sh.T → γ) (out : WT w_toTupleS_L0_es → γ) : γ :=
  bif (decide (v1 < (v0.length : Int))) then
    bif ((decide (0 ≤ v1)) && (decide (v1 < (v0.length : Int)))) then
    letK (α := Tupl) (w_toTuple (v0.getD v1.toNat (Ty.zero .tupl))) fun c1 =>
    bif ((decide (0 ≤ v1)) && (decide (v1 < (v2.length : Int)))) then
    next (w_toTupleS_L0_mk v0 (IntKind.wrap .i64 (v1 + 1)) (v2.set v1.toNat c1))
    else fail
    else fail
  else
  out (w_toTupleS_L0_mx0 v2)
theorem w_toTupleS_L0_par (v0 : List Tupl) (v1 : Int) (v2 : List Tupl) (γ : Type) (fail : γ) (next : w_toTupleS_L0_sh.T → γ) (out : WT w_toTupleS_L0_es → γ) : w_toTupleS_L0_B v0 v1 v2 γ fail next out = optK (w_toTupleS_L0_B v0 v1 v2 _ none (fun v' => some (.inl v')) (fun w => some (.inr w))) fail (fun r => Sum.elim next out r) := by
  unfold w_toTupleS_L0_B
  exact bifT (f := (fun o => optK o fail (fun r => Sum.elim next out r))) (fun _ => bifT (f := (fun o => optK o fail (fun r => Sum.elim next out r))) (fun _ => letT (f := (fun o => optK o fail (fun r => Sum.elim next out r))) (fun c1 _ => bifT (f := (fun o => optK o fail (fun r => Sum.elim next out r))) (fun _ => rfl) (fun _ => rfl))) (fun _ => rfl))
      (fun _ => rfl)
def w_toTupleS_L0_r : Round w_toTupleS_L0_sh.T (WT w_toTupleS_L0_es) where
  B v γ fail next out := w_toTupleS_L0_B v.1.1.1 v.1.2.2.1.1 v.2.1 γ fail next out
  par v γ fail next out := w_toTupleS_L0_par v.1.1.1 v.1.2.2.1.1 v.2.1 γ fail next out
def w_toTupleS_L0_fu (v0 : List Tupl) (v1 : Int) (v2 : List Tupl) : Nat := (Int.toNat ((v0.length : Int) - v1)) + 1
theorem w_toTupleS_L0_lk (v : w_toTupleS_L0_sh.T) (next : St → Option Res) (k : Ex → St → Option Res) : evalK te (orcOf (P := Tryz.prog) [w_toTuple_e]) (lorcOf []) Tryz.f65.ntmps w_toTupleS_ann (nthLoop (bodyOf Tryz.f65) 0 0) 0 (w_toTupleS_L0_sh.enc v) (endK ⟨[0, 3, 4], [], false, 0⟩ ⟨[2, 3], [], false, 0⟩ next k) =
  w_toTupleS_L0_r.B v _ none (fun v' => next (w_toTupleS_L0_sh.enc v')) (fun w => outK w_toTupleS_L0_es k w) := by kernel_rfl
def w_toTupleS_L0_le : LE := leOf 0 w_toTupleS_L0_sh w_toTupleS_L0_es w_toTupleS_L0_r.step (fun v => w_toTupleS_L0_fu v.1.1.1 v.1.2.2.1.1 v.2.1)
theorem w_toTupleS_L0_ls (w0 : World) (mo : Mts) (I0 : Nat → Prop) (hmo : mo.length = 0) : LSem Tryz.prog (Sim w0 mo Tryz.f65.ntmps I0) (fun b s k => match Nat.beq 0 b with | true => w_toTupleS_L0_le.run s k | false => none) 0 (nthLoop (bodyOf Tryz.f65) 0 0) :=
  le_sem hmo (lorc := lorcOf []) (ann := w_toTupleS_ann) (keep := ⟨[0, 3, 4], [], false, 0⟩) (kout := ⟨[2, 3], [], false, 0⟩) teFact mixFact (orcOf_ok _) (by kernel_rfl) (allLoops_of (bs := []) (by kernel_rfl) trivial) w_toTupleS_L0_r _ w_toTupleS_L0_lk
def w_toTupleS_L0_f (v0 : List Tupl) (v1 : Int) (a : List Tupl) : Stp (List Tupl) (Empty) :=
  letK (α := Tupl) (w_toTuple (v0.getD v1.toNat (Ty.zero .tupl))) fun c1 =>
  .next (a.set v1.toNat c1)
theorem w_toTupleS_L0_st (v0 : List Tupl) (v1 : Int) (v2 : List Tupl) (hlo : 0 ≤ v1) (hhi : v1 < (v0.length : Int)) (hN : (v0.length : Int) ≤ 4611686018427387904) (hinv : (v0.length : Int) ≤ (v2.length : Int)) : w_toTupleS_L0_r.step (w_toTupleS_L0_mk v0 v1 v2) = Stp.elim (fun a' : List Tupl => some (Sum.inl (w_toTupleS_L0_mk v0 (v1 + 1) a'))) (fun w => some (Sum.inr ((fun p : Empty => nomatch p) w))) (w_toTupleS_L0_f v0 v1 v2) := by
  have hw : (IntKind.wrap .i64 (v1 + 1)) = v1 + 1 := wrap64 (by omega) (by omega)
  show w_toTupleS_L0_B v0 v1 v2 (Option (w_toTupleS_L0_sh.T ⊕ WT w_toTupleS_L0_es)) none (fun v' => some (Sum.inl v')) (fun w => some (Sum.inr w)) = _
  unfold w_toTupleS_L0_B w_toTupleS_L0_f
  exact bifG (by simp only [decide_eq_true_eq]; omega) (bifG (by (try simp only [Nat.ble_eq, Bool.and_eq_true, decide_eq_true_eq]); grind [maxSl, maxStr, toBytes_length, toInts_length, List.length_set, wrap64]) (letT (f := (Stp.elim (fun a' : List Tupl => some (Sum.inl (w_toTupleS_L0_mk v0 (v1 + 1) a'))) (fun w => some (Sum.inr ((fun p : Empty => nomatch p) w))))) (fun c1 hc1 => bifG (by (try simp only [Nat.ble_eq, Bool.and_eq_true, decide_eq_true_eq]); grind [maxSl, maxStr, toBytes_length, toInts_length, List.length_set, wrap64]) ((by exact congrArg (fun z => some (Sum.inl (w_toTupleS_L0_mk v0 z (v2.set v1.toNat c1)))) hw)))))
theorem w_toTupleS_L0_cl (v0 : List Tupl) (v1 : Int) (v2 : List Tupl) (h0 : 0 ≤ v1) (h1 : (v0.length : Int) ≤ 4611686018427387904) (h2 : (v0.length : Int) ≤ (v2.length : Int)) : loopF w_toTupleS_L0_r.step (w_toTupleS_L0_fu v0 v1 v2) (w_toTupleS_L0_mk v0 v1 v2) = some (Stp.elim (fun a => (fun i a => w_toTupleS_L0_mx0 a) (v1 + 1 * (((Int.toNat ((v0.length : Int) - v1)) : Nat) : Int)) a) (fun p : Empty => nomatch p) (forN (w_toTupleS_L0_f v0) 1 (Int.toNat ((v0.length : Int) - v1)) v1 v2)) :=
  forN_loop (step := w_toTupleS_L0_r.step) (mk := fun v1 a => w_toTupleS_L0_mk v0 v1 a) (f := w_toTupleS_L0_f v0) (e := (fun i a => w_toTupleS_L0_mx0 a)) (emb := (fun p : Empty => nomatch p)) (st := 1) (Inv := fun v1 a => (v0.length : Int) ≤ (a.length : Int)) (Int.toNat ((v0.length : Int) - v1)) v1 v2 _ (Nat.lt_succ_self _) h2
    (fun j a hj hv => ⟨w_toTupleS_L0_st v0 (v1 + 1 * (j : Int)) a (by omega) (by omega) (by omega) hv, by
      intro a' he
      grind [w_toTupleS_L0_f, letK, Stp.elim, wrap64, List.length_set]⟩)
    (fun a hv => by
      show w_toTupleS_L0_B v0 (v1 + 1 * (((Int.toNat ((v0.length : Int) - v1)) : Nat) : Int)) a (Option (w_toTupleS_L0_sh.T ⊕ WT w_toTupleS_L0_es)) none (fun v' => some (Sum.inl v')) (fun w => some (Sum.inr w)) = _
      unfold w_toTupleS_L0_B
      exact bifN (by simp only [decide_eq_false_iff_not]; omega) rfl)
theorem w_toTupleS_L0_nx (v0 : List Tupl) (v1 : Int) (v2 : List Tupl) (h0 : 0 ≤ v1) (h1 : (v0.length : Int) ≤ 4611686018427387904) (h2 : (v0.length : Int) ≤ (v2.length : Int)) : ∀ a', forN (w_toTupleS_L0_f v0) 1 (Int.toNat ((v0.length : Int) - v1)) v1 v2 = .next a' → (v0.length : Int) ≤ (a'.length : Int) :=
  forN_inv (f := w_toTupleS_L0_f v0) (st := 1) (Inv := fun v1 a => (v0.length : Int) ≤ (a.length : Int)) (Int.toNat ((v0.length : Int) - v1)) v1 v2 h2
    (fun j a hj hv => by
      intro a' he
      grind [w_toTupleS_L0_f, letK, Stp.elim, wrap64, List.length_set])
def w_toTupleS_N (x0 : List Tupl) (γ : Type) (fail : γ) (k : List Tupl → γ) : γ :=
  bif ((((decide (0 ≤ (x0.length : Int))) && (decide ((x0.length : Int) = (x0.length : Int)))) && (decide ((x0.length : Int) * 24 ≤ (maxSl : Int)))) && (decide ((x0.length : Int) ≤ (maxSl : Int)))) then
  optK (loopF w_toTupleS_L0_r.step (w_toTupleS_L0_fu x0 0 (List.replicate ((x0.length : Int).toNat) (⟨0, 0, 0⟩ : Tupl))) (w_toTupleS_L0_mk x0 0 (List.replicate ((x0.length : Int).toNat) (⟨0, 0, 0⟩ : Tupl)))) fail fun w2 =>
    k w2.2.1
  else fail
def w_toTupleS (x0 : List Tupl) : List Tupl :=
  Stp.elim (fun a3 =>
    a3)
    (fun p : Empty => nomatch p)
    (forN (w_toTupleS_L0_f x0) 1 (Int.toNat ((x0.length : Int) - 0)) 0 (List.replicate ((x0.length : Int).toNat) (⟨0, 0, 0⟩ : Tupl)))
theorem w_toTupleS_lk (x0 : List Tupl) : evalFn te (orcOf (P := Tryz.prog) [w_toTuple_e]) (lorcOf [w_toTupleS_L0_le]) w_toTupleS_ann Tryz.f65 (pvs [.sc (.sl .tupl)] (x0, ())) =
  w_toTupleS_N x0 _ none (fun v => some [(false, [RC.own true .tupl v])]) := by kernel_rfl
theorem w_toTupleS_p (x0 : List Tupl) (hx0 : x0.length ≤ 140737488355328) (hp : x0.length ≤ 4294967296) (γ : Type) (fail : γ) (k : List Tupl → γ) : w_toTupleS_N x0 γ fail k = k (w_toTupleS x0) := by
  unfold w_toTupleS_N w_toTupleS
  exact bifG (by (try simp only [Nat.ble_eq, Bool.and_eq_true, decide_eq_true_eq, w_toTupleS_L0_mx0]); grind [maxSl, maxStr, toBytes_length, toInts_length, List.length_set, wrap64]) (loopX (f := k) (w_toTupleS_L0_cl x0 0 (List.replicate ((x0.length : Int).toNat) (⟨0, 0, 0⟩ : Tupl)) (by (try simp only [Nat.ble_eq, Bool.and_eq_true, decide_eq_true_eq, w_toTupleS_L0_mx0]); grind [maxSl, maxStr, toBytes_length, toInts_length, List.length_set, wrap64]) (by (try simp only [Nat.ble_eq, Bool.and_eq_true, decide_eq_true_eq, w_toTupleS_L0_mx0]); grind [maxSl, maxStr, toBytes_length, toInts_length, List.length_set, wrap64]) (by (try simp only [Nat.ble_eq, Bool.and_eq_true, decide_eq_true_eq, w_toTupleS_L0_mx0]); grind [maxSl, maxStr, toBytes_length, toInts_length, List.length_set, wrap64])) (fun a3 ha3 => have ia3 := w_toTupleS_L0_nx x0 0 (List.replicate ((x0.length : Int).toNat) (⟨0, 0, 0⟩ : Tupl)) (by (try simp only [Nat.ble_eq, Bool.and_eq_true, decide_eq_true_eq, w_toTupleS_L0_mx0]); grind [maxSl, maxStr, toBytes_length, toInts_length, List.length_set, wrap64]) (by (try simp only [Nat.ble_eq, Bool.and_eq_true, decide_eq_true_eq, w_toTupleS_L0_mx0]); grind [maxSl, maxStr, toBytes_length, toInts_length, List.length_set, wrap64]) (by (try simp only [Nat.ble_eq, Bool.and_eq_true, decide_eq_true_eq, w_toTupleS_L0_mx0]); grind [maxSl, maxStr, toBytes_length, toInts_length, List.length_set, wrap64]) _ ha3; rfl)
      (fun p : Empty => nomatch p))
theorem w_toTupleS_c (x0 : List Tupl) (hp : x0.length ≤ 4294967296) : Con Tryz.prog 65 (pvs [.sc (.sl .tupl)] (x0, ())) [rv (.sc (.sl .tupl)) [.o true] (w_toTupleS x0)] := by
  refine Con.of_facts (enters_of Tryz.func65 rfl (by kernel_rfl)) fun hf => ?_
  replace hf := factAt hf
  exact evalFn_conL teFact mixFact (orcOf_ok _) Tryz.func65 (by kernel_rfl) (bs := [0]) (by kernel_rfl) (by kernel_rfl) (fun w0 mo I0 hmo => ⟨lsem_of_lorc (w_toTupleS_L0_ls w0 mo I0 hmo) (by kernel_rfl), trivial⟩) ((w_toTupleS_lk x0).trans (w_toTupleS_p x0 ((hf 0 0 rfl rfl).len) hp _ _ _))
noncomputable def w_toTupleS_e : Ent1 Tryz.prog := entP 65 [.sc (.sl .tupl)] (fun x => (decide (x.1.length ≤ 4294967296))) (fun x => (w_toTupleS x.1)) (fun v => [rv (.sc (.sl .tupl)) [.o true] v]) (fun x hx => w_toTupleS_c x.1 (of_decide_eq_true hx))


/-- impl.SameMac -/
def i_SameMac_N (x0 : Mac) (x1 : Mac) (γ : Type) (fail : γ) (k : Bool → γ) : γ :=
  bif (x0.use == x1.use) then
    bif (x0.k == x1.k) then
      bif (x0.l == x1.l) then
        letK (α := Bool) (g_Equal_MacRow x0.rows x1.rows) fun c1 =>
        k c1
      else
      k false
    else
    k false
  else
  k false
def i_SameMac (x0 : Mac) (x1 : Mac) : Bool :=
  bif (x0.use == x1.use) then
    bif (x0.k == x1.k) then
      bif (x0.l == x1.l) then
        letK (α := Bool) (g_Equal_MacRow x0.rows x1.rows) fun c1 =>
        c1
      else
      false
    else
    false
  else
  false
theorem i_SameMac_lk (x0 : Mac) (x1 : Mac) : evalFn te (orcOf (P := Tryz.prog) [g_Equal_MacRow_e]) lorc0 [] Tryz.f68 (pvs [.st .mac, .st .mac] (x0, x1, ())) =
  i_SameMac_N x0 x1 _ none (fun v => some [(false, [RC.c (.bool v)])]) := by kernel_rfl
theorem i_SameMac_p (x0 : Mac) (x1 : Mac)   (γ : Type) (fail : γ) (k : Bool → γ) : i_SameMac_N x0 x1 γ fail k = k (i_SameMac x0 x1) := by
  unfold i_SameMac_N i_SameMac
  exact bifT (f := k) (fun b0 => bifT (f := k) (fun b1 => bifT (f := k) (fun b2 => letT (f := k) (fun c1 hc1 => rfl))
      (fun b2 => rfl))
      (fun b1 => rfl))
      (fun b0 => rfl)
theorem i_SameMac_c (x0 : Mac) (x1 : Mac)  : Con Tryz.prog 68 (pvs [.st .mac, .st .mac] (x0, x1, ())) [rv (.sc .bool) [] (i_SameMac x0 x1)] := by
  exact evalFn_con0 teFact mixFact (orcOf_ok _) Tryz.func68 (by kernel_rfl) ((i_SameMac_lk x0 x1).trans (i_SameMac_p x0 x1  _ _ _))
noncomputable def i_SameMac_e : Ent1 Tryz.prog := entA 68 [.st .mac, .st .mac] (fun x => (i_SameMac x.1 x.2.1)) (fun v => [rv (.sc .bool) [] v]) (fun x => i_SameMac_c x.1 x.2.1)


/-- impl.TupleOk -/
def i_TupleOk_N (x0 : Tupl) (γ : Type) (fail : γ) (k : Bool → γ) : γ :=
  letK (α := Bool) (i_WordOk x0.ip 32) fun c1 =>
  bif c1 then
    letK (α := Bool) (i_WordOk x0.port 16) fun c2 =>
    bif c2 then
      letK (α := Bool) (i_WordOk x0.my 16) fun c3 =>
      k c3
    else
    k false
  else
  k false
def i_TupleOk (x0 : Tupl) : Bool :=
  letK (α := Bool) (i_WordOk x0.ip 32) fun c1 =>
  bif c1 then
    letK (α := Bool) (i_WordOk x0.port 16) fun c2 =>
    bif c2 then
      letK (α := Bool) (i_WordOk x0.my 16) fun c3 =>
      c3
    else
    false
  else
  false
theorem i_TupleOk_lk (x0 : Tupl) : evalFn te (orcOf (P := Tryz.prog) [i_WordOk_e]) lorc0 [] Tryz.f72 (pvs [.st .tupl] (x0, ())) =
  i_TupleOk_N x0 _ none (fun v => some [(false, [RC.c (.bool v)])]) := by kernel_rfl
theorem i_TupleOk_p (x0 : Tupl)   (γ : Type) (fail : γ) (k : Bool → γ) : i_TupleOk_N x0 γ fail k = k (i_TupleOk x0) := by
  unfold i_TupleOk_N i_TupleOk
  exact letT (f := k) (fun c1 hc1 => bifT (f := k) (fun b0 => letT (f := k) (fun c2 hc2 => bifT (f := k) (fun b1 => letT (f := k) (fun c3 hc3 => rfl))
      (fun b1 => rfl)))
      (fun b0 => rfl))
theorem i_TupleOk_c (x0 : Tupl)  : Con Tryz.prog 72 (pvs [.st .tupl] (x0, ())) [rv (.sc .bool) [] (i_TupleOk x0)] := by
  exact evalFn_con0 teFact mixFact (orcOf_ok _) Tryz.func72 (by kernel_rfl) ((i_TupleOk_lk x0).trans (i_TupleOk_p x0  _ _ _))
noncomputable def i_TupleOk_e : Ent1 Tryz.prog := entA 72 [.st .tupl] (fun x => (i_TupleOk x.1)) (fun v => [rv (.sc .bool) [] v]) (fun x => i_TupleOk_c x.1)


/-- impl.OptionsOk -/
def i_OptionsOk_N (x0 : Opti) (γ : Type) (fail : γ) (k : Bool → γ) : γ :=
  bif (!x0.stamp) then
    bif (x0.val != 0) then
      k false
    else
    bif (x0.echo != 0) then
      k false
    else
    letK (α := Bool) (i_WordOk x0.mss 16) fun c1 =>
    bif c1 then
      letK (α := Bool) (i_within x0.scale (-1) 14) fun c2 =>
      bif c2 then
        letK (α := Bool) (i_WordOk x0.val 32) fun c3 =>
        bif c3 then
          letK (α := Bool) (i_WordOk x0.echo 32) fun c4 =>
          k c4
        else
        k false
      else
      k false
    else
    k false
  else
  letK (α := Bool) (i_WordOk x0.mss 16) fun c5 =>
  bif c5 then
    letK (α := Bool) (i_within x0.scale (-1) 14) fun c6 =>
    bif c6 then
      letK (α := Bool) (i_WordOk x0.val 32) fun c7 =>
      bif c7 then
        letK (α := Bool) (i_WordOk x0.echo 32) fun c8 =>
        k c8
      else
      k false
    else
    k false
  else
  k false
def i_OptionsOk (x0 : Opti) : Bool :=
  bif (!x0.stamp) then
    bif (x0.val != 0) then
      false
    else
    bif (x0.echo != 0) then
      false
    else
    letK (α := Bool) (i_WordOk x0.mss 16) fun c1 =>
    bif c1 then
      letK (α := Bool) (i_within x0.scale (-1) 14) fun c2 =>
      bif c2 then
        letK (α := Bool) (i_WordOk x0.val 32) fun c3 =>
        bif c3 then
          letK (α := Bool) (i_WordOk x0.echo 32) fun c4 =>
          c4
        else
        false
      else
      false
    else
    false
  else
  letK (α := Bool) (i_WordOk x0.mss 16) fun c5 =>
  bif c5 then
    letK (α := Bool) (i_within x0.scale (-1) 14) fun c6 =>
    bif c6 then
      letK (α := Bool) (i_WordOk x0.val 32) fun c7 =>
      bif c7 then
        letK (α := Bool) (i_WordOk x0.echo 32) fun c8 =>
        c8
      else
      false
    else
    false
  else
  false
theorem i_OptionsOk_lk (x0 : Opti) : evalFn te (orcOf (P := Tryz.prog) [i_WordOk_e, i_within_e]) lorc0 [] Tryz.f73 (pvs [.st .opti] (x0, ())) =
  i_OptionsOk_N x0 _ none (fun v => some [(false, [RC.c (.bool v)])]) := by kernel_rfl
theorem i_OptionsOk_p (x0 : Opti)   (γ : Type) (fail : γ) (k : Bool → γ) : i_OptionsOk_N x0 γ fail k = k (i_OptionsOk x0) := by
  unfold i_OptionsOk_N i_OptionsOk
  exact bifT (f := k) (fun b0 => bifT (f := k) (fun b1 => rfl)
      (fun b1 => bifT (f := k) (fun b2 => rfl)
      (fun b2 => letT (f := k) (fun c1 hc1 => bifT (f := k) (fun b3 => letT (f := k) (fun c2 hc2 => bifT (f := k) (fun b4 => letT (f := k) (fun c3 hc3 => bifT (f := k) (fun b5 => letT (f := k) (fun c4 hc4 => rfl))
      (fun b5 => rfl)))
      (fun b4 => rfl)))
      (fun b3 => rfl)))))
      (fun b0 => letT (f := k) (fun c5 hc5 => bifT (f := k) (fun b1 => letT (f := k) (fun c6 hc6 => bifT (f := k) (fun b2 => letT (f := k) (fun c7 hc7 => bifT (f := k) (fun b3 => letT (f := k) (fun c8 hc8 => rfl))
      (fun b3 => rfl)))
      (fun b2 => rfl)))
      (fun b1 => rfl)))
theorem i_OptionsOk_c (x0 : Opti)  : Con Tryz.prog 73 (pvs [.st .opti] (x0, ())) [rv (.sc .bool) [] (i_OptionsOk x0)] := by
  exact evalFn_con0 teFact mixFact (orcOf_ok _) Tryz.func73 (by kernel_rfl) ((i_OptionsOk_lk x0).trans (i_OptionsOk_p x0  _ _ _))
noncomputable def i_OptionsOk_e : Ent1 Tryz.prog := entA 73 [.st .opti] (fun x => (i_OptionsOk x.1)) (fun v => [rv (.sc .bool) [] v]) (fun x => i_OptionsOk_c x.1)


/-- laws.eqHalf -/
def w_eqHalf_N (x0 : Half) (x1 : Half) (γ : Type) (fail : γ) (k : Bool → γ) : γ :=
  letK (α := Bool) (w_eqTuple x0.tuple x1.tuple) fun c1 =>
  bif (!c1) then
    k false
  else
  bif (x0.iss != x1.iss) then
    k false
  else
  bif (x0.irs != x1.irs) then
    k false
  else
  letK (α := Bool) (w_eqOptions x0.opts x1.opts) fun c2 =>
  bif (!c2) then
    k false
  else
  bif (x0.age != x1.age) then
    k false
  else
  bif (x0.window != x1.window) then
    k false
  else
  k true
def w_eqHalf (x0 : Half) (x1 : Half) : Bool :=
  letK (α := Bool) (w_eqTuple x0.tuple x1.tuple) fun c1 =>
  bif (!c1) then
    false
  else
  bif (x0.iss != x1.iss) then
    false
  else
  bif (x0.irs != x1.irs) then
    false
  else
  letK (α := Bool) (w_eqOptions x0.opts x1.opts) fun c2 =>
  bif (!c2) then
    false
  else
  bif (x0.age != x1.age) then
    false
  else
  bif (x0.window != x1.window) then
    false
  else
  true
theorem w_eqHalf_lk (x0 : Half) (x1 : Half) : evalFn te (orcOf (P := Tryz.prog) [w_eqTuple_e, w_eqOptions_e]) lorc0 [] Tryz.f80 (pvs [.st .half, .st .half] (x0, x1, ())) =
  w_eqHalf_N x0 x1 _ none (fun v => some [(false, [RC.c (.bool v)])]) := by kernel_rfl
theorem w_eqHalf_p (x0 : Half) (x1 : Half)   (γ : Type) (fail : γ) (k : Bool → γ) : w_eqHalf_N x0 x1 γ fail k = k (w_eqHalf x0 x1) := by
  unfold w_eqHalf_N w_eqHalf
  exact letT (f := k) (fun c1 hc1 => bifT (f := k) (fun b0 => rfl)
      (fun b0 => bifT (f := k) (fun b1 => rfl)
      (fun b1 => bifT (f := k) (fun b2 => rfl)
      (fun b2 => letT (f := k) (fun c2 hc2 => bifT (f := k) (fun b3 => rfl)
      (fun b3 => bifT (f := k) (fun b4 => rfl)
      (fun b4 => bifT (f := k) (fun b5 => rfl)
      (fun b5 => rfl))))))))
theorem w_eqHalf_c (x0 : Half) (x1 : Half)  : Con Tryz.prog 80 (pvs [.st .half, .st .half] (x0, x1, ())) [rv (.sc .bool) [] (w_eqHalf x0 x1)] := by
  exact evalFn_con0 teFact mixFact (orcOf_ok _) Tryz.func80 (by kernel_rfl) ((w_eqHalf_lk x0 x1).trans (w_eqHalf_p x0 x1  _ _ _))
noncomputable def w_eqHalf_e : Ent1 Tryz.prog := entA 80 [.st .half, .st .half] (fun x => (w_eqHalf x.1 x.2.1)) (fun v => [rv (.sc .bool) [] v]) (fun x => w_eqHalf_c x.1 x.2.1)


/-- laws.eqTupleS -/
def w_eqTupleS_ann : List (Nat × Keep) := [(0, ⟨[0, 1, 5], [], false, 0⟩)]
def w_eqTupleS_L0_sh : Sh := ⟨[(0, false, [.sl .arg .tupl]), (1, false, [.sl .arg .tupl]), (5, false, [.int .i64])], []⟩
def w_eqTupleS_L0_es : List (Ex × Sh) := [(.ret, ⟨[(4, false, [.bool])], []⟩), (.exit 0, ⟨[(4, false, [.undef])], []⟩)]
def w_eqTupleS_L0_mk (v0 : List Tupl) (v1 : List Tupl) (v2 : Int) : w_eqTupleS_L0_sh.T := (((v0, ()), ((v1, ()), ((v2, ()), ()))), ())
def w_eqTupleS_L0_mx0 (y0 : Bool) : Sh.T ⟨[(4, false, [.bool])], []⟩ := (((y0, ()), ()), ())
def w_eqTupleS_L0_mx1  : Sh.T ⟨[(4, false, [.undef])], []⟩ := ((((), ()), ()), ())
def w_eqTupleS_L0_B (v0 : List Tupl) (v1 : List Tupl) (v2 : Int) (γ : Type) (fail : γ) (next : w_eqTupleS_L0_sh.T → γ) (out : WT w_eqTupleS_L0_es → γ) : γ :=
  bif (decide (v2 < (v0.length : Int))) then
    bif ((decide (0 ≤ v2)) && (decide (v2 < (v0.length : Int)))) then
    bif ((decide (0 ≤ v2)) && (decide (v2 < (v1.length : Int)))) then
    letK (α := Bool) (w_eqTuple (v0.getD v2.toNat (Ty.zero .tupl)) (v1.getD v2.toNat (Ty.zero .tupl))) fun c1 =>
    bif (!c1) then
      out (Sum.inl (w_eqTupleS_L0_mx0 false))
    else
    next (w_eqTupleS_L0_mk v0 v1 (IntKind.wrap .i64 (v2 + 1)))
    else fail
    else fail
  else
  out (Sum.inr (w_eqTupleS_L0_mx1 ))
theorem w_eqTupleS_L0_par (v0 : List Tupl) (v1 : List Tupl) (v2 : Int) (γ : Type) (fail : γ) (next : w_eqTupleS_L0_sh.T → γ) (out : WT w_eqTupleS_L0_es → γ) : w_eqTupleS_L0_B v0 v1 v2 γ fail next out = optK (w_eqTupleS_L0_B v0 v1 v2 _ none (fun v' => some (.inl v')) (fun w => some (.inr w))) fail (fun r => Sum.elim next out r) := by
  unfold w_eqTupleS_L0_B
  exact bifT (f := (fun o => optK o fail (fun r => Sum.elim next out r))) (fun _ => bifT (f := (fun o => optK o fail (fun r => Sum.elim next out r))) (fun _ => bifT (f := (fun o => optK o fail (fun r => Sum.elim next out r))) (fun _ => letT (f := (fun o => optK o fail (fun r => Sum.elim next out r))) (fun c1 _ => bifT (f := (fun o => optK o fail (fun r => Sum.elim next out r))) (fun _ => rfl)
      (fun _ => rfl))) (fun _ => rfl)) (fun _ => rfl))
      (fun _ => rfl)
def w_eqTupleS_L0_r : Round w_eqTupleS_L0_sh.T (WT w_eqTupleS_L0_es) where
  B v γ fail next out := w_eqTupleS_L0_B v.1.1.1 v.1.2.1.1 v.1.2.2.1.1 γ fail next out
  par v γ fail next out := w_eqTupleS_L0_par v.1.1.1 v.1.2.1.1 v.1.2.2.1.1 γ fail next out
def w_eqTupleS_L0_fu (v0 : List Tupl) (v1 : List Tupl) (v2 : Int) : Nat := (Int.toNat ((v0.length : Int) - v2)) + 1
theorem w_eqTupleS_L0_lk (v : w_eqTupleS_L0_sh.T) (next : St → Option Res) (k : Ex → St → Option Res) : evalK te (orcOf (P := Tryz.prog) [w_eqTuple_e]) (lorcOf []) Tryz.f82.ntmps w_eqTupleS_ann (nthLoop (bodyOf Tryz.f82) 0 0) 0 (w_eqTupleS_L0_sh.enc v) (endK ⟨[0, 1, 5], [], false, 0⟩ ⟨[4], [], false, 0⟩ next k) =
  w_eqTupleS_L0_r.B v _ none (fun v' => next (w_eqTupleS_L0_sh.enc v')) (fun w => outK w_eqTupleS_L0_es k w) := by kernel_rfl
def w_eqTupleS_L0_le : LE := leOf 0 w_eqTupleS_L0_sh w_eqTupleS_L0_es w_eqTupleS_L0_r.step (fun v => w_eqTupleS_L0_fu v.1.1.1 v.1.2.1.1 v.1.2.2.1.1)
theorem w_eqTupleS_L0_ls (w0 : World) (mo : Mts) (I0 : Nat → Prop) (hmo : mo.length = 0) : LSem Tryz.prog (Sim w0 mo Tryz.f82.ntmps I0) (fun b s k => match Nat.beq 0 b with | true => w_eqTupleS_L0_le.run s k | false => none) 0 (nthLoop (bodyOf Tryz.f82) 0 0) :=
  le_sem hmo (lorc := lorcOf []) (ann := w_eqTupleS_ann) (keep := ⟨[0, 1, 5], [], false, 0⟩) (kout := ⟨[4], [], false, 0⟩) teFact mixFact (orcOf_ok _) (by kernel_rfl) (allLoops_of (bs := []) (by kernel_rfl) trivial) w_eqTupleS_L0_r _ w_eqTupleS_L0_lk
def w_eqTupleS_L0_f (v0 : List Tupl) (v1 : List Tupl) (v2 : Int) (a : Unit) : Stp (Unit) ((Unit)) :=
  letK (α := Bool) (w_eqTuple (v0.getD v2.toNat (Ty.zero .tupl)) (v1.getD v2.toNat (Ty.zero .tupl))) fun c1 =>
  bif (!c1) then
    .out (())
  else
  .next ()
theorem w_eqTupleS_L0_st (v0 : List Tupl) (v1 : List Tupl) (v2 : Int) (hlo : 0 ≤ v2) (hhi : v2 < (v0.length : Int)) (hN : (v0.length : Int) ≤ 4611686018427387904) (hi0 : (v0.length : Int) ≤ (v1.length : Int)) : w_eqTupleS_L0_r.step (w_eqTupleS_L0_mk v0 v1 v2) = Stp.elim (fun a' : Unit => some (Sum.inl (w_eqTupleS_L0_mk v0 v1 (v2 + 1)))) (fun w => some (Sum.inr ((fun p : Unit => Sum.inl (w_eqTupleS_L0_mx0 false)) w))) (w_eqTupleS_L0_f v0 v1 v2 ()) := by
  have hw : (IntKind.wrap .i64 (v2 + 1)) = v2 + 1 := wrap64 (by omega) (by omega)
  show w_eqTupleS_L0_B v0 v1 v2 (Option (w_eqTupleS_L0_sh.T ⊕ WT w_eqTupleS_L0_es)) none (fun v' => some (Sum.inl v')) (fun w => some (Sum.inr w)) = _
  unfold w_eqTupleS_L0_B w_eqTupleS_L0_f
  exact bifG (by simp only [decide_eq_true_eq]; omega) (bifG (by (try simp only [Nat.ble_eq, Bool.and_eq_true, decide_eq_true_eq]); grind [maxSl, maxStr, toBytes_length, toInts_length, List.length_set, wrap64]) (bifG (by (try simp only [Nat.ble_eq, Bool.and_eq_true, decide_eq_true_eq]); grind [maxSl, maxStr, toBytes_length, toInts_length, List.length_set, wrap64]) (letT (f := (Stp.elim (fun a' : Unit => some (Sum.inl (w_eqTupleS_L0_mk v0 v1 (v2 + 1)))) (fun w => some (Sum.inr ((fun p : Unit => Sum.inl (w_eqTupleS_L0_mx0 false)) w))))) (fun c1 hc1 => bifT (f := (Stp.elim (fun a' : Unit => some (Sum.inl (w_eqTupleS_L0_mk v0 v1 (v2 + 1)))) (fun w => some (Sum.inr ((fun p : Unit => Sum.inl (w_eqTupleS_L0_mx0 false)) w))))) (fun b0 => rfl)
      (fun b0 => (by exact congrArg (fun z => some (Sum.inl (w_eqTupleS_L0_mk v0 v1 z))) hw))))))
theorem w_eqTupleS_L0_cl (v0 : List Tupl) (v1 : List Tupl) (v2 : Int) (h0 : 0 ≤ v2) (h1 : (v0.length : Int) ≤ 4611686018427387904) (h2 : (v0.length : Int) ≤ (v1.length : Int)) : loopF w_eqTupleS_L0_r.step (w_eqTupleS_L0_fu v0 v1 v2) (w_eqTupleS_L0_mk v0 v1 v2) = some (Stp.elim (fun a => (fun i a => Sum.inr (w_eqTupleS_L0_mx1 )) (v2 + 1 * (((Int.toNat ((v0.length : Int) - v2)) : Nat) : Int)) a) (fun p : Unit => Sum.inl (w_eqTupleS_L0_mx0 false)) (forN (w_eqTupleS_L0_f v0 v1) 1 (Int.toNat ((v0.length : Int) - v2)) v2 ())) :=
  forN_loop (step := w_eqTupleS_L0_r.step) (mk := fun v2 a => w_eqTupleS_L0_mk v0 v1 v2) (f := w_eqTupleS_L0_f v0 v1) (e := (fun i a => Sum.inr (w_eqTupleS_L0_mx1 ))) (emb := (fun p : Unit => Sum.inl (w_eqTupleS_L0_mx0 false))) (st := 1) (Inv := fun v2 a => True) (Int.toNat ((v0.length : Int) - v2)) v2 () _ (Nat.lt_succ_self _) trivial
    (fun j a hj hv => ⟨w_eqTupleS_L0_st v0 v1 (v2 + 1 * (j : Int)) (by omega) (by omega) (by omega) h2, fun _ _ => trivial⟩)
    (fun a hv => by
      show w_eqTupleS_L0_B v0 v1 (v2 + 1 * (((Int.toNat ((v0.length : Int) - v2)) : Nat) : Int)) (Option (w_eqTupleS_L0_sh.T ⊕ WT w_eqTupleS_L0_es)) none (fun v' => some (Sum.inl v')) (fun w => some (Sum.inr w)) = _
      unfold w_eqTupleS_L0_B
      exact bifN (by simp only [decide_eq_false_iff_not]; omega) rfl)
def w_eqTupleS_N (x0 : List Tupl) (x1 : List Tupl) (γ : Type) (fail : γ) (k : Bool → γ) : γ :=
  bif ((x0.length : Int) != (x1.length : Int)) then
    k false
  else
  optK (loopF w_eqTupleS_L0_r.step (w_eqTupleS_L0_fu x0 x1 0) (w_eqTupleS_L0_mk x0 x1 0)) fail fun w2 =>
    Sum.elim (fun w2 =>
      k w2.1.1.1)
    (fun w2 =>
      k true) w2
def w_eqTupleS (x0 : List Tupl) (x1 : List Tupl) : Bool :=
  bif ((x0.length : Int) != (x1.length : Int)) then
    false
  else
  Stp.elim (fun a3 =>
    true)
    (fun p3 =>
      false)
    (forN (w_eqTupleS_L0_f x0 x1) 1 (Int.toNat ((x0.length : Int) - 0)) 0 ())
theorem w_eqTupleS_lk (x0 : List Tupl) (x1 : List Tupl) : evalFn te (orcOf (P := Tryz.prog) [w_eqTuple_e]) (lorcOf [w_eqTupleS_L0_le]) w_eqTupleS_ann Tryz.f82 (pvs [.sc (.sl .tupl), .sc (.sl .tupl)] (x0, x1, ())) =
  w_eqTupleS_N x0 x1 _ none (fun v => some [(false, [RC.c (.bool v)])]) := by kernel_rfl
theorem w_eqTupleS_p (x0 : List Tupl) (x1 : List Tupl) (hx0 : x0.length ≤ 140737488355328) (hx1 : x1.length ≤ 140737488355328)  (γ : Type) (fail : γ) (k : Bool → γ) : w_eqTupleS_N x0 x1 γ fail k = k (w_eqTupleS x0 x1) := by
  unfold w_eqTupleS_N w_eqTupleS
  exact bifT (f := k) (fun b0 => rfl)
      (fun b0 => loopT (f := k) (w_eqTupleS_L0_cl x0 x1 0 (by (try simp only [Nat.ble_eq, Bool.and_eq_true, decide_eq_true_eq, w_eqTupleS_L0_mx0, w_eqTupleS_L0_mx1]); grind [maxSl, maxStr, toBytes_length, toInts_length, List.length_set, wrap64]) (by (try simp only [Nat.ble_eq, Bool.and_eq_true, decide_eq_true_eq, w_eqTupleS_L0_mx0, w_eqTupleS_L0_mx1]); grind [maxSl, maxStr, toBytes_length, toInts_length, List.length_set, wrap64]) (by (try simp only [Nat.ble_eq, Bool.and_eq_true, decide_eq_true_eq, w_eqTupleS_L0_mx0, w_eqTupleS_L0_mx1]); grind [maxSl, maxStr, toBytes_length, toInts_length, List.length_set, wrap64])) (fun a3 => rfl)
      (fun p3 => rfl))
theorem w_eqTupleS_c (x0 : List Tupl) (x1 : List Tupl)  : Con Tryz.prog 82 (pvs [.sc (.sl .tupl), .sc (.sl .tupl)] (x0, x1, ())) [rv (.sc .bool) [] (w_eqTupleS x0 x1)] := by
  refine Con.of_facts (enters_of Tryz.func82 rfl (by kernel_rfl)) fun hf => ?_
  replace hf := factAt hf
  exact evalFn_conL teFact mixFact (orcOf_ok _) Tryz.func82 (by kernel_rfl) (bs := [0]) (by kernel_rfl) (by kernel_rfl) (fun w0 mo I0 hmo => ⟨lsem_of_lorc (w_eqTupleS_L0_ls w0 mo I0 hmo) (by kernel_rfl), trivial⟩) ((w_eqTupleS_lk x0 x1).trans (w_eqTupleS_p x0 x1 ((hf 0 0 rfl rfl).len) ((hf 1 0 rfl rfl).len) _ _ _))
noncomputable def w_eqTupleS_e : Ent1 Tryz.prog := entA 82 [.sc (.sl .tupl), .sc (.sl .tupl)] (fun x => (w_eqTupleS x.1 x.2.1)) (fun v => [rv (.sc .bool) [] v]) (fun x => w_eqTupleS_c x.1 x.2.1)


/-- laws.szMacRowS -/
def w_szMacRowS_ann : List (Nat × Keep) := [(0, ⟨[0, 1, 5], [], false, 0⟩)]
def w_szMacRowS_L0_sh : Sh := ⟨[(0, false, [.sl .arg .macRow]), (1, false, [.int .i64]), (5, false, [.int .i64])], []⟩
def w_szMacRowS_L0_es : List (Ex × Sh) := [(.ret, ⟨[(1, false, [.int .i64]), (4, false, [.int .i64])], []⟩), (.exit 0, ⟨[(1, false, [.int .i64]), (4, false, [.undef])], []⟩)]
def w_szMacRowS_L0_mk (v0 : List MacRow) (v1 : Int) (v2 : Int) : w_szMacRowS_L0_sh.T := (((v0, ()), ((v1, ()), ((v2, ()), ()))), ())
def w_szMacRowS_L0_mx0 (y0 : Int) (y1 : Int) : Sh.T ⟨[(1, false, [.int .i64]), (4, false, [.int .i64])], []⟩ := (((y0, ()), ((y1, ()), ())), ())
def w_szMacRowS_L0_mx1 (y0 : Int) : Sh.T ⟨[(1, false, [.int .i64]), (4, false, [.undef])], []⟩ := (((y0, ()), (((), ()), ())), ())
def w_szMacRowS_L0_B (v0 : List MacRow) (v1 : Int) (v2 : Int) (γ : Type) (fail : γ) (next : w_szMacRowS_L0_sh.T → γ) (out : WT w_szMacRowS_L0_es → γ) : γ :=
  bif (decide (v2 < (v0.length : Int))) then
    bif ((decide (0 ≤ v2)) && (decide (v2 < (v0.length : Int)))) then
    letK (α := Int) (w_szMacRow (v0.getD v2.toNat (Ty.zero .macRow)) v1) fun c1 =>
    bif (decide (c1 < 0)) then
      out (Sum.inl (w_szMacRowS_L0_mx0 c1 (-1)))
    else
    next (w_szMacRowS_L0_mk v0 c1 (IntKind.wrap .i64 (v2 + 1)))
    else fail
  else
  out (Sum.inr (w_szMacRowS_L0_mx1 v1))
theorem w_szMacRowS_L0_par (v0 : List MacRow) (v1 : Int) (v2 : Int) (γ : Type) (fail : γ) (next : w_szMacRowS_L0_sh.T → γ) (out : WT w_szMacRowS_L0_es → γ) : w_szMacRowS_L0_B v0 v1 v2 γ fail next out = optK (w_szMacRowS_L0_B v0 v1 v2 _ none (fun v' => some (.inl v')) (fun w => some (.inr w))) fail (fun r => Sum.elim next out r) := by
  unfold w_szMacRowS_L0_B
  exact bifT (f := (fun o => optK o fail (fun r => Sum.elim next out r))) (fun _ => bifT (f := (fun o => optK o fail (fun r => Sum.elim next out r))) (fun _ => letT (f := (fun o => optK o fail (fun r => Sum.elim next out r))) (fun c1 _ => bifT (f := (fun o => optK o fail (fun r => Sum.elim next out r))) (fun _ => rfl)
      (fun _ => rfl))) (fun _ => rfl))
      (fun _ => rfl)
def w_szMacRowS_L0_r : Round w_szMacRowS_L0_sh.T (WT w_szMacRowS_L0_es) where
  B v γ fail next out := w_szMacRowS_L0_B v.1.1.1 v.1.2.1.1 v.1.2.2.1.1 γ fail next out
  par v γ fail next out := w_szMacRowS_L0_par v.1.1.1 v.1.2.1.1 v.1.2.2.1.1 γ fail next out
def w_szMacRowS_L0_fu (v0 : List MacRow) (v1 : Int) (v2 : Int) : Nat := (Int.toNat ((v0.length : Int) - v2)) + 1
theorem w_szMacRowS_L0_lk (v : w_szMacRowS_L0_sh.T) (next : St → Option Res) (k : Ex → St → Option Res) : evalK te (orcOf (P := Tryz.prog) [w_szMacRow_e]) (lorcOf []) Tryz.f83.ntmps w_szMacRowS_ann (nthLoop (bodyOf Tryz.f83) 0 0) 0 (w_szMacRowS_L0_sh.enc v) (endK ⟨[0, 1, 5], [], false, 0⟩ ⟨[1, 4], [], false, 0⟩ next k) =
  w_szMacRowS_L0_r.B v _ none (fun v' => next (w_szMacRowS_L0_sh.enc v')) (fun w => outK w_szMacRowS_L0_es k w) := by kernel_rfl
def w_szMacRowS_L0_le : LE := leOf 0 w_szMacRowS_L0_sh w_szMacRowS_L0_es w_szMacRowS_L0_r.step (fun v => w_szMacRowS_L0_fu v.1.1.1 v.1.2.1.1 v.1.2.2.1.1)
theorem w_szMacRowS_L0_ls (w0 : World) (mo : Mts) (I0 : Nat → Prop) (hmo : mo.length = 0) : LSem Tryz.prog (Sim w0 mo Tryz.f83.ntmps I0) (fun b s k => match Nat.beq 0 b with | true => w_szMacRowS_L0_le.run s k | false => none) 0 (nthLoop (bodyOf Tryz.f83) 0 0) :=
  le_sem hmo (lorc := lorcOf []) (ann := w_szMacRowS_ann) (keep := ⟨[0, 1, 5], [], false, 0⟩) (kout := ⟨[1, 4], [], false, 0⟩) teFact mixFact (orcOf_ok _) (by kernel_rfl) (allLoops_of (bs := []) (by kernel_rfl) trivial) w_szMacRowS_L0_r _ w_szMacRowS_L0_lk
def w_szMacRowS_L0_f (v0 : List MacRow) (v2 : Int) (a : Int) : Stp (Int) ((Int)) :=
  letK (α := Int) (w_szMacRow (v0.getD v2.toNat (Ty.zero .macRow)) a) fun c1 =>
  bif (decide (c1 < 0)) then
    .out (c1)
  else
  .next c1
theorem w_szMacRowS_L0_st (v0 : List MacRow) (v1 : Int) (v2 : Int) (hlo : 0 ≤ v2) (hhi : v2 < (v0.length : Int)) (hN : (v0.length : Int) ≤ 4611686018427387904) : w_szMacRowS_L0_r.step (w_szMacRowS_L0_mk v0 v1 v2) = Stp.elim (fun a' : Int => some (Sum.inl (w_szMacRowS_L0_mk v0 a' (v2 + 1)))) (fun w => some (Sum.inr ((fun p : Int => Sum.inl (w_szMacRowS_L0_mx0 p (-1))) w))) (w_szMacRowS_L0_f v0 v2 v1) := by
  have hw : (IntKind.wrap .i64 (v2 + 1)) = v2 + 1 := wrap64 (by omega) (by omega)
  show w_szMacRowS_L0_B v0 v1 v2 (Option (w_szMacRowS_L0_sh.T ⊕ WT w_szMacRowS_L0_es)) none (fun v' => some (Sum.inl v')) (fun w => some (Sum.inr w)) = _
  unfold w_szMacRowS_L0_B w_szMacRowS_L0_f
  exact bifG (by simp only [decide_eq_true_eq]; omega) (bifG (by (try simp only [Nat.ble_eq, Bool.and_eq_true, decide_eq_true_eq]); grind [maxSl, maxStr, toBytes_length, toInts_length, List.length_set, wrap64, w_szMacRow_sm]) (letT (f := (Stp.elim (fun a' : Int => some (Sum.inl (w_szMacRowS_L0_mk v0 a' (v2 + 1)))) (fun w => some (Sum.inr ((fun p : Int => Sum.inl (w_szMacRowS_L0_mx0 p (-1))) w))))) (fun c1 hc1 => bifT (f := (Stp.elim (fun a' : Int => some (Sum.inl (w_szMacRowS_L0_mk v0 a' (v2 + 1)))) (fun w => some (Sum.inr ((fun p : Int => Sum.inl (w_szMacRowS_L0_mx0 p (-1))) w))))) (fun b0 => rfl)
      (fun b0 => (by exact congrArg (fun z => some (Sum.inl (w_szMacRowS_L0_mk v0 c1 z))) hw)))))
theorem w_szMacRowS_L0_cl (v0 : List MacRow) (v1 : Int) (v2 : Int) (h0 : 0 ≤ v2) (h1 : (v0.length : Int) ≤ 4611686018427387904) : loopF w_szMacRowS_L0_r.step (w_szMacRowS_L0_fu v0 v1 v2) (w_szMacRowS_L0_mk v0 v1 v2) = some (Stp.elim (fun a => (fun i a => Sum.inr (w_szMacRowS_L0_mx1 a)) (v2 + 1 * (((Int.toNat ((v0.length : Int) - v2)) : Nat) : Int)) a) (fun p : Int => Sum.inl (w_szMacRowS_L0_mx0 p (-1))) (forN (w_szMacRowS_L0_f v0) 1 (Int.toNat ((v0.length : Int) - v2)) v2 v1)) :=
  forN_loop (step := w_szMacRowS_L0_r.step) (mk := fun v2 a => w_szMacRowS_L0_mk v0 a v2) (f := w_szMacRowS_L0_f v0) (e := (fun i a => Sum.inr (w_szMacRowS_L0_mx1 a))) (emb := (fun p : Int => Sum.inl (w_szMacRowS_L0_mx0 p (-1)))) (st := 1) (Inv := fun v2 a => True) (Int.toNat ((v0.length : Int) - v2)) v2 v1 _ (Nat.lt_succ_self _) trivial
    (fun j a hj hv => ⟨w_szMacRowS_L0_st v0 a (v2 + 1 * (j : Int)) (by omega) (by omega) (by omega), fun _ _ => trivial⟩)
    (fun a hv => by
      show w_szMacRowS_L0_B v0 a (v2 + 1 * (((Int.toNat ((v0.length : Int) - v2)) : Nat) : Int)) (Option (w_szMacRowS_L0_sh.T ⊕ WT w_szMacRowS_L0_es)) none (fun v' => some (Sum.inl v')) (fun w => some (Sum.inr w)) = _
      unfold w_szMacRowS_L0_B
      exact bifN (by simp only [decide_eq_false_iff_not]; omega) rfl)
def w_szMacRowS_N (x0 : List MacRow) (x1 : Int) (γ : Type) (fail : γ) (k : Int → γ) : γ :=
  bif (decide ((IntKind.wrap .i64 (x1 - (x0.length : Int))) < 0)) then
    k (-1)
  else
  optK (loopF w_szMacRowS_L0_r.step (w_szMacRowS_L0_fu x0 (IntKind.wrap .i64 (x1 - (x0.length : Int))) 0) (w_szMacRowS_L0_mk x0 (IntKind.wrap .i64 (x1 - (x0.length : Int))) 0)) fail fun w2 =>
    Sum.elim (fun w2 =>
      k w2.1.2.1.1)
    (fun w2 =>
      k w2.1.1.1) w2
def w_szMacRowS (x0 : List MacRow) (x1 : Int) : Int :=
  bif (decide ((IntKind.wrap .i64 (x1 - (x0.length : Int))) < 0)) then
    (-1)
  else
  Stp.elim (fun a3 =>
    a3)
    (fun p3 =>
      (-1))
    (forN (w_szMacRowS_L0_f x0) 1 (Int.toNat ((x0.length : Int) - 0)) 0 (IntKind.wrap .i64 (x1 - (x0.length : Int))))
theorem w_szMacRowS_lk (x0 : List MacRow) (x1 : Int) : evalFn te (orcOf (P := Tryz.prog) [w_szMacRow_e]) (lorcOf [w_szMacRowS_L0_le]) w_szMacRowS_ann Tryz.f83 (pvs [.sc (.sl .macRow), .sc (.int .i64)] (x0, x1, ())) =
  w_szMacRowS_N x0 x1 _ none (fun v => some [(false, [RC.c (.int .i64 v)])]) := by kernel_rfl
theorem w_szMacRowS_p (x0 : List MacRow) (x1 : Int) (hx0 : x0.length ≤ 140737488355328) (hx0_e : ∀ y ∈ x0, ∀ c ∈ Ty.cells .macRow y, FactC c) (hx1 : inK .i64 x1)  (γ : Type) (fail : γ) (k : Int → γ) : w_szMacRowS_N x0 x1 γ fail k = k (w_szMacRowS x0 x1) := by
  unfold w_szMacRowS_N w_szMacRowS
  exact bifT (f := k) (fun b0 => rfl)
      (fun b0 => loopT (f := k) (w_szMacRowS_L0_cl x0 (IntKind.wrap .i64 (x1 - (x0.length : Int))) 0 (by (try simp only [Nat.ble_eq, Bool.and_eq_true, decide_eq_true_eq, w_szMacRowS_L0_mx0, w_szMacRowS_L0_mx1]); grind [maxSl, maxStr, toBytes_length, toInts_length, List.length_set, wrap64, w_szMacRow_sm]) (by (try simp only [Nat.ble_eq, Bool.and_eq_true, decide_eq_true_eq, w_szMacRowS_L0_mx0, w_szMacRowS_L0_mx1]); grind [maxSl, maxStr, toBytes_length, toInts_length, List.length_set, wrap64, w_szMacRow_sm])) (fun a3 => rfl)
      (fun p3 => rfl))
theorem w_szMacRowS_c (x0 : List MacRow) (x1 : Int)  : Con Tryz.prog 83 (pvs [.sc (.sl .macRow), .sc (.int .i64)] (x0, x1, ())) [rv (.sc (.int .i64)) [] (w_szMacRowS x0 x1)] := by
  refine Con.of_facts (enters_of Tryz.func83 rfl (by kernel_rfl)) fun hf => ?_
  replace hf := factAt hf
  exact evalFn_conL teFact mixFact (orcOf_ok _) Tryz.func83 (by kernel_rfl) (bs := [0]) (by kernel_rfl) (by kernel_rfl) (fun w0 mo I0 hmo => ⟨lsem_of_lorc (w_szMacRowS_L0_ls w0 mo I0 hmo) (by kernel_rfl), trivial⟩) ((w_szMacRowS_lk x0 x1).trans (w_szMacRowS_p x0 x1 ((hf 0 0 rfl rfl).len) (fun y hy => (hf 0 0 rfl rfl).elem hy) ((hf 1 0 rfl rfl).rng) _ _ _))
noncomputable def w_szMacRowS_e : Ent1 Tryz.prog := entA 83 [.sc (.sl .macRow), .sc (.int .i64)] (fun x => (w_szMacRowS x.1 x.2.1)) (fun v => [rv (.sc (.int .i64)) [] v]) (fun x => w_szMacRowS_c x.1 x.2.1)


/-- spec.SenderOk -/
def s_SenderOk_N (x0 : Sndr) (γ : Type) (fail : γ) (k : Bool → γ) : γ :=
  letK (α := Bool) (s_WordOk x0.una 32) fun c1 =>
  bif (!c1) then
    k false
  else
  bif (decide (48 < (x0.data.length : Int))) then
    k false
  else
  letK (α := Bool) (s_l1In x0.sent 0 (x0.data.length : Int)) fun c2 =>
  bif (!c2) then
    k false
  else
  bif x0.finSent then
    bif (!x0.fin) then
      k false
    else
    bif (x0.sent != (x0.data.length : Int)) then
      k false
    else
    bif (!x0.done) then
      k true
    else
    bif x0.fin then
      bif (!x0.finSent) then
        k (x0.data == [])
      else
      k false
    else
    k false
  else
  bif (!x0.done) then
    k true
  else
  bif x0.fin then
    bif (!x0.finSent) then
      k (x0.data == [])
    else
    k false
  else
  k false
def s_SenderOk (x0 : Sndr) : Bool :=
  letK (α := Bool) (s_WordOk x0.una 32) fun c1 =>
  bif (!c1) then
    false
  else
  bif (decide (48 < (x0.data.length : Int))) then
    false
  else
  letK (α := Bool) (s_l1In x0.sent 0 (x0.data.length : Int)) fun c2 =>
  bif (!c2) then
    false
  else
  bif x0.finSent then
    bif (!x0.fin) then
      false
    else
    bif (x0.sent != (x0.data.length : Int)) then
      false
    else
    bif (!x0.done) then
      true
    else
    bif x0.fin then
      bif (!x0.finSent) then
        (x0.data == [])
      else
      false
    else
    false
  else
  bif (!x0.done) then
    true
  else
  bif x0.fin then
    bif (!x0.finSent) then
      (x0.data == [])
    else
    false
  else
  false
theorem s_SenderOk_lk (x0 : Sndr) : evalFn te (orcOf (P := Tryz.prog) [s_WordOk_e, s_l1In_e]) lorc0 [] Tryz.f85 (pvs [.st .sndr] (x0, ())) =
  s_SenderOk_N x0 _ none (fun v => some [(false, [RC.c (.bool v)])]) := by kernel_rfl
theorem s_SenderOk_p (x0 : Sndr)   (γ : Type) (fail : γ) (k : Bool → γ) : s_SenderOk_N x0 γ fail k = k (s_SenderOk x0) := by
  unfold s_SenderOk_N s_SenderOk
  exact letT (f := k) (fun c1 hc1 => bifT (f := k) (fun b0 => rfl)
      (fun b0 => bifT (f := k) (fun b1 => rfl)
      (fun b1 => letT (f := k) (fun c2 hc2 => bifT (f := k) (fun b2 => rfl)
      (fun b2 => bifT (f := k) (fun b3 => bifT (f := k) (fun b4 => rfl)
      (fun b4 => bifT (f := k) (fun b5 => rfl)
      (fun b5 => bifT (f := k) (fun b6 => rfl)
      (fun b6 => bifT (f := k) (fun b7 => bifT (f := k) (fun b8 => rfl)
      (fun b8 => rfl))
      (fun b7 => rfl)))))
      (fun b3 => bifT (f := k) (fun b4 => rfl)
      (fun b4 => bifT (f := k) (fun b5 => bifT (f := k) (fun b6 => rfl)
      (fun b6 => rfl))
      (fun b5 => rfl))))))))
theorem s_SenderOk_c (x0 : Sndr)  : Con Tryz.prog 85 (pvs [.st .sndr] (x0, ())) [rv (.sc .bool) [] (s_SenderOk x0)] := by
  exact evalFn_con0 teFact mixFact (orcOf_ok _) Tryz.func85 (by kernel_rfl) ((s_SenderOk_lk x0).trans (s_SenderOk_p x0  _ _ _))
noncomputable def s_SenderOk_e : Ent1 Tryz.prog := entA 85 [.st .sndr] (fun x => (s_SenderOk x.1)) (fun v => [rv (.sc .bool) [] v]) (fun x => s_SenderOk_c x.1)


/-- laws.toMacRowS -/
def w_toMacRowS_ann : List (Nat × Keep) := [(0, ⟨[0, 3, 4], [], false, 0⟩)]
def w_toMacRowS_L0_sh : Sh := ⟨[(0, false, [.sl .arg .macRow]), (3, false, [.own 0]), (4, false, [.int .i64])], [.arr .macRow false true]⟩
def w_toMacRowS_L0_es : List (Ex × Sh) := [(.exit 0, ⟨[(2, false, [.undef]), (3, false, [.own 0])], [.arr .macRow false true]⟩)]
def w_toMacRowS_L0_mk (v0 : List MacRow) (v1 : Int) (v2 : List MacRow) : w_toMacRowS_L0_sh.T := (((v0, ()), (((), ()), ((v1, ()), ()))), (v2, ()))
def w_toMacRowS_L0_mx0 (y0 : List MacRow) : Sh.T ⟨[(2, false, [.undef]), (3, false, [.own 0])], [.arr .macRow false true]⟩ := ((((), ()), (((), ()), ())), (y0, ()))
def w_toMacRowS_L0_B (v0 : List MacRow) (v1 : Int) (v2 : List MacRow) (γ : Type) (fail : γ) (next : w_toMacRowS_L0_sh.T → γ) (out : WT w_toMacRowS_L0_es → γ) : γ :=
  bif (decide (v1 < (v0.length : Int))) then
    bif ((decide (0 ≤ v1)) && (decide (v1 < (v0.length : Int)))) then
    letK (α := MacRow) (w_toMacRow (v0.getD v1.toNat (Ty.zero .macRow))) fun c1 =>
    bif ((decide (0 ≤ v1)) && (decide (v1 < (v2.length : Int)))) then
    next (w_toMacRowS_L0_mk v0 (IntKind.wrap .i64 (v1 + 1)) (v2.set v1.toNat c1))
    else fail
    else fail
  else
  out (w_toMacRowS_L0_mx0 v2)
theorem w_toMacRowS_L0_par (v0 : List MacRow) (v1 : Int) (v2 : List MacRow) (γ : Type) (fail : γ) (next : w_toMacRowS_L0_sh.T → γ) (out : WT w_toMacRowS_L0_es → γ) : w_toMacRowS_L0_B v0 v1 v2 γ fail next out = optK (w_toMacRowS_L0_B v0 v1 v2 _ none (fun v' => some (.inl v')) (fun w => some (.inr w))) fail (fun r => Sum.elim next out r) := by
  unfold w_toMacRowS_L0_B
  exact bifT (f := (fun o => optK o fail (fun r => Sum.elim next out r))) (fun _ => bifT (f := (fun o => optK o fail (fun r => Sum.elim next out r))) (fun _ => letT (f := (fun o => optK o fail (fun r => Sum.elim next out r))) (fun c1 _ => bifT (f := (fun o => optK o fail (fun r => Sum.elim next out r))) (fun _ => rfl) (fun _ => rfl))) (fun _ => rfl))
      (fun _ => rfl)
def w_toMacRowS_L0_r : Round w_toMacRowS_L0_sh.T (WT w_toMacRowS_L0_es) where
  B v γ fail next out := w_toMacRowS_L0_B v.1.1.1 v.1.2.2.1.1 v.2.1 γ fail next out
  par v γ fail next out := w_toMacRowS_L0_par v.1.1.1 v.1.2.2.1.1 v.2.1 γ fail next out
def w_toMacRowS_L0_fu (v0 : List MacRow) (v1 : Int) (v2 : List MacRow) : Nat := (Int.toNat ((v0.length : Int) - v1)) + 1
theorem w_toMacRowS_L0_lk (v : w_toMacRowS_L0_sh.T) (next : St → Option Res) (k : Ex → St → Option Res) : evalK te (orcOf (P := Tryz.prog) [w_toMacRow_e]) (lorcOf []) Tryz.f88.ntmps w_toMacRowS_ann (nthLoop (bodyOf Tryz.f88) 0 0) 0 (w_toMacRowS_L0_sh.enc v) (endK ⟨[0, 3, 4], [], false, 0⟩ ⟨[2, 3], [], false, 0⟩ next k) =
  w_toMacRowS_L0_r.B v _ none (fun v' => next (w_toMacRowS_L0_sh.enc v')) (fun w => outK w_toMacRowS_L0_es k w) := by kernel_rfl
def w_toMacRowS_L0_le : LE := leOf 0 w_toMacRowS_L0_sh w_toMacRowS_L0_es w_toMacRowS_L0_r.step (fun v => w_toMacRowS_L0_fu v.1.1.1 v.1.2.2.1.1 v.2.1)
theorem w_toMacRowS_L0_ls (w0 : World) (mo : Mts) (I0 : Nat → Prop) (hmo : mo.length = 0) : LSem Tryz.prog (Sim w0 mo Tryz.f88.ntmps I0) (fun b s k => match Nat.beq 0 b with | true => w_toMacRowS_L0_le.run s k | false => none) 0 (nthLoop (bodyOf Tryz.f88) 0 0) :=
  le_sem hmo (lorc := lorcOf []) (ann := w_toMacRowS_ann) (keep := ⟨[0, 3, 4], [], false, 0⟩) (kout := ⟨[2, 3], [], false, 0⟩) teFact mixFact (orcOf_ok _) (by kernel_rfl) (allLoops_of (bs := []) (by kernel_rfl) trivial) w_toMacRowS_L0_r _ w_toMacRowS_L0_lk
def w_toMacRowS_L0_f (v0 : List MacRow) (v1 : Int) (a : List MacRow) : Stp (List MacRow) (Empty) :=
  letK (α := MacRow) (w_toMacRow (v0.getD v1.toNat (Ty.zero .macRow))) fun c1 =>
  .next (a.set v1.toNat c1)
theorem w_toMacRowS_L0_st (v0 : List MacRow) (v1 : Int) (v2 : List MacRow) (hlo : 0 ≤ v1) (hhi : v1 < (v0.length : Int)) (hN : (v0.length : Int) ≤ 4611686018427387904) (hinv : (v0.length : Int) ≤ (v2.length : Int)) : w_toMacRowS_L0_r.step (w_toMacRowS_L0_mk v0 v1 v2) = Stp.elim (fun a' : List MacRow => some (Sum.inl (w_toMacRowS_L0_mk v0 (v1 + 1) a'))) (fun w => some (Sum.inr ((fun p : Empty => nomatch p) w))) (w_toMacRowS_L0_f v0 v1 v2) := by
  have hw : (IntKind.wrap .i64 (v1 + 1)) = v1 + 1 := wrap64 (by omega) (by omega)
  show w_toMacRowS_L0_B v0 v1 v2 (Option (w_toMacRowS_L0_sh.T ⊕ WT w_toMacRowS_L0_es)) none (fun v' => some (Sum.inl v')) (fun w => some (Sum.inr w)) = _
  unfold w_toMacRowS_L0_B w_toMacRowS_L0_f
  exact bifG (by simp only [decide_eq_true_eq]; omega) (bifG (by (try simp only [Nat.ble_eq, Bool.and_eq_true, decide_eq_true_eq]); grind [maxSl, maxStr, toBytes_length, toInts_length, List.length_set, wrap64]) (letT (f := (Stp.elim (fun a' : List MacRow => some (Sum.inl (w_toMacRowS_L0_mk v0 (v1 + 1) a'))) (fun w => some (Sum.inr ((fun p : Empty => nomatch p) w))))) (fun c1 hc1 => bifG (by (try simp only [Nat.ble_eq, Bool.and_eq_true, decide_eq_true_eq]); grind [maxSl, maxStr, toBytes_length, toInts_length, List.length_set, wrap64]) ((by exact congrArg (fun z => some (Sum.inl (w_toMacRowS_L0_mk v0 z (v2.set v1.toNat c1)))) hw)))))
theorem w_toMacRowS_L0_cl (v0 : List MacRow) (v1 : Int) (v2 : List MacRow) (h0 : 0 ≤ v1) (h1 : (v0.length : Int) ≤ 4611686018427387904) (h2 : (v0.length : Int) ≤ (v2.length : Int)) : loopF w_toMacRowS_L0_r.step (w_toMacRowS_L0_fu v0 v1 v2) (w_toMacRowS_L0_mk v0 v1 v2) = some (Stp.elim (fun a => (fun i a => w_toMacRowS_L0_mx0 a) (v1 + 1 * (((Int.toNat ((v0.length : Int) - v1)) : Nat) : Int)) a) (fun p : Empty => nomatch p) (forN (w_toMacRowS_L0_f v0) 1 (Int.toNat ((v0.length : Int) - v1)) v1 v2)) :=
  forN_loop (step := w_toMacRowS_L0_r.step) (mk := fun v1 a => w_toMacRowS_L0_mk v0 v1 a) (f := w_toMacRowS_L0_f v0) (e := (fun i a => w_toMacRowS_L0_mx0 a)) (emb := (fun p : Empty => nomatch p)) (st := 1) (Inv := fun v1 a => (v0.length : Int) ≤ (a.length : Int)) (Int.toNat ((v0.length : Int) - v1)) v1 v2 _ (Nat.lt_succ_self _) h2
    (fun j a hj hv => ⟨w_toMacRowS_L0_st v0 (v1 + 1 * (j : Int)) a (by omega) (by omega) (by omega) hv, by
      intro a' he
      grind [w_toMacRowS_L0_f, letK, Stp.elim, wrap64, List.length_set]⟩)
    (fun a hv => by
      show w_toMacRowS_L0_B v0 (v1 + 1 * (((Int.toNat ((v0.length : Int) - v1)) : Nat) : Int)) a (Option (w_toMacRowS_L0_sh.T ⊕ WT w_toMacRowS_L0_es)) none (fun v' => some (Sum.inl v')) (fun w => some (Sum.inr w)) = _
      unfold w_toMacRowS_L0_B
      exact bifN (by simp only [decide_eq_false_iff_not]; omega) rfl)
theorem w_toMacRowS_L0_nx (v0 : List MacRow) (v1 : Int) (v2 : List MacRow) (h0 : 0 ≤ v1) (h1 : (v0.length : Int) ≤ 4611686018427387904) (h2 : (v0.length : Int) ≤ (v2.length : Int)) : ∀ a', forN (w_toMacRowS_L0_f v0) 1 (Int.toNat ((v0.length : Int) - v1)) v1 v2 = .next a' → (v0.length : Int) ≤ (a'.length : Int) :=
  forN_inv (f := w_toMacRowS_L0_f v0) (st := 1) (Inv := fun v1 a => (v0.length : Int) ≤ (a.length : Int)) (Int.toNat ((v0.length : Int) - v1)) v1 v2 h2
    (fun j a hj hv => by
      intro a' he
      grind [w_toMacRowS_L0_f, letK, Stp.elim, wrap64, List.length_set])
def w_toMacRowS_N (x0 : List MacRow) (γ : Type) (fail : γ) (k : List MacRow → γ) : γ :=
  bif ((((decide (0 ≤ (x0.length : Int))) && (decide ((x0.length : Int) = (x0.length : Int)))) && (decide ((x0.length : Int) * 24 ≤ (maxSl : Int)))) && (decide ((x0.length : Int) ≤ (maxSl : Int)))) then
  optK (loopF w_toMacRowS_L0_r.step (w_toMacRowS_L0_fu x0 0 (List.replicate ((x0.length : Int).toNat) (⟨[], 0⟩ : MacRow))) (w_toMacRowS_L0_mk x0 0 (List.replicate ((x0.length : Int).toNat) (⟨[], 0⟩ : MacRow)))) fail fun w2 =>
    k w2.2.1
  else fail
def w_toMacRowS (x0 : List MacRow) : List MacRow :=
  Stp.elim (fun a3 =>
    a3)
    (fun p : Empty => nomatch p)
    (forN (w_toMacRowS_L0_f x0) 1 (Int.toNat ((x0.length : Int) - 0)) 0 (List.replicate ((x0.length : Int).toNat) (⟨[], 0⟩ : MacRow)))
theorem w_toMacRowS_lk (x0 : List MacRow) : evalFn te (orcOf (P := Tryz.prog) [w_toMacRow_e]) (lorcOf [w_toMacRowS_L0_le]) w_toMacRowS_ann Tryz.f88 (pvs [.sc (.sl .macRow)] (x0, ())) =
  w_toMacRowS_N x0 _ none (fun v => some [(false, [RC.own true .macRow v])]) := by kernel_rfl
theorem w_toMacRowS_p (x0 : List MacRow) (hx0 : x0.length ≤ 140737488355328) (hx0_e : ∀ y ∈ x0, ∀ c ∈ Ty.cells .macRow y, FactC c) (hp : x0.length ≤ 4294967296) (γ : Type) (fail : γ) (k : List MacRow → γ) : w_toMacRowS_N x0 γ fail k = k (w_toMacRowS x0) := by
  unfold w_toMacRowS_N w_toMacRowS
  exact bifG (by (try simp only [Nat.ble_eq, Bool.and_eq_true, decide_eq_true_eq, w_toMacRowS_L0_mx0]); grind [maxSl, maxStr, toBytes_length, toInts_length, List.length_set, wrap64]) (loopX (f := k) (w_toMacRowS_L0_cl x0 0 (List.replicate ((x0.length : Int).toNat) (⟨[], 0⟩ : MacRow)) (by (try simp only [Nat.ble_eq, Bool.and_eq_true, decide_eq_true_eq, w_toMacRowS_L0_mx0]); grind [maxSl, maxStr, toBytes_length, toInts_length, List.length_set, wrap64]) (by (try simp only [Nat.ble_eq, Bool.and_eq_true, decide_eq_true_eq, w_toMacRowS_L0_mx0]); grind [maxSl, maxStr, toBytes_length, toInts_length, List.length_set, wrap64]) (by (try simp only [Nat.ble_eq, Bool.and_eq_true, decide_eq_true_eq, w_toMacRowS_L0_mx0]); grind [maxSl, maxStr, toBytes_length, toInts_length, List.length_set, wrap64])) (fun a3 ha3 => have ia3 := w_toMacRowS_L0_nx x0 0 (List.replicate ((x0.length : Int).toNat) (⟨[], 0⟩ : MacRow)) (by (try simp only [Nat.ble_eq, Bool.and_eq_true, decide_eq_true_eq, w_toMacRowS_L0_mx0]); grind [maxSl, maxStr, toBytes_length, toInts_length, List.length_set, wrap64]) (by (try simp only [Nat.ble_eq, Bool.and_eq_true, decide_eq_true_eq, w_toMacRowS_L0_mx0]); grind [maxSl, maxStr, toBytes_length, toInts_length, List.length_set, wrap64]) (by (try simp only [Nat.ble_eq, Bool.and_eq_true, decide_eq_true_eq, w_toMacRowS_L0_mx0]); grind [maxSl, maxStr, toBytes_length, toInts_length, List.length_set, wrap64]) _ ha3; rfl)
      (fun p : Empty => nomatch p))
theorem w_toMacRowS_c (x0 : List MacRow) (hp : x0.length ≤ 4294967296) : Con Tryz.prog 88 (pvs [.sc (.sl .macRow)] (x0, ())) [rv (.sc (.sl .macRow)) [.o true] (w_toMacRowS x0)] := by
  refine Con.of_facts (enters_of Tryz.func88 rfl (by kernel_rfl)) fun hf => ?_
  replace hf := factAt hf
  exact evalFn_conL teFact mixFact (orcOf_ok _) Tryz.func88 (by kernel_rfl) (bs := [0]) (by kernel_rfl) (by kernel_rfl) (fun w0 mo I0 hmo => ⟨lsem_of_lorc (w_toMacRowS_L0_ls w0 mo I0 hmo) (by kernel_rfl), trivial⟩) ((w_toMacRowS_lk x0).trans (w_toMacRowS_p x0 ((hf 0 0 rfl rfl).len) (fun y hy => (hf 0 0 rfl rfl).elem hy) hp _ _ _))
noncomputable def w_toMacRowS_e : Ent1 Tryz.prog := entP 88 [.sc (.sl .macRow)] (fun x => (decide (x.1.length ≤ 4294967296))) (fun x => (w_toMacRowS x.1)) (fun v => [rv (.sc (.sl .macRow)) [.o true] v]) (fun x hx => w_toMacRowS_c x.1 (of_decide_eq_true hx))


/-- impl.SenderOk -/
def i_SenderOk_N (x0 : Sndr) (γ : Type) (fail : γ) (k : Bool → γ) : γ :=
  letK (α := Bool) (i_WordOk x0.una 32) fun c1 =>
  bif (!c1) then
    k false
  else
  bif (decide (48 < (x0.data.length : Int))) then
    k false
  else
  letK (α := Bool) (i_within x0.sent 0 (x0.data.length : Int)) fun c2 =>
  bif (!c2) then
    k false
  else
  bif x0.finSent then
    bif (!x0.fin) then
      k false
    else
    bif (x0.sent != (x0.data.length : Int)) then
      k false
    else
    bif (!x0.done) then
      k true
    else
    bif x0.fin then
      bif (!x0.finSent) then
        k (x0.data == [])
      else
      k false
    else
    k false
  else
  bif (!x0.done) then
    k true
  else
  bif x0.fin then
    bif (!x0.finSent) then
      k (x0.data == [])
    else
    k false
  else
  k false
def i_SenderOk (x0 : Sndr) : Bool :=
  letK (α := Bool) (i_WordOk x0.una 32) fun c1 =>
  bif (!c1) then
    false
  else
  bif (decide (48 < (x0.data.length : Int))) then
    false
  else
  letK (α := Bool) (i_within x0.sent 0 (x0.data.length : Int)) fun c2 =>
  bif (!c2) then
    false
  else
  bif x0.finSent then
    bif (!x0.fin) then
      false
    else
    bif (x0.sent != (x0.data.length : Int)) then
      false
    else
    bif (!x0.done) then
      true
    else
    bif x0.fin then
      bif (!x0.finSent) then
        (x0.data == [])
      else
      false
    else
    false
  else
  bif (!x0.done) then
    true
  else
  bif x0.fin then
    bif (!x0.finSent) then
      (x0.data == [])
    else
    false
  else
  false
theorem i_SenderOk_lk (x0 : Sndr) : evalFn te (orcOf (P := Tryz.prog) [i_WordOk_e, i_within_e]) lorc0 [] Tryz.f95 (pvs [.st .sndr] (x0, ())) =
  i_SenderOk_N x0 _ none (fun v => some [(false, [RC.c (.bool v)])]) := by kernel_rfl
theorem i_SenderOk_p (x0 : Sndr)   (γ : Type) (fail : γ) (k : Bool → γ) : i_SenderOk_N x0 γ fail k = k (i_SenderOk x0) := by
  unfold i_SenderOk_N i_SenderOk
  exact letT (f := k) (fun c1 hc1 => bifT (f := k) (fun b0 => rfl)
      (fun b0 => bifT (f := k) (fun b1 => rfl)
      (fun b1 => letT (f := k) (fun c2 hc2 => bifT (f := k) (fun b2 => rfl)
      (fun b2 => bifT (f := k) (fun b3 => bifT (f := k) (fun b4 => rfl)
      (fun b4 => bifT (f := k) (fun b5 => rfl)
      (fun b5 => bifT (f := k) (fun b6 => rfl)
      (fun b6 => bifT (f := k) (fun b7 => bifT (f := k) (fun b8 => rfl)
      (fun b8 => rfl))
      (fun b7 => rfl)))))
      (fun b3 => bifT (f := k) (fun b4 => rfl)
      (fun b4 => bifT (f := k) (fun b5 => bifT (f := k) (fun b6 => rfl)
      (fun b6 => rfl))
      (fun b5 => rfl))))))))
theorem i_SenderOk_c (x0 : Sndr)  : Con Tryz.prog 95 (pvs [.st .sndr] (x0, ())) [rv (.sc .bool) [] (i_SenderOk x0)] := by
  exact evalFn_con0 teFact mixFact (orcOf_ok _) Tryz.func95 (by kernel_rfl) ((i_SenderOk_lk x0).trans (i_SenderOk_p x0  _ _ _))
noncomputable def i_SenderOk_e : Ent1 Tryz.prog := entA 95 [.st .sndr] (fun x => (i_SenderOk x.1)) (fun v => [rv (.sc .bool) [] v]) (fun x => i_SenderOk_c x.1)


end Go.Proofs.YtnpmemmhiifbgaaGreat
