/-
  Contracts of functions and plain laws (printed by a program): each theorem says what a function of the program returns; conditions are its hypotheses.
-/
import Derived.Test.YtjioppmfnejlnaaBase
set_option maxRecDepth 4000
set_option linter.unusedVariables false
set_option linter.unusedSimpArgs false
namespace Go.Proofs.Ytjioppmfnejlnaa
open Go Go.RowKit

/-- laws.szIssueS -/
def w_szIssueS_N (x0 : List Issu) (x1 : Int) (γ : Type) (fail : γ) (k : Int → γ) : γ :=
  bif (decide ((IntKind.wrap .i64 (x1 - (x0.length : Int))) < 0)) then
    k (-1)
  else
  k (IntKind.wrap .i64 (x1 - (x0.length : Int)))
def w_szIssueS (x0 : List Issu) (x1 : Int) : Int :=
  bif (decide ((IntKind.wrap .i64 (x1 - (x0.length : Int))) < 0)) then
    (-1)
  else
  (IntKind.wrap .i64 (x1 - (x0.length : Int)))
theorem w_szIssueS_lk (x0 : List Issu) (x1 : Int) : evalFn te (orcOf (P := Try.prog) []) lorc0 [] Try.f26 (pvs [.sc (.sl .issu), .sc (.int .i64)] (x0, x1, ())) =
  w_szIssueS_N x0 x1 _ none (fun v => some [rv (.sc (.int .i64)) [] v]) := by kernel_rfl
theorem w_szIssueS_p (x0 : List Issu) (x1 : Int)   (γ : Type) (fail : γ) (k : Int → γ) : w_szIssueS_N x0 x1 γ fail k = k (w_szIssueS x0 x1) := by
  unfold w_szIssueS_N w_szIssueS
  exact bifT (f := k) (fun b0 => rfl)
      (fun b0 => rfl)
theorem w_szIssueS_c (x0 : List Issu) (x1 : Int)  : Con Try.prog 26 (pvs [.sc (.sl .issu), .sc (.int .i64)] (x0, x1, ())) [rv (.sc (.int .i64)) [] (w_szIssueS x0 x1)] := by
  exact evalFn_con0 teFact mixFact (orcOf_ok _) Try.func26 (by kernel_rfl) ((w_szIssueS_lk x0 x1).trans (w_szIssueS_p x0 x1  _ _ _))
noncomputable def w_szIssueS_e : Ent1 Try.prog := entA 26 [.sc (.sl .issu), .sc (.int .i64)] (fun x => [rv (.sc (.int .i64)) [] (w_szIssueS x.1 x.2.1)]) (fun x => w_szIssueS_c x.1 x.2.1)


/-- spec.HasIssue -/
def s_HasIssue_ann : List (Nat × Keep) := [(0, ⟨[0, 3, 5], [], false⟩)]
def s_HasIssue_L0_sh : Sh := ⟨[(0, false, [.sl .arg .issu]), (3, false, [.ptr 0 0]), (5, false, [.int .i64])], [.box [.int .i64, .int .i64, .int .i64, .int .i64, .int .i64]]⟩
def s_HasIssue_L0_es : List (Ex × Sh) := [(.ret, ⟨[(4, false, [.bool])], []⟩), (.exit 0, ⟨[(4, false, [.undef])], []⟩)]
def s_HasIssue_L0_mk (v0 : List Issu) (v1 : Int) (v2 : Int) (v3 : Int) (v4 : Int) (v5 : Int) (v6 : Int) : s_HasIssue_L0_sh.T := (((v0, ()), (((), ()), ((v1, ()), ()))), ((v2, (v3, (v4, (v5, (v6, ()))))), ()))
def s_HasIssue_L0_mx0 (y0 : Bool) : Sh.T ⟨[(4, false, [.bool])], []⟩ := (((y0, ()), ()), ())
def s_HasIssue_L0_mx1  : Sh.T ⟨[(4, false, [.undef])], []⟩ := ((((), ()), ()), ())
def s_HasIssue_L0_B (v0 : List Issu) (v1 : Int) (v2 : Int) (v3 : Int) (v4 : Int) (v5 : Int) (v6 : Int) (γ : Type) (fail : γ) (next : s_HasIssue_L0_sh.T → γ) (out : WT s_HasIssue_L0_es → γ) : γ :=
  bif (decide (v1 < (v0.length : Int))) then
    bif ((decide (0 ≤ v1)) && (decide (v1 < (v0.length : Int)))) then
    letK (α := Bool) ((((v0.getD v1.toNat (Ty.zero .issu)).tuple.ip == v2) && (((v0.getD v1.toNat (Ty.zero .issu)).tuple.port == v3) && (((v0.getD v1.toNat (Ty.zero .issu)).tuple.my == v4) && true))) && (((v0.getD v1.toNat (Ty.zero .issu)).seq == v5) && (((v0.getD v1.toNat (Ty.zero .issu)).cookie == v6) && true))) fun e1 =>
    bif e1 then
      out (Sum.inl (s_HasIssue_L0_mx0 true))
    else
    next (s_HasIssue_L0_mk v0 (IntKind.wrap .i64 (v1 + 1)) v2 v3 v4 v5 v6)
    else fail
  else
  out (Sum.inr (s_HasIssue_L0_mx1 ))
theorem s_HasIssue_L0_par (v0 : List Issu) (v1 : Int) (v2 : Int) (v3 : Int) (v4 : Int) (v5 : Int) (v6 : Int) (γ : Type) (fail : γ) (next : s_HasIssue_L0_sh.T → γ) (out : WT s_HasIssue_L0_es → γ) : s_HasIssue_L0_B v0 v1 v2 v3 v4 v5 v6 γ fail next out = optK (s_HasIssue_L0_B v0 v1 v2 v3 v4 v5 v6 _ none (fun v' => some (.inl v')) (fun w => some (.inr w))) fail (fun r => Sum.elim next out r) := by
  unfold s_HasIssue_L0_B
  exact bifT (f := (fun o => optK o fail (fun r => Sum.elim next out r))) (fun _ => bifT (f := (fun o => optK o fail (fun r => Sum.elim next out r))) (fun _ => letT (f := (fun o => optK o fail (fun r => Sum.elim next out r))) (fun e1 _ => bifT (f := (fun o => optK o fail (fun r => Sum.elim next out r))) (fun _ => rfl)
      (fun _ => rfl))) (fun _ => rfl))
      (fun _ => rfl)
def s_HasIssue_L0_r : Round s_HasIssue_L0_sh.T (WT s_HasIssue_L0_es) where
  B v γ fail next out := s_HasIssue_L0_B v.1.1.1 v.1.2.2.1.1 v.2.1.1 v.2.1.2.1 v.2.1.2.2.1 v.2.1.2.2.2.1 v.2.1.2.2.2.2.1 γ fail next out
  par v γ fail next out := s_HasIssue_L0_par v.1.1.1 v.1.2.2.1.1 v.2.1.1 v.2.1.2.1 v.2.1.2.2.1 v.2.1.2.2.2.1 v.2.1.2.2.2.2.1 γ fail next out
def s_HasIssue_L0_fu (v0 : List Issu) (v1 : Int) (v2 : Int) (v3 : Int) (v4 : Int) (v5 : Int) (v6 : Int) : Nat := (Int.toNat ((v0.length : Int) - v1)) + 1
theorem s_HasIssue_L0_lk (v : s_HasIssue_L0_sh.T) (next : St → Option Res) (k : Ex → St → Option Res) : evalK te (orcOf (P := Try.prog) []) (lorcOf []) Try.f27.ntmps s_HasIssue_ann (nthLoop (bodyOf Try.f27) 0 0) 0 (s_HasIssue_L0_sh.enc v) (endK ⟨[0, 3, 5], [], false⟩ ⟨[4], [], false⟩ next k) =
  s_HasIssue_L0_r.B v _ none (fun v' => next (s_HasIssue_L0_sh.enc v')) (fun w => outK s_HasIssue_L0_es k w) := by kernel_rfl
def s_HasIssue_L0_le : LE := leOf 0 s_HasIssue_L0_sh s_HasIssue_L0_es s_HasIssue_L0_r.step (fun v => s_HasIssue_L0_fu v.1.1.1 v.1.2.2.1.1 v.2.1.1 v.2.1.2.1 v.2.1.2.2.1 v.2.1.2.2.2.1 v.2.1.2.2.2.2.1)
theorem s_HasIssue_L0_ls (w0 : World) (I0 : Nat → Prop) : LSem Try.prog (Sim w0 Try.f27.ntmps I0) (fun b s k => match Nat.beq 0 b with | true => s_HasIssue_L0_le.run s k | false => none) 0 (nthLoop (bodyOf Try.f27) 0 0) :=
  le_sem (lorc := lorcOf []) (ann := s_HasIssue_ann) (keep := ⟨[0, 3, 5], [], false⟩) (kout := ⟨[4], [], false⟩) teFact mixFact (orcOf_ok _) (allLoops_of (bs := []) (by kernel_rfl) trivial) s_HasIssue_L0_r _ s_HasIssue_L0_lk
def s_HasIssue_L0_f (v0 : List Issu) (v2 : Int) (v3 : Int) (v4 : Int) (v5 : Int) (v6 : Int) (v1 : Int) (a : Unit) : Stp (Unit) ((Unit)) :=
  letK (α := Bool) ((((v0.getD v1.toNat (Ty.zero .issu)).tuple.ip == v2) && (((v0.getD v1.toNat (Ty.zero .issu)).tuple.port == v3) && (((v0.getD v1.toNat (Ty.zero .issu)).tuple.my == v4) && true))) && (((v0.getD v1.toNat (Ty.zero .issu)).seq == v5) && (((v0.getD v1.toNat (Ty.zero .issu)).cookie == v6) && true))) fun e1 =>
  bif e1 then
    .out (())
  else
  .next ()
theorem s_HasIssue_L0_st (v0 : List Issu) (v1 : Int) (v2 : Int) (v3 : Int) (v4 : Int) (v5 : Int) (v6 : Int) (hlo : 0 ≤ v1) (hhi : v1 < (v0.length : Int)) (hN : (v0.length : Int) ≤ 4611686018427387904) : s_HasIssue_L0_r.step (s_HasIssue_L0_mk v0 v1 v2 v3 v4 v5 v6) = Stp.elim (fun a' : Unit => some (Sum.inl (s_HasIssue_L0_mk v0 (v1 + 1) v2 v3 v4 v5 v6))) (fun w => some (Sum.inr ((fun p => Sum.inl (s_HasIssue_L0_mx0 true)) w))) (s_HasIssue_L0_f v0 v2 v3 v4 v5 v6 v1 ()) := by
  have hw : (IntKind.wrap .i64 (v1 + 1)) = v1 + 1 := wrap64 (by omega) (by omega)
  show s_HasIssue_L0_B v0 v1 v2 v3 v4 v5 v6 (Option (s_HasIssue_L0_sh.T ⊕ WT s_HasIssue_L0_es)) none (fun v' => some (Sum.inl v')) (fun w => some (Sum.inr w)) = _
  unfold s_HasIssue_L0_B s_HasIssue_L0_f
  exact bifG (by simp only [decide_eq_true_eq]; omega) (bifG (by (try simp only [Nat.ble_eq, Bool.and_eq_true, decide_eq_true_eq]); grind [maxSl, maxStr]) (letT (f := (Stp.elim (fun a' : Unit => some (Sum.inl (s_HasIssue_L0_mk v0 (v1 + 1) v2 v3 v4 v5 v6))) (fun w => some (Sum.inr ((fun p => Sum.inl (s_HasIssue_L0_mx0 true)) w))))) (fun e1 he1 => bifT (f := (Stp.elim (fun a' : Unit => some (Sum.inl (s_HasIssue_L0_mk v0 (v1 + 1) v2 v3 v4 v5 v6))) (fun w => some (Sum.inr ((fun p => Sum.inl (s_HasIssue_L0_mx0 true)) w))))) (fun b0 => rfl)
      (fun b0 => congrArg (fun z => some (Sum.inl (s_HasIssue_L0_mk v0 z v2 v3 v4 v5 v6))) hw))))
theorem s_HasIssue_L0_cl (v0 : List Issu) (v1 : Int) (v2 : Int) (v3 : Int) (v4 : Int) (v5 : Int) (v6 : Int) (h0 : 0 ≤ v1) (h1 : (v0.length : Int) ≤ 4611686018427387904) : loopF s_HasIssue_L0_r.step (s_HasIssue_L0_fu v0 v1 v2 v3 v4 v5 v6) (s_HasIssue_L0_mk v0 v1 v2 v3 v4 v5 v6) = some (Stp.elim (fun a => (fun i a => Sum.inr (s_HasIssue_L0_mx1 )) (v1 + 1 * (((Int.toNat ((v0.length : Int) - v1)) : Nat) : Int)) a) (fun p => Sum.inl (s_HasIssue_L0_mx0 true)) (forN (s_HasIssue_L0_f v0 v2 v3 v4 v5 v6) 1 (Int.toNat ((v0.length : Int) - v1)) v1 ())) :=
  forN_loop (step := s_HasIssue_L0_r.step) (mk := fun v1 a => s_HasIssue_L0_mk v0 v1 v2 v3 v4 v5 v6) (f := s_HasIssue_L0_f v0 v2 v3 v4 v5 v6) (e := (fun i a => Sum.inr (s_HasIssue_L0_mx1 ))) (emb := (fun p => Sum.inl (s_HasIssue_L0_mx0 true))) (st := 1) (Inv := fun v1 a => True) (Int.toNat ((v0.length : Int) - v1)) v1 () _ (Nat.lt_succ_self _) trivial
    (fun j a hj hv => ⟨s_HasIssue_L0_st v0 (v1 + 1 * (j : Int)) v2 v3 v4 v5 v6 (by omega) (by omega) (by omega), fun _ _ => trivial⟩)
    (fun a hv => by
      show s_HasIssue_L0_B v0 (v1 + 1 * (((Int.toNat ((v0.length : Int) - v1)) : Nat) : Int)) v2 v3 v4 v5 v6 (Option (s_HasIssue_L0_sh.T ⊕ WT s_HasIssue_L0_es)) none (fun v' => some (Sum.inl v')) (fun w => some (Sum.inr w)) = _
      unfold s_HasIssue_L0_B
      exact bifN (by simp only [decide_eq_false_iff_not]; omega) rfl)
def s_HasIssue_N (x0 : List Issu) (x1 : Issu) (γ : Type) (fail : γ) (k : Bool → γ) : γ :=
  optK (loopF s_HasIssue_L0_r.step (s_HasIssue_L0_fu x0 0 x1.tuple.ip x1.tuple.port x1.tuple.my x1.seq x1.cookie) (s_HasIssue_L0_mk x0 0 x1.tuple.ip x1.tuple.port x1.tuple.my x1.seq x1.cookie)) fail fun w2 =>
    Sum.elim (fun w2 =>
      k w2.1.1.1)
    (fun w2 =>
      k false) w2
def s_HasIssue (x0 : List Issu) (x1 : Issu) : Bool :=
  Stp.elim (fun a3 =>
    false)
    (fun p3 =>
      true)
    (forN (s_HasIssue_L0_f x0 x1.tuple.ip x1.tuple.port x1.tuple.my x1.seq x1.cookie) 1 (Int.toNat ((x0.length : Int) - 0)) 0 ())
theorem s_HasIssue_lk (x0 : List Issu) (x1 : Issu) : evalFn te (orcOf (P := Try.prog) []) (lorcOf [s_HasIssue_L0_le]) s_HasIssue_ann Try.f27 (pvs [.sc (.sl .issu), .st .issu] (x0, x1, ())) =
  s_HasIssue_N x0 x1 _ none (fun v => some [rv (.sc .bool) [] v]) := by kernel_rfl
theorem s_HasIssue_p (x0 : List Issu) (x1 : Issu) (hx0 : x0.length ≤ 140737488355328) (hx1_tuple_ip : inK .i64 x1.tuple.ip) (hx1_tuple_port : inK .i64 x1.tuple.port) (hx1_tuple_my : inK .i64 x1.tuple.my) (hx1_seq : inK .i64 x1.seq) (hx1_cookie : inK .i64 x1.cookie)  (γ : Type) (fail : γ) (k : Bool → γ) : s_HasIssue_N x0 x1 γ fail k = k (s_HasIssue x0 x1) := by
  unfold s_HasIssue_N s_HasIssue
  exact loopT (f := k) (s_HasIssue_L0_cl x0 0 x1.tuple.ip x1.tuple.port x1.tuple.my x1.seq x1.cookie (by (try simp only [Nat.ble_eq, Bool.and_eq_true, decide_eq_true_eq]); grind [maxSl, maxStr]) (by (try simp only [Nat.ble_eq, Bool.and_eq_true, decide_eq_true_eq]); grind [maxSl, maxStr])) (fun a3 => rfl)
      (fun p3 => rfl)
theorem s_HasIssue_c (x0 : List Issu) (x1 : Issu)  : Con Try.prog 27 (pvs [.sc (.sl .issu), .st .issu] (x0, x1, ())) [rv (.sc .bool) [] (s_HasIssue x0 x1)] := by
  refine Con.of_facts (enters_of Try.func27 rfl (by kernel_rfl)) fun hf => ?_
  replace hf := factAt hf
  exact evalFn_conL teFact mixFact (orcOf_ok _) Try.func27 (by kernel_rfl) (bs := [0]) (by kernel_rfl) (fun w0 I0 => ⟨lsem_of_lorc (s_HasIssue_L0_ls w0 I0) (by kernel_rfl), trivial⟩) ((s_HasIssue_lk x0 x1).trans (s_HasIssue_p x0 x1 ((hf 0 0 rfl rfl).len) ((hf 1 0 rfl rfl).rng) ((hf 1 1 rfl rfl).rng) ((hf 1 2 rfl rfl).rng) ((hf 1 3 rfl rfl).rng) ((hf 1 4 rfl rfl).rng) _ _ _))
noncomputable def s_HasIssue_e : Ent1 Try.prog := entA 27 [.sc (.sl .issu), .st .issu] (fun x => [rv (.sc .bool) [] (s_HasIssue x.1 x.2.1)]) (fun x => s_HasIssue_c x.1 x.2.1)


/-- laws.toOptions -/
def w_toOptions_N (x0 : Opti) (γ : Type) (fail : γ) (k : Opti → γ) : γ :=
  k x0
def w_toOptions (x0 : Opti) : Opti :=
  x0
theorem w_toOptions_lk (x0 : Opti) : evalFn te (orcOf (P := Try.prog) []) lorc0 [] Try.f33 (pvs [.st .opti] (x0, ())) =
  w_toOptions_N x0 _ none (fun v => some [rv (.st .opti) [] v]) := by kernel_rfl
theorem w_toOptions_p (x0 : Opti)   (γ : Type) (fail : γ) (k : Opti → γ) : w_toOptions_N x0 γ fail k = k (w_toOptions x0) := by
  unfold w_toOptions_N w_toOptions
  exact rfl
theorem w_toOptions_c (x0 : Opti)  : Con Try.prog 33 (pvs [.st .opti] (x0, ())) [rv (.st .opti) [] (w_toOptions x0)] := by
  exact evalFn_con0 teFact mixFact (orcOf_ok _) Try.func33 (by kernel_rfl) ((w_toOptions_lk x0).trans (w_toOptions_p x0  _ _ _))
noncomputable def w_toOptions_e : Ent1 Try.prog := entA 33 [.st .opti] (fun x => [rv (.st .opti) [] (w_toOptions x.1)]) (fun x => w_toOptions_c x.1)


/-- laws.eqOptions -/
def w_eqOptions_N (x0 : Opti) (x1 : Opti) (γ : Type) (fail : γ) (k : Bool → γ) : γ :=
  bif (x0.mss != x1.mss) then
    k false
  else
  bif (x0.scale != x1.scale) then
    k false
  else
  bif (!(x0.sack == x1.sack)) then
    k false
  else
  bif (!(x0.stamp == x1.stamp)) then
    k false
  else
  bif (x0.val != x1.val) then
    k false
  else
  bif (x0.echo != x1.echo) then
    k false
  else
  k true
def w_eqOptions (x0 : Opti) (x1 : Opti) : Bool :=
  bif (x0.mss != x1.mss) then
    false
  else
  bif (x0.scale != x1.scale) then
    false
  else
  bif (!(x0.sack == x1.sack)) then
    false
  else
  bif (!(x0.stamp == x1.stamp)) then
    false
  else
  bif (x0.val != x1.val) then
    false
  else
  bif (x0.echo != x1.echo) then
    false
  else
  true
theorem w_eqOptions_lk (x0 : Opti) (x1 : Opti) : evalFn te (orcOf (P := Try.prog) []) lorc0 [] Try.f35 (pvs [.st .opti, .st .opti] (x0, x1, ())) =
  w_eqOptions_N x0 x1 _ none (fun v => some [rv (.sc .bool) [] v]) := by kernel_rfl
theorem w_eqOptions_p (x0 : Opti) (x1 : Opti)   (γ : Type) (fail : γ) (k : Bool → γ) : w_eqOptions_N x0 x1 γ fail k = k (w_eqOptions x0 x1) := by
  unfold w_eqOptions_N w_eqOptions
  exact bifT (f := k) (fun b0 => rfl)
      (fun b0 => bifT (f := k) (fun b1 => rfl)
      (fun b1 => bifT (f := k) (fun b2 => rfl)
      (fun b2 => bifT (f := k) (fun b3 => rfl)
      (fun b3 => bifT (f := k) (fun b4 => rfl)
      (fun b4 => bifT (f := k) (fun b5 => rfl)
      (fun b5 => rfl))))))
theorem w_eqOptions_c (x0 : Opti) (x1 : Opti)  : Con Try.prog 35 (pvs [.st .opti, .st .opti] (x0, x1, ())) [rv (.sc .bool) [] (w_eqOptions x0 x1)] := by
  exact evalFn_con0 teFact mixFact (orcOf_ok _) Try.func35 (by kernel_rfl) ((w_eqOptions_lk x0 x1).trans (w_eqOptions_p x0 x1  _ _ _))
noncomputable def w_eqOptions_e : Ent1 Try.prog := entA 35 [.st .opti, .st .opti] (fun x => [rv (.sc .bool) [] (w_eqOptions x.1 x.2.1)]) (fun x => w_eqOptions_c x.1 x.2.1)


/-- spec.SameResult -/
def s_SameResult_ann : List (Nat × Keep) := [(0, ⟨[2, 3, 5], [], false⟩)]
def s_SameResult_L0_sh : Sh := ⟨[(2, false, [.ptr 0 0]), (3, false, [.ptr 1 0]), (5, false, [.int .i64])], [.box [.sl .arg .str, .int .i64, .int .i64, .int .i64, .int .i64, .int .i64, .str, .bool], .box [.sl .arg .str, .int .i64, .int .i64, .int .i64, .int .i64, .int .i64, .str, .bool]]⟩
def s_SameResult_L0_es : List (Ex × Sh) := [(.ret, ⟨[(2, false, [.ptr 0 0]), (3, false, [.ptr 1 0]), (4, false, [.bool])], [.box [.sl .arg .str, .int .i64, .int .i64, .int .i64, .int .i64, .int .i64, .str, .bool], .box [.sl .arg .str, .int .i64, .int .i64, .int .i64, .int .i64, .int .i64, .str, .bool]]⟩), (.exit 0, ⟨[(2, false, [.ptr 0 0]), (3, false, [.ptr 1 0]), (4, false, [.undef])], [.box [.sl .arg .str, .int .i64, .int .i64, .int .i64, .int .i64, .int .i64, .str, .bool], .box [.sl .arg .str, .int .i64, .int .i64, .int .i64, .int .i64, .int .i64, .str, .bool]]⟩)]
def s_SameResult_L0_mk (v0 : Int) (v1 : List Bytes) (v2 : Int) (v3 : Int) (v4 : Int) (v5 : Int) (v6 : Int) (v7 : Bytes) (v8 : Bool) (v9 : List Bytes) (v10 : Int) (v11 : Int) (v12 : Int) (v13 : Int) (v14 : Int) (v15 : Bytes) (v16 : Bool) : s_SameResult_L0_sh.T := ((((), ()), (((), ()), ((v0, ()), ()))), ((v1, (v2, (v3, (v4, (v5, (v6, (v7, (v8, ())))))))), ((v9, (v10, (v11, (v12, (v13, (v14, (v15, (v16, ())))))))), ())))
def s_SameResult_L0_mx0 (y0 : Bool) (y1 : List Bytes) (y2 : Int) (y3 : Int) (y4 : Int) (y5 : Int) (y6 : Int) (y7 : Bytes) (y8 : Bool) (y9 : List Bytes) (y10 : Int) (y11 : Int) (y12 : Int) (y13 : Int) (y14 : Int) (y15 : Bytes) (y16 : Bool) : Sh.T ⟨[(2, false, [.ptr 0 0]), (3, false, [.ptr 1 0]), (4, false, [.bool])], [.box [.sl .arg .str, .int .i64, .int .i64, .int .i64, .int .i64, .int .i64, .str, .bool], .box [.sl .arg .str, .int .i64, .int .i64, .int .i64, .int .i64, .int .i64, .str, .bool]]⟩ := ((((), ()), (((), ()), ((y0, ()), ()))), ((y1, (y2, (y3, (y4, (y5, (y6, (y7, (y8, ())))))))), ((y9, (y10, (y11, (y12, (y13, (y14, (y15, (y16, ())))))))), ())))
def s_SameResult_L0_mx1 (y0 : List Bytes) (y1 : Int) (y2 : Int) (y3 : Int) (y4 : Int) (y5 : Int) (y6 : Bytes) (y7 : Bool) (y8 : List Bytes) (y9 : Int) (y10 : Int) (y11 : Int) (y12 : Int) (y13 : Int) (y14 : Bytes) (y15 : Bool) : Sh.T ⟨[(2, false, [.ptr 0 0]), (3, false, [.ptr 1 0]), (4, false, [.undef])], [.box [.sl .arg .str, .int .i64, .int .i64, .int .i64, .int .i64, .int .i64, .str, .bool], .box [.sl .arg .str, .int .i64, .int .i64, .int .i64, .int .i64, .int .i64, .str, .bool]]⟩ := ((((), ()), (((), ()), (((), ()), ()))), ((y0, (y1, (y2, (y3, (y4, (y5, (y6, (y7, ())))))))), ((y8, (y9, (y10, (y11, (y12, (y13, (y14, (y15, ())))))))), ())))
def s_SameResult_L0_B (v0 : Int) (v1 : List Bytes) (v2 : Int) (v3 : Int) (v4 : Int) (v5 : Int) (v6 : Int) (v7 : Bytes) (v8 : Bool) (v9 : List Bytes) (v10 : Int) (v11 : Int) (v12 : Int) (v13 : Int) (v14 : Int) (v15 : Bytes) (v16 : Bool) (γ : Type) (fail : γ) (next : s_SameResult_L0_sh.T → γ) (out : WT s_SameResult_L0_es → γ) : γ :=
  bif (decide (v0 < (v1.length : Int))) then
    bif ((decide (0 ≤ v0)) && (decide (v0 < (v1.length : Int)))) then
    bif ((decide (0 ≤ v0)) && (decide (v0 < (v9.length : Int)))) then
    bif (!((v1.getD v0.toNat []) == (v9.getD v0.toNat []))) then
      out (Sum.inl (s_SameResult_L0_mx0 false v1 v2 v3 v4 v5 v6 v7 v8 v9 v10 v11 v12 v13 v14 v15 v16))
    else
    next (s_SameResult_L0_mk (IntKind.wrap .i64 (v0 + 1)) v1 v2 v3 v4 v5 v6 v7 v8 v9 v10 v11 v12 v13 v14 v15 v16)
    else fail
    else fail
  else
  out (Sum.inr (s_SameResult_L0_mx1 v1 v2 v3 v4 v5 v6 v7 v8 v9 v10 v11 v12 v13 v14 v15 v16))
theorem s_SameResult_L0_par (v0 : Int) (v1 : List Bytes) (v2 : Int) (v3 : Int) (v4 : Int) (v5 : Int) (v6 : Int) (v7 : Bytes) (v8 : Bool) (v9 : List Bytes) (v10 : Int) (v11 : Int) (v12 : Int) (v13 : Int) (v14 : Int) (v15 : Bytes) (v16 : Bool) (γ : Type) (fail : γ) (next : s_SameResult_L0_sh.T → γ) (out : WT s_SameResult_L0_es → γ) : s_SameResult_L0_B v0 v1 v2 v3 v4 v5 v6 v7 v8 v9 v10 v11 v12 v13 v14 v15 v16 γ fail next out = optK (s_SameResult_L0_B v0 v1 v2 v3 v4 v5 v6 v7 v8 v9 v10 v11 v12 v13 v14 v15 v16 _ none (fun v' => some (.inl v')) (fun w => some (.inr w))) fail (fun r => Sum.elim next out r) := by
  unfold s_SameResult_L0_B
  exact bifT (f := (fun o => optK o fail (fun r => Sum.elim next out r))) (fun _ => bifT (f := (fun o => optK o fail (fun r => Sum.elim next out r))) (fun _ => bifT (f := (fun o => optK o fail (fun r => Sum.elim next out r))) (fun _ => bifT (f := (fun o => optK o fail (fun r => Sum.elim next out r))) (fun _ => rfl)
      (fun _ => rfl)) (fun _ => rfl)) (fun _ => rfl))
      (fun _ => rfl)
def s_SameResult_L0_r : Round s_SameResult_L0_sh.T (WT s_SameResult_L0_es) where
  B v γ fail next out := s_SameResult_L0_B v.1.2.2.1.1 v.2.1.1 v.2.1.2.1 v.2.1.2.2.1 v.2.1.2.2.2.1 v.2.1.2.2.2.2.1 v.2.1.2.2.2.2.2.1 v.2.1.2.2.2.2.2.2.1 v.2.1.2.2.2.2.2.2.2.1 v.2.2.1.1 v.2.2.1.2.1 v.2.2.1.2.2.1 v.2.2.1.2.2.2.1 v.2.2.1.2.2.2.2.1 v.2.2.1.2.2.2.2.2.1 v.2.2.1.2.2.2.2.2.2.1 v.2.2.1.2.2.2.2.2.2.2.1 γ fail next out
  par v γ fail next out := s_SameResult_L0_par v.1.2.2.1.1 v.2.1.1 v.2.1.2.1 v.2.1.2.2.1 v.2.1.2.2.2.1 v.2.1.2.2.2.2.1 v.2.1.2.2.2.2.2.1 v.2.1.2.2.2.2.2.2.1 v.2.1.2.2.2.2.2.2.2.1 v.2.2.1.1 v.2.2.1.2.1 v.2.2.1.2.2.1 v.2.2.1.2.2.2.1 v.2.2.1.2.2.2.2.1 v.2.2.1.2.2.2.2.2.1 v.2.2.1.2.2.2.2.2.2.1 v.2.2.1.2.2.2.2.2.2.2.1 γ fail next out
def s_SameResult_L0_fu (v0 : Int) (v1 : List Bytes) (v2 : Int) (v3 : Int) (v4 : Int) (v5 : Int) (v6 : Int) (v7 : Bytes) (v8 : Bool) (v9 : List Bytes) (v10 : Int) (v11 : Int) (v12 : Int) (v13 : Int) (v14 : Int) (v15 : Bytes) (v16 : Bool) : Nat := (Int.toNat ((v1.length : Int) - v0)) + 1
theorem s_SameResult_L0_lk (v : s_SameResult_L0_sh.T) (next : St → Option Res) (k : Ex → St → Option Res) : evalK te (orcOf (P := Try.prog) []) (lorcOf []) Try.f37.ntmps s_SameResult_ann (nthLoop (bodyOf Try.f37) 0 0) 0 (s_SameResult_L0_sh.enc v) (endK ⟨[2, 3, 5], [], false⟩ ⟨[2, 3, 4], [], false⟩ next k) =
  s_SameResult_L0_r.B v _ none (fun v' => next (s_SameResult_L0_sh.enc v')) (fun w => outK s_SameResult_L0_es k w) := by kernel_rfl
def s_SameResult_L0_le : LE := leOf 0 s_SameResult_L0_sh s_SameResult_L0_es s_SameResult_L0_r.step (fun v => s_SameResult_L0_fu v.1.2.2.1.1 v.2.1.1 v.2.1.2.1 v.2.1.2.2.1 v.2.1.2.2.2.1 v.2.1.2.2.2.2.1 v.2.1.2.2.2.2.2.1 v.2.1.2.2.2.2.2.2.1 v.2.1.2.2.2.2.2.2.2.1 v.2.2.1.1 v.2.2.1.2.1 v.2.2.1.2.2.1 v.2.2.1.2.2.2.1 v.2.2.1.2.2.2.2.1 v.2.2.1.2.2.2.2.2.1 v.2.2.1.2.2.2.2.2.2.1 v.2.2.1.2.2.2.2.2.2.2.1)
theorem s_SameResult_L0_ls (w0 : World) (I0 : Nat → Prop) : LSem Try.prog (Sim w0 Try.f37.ntmps I0) (fun b s k => match Nat.beq 0 b with | true => s_SameResult_L0_le.run s k | false => none) 0 (nthLoop (bodyOf Try.f37) 0 0) :=
  le_sem (lorc := lorcOf []) (ann := s_SameResult_ann) (keep := ⟨[2, 3, 5], [], false⟩) (kout := ⟨[2, 3, 4], [], false⟩) teFact mixFact (orcOf_ok _) (allLoops_of (bs := []) (by kernel_rfl) trivial) s_SameResult_L0_r _ s_SameResult_L0_lk
def s_SameResult_L0_f (v1 : List Bytes) (v2 : Int) (v3 : Int) (v4 : Int) (v5 : Int) (v6 : Int) (v7 : Bytes) (v8 : Bool) (v9 : List Bytes) (v10 : Int) (v11 : Int) (v12 : Int) (v13 : Int) (v14 : Int) (v15 : Bytes) (v16 : Bool) (v0 : Int) (a : Unit) : Stp (Unit) ((Unit)) :=
  bif (!((v1.getD v0.toNat []) == (v9.getD v0.toNat []))) then
    .out (())
  else
  .next ()
theorem s_SameResult_L0_st (v0 : Int) (v1 : List Bytes) (v2 : Int) (v3 : Int) (v4 : Int) (v5 : Int) (v6 : Int) (v7 : Bytes) (v8 : Bool) (v9 : List Bytes) (v10 : Int) (v11 : Int) (v12 : Int) (v13 : Int) (v14 : Int) (v15 : Bytes) (v16 : Bool) (hlo : 0 ≤ v0) (hhi : v0 < (v1.length : Int)) (hN : (v1.length : Int) ≤ 4611686018427387904) (hi0 : (v1.length : Int) ≤ (v9.length : Int)) : s_SameResult_L0_r.step (s_SameResult_L0_mk v0 v1 v2 v3 v4 v5 v6 v7 v8 v9 v10 v11 v12 v13 v14 v15 v16) = Stp.elim (fun a' : Unit => some (Sum.inl (s_SameResult_L0_mk (v0 + 1) v1 v2 v3 v4 v5 v6 v7 v8 v9 v10 v11 v12 v13 v14 v15 v16))) (fun w => some (Sum.inr ((fun p => Sum.inl (s_SameResult_L0_mx0 false v1 v2 v3 v4 v5 v6 v7 v8 v9 v10 v11 v12 v13 v14 v15 v16)) w))) (s_SameResult_L0_f v1 v2 v3 v4 v5 v6 v7 v8 v9 v10 v11 v12 v13 v14 v15 v16 v0 ()) := by
  have hw : (IntKind.wrap .i64 (v0 + 1)) = v0 + 1 := wrap64 (by omega) (by omega)
  show s_SameResult_L0_B v0 v1 v2 v3 v4 v5 v6 v7 v8 v9 v10 v11 v12 v13 v14 v15 v16 (Option (s_SameResult_L0_sh.T ⊕ WT s_SameResult_L0_es)) none (fun v' => some (Sum.inl v')) (fun w => some (Sum.inr w)) = _
  unfold s_SameResult_L0_B s_SameResult_L0_f
  exact bifG (by simp only [decide_eq_true_eq]; omega) (bifG (by (try simp only [Nat.ble_eq, Bool.and_eq_true, decide_eq_true_eq]); grind [maxSl, maxStr]) (bifG (by (try simp only [Nat.ble_eq, Bool.and_eq_true, decide_eq_true_eq]); grind [maxSl, maxStr]) (bifT (f := (Stp.elim (fun a' : Unit => some (Sum.inl (s_SameResult_L0_mk (v0 + 1) v1 v2 v3 v4 v5 v6 v7 v8 v9 v10 v11 v12 v13 v14 v15 v16))) (fun w => some (Sum.inr ((fun p => Sum.inl (s_SameResult_L0_mx0 false v1 v2 v3 v4 v5 v6 v7 v8 v9 v10 v11 v12 v13 v14 v15 v16)) w))))) (fun b0 => rfl)
      (fun b0 => congrArg (fun z => some (Sum.inl (s_SameResult_L0_mk z v1 v2 v3 v4 v5 v6 v7 v8 v9 v10 v11 v12 v13 v14 v15 v16))) hw))))
theorem s_SameResult_L0_cl (v0 : Int) (v1 : List Bytes) (v2 : Int) (v3 : Int) (v4 : Int) (v5 : Int) (v6 : Int) (v7 : Bytes) (v8 : Bool) (v9 : List Bytes) (v10 : Int) (v11 : Int) (v12 : Int) (v13 : Int) (v14 : Int) (v15 : Bytes) (v16 : Bool) (h0 : 0 ≤ v0) (h1 : (v1.length : Int) ≤ 4611686018427387904) (h2 : (v1.length : Int) ≤ (v9.length : Int)) : loopF s_SameResult_L0_r.step (s_SameResult_L0_fu v0 v1 v2 v3 v4 v5 v6 v7 v8 v9 v10 v11 v12 v13 v14 v15 v16) (s_SameResult_L0_mk v0 v1 v2 v3 v4 v5 v6 v7 v8 v9 v10 v11 v12 v13 v14 v15 v16) = some (Stp.elim (fun a => (fun i a => Sum.inr (s_SameResult_L0_mx1 v1 v2 v3 v4 v5 v6 v7 v8 v9 v10 v11 v12 v13 v14 v15 v16)) (v0 + 1 * (((Int.toNat ((v1.length : Int) - v0)) : Nat) : Int)) a) (fun p => Sum.inl (s_SameResult_L0_mx0 false v1 v2 v3 v4 v5 v6 v7 v8 v9 v10 v11 v12 v13 v14 v15 v16)) (forN (s_SameResult_L0_f v1 v2 v3 v4 v5 v6 v7 v8 v9 v10 v11 v12 v13 v14 v15 v16) 1 (Int.toNat ((v1.length : Int) - v0)) v0 ())) :=
  forN_loop (step := s_SameResult_L0_r.step) (mk := fun v0 a => s_SameResult_L0_mk v0 v1 v2 v3 v4 v5 v6 v7 v8 v9 v10 v11 v12 v13 v14 v15 v16) (f := s_SameResult_L0_f v1 v2 v3 v4 v5 v6 v7 v8 v9 v10 v11 v12 v13 v14 v15 v16) (e := (fun i a => Sum.inr (s_SameResult_L0_mx1 v1 v2 v3 v4 v5 v6 v7 v8 v9 v10 v11 v12 v13 v14 v15 v16))) (emb := (fun p => Sum.inl (s_SameResult_L0_mx0 false v1 v2 v3 v4 v5 v6 v7 v8 v9 v10 v11 v12 v13 v14 v15 v16))) (st := 1) (Inv := fun v0 a => True) (Int.toNat ((v1.length : Int) - v0)) v0 () _ (Nat.lt_succ_self _) trivial
    (fun j a hj hv => ⟨s_SameResult_L0_st (v0 + 1 * (j : Int)) v1 v2 v3 v4 v5 v6 v7 v8 v9 v10 v11 v12 v13 v14 v15 v16 (by omega) (by omega) (by omega) h2, fun _ _ => trivial⟩)
    (fun a hv => by
      show s_SameResult_L0_B (v0 + 1 * (((Int.toNat ((v1.length : Int) - v0)) : Nat) : Int)) v1 v2 v3 v4 v5 v6 v7 v8 v9 v10 v11 v12 v13 v14 v15 v16 (Option (s_SameResult_L0_sh.T ⊕ WT s_SameResult_L0_es)) none (fun v' => some (Sum.inl v')) (fun w => some (Sum.inr w)) = _
      unfold s_SameResult_L0_B
      exact bifN (by simp only [decide_eq_false_iff_not]; omega) rfl)
def s_SameResult_N (x0 : Resu) (x1 : Resu) (γ : Type) (fail : γ) (k : Bool → γ) : γ :=
  bif ((x0.frames.length : Int) != (x1.frames.length : Int)) then
    k false
  else
  optK (loopF s_SameResult_L0_r.step (s_SameResult_L0_fu 0 x0.frames x0.made x0.tuple.ip x0.tuple.port x0.tuple.my x0.n x0.text x0.ok x1.frames x1.made x1.tuple.ip x1.tuple.port x1.tuple.my x1.n x1.text x1.ok) (s_SameResult_L0_mk 0 x0.frames x0.made x0.tuple.ip x0.tuple.port x0.tuple.my x0.n x0.text x0.ok x1.frames x1.made x1.tuple.ip x1.tuple.port x1.tuple.my x1.n x1.text x1.ok)) fail fun w1 =>
    Sum.elim (fun w1 =>
      k w1.1.2.2.1.1)
    (fun w1 =>
      bif (w1.2.1.2.1 == w1.2.2.1.2.1) then
        letK (α := Bool) ((w1.2.1.2.2.1 == w1.2.2.1.2.2.1) && ((w1.2.1.2.2.2.1 == w1.2.2.1.2.2.2.1) && ((w1.2.1.2.2.2.2.1 == w1.2.2.1.2.2.2.2.1) && true))) fun e2 =>
        bif e2 then
          bif (w1.2.1.2.2.2.2.2.1 == w1.2.2.1.2.2.2.2.2.1) then
            bif (w1.2.1.2.2.2.2.2.2.1 == w1.2.2.1.2.2.2.2.2.2.1) then
              k (w1.2.1.2.2.2.2.2.2.2.1 == w1.2.2.1.2.2.2.2.2.2.2.1)
            else
            k false
          else
          k false
        else
        k false
      else
      k false) w1
def s_SameResult (x0 : Resu) (x1 : Resu) : Bool :=
  bif ((x0.frames.length : Int) != (x1.frames.length : Int)) then
    false
  else
  Stp.elim (fun a3 =>
    bif (x0.made == x1.made) then
      letK (α := Bool) ((x0.tuple.ip == x1.tuple.ip) && ((x0.tuple.port == x1.tuple.port) && ((x0.tuple.my == x1.tuple.my) && true))) fun e4 =>
      bif e4 then
        bif (x0.n == x1.n) then
          bif (x0.text == x1.text) then
            (x0.ok == x1.ok)
          else
          false
        else
        false
      else
      false
    else
    false)
    (fun p3 =>
      false)
    (forN (s_SameResult_L0_f x0.frames x0.made x0.tuple.ip x0.tuple.port x0.tuple.my x0.n x0.text x0.ok x1.frames x1.made x1.tuple.ip x1.tuple.port x1.tuple.my x1.n x1.text x1.ok) 1 (Int.toNat ((x0.frames.length : Int) - 0)) 0 ())
theorem s_SameResult_lk (x0 : Resu) (x1 : Resu) : evalFn te (orcOf (P := Try.prog) []) (lorcOf [s_SameResult_L0_le]) s_SameResult_ann Try.f37 (pvs [.st .resu, .st .resu] (x0, x1, ())) =
  s_SameResult_N x0 x1 _ none (fun v => some [rv (.sc .bool) [] v]) := by kernel_rfl
theorem s_SameResult_p (x0 : Resu) (x1 : Resu) (hx0_frames : x0.frames.length ≤ 140737488355328) (hx0_frames_e : ∀ y ∈ x0.frames, List.length y ≤ 4611686018427387904) (hx0_made : inK .i64 x0.made) (hx0_tuple_ip : inK .i64 x0.tuple.ip) (hx0_tuple_port : inK .i64 x0.tuple.port) (hx0_tuple_my : inK .i64 x0.tuple.my) (hx0_n : inK .i64 x0.n) (hx0_text : List.length x0.text ≤ 4611686018427387904) (hx1_frames : x1.frames.length ≤ 140737488355328) (hx1_frames_e : ∀ y ∈ x1.frames, List.length y ≤ 4611686018427387904) (hx1_made : inK .i64 x1.made) (hx1_tuple_ip : inK .i64 x1.tuple.ip) (hx1_tuple_port : inK .i64 x1.tuple.port) (hx1_tuple_my : inK .i64 x1.tuple.my) (hx1_n : inK .i64 x1.n) (hx1_text : List.length x1.text ≤ 4611686018427387904)  (γ : Type) (fail : γ) (k : Bool → γ) : s_SameResult_N x0 x1 γ fail k = k (s_SameResult x0 x1) := by
  unfold s_SameResult_N s_SameResult
  exact bifT (f := k) (fun b0 => rfl)
      (fun b0 => loopT (f := k) (s_SameResult_L0_cl 0 x0.frames x0.made x0.tuple.ip x0.tuple.port x0.tuple.my x0.n x0.text x0.ok x1.frames x1.made x1.tuple.ip x1.tuple.port x1.tuple.my x1.n x1.text x1.ok (by (try simp only [Nat.ble_eq, Bool.and_eq_true, decide_eq_true_eq]); grind [maxSl, maxStr]) (by (try simp only [Nat.ble_eq, Bool.and_eq_true, decide_eq_true_eq]); grind [maxSl, maxStr]) (by (try simp only [Nat.ble_eq, Bool.and_eq_true, decide_eq_true_eq]); grind [maxSl, maxStr])) (fun a3 => bifT (f := k) (fun b1 => letT (f := k) (fun e4 he4 => bifT (f := k) (fun b2 => bifT (f := k) (fun b3 => bifT (f := k) (fun b4 => rfl)
      (fun b4 => rfl))
      (fun b3 => rfl))
      (fun b2 => rfl)))
      (fun b1 => rfl))
      (fun p3 => rfl))
theorem s_SameResult_c (x0 : Resu) (x1 : Resu)  : Con Try.prog 37 (pvs [.st .resu, .st .resu] (x0, x1, ())) [rv (.sc .bool) [] (s_SameResult x0 x1)] := by
  refine Con.of_facts (enters_of Try.func37 rfl (by kernel_rfl)) fun hf => ?_
  replace hf := factAt hf
  exact evalFn_conL teFact mixFact (orcOf_ok _) Try.func37 (by kernel_rfl) (bs := [0]) (by kernel_rfl) (fun w0 I0 => ⟨lsem_of_lorc (s_SameResult_L0_ls w0 I0) (by kernel_rfl), trivial⟩) ((s_SameResult_lk x0 x1).trans (s_SameResult_p x0 x1 ((hf 0 0 rfl rfl).len) (fun y hy => ((hf 0 0 rfl rfl).elem hy (.str y) List.mem_cons_self).slen) ((hf 0 1 rfl rfl).rng) ((hf 0 2 rfl rfl).rng) ((hf 0 3 rfl rfl).rng) ((hf 0 4 rfl rfl).rng) ((hf 0 5 rfl rfl).rng) ((hf 0 6 rfl rfl).slen) ((hf 1 0 rfl rfl).len) (fun y hy => ((hf 1 0 rfl rfl).elem hy (.str y) List.mem_cons_self).slen) ((hf 1 1 rfl rfl).rng) ((hf 1 2 rfl rfl).rng) ((hf 1 3 rfl rfl).rng) ((hf 1 4 rfl rfl).rng) ((hf 1 5 rfl rfl).rng) ((hf 1 6 rfl rfl).slen) _ _ _))
noncomputable def s_SameResult_e : Ent1 Try.prog := entA 37 [.st .resu, .st .resu] (fun x => [rv (.sc .bool) [] (s_SameResult x.1 x.2.1)]) (fun x => s_SameResult_c x.1 x.2.1)


/-- laws.szSegment -/
def w_szSegment_N (x0 : Segm) (x1 : Int) (γ : Type) (fail : γ) (k : Int → γ) : γ :=
  bif (decide ((IntKind.wrap .i64 (x1 - (x0.body.length : Int))) < 0)) then
    k (-1)
  else
  k (IntKind.wrap .i64 (x1 - (x0.body.length : Int)))
def w_szSegment (x0 : Segm) (x1 : Int) : Int :=
  bif (decide ((IntKind.wrap .i64 (x1 - (x0.body.length : Int))) < 0)) then
    (-1)
  else
  (IntKind.wrap .i64 (x1 - (x0.body.length : Int)))
theorem w_szSegment_lk (x0 : Segm) (x1 : Int) : evalFn te (orcOf (P := Try.prog) []) lorc0 [] Try.f41 (pvs [.st .segm, .sc (.int .i64)] (x0, x1, ())) =
  w_szSegment_N x0 x1 _ none (fun v => some [rv (.sc (.int .i64)) [] v]) := by kernel_rfl
theorem w_szSegment_p (x0 : Segm) (x1 : Int)   (γ : Type) (fail : γ) (k : Int → γ) : w_szSegment_N x0 x1 γ fail k = k (w_szSegment x0 x1) := by
  unfold w_szSegment_N w_szSegment
  exact bifT (f := k) (fun b0 => rfl)
      (fun b0 => rfl)
theorem w_szSegment_c (x0 : Segm) (x1 : Int)  : Con Try.prog 41 (pvs [.st .segm, .sc (.int .i64)] (x0, x1, ())) [rv (.sc (.int .i64)) [] (w_szSegment x0 x1)] := by
  exact evalFn_con0 teFact mixFact (orcOf_ok _) Try.func41 (by kernel_rfl) ((w_szSegment_lk x0 x1).trans (w_szSegment_p x0 x1  _ _ _))
noncomputable def w_szSegment_e : Ent1 Try.prog := entA 41 [.st .segm, .sc (.int .i64)] (fun x => [rv (.sc (.int .i64)) [] (w_szSegment x.1 x.2.1)]) (fun x => w_szSegment_c x.1 x.2.1)


/-- laws.toSegment -/
def w_toSegment_N (x0 : Segm) (γ : Type) (fail : γ) (k : Segm → γ) : γ :=
  letK (α := Opti) (w_toOptions x0.opts) fun c1 =>
  k ({ x0 with opts.mss := c1.mss, opts.scale := c1.scale, opts.sack := c1.sack, opts.stamp := c1.stamp, opts.val := c1.val, opts.echo := c1.echo } : Segm)
def w_toSegment (x0 : Segm) : Segm :=
  letK (α := Opti) (w_toOptions x0.opts) fun c1 =>
  ({ x0 with opts.mss := c1.mss, opts.scale := c1.scale, opts.sack := c1.sack, opts.stamp := c1.stamp, opts.val := c1.val, opts.echo := c1.echo } : Segm)
theorem w_toSegment_lk (x0 : Segm) : evalFn te (orcOf (P := Try.prog) [w_toOptions_e]) lorc0 [] Try.f43 (pvs [.st .segm] (x0, ())) =
  w_toSegment_N x0 _ none (fun v => some [rv (.st .segm) [] v]) := by kernel_rfl
theorem w_toSegment_p (x0 : Segm)   (γ : Type) (fail : γ) (k : Segm → γ) : w_toSegment_N x0 γ fail k = k (w_toSegment x0) := by
  unfold w_toSegment_N w_toSegment
  exact letT (f := k) (fun c1 hc1 => rfl)
theorem w_toSegment_c (x0 : Segm)  : Con Try.prog 43 (pvs [.st .segm] (x0, ())) [rv (.st .segm) [] (w_toSegment x0)] := by
  exact evalFn_con0 teFact mixFact (orcOf_ok _) Try.func43 (by kernel_rfl) ((w_toSegment_lk x0).trans (w_toSegment_p x0  _ _ _))
noncomputable def w_toSegment_e : Ent1 Try.prog := entA 43 [.st .segm] (fun x => [rv (.st .segm) [] (w_toSegment x.1)]) (fun x => w_toSegment_c x.1)


/-- laws.szStringS -/
def w_szStringS_ann : List (Nat × Keep) := [(0, ⟨[0, 1, 5], [], false⟩)]
def w_szStringS_L0_sh : Sh := ⟨[(0, false, [.sl .arg .str]), (1, false, [.int .i64]), (5, false, [.int .i64])], []⟩
def w_szStringS_L0_es : List (Ex × Sh) := [(.ret, ⟨[(1, false, [.int .i64]), (4, false, [.int .i64])], []⟩), (.exit 0, ⟨[(1, false, [.int .i64]), (4, false, [.undef])], []⟩)]
def w_szStringS_L0_mk (v0 : List Bytes) (v1 : Int) (v2 : Int) : w_szStringS_L0_sh.T := (((v0, ()), ((v1, ()), ((v2, ()), ()))), ())
def w_szStringS_L0_mx0 (y0 : Int) (y1 : Int) : Sh.T ⟨[(1, false, [.int .i64]), (4, false, [.int .i64])], []⟩ := (((y0, ()), ((y1, ()), ())), ())
def w_szStringS_L0_mx1 (y0 : Int) : Sh.T ⟨[(1, false, [.int .i64]), (4, false, [.undef])], []⟩ := (((y0, ()), (((), ()), ())), ())
def w_szStringS_L0_B (v0 : List Bytes) (v1 : Int) (v2 : Int) (γ : Type) (fail : γ) (next : w_szStringS_L0_sh.T → γ) (out : WT w_szStringS_L0_es → γ) : γ :=
  bif (decide (v2 < (v0.length : Int))) then
    bif ((decide (0 ≤ v2)) && (decide (v2 < (v0.length : Int)))) then
    letK (α := Bool) (decide ((IntKind.wrap .i64 (v1 - ((v0.getD v2.toNat []).length : Int))) < 0)) fun e1 =>
    bif e1 then
      out (Sum.inl (w_szStringS_L0_mx0 (IntKind.wrap .i64 (v1 - ((v0.getD v2.toNat []).length : Int))) (-1)))
    else
    next (w_szStringS_L0_mk v0 (IntKind.wrap .i64 (v1 - ((v0.getD v2.toNat []).length : Int))) (IntKind.wrap .i64 (v2 + 1)))
    else fail
  else
  out (Sum.inr (w_szStringS_L0_mx1 v1))
theorem w_szStringS_L0_par (v0 : List Bytes) (v1 : Int) (v2 : Int) (γ : Type) (fail : γ) (next : w_szStringS_L0_sh.T → γ) (out : WT w_szStringS_L0_es → γ) : w_szStringS_L0_B v0 v1 v2 γ fail next out = optK (w_szStringS_L0_B v0 v1 v2 _ none (fun v' => some (.inl v')) (fun w => some (.inr w))) fail (fun r => Sum.elim next out r) := by
  unfold w_szStringS_L0_B
  exact bifT (f := (fun o => optK o fail (fun r => Sum.elim next out r))) (fun _ => bifT (f := (fun o => optK o fail (fun r => Sum.elim next out r))) (fun _ => letT (f := (fun o => optK o fail (fun r => Sum.elim next out r))) (fun e1 _ => bifT (f := (fun o => optK o fail (fun r => Sum.elim next out r))) (fun _ => rfl)
      (fun _ => rfl))) (fun _ => rfl))
      (fun _ => rfl)
def w_szStringS_L0_r : Round w_szStringS_L0_sh.T (WT w_szStringS_L0_es) where
  B v γ fail next out := w_szStringS_L0_B v.1.1.1 v.1.2.1.1 v.1.2.2.1.1 γ fail next out
  par v γ fail next out := w_szStringS_L0_par v.1.1.1 v.1.2.1.1 v.1.2.2.1.1 γ fail next out
def w_szStringS_L0_fu (v0 : List Bytes) (v1 : Int) (v2 : Int) : Nat := (Int.toNat ((v0.length : Int) - v2)) + 1
theorem w_szStringS_L0_lk (v : w_szStringS_L0_sh.T) (next : St → Option Res) (k : Ex → St → Option Res) : evalK te (orcOf (P := Try.prog) []) (lorcOf []) Try.f45.ntmps w_szStringS_ann (nthLoop (bodyOf Try.f45) 0 0) 0 (w_szStringS_L0_sh.enc v) (endK ⟨[0, 1, 5], [], false⟩ ⟨[1, 4], [], false⟩ next k) =
  w_szStringS_L0_r.B v _ none (fun v' => next (w_szStringS_L0_sh.enc v')) (fun w => outK w_szStringS_L0_es k w) := by kernel_rfl
def w_szStringS_L0_le : LE := leOf 0 w_szStringS_L0_sh w_szStringS_L0_es w_szStringS_L0_r.step (fun v => w_szStringS_L0_fu v.1.1.1 v.1.2.1.1 v.1.2.2.1.1)
theorem w_szStringS_L0_ls (w0 : World) (I0 : Nat → Prop) : LSem Try.prog (Sim w0 Try.f45.ntmps I0) (fun b s k => match Nat.beq 0 b with | true => w_szStringS_L0_le.run s k | false => none) 0 (nthLoop (bodyOf Try.f45) 0 0) :=
  le_sem (lorc := lorcOf []) (ann := w_szStringS_ann) (keep := ⟨[0, 1, 5], [], false⟩) (kout := ⟨[1, 4], [], false⟩) teFact mixFact (orcOf_ok _) (allLoops_of (bs := []) (by kernel_rfl) trivial) w_szStringS_L0_r _ w_szStringS_L0_lk
def w_szStringS_L0_f (v0 : List Bytes) (v2 : Int) (a : Int) : Stp (Int) ((Int)) :=
  letK (α := Bool) (decide ((IntKind.wrap .i64 (a - ((v0.getD v2.toNat []).length : Int))) < 0)) fun e1 =>
  bif e1 then
    .out ((IntKind.wrap .i64 (a - ((v0.getD v2.toNat []).length : Int))))
  else
  .next (IntKind.wrap .i64 (a - ((v0.getD v2.toNat []).length : Int)))
theorem w_szStringS_L0_st (v0 : List Bytes) (v1 : Int) (v2 : Int) (hlo : 0 ≤ v2) (hhi : v2 < (v0.length : Int)) (hN : (v0.length : Int) ≤ 4611686018427387904) : w_szStringS_L0_r.step (w_szStringS_L0_mk v0 v1 v2) = Stp.elim (fun a' : Int => some (Sum.inl (w_szStringS_L0_mk v0 a' (v2 + 1)))) (fun w => some (Sum.inr ((fun p => Sum.inl (w_szStringS_L0_mx0 p (-1))) w))) (w_szStringS_L0_f v0 v2 v1) := by
  have hw : (IntKind.wrap .i64 (v2 + 1)) = v2 + 1 := wrap64 (by omega) (by omega)
  show w_szStringS_L0_B v0 v1 v2 (Option (w_szStringS_L0_sh.T ⊕ WT w_szStringS_L0_es)) none (fun v' => some (Sum.inl v')) (fun w => some (Sum.inr w)) = _
  unfold w_szStringS_L0_B w_szStringS_L0_f
  exact bifG (by simp only [decide_eq_true_eq]; omega) (bifG (by (try simp only [Nat.ble_eq, Bool.and_eq_true, decide_eq_true_eq]); grind [maxSl, maxStr]) (letT (f := (Stp.elim (fun a' : Int => some (Sum.inl (w_szStringS_L0_mk v0 a' (v2 + 1)))) (fun w => some (Sum.inr ((fun p => Sum.inl (w_szStringS_L0_mx0 p (-1))) w))))) (fun e1 he1 => bifT (f := (Stp.elim (fun a' : Int => some (Sum.inl (w_szStringS_L0_mk v0 a' (v2 + 1)))) (fun w => some (Sum.inr ((fun p => Sum.inl (w_szStringS_L0_mx0 p (-1))) w))))) (fun b0 => rfl)
      (fun b0 => congrArg (fun z => some (Sum.inl (w_szStringS_L0_mk v0 (IntKind.wrap .i64 (v1 - ((v0.getD v2.toNat []).length : Int))) z))) hw))))
theorem w_szStringS_L0_cl (v0 : List Bytes) (v1 : Int) (v2 : Int) (h0 : 0 ≤ v2) (h1 : (v0.length : Int) ≤ 4611686018427387904) : loopF w_szStringS_L0_r.step (w_szStringS_L0_fu v0 v1 v2) (w_szStringS_L0_mk v0 v1 v2) = some (Stp.elim (fun a => (fun i a => Sum.inr (w_szStringS_L0_mx1 a)) (v2 + 1 * (((Int.toNat ((v0.length : Int) - v2)) : Nat) : Int)) a) (fun p => Sum.inl (w_szStringS_L0_mx0 p (-1))) (forN (w_szStringS_L0_f v0) 1 (Int.toNat ((v0.length : Int) - v2)) v2 v1)) :=
  forN_loop (step := w_szStringS_L0_r.step) (mk := fun v2 a => w_szStringS_L0_mk v0 a v2) (f := w_szStringS_L0_f v0) (e := (fun i a => Sum.inr (w_szStringS_L0_mx1 a))) (emb := (fun p => Sum.inl (w_szStringS_L0_mx0 p (-1)))) (st := 1) (Inv := fun v2 a => True) (Int.toNat ((v0.length : Int) - v2)) v2 v1 _ (Nat.lt_succ_self _) trivial
    (fun j a hj hv => ⟨w_szStringS_L0_st v0 a (v2 + 1 * (j : Int)) (by omega) (by omega) (by omega), fun _ _ => trivial⟩)
    (fun a hv => by
      show w_szStringS_L0_B v0 a (v2 + 1 * (((Int.toNat ((v0.length : Int) - v2)) : Nat) : Int)) (Option (w_szStringS_L0_sh.T ⊕ WT w_szStringS_L0_es)) none (fun v' => some (Sum.inl v')) (fun w => some (Sum.inr w)) = _
      unfold w_szStringS_L0_B
      exact bifN (by simp only [decide_eq_false_iff_not]; omega) rfl)
def w_szStringS_N (x0 : List Bytes) (x1 : Int) (γ : Type) (fail : γ) (k : Int → γ) : γ :=
  bif (decide ((IntKind.wrap .i64 (x1 - (x0.length : Int))) < 0)) then
    k (-1)
  else
  optK (loopF w_szStringS_L0_r.step (w_szStringS_L0_fu x0 (IntKind.wrap .i64 (x1 - (x0.length : Int))) 0) (w_szStringS_L0_mk x0 (IntKind.wrap .i64 (x1 - (x0.length : Int))) 0)) fail fun w2 =>
    Sum.elim (fun w2 =>
      k w2.1.2.1.1)
    (fun w2 =>
      k w2.1.1.1) w2
def w_szStringS (x0 : List Bytes) (x1 : Int) : Int :=
  bif (decide ((IntKind.wrap .i64 (x1 - (x0.length : Int))) < 0)) then
    (-1)
  else
  Stp.elim (fun a3 =>
    a3)
    (fun p3 =>
      (-1))
    (forN (w_szStringS_L0_f x0) 1 (Int.toNat ((x0.length : Int) - 0)) 0 (IntKind.wrap .i64 (x1 - (x0.length : Int))))
theorem w_szStringS_lk (x0 : List Bytes) (x1 : Int) : evalFn te (orcOf (P := Try.prog) []) (lorcOf [w_szStringS_L0_le]) w_szStringS_ann Try.f45 (pvs [.sc (.sl .str), .sc (.int .i64)] (x0, x1, ())) =
  w_szStringS_N x0 x1 _ none (fun v => some [rv (.sc (.int .i64)) [] v]) := by kernel_rfl
theorem w_szStringS_p (x0 : List Bytes) (x1 : Int) (hx0 : x0.length ≤ 140737488355328) (hx0_e : ∀ y ∈ x0, List.length y ≤ 4611686018427387904) (hx1 : inK .i64 x1)  (γ : Type) (fail : γ) (k : Int → γ) : w_szStringS_N x0 x1 γ fail k = k (w_szStringS x0 x1) := by
  unfold w_szStringS_N w_szStringS
  exact bifT (f := k) (fun b0 => rfl)
      (fun b0 => loopT (f := k) (w_szStringS_L0_cl x0 (IntKind.wrap .i64 (x1 - (x0.length : Int))) 0 (by (try simp only [Nat.ble_eq, Bool.and_eq_true, decide_eq_true_eq]); grind [maxSl, maxStr]) (by (try simp only [Nat.ble_eq, Bool.and_eq_true, decide_eq_true_eq]); grind [maxSl, maxStr])) (fun a3 => rfl)
      (fun p3 => rfl))
theorem w_szStringS_c (x0 : List Bytes) (x1 : Int)  : Con Try.prog 45 (pvs [.sc (.sl .str), .sc (.int .i64)] (x0, x1, ())) [rv (.sc (.int .i64)) [] (w_szStringS x0 x1)] := by
  refine Con.of_facts (enters_of Try.func45 rfl (by kernel_rfl)) fun hf => ?_
  replace hf := factAt hf
  exact evalFn_conL teFact mixFact (orcOf_ok _) Try.func45 (by kernel_rfl) (bs := [0]) (by kernel_rfl) (fun w0 I0 => ⟨lsem_of_lorc (w_szStringS_L0_ls w0 I0) (by kernel_rfl), trivial⟩) ((w_szStringS_lk x0 x1).trans (w_szStringS_p x0 x1 ((hf 0 0 rfl rfl).len) (fun y hy => ((hf 0 0 rfl rfl).elem hy (.str y) List.mem_cons_self).slen) ((hf 1 0 rfl rfl).rng) _ _ _))
noncomputable def w_szStringS_e : Ent1 Try.prog := entA 45 [.sc (.sl .str), .sc (.int .i64)] (fun x => [rv (.sc (.int .i64)) [] (w_szStringS x.1 x.2.1)]) (fun x => w_szStringS_c x.1 x.2.1)


/-- laws.toStringS -/
def w_toStringS_ann : List (Nat × Keep) := [(0, ⟨[0, 3, 4], [], false⟩)]
def w_toStringS_L0_sh : Sh := ⟨[(0, false, [.sl .arg .str]), (3, false, [.own 0]), (4, false, [.int .i64])], [.arr .str false true]⟩
def w_toStringS_L0_es : List (Ex × Sh) := [(.exit 0, ⟨[(2, false, [.undef]), (3, false, [.own 0])], [.arr .str false true]⟩)]
def w_toStringS_L0_mk (v0 : List Bytes) (v1 : Int) (v2 : List Bytes) : w_toStringS_L0_sh.T := (((v0, ()), (((), ()), ((v1, ()), ()))), (v2, ()))
def w_toStringS_L0_mx0 (y0 : List Bytes) : Sh.T ⟨[(2, false, [.undef]), (3, false, [.own 0])], [.arr .str false true]⟩ := ((((), ()), (((), ()), ())), (y0, ()))
def w_toStringS_L0_B (v0 : List Bytes) (v1 : Int) (v2 : List Bytes) (γ : Type) (fail : γ) (next : w_toStringS_L0_sh.T → γ) (out : WT w_toStringS_L0_es → γ) : γ :=
  bif (decide (v1 < (v0.length : Int))) then
    bif ((decide (0 ≤ v1)) && (decide (v1 < (v0.length : Int)))) then
    bif ((decide (0 ≤ v1)) && (decide (v1 < (v2.length : Int)))) then
    next (w_toStringS_L0_mk v0 (IntKind.wrap .i64 (v1 + 1)) (v2.set v1.toNat (v0.getD v1.toNat [])))
    else fail
    else fail
  else
  out (w_toStringS_L0_mx0 v2)
theorem w_toStringS_L0_par (v0 : List Bytes) (v1 : Int) (v2 : List Bytes) (γ : Type) (fail : γ) (next : w_toStringS_L0_sh.T → γ) (out : WT w_toStringS_L0_es → γ) : w_toStringS_L0_B v0 v1 v2 γ fail next out = optK (w_toStringS_L0_B v0 v1 v2 _ none (fun v' => some (.inl v')) (fun w => some (.inr w))) fail (fun r => Sum.elim next out r) := by
  unfold w_toStringS_L0_B
  exact bifT (f := (fun o => optK o fail (fun r => Sum.elim next out r))) (fun _ => bifT (f := (fun o => optK o fail (fun r => Sum.elim next out r))) (fun _ => bifT (f := (fun o => optK o fail (fun r => Sum.elim next out r))) (fun _ => rfl) (fun _ => rfl)) (fun _ => rfl))
      (fun _ => rfl)
def w_toStringS_L0_r : Round w_toStringS_L0_sh.T (WT w_toStringS_L0_es) where
  B v γ fail next out := w_toStringS_L0_B v.1.1.1 v.1.2.2.1.1 v.2.1 γ fail next out
  par v γ fail next out := w_toStringS_L0_par v.1.1.1 v.1.2.2.1.1 v.2.1 γ fail next out
def w_toStringS_L0_fu (v0 : List Bytes) (v1 : Int) (v2 : List Bytes) : Nat := (Int.toNat ((v0.length : Int) - v1)) + 1
theorem w_toStringS_L0_lk (v : w_toStringS_L0_sh.T) (next : St → Option Res) (k : Ex → St → Option Res) : evalK te (orcOf (P := Try.prog) []) (lorcOf []) Try.f47.ntmps w_toStringS_ann (nthLoop (bodyOf Try.f47) 0 0) 0 (w_toStringS_L0_sh.enc v) (endK ⟨[0, 3, 4], [], false⟩ ⟨[2, 3], [], false⟩ next k) =
  w_toStringS_L0_r.B v _ none (fun v' => next (w_toStringS_L0_sh.enc v')) (fun w => outK w_toStringS_L0_es k w) := by kernel_rfl
def w_toStringS_L0_le : LE := leOf 0 w_toStringS_L0_sh w_toStringS_L0_es w_toStringS_L0_r.step (fun v => w_toStringS_L0_fu v.1.1.1 v.1.2.2.1.1 v.2.1)
theorem w_toStringS_L0_ls (w0 : World) (I0 : Nat → Prop) : LSem Try.prog (Sim w0 Try.f47.ntmps I0) (fun b s k => match Nat.beq 0 b with | true => w_toStringS_L0_le.run s k | false => none) 0 (nthLoop (bodyOf Try.f47) 0 0) :=
  le_sem (lorc := lorcOf []) (ann := w_toStringS_ann) (keep := ⟨[0, 3, 4], [], false⟩) (kout := ⟨[2, 3], [], false⟩) teFact mixFact (orcOf_ok _) (allLoops_of (bs := []) (by kernel_rfl) trivial) w_toStringS_L0_r _ w_toStringS_L0_lk
def w_toStringS_L0_f (v0 : List Bytes) (v1 : Int) (a : List Bytes) : Stp (List Bytes) (Empty) :=
  .next (a.set v1.toNat (v0.getD v1.toNat []))
theorem w_toStringS_L0_st (v0 : List Bytes) (v1 : Int) (v2 : List Bytes) (hlo : 0 ≤ v1) (hhi : v1 < (v0.length : Int)) (hN : (v0.length : Int) ≤ 4611686018427387904) (hinv : (v0.length : Int) ≤ (v2.length : Int)) : w_toStringS_L0_r.step (w_toStringS_L0_mk v0 v1 v2) = Stp.elim (fun a' : List Bytes => some (Sum.inl (w_toStringS_L0_mk v0 (v1 + 1) a'))) (fun w => some (Sum.inr ((fun p : Empty => nomatch p) w))) (w_toStringS_L0_f v0 v1 v2) := by
  have hw : (IntKind.wrap .i64 (v1 + 1)) = v1 + 1 := wrap64 (by omega) (by omega)
  show w_toStringS_L0_B v0 v1 v2 (Option (w_toStringS_L0_sh.T ⊕ WT w_toStringS_L0_es)) none (fun v' => some (Sum.inl v')) (fun w => some (Sum.inr w)) = _
  unfold w_toStringS_L0_B w_toStringS_L0_f
  exact bifG (by simp only [decide_eq_true_eq]; omega) (bifG (by (try simp only [Nat.ble_eq, Bool.and_eq_true, decide_eq_true_eq]); grind [maxSl, maxStr]) (bifG (by (try simp only [Nat.ble_eq, Bool.and_eq_true, decide_eq_true_eq]); grind [maxSl, maxStr]) (congrArg (fun z => some (Sum.inl (w_toStringS_L0_mk v0 z (v2.set v1.toNat (v0.getD v1.toNat []))))) hw)))
theorem w_toStringS_L0_cl (v0 : List Bytes) (v1 : Int) (v2 : List Bytes) (h0 : 0 ≤ v1) (h1 : (v0.length : Int) ≤ 4611686018427387904) (h2 : (v0.length : Int) ≤ (v2.length : Int)) : loopF w_toStringS_L0_r.step (w_toStringS_L0_fu v0 v1 v2) (w_toStringS_L0_mk v0 v1 v2) = some (Stp.elim (fun a => (fun i a => w_toStringS_L0_mx0 a) (v1 + 1 * (((Int.toNat ((v0.length : Int) - v1)) : Nat) : Int)) a) (fun p : Empty => nomatch p) (forN (w_toStringS_L0_f v0) 1 (Int.toNat ((v0.length : Int) - v1)) v1 v2)) :=
  forN_loop (step := w_toStringS_L0_r.step) (mk := fun v1 a => w_toStringS_L0_mk v0 v1 a) (f := w_toStringS_L0_f v0) (e := (fun i a => w_toStringS_L0_mx0 a)) (emb := (fun p : Empty => nomatch p)) (st := 1) (Inv := fun v1 a => (v0.length : Int) ≤ (a.length : Int)) (Int.toNat ((v0.length : Int) - v1)) v1 v2 _ (Nat.lt_succ_self _) h2
    (fun j a hj hv => ⟨w_toStringS_L0_st v0 (v1 + 1 * (j : Int)) a (by omega) (by omega) (by omega) hv, by
      intro a' he
      grind [w_toStringS_L0_f, letK, Stp.elim, wrap64]⟩)
    (fun a hv => by
      show w_toStringS_L0_B v0 (v1 + 1 * (((Int.toNat ((v0.length : Int) - v1)) : Nat) : Int)) a (Option (w_toStringS_L0_sh.T ⊕ WT w_toStringS_L0_es)) none (fun v' => some (Sum.inl v')) (fun w => some (Sum.inr w)) = _
      unfold w_toStringS_L0_B
      exact bifN (by simp only [decide_eq_false_iff_not]; omega) rfl)
def w_toStringS_N (x0 : List Bytes) (γ : Type) (fail : γ) (k : List Bytes → γ) : γ :=
  bif ((((decide (0 ≤ (x0.length : Int))) && (decide ((x0.length : Int) = (x0.length : Int)))) && (decide ((x0.length : Int) * 16 ≤ (maxSl : Int)))) && (decide ((x0.length : Int) ≤ (maxSl : Int)))) then
  optK (loopF w_toStringS_L0_r.step (w_toStringS_L0_fu x0 0 (List.replicate ((x0.length : Int).toNat) [])) (w_toStringS_L0_mk x0 0 (List.replicate ((x0.length : Int).toNat) []))) fail fun w1 =>
    k w1.2.1
  else fail
def w_toStringS (x0 : List Bytes) : List Bytes :=
  Stp.elim (fun a2 =>
    a2)
    (fun p : Empty => nomatch p)
    (forN (w_toStringS_L0_f x0) 1 (Int.toNat ((x0.length : Int) - 0)) 0 (List.replicate ((x0.length : Int).toNat) []))
theorem w_toStringS_lk (x0 : List Bytes) : evalFn te (orcOf (P := Try.prog) []) (lorcOf [w_toStringS_L0_le]) w_toStringS_ann Try.f47 (pvs [.sc (.sl .str)] (x0, ())) =
  w_toStringS_N x0 _ none (fun v => some [rv (.sc (.sl .str)) [.o true] v]) := by kernel_rfl
theorem w_toStringS_p (x0 : List Bytes) (hx0 : x0.length ≤ 140737488355328) (hx0_e : ∀ y ∈ x0, List.length y ≤ 4611686018427387904) (hp : x0.length ≤ 4294967296) (γ : Type) (fail : γ) (k : List Bytes → γ) : w_toStringS_N x0 γ fail k = k (w_toStringS x0) := by
  unfold w_toStringS_N w_toStringS
  exact bifG (by (try simp only [Nat.ble_eq, Bool.and_eq_true, decide_eq_true_eq]); grind [maxSl, maxStr]) (loopT (f := k) (w_toStringS_L0_cl x0 0 (List.replicate ((x0.length : Int).toNat) []) (by (try simp only [Nat.ble_eq, Bool.and_eq_true, decide_eq_true_eq]); grind [maxSl, maxStr]) (by (try simp only [Nat.ble_eq, Bool.and_eq_true, decide_eq_true_eq]); grind [maxSl, maxStr]) (by (try simp only [Nat.ble_eq, Bool.and_eq_true, decide_eq_true_eq]); grind [maxSl, maxStr])) (fun a2 => rfl)
      (fun p : Empty => nomatch p))
theorem w_toStringS_c (x0 : List Bytes) (hp : x0.length ≤ 4294967296) : Con Try.prog 47 (pvs [.sc (.sl .str)] (x0, ())) [rv (.sc (.sl .str)) [.o true] (w_toStringS x0)] := by
  refine Con.of_facts (enters_of Try.func47 rfl (by kernel_rfl)) fun hf => ?_
  replace hf := factAt hf
  exact evalFn_conL teFact mixFact (orcOf_ok _) Try.func47 (by kernel_rfl) (bs := [0]) (by kernel_rfl) (fun w0 I0 => ⟨lsem_of_lorc (w_toStringS_L0_ls w0 I0) (by kernel_rfl), trivial⟩) ((w_toStringS_lk x0).trans (w_toStringS_p x0 ((hf 0 0 rfl rfl).len) (fun y hy => ((hf 0 0 rfl rfl).elem hy (.str y) List.mem_cons_self).slen) hp _ _ _))
noncomputable def w_toStringS_e : Ent1 Try.prog := entP 47 [.sc (.sl .str)] (fun x => (decide (x.1.length ≤ 4294967296))) (fun x => [rv (.sc (.sl .str)) [.o true] (w_toStringS x.1)]) (fun x hx => w_toStringS_c x.1 (of_decide_eq_true hx))


/-- laws.eqStringS -/
def w_eqStringS_ann : List (Nat × Keep) := [(0, ⟨[0, 1, 5], [], false⟩)]
def w_eqStringS_L0_sh : Sh := ⟨[(0, false, [.sl .arg .str]), (1, false, [.sl .arg .str]), (5, false, [.int .i64])], []⟩
def w_eqStringS_L0_es : List (Ex × Sh) := [(.ret, ⟨[(4, false, [.bool])], []⟩), (.exit 0, ⟨[(4, false, [.undef])], []⟩)]
def w_eqStringS_L0_mk (v0 : List Bytes) (v1 : List Bytes) (v2 : Int) : w_eqStringS_L0_sh.T := (((v0, ()), ((v1, ()), ((v2, ()), ()))), ())
def w_eqStringS_L0_mx0 (y0 : Bool) : Sh.T ⟨[(4, false, [.bool])], []⟩ := (((y0, ()), ()), ())
def w_eqStringS_L0_mx1  : Sh.T ⟨[(4, false, [.undef])], []⟩ := ((((), ()), ()), ())
def w_eqStringS_L0_B (v0 : List Bytes) (v1 : List Bytes) (v2 : Int) (γ : Type) (fail : γ) (next : w_eqStringS_L0_sh.T → γ) (out : WT w_eqStringS_L0_es → γ) : γ :=
  bif (decide (v2 < (v0.length : Int))) then
    bif ((decide (0 ≤ v2)) && (decide (v2 < (v0.length : Int)))) then
    bif ((decide (0 ≤ v2)) && (decide (v2 < (v1.length : Int)))) then
    bif (!((v0.getD v2.toNat []) == (v1.getD v2.toNat []))) then
      out (Sum.inl (w_eqStringS_L0_mx0 false))
    else
    next (w_eqStringS_L0_mk v0 v1 (IntKind.wrap .i64 (v2 + 1)))
    else fail
    else fail
  else
  out (Sum.inr (w_eqStringS_L0_mx1 ))
theorem w_eqStringS_L0_par (v0 : List Bytes) (v1 : List Bytes) (v2 : Int) (γ : Type) (fail : γ) (next : w_eqStringS_L0_sh.T → γ) (out : WT w_eqStringS_L0_es → γ) : w_eqStringS_L0_B v0 v1 v2 γ fail next out = optK (w_eqStringS_L0_B v0 v1 v2 _ none (fun v' => some (.inl v')) (fun w => some (.inr w))) fail (fun r => Sum.elim next out r) := by
  unfold w_eqStringS_L0_B
  exact bifT (f := (fun o => optK o fail (fun r => Sum.elim next out r))) (fun _ => bifT (f := (fun o => optK o fail (fun r => Sum.elim next out r))) (fun _ => bifT (f := (fun o => optK o fail (fun r => Sum.elim next out r))) (fun _ => bifT (f := (fun o => optK o fail (fun r => Sum.elim next out r))) (fun _ => rfl)
      (fun _ => rfl)) (fun _ => rfl)) (fun _ => rfl))
      (fun _ => rfl)
def w_eqStringS_L0_r : Round w_eqStringS_L0_sh.T (WT w_eqStringS_L0_es) where
  B v γ fail next out := w_eqStringS_L0_B v.1.1.1 v.1.2.1.1 v.1.2.2.1.1 γ fail next out
  par v γ fail next out := w_eqStringS_L0_par v.1.1.1 v.1.2.1.1 v.1.2.2.1.1 γ fail next out
def w_eqStringS_L0_fu (v0 : List Bytes) (v1 : List Bytes) (v2 : Int) : Nat := (Int.toNat ((v0.length : Int) - v2)) + 1
theorem w_eqStringS_L0_lk (v : w_eqStringS_L0_sh.T) (next : St → Option Res) (k : Ex → St → Option Res) : evalK te (orcOf (P := Try.prog) []) (lorcOf []) Try.f50.ntmps w_eqStringS_ann (nthLoop (bodyOf Try.f50) 0 0) 0 (w_eqStringS_L0_sh.enc v) (endK ⟨[0, 1, 5], [], false⟩ ⟨[4], [], false⟩ next k) =
  w_eqStringS_L0_r.B v _ none (fun v' => next (w_eqStringS_L0_sh.enc v')) (fun w => outK w_eqStringS_L0_es k w) := by kernel_rfl
def w_eqStringS_L0_le : LE := leOf 0 w_eqStringS_L0_sh w_eqStringS_L0_es w_eqStringS_L0_r.step (fun v => w_eqStringS_L0_fu v.1.1.1 v.1.2.1.1 v.1.2.2.1.1)
theorem w_eqStringS_L0_ls (w0 : World) (I0 : Nat → Prop) : LSem Try.prog (Sim w0 Try.f50.ntmps I0) (fun b s k => match Nat.beq 0 b with | true => w_eqStringS_L0_le.run s k | false => none) 0 (nthLoop (bodyOf Try.f50) 0 0) :=
  le_sem (lorc := lorcOf []) (ann := w_eqStringS_ann) (keep := ⟨[0, 1, 5], [], false⟩) (kout := ⟨[4], [], false⟩) teFact mixFact (orcOf_ok _) (allLoops_of (bs := []) (by kernel_rfl) trivial) w_eqStringS_L0_r _ w_eqStringS_L0_lk
def w_eqStringS_L0_f (v0 : List Bytes) (v1 : List Bytes) (v2 : Int) (a : Unit) : Stp (Unit) ((Unit)) :=
  bif (!((v0.getD v2.toNat []) == (v1.getD v2.toNat []))) then
    .out (())
  else
  .next ()
theorem w_eqStringS_L0_st (v0 : List Bytes) (v1 : List Bytes) (v2 : Int) (hlo : 0 ≤ v2) (hhi : v2 < (v0.length : Int)) (hN : (v0.length : Int) ≤ 4611686018427387904) (hi0 : (v0.length : Int) ≤ (v1.length : Int)) : w_eqStringS_L0_r.step (w_eqStringS_L0_mk v0 v1 v2) = Stp.elim (fun a' : Unit => some (Sum.inl (w_eqStringS_L0_mk v0 v1 (v2 + 1)))) (fun w => some (Sum.inr ((fun p => Sum.inl (w_eqStringS_L0_mx0 false)) w))) (w_eqStringS_L0_f v0 v1 v2 ()) := by
  have hw : (IntKind.wrap .i64 (v2 + 1)) = v2 + 1 := wrap64 (by omega) (by omega)
  show w_eqStringS_L0_B v0 v1 v2 (Option (w_eqStringS_L0_sh.T ⊕ WT w_eqStringS_L0_es)) none (fun v' => some (Sum.inl v')) (fun w => some (Sum.inr w)) = _
  unfold w_eqStringS_L0_B w_eqStringS_L0_f
  exact bifG (by simp only [decide_eq_true_eq]; omega) (bifG (by (try simp only [Nat.ble_eq, Bool.and_eq_true, decide_eq_true_eq]); grind [maxSl, maxStr]) (bifG (by (try simp only [Nat.ble_eq, Bool.and_eq_true, decide_eq_true_eq]); grind [maxSl, maxStr]) (bifT (f := (Stp.elim (fun a' : Unit => some (Sum.inl (w_eqStringS_L0_mk v0 v1 (v2 + 1)))) (fun w => some (Sum.inr ((fun p => Sum.inl (w_eqStringS_L0_mx0 false)) w))))) (fun b0 => rfl)
      (fun b0 => congrArg (fun z => some (Sum.inl (w_eqStringS_L0_mk v0 v1 z))) hw))))
theorem w_eqStringS_L0_cl (v0 : List Bytes) (v1 : List Bytes) (v2 : Int) (h0 : 0 ≤ v2) (h1 : (v0.length : Int) ≤ 4611686018427387904) (h2 : (v0.length : Int) ≤ (v1.length : Int)) : loopF w_eqStringS_L0_r.step (w_eqStringS_L0_fu v0 v1 v2) (w_eqStringS_L0_mk v0 v1 v2) = some (Stp.elim (fun a => (fun i a => Sum.inr (w_eqStringS_L0_mx1 )) (v2 + 1 * (((Int.toNat ((v0.length : Int) - v2)) : Nat) : Int)) a) (fun p => Sum.inl (w_eqStringS_L0_mx0 false)) (forN (w_eqStringS_L0_f v0 v1) 1 (Int.toNat ((v0.length : Int) - v2)) v2 ())) :=
  forN_loop (step := w_eqStringS_L0_r.step) (mk := fun v2 a => w_eqStringS_L0_mk v0 v1 v2) (f := w_eqStringS_L0_f v0 v1) (e := (fun i a => Sum.inr (w_eqStringS_L0_mx1 ))) (emb := (fun p => Sum.inl (w_eqStringS_L0_mx0 false))) (st := 1) (Inv := fun v2 a => True) (Int.toNat ((v0.length : Int) - v2)) v2 () _ (Nat.lt_succ_self _) trivial
    (fun j a hj hv => ⟨w_eqStringS_L0_st v0 v1 (v2 + 1 * (j : Int)) (by omega) (by omega) (by omega) h2, fun _ _ => trivial⟩)
    (fun a hv => by
      show w_eqStringS_L0_B v0 v1 (v2 + 1 * (((Int.toNat ((v0.length : Int) - v2)) : Nat) : Int)) (Option (w_eqStringS_L0_sh.T ⊕ WT w_eqStringS_L0_es)) none (fun v' => some (Sum.inl v')) (fun w => some (Sum.inr w)) = _
      unfold w_eqStringS_L0_B
      exact bifN (by simp only [decide_eq_false_iff_not]; omega) rfl)
def w_eqStringS_N (x0 : List Bytes) (x1 : List Bytes) (γ : Type) (fail : γ) (k : Bool → γ) : γ :=
  bif ((x0.length : Int) != (x1.length : Int)) then
    k false
  else
  optK (loopF w_eqStringS_L0_r.step (w_eqStringS_L0_fu x0 x1 0) (w_eqStringS_L0_mk x0 x1 0)) fail fun w1 =>
    Sum.elim (fun w1 =>
      k w1.1.1.1)
    (fun w1 =>
      k true) w1
def w_eqStringS (x0 : List Bytes) (x1 : List Bytes) : Bool :=
  bif ((x0.length : Int) != (x1.length : Int)) then
    false
  else
  Stp.elim (fun a2 =>
    true)
    (fun p2 =>
      false)
    (forN (w_eqStringS_L0_f x0 x1) 1 (Int.toNat ((x0.length : Int) - 0)) 0 ())
theorem w_eqStringS_lk (x0 : List Bytes) (x1 : List Bytes) : evalFn te (orcOf (P := Try.prog) []) (lorcOf [w_eqStringS_L0_le]) w_eqStringS_ann Try.f50 (pvs [.sc (.sl .str), .sc (.sl .str)] (x0, x1, ())) =
  w_eqStringS_N x0 x1 _ none (fun v => some [rv (.sc .bool) [] v]) := by kernel_rfl
theorem w_eqStringS_p (x0 : List Bytes) (x1 : List Bytes) (hx0 : x0.length ≤ 140737488355328) (hx0_e : ∀ y ∈ x0, List.length y ≤ 4611686018427387904) (hx1 : x1.length ≤ 140737488355328) (hx1_e : ∀ y ∈ x1, List.length y ≤ 4611686018427387904)  (γ : Type) (fail : γ) (k : Bool → γ) : w_eqStringS_N x0 x1 γ fail k = k (w_eqStringS x0 x1) := by
  unfold w_eqStringS_N w_eqStringS
  exact bifT (f := k) (fun b0 => rfl)
      (fun b0 => loopT (f := k) (w_eqStringS_L0_cl x0 x1 0 (by (try simp only [Nat.ble_eq, Bool.and_eq_true, decide_eq_true_eq]); grind [maxSl, maxStr]) (by (try simp only [Nat.ble_eq, Bool.and_eq_true, decide_eq_true_eq]); grind [maxSl, maxStr]) (by (try simp only [Nat.ble_eq, Bool.and_eq_true, decide_eq_true_eq]); grind [maxSl, maxStr])) (fun a2 => rfl)
      (fun p2 => rfl))
theorem w_eqStringS_c (x0 : List Bytes) (x1 : List Bytes)  : Con Try.prog 50 (pvs [.sc (.sl .str), .sc (.sl .str)] (x0, x1, ())) [rv (.sc .bool) [] (w_eqStringS x0 x1)] := by
  refine Con.of_facts (enters_of Try.func50 rfl (by kernel_rfl)) fun hf => ?_
  replace hf := factAt hf
  exact evalFn_conL teFact mixFact (orcOf_ok _) Try.func50 (by kernel_rfl) (bs := [0]) (by kernel_rfl) (fun w0 I0 => ⟨lsem_of_lorc (w_eqStringS_L0_ls w0 I0) (by kernel_rfl), trivial⟩) ((w_eqStringS_lk x0 x1).trans (w_eqStringS_p x0 x1 ((hf 0 0 rfl rfl).len) (fun y hy => ((hf 0 0 rfl rfl).elem hy (.str y) List.mem_cons_self).slen) ((hf 1 0 rfl rfl).len) (fun y hy => ((hf 1 0 rfl rfl).elem hy (.str y) List.mem_cons_self).slen) _ _ _))
noncomputable def w_eqStringS_e : Ent1 Try.prog := entA 50 [.sc (.sl .str), .sc (.sl .str)] (fun x => [rv (.sc .bool) [] (w_eqStringS x.1 x.2.1)]) (fun x => w_eqStringS_c x.1 x.2.1)


/-- laws.eqTuple -/
def w_eqTuple_N (x0 : Tupl) (x1 : Tupl) (γ : Type) (fail : γ) (k : Bool → γ) : γ :=
  bif (x0.ip != x1.ip) then
    k false
  else
  bif (x0.port != x1.port) then
    k false
  else
  bif (x0.my != x1.my) then
    k false
  else
  k true
def w_eqTuple (x0 : Tupl) (x1 : Tupl) : Bool :=
  bif (x0.ip != x1.ip) then
    false
  else
  bif (x0.port != x1.port) then
    false
  else
  bif (x0.my != x1.my) then
    false
  else
  true
theorem w_eqTuple_lk (x0 : Tupl) (x1 : Tupl) : evalFn te (orcOf (P := Try.prog) []) lorc0 [] Try.f56 (pvs [.st .tupl, .st .tupl] (x0, x1, ())) =
  w_eqTuple_N x0 x1 _ none (fun v => some [rv (.sc .bool) [] v]) := by kernel_rfl
theorem w_eqTuple_p (x0 : Tupl) (x1 : Tupl)   (γ : Type) (fail : γ) (k : Bool → γ) : w_eqTuple_N x0 x1 γ fail k = k (w_eqTuple x0 x1) := by
  unfold w_eqTuple_N w_eqTuple
  exact bifT (f := k) (fun b0 => rfl)
      (fun b0 => bifT (f := k) (fun b1 => rfl)
      (fun b1 => bifT (f := k) (fun b2 => rfl)
      (fun b2 => rfl)))
theorem w_eqTuple_c (x0 : Tupl) (x1 : Tupl)  : Con Try.prog 56 (pvs [.st .tupl, .st .tupl] (x0, x1, ())) [rv (.sc .bool) [] (w_eqTuple x0 x1)] := by
  exact evalFn_con0 teFact mixFact (orcOf_ok _) Try.func56 (by kernel_rfl) ((w_eqTuple_lk x0 x1).trans (w_eqTuple_p x0 x1  _ _ _))
noncomputable def w_eqTuple_e : Ent1 Try.prog := entA 56 [.st .tupl, .st .tupl] (fun x => [rv (.sc .bool) [] (w_eqTuple x.1 x.2.1)]) (fun x => w_eqTuple_c x.1 x.2.1)


/-- spec.l1In -/
def s_l1In_N (x0 : Int) (x1 : Int) (x2 : Int) (γ : Type) (fail : γ) (k : Bool → γ) : γ :=
  bif (decide (x1 ≤ x0)) then
    k (decide (x0 ≤ x2))
  else
  k false
def s_l1In (x0 : Int) (x1 : Int) (x2 : Int) : Bool :=
  bif (decide (x1 ≤ x0)) then
    (decide (x0 ≤ x2))
  else
  false
theorem s_l1In_lk (x0 : Int) (x1 : Int) (x2 : Int) : evalFn te (orcOf (P := Try.prog) []) lorc0 [] Try.f66 (pvs [.sc (.int .i64), .sc (.int .i64), .sc (.int .i64)] (x0, x1, x2, ())) =
  s_l1In_N x0 x1 x2 _ none (fun v => some [rv (.sc .bool) [] v]) := by kernel_rfl
theorem s_l1In_p (x0 : Int) (x1 : Int) (x2 : Int)   (γ : Type) (fail : γ) (k : Bool → γ) : s_l1In_N x0 x1 x2 γ fail k = k (s_l1In x0 x1 x2) := by
  unfold s_l1In_N s_l1In
  exact bifT (f := k) (fun b0 => rfl)
      (fun b0 => rfl)
theorem s_l1In_c (x0 : Int) (x1 : Int) (x2 : Int)  : Con Try.prog 66 (pvs [.sc (.int .i64), .sc (.int .i64), .sc (.int .i64)] (x0, x1, x2, ())) [rv (.sc .bool) [] (s_l1In x0 x1 x2)] := by
  exact evalFn_con0 teFact mixFact (orcOf_ok _) Try.func66 (by kernel_rfl) ((s_l1In_lk x0 x1 x2).trans (s_l1In_p x0 x1 x2  _ _ _))
noncomputable def s_l1In_e : Ent1 Try.prog := entA 66 [.sc (.int .i64), .sc (.int .i64), .sc (.int .i64)] (fun x => [rv (.sc .bool) [] (s_l1In x.1 x.2.1 x.2.2.1)]) (fun x => s_l1In_c x.1 x.2.1 x.2.2.1)

theorem s_l1In_eq (n lo hi : Int) : s_l1In n lo hi = (decide (lo ≤ n) && decide (n ≤ hi)) := by
  unfold s_l1In
  cases decide (lo ≤ n) <;> rfl


/-- impl.within -/
def i_within_N (x0 : Int) (x1 : Int) (x2 : Int) (γ : Type) (fail : γ) (k : Bool → γ) : γ :=
  bif (decide (x1 ≤ x0)) then
    k (decide (x0 ≤ x2))
  else
  k false
def i_within (x0 : Int) (x1 : Int) (x2 : Int) : Bool :=
  bif (decide (x1 ≤ x0)) then
    (decide (x0 ≤ x2))
  else
  false
theorem i_within_lk (x0 : Int) (x1 : Int) (x2 : Int) : evalFn te (orcOf (P := Try.prog) []) lorc0 [] Try.f67 (pvs [.sc (.int .i64), .sc (.int .i64), .sc (.int .i64)] (x0, x1, x2, ())) =
  i_within_N x0 x1 x2 _ none (fun v => some [rv (.sc .bool) [] v]) := by kernel_rfl
theorem i_within_p (x0 : Int) (x1 : Int) (x2 : Int)   (γ : Type) (fail : γ) (k : Bool → γ) : i_within_N x0 x1 x2 γ fail k = k (i_within x0 x1 x2) := by
  unfold i_within_N i_within
  exact bifT (f := k) (fun b0 => rfl)
      (fun b0 => rfl)
theorem i_within_c (x0 : Int) (x1 : Int) (x2 : Int)  : Con Try.prog 67 (pvs [.sc (.int .i64), .sc (.int .i64), .sc (.int .i64)] (x0, x1, x2, ())) [rv (.sc .bool) [] (i_within x0 x1 x2)] := by
  exact evalFn_con0 teFact mixFact (orcOf_ok _) Try.func67 (by kernel_rfl) ((i_within_lk x0 x1 x2).trans (i_within_p x0 x1 x2  _ _ _))
noncomputable def i_within_e : Ent1 Try.prog := entA 67 [.sc (.int .i64), .sc (.int .i64), .sc (.int .i64)] (fun x => [rv (.sc .bool) [] (i_within x.1 x.2.1 x.2.2.1)]) (fun x => i_within_c x.1 x.2.1 x.2.2.1)

theorem i_within_eq (n lo hi : Int) : i_within n lo hi = (decide (lo ≤ n) && decide (n ≤ hi)) := by
  unfold i_within
  cases decide (lo ≤ n) <;> rfl


/-- spec.WordOk -/
def s_WordOk_N (x0 : Int) (x1 : Int) (γ : Type) (fail : γ) (k : Bool → γ) : γ :=
  letK (α := Bool) (s_l1In x1 1 62) fun c1 =>
  bif c1 then
    bif (decide (0 ≤ (IntKind.wrap .u64 x1))) then
    letK (α := Int) (IntKind.wrap .i64 ((IntKind.wrap .i64 (1 * 2 ^ (min (IntKind.wrap .u64 x1).toNat 64))) - 1)) fun e2 =>
    letK (α := Bool) (s_l1In x0 0 e2) fun c3 =>
    k c3
    else fail
  else
  k false
def s_WordOk (x0 : Int) (x1 : Int) : Bool :=
  letK (α := Bool) (s_l1In x1 1 62) fun c1 =>
  bif c1 then
    letK (α := Int) (IntKind.wrap .i64 ((IntKind.wrap .i64 (1 * 2 ^ (min (IntKind.wrap .u64 x1).toNat 64))) - 1)) fun e2 =>
    letK (α := Bool) (s_l1In x0 0 e2) fun c3 =>
    c3
  else
  false
theorem s_WordOk_lk (x0 : Int) (x1 : Int) : evalFn te (orcOf (P := Try.prog) [s_l1In_e]) lorc0 [] Try.f72 (pvs [.sc (.int .i64), .sc (.int .i64)] (x0, x1, ())) =
  s_WordOk_N x0 x1 _ none (fun v => some [rv (.sc .bool) [] v]) := by kernel_rfl
theorem s_WordOk_p (x0 : Int) (x1 : Int) (hx0 : inK .i64 x0) (hx1 : inK .i64 x1)  (γ : Type) (fail : γ) (k : Bool → γ) : s_WordOk_N x0 x1 γ fail k = k (s_WordOk x0 x1) := by
  unfold s_WordOk_N s_WordOk
  exact letT (f := k) (fun c1 hc1 => bifT (f := k) (fun b0 => bifG (by simp only [decide_eq_true_eq]; exact wrapU_nonneg _) (letT (f := k) (fun e2 he2 => letT (f := k) (fun c3 hc3 => rfl))))
      (fun b0 => rfl))
theorem s_WordOk_c (x0 : Int) (x1 : Int)  : Con Try.prog 72 (pvs [.sc (.int .i64), .sc (.int .i64)] (x0, x1, ())) [rv (.sc .bool) [] (s_WordOk x0 x1)] := by
  refine Con.of_facts (enters_of Try.func72 rfl (by kernel_rfl)) fun hf => ?_
  replace hf := factAt hf
  exact evalFn_con0 teFact mixFact (orcOf_ok _) Try.func72 (by kernel_rfl) ((s_WordOk_lk x0 x1).trans (s_WordOk_p x0 x1 ((hf 0 0 rfl rfl).rng) ((hf 1 0 rfl rfl).rng) _ _ _))
noncomputable def s_WordOk_e : Ent1 Try.prog := entA 72 [.sc (.int .i64), .sc (.int .i64)] (fun x => [rv (.sc .bool) [] (s_WordOk x.1 x.2.1)]) (fun x => s_WordOk_c x.1 x.2.1)


/-- laws.toTuple -/
def w_toTuple_N (x0 : Tupl) (γ : Type) (fail : γ) (k : Tupl → γ) : γ :=
  k x0
def w_toTuple (x0 : Tupl) : Tupl :=
  x0
theorem w_toTuple_lk (x0 : Tupl) : evalFn te (orcOf (P := Try.prog) []) lorc0 [] Try.f73 (pvs [.st .tupl] (x0, ())) =
  w_toTuple_N x0 _ none (fun v => some [rv (.st .tupl) [] v]) := by kernel_rfl
theorem w_toTuple_p (x0 : Tupl)   (γ : Type) (fail : γ) (k : Tupl → γ) : w_toTuple_N x0 γ fail k = k (w_toTuple x0) := by
  unfold w_toTuple_N w_toTuple
  exact rfl
theorem w_toTuple_c (x0 : Tupl)  : Con Try.prog 73 (pvs [.st .tupl] (x0, ())) [rv (.st .tupl) [] (w_toTuple x0)] := by
  exact evalFn_con0 teFact mixFact (orcOf_ok _) Try.func73 (by kernel_rfl) ((w_toTuple_lk x0).trans (w_toTuple_p x0  _ _ _))
noncomputable def w_toTuple_e : Ent1 Try.prog := entA 73 [.st .tupl] (fun x => [rv (.st .tupl) [] (w_toTuple x.1)]) (fun x => w_toTuple_c x.1)


/-- impl.WordOk -/
def i_WordOk_N (x0 : Int) (x1 : Int) (γ : Type) (fail : γ) (k : Bool → γ) : γ :=
  letK (α := Bool) (i_within x1 1 62) fun c1 =>
  bif c1 then
    bif (decide (0 ≤ x1)) then
    letK (α := Int) (IntKind.wrap .i64 ((IntKind.wrap .i64 (1 * 2 ^ (min x1.toNat 64))) - 1)) fun e2 =>
    letK (α := Bool) (i_within x0 0 e2) fun c3 =>
    k c3
    else fail
  else
  k false
def i_WordOk (x0 : Int) (x1 : Int) : Bool :=
  letK (α := Bool) (i_within x1 1 62) fun c1 =>
  bif c1 then
    letK (α := Int) (IntKind.wrap .i64 ((IntKind.wrap .i64 (1 * 2 ^ (min x1.toNat 64))) - 1)) fun e2 =>
    letK (α := Bool) (i_within x0 0 e2) fun c3 =>
    c3
  else
  false
theorem i_WordOk_lk (x0 : Int) (x1 : Int) : evalFn te (orcOf (P := Try.prog) [i_within_e]) lorc0 [] Try.f76 (pvs [.sc (.int .i64), .sc (.int .i64)] (x0, x1, ())) =
  i_WordOk_N x0 x1 _ none (fun v => some [rv (.sc .bool) [] v]) := by kernel_rfl
theorem i_WordOk_p (x0 : Int) (x1 : Int) (hx0 : inK .i64 x0) (hx1 : inK .i64 x1)  (γ : Type) (fail : γ) (k : Bool → γ) : i_WordOk_N x0 x1 γ fail k = k (i_WordOk x0 x1) := by
  unfold i_WordOk_N i_WordOk
  exact letT (f := k) (fun c1 hc1 => bifT (f := k) (fun b0 => bifG (by (try simp only [Nat.ble_eq, Bool.and_eq_true, decide_eq_true_eq]); grind [maxSl, maxStr, i_within_eq]) (letT (f := k) (fun e2 he2 => letT (f := k) (fun c3 hc3 => rfl))))
      (fun b0 => rfl))
theorem i_WordOk_c (x0 : Int) (x1 : Int)  : Con Try.prog 76 (pvs [.sc (.int .i64), .sc (.int .i64)] (x0, x1, ())) [rv (.sc .bool) [] (i_WordOk x0 x1)] := by
  refine Con.of_facts (enters_of Try.func76 rfl (by kernel_rfl)) fun hf => ?_
  replace hf := factAt hf
  exact evalFn_con0 teFact mixFact (orcOf_ok _) Try.func76 (by kernel_rfl) ((i_WordOk_lk x0 x1).trans (i_WordOk_p x0 x1 ((hf 0 0 rfl rfl).rng) ((hf 1 0 rfl rfl).rng) _ _ _))
noncomputable def i_WordOk_e : Ent1 Try.prog := entA 76 [.sc (.int .i64), .sc (.int .i64)] (fun x => [rv (.sc .bool) [] (i_WordOk x.1 x.2.1)]) (fun x => i_WordOk_c x.1 x.2.1)


/-- laws.eqIssue -/
def w_eqIssue_N (x0 : Issu) (x1 : Issu) (γ : Type) (fail : γ) (k : Bool → γ) : γ :=
  letK (α := Bool) (w_eqTuple x0.tuple x1.tuple) fun c1 =>
  bif (!c1) then
    k false
  else
  bif (x0.seq != x1.seq) then
    k false
  else
  bif (x0.cookie != x1.cookie) then
    k false
  else
  k true
def w_eqIssue (x0 : Issu) (x1 : Issu) : Bool :=
  letK (α := Bool) (w_eqTuple x0.tuple x1.tuple) fun c1 =>
  bif (!c1) then
    false
  else
  bif (x0.seq != x1.seq) then
    false
  else
  bif (x0.cookie != x1.cookie) then
    false
  else
  true
theorem w_eqIssue_lk (x0 : Issu) (x1 : Issu) : evalFn te (orcOf (P := Try.prog) [w_eqTuple_e]) lorc0 [] Try.f78 (pvs [.st .issu, .st .issu] (x0, x1, ())) =
  w_eqIssue_N x0 x1 _ none (fun v => some [rv (.sc .bool) [] v]) := by kernel_rfl
theorem w_eqIssue_p (x0 : Issu) (x1 : Issu)   (γ : Type) (fail : γ) (k : Bool → γ) : w_eqIssue_N x0 x1 γ fail k = k (w_eqIssue x0 x1) := by
  unfold w_eqIssue_N w_eqIssue
  exact letT (f := k) (fun c1 hc1 => bifT (f := k) (fun b0 => rfl)
      (fun b0 => bifT (f := k) (fun b1 => rfl)
      (fun b1 => bifT (f := k) (fun b2 => rfl)
      (fun b2 => rfl))))
theorem w_eqIssue_c (x0 : Issu) (x1 : Issu)  : Con Try.prog 78 (pvs [.st .issu, .st .issu] (x0, x1, ())) [rv (.sc .bool) [] (w_eqIssue x0 x1)] := by
  exact evalFn_con0 teFact mixFact (orcOf_ok _) Try.func78 (by kernel_rfl) ((w_eqIssue_lk x0 x1).trans (w_eqIssue_p x0 x1  _ _ _))
noncomputable def w_eqIssue_e : Ent1 Try.prog := entA 78 [.st .issu, .st .issu] (fun x => [rv (.sc .bool) [] (w_eqIssue x.1 x.2.1)]) (fun x => w_eqIssue_c x.1 x.2.1)


/-- spec.NoOptions -/
def s_NoOptions_N  (γ : Type) (fail : γ) (k : Opti → γ) : γ :=
  k (⟨0, (-1), false, false, 0, 0⟩ : Opti)
def s_NoOptions  : Opti :=
  (⟨0, (-1), false, false, 0, 0⟩ : Opti)
theorem s_NoOptions_lk  : evalFn te (orcOf (P := Try.prog) []) lorc0 [] Try.f79 (pvs [] (())) =
  s_NoOptions_N  _ none (fun v => some [rv (.st .opti) [] v]) := by kernel_rfl
theorem s_NoOptions_p    (γ : Type) (fail : γ) (k : Opti → γ) : s_NoOptions_N  γ fail k = k (s_NoOptions ) := by
  unfold s_NoOptions_N s_NoOptions
  exact rfl
theorem s_NoOptions_c   : Con Try.prog 79 (pvs [] (())) [rv (.st .opti) [] s_NoOptions] := by
  exact evalFn_con0 teFact mixFact (orcOf_ok _) Try.func79 (by kernel_rfl) ((s_NoOptions_lk ).trans (s_NoOptions_p   _ _ _))
noncomputable def s_NoOptions_e : Ent1 Try.prog := entA 79 [] (fun x => [rv (.st .opti) [] s_NoOptions]) (fun x => s_NoOptions_c )


/-- spec.MssOf -/
def s_MssOf_N (x0 : Int) (γ : Type) (fail : γ) (k : Int → γ) : γ :=
  letK (α := Bool) (s_l1In x0 0 7) fun c1 =>
  bif (!c1) then
    k 0
  else
  bif ((decide (0 ≤ x0)) && (decide (x0 < 8))) then
  k ([64, 256, 536, 1024, 1300, 1400, 1440, 1460].getD x0.toNat 0)
  else fail
def s_MssOf (x0 : Int) : Int :=
  letK (α := Bool) (s_l1In x0 0 7) fun c1 =>
  bif (!c1) then
    0
  else
  ([64, 256, 536, 1024, 1300, 1400, 1440, 1460].getD x0.toNat 0)
theorem s_MssOf_lk (x0 : Int) : evalFn te (orcOf (P := Try.prog) [s_l1In_e]) lorc0 [] Try.f80 (pvs [.sc (.int .i64)] (x0, ())) =
  s_MssOf_N x0 _ none (fun v => some [rv (.sc (.int .i64)) [] v]) := by kernel_rfl
theorem s_MssOf_p (x0 : Int) (hx0 : inK .i64 x0)  (γ : Type) (fail : γ) (k : Int → γ) : s_MssOf_N x0 γ fail k = k (s_MssOf x0) := by
  unfold s_MssOf_N s_MssOf
  exact letT (f := k) (fun c1 hc1 => bifT (f := k) (fun b0 => rfl)
      (fun b0 => bifG (by (try simp only [Nat.ble_eq, Bool.and_eq_true, decide_eq_true_eq]); grind [maxSl, maxStr, s_l1In_eq]) (rfl)))
theorem s_MssOf_c (x0 : Int)  : Con Try.prog 80 (pvs [.sc (.int .i64)] (x0, ())) [rv (.sc (.int .i64)) [] (s_MssOf x0)] := by
  refine Con.of_facts (enters_of Try.func80 rfl (by kernel_rfl)) fun hf => ?_
  replace hf := factAt hf
  exact evalFn_con0 teFact mixFact (orcOf_ok _) Try.func80 (by kernel_rfl) ((s_MssOf_lk x0).trans (s_MssOf_p x0 ((hf 0 0 rfl rfl).rng) _ _ _))
noncomputable def s_MssOf_e : Ent1 Try.prog := entA 80 [.sc (.int .i64)] (fun x => [rv (.sc (.int .i64)) [] (s_MssOf x.1)]) (fun x => s_MssOf_c x.1)


/-- spec.MssIndex -/
def s_MssIndex_ann : List (Nat × Keep) := [(0, ⟨[0, 3, 4], [], false⟩)]
def s_MssIndex_L0_sh : Sh := ⟨[(0, false, [.int .i64]), (3, false, [.int .i64]), (4, false, [.int .i64])], []⟩
def s_MssIndex_L0_es : List (Ex × Sh) := [(.exit 0, ⟨[(2, false, [.undef]), (3, false, [.int .i64])], []⟩)]
def s_MssIndex_L0_mk (v0 : Int) (v1 : Int) (v2 : Int) : s_MssIndex_L0_sh.T := (((v0, ()), ((v1, ()), ((v2, ()), ()))), ())
def s_MssIndex_L0_mx0 (y0 : Int) : Sh.T ⟨[(2, false, [.undef]), (3, false, [.int .i64])], []⟩ := ((((), ()), ((y0, ()), ())), ())
def s_MssIndex_L0_B (v0 : Int) (v1 : Int) (v2 : Int) (γ : Type) (fail : γ) (next : s_MssIndex_L0_sh.T → γ) (out : WT s_MssIndex_L0_es → γ) : γ :=
  bif (decide (v2 < 8)) then
    letK (α := Int) (s_MssOf v2) fun c1 =>
    bif (decide (c1 ≤ v0)) then
      next (s_MssIndex_L0_mk v0 v2 (IntKind.wrap .i64 (v2 + 1)))
    else
    next (s_MssIndex_L0_mk v0 v1 (IntKind.wrap .i64 (v2 + 1)))
  else
  out (s_MssIndex_L0_mx0 v1)
theorem s_MssIndex_L0_par (v0 : Int) (v1 : Int) (v2 : Int) (γ : Type) (fail : γ) (next : s_MssIndex_L0_sh.T → γ) (out : WT s_MssIndex_L0_es → γ) : s_MssIndex_L0_B v0 v1 v2 γ fail next out = optK (s_MssIndex_L0_B v0 v1 v2 _ none (fun v' => some (.inl v')) (fun w => some (.inr w))) fail (fun r => Sum.elim next out r) := by
  unfold s_MssIndex_L0_B
  exact bifT (f := (fun o => optK o fail (fun r => Sum.elim next out r))) (fun _ => letT (f := (fun o => optK o fail (fun r => Sum.elim next out r))) (fun c1 _ => bifT (f := (fun o => optK o fail (fun r => Sum.elim next out r))) (fun _ => rfl)
      (fun _ => rfl)))
      (fun _ => rfl)
def s_MssIndex_L0_r : Round s_MssIndex_L0_sh.T (WT s_MssIndex_L0_es) where
  B v γ fail next out := s_MssIndex_L0_B v.1.1.1 v.1.2.1.1 v.1.2.2.1.1 γ fail next out
  par v γ fail next out := s_MssIndex_L0_par v.1.1.1 v.1.2.1.1 v.1.2.2.1.1 γ fail next out
def s_MssIndex_L0_fu (v0 : Int) (v1 : Int) (v2 : Int) : Nat := (Int.toNat (8 - v2)) + 1
theorem s_MssIndex_L0_lk (v : s_MssIndex_L0_sh.T) (next : St → Option Res) (k : Ex → St → Option Res) : evalK te (orcOf (P := Try.prog) [s_MssOf_e]) (lorcOf []) Try.f81.ntmps s_MssIndex_ann (nthLoop (bodyOf Try.f81) 0 0) 0 (s_MssIndex_L0_sh.enc v) (endK ⟨[0, 3, 4], [], false⟩ ⟨[2, 3], [], false⟩ next k) =
  s_MssIndex_L0_r.B v _ none (fun v' => next (s_MssIndex_L0_sh.enc v')) (fun w => outK s_MssIndex_L0_es k w) := by kernel_rfl
def s_MssIndex_L0_le : LE := leOf 0 s_MssIndex_L0_sh s_MssIndex_L0_es s_MssIndex_L0_r.step (fun v => s_MssIndex_L0_fu v.1.1.1 v.1.2.1.1 v.1.2.2.1.1)
theorem s_MssIndex_L0_ls (w0 : World) (I0 : Nat → Prop) : LSem Try.prog (Sim w0 Try.f81.ntmps I0) (fun b s k => match Nat.beq 0 b with | true => s_MssIndex_L0_le.run s k | false => none) 0 (nthLoop (bodyOf Try.f81) 0 0) :=
  le_sem (lorc := lorcOf []) (ann := s_MssIndex_ann) (keep := ⟨[0, 3, 4], [], false⟩) (kout := ⟨[2, 3], [], false⟩) teFact mixFact (orcOf_ok _) (allLoops_of (bs := []) (by kernel_rfl) trivial) s_MssIndex_L0_r _ s_MssIndex_L0_lk
def s_MssIndex_L0_f (v0 : Int) (v2 : Int) (a : Int) : Stp (Int) (Empty) :=
  letK (α := Int) (s_MssOf v2) fun c1 =>
  bif (decide (c1 ≤ v0)) then
    .next v2
  else
  .next a
theorem s_MssIndex_L0_st (v0 : Int) (v1 : Int) (v2 : Int) (hlo : 0 ≤ v2) (hhi : v2 < 8) (hN : 8 ≤ 4611686018427387904) : s_MssIndex_L0_r.step (s_MssIndex_L0_mk v0 v1 v2) = Stp.elim (fun a' : Int => some (Sum.inl (s_MssIndex_L0_mk v0 a' (v2 + 1)))) (fun w => some (Sum.inr ((fun p : Empty => nomatch p) w))) (s_MssIndex_L0_f v0 v2 v1) := by
  have hw : (IntKind.wrap .i64 (v2 + 1)) = v2 + 1 := wrap64 (by omega) (by omega)
  show s_MssIndex_L0_B v0 v1 v2 (Option (s_MssIndex_L0_sh.T ⊕ WT s_MssIndex_L0_es)) none (fun v' => some (Sum.inl v')) (fun w => some (Sum.inr w)) = _
  unfold s_MssIndex_L0_B s_MssIndex_L0_f
  exact bifG (by simp only [decide_eq_true_eq]; omega) (letT (f := (Stp.elim (fun a' : Int => some (Sum.inl (s_MssIndex_L0_mk v0 a' (v2 + 1)))) (fun w => some (Sum.inr ((fun p : Empty => nomatch p) w))))) (fun c1 hc1 => bifT (f := (Stp.elim (fun a' : Int => some (Sum.inl (s_MssIndex_L0_mk v0 a' (v2 + 1)))) (fun w => some (Sum.inr ((fun p : Empty => nomatch p) w))))) (fun b0 => congrArg (fun z => some (Sum.inl (s_MssIndex_L0_mk v0 v2 z))) hw)
      (fun b0 => congrArg (fun z => some (Sum.inl (s_MssIndex_L0_mk v0 v1 z))) hw)))
theorem s_MssIndex_L0_cl (v0 : Int) (v1 : Int) (v2 : Int) (h0 : 0 ≤ v2) (h1 : 8 ≤ 4611686018427387904) : loopF s_MssIndex_L0_r.step (s_MssIndex_L0_fu v0 v1 v2) (s_MssIndex_L0_mk v0 v1 v2) = some (Stp.elim (fun a => (fun i a => s_MssIndex_L0_mx0 a) (v2 + 1 * (((Int.toNat (8 - v2)) : Nat) : Int)) a) (fun p : Empty => nomatch p) (forN (s_MssIndex_L0_f v0) 1 (Int.toNat (8 - v2)) v2 v1)) :=
  forN_loop (step := s_MssIndex_L0_r.step) (mk := fun v2 a => s_MssIndex_L0_mk v0 a v2) (f := s_MssIndex_L0_f v0) (e := (fun i a => s_MssIndex_L0_mx0 a)) (emb := (fun p : Empty => nomatch p)) (st := 1) (Inv := fun v2 a => True) (Int.toNat (8 - v2)) v2 v1 _ (Nat.lt_succ_self _) trivial
    (fun j a hj hv => ⟨s_MssIndex_L0_st v0 a (v2 + 1 * (j : Int)) (by omega) (by omega) (by omega), fun _ _ => trivial⟩)
    (fun a hv => by
      show s_MssIndex_L0_B v0 a (v2 + 1 * (((Int.toNat (8 - v2)) : Nat) : Int)) (Option (s_MssIndex_L0_sh.T ⊕ WT s_MssIndex_L0_es)) none (fun v' => some (Sum.inl v')) (fun w => some (Sum.inr w)) = _
      unfold s_MssIndex_L0_B
      exact bifN (by simp only [decide_eq_false_iff_not]; omega) rfl)
def s_MssIndex_N (x0 : Int) (γ : Type) (fail : γ) (k : Int → γ) : γ :=
  optK (loopF s_MssIndex_L0_r.step (s_MssIndex_L0_fu x0 0 0) (s_MssIndex_L0_mk x0 0 0)) fail fun w2 =>
    k w2.1.2.1.1
def s_MssIndex (x0 : Int) : Int :=
  Stp.elim (fun a3 =>
    a3)
    (fun p : Empty => nomatch p)
    (forN (s_MssIndex_L0_f x0) 1 (Int.toNat (8 - 0)) 0 0)
theorem s_MssIndex_lk (x0 : Int) : evalFn te (orcOf (P := Try.prog) [s_MssOf_e]) (lorcOf [s_MssIndex_L0_le]) s_MssIndex_ann Try.f81 (pvs [.sc (.int .i64)] (x0, ())) =
  s_MssIndex_N x0 _ none (fun v => some [rv (.sc (.int .i64)) [] v]) := by kernel_rfl
theorem s_MssIndex_p (x0 : Int) (hx0 : inK .i64 x0)  (γ : Type) (fail : γ) (k : Int → γ) : s_MssIndex_N x0 γ fail k = k (s_MssIndex x0) := by
  unfold s_MssIndex_N s_MssIndex
  exact loopT (f := k) (s_MssIndex_L0_cl x0 0 0 (by (try simp only [Nat.ble_eq, Bool.and_eq_true, decide_eq_true_eq]); grind [maxSl, maxStr]) (by (try simp only [Nat.ble_eq, Bool.and_eq_true, decide_eq_true_eq]); grind [maxSl, maxStr])) (fun a3 => rfl)
      (fun p : Empty => nomatch p)
theorem s_MssIndex_c (x0 : Int)  : Con Try.prog 81 (pvs [.sc (.int .i64)] (x0, ())) [rv (.sc (.int .i64)) [] (s_MssIndex x0)] := by
  refine Con.of_facts (enters_of Try.func81 rfl (by kernel_rfl)) fun hf => ?_
  replace hf := factAt hf
  exact evalFn_conL teFact mixFact (orcOf_ok _) Try.func81 (by kernel_rfl) (bs := [0]) (by kernel_rfl) (fun w0 I0 => ⟨lsem_of_lorc (s_MssIndex_L0_ls w0 I0) (by kernel_rfl), trivial⟩) ((s_MssIndex_lk x0).trans (s_MssIndex_p x0 ((hf 0 0 rfl rfl).rng) _ _ _))
noncomputable def s_MssIndex_e : Ent1 Try.prog := entA 81 [.sc (.int .i64)] (fun x => [rv (.sc (.int .i64)) [] (s_MssIndex x.1)]) (fun x => s_MssIndex_c x.1)


/-- impl.NoOptions -/
def i_NoOptions_N  (γ : Type) (fail : γ) (k : Opti → γ) : γ :=
  k (⟨0, (-1), false, false, 0, 0⟩ : Opti)
def i_NoOptions  : Opti :=
  (⟨0, (-1), false, false, 0, 0⟩ : Opti)
theorem i_NoOptions_lk  : evalFn te (orcOf (P := Try.prog) []) lorc0 [] Try.f83 (pvs [] (())) =
  i_NoOptions_N  _ none (fun v => some [rv (.st .opti) [] v]) := by kernel_rfl
theorem i_NoOptions_p    (γ : Type) (fail : γ) (k : Opti → γ) : i_NoOptions_N  γ fail k = k (i_NoOptions ) := by
  unfold i_NoOptions_N i_NoOptions
  exact rfl
theorem i_NoOptions_c   : Con Try.prog 83 (pvs [] (())) [rv (.st .opti) [] i_NoOptions] := by
  exact evalFn_con0 teFact mixFact (orcOf_ok _) Try.func83 (by kernel_rfl) ((i_NoOptions_lk ).trans (i_NoOptions_p   _ _ _))
noncomputable def i_NoOptions_e : Ent1 Try.prog := entA 83 [] (fun x => [rv (.st .opti) [] i_NoOptions]) (fun x => i_NoOptions_c )


/-- impl.MssOf -/
def i_MssOf_N (x0 : Int) (γ : Type) (fail : γ) (k : Int → γ) : γ :=
  letK (α := Bool) (i_within x0 0 7) fun c1 =>
  bif (!c1) then
    k 0
  else
  bif ((decide (0 ≤ x0)) && (decide (x0 < 8))) then
  k ([64, 256, 536, 1024, 1300, 1400, 1440, 1460].getD x0.toNat 0)
  else fail
def i_MssOf (x0 : Int) : Int :=
  letK (α := Bool) (i_within x0 0 7) fun c1 =>
  bif (!c1) then
    0
  else
  ([64, 256, 536, 1024, 1300, 1400, 1440, 1460].getD x0.toNat 0)
theorem i_MssOf_lk (x0 : Int) : evalFn te (orcOf (P := Try.prog) [i_within_e]) lorc0 [] Try.f84 (pvs [.sc (.int .i64)] (x0, ())) =
  i_MssOf_N x0 _ none (fun v => some [rv (.sc (.int .i64)) [] v]) := by kernel_rfl
theorem i_MssOf_p (x0 : Int) (hx0 : inK .i64 x0)  (γ : Type) (fail : γ) (k : Int → γ) : i_MssOf_N x0 γ fail k = k (i_MssOf x0) := by
  unfold i_MssOf_N i_MssOf
  exact letT (f := k) (fun c1 hc1 => bifT (f := k) (fun b0 => rfl)
      (fun b0 => bifG (by (try simp only [Nat.ble_eq, Bool.and_eq_true, decide_eq_true_eq]); grind [maxSl, maxStr, i_within_eq]) (rfl)))
theorem i_MssOf_c (x0 : Int)  : Con Try.prog 84 (pvs [.sc (.int .i64)] (x0, ())) [rv (.sc (.int .i64)) [] (i_MssOf x0)] := by
  refine Con.of_facts (enters_of Try.func84 rfl (by kernel_rfl)) fun hf => ?_
  replace hf := factAt hf
  exact evalFn_con0 teFact mixFact (orcOf_ok _) Try.func84 (by kernel_rfl) ((i_MssOf_lk x0).trans (i_MssOf_p x0 ((hf 0 0 rfl rfl).rng) _ _ _))
noncomputable def i_MssOf_e : Ent1 Try.prog := entA 84 [.sc (.int .i64)] (fun x => [rv (.sc (.int .i64)) [] (i_MssOf x.1)]) (fun x => i_MssOf_c x.1)


/-- impl.MssIndex -/
def i_MssIndex_ann : List (Nat × Keep) := [(0, ⟨[0, 3], [], false⟩)]
def i_MssIndex_L0_sh : Sh := ⟨[(0, false, [.int .i64]), (3, false, [.int .i64])], []⟩
def i_MssIndex_L0_es : List (Ex × Sh) := [(.ret, ⟨[(2, false, [.int .i64])], []⟩), (.exit 0, ⟨[(2, false, [.undef])], []⟩)]
def i_MssIndex_L0_mk (v0 : Int) (v1 : Int) : i_MssIndex_L0_sh.T := (((v0, ()), ((v1, ()), ())), ())
def i_MssIndex_L0_mx0 (y0 : Int) : Sh.T ⟨[(2, false, [.int .i64])], []⟩ := (((y0, ()), ()), ())
def i_MssIndex_L0_mx1  : Sh.T ⟨[(2, false, [.undef])], []⟩ := ((((), ()), ()), ())
def i_MssIndex_L0_B (v0 : Int) (v1 : Int) (γ : Type) (fail : γ) (next : i_MssIndex_L0_sh.T → γ) (out : WT i_MssIndex_L0_es → γ) : γ :=
  bif (decide (0 < v1)) then
    letK (α := Int) (i_MssOf v1) fun c1 =>
    bif (decide (c1 ≤ v0)) then
      out (Sum.inl (i_MssIndex_L0_mx0 v1))
    else
    next (i_MssIndex_L0_mk v0 (IntKind.wrap .i64 (v1 - 1)))
  else
  out (Sum.inr (i_MssIndex_L0_mx1 ))
theorem i_MssIndex_L0_par (v0 : Int) (v1 : Int) (γ : Type) (fail : γ) (next : i_MssIndex_L0_sh.T → γ) (out : WT i_MssIndex_L0_es → γ) : i_MssIndex_L0_B v0 v1 γ fail next out = optK (i_MssIndex_L0_B v0 v1 _ none (fun v' => some (.inl v')) (fun w => some (.inr w))) fail (fun r => Sum.elim next out r) := by
  unfold i_MssIndex_L0_B
  exact bifT (f := (fun o => optK o fail (fun r => Sum.elim next out r))) (fun _ => letT (f := (fun o => optK o fail (fun r => Sum.elim next out r))) (fun c1 _ => bifT (f := (fun o => optK o fail (fun r => Sum.elim next out r))) (fun _ => rfl)
      (fun _ => rfl)))
      (fun _ => rfl)
def i_MssIndex_L0_r : Round i_MssIndex_L0_sh.T (WT i_MssIndex_L0_es) where
  B v γ fail next out := i_MssIndex_L0_B v.1.1.1 v.1.2.1.1 γ fail next out
  par v γ fail next out := i_MssIndex_L0_par v.1.1.1 v.1.2.1.1 γ fail next out
def i_MssIndex_L0_fu (v0 : Int) (v1 : Int) : Nat := (Int.toNat (v1 - 0)) + 1
theorem i_MssIndex_L0_lk (v : i_MssIndex_L0_sh.T) (next : St → Option Res) (k : Ex → St → Option Res) : evalK te (orcOf (P := Try.prog) [i_MssOf_e]) (lorcOf []) Try.f85.ntmps i_MssIndex_ann (nthLoop (bodyOf Try.f85) 0 0) 0 (i_MssIndex_L0_sh.enc v) (endK ⟨[0, 3], [], false⟩ ⟨[2], [], false⟩ next k) =
  i_MssIndex_L0_r.B v _ none (fun v' => next (i_MssIndex_L0_sh.enc v')) (fun w => outK i_MssIndex_L0_es k w) := by kernel_rfl
def i_MssIndex_L0_le : LE := leOf 0 i_MssIndex_L0_sh i_MssIndex_L0_es i_MssIndex_L0_r.step (fun v => i_MssIndex_L0_fu v.1.1.1 v.1.2.1.1)
theorem i_MssIndex_L0_ls (w0 : World) (I0 : Nat → Prop) : LSem Try.prog (Sim w0 Try.f85.ntmps I0) (fun b s k => match Nat.beq 0 b with | true => i_MssIndex_L0_le.run s k | false => none) 0 (nthLoop (bodyOf Try.f85) 0 0) :=
  le_sem (lorc := lorcOf []) (ann := i_MssIndex_ann) (keep := ⟨[0, 3], [], false⟩) (kout := ⟨[2], [], false⟩) teFact mixFact (orcOf_ok _) (allLoops_of (bs := []) (by kernel_rfl) trivial) i_MssIndex_L0_r _ i_MssIndex_L0_lk
def i_MssIndex_L0_f (v0 : Int) (v1 : Int) (a : Unit) : Stp (Unit) ((Int)) :=
  letK (α := Int) (i_MssOf v1) fun c1 =>
  bif (decide (c1 ≤ v0)) then
    .out (v1)
  else
  .next ()
theorem i_MssIndex_L0_st (v0 : Int) (v1 : Int) (hlo : 0 < v1) (hhi : v1 ≤ 4611686018427387904) (hN : 0 ≤ 0) : i_MssIndex_L0_r.step (i_MssIndex_L0_mk v0 v1) = Stp.elim (fun a' : Unit => some (Sum.inl (i_MssIndex_L0_mk v0 (v1 + (-1))))) (fun w => some (Sum.inr ((fun p => Sum.inl (i_MssIndex_L0_mx0 p)) w))) (i_MssIndex_L0_f v0 v1 ()) := by
  have hw : (IntKind.wrap .i64 (v1 - 1)) = v1 + (-1) := wrap64 (by omega) (by omega)
  show i_MssIndex_L0_B v0 v1 (Option (i_MssIndex_L0_sh.T ⊕ WT i_MssIndex_L0_es)) none (fun v' => some (Sum.inl v')) (fun w => some (Sum.inr w)) = _
  unfold i_MssIndex_L0_B i_MssIndex_L0_f
  exact bifG (by simp only [decide_eq_true_eq]; omega) (letT (f := (Stp.elim (fun a' : Unit => some (Sum.inl (i_MssIndex_L0_mk v0 (v1 + (-1))))) (fun w => some (Sum.inr ((fun p => Sum.inl (i_MssIndex_L0_mx0 p)) w))))) (fun c1 hc1 => bifT (f := (Stp.elim (fun a' : Unit => some (Sum.inl (i_MssIndex_L0_mk v0 (v1 + (-1))))) (fun w => some (Sum.inr ((fun p => Sum.inl (i_MssIndex_L0_mx0 p)) w))))) (fun b0 => rfl)
      (fun b0 => congrArg (fun z => some (Sum.inl (i_MssIndex_L0_mk v0 z))) hw)))
theorem i_MssIndex_L0_cl (v0 : Int) (v1 : Int) (h0 : v1 ≤ 4611686018427387904) (h1 : 0 ≤ 0) : loopF i_MssIndex_L0_r.step (i_MssIndex_L0_fu v0 v1) (i_MssIndex_L0_mk v0 v1) = some (Stp.elim (fun a => (fun i a => Sum.inr (i_MssIndex_L0_mx1 )) (v1 + (-1) * (((Int.toNat (v1 - 0)) : Nat) : Int)) a) (fun p => Sum.inl (i_MssIndex_L0_mx0 p)) (forN (i_MssIndex_L0_f v0) (-1) (Int.toNat (v1 - 0)) v1 ())) :=
  forN_loop (step := i_MssIndex_L0_r.step) (mk := fun v1 a => i_MssIndex_L0_mk v0 v1) (f := i_MssIndex_L0_f v0) (e := (fun i a => Sum.inr (i_MssIndex_L0_mx1 ))) (emb := (fun p => Sum.inl (i_MssIndex_L0_mx0 p))) (st := (-1)) (Inv := fun v1 a => True) (Int.toNat (v1 - 0)) v1 () _ (Nat.lt_succ_self _) trivial
    (fun j a hj hv => ⟨i_MssIndex_L0_st v0 (v1 + (-1) * (j : Int)) (by omega) (by omega) (by omega), fun _ _ => trivial⟩)
    (fun a hv => by
      show i_MssIndex_L0_B v0 (v1 + (-1) * (((Int.toNat (v1 - 0)) : Nat) : Int)) (Option (i_MssIndex_L0_sh.T ⊕ WT i_MssIndex_L0_es)) none (fun v' => some (Sum.inl v')) (fun w => some (Sum.inr w)) = _
      unfold i_MssIndex_L0_B
      exact bifN (by simp only [decide_eq_false_iff_not]; omega) rfl)
def i_MssIndex_N (x0 : Int) (γ : Type) (fail : γ) (k : Int → γ) : γ :=
  optK (loopF i_MssIndex_L0_r.step (i_MssIndex_L0_fu x0 7) (i_MssIndex_L0_mk x0 7)) fail fun w2 =>
    Sum.elim (fun w2 =>
      k w2.1.1.1)
    (fun w2 =>
      k 0) w2
def i_MssIndex (x0 : Int) : Int :=
  Stp.elim (fun a3 =>
    0)
    (fun p3 =>
      p3)
    (forN (i_MssIndex_L0_f x0) (-1) (Int.toNat (7 - 0)) 7 ())
theorem i_MssIndex_lk (x0 : Int) : evalFn te (orcOf (P := Try.prog) [i_MssOf_e]) (lorcOf [i_MssIndex_L0_le]) i_MssIndex_ann Try.f85 (pvs [.sc (.int .i64)] (x0, ())) =
  i_MssIndex_N x0 _ none (fun v => some [rv (.sc (.int .i64)) [] v]) := by kernel_rfl
theorem i_MssIndex_p (x0 : Int) (hx0 : inK .i64 x0)  (γ : Type) (fail : γ) (k : Int → γ) : i_MssIndex_N x0 γ fail k = k (i_MssIndex x0) := by
  unfold i_MssIndex_N i_MssIndex
  exact loopT (f := k) (i_MssIndex_L0_cl x0 7 (by (try simp only [Nat.ble_eq, Bool.and_eq_true, decide_eq_true_eq]); grind [maxSl, maxStr]) (by (try simp only [Nat.ble_eq, Bool.and_eq_true, decide_eq_true_eq]); grind [maxSl, maxStr])) (fun a3 => rfl)
      (fun p3 => rfl)
theorem i_MssIndex_c (x0 : Int)  : Con Try.prog 85 (pvs [.sc (.int .i64)] (x0, ())) [rv (.sc (.int .i64)) [] (i_MssIndex x0)] := by
  refine Con.of_facts (enters_of Try.func85 rfl (by kernel_rfl)) fun hf => ?_
  replace hf := factAt hf
  exact evalFn_conL teFact mixFact (orcOf_ok _) Try.func85 (by kernel_rfl) (bs := [0]) (by kernel_rfl) (fun w0 I0 => ⟨lsem_of_lorc (i_MssIndex_L0_ls w0 I0) (by kernel_rfl), trivial⟩) ((i_MssIndex_lk x0).trans (i_MssIndex_p x0 ((hf 0 0 rfl rfl).rng) _ _ _))
noncomputable def i_MssIndex_e : Ent1 Try.prog := entA 85 [.sc (.int .i64)] (fun x => [rv (.sc (.int .i64)) [] (i_MssIndex x.1)]) (fun x => i_MssIndex_c x.1)


/-- impl.peerMss -/
def i_peerMss_N (x0 : Opti) (γ : Type) (fail : γ) (k : Int → γ) : γ :=
  bif (x0.mss == 0) then
    k 536
  else
  k x0.mss
def i_peerMss (x0 : Opti) : Int :=
  bif (x0.mss == 0) then
    536
  else
  x0.mss
theorem i_peerMss_lk (x0 : Opti) : evalFn te (orcOf (P := Try.prog) []) lorc0 [] Try.f86 (pvs [.st .opti] (x0, ())) =
  i_peerMss_N x0 _ none (fun v => some [rv (.sc (.int .i64)) [] v]) := by kernel_rfl
theorem i_peerMss_p (x0 : Opti)   (γ : Type) (fail : γ) (k : Int → γ) : i_peerMss_N x0 γ fail k = k (i_peerMss x0) := by
  unfold i_peerMss_N i_peerMss
  exact bifT (f := k) (fun b0 => rfl)
      (fun b0 => rfl)
theorem i_peerMss_c (x0 : Opti)  : Con Try.prog 86 (pvs [.st .opti] (x0, ())) [rv (.sc (.int .i64)) [] (i_peerMss x0)] := by
  exact evalFn_con0 teFact mixFact (orcOf_ok _) Try.func86 (by kernel_rfl) ((i_peerMss_lk x0).trans (i_peerMss_p x0  _ _ _))
noncomputable def i_peerMss_e : Ent1 Try.prog := entA 86 [.st .opti] (fun x => [rv (.sc (.int .i64)) [] (i_peerMss x.1)]) (fun x => i_peerMss_c x.1)


/-- impl.SeqAdd -/
def i_SeqAdd_N (x0 : Int) (x1 : Int) (γ : Type) (fail : γ) (k : Int → γ) : γ :=
  k (bits .and .i64 (IntKind.wrap .i64 (x0 + x1)) 4294967295)
def i_SeqAdd (x0 : Int) (x1 : Int) : Int :=
  (bits .and .i64 (IntKind.wrap .i64 (x0 + x1)) 4294967295)
theorem i_SeqAdd_lk (x0 : Int) (x1 : Int) : evalFn te (orcOf (P := Try.prog) []) lorc0 [] Try.f87 (pvs [.sc (.int .i64), .sc (.int .i64)] (x0, x1, ())) =
  i_SeqAdd_N x0 x1 _ none (fun v => some [rv (.sc (.int .i64)) [] v]) := by kernel_rfl
theorem i_SeqAdd_p (x0 : Int) (x1 : Int)   (γ : Type) (fail : γ) (k : Int → γ) : i_SeqAdd_N x0 x1 γ fail k = k (i_SeqAdd x0 x1) := by
  unfold i_SeqAdd_N i_SeqAdd
  exact rfl
theorem i_SeqAdd_c (x0 : Int) (x1 : Int)  : Con Try.prog 87 (pvs [.sc (.int .i64), .sc (.int .i64)] (x0, x1, ())) [rv (.sc (.int .i64)) [] (i_SeqAdd x0 x1)] := by
  exact evalFn_con0 teFact mixFact (orcOf_ok _) Try.func87 (by kernel_rfl) ((i_SeqAdd_lk x0 x1).trans (i_SeqAdd_p x0 x1  _ _ _))
noncomputable def i_SeqAdd_e : Ent1 Try.prog := entA 87 [.sc (.int .i64), .sc (.int .i64)] (fun x => [rv (.sc (.int .i64)) [] (i_SeqAdd x.1 x.2.1)]) (fun x => i_SeqAdd_c x.1 x.2.1)


/-- slices.Equal[[]string,string] -/
def g_Equal_string_ann : List (Nat × Keep) := [(0, ⟨[0, 1, 12, 13], [], false⟩)]
def g_Equal_string_L0_sh : Sh := ⟨[(0, false, [.sl .arg .str]), (1, false, [.sl .arg .str]), (12, false, [.int .i64]), (13, false, [.int .i64])], []⟩
def g_Equal_string_L0_es : List (Ex × Sh) := [(.ret, ⟨[(4, false, [.bool])], []⟩), (.exit 0, ⟨[(4, false, [.undef])], []⟩)]
def g_Equal_string_L0_mk (v0 : List Bytes) (v1 : List Bytes) (v2 : Int) (v3 : Int) : g_Equal_string_L0_sh.T := (((v0, ()), ((v1, ()), ((v2, ()), ((v3, ()), ())))), ())
def g_Equal_string_L0_mx0 (y0 : Bool) : Sh.T ⟨[(4, false, [.bool])], []⟩ := (((y0, ()), ()), ())
def g_Equal_string_L0_mx1  : Sh.T ⟨[(4, false, [.undef])], []⟩ := ((((), ()), ()), ())
def g_Equal_string_L0_B (v0 : List Bytes) (v1 : List Bytes) (v2 : Int) (v3 : Int) (γ : Type) (fail : γ) (next : g_Equal_string_L0_sh.T → γ) (out : WT g_Equal_string_L0_es → γ) : γ :=
  bif (decide (v3 < v2)) then
    bif ((decide (0 ≤ v3)) && (decide (v3 < (v0.length : Int)))) then
    bif ((decide (0 ≤ v3)) && (decide (v3 < (v1.length : Int)))) then
    bif (!((v0.getD v3.toNat []) == (v1.getD v3.toNat []))) then
      out (Sum.inl (g_Equal_string_L0_mx0 false))
    else
    next (g_Equal_string_L0_mk v0 v1 v2 (IntKind.wrap .i64 (v3 + 1)))
    else fail
    else fail
  else
  out (Sum.inr (g_Equal_string_L0_mx1 ))
theorem g_Equal_string_L0_par (v0 : List Bytes) (v1 : List Bytes) (v2 : Int) (v3 : Int) (γ : Type) (fail : γ) (next : g_Equal_string_L0_sh.T → γ) (out : WT g_Equal_string_L0_es → γ) : g_Equal_string_L0_B v0 v1 v2 v3 γ fail next out = optK (g_Equal_string_L0_B v0 v1 v2 v3 _ none (fun v' => some (.inl v')) (fun w => some (.inr w))) fail (fun r => Sum.elim next out r) := by
  unfold g_Equal_string_L0_B
  exact bifT (f := (fun o => optK o fail (fun r => Sum.elim next out r))) (fun _ => bifT (f := (fun o => optK o fail (fun r => Sum.elim next out r))) (fun _ => bifT (f := (fun o => optK o fail (fun r => Sum.elim next out r))) (fun _ => bifT (f := (fun o => optK o fail (fun r => Sum.elim next out r))) (fun _ => rfl)
      (fun _ => rfl)) (fun _ => rfl)) (fun _ => rfl))
      (fun _ => rfl)
def g_Equal_string_L0_r : Round g_Equal_string_L0_sh.T (WT g_Equal_string_L0_es) where
  B v γ fail next out := g_Equal_string_L0_B v.1.1.1 v.1.2.1.1 v.1.2.2.1.1 v.1.2.2.2.1.1 γ fail next out
  par v γ fail next out := g_Equal_string_L0_par v.1.1.1 v.1.2.1.1 v.1.2.2.1.1 v.1.2.2.2.1.1 γ fail next out
def g_Equal_string_L0_fu (v0 : List Bytes) (v1 : List Bytes) (v2 : Int) (v3 : Int) : Nat := (Int.toNat (v2 - v3)) + 1
theorem g_Equal_string_L0_lk (v : g_Equal_string_L0_sh.T) (next : St → Option Res) (k : Ex → St → Option Res) : evalK te (orcOf (P := Try.prog) []) (lorcOf []) Try.f88.ntmps g_Equal_string_ann (nthLoop (bodyOf Try.f88) 0 0) 0 (g_Equal_string_L0_sh.enc v) (endK ⟨[0, 1, 12, 13], [], false⟩ ⟨[4], [], false⟩ next k) =
  g_Equal_string_L0_r.B v _ none (fun v' => next (g_Equal_string_L0_sh.enc v')) (fun w => outK g_Equal_string_L0_es k w) := by kernel_rfl
def g_Equal_string_L0_le : LE := leOf 0 g_Equal_string_L0_sh g_Equal_string_L0_es g_Equal_string_L0_r.step (fun v => g_Equal_string_L0_fu v.1.1.1 v.1.2.1.1 v.1.2.2.1.1 v.1.2.2.2.1.1)
theorem g_Equal_string_L0_ls (w0 : World) (I0 : Nat → Prop) : LSem Try.prog (Sim w0 Try.f88.ntmps I0) (fun b s k => match Nat.beq 0 b with | true => g_Equal_string_L0_le.run s k | false => none) 0 (nthLoop (bodyOf Try.f88) 0 0) :=
  le_sem (lorc := lorcOf []) (ann := g_Equal_string_ann) (keep := ⟨[0, 1, 12, 13], [], false⟩) (kout := ⟨[4], [], false⟩) teFact mixFact (orcOf_ok _) (allLoops_of (bs := []) (by kernel_rfl) trivial) g_Equal_string_L0_r _ g_Equal_string_L0_lk
def g_Equal_string_L0_f (v0 : List Bytes) (v1 : List Bytes) (v2 : Int) (v3 : Int) (a : Unit) : Stp (Unit) ((Unit)) :=
  bif (!((v0.getD v3.toNat []) == (v1.getD v3.toNat []))) then
    .out (())
  else
  .next ()
theorem g_Equal_string_L0_st (v0 : List Bytes) (v1 : List Bytes) (v2 : Int) (v3 : Int) (hlo : 0 ≤ v3) (hhi : v3 < v2) (hN : v2 ≤ 4611686018427387904) (hi0 : v2 ≤ (v0.length : Int)) (hi1 : v2 ≤ (v1.length : Int)) : g_Equal_string_L0_r.step (g_Equal_string_L0_mk v0 v1 v2 v3) = Stp.elim (fun a' : Unit => some (Sum.inl (g_Equal_string_L0_mk v0 v1 v2 (v3 + 1)))) (fun w => some (Sum.inr ((fun p => Sum.inl (g_Equal_string_L0_mx0 false)) w))) (g_Equal_string_L0_f v0 v1 v2 v3 ()) := by
  have hw : (IntKind.wrap .i64 (v3 + 1)) = v3 + 1 := wrap64 (by omega) (by omega)
  show g_Equal_string_L0_B v0 v1 v2 v3 (Option (g_Equal_string_L0_sh.T ⊕ WT g_Equal_string_L0_es)) none (fun v' => some (Sum.inl v')) (fun w => some (Sum.inr w)) = _
  unfold g_Equal_string_L0_B g_Equal_string_L0_f
  exact bifG (by simp only [decide_eq_true_eq]; omega) (bifG (by (try simp only [Nat.ble_eq, Bool.and_eq_true, decide_eq_true_eq]); grind [maxSl, maxStr]) (bifG (by (try simp only [Nat.ble_eq, Bool.and_eq_true, decide_eq_true_eq]); grind [maxSl, maxStr]) (bifT (f := (Stp.elim (fun a' : Unit => some (Sum.inl (g_Equal_string_L0_mk v0 v1 v2 (v3 + 1)))) (fun w => some (Sum.inr ((fun p => Sum.inl (g_Equal_string_L0_mx0 false)) w))))) (fun b0 => rfl)
      (fun b0 => congrArg (fun z => some (Sum.inl (g_Equal_string_L0_mk v0 v1 v2 z))) hw))))
theorem g_Equal_string_L0_cl (v0 : List Bytes) (v1 : List Bytes) (v2 : Int) (v3 : Int) (h0 : 0 ≤ v3) (h1 : v2 ≤ 4611686018427387904) (h2 : v2 ≤ (v0.length : Int)) (h3 : v2 ≤ (v1.length : Int)) : loopF g_Equal_string_L0_r.step (g_Equal_string_L0_fu v0 v1 v2 v3) (g_Equal_string_L0_mk v0 v1 v2 v3) = some (Stp.elim (fun a => (fun i a => Sum.inr (g_Equal_string_L0_mx1 )) (v3 + 1 * (((Int.toNat (v2 - v3)) : Nat) : Int)) a) (fun p => Sum.inl (g_Equal_string_L0_mx0 false)) (forN (g_Equal_string_L0_f v0 v1 v2) 1 (Int.toNat (v2 - v3)) v3 ())) :=
  forN_loop (step := g_Equal_string_L0_r.step) (mk := fun v3 a => g_Equal_string_L0_mk v0 v1 v2 v3) (f := g_Equal_string_L0_f v0 v1 v2) (e := (fun i a => Sum.inr (g_Equal_string_L0_mx1 ))) (emb := (fun p => Sum.inl (g_Equal_string_L0_mx0 false))) (st := 1) (Inv := fun v3 a => True) (Int.toNat (v2 - v3)) v3 () _ (Nat.lt_succ_self _) trivial
    (fun j a hj hv => ⟨g_Equal_string_L0_st v0 v1 v2 (v3 + 1 * (j : Int)) (by omega) (by omega) (by omega) h2 h3, fun _ _ => trivial⟩)
    (fun a hv => by
      show g_Equal_string_L0_B v0 v1 v2 (v3 + 1 * (((Int.toNat (v2 - v3)) : Nat) : Int)) (Option (g_Equal_string_L0_sh.T ⊕ WT g_Equal_string_L0_es)) none (fun v' => some (Sum.inl v')) (fun w => some (Sum.inr w)) = _
      unfold g_Equal_string_L0_B
      exact bifN (by simp only [decide_eq_false_iff_not]; omega) rfl)
def g_Equal_string_N (x0 : List Bytes) (x1 : List Bytes) (γ : Type) (fail : γ) (k : Bool → γ) : γ :=
  bif ((x0.length : Int) != (x1.length : Int)) then
    k false
  else
  optK (loopF g_Equal_string_L0_r.step (g_Equal_string_L0_fu x0 x1 (x0.length : Int) 0) (g_Equal_string_L0_mk x0 x1 (x0.length : Int) 0)) fail fun w1 =>
    Sum.elim (fun w1 =>
      k w1.1.1.1)
    (fun w1 =>
      k true) w1
def g_Equal_string (x0 : List Bytes) (x1 : List Bytes) : Bool :=
  bif ((x0.length : Int) != (x1.length : Int)) then
    false
  else
  Stp.elim (fun a2 =>
    true)
    (fun p2 =>
      false)
    (forN (g_Equal_string_L0_f x0 x1 (x0.length : Int)) 1 (Int.toNat ((x0.length : Int) - 0)) 0 ())
theorem g_Equal_string_lk (x0 : List Bytes) (x1 : List Bytes) : evalFn te (orcOf (P := Try.prog) []) (lorcOf [g_Equal_string_L0_le]) g_Equal_string_ann Try.f88 (pvs [.sc (.sl .str), .sc (.sl .str)] (x0, x1, ())) =
  g_Equal_string_N x0 x1 _ none (fun v => some [rv (.sc .bool) [] v]) := by kernel_rfl
theorem g_Equal_string_p (x0 : List Bytes) (x1 : List Bytes) (hx0 : x0.length ≤ 140737488355328) (hx0_e : ∀ y ∈ x0, List.length y ≤ 4611686018427387904) (hx1 : x1.length ≤ 140737488355328) (hx1_e : ∀ y ∈ x1, List.length y ≤ 4611686018427387904)  (γ : Type) (fail : γ) (k : Bool → γ) : g_Equal_string_N x0 x1 γ fail k = k (g_Equal_string x0 x1) := by
  unfold g_Equal_string_N g_Equal_string
  exact bifT (f := k) (fun b0 => rfl)
      (fun b0 => loopT (f := k) (g_Equal_string_L0_cl x0 x1 (x0.length : Int) 0 (by (try simp only [Nat.ble_eq, Bool.and_eq_true, decide_eq_true_eq]); grind [maxSl, maxStr]) (by (try simp only [Nat.ble_eq, Bool.and_eq_true, decide_eq_true_eq]); grind [maxSl, maxStr]) (by (try simp only [Nat.ble_eq, Bool.and_eq_true, decide_eq_true_eq]); grind [maxSl, maxStr]) (by (try simp only [Nat.ble_eq, Bool.and_eq_true, decide_eq_true_eq]); grind [maxSl, maxStr])) (fun a2 => rfl)
      (fun p2 => rfl))
theorem g_Equal_string_c (x0 : List Bytes) (x1 : List Bytes)  : Con Try.prog 88 (pvs [.sc (.sl .str), .sc (.sl .str)] (x0, x1, ())) [rv (.sc .bool) [] (g_Equal_string x0 x1)] := by
  refine Con.of_facts (enters_of Try.func88 rfl (by kernel_rfl)) fun hf => ?_
  replace hf := factAt hf
  exact evalFn_conL teFact mixFact (orcOf_ok _) Try.func88 (by kernel_rfl) (bs := [0]) (by kernel_rfl) (fun w0 I0 => ⟨lsem_of_lorc (g_Equal_string_L0_ls w0 I0) (by kernel_rfl), trivial⟩) ((g_Equal_string_lk x0 x1).trans (g_Equal_string_p x0 x1 ((hf 0 0 rfl rfl).len) (fun y hy => ((hf 0 0 rfl rfl).elem hy (.str y) List.mem_cons_self).slen) ((hf 1 0 rfl rfl).len) (fun y hy => ((hf 1 0 rfl rfl).elem hy (.str y) List.mem_cons_self).slen) _ _ _))
noncomputable def g_Equal_string_e : Ent1 Try.prog := entA 88 [.sc (.sl .str), .sc (.sl .str)] (fun x => [rv (.sc .bool) [] (g_Equal_string x.1 x.2.1)]) (fun x => g_Equal_string_c x.1 x.2.1)


/-- slices.Index[[]impl.Issue,impl.Issue] -/
def g_Index_Issue_ann : List (Nat × Keep) := [(0, ⟨[0, 3, 7, 8], [], false⟩)]
def g_Index_Issue_L0_sh : Sh := ⟨[(0, false, [.sl .arg .issu]), (3, false, [.ptr 0 0]), (7, false, [.int .i64]), (8, false, [.int .i64])], [.box [.int .i64, .int .i64, .int .i64, .int .i64, .int .i64]]⟩
def g_Index_Issue_L0_es : List (Ex × Sh) := [(.ret, ⟨[(4, false, [.int .i64])], []⟩), (.exit 0, ⟨[(4, false, [.undef])], []⟩)]
def g_Index_Issue_L0_mk (v0 : List Issu) (v1 : Int) (v2 : Int) (v3 : Int) (v4 : Int) (v5 : Int) (v6 : Int) (v7 : Int) : g_Index_Issue_L0_sh.T := (((v0, ()), (((), ()), ((v1, ()), ((v2, ()), ())))), ((v3, (v4, (v5, (v6, (v7, ()))))), ()))
def g_Index_Issue_L0_mx0 (y0 : Int) : Sh.T ⟨[(4, false, [.int .i64])], []⟩ := (((y0, ()), ()), ())
def g_Index_Issue_L0_mx1  : Sh.T ⟨[(4, false, [.undef])], []⟩ := ((((), ()), ()), ())
def g_Index_Issue_L0_B (v0 : List Issu) (v1 : Int) (v2 : Int) (v3 : Int) (v4 : Int) (v5 : Int) (v6 : Int) (v7 : Int) (γ : Type) (fail : γ) (next : g_Index_Issue_L0_sh.T → γ) (out : WT g_Index_Issue_L0_es → γ) : γ :=
  bif (decide (v2 < v1)) then
    bif ((decide (0 ≤ v2)) && (decide (v2 < (v0.length : Int)))) then
    letK (α := Bool) (((v3 == (v0.getD v2.toNat (Ty.zero .issu)).tuple.ip) && ((v4 == (v0.getD v2.toNat (Ty.zero .issu)).tuple.port) && ((v5 == (v0.getD v2.toNat (Ty.zero .issu)).tuple.my) && true))) && ((v6 == (v0.getD v2.toNat (Ty.zero .issu)).seq) && ((v7 == (v0.getD v2.toNat (Ty.zero .issu)).cookie) && true))) fun e1 =>
    bif e1 then
      out (Sum.inl (g_Index_Issue_L0_mx0 v2))
    else
    next (g_Index_Issue_L0_mk v0 v1 (IntKind.wrap .i64 (v2 + 1)) v3 v4 v5 v6 v7)
    else fail
  else
  out (Sum.inr (g_Index_Issue_L0_mx1 ))
theorem g_Index_Issue_L0_par (v0 : List Issu) (v1 : Int) (v2 : Int) (v3 : Int) (v4 : Int) (v5 : Int) (v6 : Int) (v7 : Int) (γ : Type) (fail : γ) (next : g_Index_Issue_L0_sh.T → γ) (out : WT g_Index_Issue_L0_es → γ) : g_Index_Issue_L0_B v0 v1 v2 v3 v4 v5 v6 v7 γ fail next out = optK (g_Index_Issue_L0_B v0 v1 v2 v3 v4 v5 v6 v7 _ none (fun v' => some (.inl v')) (fun w => some (.inr w))) fail (fun r => Sum.elim next out r) := by
  unfold g_Index_Issue_L0_B
  exact bifT (f := (fun o => optK o fail (fun r => Sum.elim next out r))) (fun _ => bifT (f := (fun o => optK o fail (fun r => Sum.elim next out r))) (fun _ => letT (f := (fun o => optK o fail (fun r => Sum.elim next out r))) (fun e1 _ => bifT (f := (fun o => optK o fail (fun r => Sum.elim next out r))) (fun _ => rfl)
      (fun _ => rfl))) (fun _ => rfl))
      (fun _ => rfl)
def g_Index_Issue_L0_r : Round g_Index_Issue_L0_sh.T (WT g_Index_Issue_L0_es) where
  B v γ fail next out := g_Index_Issue_L0_B v.1.1.1 v.1.2.2.1.1 v.1.2.2.2.1.1 v.2.1.1 v.2.1.2.1 v.2.1.2.2.1 v.2.1.2.2.2.1 v.2.1.2.2.2.2.1 γ fail next out
  par v γ fail next out := g_Index_Issue_L0_par v.1.1.1 v.1.2.2.1.1 v.1.2.2.2.1.1 v.2.1.1 v.2.1.2.1 v.2.1.2.2.1 v.2.1.2.2.2.1 v.2.1.2.2.2.2.1 γ fail next out
def g_Index_Issue_L0_fu (v0 : List Issu) (v1 : Int) (v2 : Int) (v3 : Int) (v4 : Int) (v5 : Int) (v6 : Int) (v7 : Int) : Nat := (Int.toNat (v1 - v2)) + 1
theorem g_Index_Issue_L0_lk (v : g_Index_Issue_L0_sh.T) (next : St → Option Res) (k : Ex → St → Option Res) : evalK te (orcOf (P := Try.prog) []) (lorcOf []) Try.f113.ntmps g_Index_Issue_ann (nthLoop (bodyOf Try.f113) 0 0) 0 (g_Index_Issue_L0_sh.enc v) (endK ⟨[0, 3, 7, 8], [], false⟩ ⟨[4], [], false⟩ next k) =
  g_Index_Issue_L0_r.B v _ none (fun v' => next (g_Index_Issue_L0_sh.enc v')) (fun w => outK g_Index_Issue_L0_es k w) := by kernel_rfl
def g_Index_Issue_L0_le : LE := leOf 0 g_Index_Issue_L0_sh g_Index_Issue_L0_es g_Index_Issue_L0_r.step (fun v => g_Index_Issue_L0_fu v.1.1.1 v.1.2.2.1.1 v.1.2.2.2.1.1 v.2.1.1 v.2.1.2.1 v.2.1.2.2.1 v.2.1.2.2.2.1 v.2.1.2.2.2.2.1)
theorem g_Index_Issue_L0_ls (w0 : World) (I0 : Nat → Prop) : LSem Try.prog (Sim w0 Try.f113.ntmps I0) (fun b s k => match Nat.beq 0 b with | true => g_Index_Issue_L0_le.run s k | false => none) 0 (nthLoop (bodyOf Try.f113) 0 0) :=
  le_sem (lorc := lorcOf []) (ann := g_Index_Issue_ann) (keep := ⟨[0, 3, 7, 8], [], false⟩) (kout := ⟨[4], [], false⟩) teFact mixFact (orcOf_ok _) (allLoops_of (bs := []) (by kernel_rfl) trivial) g_Index_Issue_L0_r _ g_Index_Issue_L0_lk
def g_Index_Issue_L0_f (v0 : List Issu) (v1 : Int) (v3 : Int) (v4 : Int) (v5 : Int) (v6 : Int) (v7 : Int) (v2 : Int) (a : Unit) : Stp (Unit) ((Int)) :=
  letK (α := Bool) (((v3 == (v0.getD v2.toNat (Ty.zero .issu)).tuple.ip) && ((v4 == (v0.getD v2.toNat (Ty.zero .issu)).tuple.port) && ((v5 == (v0.getD v2.toNat (Ty.zero .issu)).tuple.my) && true))) && ((v6 == (v0.getD v2.toNat (Ty.zero .issu)).seq) && ((v7 == (v0.getD v2.toNat (Ty.zero .issu)).cookie) && true))) fun e1 =>
  bif e1 then
    .out (v2)
  else
  .next ()
theorem g_Index_Issue_L0_st (v0 : List Issu) (v1 : Int) (v2 : Int) (v3 : Int) (v4 : Int) (v5 : Int) (v6 : Int) (v7 : Int) (hlo : 0 ≤ v2) (hhi : v2 < v1) (hN : v1 ≤ 4611686018427387904) (hi0 : v1 ≤ (v0.length : Int)) : g_Index_Issue_L0_r.step (g_Index_Issue_L0_mk v0 v1 v2 v3 v4 v5 v6 v7) = Stp.elim (fun a' : Unit => some (Sum.inl (g_Index_Issue_L0_mk v0 v1 (v2 + 1) v3 v4 v5 v6 v7))) (fun w => some (Sum.inr ((fun p => Sum.inl (g_Index_Issue_L0_mx0 p)) w))) (g_Index_Issue_L0_f v0 v1 v3 v4 v5 v6 v7 v2 ()) := by
  have hw : (IntKind.wrap .i64 (v2 + 1)) = v2 + 1 := wrap64 (by omega) (by omega)
  show g_Index_Issue_L0_B v0 v1 v2 v3 v4 v5 v6 v7 (Option (g_Index_Issue_L0_sh.T ⊕ WT g_Index_Issue_L0_es)) none (fun v' => some (Sum.inl v')) (fun w => some (Sum.inr w)) = _
  unfold g_Index_Issue_L0_B g_Index_Issue_L0_f
  exact bifG (by simp only [decide_eq_true_eq]; omega) (bifG (by (try simp only [Nat.ble_eq, Bool.and_eq_true, decide_eq_true_eq]); grind [maxSl, maxStr]) (letT (f := (Stp.elim (fun a' : Unit => some (Sum.inl (g_Index_Issue_L0_mk v0 v1 (v2 + 1) v3 v4 v5 v6 v7))) (fun w => some (Sum.inr ((fun p => Sum.inl (g_Index_Issue_L0_mx0 p)) w))))) (fun e1 he1 => bifT (f := (Stp.elim (fun a' : Unit => some (Sum.inl (g_Index_Issue_L0_mk v0 v1 (v2 + 1) v3 v4 v5 v6 v7))) (fun w => some (Sum.inr ((fun p => Sum.inl (g_Index_Issue_L0_mx0 p)) w))))) (fun b0 => rfl)
      (fun b0 => congrArg (fun z => some (Sum.inl (g_Index_Issue_L0_mk v0 v1 z v3 v4 v5 v6 v7))) hw))))
theorem g_Index_Issue_L0_cl (v0 : List Issu) (v1 : Int) (v2 : Int) (v3 : Int) (v4 : Int) (v5 : Int) (v6 : Int) (v7 : Int) (h0 : 0 ≤ v2) (h1 : v1 ≤ 4611686018427387904) (h2 : v1 ≤ (v0.length : Int)) : loopF g_Index_Issue_L0_r.step (g_Index_Issue_L0_fu v0 v1 v2 v3 v4 v5 v6 v7) (g_Index_Issue_L0_mk v0 v1 v2 v3 v4 v5 v6 v7) = some (Stp.elim (fun a => (fun i a => Sum.inr (g_Index_Issue_L0_mx1 )) (v2 + 1 * (((Int.toNat (v1 - v2)) : Nat) : Int)) a) (fun p => Sum.inl (g_Index_Issue_L0_mx0 p)) (forN (g_Index_Issue_L0_f v0 v1 v3 v4 v5 v6 v7) 1 (Int.toNat (v1 - v2)) v2 ())) :=
  forN_loop (step := g_Index_Issue_L0_r.step) (mk := fun v2 a => g_Index_Issue_L0_mk v0 v1 v2 v3 v4 v5 v6 v7) (f := g_Index_Issue_L0_f v0 v1 v3 v4 v5 v6 v7) (e := (fun i a => Sum.inr (g_Index_Issue_L0_mx1 ))) (emb := (fun p => Sum.inl (g_Index_Issue_L0_mx0 p))) (st := 1) (Inv := fun v2 a => True) (Int.toNat (v1 - v2)) v2 () _ (Nat.lt_succ_self _) trivial
    (fun j a hj hv => ⟨g_Index_Issue_L0_st v0 v1 (v2 + 1 * (j : Int)) v3 v4 v5 v6 v7 (by omega) (by omega) (by omega) h2, fun _ _ => trivial⟩)
    (fun a hv => by
      show g_Index_Issue_L0_B v0 v1 (v2 + 1 * (((Int.toNat (v1 - v2)) : Nat) : Int)) v3 v4 v5 v6 v7 (Option (g_Index_Issue_L0_sh.T ⊕ WT g_Index_Issue_L0_es)) none (fun v' => some (Sum.inl v')) (fun w => some (Sum.inr w)) = _
      unfold g_Index_Issue_L0_B
      exact bifN (by simp only [decide_eq_false_iff_not]; omega) rfl)
def g_Index_Issue_N (x0 : List Issu) (x1 : Issu) (γ : Type) (fail : γ) (k : Int → γ) : γ :=
  optK (loopF g_Index_Issue_L0_r.step (g_Index_Issue_L0_fu x0 (x0.length : Int) 0 x1.tuple.ip x1.tuple.port x1.tuple.my x1.seq x1.cookie) (g_Index_Issue_L0_mk x0 (x0.length : Int) 0 x1.tuple.ip x1.tuple.port x1.tuple.my x1.seq x1.cookie)) fail fun w2 =>
    Sum.elim (fun w2 =>
      k w2.1.1.1)
    (fun w2 =>
      k (-1)) w2
def g_Index_Issue (x0 : List Issu) (x1 : Issu) : Int :=
  Stp.elim (fun a3 =>
    (-1))
    (fun p3 =>
      p3)
    (forN (g_Index_Issue_L0_f x0 (x0.length : Int) x1.tuple.ip x1.tuple.port x1.tuple.my x1.seq x1.cookie) 1 (Int.toNat ((x0.length : Int) - 0)) 0 ())
theorem g_Index_Issue_lk (x0 : List Issu) (x1 : Issu) : evalFn te (orcOf (P := Try.prog) []) (lorcOf [g_Index_Issue_L0_le]) g_Index_Issue_ann Try.f113 (pvs [.sc (.sl .issu), .st .issu] (x0, x1, ())) =
  g_Index_Issue_N x0 x1 _ none (fun v => some [rv (.sc (.int .i64)) [] v]) := by kernel_rfl
theorem g_Index_Issue_p (x0 : List Issu) (x1 : Issu) (hx0 : x0.length ≤ 140737488355328) (hx1_tuple_ip : inK .i64 x1.tuple.ip) (hx1_tuple_port : inK .i64 x1.tuple.port) (hx1_tuple_my : inK .i64 x1.tuple.my) (hx1_seq : inK .i64 x1.seq) (hx1_cookie : inK .i64 x1.cookie)  (γ : Type) (fail : γ) (k : Int → γ) : g_Index_Issue_N x0 x1 γ fail k = k (g_Index_Issue x0 x1) := by
  unfold g_Index_Issue_N g_Index_Issue
  exact loopT (f := k) (g_Index_Issue_L0_cl x0 (x0.length : Int) 0 x1.tuple.ip x1.tuple.port x1.tuple.my x1.seq x1.cookie (by (try simp only [Nat.ble_eq, Bool.and_eq_true, decide_eq_true_eq]); grind [maxSl, maxStr]) (by (try simp only [Nat.ble_eq, Bool.and_eq_true, decide_eq_true_eq]); grind [maxSl, maxStr]) (by (try simp only [Nat.ble_eq, Bool.and_eq_true, decide_eq_true_eq]); grind [maxSl, maxStr])) (fun a3 => rfl)
      (fun p3 => rfl)
theorem g_Index_Issue_c (x0 : List Issu) (x1 : Issu)  : Con Try.prog 113 (pvs [.sc (.sl .issu), .st .issu] (x0, x1, ())) [rv (.sc (.int .i64)) [] (g_Index_Issue x0 x1)] := by
  refine Con.of_facts (enters_of Try.func113 rfl (by kernel_rfl)) fun hf => ?_
  replace hf := factAt hf
  exact evalFn_conL teFact mixFact (orcOf_ok _) Try.func113 (by kernel_rfl) (bs := [0]) (by kernel_rfl) (fun w0 I0 => ⟨lsem_of_lorc (g_Index_Issue_L0_ls w0 I0) (by kernel_rfl), trivial⟩) ((g_Index_Issue_lk x0 x1).trans (g_Index_Issue_p x0 x1 ((hf 0 0 rfl rfl).len) ((hf 1 0 rfl rfl).rng) ((hf 1 1 rfl rfl).rng) ((hf 1 2 rfl rfl).rng) ((hf 1 3 rfl rfl).rng) ((hf 1 4 rfl rfl).rng) _ _ _))
noncomputable def g_Index_Issue_e : Ent1 Try.prog := entA 113 [.sc (.sl .issu), .st .issu] (fun x => [rv (.sc (.int .i64)) [] (g_Index_Issue x.1 x.2.1)]) (fun x => g_Index_Issue_c x.1 x.2.1)


/-- spec.l4Rest -/
def s_l4Rest_N (x0 : Int) (γ : Type) (fail : γ) (k : Int → γ) : γ :=
  bif (decide ((x0.tmod 4294967296) < 0)) then
    k (IntKind.wrap .i64 ((x0.tmod 4294967296) + 4294967296))
  else
  k (x0.tmod 4294967296)
def s_l4Rest (x0 : Int) : Int :=
  bif (decide ((x0.tmod 4294967296) < 0)) then
    (IntKind.wrap .i64 ((x0.tmod 4294967296) + 4294967296))
  else
  (x0.tmod 4294967296)
theorem s_l4Rest_lk (x0 : Int) : evalFn te (orcOf (P := Try.prog) []) lorc0 [] Try.f114 (pvs [.sc (.int .i64)] (x0, ())) =
  s_l4Rest_N x0 _ none (fun v => some [rv (.sc (.int .i64)) [] v]) := by kernel_rfl
theorem s_l4Rest_p (x0 : Int)   (γ : Type) (fail : γ) (k : Int → γ) : s_l4Rest_N x0 γ fail k = k (s_l4Rest x0) := by
  unfold s_l4Rest_N s_l4Rest
  exact bifT (f := k) (fun b0 => rfl)
      (fun b0 => rfl)
theorem s_l4Rest_c (x0 : Int)  : Con Try.prog 114 (pvs [.sc (.int .i64)] (x0, ())) [rv (.sc (.int .i64)) [] (s_l4Rest x0)] := by
  exact evalFn_con0 teFact mixFact (orcOf_ok _) Try.func114 (by kernel_rfl) ((s_l4Rest_lk x0).trans (s_l4Rest_p x0  _ _ _))
noncomputable def s_l4Rest_e : Ent1 Try.prog := entA 114 [.sc (.int .i64)] (fun x => [rv (.sc (.int .i64)) [] (s_l4Rest x.1)]) (fun x => s_l4Rest_c x.1)


/-- laws.toClient -/
def w_toClient_N (x0 : Clie) (γ : Type) (fail : γ) (k : Clie → γ) : γ :=
  letK (α := Tupl) (w_toTuple x0.tuple) fun c1 =>
  letK (α := Opti) (w_toOptions x0.opts) fun c2 =>
  k (⟨c1, x0.isn, c2, x0.window⟩ : Clie)
def w_toClient (x0 : Clie) : Clie :=
  letK (α := Tupl) (w_toTuple x0.tuple) fun c1 =>
  letK (α := Opti) (w_toOptions x0.opts) fun c2 =>
  (⟨c1, x0.isn, c2, x0.window⟩ : Clie)
theorem w_toClient_lk (x0 : Clie) : evalFn te (orcOf (P := Try.prog) [w_toTuple_e, w_toOptions_e]) lorc0 [] Try.f21 (pvs [.st .clie] (x0, ())) =
  w_toClient_N x0 _ none (fun v => some [rv (.st .clie) [] v]) := by kernel_rfl
theorem w_toClient_p (x0 : Clie)   (γ : Type) (fail : γ) (k : Clie → γ) : w_toClient_N x0 γ fail k = k (w_toClient x0) := by
  unfold w_toClient_N w_toClient
  exact letT (f := k) (fun c1 hc1 => letT (f := k) (fun c2 hc2 => rfl))
theorem w_toClient_c (x0 : Clie)  : Con Try.prog 21 (pvs [.st .clie] (x0, ())) [rv (.st .clie) [] (w_toClient x0)] := by
  exact evalFn_con0 teFact mixFact (orcOf_ok _) Try.func21 (by kernel_rfl) ((w_toClient_lk x0).trans (w_toClient_p x0  _ _ _))
noncomputable def w_toClient_e : Ent1 Try.prog := entA 21 [.st .clie] (fun x => [rv (.st .clie) [] (w_toClient x.1)]) (fun x => w_toClient_c x.1)


/-- laws.eqSegment -/
def w_eqSegment_N (x0 : Segm) (x1 : Segm) (γ : Type) (fail : γ) (k : Bool → γ) : γ :=
  bif (x0.from_ != x1.from_) then
    k false
  else
  bif (x0.to != x1.to) then
    k false
  else
  bif (x0.seq != x1.seq) then
    k false
  else
  bif (x0.ack != x1.ack) then
    k false
  else
  bif (x0.flags != x1.flags) then
    k false
  else
  bif (x0.window != x1.window) then
    k false
  else
  letK (α := Bool) (w_eqOptions x0.opts x1.opts) fun c1 =>
  bif (!c1) then
    k false
  else
  bif (!(x0.body == x1.body)) then
    k false
  else
  k true
def w_eqSegment (x0 : Segm) (x1 : Segm) : Bool :=
  bif (x0.from_ != x1.from_) then
    false
  else
  bif (x0.to != x1.to) then
    false
  else
  bif (x0.seq != x1.seq) then
    false
  else
  bif (x0.ack != x1.ack) then
    false
  else
  bif (x0.flags != x1.flags) then
    false
  else
  bif (x0.window != x1.window) then
    false
  else
  letK (α := Bool) (w_eqOptions x0.opts x1.opts) fun c1 =>
  bif (!c1) then
    false
  else
  bif (!(x0.body == x1.body)) then
    false
  else
  true
theorem w_eqSegment_lk (x0 : Segm) (x1 : Segm) : evalFn te (orcOf (P := Try.prog) [w_eqOptions_e]) lorc0 [] Try.f25 (pvs [.st .segm, .st .segm] (x0, x1, ())) =
  w_eqSegment_N x0 x1 _ none (fun v => some [rv (.sc .bool) [] v]) := by kernel_rfl
theorem w_eqSegment_p (x0 : Segm) (x1 : Segm)   (γ : Type) (fail : γ) (k : Bool → γ) : w_eqSegment_N x0 x1 γ fail k = k (w_eqSegment x0 x1) := by
  unfold w_eqSegment_N w_eqSegment
  exact bifT (f := k) (fun b0 => rfl)
      (fun b0 => bifT (f := k) (fun b1 => rfl)
      (fun b1 => bifT (f := k) (fun b2 => rfl)
      (fun b2 => bifT (f := k) (fun b3 => rfl)
      (fun b3 => bifT (f := k) (fun b4 => rfl)
      (fun b4 => bifT (f := k) (fun b5 => rfl)
      (fun b5 => letT (f := k) (fun c1 hc1 => bifT (f := k) (fun b6 => rfl)
      (fun b6 => bifT (f := k) (fun b7 => rfl)
      (fun b7 => rfl)))))))))
theorem w_eqSegment_c (x0 : Segm) (x1 : Segm)  : Con Try.prog 25 (pvs [.st .segm, .st .segm] (x0, x1, ())) [rv (.sc .bool) [] (w_eqSegment x0 x1)] := by
  exact evalFn_con0 teFact mixFact (orcOf_ok _) Try.func25 (by kernel_rfl) ((w_eqSegment_lk x0 x1).trans (w_eqSegment_p x0 x1  _ _ _))
noncomputable def w_eqSegment_e : Ent1 Try.prog := entA 25 [.st .segm, .st .segm] (fun x => [rv (.sc .bool) [] (w_eqSegment x.1 x.2.1)]) (fun x => w_eqSegment_c x.1 x.2.1)


/-- laws.toIssue -/
def w_toIssue_N (x0 : Issu) (γ : Type) (fail : γ) (k : Issu → γ) : γ :=
  letK (α := Tupl) (w_toTuple x0.tuple) fun c1 =>
  k (⟨c1, x0.seq, x0.cookie⟩ : Issu)
def w_toIssue (x0 : Issu) : Issu :=
  letK (α := Tupl) (w_toTuple x0.tuple) fun c1 =>
  (⟨c1, x0.seq, x0.cookie⟩ : Issu)
theorem w_toIssue_lk (x0 : Issu) : evalFn te (orcOf (P := Try.prog) [w_toTuple_e]) lorc0 [] Try.f29 (pvs [.st .issu] (x0, ())) =
  w_toIssue_N x0 _ none (fun v => some [rv (.st .issu) [] v]) := by kernel_rfl
theorem w_toIssue_p (x0 : Issu)   (γ : Type) (fail : γ) (k : Issu → γ) : w_toIssue_N x0 γ fail k = k (w_toIssue x0) := by
  unfold w_toIssue_N w_toIssue
  exact letT (f := k) (fun c1 hc1 => rfl)
theorem w_toIssue_c (x0 : Issu)  : Con Try.prog 29 (pvs [.st .issu] (x0, ())) [rv (.st .issu) [] (w_toIssue x0)] := by
  exact evalFn_con0 teFact mixFact (orcOf_ok _) Try.func29 (by kernel_rfl) ((w_toIssue_lk x0).trans (w_toIssue_p x0  _ _ _))
noncomputable def w_toIssue_e : Ent1 Try.prog := entA 29 [.st .issu] (fun x => [rv (.st .issu) [] (w_toIssue x.1)]) (fun x => w_toIssue_c x.1)


/-- laws.eqIssueS -/
def w_eqIssueS_ann : List (Nat × Keep) := [(0, ⟨[0, 1, 5], [], false⟩)]
def w_eqIssueS_L0_sh : Sh := ⟨[(0, false, [.sl .arg .issu]), (1, false, [.sl .arg .issu]), (5, false, [.int .i64])], []⟩
def w_eqIssueS_L0_es : List (Ex × Sh) := [(.ret, ⟨[(4, false, [.bool])], []⟩), (.exit 0, ⟨[(4, false, [.undef])], []⟩)]
def w_eqIssueS_L0_mk (v0 : List Issu) (v1 : List Issu) (v2 : Int) : w_eqIssueS_L0_sh.T := (((v0, ()), ((v1, ()), ((v2, ()), ()))), ())
def w_eqIssueS_L0_mx0 (y0 : Bool) : Sh.T ⟨[(4, false, [.bool])], []⟩ := (((y0, ()), ()), ())
def w_eqIssueS_L0_mx1  : Sh.T ⟨[(4, false, [.undef])], []⟩ := ((((), ()), ()), ())
def w_eqIssueS_L0_B (v0 : List Issu) (v1 : List Issu) (v2 : Int) (γ : Type) (fail : γ) (next : w_eqIssueS_L0_sh.T → γ) (out : WT w_eqIssueS_L0_es → γ) : γ :=
  bif (decide (v2 < (v0.length : Int))) then
    bif ((decide (0 ≤ v2)) && (decide (v2 < (v0.length : Int)))) then
    bif ((decide (0 ≤ v2)) && (decide (v2 < (v1.length : Int)))) then
    letK (α := Bool) (w_eqIssue (v0.getD v2.toNat (Ty.zero .issu)) (v1.getD v2.toNat (Ty.zero .issu))) fun c1 =>
    bif (!c1) then
      out (Sum.inl (w_eqIssueS_L0_mx0 false))
    else
    next (w_eqIssueS_L0_mk v0 v1 (IntKind.wrap .i64 (v2 + 1)))
    else fail
    else fail
  else
  out (Sum.inr (w_eqIssueS_L0_mx1 ))
theorem w_eqIssueS_L0_par (v0 : List Issu) (v1 : List Issu) (v2 : Int) (γ : Type) (fail : γ) (next : w_eqIssueS_L0_sh.T → γ) (out : WT w_eqIssueS_L0_es → γ) : w_eqIssueS_L0_B v0 v1 v2 γ fail next out = optK (w_eqIssueS_L0_B v0 v1 v2 _ none (fun v' => some (.inl v')) (fun w => some (.inr w))) fail (fun r => Sum.elim next out r) := by
  unfold w_eqIssueS_L0_B
  exact bifT (f := (fun o => optK o fail (fun r => Sum.elim next out r))) (fun _ => bifT (f := (fun o => optK o fail (fun r => Sum.elim next out r))) (fun _ => bifT (f := (fun o => optK o fail (fun r => Sum.elim next out r))) (fun _ => letT (f := (fun o => optK o fail (fun r => Sum.elim next out r))) (fun c1 _ => bifT (f := (fun o => optK o fail (fun r => Sum.elim next out r))) (fun _ => rfl)
      (fun _ => rfl))) (fun _ => rfl)) (fun _ => rfl))
      (fun _ => rfl)
def w_eqIssueS_L0_r : Round w_eqIssueS_L0_sh.T (WT w_eqIssueS_L0_es) where
  B v γ fail next out := w_eqIssueS_L0_B v.1.1.1 v.1.2.1.1 v.1.2.2.1.1 γ fail next out
  par v γ fail next out := w_eqIssueS_L0_par v.1.1.1 v.1.2.1.1 v.1.2.2.1.1 γ fail next out
def w_eqIssueS_L0_fu (v0 : List Issu) (v1 : List Issu) (v2 : Int) : Nat := (Int.toNat ((v0.length : Int) - v2)) + 1
theorem w_eqIssueS_L0_lk (v : w_eqIssueS_L0_sh.T) (next : St → Option Res) (k : Ex → St → Option Res) : evalK te (orcOf (P := Try.prog) [w_eqIssue_e]) (lorcOf []) Try.f31.ntmps w_eqIssueS_ann (nthLoop (bodyOf Try.f31) 0 0) 0 (w_eqIssueS_L0_sh.enc v) (endK ⟨[0, 1, 5], [], false⟩ ⟨[4], [], false⟩ next k) =
  w_eqIssueS_L0_r.B v _ none (fun v' => next (w_eqIssueS_L0_sh.enc v')) (fun w => outK w_eqIssueS_L0_es k w) := by kernel_rfl
def w_eqIssueS_L0_le : LE := leOf 0 w_eqIssueS_L0_sh w_eqIssueS_L0_es w_eqIssueS_L0_r.step (fun v => w_eqIssueS_L0_fu v.1.1.1 v.1.2.1.1 v.1.2.2.1.1)
theorem w_eqIssueS_L0_ls (w0 : World) (I0 : Nat → Prop) : LSem Try.prog (Sim w0 Try.f31.ntmps I0) (fun b s k => match Nat.beq 0 b with | true => w_eqIssueS_L0_le.run s k | false => none) 0 (nthLoop (bodyOf Try.f31) 0 0) :=
  le_sem (lorc := lorcOf []) (ann := w_eqIssueS_ann) (keep := ⟨[0, 1, 5], [], false⟩) (kout := ⟨[4], [], false⟩) teFact mixFact (orcOf_ok _) (allLoops_of (bs := []) (by kernel_rfl) trivial) w_eqIssueS_L0_r _ w_eqIssueS_L0_lk
def w_eqIssueS_L0_f (v0 : List Issu) (v1 : List Issu) (v2 : Int) (a : Unit) : Stp (Unit) ((Unit)) :=
  letK (α := Bool) (w_eqIssue (v0.getD v2.toNat (Ty.zero .issu)) (v1.getD v2.toNat (Ty.zero .issu))) fun c1 =>
  bif (!c1) then
    .out (())
  else
  .next ()
theorem w_eqIssueS_L0_st (v0 : List Issu) (v1 : List Issu) (v2 : Int) (hlo : 0 ≤ v2) (hhi : v2 < (v0.length : Int)) (hN : (v0.length : Int) ≤ 4611686018427387904) (hi0 : (v0.length : Int) ≤ (v1.length : Int)) : w_eqIssueS_L0_r.step (w_eqIssueS_L0_mk v0 v1 v2) = Stp.elim (fun a' : Unit => some (Sum.inl (w_eqIssueS_L0_mk v0 v1 (v2 + 1)))) (fun w => some (Sum.inr ((fun p => Sum.inl (w_eqIssueS_L0_mx0 false)) w))) (w_eqIssueS_L0_f v0 v1 v2 ()) := by
  have hw : (IntKind.wrap .i64 (v2 + 1)) = v2 + 1 := wrap64 (by omega) (by omega)
  show w_eqIssueS_L0_B v0 v1 v2 (Option (w_eqIssueS_L0_sh.T ⊕ WT w_eqIssueS_L0_es)) none (fun v' => some (Sum.inl v')) (fun w => some (Sum.inr w)) = _
  unfold w_eqIssueS_L0_B w_eqIssueS_L0_f
  exact bifG (by simp only [decide_eq_true_eq]; omega) (bifG (by (try simp only [Nat.ble_eq, Bool.and_eq_true, decide_eq_true_eq]); grind [maxSl, maxStr]) (bifG (by (try simp only [Nat.ble_eq, Bool.and_eq_true, decide_eq_true_eq]); grind [maxSl, maxStr]) (letT (f := (Stp.elim (fun a' : Unit => some (Sum.inl (w_eqIssueS_L0_mk v0 v1 (v2 + 1)))) (fun w => some (Sum.inr ((fun p => Sum.inl (w_eqIssueS_L0_mx0 false)) w))))) (fun c1 hc1 => bifT (f := (Stp.elim (fun a' : Unit => some (Sum.inl (w_eqIssueS_L0_mk v0 v1 (v2 + 1)))) (fun w => some (Sum.inr ((fun p => Sum.inl (w_eqIssueS_L0_mx0 false)) w))))) (fun b0 => rfl)
      (fun b0 => congrArg (fun z => some (Sum.inl (w_eqIssueS_L0_mk v0 v1 z))) hw)))))
theorem w_eqIssueS_L0_cl (v0 : List Issu) (v1 : List Issu) (v2 : Int) (h0 : 0 ≤ v2) (h1 : (v0.length : Int) ≤ 4611686018427387904) (h2 : (v0.length : Int) ≤ (v1.length : Int)) : loopF w_eqIssueS_L0_r.step (w_eqIssueS_L0_fu v0 v1 v2) (w_eqIssueS_L0_mk v0 v1 v2) = some (Stp.elim (fun a => (fun i a => Sum.inr (w_eqIssueS_L0_mx1 )) (v2 + 1 * (((Int.toNat ((v0.length : Int) - v2)) : Nat) : Int)) a) (fun p => Sum.inl (w_eqIssueS_L0_mx0 false)) (forN (w_eqIssueS_L0_f v0 v1) 1 (Int.toNat ((v0.length : Int) - v2)) v2 ())) :=
  forN_loop (step := w_eqIssueS_L0_r.step) (mk := fun v2 a => w_eqIssueS_L0_mk v0 v1 v2) (f := w_eqIssueS_L0_f v0 v1) (e := (fun i a => Sum.inr (w_eqIssueS_L0_mx1 ))) (emb := (fun p => Sum.inl (w_eqIssueS_L0_mx0 false))) (st := 1) (Inv := fun v2 a => True) (Int.toNat ((v0.length : Int) - v2)) v2 () _ (Nat.lt_succ_self _) trivial
    (fun j a hj hv => ⟨w_eqIssueS_L0_st v0 v1 (v2 + 1 * (j : Int)) (by omega) (by omega) (by omega) h2, fun _ _ => trivial⟩)
    (fun a hv => by
      show w_eqIssueS_L0_B v0 v1 (v2 + 1 * (((Int.toNat ((v0.length : Int) - v2)) : Nat) : Int)) (Option (w_eqIssueS_L0_sh.T ⊕ WT w_eqIssueS_L0_es)) none (fun v' => some (Sum.inl v')) (fun w => some (Sum.inr w)) = _
      unfold w_eqIssueS_L0_B
      exact bifN (by simp only [decide_eq_false_iff_not]; omega) rfl)
def w_eqIssueS_N (x0 : List Issu) (x1 : List Issu) (γ : Type) (fail : γ) (k : Bool → γ) : γ :=
  bif ((x0.length : Int) != (x1.length : Int)) then
    k false
  else
  optK (loopF w_eqIssueS_L0_r.step (w_eqIssueS_L0_fu x0 x1 0) (w_eqIssueS_L0_mk x0 x1 0)) fail fun w2 =>
    Sum.elim (fun w2 =>
      k w2.1.1.1)
    (fun w2 =>
      k true) w2
def w_eqIssueS (x0 : List Issu) (x1 : List Issu) : Bool :=
  bif ((x0.length : Int) != (x1.length : Int)) then
    false
  else
  Stp.elim (fun a3 =>
    true)
    (fun p3 =>
      false)
    (forN (w_eqIssueS_L0_f x0 x1) 1 (Int.toNat ((x0.length : Int) - 0)) 0 ())
theorem w_eqIssueS_lk (x0 : List Issu) (x1 : List Issu) : evalFn te (orcOf (P := Try.prog) [w_eqIssue_e]) (lorcOf [w_eqIssueS_L0_le]) w_eqIssueS_ann Try.f31 (pvs [.sc (.sl .issu), .sc (.sl .issu)] (x0, x1, ())) =
  w_eqIssueS_N x0 x1 _ none (fun v => some [rv (.sc .bool) [] v]) := by kernel_rfl
theorem w_eqIssueS_p (x0 : List Issu) (x1 : List Issu) (hx0 : x0.length ≤ 140737488355328) (hx1 : x1.length ≤ 140737488355328)  (γ : Type) (fail : γ) (k : Bool → γ) : w_eqIssueS_N x0 x1 γ fail k = k (w_eqIssueS x0 x1) := by
  unfold w_eqIssueS_N w_eqIssueS
  exact bifT (f := k) (fun b0 => rfl)
      (fun b0 => loopT (f := k) (w_eqIssueS_L0_cl x0 x1 0 (by (try simp only [Nat.ble_eq, Bool.and_eq_true, decide_eq_true_eq]); grind [maxSl, maxStr]) (by (try simp only [Nat.ble_eq, Bool.and_eq_true, decide_eq_true_eq]); grind [maxSl, maxStr]) (by (try simp only [Nat.ble_eq, Bool.and_eq_true, decide_eq_true_eq]); grind [maxSl, maxStr])) (fun a3 => rfl)
      (fun p3 => rfl))
theorem w_eqIssueS_c (x0 : List Issu) (x1 : List Issu)  : Con Try.prog 31 (pvs [.sc (.sl .issu), .sc (.sl .issu)] (x0, x1, ())) [rv (.sc .bool) [] (w_eqIssueS x0 x1)] := by
  refine Con.of_facts (enters_of Try.func31 rfl (by kernel_rfl)) fun hf => ?_
  replace hf := factAt hf
  exact evalFn_conL teFact mixFact (orcOf_ok _) Try.func31 (by kernel_rfl) (bs := [0]) (by kernel_rfl) (fun w0 I0 => ⟨lsem_of_lorc (w_eqIssueS_L0_ls w0 I0) (by kernel_rfl), trivial⟩) ((w_eqIssueS_lk x0 x1).trans (w_eqIssueS_p x0 x1 ((hf 0 0 rfl rfl).len) ((hf 1 0 rfl rfl).len) _ _ _))
noncomputable def w_eqIssueS_e : Ent1 Try.prog := entA 31 [.sc (.sl .issu), .sc (.sl .issu)] (fun x => [rv (.sc .bool) [] (w_eqIssueS x.1 x.2.1)]) (fun x => w_eqIssueS_c x.1 x.2.1)


/-- impl.Granted -/
def i_Granted_N (x0 : Opti) (γ : Type) (fail : γ) (k : Opti → γ) : γ :=
  letK (α := Opti) i_NoOptions fun c1 =>
  letK (α := Int) (i_peerMss x0) fun c2 =>
  letK (α := Int) (i_MssIndex c2) fun c3 =>
  letK (α := Int) (i_MssOf c3) fun c4 =>
  bif x0.stamp then
    letK (α := Int) (i_SeqAdd x0.val 1) fun c5 =>
    k (⟨c4, x0.scale, x0.sack, true, c5, c1.echo⟩ : Opti)
  else
  k ({ c1 with mss := c4 } : Opti)
def i_Granted (x0 : Opti) : Opti :=
  letK (α := Opti) i_NoOptions fun c1 =>
  letK (α := Int) (i_peerMss x0) fun c2 =>
  letK (α := Int) (i_MssIndex c2) fun c3 =>
  letK (α := Int) (i_MssOf c3) fun c4 =>
  bif x0.stamp then
    letK (α := Int) (i_SeqAdd x0.val 1) fun c5 =>
    (⟨c4, x0.scale, x0.sack, true, c5, c1.echo⟩ : Opti)
  else
  ({ c1 with mss := c4 } : Opti)
theorem i_Granted_lk (x0 : Opti) : evalFn te (orcOf (P := Try.prog) [i_NoOptions_e, i_peerMss_e, i_MssIndex_e, i_MssOf_e, i_SeqAdd_e]) lorc0 [] Try.f34 (pvs [.st .opti] (x0, ())) =
  i_Granted_N x0 _ none (fun v => some [rv (.st .opti) [] v]) := by kernel_rfl
theorem i_Granted_p (x0 : Opti)   (γ : Type) (fail : γ) (k : Opti → γ) : i_Granted_N x0 γ fail k = k (i_Granted x0) := by
  unfold i_Granted_N i_Granted
  exact letT (f := k) (fun c1 hc1 => letT (f := k) (fun c2 hc2 => letT (f := k) (fun c3 hc3 => letT (f := k) (fun c4 hc4 => bifT (f := k) (fun b0 => letT (f := k) (fun c5 hc5 => rfl))
      (fun b0 => rfl)))))
theorem i_Granted_c (x0 : Opti)  : Con Try.prog 34 (pvs [.st .opti] (x0, ())) [rv (.st .opti) [] (i_Granted x0)] := by
  exact evalFn_con0 teFact mixFact (orcOf_ok _) Try.func34 (by kernel_rfl) ((i_Granted_lk x0).trans (i_Granted_p x0  _ _ _))
noncomputable def i_Granted_e : Ent1 Try.prog := entA 34 [.st .opti] (fun x => [rv (.st .opti) [] (i_Granted x.1)]) (fun x => i_Granted_c x.1)


/-- laws.szResult -/
def w_szResult_N (x0 : Resu) (x1 : Int) (γ : Type) (fail : γ) (k : Int → γ) : γ :=
  letK (α := Int) (w_szStringS x0.frames x1) fun c1 =>
  bif (decide (c1 < 0)) then
    k (-1)
  else
  bif (decide ((IntKind.wrap .i64 (c1 - (x0.text.length : Int))) < 0)) then
    k (-1)
  else
  k (IntKind.wrap .i64 (c1 - (x0.text.length : Int)))
def w_szResult (x0 : Resu) (x1 : Int) : Int :=
  letK (α := Int) (w_szStringS x0.frames x1) fun c1 =>
  bif (decide (c1 < 0)) then
    (-1)
  else
  bif (decide ((IntKind.wrap .i64 (c1 - (x0.text.length : Int))) < 0)) then
    (-1)
  else
  (IntKind.wrap .i64 (c1 - (x0.text.length : Int)))
theorem w_szResult_lk (x0 : Resu) (x1 : Int) : evalFn te (orcOf (P := Try.prog) [w_szStringS_e]) lorc0 [] Try.f36 (pvs [.st .resu, .sc (.int .i64)] (x0, x1, ())) =
  w_szResult_N x0 x1 _ none (fun v => some [rv (.sc (.int .i64)) [] v]) := by kernel_rfl
theorem w_szResult_p (x0 : Resu) (x1 : Int)   (γ : Type) (fail : γ) (k : Int → γ) : w_szResult_N x0 x1 γ fail k = k (w_szResult x0 x1) := by
  unfold w_szResult_N w_szResult
  exact letT (f := k) (fun c1 hc1 => bifT (f := k) (fun b0 => rfl)
      (fun b0 => bifT (f := k) (fun b1 => rfl)
      (fun b1 => rfl)))
theorem w_szResult_c (x0 : Resu) (x1 : Int)  : Con Try.prog 36 (pvs [.st .resu, .sc (.int .i64)] (x0, x1, ())) [rv (.sc (.int .i64)) [] (w_szResult x0 x1)] := by
  exact evalFn_con0 teFact mixFact (orcOf_ok _) Try.func36 (by kernel_rfl) ((w_szResult_lk x0 x1).trans (w_szResult_p x0 x1  _ _ _))
noncomputable def w_szResult_e : Ent1 Try.prog := entA 36 [.st .resu, .sc (.int .i64)] (fun x => [rv (.sc (.int .i64)) [] (w_szResult x.1 x.2.1)]) (fun x => w_szResult_c x.1 x.2.1)


/-- laws.toResult -/
def w_toResult_N (x0 : Resu) (γ : Type) (fail : γ) (k : Resu → γ) : γ :=
  bif (decide (x0.frames.length ≤ 4294967296)) then
  letK (α := List Bytes) (w_toStringS x0.frames) fun c1 =>
  letK (α := Tupl) (w_toTuple x0.tuple) fun c2 =>
  k ({ x0 with frames := c1, tuple.ip := c2.ip, tuple.port := c2.port, tuple.my := c2.my } : Resu)
  else fail
def w_toResult (x0 : Resu) : Resu :=
  letK (α := List Bytes) (w_toStringS x0.frames) fun c1 =>
  letK (α := Tupl) (w_toTuple x0.tuple) fun c2 =>
  ({ x0 with frames := c1, tuple.ip := c2.ip, tuple.port := c2.port, tuple.my := c2.my } : Resu)
theorem w_toResult_lk (x0 : Resu) : evalFn te (orcOf (P := Try.prog) [w_toStringS_e, w_toTuple_e]) lorc0 [] Try.f38 (pvs [.st .resu] (x0, ())) =
  w_toResult_N x0 _ none (fun v => some [rv (.st .resu) [.o true, .c, .c, .c, .c, .c, .c, .c] v]) := by kernel_rfl
theorem w_toResult_p (x0 : Resu) (hx0_frames : x0.frames.length ≤ 140737488355328) (hx0_frames_e : ∀ y ∈ x0.frames, List.length y ≤ 4611686018427387904) (hx0_made : inK .i64 x0.made) (hx0_tuple_ip : inK .i64 x0.tuple.ip) (hx0_tuple_port : inK .i64 x0.tuple.port) (hx0_tuple_my : inK .i64 x0.tuple.my) (hx0_n : inK .i64 x0.n) (hx0_text : List.length x0.text ≤ 4611686018427387904) (hp : x0.frames.length ≤ 4294967296 ∧ x0.text.length ≤ 4294967296) (γ : Type) (fail : γ) (k : Resu → γ) : w_toResult_N x0 γ fail k = k (w_toResult x0) := by
  unfold w_toResult_N w_toResult
  exact bifG (by (try simp only [Nat.ble_eq, Bool.and_eq_true, decide_eq_true_eq]); grind [maxSl, maxStr]) (letT (f := k) (fun c1 hc1 => letT (f := k) (fun c2 hc2 => rfl)))
theorem w_toResult_c (x0 : Resu) (hp : x0.frames.length ≤ 4294967296 ∧ x0.text.length ≤ 4294967296) : Con Try.prog 38 (pvs [.st .resu] (x0, ())) [rv (.st .resu) [.o true, .c, .c, .c, .c, .c, .c, .c] (w_toResult x0)] := by
  refine Con.of_facts (enters_of Try.func38 rfl (by kernel_rfl)) fun hf => ?_
  replace hf := factAt hf
  exact evalFn_con0 teFact mixFact (orcOf_ok _) Try.func38 (by kernel_rfl) ((w_toResult_lk x0).trans (w_toResult_p x0 ((hf 0 0 rfl rfl).len) (fun y hy => ((hf 0 0 rfl rfl).elem hy (.str y) List.mem_cons_self).slen) ((hf 0 1 rfl rfl).rng) ((hf 0 2 rfl rfl).rng) ((hf 0 3 rfl rfl).rng) ((hf 0 4 rfl rfl).rng) ((hf 0 5 rfl rfl).rng) ((hf 0 6 rfl rfl).slen) hp _ _ _))
noncomputable def w_toResult_e : Ent1 Try.prog := entP 38 [.st .resu] (fun x => (decide (x.1.frames.length ≤ 4294967296 ∧ x.1.text.length ≤ 4294967296))) (fun x => [rv (.st .resu) [.o true, .c, .c, .c, .c, .c, .c, .c] (w_toResult x.1)]) (fun x hx => w_toResult_c x.1 (of_decide_eq_true hx))


/-- impl.SameResult -/
def i_SameResult_N (x0 : Resu) (x1 : Resu) (γ : Type) (fail : γ) (k : Bool → γ) : γ :=
  letK (α := Bool) (g_Equal_string x0.frames x1.frames) fun c1 =>
  bif c1 then
    bif (x0.made == x1.made) then
      letK (α := Bool) ((x0.tuple.ip == x1.tuple.ip) && ((x0.tuple.port == x1.tuple.port) && ((x0.tuple.my == x1.tuple.my) && true))) fun e2 =>
      bif e2 then
        bif (x0.n == x1.n) then
          bif (x0.text == x1.text) then
            k (x0.ok == x1.ok)
          else
          k false
        else
        k false
      else
      k false
    else
    k false
  else
  k false
def i_SameResult (x0 : Resu) (x1 : Resu) : Bool :=
  letK (α := Bool) (g_Equal_string x0.frames x1.frames) fun c1 =>
  bif c1 then
    bif (x0.made == x1.made) then
      letK (α := Bool) ((x0.tuple.ip == x1.tuple.ip) && ((x0.tuple.port == x1.tuple.port) && ((x0.tuple.my == x1.tuple.my) && true))) fun e2 =>
      bif e2 then
        bif (x0.n == x1.n) then
          bif (x0.text == x1.text) then
            (x0.ok == x1.ok)
          else
          false
        else
        false
      else
      false
    else
    false
  else
  false
theorem i_SameResult_lk (x0 : Resu) (x1 : Resu) : evalFn te (orcOf (P := Try.prog) [g_Equal_string_e]) lorc0 [] Try.f39 (pvs [.st .resu, .st .resu] (x0, x1, ())) =
  i_SameResult_N x0 x1 _ none (fun v => some [rv (.sc .bool) [] v]) := by kernel_rfl
theorem i_SameResult_p (x0 : Resu) (x1 : Resu)   (γ : Type) (fail : γ) (k : Bool → γ) : i_SameResult_N x0 x1 γ fail k = k (i_SameResult x0 x1) := by
  unfold i_SameResult_N i_SameResult
  exact letT (f := k) (fun c1 hc1 => bifT (f := k) (fun b0 => bifT (f := k) (fun b1 => letT (f := k) (fun e2 he2 => bifT (f := k) (fun b2 => bifT (f := k) (fun b3 => bifT (f := k) (fun b4 => rfl)
      (fun b4 => rfl))
      (fun b3 => rfl))
      (fun b2 => rfl)))
      (fun b1 => rfl))
      (fun b0 => rfl))
theorem i_SameResult_c (x0 : Resu) (x1 : Resu)  : Con Try.prog 39 (pvs [.st .resu, .st .resu] (x0, x1, ())) [rv (.sc .bool) [] (i_SameResult x0 x1)] := by
  exact evalFn_con0 teFact mixFact (orcOf_ok _) Try.func39 (by kernel_rfl) ((i_SameResult_lk x0 x1).trans (i_SameResult_p x0 x1  _ _ _))
noncomputable def i_SameResult_e : Ent1 Try.prog := entA 39 [.st .resu, .st .resu] (fun x => [rv (.sc .bool) [] (i_SameResult x.1 x.2.1)]) (fun x => i_SameResult_c x.1 x.2.1)


/-- laws.eqResult -/
def w_eqResult_N (x0 : Resu) (x1 : Resu) (γ : Type) (fail : γ) (k : Bool → γ) : γ :=
  letK (α := Bool) (w_eqStringS x0.frames x1.frames) fun c1 =>
  bif (!c1) then
    k false
  else
  bif (x0.made != x1.made) then
    k false
  else
  letK (α := Bool) (w_eqTuple x0.tuple x1.tuple) fun c2 =>
  bif (!c2) then
    k false
  else
  bif (x0.n != x1.n) then
    k false
  else
  bif (!(x0.text == x1.text)) then
    k false
  else
  bif (!(x0.ok == x1.ok)) then
    k false
  else
  k true
def w_eqResult (x0 : Resu) (x1 : Resu) : Bool :=
  letK (α := Bool) (w_eqStringS x0.frames x1.frames) fun c1 =>
  bif (!c1) then
    false
  else
  bif (x0.made != x1.made) then
    false
  else
  letK (α := Bool) (w_eqTuple x0.tuple x1.tuple) fun c2 =>
  bif (!c2) then
    false
  else
  bif (x0.n != x1.n) then
    false
  else
  bif (!(x0.text == x1.text)) then
    false
  else
  bif (!(x0.ok == x1.ok)) then
    false
  else
  true
theorem w_eqResult_lk (x0 : Resu) (x1 : Resu) : evalFn te (orcOf (P := Try.prog) [w_eqStringS_e, w_eqTuple_e]) lorc0 [] Try.f40 (pvs [.st .resu, .st .resu] (x0, x1, ())) =
  w_eqResult_N x0 x1 _ none (fun v => some [rv (.sc .bool) [] v]) := by kernel_rfl
theorem w_eqResult_p (x0 : Resu) (x1 : Resu)   (γ : Type) (fail : γ) (k : Bool → γ) : w_eqResult_N x0 x1 γ fail k = k (w_eqResult x0 x1) := by
  unfold w_eqResult_N w_eqResult
  exact letT (f := k) (fun c1 hc1 => bifT (f := k) (fun b0 => rfl)
      (fun b0 => bifT (f := k) (fun b1 => rfl)
      (fun b1 => letT (f := k) (fun c2 hc2 => bifT (f := k) (fun b2 => rfl)
      (fun b2 => bifT (f := k) (fun b3 => rfl)
      (fun b3 => bifT (f := k) (fun b4 => rfl)
      (fun b4 => bifT (f := k) (fun b5 => rfl)
      (fun b5 => rfl))))))))
theorem w_eqResult_c (x0 : Resu) (x1 : Resu)  : Con Try.prog 40 (pvs [.st .resu, .st .resu] (x0, x1, ())) [rv (.sc .bool) [] (w_eqResult x0 x1)] := by
  exact evalFn_con0 teFact mixFact (orcOf_ok _) Try.func40 (by kernel_rfl) ((w_eqResult_lk x0 x1).trans (w_eqResult_p x0 x1  _ _ _))
noncomputable def w_eqResult_e : Ent1 Try.prog := entA 40 [.st .resu, .st .resu] (fun x => [rv (.sc .bool) [] (w_eqResult x.1 x.2.1)]) (fun x => w_eqResult_c x.1 x.2.1)


/-- impl.ReplyTo -/
def i_ReplyTo_N (x0 : Clie) (x1 : Segm) (γ : Type) (fail : γ) (k : Segm × Bool → γ) : γ :=
  bif (x1.flags != 18) then
    k ((⟨0, 0, 0, 0, 0, 0, ⟨0, 0, false, false, 0, 0⟩, []⟩ : Segm), false)
  else
  letK (α := Int) (i_SeqAdd x0.isn 1) fun c1 =>
  bif (x1.ack != c1) then
    k ((⟨0, 0, 0, 0, 0, 0, ⟨0, 0, false, false, 0, 0⟩, []⟩ : Segm), false)
  else
  letK (α := Int) (i_SeqAdd x0.isn 1) fun c2 =>
  letK (α := Int) (i_SeqAdd x1.seq 1) fun c3 =>
  letK (α := Opti) i_NoOptions fun c4 =>
  bif x0.opts.stamp then
    bif x1.opts.stamp then
      letK (α := Int) (i_SeqAdd x0.opts.val 1) fun c5 =>
      k ((⟨x0.tuple.port, x0.tuple.my, c2, c3, 16, x0.window, ⟨c4.mss, c4.scale, c4.sack, true, c5, x1.opts.val⟩, []⟩ : Segm), true)
    else
    k ((⟨x0.tuple.port, x0.tuple.my, c2, c3, 16, x0.window, c4, []⟩ : Segm), true)
  else
  k ((⟨x0.tuple.port, x0.tuple.my, c2, c3, 16, x0.window, c4, []⟩ : Segm), true)
def i_ReplyTo (x0 : Clie) (x1 : Segm) : Segm × Bool :=
  bif (x1.flags != 18) then
    ((⟨0, 0, 0, 0, 0, 0, ⟨0, 0, false, false, 0, 0⟩, []⟩ : Segm), false)
  else
  letK (α := Int) (i_SeqAdd x0.isn 1) fun c1 =>
  bif (x1.ack != c1) then
    ((⟨0, 0, 0, 0, 0, 0, ⟨0, 0, false, false, 0, 0⟩, []⟩ : Segm), false)
  else
  letK (α := Int) (i_SeqAdd x0.isn 1) fun c2 =>
  letK (α := Int) (i_SeqAdd x1.seq 1) fun c3 =>
  letK (α := Opti) i_NoOptions fun c4 =>
  bif x0.opts.stamp then
    bif x1.opts.stamp then
      letK (α := Int) (i_SeqAdd x0.opts.val 1) fun c5 =>
      ((⟨x0.tuple.port, x0.tuple.my, c2, c3, 16, x0.window, ⟨c4.mss, c4.scale, c4.sack, true, c5, x1.opts.val⟩, []⟩ : Segm), true)
    else
    ((⟨x0.tuple.port, x0.tuple.my, c2, c3, 16, x0.window, c4, []⟩ : Segm), true)
  else
  ((⟨x0.tuple.port, x0.tuple.my, c2, c3, 16, x0.window, c4, []⟩ : Segm), true)
theorem i_ReplyTo_lk (x0 : Clie) (x1 : Segm) : evalFn te (orcOf (P := Try.prog) [i_SeqAdd_e, i_NoOptions_e]) lorc0 [] Try.f44 (pvs [.st .clie, .st .segm] (x0, x1, ())) =
  i_ReplyTo_N x0 x1 _ none (fun v => some [rv (.st .segm) [] v.1, rv (.sc .bool) [] v.2]) := by kernel_rfl
theorem i_ReplyTo_p (x0 : Clie) (x1 : Segm)   (γ : Type) (fail : γ) (k : Segm × Bool → γ) : i_ReplyTo_N x0 x1 γ fail k = k (i_ReplyTo x0 x1) := by
  unfold i_ReplyTo_N i_ReplyTo
  exact bifT (f := k) (fun b0 => rfl)
      (fun b0 => letT (f := k) (fun c1 hc1 => bifT (f := k) (fun b1 => rfl)
      (fun b1 => letT (f := k) (fun c2 hc2 => letT (f := k) (fun c3 hc3 => letT (f := k) (fun c4 hc4 => bifT (f := k) (fun b2 => bifT (f := k) (fun b3 => letT (f := k) (fun c5 hc5 => rfl))
      (fun b3 => rfl))
      (fun b2 => rfl)))))))
theorem i_ReplyTo_c (x0 : Clie) (x1 : Segm)  : Con Try.prog 44 (pvs [.st .clie, .st .segm] (x0, x1, ())) [rv (.st .segm) [] (i_ReplyTo x0 x1).1, rv (.sc .bool) [] (i_ReplyTo x0 x1).2] := by
  exact evalFn_con0 teFact mixFact (orcOf_ok _) Try.func44 (by kernel_rfl) ((i_ReplyTo_lk x0 x1).trans (i_ReplyTo_p x0 x1  _ _ _))
noncomputable def i_ReplyTo_e : Ent1 Try.prog := entA 44 [.st .clie, .st .segm] (fun x => [rv (.st .segm) [] (i_ReplyTo x.1 x.2.1).1, rv (.sc .bool) [] (i_ReplyTo x.1 x.2.1).2]) (fun x => i_ReplyTo_c x.1 x.2.1)


/-- spec.TupleOk -/
def s_TupleOk_N (x0 : Tupl) (γ : Type) (fail : γ) (k : Bool → γ) : γ :=
  letK (α := Bool) (s_WordOk x0.ip 32) fun c1 =>
  bif c1 then
    letK (α := Bool) (s_WordOk x0.port 16) fun c2 =>
    bif c2 then
      letK (α := Bool) (s_WordOk x0.my 16) fun c3 =>
      k c3
    else
    k false
  else
  k false
def s_TupleOk (x0 : Tupl) : Bool :=
  letK (α := Bool) (s_WordOk x0.ip 32) fun c1 =>
  bif c1 then
    letK (α := Bool) (s_WordOk x0.port 16) fun c2 =>
    bif c2 then
      letK (α := Bool) (s_WordOk x0.my 16) fun c3 =>
      c3
    else
    false
  else
  false
theorem s_TupleOk_lk (x0 : Tupl) : evalFn te (orcOf (P := Try.prog) [s_WordOk_e]) lorc0 [] Try.f70 (pvs [.st .tupl] (x0, ())) =
  s_TupleOk_N x0 _ none (fun v => some [rv (.sc .bool) [] v]) := by kernel_rfl
theorem s_TupleOk_p (x0 : Tupl)   (γ : Type) (fail : γ) (k : Bool → γ) : s_TupleOk_N x0 γ fail k = k (s_TupleOk x0) := by
  unfold s_TupleOk_N s_TupleOk
  exact letT (f := k) (fun c1 hc1 => bifT (f := k) (fun b0 => letT (f := k) (fun c2 hc2 => bifT (f := k) (fun b1 => letT (f := k) (fun c3 hc3 => rfl))
      (fun b1 => rfl)))
      (fun b0 => rfl))
theorem s_TupleOk_c (x0 : Tupl)  : Con Try.prog 70 (pvs [.st .tupl] (x0, ())) [rv (.sc .bool) [] (s_TupleOk x0)] := by
  exact evalFn_con0 teFact mixFact (orcOf_ok _) Try.func70 (by kernel_rfl) ((s_TupleOk_lk x0).trans (s_TupleOk_p x0  _ _ _))
noncomputable def s_TupleOk_e : Ent1 Try.prog := entA 70 [.st .tupl] (fun x => [rv (.sc .bool) [] (s_TupleOk x.1)]) (fun x => s_TupleOk_c x.1)


/-- spec.OptionsOk -/
def s_OptionsOk_N (x0 : Opti) (γ : Type) (fail : γ) (k : Bool → γ) : γ :=
  bif (!x0.stamp) then
    bif (x0.val != 0) then
      k false
    else
    bif (x0.echo != 0) then
      k false
    else
    letK (α := Bool) (s_WordOk x0.mss 16) fun c1 =>
    bif c1 then
      letK (α := Bool) (s_l1In x0.scale (-1) 14) fun c2 =>
      bif c2 then
        letK (α := Bool) (s_WordOk x0.val 32) fun c3 =>
        bif c3 then
          letK (α := Bool) (s_WordOk x0.echo 32) fun c4 =>
          k c4
        else
        k false
      else
      k false
    else
    k false
  else
  letK (α := Bool) (s_WordOk x0.mss 16) fun c5 =>
  bif c5 then
    letK (α := Bool) (s_l1In x0.scale (-1) 14) fun c6 =>
    bif c6 then
      letK (α := Bool) (s_WordOk x0.val 32) fun c7 =>
      bif c7 then
        letK (α := Bool) (s_WordOk x0.echo 32) fun c8 =>
        k c8
      else
      k false
    else
    k false
  else
  k false
def s_OptionsOk (x0 : Opti) : Bool :=
  bif (!x0.stamp) then
    bif (x0.val != 0) then
      false
    else
    bif (x0.echo != 0) then
      false
    else
    letK (α := Bool) (s_WordOk x0.mss 16) fun c1 =>
    bif c1 then
      letK (α := Bool) (s_l1In x0.scale (-1) 14) fun c2 =>
      bif c2 then
        letK (α := Bool) (s_WordOk x0.val 32) fun c3 =>
        bif c3 then
          letK (α := Bool) (s_WordOk x0.echo 32) fun c4 =>
          c4
        else
        false
      else
      false
    else
    false
  else
  letK (α := Bool) (s_WordOk x0.mss 16) fun c5 =>
  bif c5 then
    letK (α := Bool) (s_l1In x0.scale (-1) 14) fun c6 =>
    bif c6 then
      letK (α := Bool) (s_WordOk x0.val 32) fun c7 =>
      bif c7 then
        letK (α := Bool) (s_WordOk x0.echo 32) fun c8 =>
        c8
      else
      false
    else
    false
  else
  false
theorem s_OptionsOk_lk (x0 : Opti) : evalFn te (orcOf (P := Try.prog) [s_WordOk_e, s_l1In_e]) lorc0 [] Try.f71 (pvs [.st .opti] (x0, ())) =
  s_OptionsOk_N x0 _ none (fun v => some [rv (.sc .bool) [] v]) := by kernel_rfl
theorem s_OptionsOk_p (x0 : Opti)   (γ : Type) (fail : γ) (k : Bool → γ) : s_OptionsOk_N x0 γ fail k = k (s_OptionsOk x0) := by
  unfold s_OptionsOk_N s_OptionsOk
  exact bifT (f := k) (fun b0 => bifT (f := k) (fun b1 => rfl)
      (fun b1 => bifT (f := k) (fun b2 => rfl)
      (fun b2 => letT (f := k) (fun c1 hc1 => bifT (f := k) (fun b3 => letT (f := k) (fun c2 hc2 => bifT (f := k) (fun b4 => letT (f := k) (fun c3 hc3 => bifT (f := k) (fun b5 => letT (f := k) (fun c4 hc4 => rfl))
      (fun b5 => rfl)))
      (fun b4 => rfl)))
      (fun b3 => rfl)))))
      (fun b0 => letT (f := k) (fun c5 hc5 => bifT (f := k) (fun b1 => letT (f := k) (fun c6 hc6 => bifT (f := k) (fun b2 => letT (f := k) (fun c7 hc7 => bifT (f := k) (fun b3 => letT (f := k) (fun c8 hc8 => rfl))
      (fun b3 => rfl)))
      (fun b2 => rfl)))
      (fun b1 => rfl)))
theorem s_OptionsOk_c (x0 : Opti)  : Con Try.prog 71 (pvs [.st .opti] (x0, ())) [rv (.sc .bool) [] (s_OptionsOk x0)] := by
  exact evalFn_con0 teFact mixFact (orcOf_ok _) Try.func71 (by kernel_rfl) ((s_OptionsOk_lk x0).trans (s_OptionsOk_p x0  _ _ _))
noncomputable def s_OptionsOk_e : Ent1 Try.prog := entA 71 [.st .opti] (fun x => [rv (.sc .bool) [] (s_OptionsOk x.1)]) (fun x => s_OptionsOk_c x.1)


/-- impl.TupleOk -/
def i_TupleOk_N (x0 : Tupl) (γ : Type) (fail : γ) (k : Bool → γ) : γ :=
  letK (α := Bool) (i_WordOk x0.ip 32) fun c1 =>
  bif c1 then
    letK (α := Bool) (i_WordOk x0.port 16) fun c2 =>
    bif c2 then
      letK (α := Bool) (i_WordOk x0.my 16) fun c3 =>
      k c3
    else
    k false
  else
  k false
def i_TupleOk (x0 : Tupl) : Bool :=
  letK (α := Bool) (i_WordOk x0.ip 32) fun c1 =>
  bif c1 then
    letK (α := Bool) (i_WordOk x0.port 16) fun c2 =>
    bif c2 then
      letK (α := Bool) (i_WordOk x0.my 16) fun c3 =>
      c3
    else
    false
  else
  false
theorem i_TupleOk_lk (x0 : Tupl) : evalFn te (orcOf (P := Try.prog) [i_WordOk_e]) lorc0 [] Try.f74 (pvs [.st .tupl] (x0, ())) =
  i_TupleOk_N x0 _ none (fun v => some [rv (.sc .bool) [] v]) := by kernel_rfl
theorem i_TupleOk_p (x0 : Tupl)   (γ : Type) (fail : γ) (k : Bool → γ) : i_TupleOk_N x0 γ fail k = k (i_TupleOk x0) := by
  unfold i_TupleOk_N i_TupleOk
  exact letT (f := k) (fun c1 hc1 => bifT (f := k) (fun b0 => letT (f := k) (fun c2 hc2 => bifT (f := k) (fun b1 => letT (f := k) (fun c3 hc3 => rfl))
      (fun b1 => rfl)))
      (fun b0 => rfl))
theorem i_TupleOk_c (x0 : Tupl)  : Con Try.prog 74 (pvs [.st .tupl] (x0, ())) [rv (.sc .bool) [] (i_TupleOk x0)] := by
  exact evalFn_con0 teFact mixFact (orcOf_ok _) Try.func74 (by kernel_rfl) ((i_TupleOk_lk x0).trans (i_TupleOk_p x0  _ _ _))
noncomputable def i_TupleOk_e : Ent1 Try.prog := entA 74 [.st .tupl] (fun x => [rv (.sc .bool) [] (i_TupleOk x.1)]) (fun x => i_TupleOk_c x.1)


/-- impl.OptionsOk -/
def i_OptionsOk_N (x0 : Opti) (γ : Type) (fail : γ) (k : Bool → γ) : γ :=
  bif (!x0.stamp) then
    bif (x0.val != 0) then
      k false
    else
    bif (x0.echo != 0) then
      k false
    else
    letK (α := Bool) (i_WordOk x0.mss 16) fun c1 =>
    bif c1 then
      letK (α := Bool) (i_within x0.scale (-1) 14) fun c2 =>
      bif c2 then
        letK (α := Bool) (i_WordOk x0.val 32) fun c3 =>
        bif c3 then
          letK (α := Bool) (i_WordOk x0.echo 32) fun c4 =>
          k c4
        else
        k false
      else
      k false
    else
    k false
  else
  letK (α := Bool) (i_WordOk x0.mss 16) fun c5 =>
  bif c5 then
    letK (α := Bool) (i_within x0.scale (-1) 14) fun c6 =>
    bif c6 then
      letK (α := Bool) (i_WordOk x0.val 32) fun c7 =>
      bif c7 then
        letK (α := Bool) (i_WordOk x0.echo 32) fun c8 =>
        k c8
      else
      k false
    else
    k false
  else
  k false
def i_OptionsOk (x0 : Opti) : Bool :=
  bif (!x0.stamp) then
    bif (x0.val != 0) then
      false
    else
    bif (x0.echo != 0) then
      false
    else
    letK (α := Bool) (i_WordOk x0.mss 16) fun c1 =>
    bif c1 then
      letK (α := Bool) (i_within x0.scale (-1) 14) fun c2 =>
      bif c2 then
        letK (α := Bool) (i_WordOk x0.val 32) fun c3 =>
        bif c3 then
          letK (α := Bool) (i_WordOk x0.echo 32) fun c4 =>
          c4
        else
        false
      else
      false
    else
    false
  else
  letK (α := Bool) (i_WordOk x0.mss 16) fun c5 =>
  bif c5 then
    letK (α := Bool) (i_within x0.scale (-1) 14) fun c6 =>
    bif c6 then
      letK (α := Bool) (i_WordOk x0.val 32) fun c7 =>
      bif c7 then
        letK (α := Bool) (i_WordOk x0.echo 32) fun c8 =>
        c8
      else
      false
    else
    false
  else
  false
theorem i_OptionsOk_lk (x0 : Opti) : evalFn te (orcOf (P := Try.prog) [i_WordOk_e, i_within_e]) lorc0 [] Try.f75 (pvs [.st .opti] (x0, ())) =
  i_OptionsOk_N x0 _ none (fun v => some [rv (.sc .bool) [] v]) := by kernel_rfl
theorem i_OptionsOk_p (x0 : Opti)   (γ : Type) (fail : γ) (k : Bool → γ) : i_OptionsOk_N x0 γ fail k = k (i_OptionsOk x0) := by
  unfold i_OptionsOk_N i_OptionsOk
  exact bifT (f := k) (fun b0 => bifT (f := k) (fun b1 => rfl)
      (fun b1 => bifT (f := k) (fun b2 => rfl)
      (fun b2 => letT (f := k) (fun c1 hc1 => bifT (f := k) (fun b3 => letT (f := k) (fun c2 hc2 => bifT (f := k) (fun b4 => letT (f := k) (fun c3 hc3 => bifT (f := k) (fun b5 => letT (f := k) (fun c4 hc4 => rfl))
      (fun b5 => rfl)))
      (fun b4 => rfl)))
      (fun b3 => rfl)))))
      (fun b0 => letT (f := k) (fun c5 hc5 => bifT (f := k) (fun b1 => letT (f := k) (fun c6 hc6 => bifT (f := k) (fun b2 => letT (f := k) (fun c7 hc7 => bifT (f := k) (fun b3 => letT (f := k) (fun c8 hc8 => rfl))
      (fun b3 => rfl)))
      (fun b2 => rfl)))
      (fun b1 => rfl)))
theorem i_OptionsOk_c (x0 : Opti)  : Con Try.prog 75 (pvs [.st .opti] (x0, ())) [rv (.sc .bool) [] (i_OptionsOk x0)] := by
  exact evalFn_con0 teFact mixFact (orcOf_ok _) Try.func75 (by kernel_rfl) ((i_OptionsOk_lk x0).trans (i_OptionsOk_p x0  _ _ _))
noncomputable def i_OptionsOk_e : Ent1 Try.prog := entA 75 [.st .opti] (fun x => [rv (.sc .bool) [] (i_OptionsOk x.1)]) (fun x => i_OptionsOk_c x.1)


/-- slices.Contains[[]impl.Issue,impl.Issue] -/
def g_Contains_Issue_N (x0 : List Issu) (x1 : Issu) (γ : Type) (fail : γ) (k : Bool → γ) : γ :=
  letK (α := Int) (g_Index_Issue x0 x1) fun c1 =>
  k (decide (0 ≤ c1))
def g_Contains_Issue (x0 : List Issu) (x1 : Issu) : Bool :=
  letK (α := Int) (g_Index_Issue x0 x1) fun c1 =>
  (decide (0 ≤ c1))
theorem g_Contains_Issue_lk (x0 : List Issu) (x1 : Issu) : evalFn te (orcOf (P := Try.prog) [g_Index_Issue_e]) lorc0 [] Try.f77 (pvs [.sc (.sl .issu), .st .issu] (x0, x1, ())) =
  g_Contains_Issue_N x0 x1 _ none (fun v => some [rv (.sc .bool) [] v]) := by kernel_rfl
theorem g_Contains_Issue_p (x0 : List Issu) (x1 : Issu)   (γ : Type) (fail : γ) (k : Bool → γ) : g_Contains_Issue_N x0 x1 γ fail k = k (g_Contains_Issue x0 x1) := by
  unfold g_Contains_Issue_N g_Contains_Issue
  exact letT (f := k) (fun c1 hc1 => rfl)
theorem g_Contains_Issue_c (x0 : List Issu) (x1 : Issu)  : Con Try.prog 77 (pvs [.sc (.sl .issu), .st .issu] (x0, x1, ())) [rv (.sc .bool) [] (g_Contains_Issue x0 x1)] := by
  exact evalFn_con0 teFact mixFact (orcOf_ok _) Try.func77 (by kernel_rfl) ((g_Contains_Issue_lk x0 x1).trans (g_Contains_Issue_p x0 x1  _ _ _))
noncomputable def g_Contains_Issue_e : Ent1 Try.prog := entA 77 [.sc (.sl .issu), .st .issu] (fun x => [rv (.sc .bool) [] (g_Contains_Issue x.1 x.2.1)]) (fun x => g_Contains_Issue_c x.1 x.2.1)


/-- spec.SeqAdd -/
def s_SeqAdd_N (x0 : Int) (x1 : Int) (γ : Type) (fail : γ) (k : Int → γ) : γ :=
  letK (α := Int) (s_l4Rest x0) fun c1 =>
  letK (α := Int) (s_l4Rest x1) fun c2 =>
  letK (α := Int) (s_l4Rest (IntKind.wrap .i64 (c1 + c2))) fun c3 =>
  k c3
def s_SeqAdd (x0 : Int) (x1 : Int) : Int :=
  letK (α := Int) (s_l4Rest x0) fun c1 =>
  letK (α := Int) (s_l4Rest x1) fun c2 =>
  letK (α := Int) (s_l4Rest (IntKind.wrap .i64 (c1 + c2))) fun c3 =>
  c3
theorem s_SeqAdd_lk (x0 : Int) (x1 : Int) : evalFn te (orcOf (P := Try.prog) [s_l4Rest_e]) lorc0 [] Try.f82 (pvs [.sc (.int .i64), .sc (.int .i64)] (x0, x1, ())) =
  s_SeqAdd_N x0 x1 _ none (fun v => some [rv (.sc (.int .i64)) [] v]) := by kernel_rfl
theorem s_SeqAdd_p (x0 : Int) (x1 : Int)   (γ : Type) (fail : γ) (k : Int → γ) : s_SeqAdd_N x0 x1 γ fail k = k (s_SeqAdd x0 x1) := by
  unfold s_SeqAdd_N s_SeqAdd
  exact letT (f := k) (fun c1 hc1 => letT (f := k) (fun c2 hc2 => letT (f := k) (fun c3 hc3 => rfl)))
theorem s_SeqAdd_c (x0 : Int) (x1 : Int)  : Con Try.prog 82 (pvs [.sc (.int .i64), .sc (.int .i64)] (x0, x1, ())) [rv (.sc (.int .i64)) [] (s_SeqAdd x0 x1)] := by
  exact evalFn_con0 teFact mixFact (orcOf_ok _) Try.func82 (by kernel_rfl) ((s_SeqAdd_lk x0 x1).trans (s_SeqAdd_p x0 x1  _ _ _))
noncomputable def s_SeqAdd_e : Ent1 Try.prog := entA 82 [.sc (.int .i64), .sc (.int .i64)] (fun x => [rv (.sc (.int .i64)) [] (s_SeqAdd x.1 x.2.1)]) (fun x => s_SeqAdd_c x.1 x.2.1)


/-- spec.ClientOk -/
def s_ClientOk_N (x0 : Clie) (γ : Type) (fail : γ) (k : Bool → γ) : γ :=
  letK (α := Bool) (s_TupleOk x0.tuple) fun c1 =>
  bif c1 then
    letK (α := Bool) (s_OptionsOk x0.opts) fun c2 =>
    bif c2 then
      letK (α := Bool) (s_WordOk x0.isn 32) fun c3 =>
      bif c3 then
        letK (α := Bool) (s_WordOk x0.window 16) fun c4 =>
        k c4
      else
      k false
    else
    k false
  else
  k false
def s_ClientOk (x0 : Clie) : Bool :=
  letK (α := Bool) (s_TupleOk x0.tuple) fun c1 =>
  bif c1 then
    letK (α := Bool) (s_OptionsOk x0.opts) fun c2 =>
    bif c2 then
      letK (α := Bool) (s_WordOk x0.isn 32) fun c3 =>
      bif c3 then
        letK (α := Bool) (s_WordOk x0.window 16) fun c4 =>
        c4
      else
      false
    else
    false
  else
  false
theorem s_ClientOk_lk (x0 : Clie) : evalFn te (orcOf (P := Try.prog) [s_TupleOk_e, s_OptionsOk_e, s_WordOk_e]) lorc0 [] Try.f20 (pvs [.st .clie] (x0, ())) =
  s_ClientOk_N x0 _ none (fun v => some [rv (.sc .bool) [] v]) := by kernel_rfl
theorem s_ClientOk_p (x0 : Clie)   (γ : Type) (fail : γ) (k : Bool → γ) : s_ClientOk_N x0 γ fail k = k (s_ClientOk x0) := by
  unfold s_ClientOk_N s_ClientOk
  exact letT (f := k) (fun c1 hc1 => bifT (f := k) (fun b0 => letT (f := k) (fun c2 hc2 => bifT (f := k) (fun b1 => letT (f := k) (fun c3 hc3 => bifT (f := k) (fun b2 => letT (f := k) (fun c4 hc4 => rfl))
      (fun b2 => rfl)))
      (fun b1 => rfl)))
      (fun b0 => rfl))
theorem s_ClientOk_c (x0 : Clie)  : Con Try.prog 20 (pvs [.st .clie] (x0, ())) [rv (.sc .bool) [] (s_ClientOk x0)] := by
  exact evalFn_con0 teFact mixFact (orcOf_ok _) Try.func20 (by kernel_rfl) ((s_ClientOk_lk x0).trans (s_ClientOk_p x0  _ _ _))
noncomputable def s_ClientOk_e : Ent1 Try.prog := entA 20 [.st .clie] (fun x => [rv (.sc .bool) [] (s_ClientOk x.1)]) (fun x => s_ClientOk_c x.1)


/-- impl.ClientOk -/
def i_ClientOk_N (x0 : Clie) (γ : Type) (fail : γ) (k : Bool → γ) : γ :=
  letK (α := Bool) (i_TupleOk x0.tuple) fun c1 =>
  bif c1 then
    letK (α := Bool) (i_OptionsOk x0.opts) fun c2 =>
    bif c2 then
      letK (α := Bool) (i_WordOk x0.isn 32) fun c3 =>
      bif c3 then
        letK (α := Bool) (i_WordOk x0.window 16) fun c4 =>
        k c4
      else
      k false
    else
    k false
  else
  k false
def i_ClientOk (x0 : Clie) : Bool :=
  letK (α := Bool) (i_TupleOk x0.tuple) fun c1 =>
  bif c1 then
    letK (α := Bool) (i_OptionsOk x0.opts) fun c2 =>
    bif c2 then
      letK (α := Bool) (i_WordOk x0.isn 32) fun c3 =>
      bif c3 then
        letK (α := Bool) (i_WordOk x0.window 16) fun c4 =>
        c4
      else
      false
    else
    false
  else
  false
theorem i_ClientOk_lk (x0 : Clie) : evalFn te (orcOf (P := Try.prog) [i_TupleOk_e, i_OptionsOk_e, i_WordOk_e]) lorc0 [] Try.f22 (pvs [.st .clie] (x0, ())) =
  i_ClientOk_N x0 _ none (fun v => some [rv (.sc .bool) [] v]) := by kernel_rfl
theorem i_ClientOk_p (x0 : Clie)   (γ : Type) (fail : γ) (k : Bool → γ) : i_ClientOk_N x0 γ fail k = k (i_ClientOk x0) := by
  unfold i_ClientOk_N i_ClientOk
  exact letT (f := k) (fun c1 hc1 => bifT (f := k) (fun b0 => letT (f := k) (fun c2 hc2 => bifT (f := k) (fun b1 => letT (f := k) (fun c3 hc3 => bifT (f := k) (fun b2 => letT (f := k) (fun c4 hc4 => rfl))
      (fun b2 => rfl)))
      (fun b1 => rfl)))
      (fun b0 => rfl))
theorem i_ClientOk_c (x0 : Clie)  : Con Try.prog 22 (pvs [.st .clie] (x0, ())) [rv (.sc .bool) [] (i_ClientOk x0)] := by
  exact evalFn_con0 teFact mixFact (orcOf_ok _) Try.func22 (by kernel_rfl) ((i_ClientOk_lk x0).trans (i_ClientOk_p x0  _ _ _))
noncomputable def i_ClientOk_e : Ent1 Try.prog := entA 22 [.st .clie] (fun x => [rv (.sc .bool) [] (i_ClientOk x.1)]) (fun x => i_ClientOk_c x.1)


/-- laws.toIssueS -/
def w_toIssueS_ann : List (Nat × Keep) := [(0, ⟨[0, 3, 4], [], false⟩)]
def w_toIssueS_L0_sh : Sh := ⟨[(0, false, [.sl .arg .issu]), (3, false, [.own 0]), (4, false, [.int .i64])], [.arr .issu false true]⟩
def w_toIssueS_L0_es : List (Ex × Sh) := [(.exit 0, ⟨[(2, false, [.undef]), (3, false, [.own 0])], [.arr .issu false true]⟩)]
def w_toIssueS_L0_mk (v0 : List Issu) (v1 : Int) (v2 : List Issu) : w_toIssueS_L0_sh.T := (((v0, ()), (((), ()), ((v1, ()), ()))), (v2, ()))
def w_toIssueS_L0_mx0 (y0 : List Issu) : Sh.T ⟨[(2, false, [.undef]), (3, false, [.own 0])], [.arr .issu false true]⟩ := ((((), ()), (((), ()), ())), (y0, ()))
def w_toIssueS_L0_B (v0 : List Issu) (v1 : Int) (v2 : List Issu) (γ : Type) (fail : γ) (next : w_toIssueS_L0_sh.T → γ) (out : WT w_toIssueS_L0_es → γ) : γ :=
  bif (decide (v1 < (v0.length : Int))) then
    bif ((decide (0 ≤ v1)) && (decide (v1 < (v0.length : Int)))) then
    letK (α := Issu) (w_toIssue (v0.getD v1.toNat (Ty.zero .issu))) fun c1 =>
    bif ((decide (0 ≤ v1)) && (decide (v1 < (v2.length : Int)))) then
    next (w_toIssueS_L0_mk v0 (IntKind.wrap .i64 (v1 + 1)) (v2.set v1.toNat c1))
    else fail
    else fail
  else
  out (w_toIssueS_L0_mx0 v2)
theorem w_toIssueS_L0_par (v0 : List Issu) (v1 : Int) (v2 : List Issu) (γ : Type) (fail : γ) (next : w_toIssueS_L0_sh.T → γ) (out : WT w_toIssueS_L0_es → γ) : w_toIssueS_L0_B v0 v1 v2 γ fail next out = optK (w_toIssueS_L0_B v0 v1 v2 _ none (fun v' => some (.inl v')) (fun w => some (.inr w))) fail (fun r => Sum.elim next out r) := by
  unfold w_toIssueS_L0_B
  exact bifT (f := (fun o => optK o fail (fun r => Sum.elim next out r))) (fun _ => bifT (f := (fun o => optK o fail (fun r => Sum.elim next out r))) (fun _ => letT (f := (fun o => optK o fail (fun r => Sum.elim next out r))) (fun c1 _ => bifT (f := (fun o => optK o fail (fun r => Sum.elim next out r))) (fun _ => rfl) (fun _ => rfl))) (fun _ => rfl))
      (fun _ => rfl)
def w_toIssueS_L0_r : Round w_toIssueS_L0_sh.T (WT w_toIssueS_L0_es) where
  B v γ fail next out := w_toIssueS_L0_B v.1.1.1 v.1.2.2.1.1 v.2.1 γ fail next out
  par v γ fail next out := w_toIssueS_L0_par v.1.1.1 v.1.2.2.1.1 v.2.1 γ fail next out
def w_toIssueS_L0_fu (v0 : List Issu) (v1 : Int) (v2 : List Issu) : Nat := (Int.toNat ((v0.length : Int) - v1)) + 1
theorem w_toIssueS_L0_lk (v : w_toIssueS_L0_sh.T) (next : St → Option Res) (k : Ex → St → Option Res) : evalK te (orcOf (P := Try.prog) [w_toIssue_e]) (lorcOf []) Try.f28.ntmps w_toIssueS_ann (nthLoop (bodyOf Try.f28) 0 0) 0 (w_toIssueS_L0_sh.enc v) (endK ⟨[0, 3, 4], [], false⟩ ⟨[2, 3], [], false⟩ next k) =
  w_toIssueS_L0_r.B v _ none (fun v' => next (w_toIssueS_L0_sh.enc v')) (fun w => outK w_toIssueS_L0_es k w) := by kernel_rfl
def w_toIssueS_L0_le : LE := leOf 0 w_toIssueS_L0_sh w_toIssueS_L0_es w_toIssueS_L0_r.step (fun v => w_toIssueS_L0_fu v.1.1.1 v.1.2.2.1.1 v.2.1)
theorem w_toIssueS_L0_ls (w0 : World) (I0 : Nat → Prop) : LSem Try.prog (Sim w0 Try.f28.ntmps I0) (fun b s k => match Nat.beq 0 b with | true => w_toIssueS_L0_le.run s k | false => none) 0 (nthLoop (bodyOf Try.f28) 0 0) :=
  le_sem (lorc := lorcOf []) (ann := w_toIssueS_ann) (keep := ⟨[0, 3, 4], [], false⟩) (kout := ⟨[2, 3], [], false⟩) teFact mixFact (orcOf_ok _) (allLoops_of (bs := []) (by kernel_rfl) trivial) w_toIssueS_L0_r _ w_toIssueS_L0_lk
def w_toIssueS_L0_f (v0 : List Issu) (v1 : Int) (a : List Issu) : Stp (List Issu) (Empty) :=
  letK (α := Issu) (w_toIssue (v0.getD v1.toNat (Ty.zero .issu))) fun c1 =>
  .next (a.set v1.toNat c1)
theorem w_toIssueS_L0_st (v0 : List Issu) (v1 : Int) (v2 : List Issu) (hlo : 0 ≤ v1) (hhi : v1 < (v0.length : Int)) (hN : (v0.length : Int) ≤ 4611686018427387904) (hinv : (v0.length : Int) ≤ (v2.length : Int)) : w_toIssueS_L0_r.step (w_toIssueS_L0_mk v0 v1 v2) = Stp.elim (fun a' : List Issu => some (Sum.inl (w_toIssueS_L0_mk v0 (v1 + 1) a'))) (fun w => some (Sum.inr ((fun p : Empty => nomatch p) w))) (w_toIssueS_L0_f v0 v1 v2) := by
  have hw : (IntKind.wrap .i64 (v1 + 1)) = v1 + 1 := wrap64 (by omega) (by omega)
  show w_toIssueS_L0_B v0 v1 v2 (Option (w_toIssueS_L0_sh.T ⊕ WT w_toIssueS_L0_es)) none (fun v' => some (Sum.inl v')) (fun w => some (Sum.inr w)) = _
  unfold w_toIssueS_L0_B w_toIssueS_L0_f
  exact bifG (by simp only [decide_eq_true_eq]; omega) (bifG (by (try simp only [Nat.ble_eq, Bool.and_eq_true, decide_eq_true_eq]); grind [maxSl, maxStr]) (letT (f := (Stp.elim (fun a' : List Issu => some (Sum.inl (w_toIssueS_L0_mk v0 (v1 + 1) a'))) (fun w => some (Sum.inr ((fun p : Empty => nomatch p) w))))) (fun c1 hc1 => bifG (by (try simp only [Nat.ble_eq, Bool.and_eq_true, decide_eq_true_eq]); grind [maxSl, maxStr]) (congrArg (fun z => some (Sum.inl (w_toIssueS_L0_mk v0 z (v2.set v1.toNat c1)))) hw))))
theorem w_toIssueS_L0_cl (v0 : List Issu) (v1 : Int) (v2 : List Issu) (h0 : 0 ≤ v1) (h1 : (v0.length : Int) ≤ 4611686018427387904) (h2 : (v0.length : Int) ≤ (v2.length : Int)) : loopF w_toIssueS_L0_r.step (w_toIssueS_L0_fu v0 v1 v2) (w_toIssueS_L0_mk v0 v1 v2) = some (Stp.elim (fun a => (fun i a => w_toIssueS_L0_mx0 a) (v1 + 1 * (((Int.toNat ((v0.length : Int) - v1)) : Nat) : Int)) a) (fun p : Empty => nomatch p) (forN (w_toIssueS_L0_f v0) 1 (Int.toNat ((v0.length : Int) - v1)) v1 v2)) :=
  forN_loop (step := w_toIssueS_L0_r.step) (mk := fun v1 a => w_toIssueS_L0_mk v0 v1 a) (f := w_toIssueS_L0_f v0) (e := (fun i a => w_toIssueS_L0_mx0 a)) (emb := (fun p : Empty => nomatch p)) (st := 1) (Inv := fun v1 a => (v0.length : Int) ≤ (a.length : Int)) (Int.toNat ((v0.length : Int) - v1)) v1 v2 _ (Nat.lt_succ_self _) h2
    (fun j a hj hv => ⟨w_toIssueS_L0_st v0 (v1 + 1 * (j : Int)) a (by omega) (by omega) (by omega) hv, by
      intro a' he
      grind [w_toIssueS_L0_f, letK, Stp.elim, wrap64]⟩)
    (fun a hv => by
      show w_toIssueS_L0_B v0 (v1 + 1 * (((Int.toNat ((v0.length : Int) - v1)) : Nat) : Int)) a (Option (w_toIssueS_L0_sh.T ⊕ WT w_toIssueS_L0_es)) none (fun v' => some (Sum.inl v')) (fun w => some (Sum.inr w)) = _
      unfold w_toIssueS_L0_B
      exact bifN (by simp only [decide_eq_false_iff_not]; omega) rfl)
def w_toIssueS_N (x0 : List Issu) (γ : Type) (fail : γ) (k : List Issu → γ) : γ :=
  bif ((((decide (0 ≤ (x0.length : Int))) && (decide ((x0.length : Int) = (x0.length : Int)))) && (decide ((x0.length : Int) * 40 ≤ (maxSl : Int)))) && (decide ((x0.length : Int) ≤ (maxSl : Int)))) then
  optK (loopF w_toIssueS_L0_r.step (w_toIssueS_L0_fu x0 0 (List.replicate ((x0.length : Int).toNat) (⟨⟨0, 0, 0⟩, 0, 0⟩ : Issu))) (w_toIssueS_L0_mk x0 0 (List.replicate ((x0.length : Int).toNat) (⟨⟨0, 0, 0⟩, 0, 0⟩ : Issu)))) fail fun w2 =>
    k w2.2.1
  else fail
def w_toIssueS (x0 : List Issu) : List Issu :=
  Stp.elim (fun a3 =>
    a3)
    (fun p : Empty => nomatch p)
    (forN (w_toIssueS_L0_f x0) 1 (Int.toNat ((x0.length : Int) - 0)) 0 (List.replicate ((x0.length : Int).toNat) (⟨⟨0, 0, 0⟩, 0, 0⟩ : Issu)))
theorem w_toIssueS_lk (x0 : List Issu) : evalFn te (orcOf (P := Try.prog) [w_toIssue_e]) (lorcOf [w_toIssueS_L0_le]) w_toIssueS_ann Try.f28 (pvs [.sc (.sl .issu)] (x0, ())) =
  w_toIssueS_N x0 _ none (fun v => some [rv (.sc (.sl .issu)) [.o true] v]) := by kernel_rfl
theorem w_toIssueS_p (x0 : List Issu) (hx0 : x0.length ≤ 140737488355328) (hp : x0.length ≤ 4294967296) (γ : Type) (fail : γ) (k : List Issu → γ) : w_toIssueS_N x0 γ fail k = k (w_toIssueS x0) := by
  unfold w_toIssueS_N w_toIssueS
  exact bifG (by (try simp only [Nat.ble_eq, Bool.and_eq_true, decide_eq_true_eq]); grind [maxSl, maxStr]) (loopT (f := k) (w_toIssueS_L0_cl x0 0 (List.replicate ((x0.length : Int).toNat) (⟨⟨0, 0, 0⟩, 0, 0⟩ : Issu)) (by (try simp only [Nat.ble_eq, Bool.and_eq_true, decide_eq_true_eq]); grind [maxSl, maxStr]) (by (try simp only [Nat.ble_eq, Bool.and_eq_true, decide_eq_true_eq]); grind [maxSl, maxStr]) (by (try simp only [Nat.ble_eq, Bool.and_eq_true, decide_eq_true_eq]); grind [maxSl, maxStr])) (fun a3 => rfl)
      (fun p : Empty => nomatch p))
theorem w_toIssueS_c (x0 : List Issu) (hp : x0.length ≤ 4294967296) : Con Try.prog 28 (pvs [.sc (.sl .issu)] (x0, ())) [rv (.sc (.sl .issu)) [.o true] (w_toIssueS x0)] := by
  refine Con.of_facts (enters_of Try.func28 rfl (by kernel_rfl)) fun hf => ?_
  replace hf := factAt hf
  exact evalFn_conL teFact mixFact (orcOf_ok _) Try.func28 (by kernel_rfl) (bs := [0]) (by kernel_rfl) (fun w0 I0 => ⟨lsem_of_lorc (w_toIssueS_L0_ls w0 I0) (by kernel_rfl), trivial⟩) ((w_toIssueS_lk x0).trans (w_toIssueS_p x0 ((hf 0 0 rfl rfl).len) hp _ _ _))
noncomputable def w_toIssueS_e : Ent1 Try.prog := entP 28 [.sc (.sl .issu)] (fun x => (decide (x.1.length ≤ 4294967296))) (fun x => [rv (.sc (.sl .issu)) [.o true] (w_toIssueS x.1)]) (fun x hx => w_toIssueS_c x.1 (of_decide_eq_true hx))


/-- impl.HasIssue -/
def i_HasIssue_N (x0 : List Issu) (x1 : Issu) (γ : Type) (fail : γ) (k : Bool → γ) : γ :=
  letK (α := Bool) (g_Contains_Issue x0 x1) fun c1 =>
  k c1
def i_HasIssue (x0 : List Issu) (x1 : Issu) : Bool :=
  letK (α := Bool) (g_Contains_Issue x0 x1) fun c1 =>
  c1
theorem i_HasIssue_lk (x0 : List Issu) (x1 : Issu) : evalFn te (orcOf (P := Try.prog) [g_Contains_Issue_e]) lorc0 [] Try.f30 (pvs [.sc (.sl .issu), .st .issu] (x0, x1, ())) =
  i_HasIssue_N x0 x1 _ none (fun v => some [rv (.sc .bool) [] v]) := by kernel_rfl
theorem i_HasIssue_p (x0 : List Issu) (x1 : Issu)   (γ : Type) (fail : γ) (k : Bool → γ) : i_HasIssue_N x0 x1 γ fail k = k (i_HasIssue x0 x1) := by
  unfold i_HasIssue_N i_HasIssue
  exact letT (f := k) (fun c1 hc1 => rfl)
theorem i_HasIssue_c (x0 : List Issu) (x1 : Issu)  : Con Try.prog 30 (pvs [.sc (.sl .issu), .st .issu] (x0, x1, ())) [rv (.sc .bool) [] (i_HasIssue x0 x1)] := by
  exact evalFn_con0 teFact mixFact (orcOf_ok _) Try.func30 (by kernel_rfl) ((i_HasIssue_lk x0 x1).trans (i_HasIssue_p x0 x1  _ _ _))
noncomputable def i_HasIssue_e : Ent1 Try.prog := entA 30 [.sc (.sl .issu), .st .issu] (fun x => [rv (.sc .bool) [] (i_HasIssue x.1 x.2.1)]) (fun x => i_HasIssue_c x.1 x.2.1)


/-- spec.Granted -/
def s_Granted_N (x0 : Opti) (γ : Type) (fail : γ) (k : Opti → γ) : γ :=
  letK (α := Opti) s_NoOptions fun c1 =>
  bif (x0.mss == 0) then
    letK (α := Int) (s_MssIndex 536) fun c2 =>
    letK (α := Int) (s_MssOf c2) fun c3 =>
    bif x0.stamp then
      letK (α := Int) (s_SeqAdd x0.val 1) fun c4 =>
      k (⟨c3, x0.scale, x0.sack, true, c4, c1.echo⟩ : Opti)
    else
    k ({ c1 with mss := c3 } : Opti)
  else
  letK (α := Int) (s_MssIndex x0.mss) fun c5 =>
  letK (α := Int) (s_MssOf c5) fun c6 =>
  bif x0.stamp then
    letK (α := Int) (s_SeqAdd x0.val 1) fun c7 =>
    k (⟨c6, x0.scale, x0.sack, true, c7, c1.echo⟩ : Opti)
  else
  k ({ c1 with mss := c6 } : Opti)
def s_Granted (x0 : Opti) : Opti :=
  letK (α := Opti) s_NoOptions fun c1 =>
  bif (x0.mss == 0) then
    letK (α := Int) (s_MssIndex 536) fun c2 =>
    letK (α := Int) (s_MssOf c2) fun c3 =>
    bif x0.stamp then
      letK (α := Int) (s_SeqAdd x0.val 1) fun c4 =>
      (⟨c3, x0.scale, x0.sack, true, c4, c1.echo⟩ : Opti)
    else
    ({ c1 with mss := c3 } : Opti)
  else
  letK (α := Int) (s_MssIndex x0.mss) fun c5 =>
  letK (α := Int) (s_MssOf c5) fun c6 =>
  bif x0.stamp then
    letK (α := Int) (s_SeqAdd x0.val 1) fun c7 =>
    (⟨c6, x0.scale, x0.sack, true, c7, c1.echo⟩ : Opti)
  else
  ({ c1 with mss := c6 } : Opti)
theorem s_Granted_lk (x0 : Opti) : evalFn te (orcOf (P := Try.prog) [s_NoOptions_e, s_MssIndex_e, s_MssOf_e, s_SeqAdd_e]) lorc0 [] Try.f32 (pvs [.st .opti] (x0, ())) =
  s_Granted_N x0 _ none (fun v => some [rv (.st .opti) [] v]) := by kernel_rfl
theorem s_Granted_p (x0 : Opti)   (γ : Type) (fail : γ) (k : Opti → γ) : s_Granted_N x0 γ fail k = k (s_Granted x0) := by
  unfold s_Granted_N s_Granted
  exact letT (f := k) (fun c1 hc1 => bifT (f := k) (fun b0 => letT (f := k) (fun c2 hc2 => letT (f := k) (fun c3 hc3 => bifT (f := k) (fun b1 => letT (f := k) (fun c4 hc4 => rfl))
      (fun b1 => rfl))))
      (fun b0 => letT (f := k) (fun c5 hc5 => letT (f := k) (fun c6 hc6 => bifT (f := k) (fun b1 => letT (f := k) (fun c7 hc7 => rfl))
      (fun b1 => rfl)))))
theorem s_Granted_c (x0 : Opti)  : Con Try.prog 32 (pvs [.st .opti] (x0, ())) [rv (.st .opti) [] (s_Granted x0)] := by
  exact evalFn_con0 teFact mixFact (orcOf_ok _) Try.func32 (by kernel_rfl) ((s_Granted_lk x0).trans (s_Granted_p x0  _ _ _))
noncomputable def s_Granted_e : Ent1 Try.prog := entA 32 [.st .opti] (fun x => [rv (.st .opti) [] (s_Granted x.1)]) (fun x => s_Granted_c x.1)


/-- spec.ReplyTo -/
def s_ReplyTo_N (x0 : Clie) (x1 : Segm) (γ : Type) (fail : γ) (k : Segm × Bool → γ) : γ :=
  letK (α := Int) (s_SeqAdd x0.isn 1) fun c1 =>
  bif (x1.flags != 18) then
    k ((⟨0, 0, 0, 0, 0, 0, ⟨0, 0, false, false, 0, 0⟩, []⟩ : Segm), false)
  else
  bif (x1.ack != c1) then
    k ((⟨0, 0, 0, 0, 0, 0, ⟨0, 0, false, false, 0, 0⟩, []⟩ : Segm), false)
  else
  letK (α := Int) (s_SeqAdd x1.seq 1) fun c2 =>
  letK (α := Opti) s_NoOptions fun c3 =>
  bif x0.opts.stamp then
    bif x1.opts.stamp then
      letK (α := Int) (s_SeqAdd x0.opts.val 1) fun c4 =>
      k ((⟨x0.tuple.port, x0.tuple.my, c1, c2, 16, x0.window, ⟨c3.mss, c3.scale, c3.sack, true, c4, x1.opts.val⟩, []⟩ : Segm), true)
    else
    k ((⟨x0.tuple.port, x0.tuple.my, c1, c2, 16, x0.window, c3, []⟩ : Segm), true)
  else
  k ((⟨x0.tuple.port, x0.tuple.my, c1, c2, 16, x0.window, c3, []⟩ : Segm), true)
def s_ReplyTo (x0 : Clie) (x1 : Segm) : Segm × Bool :=
  letK (α := Int) (s_SeqAdd x0.isn 1) fun c1 =>
  bif (x1.flags != 18) then
    ((⟨0, 0, 0, 0, 0, 0, ⟨0, 0, false, false, 0, 0⟩, []⟩ : Segm), false)
  else
  bif (x1.ack != c1) then
    ((⟨0, 0, 0, 0, 0, 0, ⟨0, 0, false, false, 0, 0⟩, []⟩ : Segm), false)
  else
  letK (α := Int) (s_SeqAdd x1.seq 1) fun c2 =>
  letK (α := Opti) s_NoOptions fun c3 =>
  bif x0.opts.stamp then
    bif x1.opts.stamp then
      letK (α := Int) (s_SeqAdd x0.opts.val 1) fun c4 =>
      ((⟨x0.tuple.port, x0.tuple.my, c1, c2, 16, x0.window, ⟨c3.mss, c3.scale, c3.sack, true, c4, x1.opts.val⟩, []⟩ : Segm), true)
    else
    ((⟨x0.tuple.port, x0.tuple.my, c1, c2, 16, x0.window, c3, []⟩ : Segm), true)
  else
  ((⟨x0.tuple.port, x0.tuple.my, c1, c2, 16, x0.window, c3, []⟩ : Segm), true)
theorem s_ReplyTo_lk (x0 : Clie) (x1 : Segm) : evalFn te (orcOf (P := Try.prog) [s_SeqAdd_e, s_NoOptions_e]) lorc0 [] Try.f42 (pvs [.st .clie, .st .segm] (x0, x1, ())) =
  s_ReplyTo_N x0 x1 _ none (fun v => some [rv (.st .segm) [] v.1, rv (.sc .bool) [] v.2]) := by kernel_rfl
theorem s_ReplyTo_p (x0 : Clie) (x1 : Segm)   (γ : Type) (fail : γ) (k : Segm × Bool → γ) : s_ReplyTo_N x0 x1 γ fail k = k (s_ReplyTo x0 x1) := by
  unfold s_ReplyTo_N s_ReplyTo
  exact letT (f := k) (fun c1 hc1 => bifT (f := k) (fun b0 => rfl)
      (fun b0 => bifT (f := k) (fun b1 => rfl)
      (fun b1 => letT (f := k) (fun c2 hc2 => letT (f := k) (fun c3 hc3 => bifT (f := k) (fun b2 => bifT (f := k) (fun b3 => letT (f := k) (fun c4 hc4 => rfl))
      (fun b3 => rfl))
      (fun b2 => rfl))))))
theorem s_ReplyTo_c (x0 : Clie) (x1 : Segm)  : Con Try.prog 42 (pvs [.st .clie, .st .segm] (x0, x1, ())) [rv (.st .segm) [] (s_ReplyTo x0 x1).1, rv (.sc .bool) [] (s_ReplyTo x0 x1).2] := by
  exact evalFn_con0 teFact mixFact (orcOf_ok _) Try.func42 (by kernel_rfl) ((s_ReplyTo_lk x0 x1).trans (s_ReplyTo_p x0 x1  _ _ _))
noncomputable def s_ReplyTo_e : Ent1 Try.prog := entA 42 [.st .clie, .st .segm] (fun x => [rv (.st .segm) [] (s_ReplyTo x.1 x.2.1).1, rv (.sc .bool) [] (s_ReplyTo x.1 x.2.1).2]) (fun x => s_ReplyTo_c x.1 x.2.1)


/-- laws.FnExactClientOk -/
def w_FnExactClientOk_N (x0 : Clie) (γ : Type) (fail : γ) (k : Bool → γ) : γ :=
  letK (α := Clie) (w_toClient x0) fun c1 =>
  letK (α := Bool) (s_ClientOk c1) fun c2 =>
  letK (α := Clie) (w_toClient x0) fun c3 =>
  letK (α := Bool) (i_ClientOk c3) fun c4 =>
  bif (!(c4 == c2)) then
    k false
  else
  k true
def w_FnExactClientOk (x0 : Clie) : Bool :=
  letK (α := Clie) (w_toClient x0) fun c1 =>
  letK (α := Bool) (s_ClientOk c1) fun c2 =>
  letK (α := Clie) (w_toClient x0) fun c3 =>
  letK (α := Bool) (i_ClientOk c3) fun c4 =>
  bif (!(c4 == c2)) then
    false
  else
  true
theorem w_FnExactClientOk_lk (x0 : Clie) : evalFn te (orcOf (P := Try.prog) [w_toClient_e, s_ClientOk_e, i_ClientOk_e]) lorc0 [] Try.f5 (pvs [.st .clie] (x0, ())) =
  w_FnExactClientOk_N x0 _ none (fun v => some [rv (.sc .bool) [] v]) := by kernel_rfl
theorem w_FnExactClientOk_p (x0 : Clie)   (γ : Type) (fail : γ) (k : Bool → γ) : w_FnExactClientOk_N x0 γ fail k = k (w_FnExactClientOk x0) := by
  unfold w_FnExactClientOk_N w_FnExactClientOk
  exact letT (f := k) (fun c1 hc1 => letT (f := k) (fun c2 hc2 => letT (f := k) (fun c3 hc3 => letT (f := k) (fun c4 hc4 => bifT (f := k) (fun b0 => rfl)
      (fun b0 => rfl)))))
theorem w_FnExactClientOk_c (x0 : Clie)  : Con Try.prog 5 (pvs [.st .clie] (x0, ())) [rv (.sc .bool) [] (w_FnExactClientOk x0)] := by
  exact evalFn_con0 teFact mixFact (orcOf_ok _) Try.func5 (by kernel_rfl) ((w_FnExactClientOk_lk x0).trans (w_FnExactClientOk_p x0  _ _ _))
noncomputable def w_FnExactClientOk_e : Ent1 Try.prog := entA 5 [.st .clie] (fun x => [rv (.sc .bool) [] (w_FnExactClientOk x.1)]) (fun x => w_FnExactClientOk_c x.1)


/-- laws.FnExactGranted -/
def w_FnExactGranted_N (x0 : Opti) (γ : Type) (fail : γ) (k : Bool → γ) : γ :=
  letK (α := Opti) (w_toOptions x0) fun c1 =>
  letK (α := Opti) (s_Granted c1) fun c2 =>
  letK (α := Opti) (w_toOptions x0) fun c3 =>
  letK (α := Opti) (i_Granted c3) fun c4 =>
  letK (α := Bool) (w_eqOptions c4 c2) fun c5 =>
  bif (!c5) then
    k false
  else
  k true
def w_FnExactGranted (x0 : Opti) : Bool :=
  letK (α := Opti) (w_toOptions x0) fun c1 =>
  letK (α := Opti) (s_Granted c1) fun c2 =>
  letK (α := Opti) (w_toOptions x0) fun c3 =>
  letK (α := Opti) (i_Granted c3) fun c4 =>
  letK (α := Bool) (w_eqOptions c4 c2) fun c5 =>
  bif (!c5) then
    false
  else
  true
theorem w_FnExactGranted_lk (x0 : Opti) : evalFn te (orcOf (P := Try.prog) [w_toOptions_e, s_Granted_e, i_Granted_e, w_eqOptions_e]) lorc0 [] Try.f8 (pvs [.st .opti] (x0, ())) =
  w_FnExactGranted_N x0 _ none (fun v => some [rv (.sc .bool) [] v]) := by kernel_rfl
theorem w_FnExactGranted_p (x0 : Opti)   (γ : Type) (fail : γ) (k : Bool → γ) : w_FnExactGranted_N x0 γ fail k = k (w_FnExactGranted x0) := by
  unfold w_FnExactGranted_N w_FnExactGranted
  exact letT (f := k) (fun c1 hc1 => letT (f := k) (fun c2 hc2 => letT (f := k) (fun c3 hc3 => letT (f := k) (fun c4 hc4 => letT (f := k) (fun c5 hc5 => bifT (f := k) (fun b0 => rfl)
      (fun b0 => rfl))))))
theorem w_FnExactGranted_c (x0 : Opti)  : Con Try.prog 8 (pvs [.st .opti] (x0, ())) [rv (.sc .bool) [] (w_FnExactGranted x0)] := by
  exact evalFn_con0 teFact mixFact (orcOf_ok _) Try.func8 (by kernel_rfl) ((w_FnExactGranted_lk x0).trans (w_FnExactGranted_p x0  _ _ _))
noncomputable def w_FnExactGranted_e : Ent1 Try.prog := entA 8 [.st .opti] (fun x => [rv (.sc .bool) [] (w_FnExactGranted x.1)]) (fun x => w_FnExactGranted_c x.1)


/-- laws.FnExactReplyTo -/
def w_FnExactReplyTo_N (x0 : Clie) (x1 : Segm) (γ : Type) (fail : γ) (k : Bool → γ) : γ :=
  letK (α := Int) (w_szSegment x1 1048576) fun c1 =>
  bif (decide (c1 < 0)) then
    k true
  else
  letK (α := Clie) (w_toClient x0) fun c2 =>
  letK (α := Segm) (w_toSegment x1) fun c3 =>
  letK (α := Segm × Bool) (s_ReplyTo c2 c3) fun c4 =>
  letK (α := Clie) (w_toClient x0) fun c5 =>
  letK (α := Segm) (w_toSegment x1) fun c6 =>
  letK (α := Segm × Bool) (i_ReplyTo c5 c6) fun c7 =>
  letK (α := Bool) (w_eqSegment c7.1 c4.1) fun c8 =>
  bif (!c8) then
    k false
  else
  bif (!(c7.2 == c4.2)) then
    k false
  else
  k true
def w_FnExactReplyTo (x0 : Clie) (x1 : Segm) : Bool :=
  letK (α := Int) (w_szSegment x1 1048576) fun c1 =>
  bif (decide (c1 < 0)) then
    true
  else
  letK (α := Clie) (w_toClient x0) fun c2 =>
  letK (α := Segm) (w_toSegment x1) fun c3 =>
  letK (α := Segm × Bool) (s_ReplyTo c2 c3) fun c4 =>
  letK (α := Clie) (w_toClient x0) fun c5 =>
  letK (α := Segm) (w_toSegment x1) fun c6 =>
  letK (α := Segm × Bool) (i_ReplyTo c5 c6) fun c7 =>
  letK (α := Bool) (w_eqSegment c7.1 c4.1) fun c8 =>
  bif (!c8) then
    false
  else
  bif (!(c7.2 == c4.2)) then
    false
  else
  true
theorem w_FnExactReplyTo_lk (x0 : Clie) (x1 : Segm) : evalFn te (orcOf (P := Try.prog) [w_szSegment_e, w_toClient_e, w_toSegment_e, s_ReplyTo_e, i_ReplyTo_e, w_eqSegment_e]) lorc0 [] Try.f10 (pvs [.st .clie, .st .segm] (x0, x1, ())) =
  w_FnExactReplyTo_N x0 x1 _ none (fun v => some [rv (.sc .bool) [] v]) := by kernel_rfl
theorem w_FnExactReplyTo_p (x0 : Clie) (x1 : Segm)   (γ : Type) (fail : γ) (k : Bool → γ) : w_FnExactReplyTo_N x0 x1 γ fail k = k (w_FnExactReplyTo x0 x1) := by
  unfold w_FnExactReplyTo_N w_FnExactReplyTo
  exact letT (f := k) (fun c1 hc1 => bifT (f := k) (fun b0 => rfl)
      (fun b0 => letT (f := k) (fun c2 hc2 => letT (f := k) (fun c3 hc3 => letT (f := k) (fun c4 hc4 => letT (f := k) (fun c5 hc5 => letT (f := k) (fun c6 hc6 => letT (f := k) (fun c7 hc7 => letT (f := k) (fun c8 hc8 => bifT (f := k) (fun b1 => rfl)
      (fun b1 => bifT (f := k) (fun b2 => rfl)
      (fun b2 => rfl)))))))))))
theorem w_FnExactReplyTo_c (x0 : Clie) (x1 : Segm)  : Con Try.prog 10 (pvs [.st .clie, .st .segm] (x0, x1, ())) [rv (.sc .bool) [] (w_FnExactReplyTo x0 x1)] := by
  exact evalFn_con0 teFact mixFact (orcOf_ok _) Try.func10 (by kernel_rfl) ((w_FnExactReplyTo_lk x0 x1).trans (w_FnExactReplyTo_p x0 x1  _ _ _))
noncomputable def w_FnExactReplyTo_e : Ent1 Try.prog := entA 10 [.st .clie, .st .segm] (fun x => [rv (.sc .bool) [] (w_FnExactReplyTo x.1 x.2.1)]) (fun x => w_FnExactReplyTo_c x.1 x.2.1)



theorem s_WordOk_eq (n b : Int) : s_WordOk n b = bif s_l1In b 1 62 then s_l1In n 0 (IntKind.wrap .i64 ((IntKind.wrap .i64 (1 * 2 ^ (min (IntKind.wrap .u64 b).toNat 64))) - 1)) else false := by
  simp only [s_WordOk, letK]
theorem i_WordOk_eq (n b : Int) : i_WordOk n b = bif i_within b 1 62 then i_within n 0 (IntKind.wrap .i64 ((IntKind.wrap .i64 (1 * 2 ^ (min b.toNat 64))) - 1)) else false := by
  simp only [i_WordOk, letK]
theorem q_WordOk (n b : Int) : s_WordOk n b = i_WordOk n b := by
  rw [s_WordOk_eq, i_WordOk_eq, s_l1In_eq, i_within_eq]
  cases h : (decide (1 ≤ b) && decide (b ≤ 62)) with
  | false => rw [cond_false, cond_false]
  | true =>
    have h1 : 1 ≤ b ∧ b ≤ 62 := by simpa using h
    have h2 : IntKind.u64.wrap b = b := by rw [wrapU_def]; exact Int.emod_eq_of_lt (by omega) (by omega)
    rw [h2, cond_true, cond_true, s_l1In_eq, i_within_eq]


theorem q_within (a b c : Int) : s_l1In a b c = i_within a b c := by rw [s_l1In_eq, i_within_eq]


theorem q_TupleOk (x : Tupl) : s_TupleOk x = i_TupleOk x := by simp only [s_TupleOk, i_TupleOk, q_WordOk]


theorem q_OptionsOk (x : Opti) : s_OptionsOk x = i_OptionsOk x := by simp only [s_OptionsOk, i_OptionsOk, q_WordOk, q_within]


theorem q_ClientOk (x : Clie) : s_ClientOk x = i_ClientOk x := by simp only [s_ClientOk, i_ClientOk, q_WordOk, q_TupleOk, q_OptionsOk]


theorem t_FnExactClientOk (x : Clie) : w_FnExactClientOk x = true := by simp [w_FnExactClientOk, letK, q_ClientOk]


theorem q_MssOf (x : Int) : s_MssOf x = i_MssOf x := by simp only [s_MssOf, i_MssOf, q_within]


theorem q_mss : i_MssOf 0 = 64 ∧ i_MssOf 1 = 256 ∧ i_MssOf 2 = 536 ∧ i_MssOf 3 = 1024 ∧ i_MssOf 4 = 1300 ∧ i_MssOf 5 = 1400 ∧ i_MssOf 6 = 1440 ∧ i_MssOf 7 = 1460 := by
  simp [i_MssOf, letK, i_within_eq]
theorem q_MssIndex (x : Int) : s_MssIndex x = i_MssIndex x := by
  obtain ⟨h0, h1, h2, h3, h4, h5, h6, h7⟩ := q_mss
  unfold s_MssIndex i_MssIndex
  simp only [show Int.toNat (8 - 0) = 8 from rfl, show Int.toNat (7 - 0) = 7 from rfl, forN, s_MssIndex_L0_f, i_MssIndex_L0_f, letK, q_MssOf]
  simp only [show (0 : Int) + 1 = 1 from rfl, show (1 : Int) + 1 = 2 from rfl, show (2 : Int) + 1 = 3 from rfl, show (3 : Int) + 1 = 4 from rfl, show (4 : Int) + 1 = 5 from rfl, show (5 : Int) + 1 = 6 from rfl, show (6 : Int) + 1 = 7 from rfl,
    show (7 : Int) + -1 = 6 from rfl, show (6 : Int) + -1 = 5 from rfl, show (5 : Int) + -1 = 4 from rfl, show (4 : Int) + -1 = 3 from rfl, show (3 : Int) + -1 = 2 from rfl, show (2 : Int) + -1 = 1 from rfl, h0, h1, h2, h3, h4, h5, h6, h7]
  rcases Int.lt_or_le x 64 with g | g
  · simp [show ¬ (64 ≤ x) by omega, show ¬ (256 ≤ x) by omega, show ¬ (536 ≤ x) by omega, show ¬ (1024 ≤ x) by omega, show ¬ (1300 ≤ x) by omega, show ¬ (1400 ≤ x) by omega, show ¬ (1440 ≤ x) by omega, show ¬ (1460 ≤ x) by omega, Stp.elim]
  rcases Int.lt_or_le x 256 with g1 | g1
  · simp [g, show ¬ (256 ≤ x) by omega, show ¬ (536 ≤ x) by omega, show ¬ (1024 ≤ x) by omega, show ¬ (1300 ≤ x) by omega, show ¬ (1400 ≤ x) by omega, show ¬ (1440 ≤ x) by omega, show ¬ (1460 ≤ x) by omega, Stp.elim]
  rcases Int.lt_or_le x 536 with g2 | g2
  · simp [g, g1, show ¬ (536 ≤ x) by omega, show ¬ (1024 ≤ x) by omega, show ¬ (1300 ≤ x) by omega, show ¬ (1400 ≤ x) by omega, show ¬ (1440 ≤ x) by omega, show ¬ (1460 ≤ x) by omega, Stp.elim]
  rcases Int.lt_or_le x 1024 with g3 | g3
  · simp [g, g1, g2, show ¬ (1024 ≤ x) by omega, show ¬ (1300 ≤ x) by omega, show ¬ (1400 ≤ x) by omega, show ¬ (1440 ≤ x) by omega, show ¬ (1460 ≤ x) by omega, Stp.elim]
  rcases Int.lt_or_le x 1300 with g4 | g4
  · simp [g, g1, g2, g3, show ¬ (1300 ≤ x) by omega, show ¬ (1400 ≤ x) by omega, show ¬ (1440 ≤ x) by omega, show ¬ (1460 ≤ x) by omega, Stp.elim]
  rcases Int.lt_or_le x 1400 with g5 | g5
  · simp [g, g1, g2, g3, g4, show ¬ (1400 ≤ x) by omega, show ¬ (1440 ≤ x) by omega, show ¬ (1460 ≤ x) by omega, Stp.elim]
  rcases Int.lt_or_le x 1440 with g6 | g6
  · simp [g, g1, g2, g3, g4, g5, show ¬ (1440 ≤ x) by omega, show ¬ (1460 ≤ x) by omega, Stp.elim]
  rcases Int.lt_or_le x 1460 with g7 | g7
  · simp [g, g1, g2, g3, g4, g5, g6, show ¬ (1460 ≤ x) by omega, Stp.elim]
  · simp [g, g1, g2, g3, g4, g5, g6, g7, Stp.elim]


theorem l4Rest_eq (x : Int) : s_l4Rest x = x % 4294967296 := by
  unfold s_l4Rest
  rcases Int.lt_or_le x 0 with h | h
  · rw [(tmod_pos 4294967296).2 h, wrap64_def]
    cases hd : decide (-(-x % 4294967296) < 0) with
    | true => simp only [decide_eq_true_eq] at hd; simp only [cond_true]; omega
    | false => simp only [decide_eq_false_iff_not] at hd; simp only [cond_false]; omega
  · rw [(tmod_pos 4294967296).1 h, wrap64_def]
    cases hd : decide (x % 4294967296 < 0) with
    | true => simp only [decide_eq_true_eq] at hd; omega
    | false => rfl


theorem iSeqAdd_eq (a b : Int) : i_SeqAdd a b = (a + b) % 4294967296 := by
  unfold i_SeqAdd
  rw [i64_mask32, wrap64_def]; omega
theorem q_SeqAdd (a b : Int) : s_SeqAdd a b = i_SeqAdd a b := by
  rw [iSeqAdd_eq]
  simp only [s_SeqAdd, letK, l4Rest_eq, wrap64_def]; omega


theorem q_NoOptions : s_NoOptions = i_NoOptions := rfl
theorem q_Granted (x : Opti) : s_Granted x = i_Granted x := by
  simp only [s_Granted, i_Granted, q_MssIndex, q_MssOf, q_SeqAdd, q_NoOptions, i_peerMss, letK]
  cases x.mss == 0 <;> rfl


theorem eqOptions_refl (x : Opti) : w_eqOptions x x = true := by simp [w_eqOptions]


theorem t_FnExactGranted (x : Opti) : w_FnExactGranted x = true := by simp [w_FnExactGranted, letK, q_Granted, eqOptions_refl]


theorem eqSegment_refl (x : Segm) : w_eqSegment x x = true := by simp [w_eqSegment, letK, eqOptions_refl]


theorem q_ReplyTo (c : Clie) (g : Segm) : s_ReplyTo c g = i_ReplyTo c g := by
  simp only [s_ReplyTo, i_ReplyTo, q_SeqAdd, q_NoOptions, letK]


theorem t_FnExactReplyTo (x : Clie) (y : Segm) : w_FnExactReplyTo x y = true := by
  simp [w_FnExactReplyTo, letK, q_ReplyTo, eqSegment_refl]


theorem toIssue_eq (x : Issu) : w_toIssue x = x := rfl
theorem toIssueS_eq (xs : List Issu) : w_toIssueS xs = xs := by
  unfold w_toIssueS
  rw [toNat_sub0, forN_list xs _ rfl (F := fun j x a => .next (a.set j x)) (by
    intro j x a h
    simp only [w_toIssueS_L0_f, letK, toNat_cast, getD_some h, toIssue_eq])]
  have := listN_fill (W := Empty) (fun x : Issu => x) xs 0 (List.replicate ((xs.length : Int).toNat) (⟨⟨0, 0, 0⟩, 0, 0⟩ : Issu)) (by simp)
  rw [this]
  simp [Stp.elim]


theorem eqTuple_refl (x : Tupl) : w_eqTuple x x = true := by simp [w_eqTuple]
theorem eqIssue_refl (x : Issu) : w_eqIssue x x = true := by simp [w_eqIssue, letK, eqTuple_refl]
theorem eqIssueS_refl (xs : List Issu) : w_eqIssueS xs xs = true := by
  unfold w_eqIssueS
  rw [toNat_sub0, forN_list xs _ rfl (F := fun j x a => bif (fun _ => false) x then .out () else .next ()) (by
    intro j x a h
    simp only [w_eqIssueS_L0_f, letK, toNat_cast, getD_some h, eqIssue_refl, Bool.not_true])]
  rw [listN_all xs 0 (by simp)]
  simp [Stp.elim]


theorem beq_comm' {α : Type} [BEq α] [LawfulBEq α] (a b : α) : (a == b) = (b == a) := by
  rw [Bool.eq_iff_iff]; simp only [beq_iff_eq]; exact eq_comm
theorem q_HasIssue (xs : List Issu) (x : Issu) : s_HasIssue xs x = i_HasIssue xs x := by
  unfold s_HasIssue i_HasIssue g_Contains_Issue g_Index_Issue
  let p : Issu → Bool := fun y => (((y.tuple.ip == x.tuple.ip) && ((y.tuple.port == x.tuple.port) && ((y.tuple.my == x.tuple.my) && true))) && ((y.seq == x.seq) && ((y.cookie == x.cookie) && true)))
  rw [toNat_sub0, forN_list xs _ rfl (F := fun j y a => bif p y then .out () else .next ()) (by
    intro j y a h
    simp only [s_HasIssue_L0_f, letK, toNat_cast, getD_some h, p])]
  rw [forN_list xs _ rfl (F := fun j y a => bif p y then .out (j : Int) else .next ()) (by
    intro j y a h
    simp only [g_Index_Issue_L0_f, letK, toNat_cast, getD_some h, p, beq_comm' x.tuple.ip, beq_comm' x.tuple.port, beq_comm' x.tuple.my, beq_comm' x.seq, beq_comm' x.cookie])]
  rw [listN_find (w := fun _ _ => ()), listN_find (w := fun j _ => (j : Int))]
  simp only [letK]
  cases h : xs.findIdx? p with
  | none => simp [Stp.elim]
  | some i =>
    have := (List.findIdx?_eq_some_iff_getElem.1 h).1
    simp only [List.getElem?_eq_getElem this, Stp.elim]
    simp


theorem szIssueS_len (xs : List Issu) (n : Int) (h : xs.length ≤ 140737488355328) (hn : n ≤ 1048576) (hn0 : 0 ≤ n) (h2 : 0 ≤ w_szIssueS xs n) : (xs.length : Int) ≤ n := by
  revert h2
  unfold w_szIssueS
  rw [wrap64 (by omega) (by omega)]
  cases hd : decide (n - (xs.length : Int) < 0) with
  | true => simp
  | false => simp only [decide_eq_false_iff_not] at hd; intro _; omega


theorem toStringS_eq (xs : List Bytes) : w_toStringS xs = xs := by
  unfold w_toStringS
  rw [toNat_sub0, forN_list xs _ rfl (F := fun j x a => .next (a.set j x)) (by
    intro j x a h
    simp only [w_toStringS_L0_f, toNat_cast, getD_some h])]
  have := listN_fill (W := Empty) (fun x : Bytes => x) xs 0 (List.replicate ((xs.length : Int).toNat) []) (by simp)
  rw [this]
  simp [Stp.elim]


theorem eqStringS_refl (xs : List Bytes) : w_eqStringS xs xs = true := by
  unfold w_eqStringS
  rw [toNat_sub0, forN_list xs _ rfl (F := fun j x a => bif (fun _ => false) x then .out () else .next ()) (by
    intro j x a h
    simp only [w_eqStringS_L0_f, toNat_cast, beq_self_eq_true, Bool.not_true])]
  rw [listN_all xs 0 (by simp)]
  simp [Stp.elim]


theorem szList_le (W : Nat → Bytes → Int → Stp Int Int) (hW : ∀ j x a, W j x a = letK (α := Bool) (decide ((IntKind.wrap .i64 (a - (x.length : Int))) < 0)) fun e1 => bif e1 then .out ((IntKind.wrap .i64 (a - (x.length : Int)))) else .next (IntKind.wrap .i64 (a - (x.length : Int)))) :
    ∀ (xs : List Bytes) (j : Nat) (a : Int), 0 ≤ a → a ≤ 1048576 → (∀ x ∈ xs, x.length ≤ 4611686018427387904) → (∃ w, listN W j xs a = .out w) ∨ (∃ b, listN W j xs a = .next b ∧ 0 ≤ b ∧ ((xs.map List.length).sum : Int) + b = a)
  | [], _, a, h0, _, _ => .inr ⟨a, rfl, h0, by simp⟩
  | x :: r, j, a, h0, h1, hx => by
    have hl := hx x (by simp)
    simp only [listN, hW, letK]
    rw [wrap64 (by omega) (by omega)]
    cases hd : decide (a - (x.length : Int) < 0) with
    | true => exact .inl ⟨_, rfl⟩
    | false =>
      simp only [decide_eq_false_iff_not] at hd
      simp only [cond_false, Stp.elim]
      rcases szList_le W hW r (j + 1) (a - x.length) (by omega) (by omega) (fun y hy => hx y (by simp [hy])) with h | ⟨b, h2, h3, h4⟩
      · exact .inl h
      · refine .inr ⟨b, h2, h3, ?_⟩
        simp only [List.map_cons, List.sum_cons]
        omega
theorem szStringS_len (xs : List Bytes) (n : Int) (h : xs.length ≤ 140737488355328) (he : ∀ x ∈ xs, x.length ≤ 4611686018427387904) (hn : n ≤ 1048576) (hn0 : 0 ≤ n) (h2 : 0 ≤ w_szStringS xs n) :
    w_szStringS xs n + (xs.length : Int) + ((xs.map List.length).sum : Int) = n := by
  revert h2
  unfold w_szStringS
  rw [wrap64 (by omega) (by omega)]
  cases hd : decide (n - (xs.length : Int) < 0) with
  | true => simp
  | false =>
    simp only [decide_eq_false_iff_not] at hd
    rw [toNat_sub0, forN_list xs _ rfl (F := fun j x a => letK (α := Bool) (decide ((IntKind.wrap .i64 (a - (x.length : Int))) < 0)) fun e1 => bif e1 then .out ((IntKind.wrap .i64 (a - (x.length : Int)))) else .next (IntKind.wrap .i64 (a - (x.length : Int)))) (by
      intro j x a h
      simp only [w_szStringS_L0_f, toNat_cast, getD_some h])]
    rcases szList_le _ (fun _ _ _ => rfl) xs 0 (n - xs.length) (by omega) (by omega) he with ⟨w, hw⟩ | ⟨b, hb, h3, h4⟩
    · rw [hw]; simp [Stp.elim]
    · rw [hb]; simp only [cond_false, Stp.elim]; intro _; omega


theorem szResult_len (x : Resu) (n : Int) (h : x.frames.length ≤ 140737488355328) (he : ∀ y ∈ x.frames, y.length ≤ 4611686018427387904) (ht : List.length x.text ≤ 4611686018427387904) (hn : n ≤ 1048576) (hn0 : 0 ≤ n) (h2 : 0 ≤ w_szResult x n) :
    w_szResult x n + (x.frames.length : Int) + ((x.frames.map List.length).sum : Int) + (x.text.length : Int) = n := by
  revert h2
  unfold w_szResult letK
  generalize hg : w_szStringS x.frames n = g
  simp only []
  cases hd : decide (g < 0) with
  | true => simp
  | false =>
    simp only [decide_eq_false_iff_not] at hd
    have h3 := szStringS_len x.frames n h he hn hn0 (by omega)
    rw [hg] at h3
    simp only [cond_false]
    have : g ≤ 1048576 := by omega
    rw [wrap64 (by omega) (by omega)]
    cases hd2 : decide (g - (x.text.length : Int) < 0) with
    | true => simp
    | false => simp only [cond_false]; intro _; omega


theorem toResult_eq (x : Resu) : w_toResult x = x := by simp [w_toResult, letK, toStringS_eq, w_toTuple]


theorem eqResult_refl (x : Resu) : w_eqResult x x = true := by simp [w_eqResult, letK, eqStringS_refl, eqTuple_refl]


theorem q_SameResult (x y : Resu) : s_SameResult x y = i_SameResult x y := by
  unfold s_SameResult i_SameResult g_Equal_string letK
  cases h : ((x.frames.length : Int) != (y.frames.length : Int)) with
  | true => rfl
  | false =>
    simp only [cond_false]
    rw [show forN (s_SameResult_L0_f x.frames x.made x.tuple.ip x.tuple.port x.tuple.my x.n x.text x.ok y.frames y.made y.tuple.ip y.tuple.port y.tuple.my y.n y.text y.ok) 1 (Int.toNat ((x.frames.length : Int) - 0)) 0 () = forN (g_Equal_string_L0_f x.frames y.frames (x.frames.length : Int)) 1 (Int.toNat ((x.frames.length : Int) - 0)) 0 () from forN_congr (fun _ _ => rfl) _ _ _]
    cases forN (g_Equal_string_L0_f x.frames y.frames (x.frames.length : Int)) 1 (Int.toNat ((x.frames.length : Int) - 0)) 0 () <;> rfl

/-- laws.FnExactSameResult -/
def w_FnExactSameResult_N (x0 : Resu) (x1 : Resu) (γ : Type) (fail : γ) (k : Bool → γ) : γ :=
  letK (α := Int) (w_szResult x0 1048576) fun c1 =>
  bif (decide (c1 < 0)) then
    k true
  else
  letK (α := Int) (w_szResult x1 c1) fun c2 =>
  bif (decide (c2 < 0)) then
    k true
  else
  bif (decide (x0.frames.length ≤ 4294967296 ∧ x0.text.length ≤ 4294967296)) then
  letK (α := Resu) (w_toResult x0) fun c3 =>
  bif (decide (x1.frames.length ≤ 4294967296 ∧ x1.text.length ≤ 4294967296)) then
  letK (α := Resu) (w_toResult x1) fun c4 =>
  letK (α := Bool) (s_SameResult c3 c4) fun c5 =>
  bif (decide (x0.frames.length ≤ 4294967296 ∧ x0.text.length ≤ 4294967296)) then
  letK (α := Resu) (w_toResult x0) fun c6 =>
  bif (decide (x1.frames.length ≤ 4294967296 ∧ x1.text.length ≤ 4294967296)) then
  letK (α := Resu) (w_toResult x1) fun c7 =>
  letK (α := Bool) (i_SameResult c6 c7) fun c8 =>
  bif (!(c8 == c5)) then
    k false
  else
  bif (decide (x0.frames.length ≤ 4294967296 ∧ x0.text.length ≤ 4294967296)) then
  letK (α := Resu) (w_toResult x0) fun c9 =>
  letK (α := Bool) (w_eqResult c6 c9) fun c10 =>
  bif (!c10) then
    k false
  else
  bif (decide (x1.frames.length ≤ 4294967296 ∧ x1.text.length ≤ 4294967296)) then
  letK (α := Resu) (w_toResult x1) fun c11 =>
  letK (α := Bool) (w_eqResult c7 c11) fun c12 =>
  bif (!c12) then
    k false
  else
  k true
  else fail
  else fail
  else fail
  else fail
  else fail
  else fail
def w_FnExactSameResult (x0 : Resu) (x1 : Resu) : Bool :=
  letK (α := Int) (w_szResult x0 1048576) fun c1 =>
  bif (decide (c1 < 0)) then
    true
  else
  letK (α := Int) (w_szResult x1 c1) fun c2 =>
  bif (decide (c2 < 0)) then
    true
  else
  letK (α := Resu) (w_toResult x0) fun c3 =>
  letK (α := Resu) (w_toResult x1) fun c4 =>
  letK (α := Bool) (s_SameResult c3 c4) fun c5 =>
  letK (α := Resu) (w_toResult x0) fun c6 =>
  letK (α := Resu) (w_toResult x1) fun c7 =>
  letK (α := Bool) (i_SameResult c6 c7) fun c8 =>
  bif (!(c8 == c5)) then
    false
  else
  letK (α := Resu) (w_toResult x0) fun c9 =>
  letK (α := Bool) (w_eqResult c6 c9) fun c10 =>
  bif (!c10) then
    false
  else
  letK (α := Resu) (w_toResult x1) fun c11 =>
  letK (α := Bool) (w_eqResult c7 c11) fun c12 =>
  bif (!c12) then
    false
  else
  true
theorem w_FnExactSameResult_lk (x0 : Resu) (x1 : Resu) : evalFn te (orcOf (P := Try.prog) [w_szResult_e, w_toResult_e, s_SameResult_e, i_SameResult_e, w_eqResult_e]) lorc0 [] Try.f9 (pvs [.st .resu, .st .resu] (x0, x1, ())) =
  w_FnExactSameResult_N x0 x1 _ none (fun v => some [rv (.sc .bool) [] v]) := by kernel_rfl
theorem w_FnExactSameResult_p (x0 : Resu) (x1 : Resu) (hx0_frames : x0.frames.length ≤ 140737488355328) (hx0_frames_e : ∀ y ∈ x0.frames, List.length y ≤ 4611686018427387904) (hx0_made : inK .i64 x0.made) (hx0_tuple_ip : inK .i64 x0.tuple.ip) (hx0_tuple_port : inK .i64 x0.tuple.port) (hx0_tuple_my : inK .i64 x0.tuple.my) (hx0_n : inK .i64 x0.n) (hx0_text : List.length x0.text ≤ 4611686018427387904) (hx1_frames : x1.frames.length ≤ 140737488355328) (hx1_frames_e : ∀ y ∈ x1.frames, List.length y ≤ 4611686018427387904) (hx1_made : inK .i64 x1.made) (hx1_tuple_ip : inK .i64 x1.tuple.ip) (hx1_tuple_port : inK .i64 x1.tuple.port) (hx1_tuple_my : inK .i64 x1.tuple.my) (hx1_n : inK .i64 x1.n) (hx1_text : List.length x1.text ≤ 4611686018427387904)  (γ : Type) (fail : γ) (k : Bool → γ) : w_FnExactSameResult_N x0 x1 γ fail k = k (w_FnExactSameResult x0 x1) := by
  unfold w_FnExactSameResult_N w_FnExactSameResult
  exact letT (f := k) (fun c1 hc1 => bifT (f := k) (fun b0 => rfl)
      (fun b0 => letT (f := k) (fun c2 hc2 => bifT (f := k) (fun b1 => rfl)
      (fun b1 => bifG (by subst_vars; have hh := szResult_len x0 1048576 hx0_frames hx0_frames_e hx0_text (by decide) (by decide) (Int.not_lt.1 (of_decide_eq_false b0)); have hh2 := szResult_len x1 (w_szResult x0 1048576) hx1_frames hx1_frames_e hx1_text (by omega) (Int.not_lt.1 (of_decide_eq_false b0)) (Int.not_lt.1 (of_decide_eq_false b1)); have q0 := Int.not_lt.1 (of_decide_eq_false b0); have q1 := Int.not_lt.1 (of_decide_eq_false b1); simp only [toResult_eq, decide_eq_true_eq]; omega) (letT (f := k) (fun c3 hc3 => bifG (by subst_vars; have hh := szResult_len x0 1048576 hx0_frames hx0_frames_e hx0_text (by decide) (by decide) (Int.not_lt.1 (of_decide_eq_false b0)); have hh2 := szResult_len x1 (w_szResult x0 1048576) hx1_frames hx1_frames_e hx1_text (by omega) (Int.not_lt.1 (of_decide_eq_false b0)) (Int.not_lt.1 (of_decide_eq_false b1)); have q0 := Int.not_lt.1 (of_decide_eq_false b0); have q1 := Int.not_lt.1 (of_decide_eq_false b1); simp only [toResult_eq, decide_eq_true_eq]; omega) (letT (f := k) (fun c4 hc4 => letT (f := k) (fun c5 hc5 => bifG (by subst_vars; have hh := szResult_len x0 1048576 hx0_frames hx0_frames_e hx0_text (by decide) (by decide) (Int.not_lt.1 (of_decide_eq_false b0)); have hh2 := szResult_len x1 (w_szResult x0 1048576) hx1_frames hx1_frames_e hx1_text (by omega) (Int.not_lt.1 (of_decide_eq_false b0)) (Int.not_lt.1 (of_decide_eq_false b1)); have q0 := Int.not_lt.1 (of_decide_eq_false b0); have q1 := Int.not_lt.1 (of_decide_eq_false b1); simp only [toResult_eq, decide_eq_true_eq]; omega) (letT (f := k) (fun c6 hc6 => bifG (by subst_vars; have hh := szResult_len x0 1048576 hx0_frames hx0_frames_e hx0_text (by decide) (by decide) (Int.not_lt.1 (of_decide_eq_false b0)); have hh2 := szResult_len x1 (w_szResult x0 1048576) hx1_frames hx1_frames_e hx1_text (by omega) (Int.not_lt.1 (of_decide_eq_false b0)) (Int.not_lt.1 (of_decide_eq_false b1)); have q0 := Int.not_lt.1 (of_decide_eq_false b0); have q1 := Int.not_lt.1 (of_decide_eq_false b1); simp only [toResult_eq, decide_eq_true_eq]; omega) (letT (f := k) (fun c7 hc7 => letT (f := k) (fun c8 hc8 => bifT (f := k) (fun b2 => rfl)
      (fun b2 => bifG (by subst_vars; have hh := szResult_len x0 1048576 hx0_frames hx0_frames_e hx0_text (by decide) (by decide) (Int.not_lt.1 (of_decide_eq_false b0)); have hh2 := szResult_len x1 (w_szResult x0 1048576) hx1_frames hx1_frames_e hx1_text (by omega) (Int.not_lt.1 (of_decide_eq_false b0)) (Int.not_lt.1 (of_decide_eq_false b1)); have q0 := Int.not_lt.1 (of_decide_eq_false b0); have q1 := Int.not_lt.1 (of_decide_eq_false b1); simp only [toResult_eq, decide_eq_true_eq]; omega) (letT (f := k) (fun c9 hc9 => letT (f := k) (fun c10 hc10 => bifT (f := k) (fun b3 => rfl)
      (fun b3 => bifG (by subst_vars; have hh := szResult_len x0 1048576 hx0_frames hx0_frames_e hx0_text (by decide) (by decide) (Int.not_lt.1 (of_decide_eq_false b0)); have hh2 := szResult_len x1 (w_szResult x0 1048576) hx1_frames hx1_frames_e hx1_text (by omega) (Int.not_lt.1 (of_decide_eq_false b0)) (Int.not_lt.1 (of_decide_eq_false b1)); have q0 := Int.not_lt.1 (of_decide_eq_false b0); have q1 := Int.not_lt.1 (of_decide_eq_false b1); simp only [toResult_eq, decide_eq_true_eq]; omega) (letT (f := k) (fun c11 hc11 => letT (f := k) (fun c12 hc12 => bifT (f := k) (fun b4 => rfl)
      (fun b4 => rfl)))))))))))))))))))))))
theorem w_FnExactSameResult_c (x0 : Resu) (x1 : Resu)  : Con Try.prog 9 (pvs [.st .resu, .st .resu] (x0, x1, ())) [rv (.sc .bool) [] (w_FnExactSameResult x0 x1)] := by
  refine Con.of_facts (enters_of Try.func9 rfl (by kernel_rfl)) fun hf => ?_
  replace hf := factAt hf
  exact evalFn_con0 teFact mixFact (orcOf_ok _) Try.func9 (by kernel_rfl) ((w_FnExactSameResult_lk x0 x1).trans (w_FnExactSameResult_p x0 x1 ((hf 0 0 rfl rfl).len) (fun y hy => ((hf 0 0 rfl rfl).elem hy (.str y) List.mem_cons_self).slen) ((hf 0 1 rfl rfl).rng) ((hf 0 2 rfl rfl).rng) ((hf 0 3 rfl rfl).rng) ((hf 0 4 rfl rfl).rng) ((hf 0 5 rfl rfl).rng) ((hf 0 6 rfl rfl).slen) ((hf 1 0 rfl rfl).len) (fun y hy => ((hf 1 0 rfl rfl).elem hy (.str y) List.mem_cons_self).slen) ((hf 1 1 rfl rfl).rng) ((hf 1 2 rfl rfl).rng) ((hf 1 3 rfl rfl).rng) ((hf 1 4 rfl rfl).rng) ((hf 1 5 rfl rfl).rng) ((hf 1 6 rfl rfl).slen) _ _ _))
noncomputable def w_FnExactSameResult_e : Ent1 Try.prog := entA 9 [.st .resu, .st .resu] (fun x => [rv (.sc .bool) [] (w_FnExactSameResult x.1 x.2.1)]) (fun x => w_FnExactSameResult_c x.1 x.2.1)


/-- laws.FnExactHasIssue -/
def w_FnExactHasIssue_N (x0 : List Issu) (x1 : Issu) (γ : Type) (fail : γ) (k : Bool → γ) : γ :=
  letK (α := Int) (w_szIssueS x0 1048576) fun c1 =>
  bif (decide (c1 < 0)) then
    k true
  else
  bif (decide (x0.length ≤ 4294967296)) then
  letK (α := List Issu) (w_toIssueS x0) fun c2 =>
  letK (α := Issu) (w_toIssue x1) fun c3 =>
  letK (α := Bool) (s_HasIssue c2 c3) fun c4 =>
  bif (decide (x0.length ≤ 4294967296)) then
  letK (α := List Issu) (w_toIssueS x0) fun c5 =>
  letK (α := Issu) (w_toIssue x1) fun c6 =>
  letK (α := Bool) (i_HasIssue c5 c6) fun c7 =>
  bif (!(c7 == c4)) then
    k false
  else
  bif (decide (x0.length ≤ 4294967296)) then
  letK (α := List Issu) (w_toIssueS x0) fun c8 =>
  letK (α := Bool) (w_eqIssueS c5 c8) fun c9 =>
  bif (!c9) then
    k false
  else
  k true
  else fail
  else fail
  else fail
def w_FnExactHasIssue (x0 : List Issu) (x1 : Issu) : Bool :=
  letK (α := Int) (w_szIssueS x0 1048576) fun c1 =>
  bif (decide (c1 < 0)) then
    true
  else
  letK (α := List Issu) (w_toIssueS x0) fun c2 =>
  letK (α := Issu) (w_toIssue x1) fun c3 =>
  letK (α := Bool) (s_HasIssue c2 c3) fun c4 =>
  letK (α := List Issu) (w_toIssueS x0) fun c5 =>
  letK (α := Issu) (w_toIssue x1) fun c6 =>
  letK (α := Bool) (i_HasIssue c5 c6) fun c7 =>
  bif (!(c7 == c4)) then
    false
  else
  letK (α := List Issu) (w_toIssueS x0) fun c8 =>
  letK (α := Bool) (w_eqIssueS c5 c8) fun c9 =>
  bif (!c9) then
    false
  else
  true
theorem w_FnExactHasIssue_lk (x0 : List Issu) (x1 : Issu) : evalFn te (orcOf (P := Try.prog) [w_szIssueS_e, w_toIssueS_e, w_toIssue_e, s_HasIssue_e, i_HasIssue_e, w_eqIssueS_e]) lorc0 [] Try.f7 (pvs [.sc (.sl .issu), .st .issu] (x0, x1, ())) =
  w_FnExactHasIssue_N x0 x1 _ none (fun v => some [rv (.sc .bool) [] v]) := by kernel_rfl
theorem w_FnExactHasIssue_p (x0 : List Issu) (x1 : Issu) (hx0 : x0.length ≤ 140737488355328) (hx1_tuple_ip : inK .i64 x1.tuple.ip) (hx1_tuple_port : inK .i64 x1.tuple.port) (hx1_tuple_my : inK .i64 x1.tuple.my) (hx1_seq : inK .i64 x1.seq) (hx1_cookie : inK .i64 x1.cookie)  (γ : Type) (fail : γ) (k : Bool → γ) : w_FnExactHasIssue_N x0 x1 γ fail k = k (w_FnExactHasIssue x0 x1) := by
  unfold w_FnExactHasIssue_N w_FnExactHasIssue
  exact letT (f := k) (fun c1 hc1 => bifT (f := k) (fun b0 => rfl)
      (fun b0 => bifG (by subst_vars; have hh := szIssueS_len x0 1048576 hx0 (by decide) (by decide) (Int.not_lt.1 (of_decide_eq_false b0)); simp only [toIssueS_eq, decide_eq_true_eq]; omega) (letT (f := k) (fun c2 hc2 => letT (f := k) (fun c3 hc3 => letT (f := k) (fun c4 hc4 => bifG (by subst_vars; have hh := szIssueS_len x0 1048576 hx0 (by decide) (by decide) (Int.not_lt.1 (of_decide_eq_false b0)); simp only [toIssueS_eq, decide_eq_true_eq]; omega) (letT (f := k) (fun c5 hc5 => letT (f := k) (fun c6 hc6 => letT (f := k) (fun c7 hc7 => bifT (f := k) (fun b1 => rfl)
      (fun b1 => bifG (by subst_vars; have hh := szIssueS_len x0 1048576 hx0 (by decide) (by decide) (Int.not_lt.1 (of_decide_eq_false b0)); simp only [toIssueS_eq, decide_eq_true_eq]; omega) (letT (f := k) (fun c8 hc8 => letT (f := k) (fun c9 hc9 => bifT (f := k) (fun b2 => rfl)
      (fun b2 => rfl)))))))))))))))
theorem w_FnExactHasIssue_c (x0 : List Issu) (x1 : Issu)  : Con Try.prog 7 (pvs [.sc (.sl .issu), .st .issu] (x0, x1, ())) [rv (.sc .bool) [] (w_FnExactHasIssue x0 x1)] := by
  refine Con.of_facts (enters_of Try.func7 rfl (by kernel_rfl)) fun hf => ?_
  replace hf := factAt hf
  exact evalFn_con0 teFact mixFact (orcOf_ok _) Try.func7 (by kernel_rfl) ((w_FnExactHasIssue_lk x0 x1).trans (w_FnExactHasIssue_p x0 x1 ((hf 0 0 rfl rfl).len) ((hf 1 0 rfl rfl).rng) ((hf 1 1 rfl rfl).rng) ((hf 1 2 rfl rfl).rng) ((hf 1 3 rfl rfl).rng) ((hf 1 4 rfl rfl).rng) _ _ _))
noncomputable def w_FnExactHasIssue_e : Ent1 Try.prog := entA 7 [.sc (.sl .issu), .st .issu] (fun x => [rv (.sc .bool) [] (w_FnExactHasIssue x.1 x.2.1)]) (fun x => w_FnExactHasIssue_c x.1 x.2.1)



theorem t_FnExactHasIssue (xs : List Issu) (x : Issu) : w_FnExactHasIssue xs x = true := by
  simp [w_FnExactHasIssue, letK, q_HasIssue, toIssueS_eq, eqIssueS_refl]


theorem t_FnExactSameResult (x y : Resu) : w_FnExactSameResult x y = true := by
  simp [w_FnExactSameResult, letK, q_SameResult, toResult_eq, eqResult_refl]

end Go.Proofs.Ytjioppmfnejlnaa
