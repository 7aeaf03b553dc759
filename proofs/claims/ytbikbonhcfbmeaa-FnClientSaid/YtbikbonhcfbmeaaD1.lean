/-
  Contracts of functions and plain laws (printed by a program): each theorem says what a function of the program returns; conditions are its hypotheses.
-/
import Derived.Test.YtbikbonhcfbmeaaBase
set_option maxRecDepth 4000
set_option linter.unusedVariables false
set_option linter.unusedSimpArgs false
namespace Go.Proofs.Ytbikbonhcfbmeaa
open Go Go.RowKit

/-- laws.big -/
def w_big_N (x0 : List Int) (γ : Type) (fail : γ) (k : Bool → γ) : γ :=
  k (decide (1048576 < (x0.length : Int)))
def w_big (x0 : List Int) : Bool :=
  (decide (1048576 < (x0.length : Int)))
theorem w_big_lk (x0 : List Int) : evalFn te (orcOf (P := Try.prog) []) lorc0 [] Try.f8 (pvs [.sc (.sl .u8)] (x0, ())) =
  w_big_N x0 _ none (fun v => some [(false, [RC.c (.bool v)])]) := by kernel_rfl
theorem w_big_p (x0 : List Int)   (γ : Type) (fail : γ) (k : Bool → γ) : w_big_N x0 γ fail k = k (w_big x0) := by
  unfold w_big_N w_big
  exact rfl
theorem w_big_c (x0 : List Int)  : Con Try.prog 8 (pvs [.sc (.sl .u8)] (x0, ())) [rv (.sc .bool) [] (w_big x0)] := by
  exact evalFn_con0 teFact mixFact (orcOf_ok _) Try.func8 (by kernel_rfl) ((w_big_lk x0).trans (w_big_p x0  _ _ _))
noncomputable def w_big_e : Ent1 Try.prog := entA 8 [.sc (.sl .u8)] (fun x => (w_big x.1)) (fun v => [rv (.sc .bool) [] v]) (fun x => w_big_c x.1)


/-- impl.Knock -/
def i_Knock_N (x0 : Clie) (γ : Type) (fail : γ) (k : Segm → γ) : γ :=
  k ({ x0 with from_ := x0.tuple.port, to := x0.tuple.my, seq := x0.isn, ack := 0, flags := 2, body := [] } : Segm)
def i_Knock (x0 : Clie) : Segm :=
  ({ x0 with from_ := x0.tuple.port, to := x0.tuple.my, seq := x0.isn, ack := 0, flags := 2, body := [] } : Segm)
theorem i_Knock_lk (x0 : Clie) : evalFn te (orcOf (P := Try.prog) []) lorc0 [] Try.f12 (pvs [.st .clie] (x0, ())) =
  i_Knock_N x0 _ none (fun v => some [(true, [RC.c (.int .i64 v.from_), RC.c (.int .i64 v.to), RC.c (.int .i64 v.seq), RC.c (.int .i64 v.ack), RC.c (.int .i64 v.flags), RC.c (.int .i64 v.window), RC.c (.int .i64 v.opts.mss), RC.c (.int .i64 v.opts.scale), RC.c (.bool v.opts.sack), RC.c (.bool v.opts.stamp), RC.c (.int .i64 v.opts.val), RC.c (.int .i64 v.opts.echo), RC.c (.str v.body)])]) := by kernel_rfl
theorem i_Knock_p (x0 : Clie)   (γ : Type) (fail : γ) (k : Segm → γ) : i_Knock_N x0 γ fail k = k (i_Knock x0) := by
  unfold i_Knock_N i_Knock
  exact rfl
theorem i_Knock_c (x0 : Clie)  : Con Try.prog 12 (pvs [.st .clie] (x0, ())) [rv (.st .segm) [] (i_Knock x0)] := by
  exact evalFn_con0 teFact mixFact (orcOf_ok _) Try.func12 (by kernel_rfl) ((i_Knock_lk x0).trans (i_Knock_p x0  _ _ _))
noncomputable def i_Knock_e : Ent1 Try.prog := entA 12 [.st .clie] (fun x => (i_Knock x.1)) (fun v => [rv (.st .segm) [] v]) (fun x => i_Knock_c x.1)


/-- spec.Knock -/
def s_Knock_N (x0 : Clie) (γ : Type) (fail : γ) (k : Segm → γ) : γ :=
  k ({ x0 with from_ := x0.tuple.port, to := x0.tuple.my, seq := x0.isn, ack := 0, flags := 2, body := [] } : Segm)
def s_Knock (x0 : Clie) : Segm :=
  ({ x0 with from_ := x0.tuple.port, to := x0.tuple.my, seq := x0.isn, ack := 0, flags := 2, body := [] } : Segm)
theorem s_Knock_lk (x0 : Clie) : evalFn te (orcOf (P := Try.prog) []) lorc0 [] Try.f13 (pvs [.st .clie] (x0, ())) =
  s_Knock_N x0 _ none (fun v => some [(true, [RC.c (.int .i64 v.from_), RC.c (.int .i64 v.to), RC.c (.int .i64 v.seq), RC.c (.int .i64 v.ack), RC.c (.int .i64 v.flags), RC.c (.int .i64 v.window), RC.c (.int .i64 v.opts.mss), RC.c (.int .i64 v.opts.scale), RC.c (.bool v.opts.sack), RC.c (.bool v.opts.stamp), RC.c (.int .i64 v.opts.val), RC.c (.int .i64 v.opts.echo), RC.c (.str v.body)])]) := by kernel_rfl
theorem s_Knock_p (x0 : Clie)   (γ : Type) (fail : γ) (k : Segm → γ) : s_Knock_N x0 γ fail k = k (s_Knock x0) := by
  unfold s_Knock_N s_Knock
  exact rfl
theorem s_Knock_c (x0 : Clie)  : Con Try.prog 13 (pvs [.st .clie] (x0, ())) [rv (.st .segm) [] (s_Knock x0)] := by
  exact evalFn_con0 teFact mixFact (orcOf_ok _) Try.func13 (by kernel_rfl) ((s_Knock_lk x0).trans (s_Knock_p x0  _ _ _))
noncomputable def s_Knock_e : Ent1 Try.prog := entA 13 [.st .clie] (fun x => (s_Knock x.1)) (fun v => [rv (.st .segm) [] v]) (fun x => s_Knock_c x.1)

theorem s_Knock_len (x0 : Clie)   : (fun v : Segm => v.body.length ≤ 0) (s_Knock x0) := by
  unfold s_Knock
  exact (by (try simp only [Nat.ble_eq, Bool.and_eq_true, decide_eq_true_eq]); grind [maxSl, maxStr, toBytes_length, toInts_length, List.length_set, wrap64])

/-- spec.l1New -/
def s_l1New_ann : List (Nat × Keep) := [(0, ⟨[0, 3, 4], [], false, 0⟩)]
def s_l1New_L0_sh : Sh := ⟨[(0, false, [.sl .arg .u8]), (3, false, [.int .i64]), (4, false, [.int .i64])], []⟩
def s_l1New_L0_es : List (Ex × Sh) := [(.exit 0, ⟨[(0, false, [.sl .arg .u8]), (2, false, [.undef]), (3, false, [.int .i64])], []⟩)]
def s_l1New_L0_mk (v0 : List Int) (v1 : Int) (v2 : Int) : s_l1New_L0_sh.T := (((v0, ()), ((v1, ()), ((v2, ()), ()))), ())
def s_l1New_L0_mx0 (y0 : List Int) (y1 : Int) : Sh.T ⟨[(0, false, [.sl .arg .u8]), (2, false, [.undef]), (3, false, [.int .i64])], []⟩ := (((y0, ()), (((), ()), ((y1, ()), ()))), ())
def s_l1New_L0_B (v0 : List Int) (v1 : Int) (v2 : Int) (γ : Type) (fail : γ) (next : s_l1New_L0_sh.T → γ) (out : WT s_l1New_L0_es → γ) : γ :=
  bif (decide (v2 < (v0.length : Int))) then
    bif (decide (v2 < 4000)) then
      bif ((decide (0 ≤ v2)) && (decide (v2 < (v0.length : Int)))) then
      letK (α := Int) (IntKind.wrap .i64 ((IntKind.wrap .i64 (v1 * 131)) + (IntKind.wrap .i64 (v0.getD v2.toNat 0)))) fun e1 =>
      next (s_l1New_L0_mk v0 (bits .and .i64 (IntKind.wrap .i64 (e1 + 7)) 1073741823) (IntKind.wrap .i64 (v2 + 1)))
      else fail
    else
    out (s_l1New_L0_mx0 v0 v1)
  else
  out (s_l1New_L0_mx0 v0 v1)
theorem s_l1New_L0_par (v0 : List Int) (v1 : Int) (v2 : Int) (γ : Type) (fail : γ) (next : s_l1New_L0_sh.T → γ) (out : WT s_l1New_L0_es → γ) : s_l1New_L0_B v0 v1 v2 γ fail next out = optK (s_l1New_L0_B v0 v1 v2 _ none (fun v' => some (.inl v')) (fun w => some (.inr w))) fail (fun r => Sum.elim next out r) := by
  unfold s_l1New_L0_B
  exact bifT (f := (fun o => optK o fail (fun r => Sum.elim next out r))) (fun _ => bifT (f := (fun o => optK o fail (fun r => Sum.elim next out r))) (fun _ => bifT (f := (fun o => optK o fail (fun r => Sum.elim next out r))) (fun _ => letT (f := (fun o => optK o fail (fun r => Sum.elim next out r))) (fun e1 _ => rfl)) (fun _ => rfl))
      (fun _ => rfl))
      (fun _ => rfl)
def s_l1New_L0_r : Round s_l1New_L0_sh.T (WT s_l1New_L0_es) where
  B v γ fail next out := s_l1New_L0_B v.1.1.1 v.1.2.1.1 v.1.2.2.1.1 γ fail next out
  par v γ fail next out := s_l1New_L0_par v.1.1.1 v.1.2.1.1 v.1.2.2.1.1 γ fail next out
def s_l1New_L0_fu (v0 : List Int) (v1 : Int) (v2 : Int) : Nat := (Int.toNat ((v0.length : Int) - v2)) + 1
theorem s_l1New_L0_lk (v : s_l1New_L0_sh.T) (next : St → Option Res) (k : Ex → St → Option Res) : evalK te (orcOf (P := Try.prog) []) (lorcOf []) Try.f39.ntmps s_l1New_ann (nthLoop (bodyOf Try.f39) 0 0) 0 (s_l1New_L0_sh.enc v) (endK ⟨[0, 3, 4], [], false, 0⟩ ⟨[0, 2, 3], [], false, 0⟩ next k) =
  s_l1New_L0_r.B v _ none (fun v' => next (s_l1New_L0_sh.enc v')) (fun w => outK s_l1New_L0_es k w) := by kernel_rfl
def s_l1New_L0_le : LE := leOf 0 s_l1New_L0_sh s_l1New_L0_es s_l1New_L0_r.step (fun v => s_l1New_L0_fu v.1.1.1 v.1.2.1.1 v.1.2.2.1.1)
theorem s_l1New_L0_ls (w0 : World) (mo : Mts) (I0 : Nat → Prop) (hmo : mo.length = 0) : LSem Try.prog (Sim w0 mo Try.f39.ntmps I0) (fun b s k => match Nat.beq 0 b with | true => s_l1New_L0_le.run s k | false => none) 0 (nthLoop (bodyOf Try.f39) 0 0) :=
  le_sem hmo (lorc := lorcOf []) (ann := s_l1New_ann) (keep := ⟨[0, 3, 4], [], false, 0⟩) (kout := ⟨[0, 2, 3], [], false, 0⟩) teFact mixFact (orcOf_ok _) (by kernel_rfl) (allLoops_of (bs := []) (by kernel_rfl) trivial) s_l1New_L0_r _ s_l1New_L0_lk
def s_l1New_L0_f (v0 : List Int) (v2 : Int) (a : Int) : Stp (Int) ((Int)) :=
  bif (decide (v2 < 4000)) then
    letK (α := Int) (IntKind.wrap .i64 ((IntKind.wrap .i64 (a * 131)) + (IntKind.wrap .i64 (v0.getD v2.toNat 0)))) fun e1 =>
    .next (bits .and .i64 (IntKind.wrap .i64 (e1 + 7)) 1073741823)
  else
  .out (a)
theorem s_l1New_L0_st (v0 : List Int) (v1 : Int) (v2 : Int) (hlo : 0 ≤ v2) (hhi : v2 < (v0.length : Int)) (hN : (v0.length : Int) ≤ 4611686018427387904) : s_l1New_L0_r.step (s_l1New_L0_mk v0 v1 v2) = Stp.elim (fun a' : Int => some (Sum.inl (s_l1New_L0_mk v0 a' (v2 + 1)))) (fun w => some (Sum.inr ((fun p : Int => s_l1New_L0_mx0 v0 p) w))) (s_l1New_L0_f v0 v2 v1) := by
  have hw : (IntKind.wrap .i64 (v2 + 1)) = v2 + 1 := wrap64 (by omega) (by omega)
  show s_l1New_L0_B v0 v1 v2 (Option (s_l1New_L0_sh.T ⊕ WT s_l1New_L0_es)) none (fun v' => some (Sum.inl v')) (fun w => some (Sum.inr w)) = _
  unfold s_l1New_L0_B s_l1New_L0_f
  exact bifG (by simp only [decide_eq_true_eq]; omega) (bifT (f := (Stp.elim (fun a' : Int => some (Sum.inl (s_l1New_L0_mk v0 a' (v2 + 1)))) (fun w => some (Sum.inr ((fun p : Int => s_l1New_L0_mx0 v0 p) w))))) (fun b0 => bifG (by (try simp only [Nat.ble_eq, Bool.and_eq_true, decide_eq_true_eq]); grind [maxSl, maxStr, toBytes_length, toInts_length, List.length_set, wrap64]) (letT (f := (Stp.elim (fun a' : Int => some (Sum.inl (s_l1New_L0_mk v0 a' (v2 + 1)))) (fun w => some (Sum.inr ((fun p : Int => s_l1New_L0_mx0 v0 p) w))))) (fun e1 he1 => (by exact congrArg (fun z => some (Sum.inl (s_l1New_L0_mk v0 (bits .and .i64 (IntKind.wrap .i64 (e1 + 7)) 1073741823) z))) hw))))
      (fun b0 => rfl))
theorem s_l1New_L0_cl (v0 : List Int) (v1 : Int) (v2 : Int) (h0 : 0 ≤ v2) (h1 : (v0.length : Int) ≤ 4611686018427387904) : loopF s_l1New_L0_r.step (s_l1New_L0_fu v0 v1 v2) (s_l1New_L0_mk v0 v1 v2) = some (Stp.elim (fun a => (fun i a => s_l1New_L0_mx0 v0 a) (v2 + 1 * (((Int.toNat ((v0.length : Int) - v2)) : Nat) : Int)) a) (fun p : Int => s_l1New_L0_mx0 v0 p) (forN (s_l1New_L0_f v0) 1 (Int.toNat ((v0.length : Int) - v2)) v2 v1)) :=
  forN_loop (step := s_l1New_L0_r.step) (mk := fun v2 a => s_l1New_L0_mk v0 a v2) (f := s_l1New_L0_f v0) (e := (fun i a => s_l1New_L0_mx0 v0 a)) (emb := (fun p : Int => s_l1New_L0_mx0 v0 p)) (st := 1) (Inv := fun v2 a => True) (Int.toNat ((v0.length : Int) - v2)) v2 v1 _ (Nat.lt_succ_self _) trivial
    (fun j a hj hv => ⟨s_l1New_L0_st v0 a (v2 + 1 * (j : Int)) (by omega) (by omega) (by omega), fun _ _ => trivial⟩)
    (fun a hv => by
      show s_l1New_L0_B v0 a (v2 + 1 * (((Int.toNat ((v0.length : Int) - v2)) : Nat) : Int)) (Option (s_l1New_L0_sh.T ⊕ WT s_l1New_L0_es)) none (fun v' => some (Sum.inl v')) (fun w => some (Sum.inr w)) = _
      unfold s_l1New_L0_B
      exact bifN (by simp only [decide_eq_false_iff_not]; omega) rfl)
def s_l1New_N (x0 : List Int) (γ : Type) (fail : γ) (k : Curs → γ) : γ :=
  optK (loopF s_l1New_L0_r.step (s_l1New_L0_fu x0 (IntKind.wrap .i64 (28655 + (x0.length : Int))) 0) (s_l1New_L0_mk x0 (IntKind.wrap .i64 (28655 + (x0.length : Int))) 0)) fail fun w2 =>
    k (⟨w2.1.1.1, 0, w2.1.2.2.1.1⟩ : Curs)
def s_l1New (x0 : List Int) : Curs :=
  Stp.elim (fun a3 =>
    (⟨x0, 0, a3⟩ : Curs))
    (fun p3 =>
      (⟨x0, 0, p3⟩ : Curs))
    (forN (s_l1New_L0_f x0) 1 (Int.toNat ((x0.length : Int) - 0)) 0 (IntKind.wrap .i64 (28655 + (x0.length : Int))))
theorem s_l1New_lk (x0 : List Int) : evalFn te (orcOf (P := Try.prog) []) (lorcOf [s_l1New_L0_le]) s_l1New_ann Try.f39 (pvs [.sc (.sl .u8)] (x0, ())) =
  s_l1New_N x0 _ none (fun v => some [rb .curs v]) := by kernel_rfl
theorem s_l1New_p (x0 : List Int) (hx0 : x0.length ≤ 140737488355328)  (γ : Type) (fail : γ) (k : Curs → γ) : s_l1New_N x0 γ fail k = k (s_l1New x0) := by
  unfold s_l1New_N s_l1New
  exact loopT (f := k) (s_l1New_L0_cl x0 (IntKind.wrap .i64 (28655 + (x0.length : Int))) 0 (by (try simp only [Nat.ble_eq, Bool.and_eq_true, decide_eq_true_eq, s_l1New_L0_mx0]); grind [maxSl, maxStr, toBytes_length, toInts_length, List.length_set, wrap64]) (by (try simp only [Nat.ble_eq, Bool.and_eq_true, decide_eq_true_eq, s_l1New_L0_mx0]); grind [maxSl, maxStr, toBytes_length, toInts_length, List.length_set, wrap64])) (fun a3 => rfl)
      (fun p3 => rfl)
theorem s_l1New_c (x0 : List Int)  : Con Try.prog 39 (pvs [.sc (.sl .u8)] (x0, ())) [rb .curs (s_l1New x0)] := by
  refine Con.of_facts (enters_of Try.func39 rfl (by kernel_rfl)) fun hf => ?_
  replace hf := factAt hf
  exact evalFn_conL teFact mixFact (orcOf_ok _) Try.func39 (by kernel_rfl) (bs := [0]) (by kernel_rfl) (by kernel_rfl) (fun w0 mo I0 hmo => ⟨lsem_of_lorc (s_l1New_L0_ls w0 mo I0 hmo) (by kernel_rfl), trivial⟩) ((s_l1New_lk x0).trans (s_l1New_p x0 ((hf 0 0 rfl rfl).len) _ _ _))
noncomputable def s_l1New_e : Ent1 Try.prog := entA 39 [.sc (.sl .u8)] (fun x => (s_l1New x.1)) (fun v => [rb .curs v]) (fun x => s_l1New_c x.1)

theorem s_l1New_cur (x0 : List Int)  (hc : x0.length ≤ 1048576) : (fun v : Curs => 0 ≤ v.i ∧ v.b.length ≤ 1048576) (s_l1New x0) := by
  unfold s_l1New
  exact loopP (P := (fun v : Curs => 0 ≤ v.i ∧ v.b.length ≤ 1048576)) (fun a3 ha3 => (by (try simp only [Nat.ble_eq, Bool.and_eq_true, decide_eq_true_eq, s_l1New_L0_mx0]); grind [maxSl, maxStr, toBytes_length, toInts_length, List.length_set, wrap64]))
      (fun p3 hp3 => (by (try simp only [Nat.ble_eq, Bool.and_eq_true, decide_eq_true_eq, s_l1New_L0_mx0]); grind [maxSl, maxStr, toBytes_length, toInts_length, List.length_set, wrap64]))

/-- impl.SeqAdd -/
def i_SeqAdd_N (x0 : Int) (x1 : Int) (γ : Type) (fail : γ) (k : Int → γ) : γ :=
  k (bits .and .i64 (IntKind.wrap .i64 (x0 + x1)) 4294967295)
def i_SeqAdd (x0 : Int) (x1 : Int) : Int :=
  (bits .and .i64 (IntKind.wrap .i64 (x0 + x1)) 4294967295)
theorem i_SeqAdd_lk (x0 : Int) (x1 : Int) : evalFn te (orcOf (P := Try.prog) []) lorc0 [] Try.f45 (pvs [.sc (.int .i64), .sc (.int .i64)] (x0, x1, ())) =
  i_SeqAdd_N x0 x1 _ none (fun v => some [(false, [RC.c (.int .i64 v)])]) := by kernel_rfl
theorem i_SeqAdd_p (x0 : Int) (x1 : Int)   (γ : Type) (fail : γ) (k : Int → γ) : i_SeqAdd_N x0 x1 γ fail k = k (i_SeqAdd x0 x1) := by
  unfold i_SeqAdd_N i_SeqAdd
  exact rfl
theorem i_SeqAdd_c (x0 : Int) (x1 : Int)  : Con Try.prog 45 (pvs [.sc (.int .i64), .sc (.int .i64)] (x0, x1, ())) [rv (.sc (.int .i64)) [] (i_SeqAdd x0 x1)] := by
  exact evalFn_con0 teFact mixFact (orcOf_ok _) Try.func45 (by kernel_rfl) ((i_SeqAdd_lk x0 x1).trans (i_SeqAdd_p x0 x1  _ _ _))
noncomputable def i_SeqAdd_e : Ent1 Try.prog := entA 45 [.sc (.int .i64), .sc (.int .i64)] (fun x => (i_SeqAdd x.1 x.2.1)) (fun v => [rv (.sc (.int .i64)) [] v]) (fun x => i_SeqAdd_c x.1 x.2.1)


/-- impl.NoOptions -/
def i_NoOptions_N  (γ : Type) (fail : γ) (k : Opti → γ) : γ :=
  k (⟨0, (-1), false, false, 0, 0⟩ : Opti)
def i_NoOptions  : Opti :=
  (⟨0, (-1), false, false, 0, 0⟩ : Opti)
theorem i_NoOptions_lk  : evalFn te (orcOf (P := Try.prog) []) lorc0 [] Try.f46 (pvs [] (())) =
  i_NoOptions_N  _ none (fun v => some [(true, [RC.c (.int .i64 v.mss), RC.c (.int .i64 v.scale), RC.c (.bool v.sack), RC.c (.bool v.stamp), RC.c (.int .i64 v.val), RC.c (.int .i64 v.echo)])]) := by kernel_rfl
theorem i_NoOptions_p    (γ : Type) (fail : γ) (k : Opti → γ) : i_NoOptions_N  γ fail k = k (i_NoOptions ) := by
  unfold i_NoOptions_N i_NoOptions
  exact rfl
theorem i_NoOptions_c   : Con Try.prog 46 (pvs [] (())) [rv (.st .opti) [] i_NoOptions] := by
  exact evalFn_con0 teFact mixFact (orcOf_ok _) Try.func46 (by kernel_rfl) ((i_NoOptions_lk ).trans (i_NoOptions_p   _ _ _))
noncomputable def i_NoOptions_e : Ent1 Try.prog := entA 46 [] (fun x => i_NoOptions) (fun v => [rv (.st .opti) [] v]) (fun x => i_NoOptions_c )


/-- spec.NoOptions -/
def s_NoOptions_N  (γ : Type) (fail : γ) (k : Opti → γ) : γ :=
  k (⟨0, (-1), false, false, 0, 0⟩ : Opti)
def s_NoOptions  : Opti :=
  (⟨0, (-1), false, false, 0, 0⟩ : Opti)
theorem s_NoOptions_lk  : evalFn te (orcOf (P := Try.prog) []) lorc0 [] Try.f47 (pvs [] (())) =
  s_NoOptions_N  _ none (fun v => some [(true, [RC.c (.int .i64 v.mss), RC.c (.int .i64 v.scale), RC.c (.bool v.sack), RC.c (.bool v.stamp), RC.c (.int .i64 v.val), RC.c (.int .i64 v.echo)])]) := by kernel_rfl
theorem s_NoOptions_p    (γ : Type) (fail : γ) (k : Opti → γ) : s_NoOptions_N  γ fail k = k (s_NoOptions ) := by
  unfold s_NoOptions_N s_NoOptions
  exact rfl
theorem s_NoOptions_c   : Con Try.prog 47 (pvs [] (())) [rv (.st .opti) [] s_NoOptions] := by
  exact evalFn_con0 teFact mixFact (orcOf_ok _) Try.func47 (by kernel_rfl) ((s_NoOptions_lk ).trans (s_NoOptions_p   _ _ _))
noncomputable def s_NoOptions_e : Ent1 Try.prog := entA 47 [] (fun x => s_NoOptions) (fun v => [rv (.st .opti) [] v]) (fun x => s_NoOptions_c )


/-- spec.l4Rest -/
def s_l4Rest_N (x0 : Int) (γ : Type) (fail : γ) (k : Int → γ) : γ :=
  bif (decide ((x0.tmod 4294967296) < 0)) then
    k (IntKind.wrap .i64 ((x0.tmod 4294967296) + 4294967296))
  else
  k (x0.tmod 4294967296)
def s_l4Rest (x0 : Int) : Int :=
  bif (decide ((x0.tmod 4294967296) < 0)) then
    (IntKind.wrap .i64 ((x0.tmod 4294967296) + 4294967296))
  else
  (x0.tmod 4294967296)
theorem s_l4Rest_lk (x0 : Int) : evalFn te (orcOf (P := Try.prog) []) lorc0 [] Try.f54 (pvs [.sc (.int .i64)] (x0, ())) =
  s_l4Rest_N x0 _ none (fun v => some [(false, [RC.c (.int .i64 v)])]) := by kernel_rfl
theorem s_l4Rest_p (x0 : Int)   (γ : Type) (fail : γ) (k : Int → γ) : s_l4Rest_N x0 γ fail k = k (s_l4Rest x0) := by
  unfold s_l4Rest_N s_l4Rest
  exact bifT (f := k) (fun b0 => rfl)
      (fun b0 => rfl)
theorem s_l4Rest_c (x0 : Int)  : Con Try.prog 54 (pvs [.sc (.int .i64)] (x0, ())) [rv (.sc (.int .i64)) [] (s_l4Rest x0)] := by
  exact evalFn_con0 teFact mixFact (orcOf_ok _) Try.func54 (by kernel_rfl) ((s_l4Rest_lk x0).trans (s_l4Rest_p x0  _ _ _))
noncomputable def s_l4Rest_e : Ent1 Try.prog := entA 54 [.sc (.int .i64)] (fun x => (s_l4Rest x.1)) (fun v => [rv (.sc (.int .i64)) [] v]) (fun x => s_l4Rest_c x.1)


/-- impl.peerMss -/
def i_peerMss_N (x0 : Opti) (γ : Type) (fail : γ) (k : Int → γ) : γ :=
  bif (x0.mss == 0) then
    k 536
  else
  k x0.mss
def i_peerMss (x0 : Opti) : Int :=
  bif (x0.mss == 0) then
    536
  else
  x0.mss
theorem i_peerMss_lk (x0 : Opti) : evalFn te (orcOf (P := Try.prog) []) lorc0 [] Try.f57 (pvs [.st .opti] (x0, ())) =
  i_peerMss_N x0 _ none (fun v => some [(false, [RC.c (.int .i64 v)])]) := by kernel_rfl
theorem i_peerMss_p (x0 : Opti)   (γ : Type) (fail : γ) (k : Int → γ) : i_peerMss_N x0 γ fail k = k (i_peerMss x0) := by
  unfold i_peerMss_N i_peerMss
  exact bifT (f := k) (fun b0 => rfl)
      (fun b0 => rfl)
theorem i_peerMss_c (x0 : Opti)  : Con Try.prog 57 (pvs [.st .opti] (x0, ())) [rv (.sc (.int .i64)) [] (i_peerMss x0)] := by
  exact evalFn_con0 teFact mixFact (orcOf_ok _) Try.func57 (by kernel_rfl) ((i_peerMss_lk x0).trans (i_peerMss_p x0  _ _ _))
noncomputable def i_peerMss_e : Ent1 Try.prog := entA 57 [.st .opti] (fun x => (i_peerMss x.1)) (fun v => [rv (.sc (.int .i64)) [] v]) (fun x => i_peerMss_c x.1)


/-- spec.KeyMac -/
def s_KeyMac_N (x0 : Int) (x1 : Int) (γ : Type) (fail : γ) (k : Mac → γ) : γ :=
  k (⟨false, x0, x1, []⟩ : Mac)
def s_KeyMac (x0 : Int) (x1 : Int) : Mac :=
  (⟨false, x0, x1, []⟩ : Mac)
theorem s_KeyMac_lk (x0 : Int) (x1 : Int) : evalFn te (orcOf (P := Try.prog) []) lorc0 [] Try.f97 (pvs [.sc (.int .u64), .sc (.int .u64)] (x0, x1, ())) =
  s_KeyMac_N x0 x1 _ none (fun v => some [(true, [RC.c (.bool v.use), RC.c (.int .u64 v.k), RC.c (.int .u64 v.l), RC.own true .macRow v.rows])]) := by kernel_rfl
theorem s_KeyMac_p (x0 : Int) (x1 : Int)   (γ : Type) (fail : γ) (k : Mac → γ) : s_KeyMac_N x0 x1 γ fail k = k (s_KeyMac x0 x1) := by
  unfold s_KeyMac_N s_KeyMac
  exact rfl
theorem s_KeyMac_c (x0 : Int) (x1 : Int)  : Con Try.prog 97 (pvs [.sc (.int .u64), .sc (.int .u64)] (x0, x1, ())) [rv (.st .mac) [.c, .c, .c, .o true] (s_KeyMac x0 x1)] := by
  exact evalFn_con0 teFact mixFact (orcOf_ok _) Try.func97 (by kernel_rfl) ((s_KeyMac_lk x0 x1).trans (s_KeyMac_p x0 x1  _ _ _))
noncomputable def s_KeyMac_e : Ent1 Try.prog := entA 97 [.sc (.int .u64), .sc (.int .u64)] (fun x => (s_KeyMac x.1 x.2.1)) (fun v => [rv (.st .mac) [.c, .c, .c, .o true] v]) (fun x => s_KeyMac_c x.1 x.2.1)

theorem s_KeyMac_len (x0 : Int) (x1 : Int)   : (fun v : Mac => v.rows.length ≤ 0) (s_KeyMac x0 x1) := by
  unfold s_KeyMac
  exact (by (try simp only [Nat.ble_eq, Bool.and_eq_true, decide_eq_true_eq]); grind [maxSl, maxStr, toBytes_length, toInts_length, List.length_set, wrap64])

/-- impl.within -/
def i_within_N (x0 : Int) (x1 : Int) (x2 : Int) (γ : Type) (fail : γ) (k : Bool → γ) : γ :=
  bif (decide (x1 ≤ x0)) then
    k (decide (x0 ≤ x2))
  else
  k false
def i_within (x0 : Int) (x1 : Int) (x2 : Int) : Bool :=
  bif (decide (x1 ≤ x0)) then
    (decide (x0 ≤ x2))
  else
  false
theorem i_within_lk (x0 : Int) (x1 : Int) (x2 : Int) : evalFn te (orcOf (P := Try.prog) []) lorc0 [] Try.f102 (pvs [.sc (.int .i64), .sc (.int .i64), .sc (.int .i64)] (x0, x1, x2, ())) =
  i_within_N x0 x1 x2 _ none (fun v => some [(false, [RC.c (.bool v)])]) := by kernel_rfl
theorem i_within_p (x0 : Int) (x1 : Int) (x2 : Int)   (γ : Type) (fail : γ) (k : Bool → γ) : i_within_N x0 x1 x2 γ fail k = k (i_within x0 x1 x2) := by
  unfold i_within_N i_within
  exact bifT (f := k) (fun b0 => rfl)
      (fun b0 => rfl)
theorem i_within_c (x0 : Int) (x1 : Int) (x2 : Int)  : Con Try.prog 102 (pvs [.sc (.int .i64), .sc (.int .i64), .sc (.int .i64)] (x0, x1, x2, ())) [rv (.sc .bool) [] (i_within x0 x1 x2)] := by
  exact evalFn_con0 teFact mixFact (orcOf_ok _) Try.func102 (by kernel_rfl) ((i_within_lk x0 x1 x2).trans (i_within_p x0 x1 x2  _ _ _))
noncomputable def i_within_e : Ent1 Try.prog := entA 102 [.sc (.int .i64), .sc (.int .i64), .sc (.int .i64)] (fun x => (i_within x.1 x.2.1 x.2.2.1)) (fun v => [rv (.sc .bool) [] v]) (fun x => i_within_c x.1 x.2.1 x.2.2.1)

theorem i_within_eq (n lo hi : Int) : i_within n lo hi = (decide (lo ≤ n) && decide (n ≤ hi)) := by
  unfold i_within
  cases decide (lo ≤ n) <;> rfl


/-- spec.l1In -/
def s_l1In_N (x0 : Int) (x1 : Int) (x2 : Int) (γ : Type) (fail : γ) (k : Bool → γ) : γ :=
  bif (decide (x1 ≤ x0)) then
    k (decide (x0 ≤ x2))
  else
  k false
def s_l1In (x0 : Int) (x1 : Int) (x2 : Int) : Bool :=
  bif (decide (x1 ≤ x0)) then
    (decide (x0 ≤ x2))
  else
  false
theorem s_l1In_lk (x0 : Int) (x1 : Int) (x2 : Int) : evalFn te (orcOf (P := Try.prog) []) lorc0 [] Try.f103 (pvs [.sc (.int .i64), .sc (.int .i64), .sc (.int .i64)] (x0, x1, x2, ())) =
  s_l1In_N x0 x1 x2 _ none (fun v => some [(false, [RC.c (.bool v)])]) := by kernel_rfl
theorem s_l1In_p (x0 : Int) (x1 : Int) (x2 : Int)   (γ : Type) (fail : γ) (k : Bool → γ) : s_l1In_N x0 x1 x2 γ fail k = k (s_l1In x0 x1 x2) := by
  unfold s_l1In_N s_l1In
  exact bifT (f := k) (fun b0 => rfl)
      (fun b0 => rfl)
theorem s_l1In_c (x0 : Int) (x1 : Int) (x2 : Int)  : Con Try.prog 103 (pvs [.sc (.int .i64), .sc (.int .i64), .sc (.int .i64)] (x0, x1, x2, ())) [rv (.sc .bool) [] (s_l1In x0 x1 x2)] := by
  exact evalFn_con0 teFact mixFact (orcOf_ok _) Try.func103 (by kernel_rfl) ((s_l1In_lk x0 x1 x2).trans (s_l1In_p x0 x1 x2  _ _ _))
noncomputable def s_l1In_e : Ent1 Try.prog := entA 103 [.sc (.int .i64), .sc (.int .i64), .sc (.int .i64)] (fun x => (s_l1In x.1 x.2.1 x.2.2.1)) (fun v => [rv (.sc .bool) [] v]) (fun x => s_l1In_c x.1 x.2.1 x.2.2.1)

theorem s_l1In_eq (n lo hi : Int) : s_l1In n lo hi = (decide (lo ≤ n) && decide (n ≤ hi)) := by
  unfold s_l1In
  cases decide (lo ≤ n) <;> rfl


/-- spec.l1Max -/
def s_l1Max_N (x0 : Int) (x1 : Int) (γ : Type) (fail : γ) (k : Int → γ) : γ :=
  bif (decide (x1 < x0)) then
    k x0
  else
  k x1
def s_l1Max (x0 : Int) (x1 : Int) : Int :=
  bif (decide (x1 < x0)) then
    x0
  else
  x1
theorem s_l1Max_lk (x0 : Int) (x1 : Int) : evalFn te (orcOf (P := Try.prog) []) lorc0 [] Try.f140 (pvs [.sc (.int .i64), .sc (.int .i64)] (x0, x1, ())) =
  s_l1Max_N x0 x1 _ none (fun v => some [(false, [RC.c (.int .i64 v)])]) := by kernel_rfl
theorem s_l1Max_p (x0 : Int) (x1 : Int)   (γ : Type) (fail : γ) (k : Int → γ) : s_l1Max_N x0 x1 γ fail k = k (s_l1Max x0 x1) := by
  unfold s_l1Max_N s_l1Max
  exact bifT (f := k) (fun b0 => rfl)
      (fun b0 => rfl)
theorem s_l1Max_c (x0 : Int) (x1 : Int)  : Con Try.prog 140 (pvs [.sc (.int .i64), .sc (.int .i64)] (x0, x1, ())) [rv (.sc (.int .i64)) [] (s_l1Max x0 x1)] := by
  exact evalFn_con0 teFact mixFact (orcOf_ok _) Try.func140 (by kernel_rfl) ((s_l1Max_lk x0 x1).trans (s_l1Max_p x0 x1  _ _ _))
noncomputable def s_l1Max_e : Ent1 Try.prog := entA 140 [.sc (.int .i64), .sc (.int .i64)] (fun x => (s_l1Max x.1 x.2.1)) (fun v => [rv (.sc (.int .i64)) [] v]) (fun x => s_l1Max_c x.1 x.2.1)


/-- spec.StampOf -/
def s_StampOf_N (x0 : Int) (x1 : Int) (x2 : Bool) (γ : Type) (fail : γ) (k : Int → γ) : γ :=
  bif x2 then
    letK (α := Bool) (s_l1In x1 0 14) fun c1 =>
    bif c1 then
      letK (α := Int) (s_l4Rest x0) fun c2 =>
      letK (α := Int) (IntKind.wrap .i64 ((IntKind.wrap .i64 (c2 * 64)) + (IntKind.wrap .i64 (48 + x1)))) fun e3 =>
      letK (α := Int) (s_l4Rest e3) fun c4 =>
      k c4
    else
    letK (α := Int) (s_l4Rest x0) fun c5 =>
    letK (α := Int) (s_l4Rest (IntKind.wrap .i64 ((IntKind.wrap .i64 (c5 * 64)) + 63))) fun c6 =>
    k c6
  else
  letK (α := Bool) (s_l1In x1 0 14) fun c7 =>
  bif c7 then
    letK (α := Int) (s_l4Rest x0) fun c8 =>
    letK (α := Int) (IntKind.wrap .i64 ((IntKind.wrap .i64 (c8 * 64)) + (IntKind.wrap .i64 (32 + x1)))) fun e9 =>
    letK (α := Int) (s_l4Rest e9) fun c10 =>
    k c10
  else
  letK (α := Int) (s_l4Rest x0) fun c11 =>
  letK (α := Int) (s_l4Rest (IntKind.wrap .i64 ((IntKind.wrap .i64 (c11 * 64)) + 47))) fun c12 =>
  k c12
def s_StampOf (x0 : Int) (x1 : Int) (x2 : Bool) : Int :=
  bif x2 then
    letK (α := Bool) (s_l1In x1 0 14) fun c1 =>
    bif c1 then
      letK (α := Int) (s_l4Rest x0) fun c2 =>
      letK (α := Int) (IntKind.wrap .i64 ((IntKind.wrap .i64 (c2 * 64)) + (IntKind.wrap .i64 (48 + x1)))) fun e3 =>
      letK (α := Int) (s_l4Rest e3) fun c4 =>
      c4
    else
    letK (α := Int) (s_l4Rest x0) fun c5 =>
    letK (α := Int) (s_l4Rest (IntKind.wrap .i64 ((IntKind.wrap .i64 (c5 * 64)) + 63))) fun c6 =>
    c6
  else
  letK (α := Bool) (s_l1In x1 0 14) fun c7 =>
  bif c7 then
    letK (α := Int) (s_l4Rest x0) fun c8 =>
    letK (α := Int) (IntKind.wrap .i64 ((IntKind.wrap .i64 (c8 * 64)) + (IntKind.wrap .i64 (32 + x1)))) fun e9 =>
    letK (α := Int) (s_l4Rest e9) fun c10 =>
    c10
  else
  letK (α := Int) (s_l4Rest x0) fun c11 =>
  letK (α := Int) (s_l4Rest (IntKind.wrap .i64 ((IntKind.wrap .i64 (c11 * 64)) + 47))) fun c12 =>
  c12
theorem s_StampOf_lk (x0 : Int) (x1 : Int) (x2 : Bool) : evalFn te (orcOf (P := Try.prog) [s_l1In_e, s_l4Rest_e]) lorc0 [] Try.f141 (pvs [.sc (.int .i64), .sc (.int .i64), .sc .bool] (x0, x1, x2, ())) =
  s_StampOf_N x0 x1 x2 _ none (fun v => some [(false, [RC.c (.int .i64 v)])]) := by kernel_rfl
theorem s_StampOf_p (x0 : Int) (x1 : Int) (x2 : Bool)   (γ : Type) (fail : γ) (k : Int → γ) : s_StampOf_N x0 x1 x2 γ fail k = k (s_StampOf x0 x1 x2) := by
  unfold s_StampOf_N s_StampOf
  exact bifT (f := k) (fun b0 => letT (f := k) (fun c1 hc1 => bifT (f := k) (fun b1 => letT (f := k) (fun c2 hc2 => letT (f := k) (fun e3 he3 => letT (f := k) (fun c4 hc4 => rfl))))
      (fun b1 => letT (f := k) (fun c5 hc5 => letT (f := k) (fun c6 hc6 => rfl)))))
      (fun b0 => letT (f := k) (fun c7 hc7 => bifT (f := k) (fun b1 => letT (f := k) (fun c8 hc8 => letT (f := k) (fun e9 he9 => letT (f := k) (fun c10 hc10 => rfl))))
      (fun b1 => letT (f := k) (fun c11 hc11 => letT (f := k) (fun c12 hc12 => rfl)))))
theorem s_StampOf_c (x0 : Int) (x1 : Int) (x2 : Bool)  : Con Try.prog 141 (pvs [.sc (.int .i64), .sc (.int .i64), .sc .bool] (x0, x1, x2, ())) [rv (.sc (.int .i64)) [] (s_StampOf x0 x1 x2)] := by
  exact evalFn_con0 teFact mixFact (orcOf_ok _) Try.func141 (by kernel_rfl) ((s_StampOf_lk x0 x1 x2).trans (s_StampOf_p x0 x1 x2  _ _ _))
noncomputable def s_StampOf_e : Ent1 Try.prog := entA 141 [.sc (.int .i64), .sc (.int .i64), .sc .bool] (fun x => (s_StampOf x.1 x.2.1 x.2.2.1)) (fun v => [rv (.sc (.int .i64)) [] v]) (fun x => s_StampOf_c x.1 x.2.1 x.2.2.1)


/-- spec.SipStart -/
def s_SipStart_N (x0 : Int) (x1 : Int) (γ : Type) (fail : γ) (k : Sipr → γ) : γ :=
  k (⟨(bits .xor .u64 x0 8317987319222330741), (bits .xor .u64 x1 7237128888997146477), (bits .xor .u64 x0 7816392313619706465), (bits .xor .u64 x1 8387220255154660723)⟩ : Sipr)
def s_SipStart (x0 : Int) (x1 : Int) : Sipr :=
  (⟨(bits .xor .u64 x0 8317987319222330741), (bits .xor .u64 x1 7237128888997146477), (bits .xor .u64 x0 7816392313619706465), (bits .xor .u64 x1 8387220255154660723)⟩ : Sipr)
theorem s_SipStart_lk (x0 : Int) (x1 : Int) : evalFn te (orcOf (P := Try.prog) []) lorc0 [] Try.f197 (pvs [.sc (.int .u64), .sc (.int .u64)] (x0, x1, ())) =
  s_SipStart_N x0 x1 _ none (fun v => some [(true, [RC.c (.int .u64 v.a), RC.c (.int .u64 v.b), RC.c (.int .u64 v.c), RC.c (.int .u64 v.d)])]) := by kernel_rfl
theorem s_SipStart_p (x0 : Int) (x1 : Int)   (γ : Type) (fail : γ) (k : Sipr → γ) : s_SipStart_N x0 x1 γ fail k = k (s_SipStart x0 x1) := by
  unfold s_SipStart_N s_SipStart
  exact rfl
theorem s_SipStart_c (x0 : Int) (x1 : Int)  : Con Try.prog 197 (pvs [.sc (.int .u64), .sc (.int .u64)] (x0, x1, ())) [rv (.st .sipr) [] (s_SipStart x0 x1)] := by
  exact evalFn_con0 teFact mixFact (orcOf_ok _) Try.func197 (by kernel_rfl) ((s_SipStart_lk x0 x1).trans (s_SipStart_p x0 x1  _ _ _))
noncomputable def s_SipStart_e : Ent1 Try.prog := entA 197 [.sc (.int .u64), .sc (.int .u64)] (fun x => (s_SipStart x.1 x.2.1)) (fun v => [rv (.st .sipr) [] v]) (fun x => s_SipStart_c x.1 x.2.1)


/-- spec.l10Low -/
def s_l10Low_ann : List (Nat × Keep) := [(0, ⟨[0, 3, 4], [], false, 0⟩)]
def s_l10Low_L0_sh : Sh := ⟨[(0, false, [.str]), (3, false, [.int .u64]), (4, false, [.int .i64])], []⟩
def s_l10Low_L0_es : List (Ex × Sh) := [(.exit 0, ⟨[(2, false, [.undef]), (3, false, [.int .u64])], []⟩)]
def s_l10Low_L0_mk (v0 : Bytes) (v1 : Int) (v2 : Int) : s_l10Low_L0_sh.T := (((v0, ()), ((v1, ()), ((v2, ()), ()))), ())
def s_l10Low_L0_mx0 (y0 : Int) : Sh.T ⟨[(2, false, [.undef]), (3, false, [.int .u64])], []⟩ := ((((), ()), ((y0, ()), ())), ())
def s_l10Low_L0_B (v0 : Bytes) (v1 : Int) (v2 : Int) (γ : Type) (fail : γ) (next : s_l10Low_L0_sh.T → γ) (out : WT s_l10Low_L0_es → γ) : γ :=
  bif (decide (0 ≤ v2)) then
    bif ((decide (0 ≤ v2)) && (decide (v2 < (v0.length : Int)))) then
    letK (α := Int) (bits .or .u64 (IntKind.wrap .u64 (v1 * 256)) (IntKind.wrap .u64 (byteAt v0 v2.toNat))) fun e1 =>
    next (s_l10Low_L0_mk v0 e1 (IntKind.wrap .i64 (v2 - 1)))
    else fail
  else
  out (s_l10Low_L0_mx0 v1)
theorem s_l10Low_L0_par (v0 : Bytes) (v1 : Int) (v2 : Int) (γ : Type) (fail : γ) (next : s_l10Low_L0_sh.T → γ) (out : WT s_l10Low_L0_es → γ) : s_l10Low_L0_B v0 v1 v2 γ fail next out = optK (s_l10Low_L0_B v0 v1 v2 _ none (fun v' => some (.inl v')) (fun w => some (.inr w))) fail (fun r => Sum.elim next out r) := by
  unfold s_l10Low_L0_B
  exact bifT (f := (fun o => optK o fail (fun r => Sum.elim next out r))) (fun _ => bifT (f := (fun o => optK o fail (fun r => Sum.elim next out r))) (fun _ => letT (f := (fun o => optK o fail (fun r => Sum.elim next out r))) (fun e1 _ => rfl)) (fun _ => rfl))
      (fun _ => rfl)
def s_l10Low_L0_r : Round s_l10Low_L0_sh.T (WT s_l10Low_L0_es) where
  B v γ fail next out := s_l10Low_L0_B v.1.1.1 v.1.2.1.1 v.1.2.2.1.1 γ fail next out
  par v γ fail next out := s_l10Low_L0_par v.1.1.1 v.1.2.1.1 v.1.2.2.1.1 γ fail next out
def s_l10Low_L0_fu (v0 : Bytes) (v1 : Int) (v2 : Int) : Nat := (Int.toNat (v2 - 0 + 1)) + 1
theorem s_l10Low_L0_lk (v : s_l10Low_L0_sh.T) (next : St → Option Res) (k : Ex → St → Option Res) : evalK te (orcOf (P := Try.prog) []) (lorcOf []) Try.f199.ntmps s_l10Low_ann (nthLoop (bodyOf Try.f199) 0 0) 0 (s_l10Low_L0_sh.enc v) (endK ⟨[0, 3, 4], [], false, 0⟩ ⟨[2, 3], [], false, 0⟩ next k) =
  s_l10Low_L0_r.B v _ none (fun v' => next (s_l10Low_L0_sh.enc v')) (fun w => outK s_l10Low_L0_es k w) := by kernel_rfl
def s_l10Low_L0_le : LE := leOf 0 s_l10Low_L0_sh s_l10Low_L0_es s_l10Low_L0_r.step (fun v => s_l10Low_L0_fu v.1.1.1 v.1.2.1.1 v.1.2.2.1.1)
theorem s_l10Low_L0_ls (w0 : World) (mo : Mts) (I0 : Nat → Prop) (hmo : mo.length = 0) : LSem Try.prog (Sim w0 mo Try.f199.ntmps I0) (fun b s k => match Nat.beq 0 b with | true => s_l10Low_L0_le.run s k | false => none) 0 (nthLoop (bodyOf Try.f199) 0 0) :=
  le_sem hmo (lorc := lorcOf []) (ann := s_l10Low_ann) (keep := ⟨[0, 3, 4], [], false, 0⟩) (kout := ⟨[2, 3], [], false, 0⟩) teFact mixFact (orcOf_ok _) (by kernel_rfl) (allLoops_of (bs := []) (by kernel_rfl) trivial) s_l10Low_L0_r _ s_l10Low_L0_lk
def s_l10Low_L0_f (v0 : Bytes) (v2 : Int) (a : Int) : Stp (Int) (Empty) :=
  letK (α := Int) (bits .or .u64 (IntKind.wrap .u64 (a * 256)) (IntKind.wrap .u64 (byteAt v0 v2.toNat))) fun e1 =>
  .next e1
theorem s_l10Low_L0_st (v0 : Bytes) (v1 : Int) (v2 : Int) (hlo : 0 ≤ v2) (hhi : v2 ≤ 9223372036854775807) (hN : 0 ≤ 0) (hinv : v2 < (v0.length : Int)) : s_l10Low_L0_r.step (s_l10Low_L0_mk v0 v1 v2) = Stp.elim (fun a' : Int => some (Sum.inl (s_l10Low_L0_mk v0 a' (v2 + (-1))))) (fun w => some (Sum.inr ((fun p : Empty => nomatch p) w))) (s_l10Low_L0_f v0 v2 v1) := by
  have hw : (IntKind.wrap .i64 (v2 - 1)) = v2 + (-1) := wrap64 (by omega) (by omega)
  show s_l10Low_L0_B v0 v1 v2 (Option (s_l10Low_L0_sh.T ⊕ WT s_l10Low_L0_es)) none (fun v' => some (Sum.inl v')) (fun w => some (Sum.inr w)) = _
  unfold s_l10Low_L0_B s_l10Low_L0_f
  exact bifG (by simp only [decide_eq_true_eq]; omega) (bifG (by (try simp only [Nat.ble_eq, Bool.and_eq_true, decide_eq_true_eq]); grind [maxSl, maxStr, toBytes_length, toInts_length, List.length_set, wrap64]) (letT (f := (Stp.elim (fun a' : Int => some (Sum.inl (s_l10Low_L0_mk v0 a' (v2 + (-1))))) (fun w => some (Sum.inr ((fun p : Empty => nomatch p) w))))) (fun e1 he1 => (by exact congrArg (fun z => some (Sum.inl (s_l10Low_L0_mk v0 e1 z))) hw))))
theorem s_l10Low_L0_cl (v0 : Bytes) (v1 : Int) (v2 : Int) (h0 : v2 ≤ 9223372036854775807) (h1 : 0 ≤ 0) (h2 : v2 < (v0.length : Int)) : loopF s_l10Low_L0_r.step (s_l10Low_L0_fu v0 v1 v2) (s_l10Low_L0_mk v0 v1 v2) = some (Stp.elim (fun a => (fun i a => s_l10Low_L0_mx0 a) (v2 + (-1) * (((Int.toNat (v2 - 0 + 1)) : Nat) : Int)) a) (fun p : Empty => nomatch p) (forN (s_l10Low_L0_f v0) (-1) (Int.toNat (v2 - 0 + 1)) v2 v1)) :=
  forN_loop (step := s_l10Low_L0_r.step) (mk := fun v2 a => s_l10Low_L0_mk v0 a v2) (f := s_l10Low_L0_f v0) (e := (fun i a => s_l10Low_L0_mx0 a)) (emb := (fun p : Empty => nomatch p)) (st := (-1)) (Inv := fun v2 a => v2 < (v0.length : Int)) (Int.toNat (v2 - 0 + 1)) v2 v1 _ (Nat.lt_succ_self _) h2
    (fun j a hj hv => ⟨s_l10Low_L0_st v0 a (v2 + (-1) * (j : Int)) (by omega) (by omega) (by omega) hv, by
      intro a' he
      grind [s_l10Low_L0_f, letK, Stp.elim, wrap64, List.length_set]⟩)
    (fun a hv => by
      show s_l10Low_L0_B v0 a (v2 + (-1) * (((Int.toNat (v2 - 0 + 1)) : Nat) : Int)) (Option (s_l10Low_L0_sh.T ⊕ WT s_l10Low_L0_es)) none (fun v' => some (Sum.inl v')) (fun w => some (Sum.inr w)) = _
      unfold s_l10Low_L0_B
      exact bifN (by simp only [decide_eq_false_iff_not]; omega) rfl)
theorem s_l10Low_L0_nx (v0 : Bytes) (v1 : Int) (v2 : Int) (h0 : v2 ≤ 9223372036854775807) (h1 : 0 ≤ 0) (h2 : v2 < (v0.length : Int)) : ∀ a', forN (s_l10Low_L0_f v0) (-1) (Int.toNat (v2 - 0 + 1)) v2 v1 = .next a' → (v2 + (-1) * (((Int.toNat (v2 - 0 + 1)) : Nat) : Int)) < (v0.length : Int) :=
  forN_inv (f := s_l10Low_L0_f v0) (st := (-1)) (Inv := fun v2 a => v2 < (v0.length : Int)) (Int.toNat (v2 - 0 + 1)) v2 v1 h2
    (fun j a hj hv => by
      intro a' he
      grind [s_l10Low_L0_f, letK, Stp.elim, wrap64, List.length_set])
def s_l10Low_N (x0 : Bytes) (γ : Type) (fail : γ) (k : Int → γ) : γ :=
  optK (loopF s_l10Low_L0_r.step (s_l10Low_L0_fu x0 0 (IntKind.wrap .i64 ((x0.length : Int) - 1))) (s_l10Low_L0_mk x0 0 (IntKind.wrap .i64 ((x0.length : Int) - 1)))) fail fun w2 =>
    k w2.1.2.1.1
def s_l10Low (x0 : Bytes) : Int :=
  Stp.elim (fun a3 =>
    a3)
    (fun p : Empty => nomatch p)
    (forN (s_l10Low_L0_f x0) (-1) (Int.toNat ((IntKind.wrap .i64 ((x0.length : Int) - 1)) - 0 + 1)) (IntKind.wrap .i64 ((x0.length : Int) - 1)) 0)
theorem s_l10Low_lk (x0 : Bytes) : evalFn te (orcOf (P := Try.prog) []) (lorcOf [s_l10Low_L0_le]) s_l10Low_ann Try.f199 (pvs [.sc .str] (x0, ())) =
  s_l10Low_N x0 _ none (fun v => some [(false, [RC.c (.int .u64 v)])]) := by kernel_rfl
theorem s_l10Low_p (x0 : Bytes) (hx0 : List.length x0 ≤ 4611686018427387904)  (γ : Type) (fail : γ) (k : Int → γ) : s_l10Low_N x0 γ fail k = k (s_l10Low x0) := by
  unfold s_l10Low_N s_l10Low
  exact loopX (f := k) (s_l10Low_L0_cl x0 0 (IntKind.wrap .i64 ((x0.length : Int) - 1)) (by (try simp only [Nat.ble_eq, Bool.and_eq_true, decide_eq_true_eq, s_l10Low_L0_mx0]); grind [maxSl, maxStr, toBytes_length, toInts_length, List.length_set, wrap64]) (by (try simp only [Nat.ble_eq, Bool.and_eq_true, decide_eq_true_eq, s_l10Low_L0_mx0]); grind [maxSl, maxStr, toBytes_length, toInts_length, List.length_set, wrap64]) (by (try simp only [Nat.ble_eq, Bool.and_eq_true, decide_eq_true_eq, s_l10Low_L0_mx0]); grind [maxSl, maxStr, toBytes_length, toInts_length, List.length_set, wrap64])) (fun a3 ha3 => have ia3 := s_l10Low_L0_nx x0 0 (IntKind.wrap .i64 ((x0.length : Int) - 1)) (by (try simp only [Nat.ble_eq, Bool.and_eq_true, decide_eq_true_eq, s_l10Low_L0_mx0]); grind [maxSl, maxStr, toBytes_length, toInts_length, List.length_set, wrap64]) (by (try simp only [Nat.ble_eq, Bool.and_eq_true, decide_eq_true_eq, s_l10Low_L0_mx0]); grind [maxSl, maxStr, toBytes_length, toInts_length, List.length_set, wrap64]) (by (try simp only [Nat.ble_eq, Bool.and_eq_true, decide_eq_true_eq, s_l10Low_L0_mx0]); grind [maxSl, maxStr, toBytes_length, toInts_length, List.length_set, wrap64]) _ ha3; rfl)
      (fun p : Empty => nomatch p)
theorem s_l10Low_c (x0 : Bytes)  : Con Try.prog 199 (pvs [.sc .str] (x0, ())) [rv (.sc (.int .u64)) [] (s_l10Low x0)] := by
  refine Con.of_facts (enters_of Try.func199 rfl (by kernel_rfl)) fun hf => ?_
  replace hf := factAt hf
  exact evalFn_conL teFact mixFact (orcOf_ok _) Try.func199 (by kernel_rfl) (bs := [0]) (by kernel_rfl) (by kernel_rfl) (fun w0 mo I0 hmo => ⟨lsem_of_lorc (s_l10Low_L0_ls w0 mo I0 hmo) (by kernel_rfl), trivial⟩) ((s_l10Low_lk x0).trans (s_l10Low_p x0 ((hf 0 0 rfl rfl).slen) _ _ _))
noncomputable def s_l10Low_e : Ent1 Try.prog := entA 199 [.sc .str] (fun x => (s_l10Low x.1)) (fun v => [rv (.sc (.int .u64)) [] v]) (fun x => s_l10Low_c x.1)


/-- spec.l10Turn -/
def s_l10Turn_N (x0 : Int) (x1 : Int) (γ : Type) (fail : γ) (k : Int → γ) : γ :=
  bif (decide (0 ≤ x1)) then
  bif (decide (0 ≤ (IntKind.wrap .u64 (64 - x1)))) then
  letK (α := Int) (bits .or .u64 (IntKind.wrap .u64 (x0 * 2 ^ (min x1.toNat 64))) (x0.fdiv (2 ^ (min (IntKind.wrap .u64 (64 - x1)).toNat 64)))) fun e1 =>
  k e1
  else fail
  else fail
def s_l10Turn (x0 : Int) (x1 : Int) : Int :=
  letK (α := Int) (bits .or .u64 (IntKind.wrap .u64 (x0 * 2 ^ (min x1.toNat 64))) (x0.fdiv (2 ^ (min (IntKind.wrap .u64 (64 - x1)).toNat 64)))) fun e1 =>
  e1
theorem s_l10Turn_lk (x0 : Int) (x1 : Int) : evalFn te (orcOf (P := Try.prog) []) lorc0 [] Try.f211 (pvs [.sc (.int .u64), .sc (.int .u64)] (x0, x1, ())) =
  s_l10Turn_N x0 x1 _ none (fun v => some [(false, [RC.c (.int .u64 v)])]) := by kernel_rfl
theorem s_l10Turn_p (x0 : Int) (x1 : Int) (hx0 : inK .u64 x0) (hx1 : inK .u64 x1)  (γ : Type) (fail : γ) (k : Int → γ) : s_l10Turn_N x0 x1 γ fail k = k (s_l10Turn x0 x1) := by
  unfold s_l10Turn_N s_l10Turn
  exact bifG (by (try simp only [decide_eq_true_eq]); have hh := inKU64 hx1; first | omega | exact wrapU_nonneg _) (bifG (by (try simp only [decide_eq_true_eq]); have hh := inKU64 hx1; first | omega | exact wrapU_nonneg _) (letT (f := k) (fun e1 he1 => rfl)))
theorem s_l10Turn_c (x0 : Int) (x1 : Int)  : Con Try.prog 211 (pvs [.sc (.int .u64), .sc (.int .u64)] (x0, x1, ())) [rv (.sc (.int .u64)) [] (s_l10Turn x0 x1)] := by
  refine Con.of_facts (enters_of Try.func211 rfl (by kernel_rfl)) fun hf => ?_
  replace hf := factAt hf
  exact evalFn_con0 teFact mixFact (orcOf_ok _) Try.func211 (by kernel_rfl) ((s_l10Turn_lk x0 x1).trans (s_l10Turn_p x0 x1 ((hf 0 0 rfl rfl).rng) ((hf 1 0 rfl rfl).rng) _ _ _))
noncomputable def s_l10Turn_e : Ent1 Try.prog := entA 211 [.sc (.int .u64), .sc (.int .u64)] (fun x => (s_l10Turn x.1 x.2.1)) (fun v => [rv (.sc (.int .u64)) [] v]) (fun x => s_l10Turn_c x.1 x.2.1)


/-- impl.ReplyTo -/
def i_ReplyTo_N (x0 : Clie) (x1 : Segm) (γ : Type) (fail : γ) (k : Segm × Bool → γ) : γ :=
  bif (x1.flags != 18) then
    k ((⟨0, 0, 0, 0, 0, 0, ⟨0, 0, false, false, 0, 0⟩, []⟩ : Segm), false)
  else
  letK (α := Int) (i_SeqAdd x0.isn 1) fun c1 =>
  bif (x1.ack != c1) then
    k ((⟨0, 0, 0, 0, 0, 0, ⟨0, 0, false, false, 0, 0⟩, []⟩ : Segm), false)
  else
  letK (α := Int) (i_SeqAdd x0.isn 1) fun c2 =>
  letK (α := Int) (i_SeqAdd x1.seq 1) fun c3 =>
  letK (α := Opti) i_NoOptions fun c4 =>
  bif x0.opts.stamp then
    bif x1.opts.stamp then
      letK (α := Int) (i_SeqAdd x0.opts.val 1) fun c5 =>
      k ((⟨x0.tuple.port, x0.tuple.my, c2, c3, 16, x0.window, ⟨c4.mss, c4.scale, c4.sack, true, c5, x1.opts.val⟩, []⟩ : Segm), true)
    else
    k ((⟨x0.tuple.port, x0.tuple.my, c2, c3, 16, x0.window, c4, []⟩ : Segm), true)
  else
  k ((⟨x0.tuple.port, x0.tuple.my, c2, c3, 16, x0.window, c4, []⟩ : Segm), true)
def i_ReplyTo (x0 : Clie) (x1 : Segm) : Segm × Bool :=
  bif (x1.flags != 18) then
    ((⟨0, 0, 0, 0, 0, 0, ⟨0, 0, false, false, 0, 0⟩, []⟩ : Segm), false)
  else
  letK (α := Int) (i_SeqAdd x0.isn 1) fun c1 =>
  bif (x1.ack != c1) then
    ((⟨0, 0, 0, 0, 0, 0, ⟨0, 0, false, false, 0, 0⟩, []⟩ : Segm), false)
  else
  letK (α := Int) (i_SeqAdd x0.isn 1) fun c2 =>
  letK (α := Int) (i_SeqAdd x1.seq 1) fun c3 =>
  letK (α := Opti) i_NoOptions fun c4 =>
  bif x0.opts.stamp then
    bif x1.opts.stamp then
      letK (α := Int) (i_SeqAdd x0.opts.val 1) fun c5 =>
      ((⟨x0.tuple.port, x0.tuple.my, c2, c3, 16, x0.window, ⟨c4.mss, c4.scale, c4.sack, true, c5, x1.opts.val⟩, []⟩ : Segm), true)
    else
    ((⟨x0.tuple.port, x0.tuple.my, c2, c3, 16, x0.window, c4, []⟩ : Segm), true)
  else
  ((⟨x0.tuple.port, x0.tuple.my, c2, c3, 16, x0.window, c4, []⟩ : Segm), true)
theorem i_ReplyTo_lk (x0 : Clie) (x1 : Segm) : evalFn te (orcOf (P := Try.prog) [i_SeqAdd_e, i_NoOptions_e]) lorc0 [] Try.f10 (pvs [.st .clie, .st .segm] (x0, x1, ())) =
  i_ReplyTo_N x0 x1 _ none (fun v => some [(true, [RC.c (.int .i64 v.1.from_), RC.c (.int .i64 v.1.to), RC.c (.int .i64 v.1.seq), RC.c (.int .i64 v.1.ack), RC.c (.int .i64 v.1.flags), RC.c (.int .i64 v.1.window), RC.c (.int .i64 v.1.opts.mss), RC.c (.int .i64 v.1.opts.scale), RC.c (.bool v.1.opts.sack), RC.c (.bool v.1.opts.stamp), RC.c (.int .i64 v.1.opts.val), RC.c (.int .i64 v.1.opts.echo), RC.c (.str v.1.body)]), (false, [RC.c (.bool v.2)])]) := by kernel_rfl
theorem i_ReplyTo_p (x0 : Clie) (x1 : Segm)   (γ : Type) (fail : γ) (k : Segm × Bool → γ) : i_ReplyTo_N x0 x1 γ fail k = k (i_ReplyTo x0 x1) := by
  unfold i_ReplyTo_N i_ReplyTo
  exact bifT (f := k) (fun b0 => rfl)
      (fun b0 => letT (f := k) (fun c1 hc1 => bifT (f := k) (fun b1 => rfl)
      (fun b1 => letT (f := k) (fun c2 hc2 => letT (f := k) (fun c3 hc3 => letT (f := k) (fun c4 hc4 => bifT (f := k) (fun b2 => bifT (f := k) (fun b3 => letT (f := k) (fun c5 hc5 => rfl))
      (fun b3 => rfl))
      (fun b2 => rfl)))))))
theorem i_ReplyTo_c (x0 : Clie) (x1 : Segm)  : Con Try.prog 10 (pvs [.st .clie, .st .segm] (x0, x1, ())) [rv (.st .segm) [] (i_ReplyTo x0 x1).1, rv (.sc .bool) [] (i_ReplyTo x0 x1).2] := by
  exact evalFn_con0 teFact mixFact (orcOf_ok _) Try.func10 (by kernel_rfl) ((i_ReplyTo_lk x0 x1).trans (i_ReplyTo_p x0 x1  _ _ _))
noncomputable def i_ReplyTo_e : Ent1 Try.prog := entA 10 [.st .clie, .st .segm] (fun x => (i_ReplyTo x.1 x.2.1)) (fun v => [rv (.st .segm) [] v.1, rv (.sc .bool) [] v.2]) (fun x => i_ReplyTo_c x.1 x.2.1)


/-- spec.SeqAdd -/
def s_SeqAdd_N (x0 : Int) (x1 : Int) (γ : Type) (fail : γ) (k : Int → γ) : γ :=
  letK (α := Int) (s_l4Rest x0) fun c1 =>
  letK (α := Int) (s_l4Rest x1) fun c2 =>
  letK (α := Int) (s_l4Rest (IntKind.wrap .i64 (c1 + c2))) fun c3 =>
  k c3
def s_SeqAdd (x0 : Int) (x1 : Int) : Int :=
  letK (α := Int) (s_l4Rest x0) fun c1 =>
  letK (α := Int) (s_l4Rest x1) fun c2 =>
  letK (α := Int) (s_l4Rest (IntKind.wrap .i64 (c1 + c2))) fun c3 =>
  c3
theorem s_SeqAdd_lk (x0 : Int) (x1 : Int) : evalFn te (orcOf (P := Try.prog) [s_l4Rest_e]) lorc0 [] Try.f16 (pvs [.sc (.int .i64), .sc (.int .i64)] (x0, x1, ())) =
  s_SeqAdd_N x0 x1 _ none (fun v => some [(false, [RC.c (.int .i64 v)])]) := by kernel_rfl
theorem s_SeqAdd_p (x0 : Int) (x1 : Int)   (γ : Type) (fail : γ) (k : Int → γ) : s_SeqAdd_N x0 x1 γ fail k = k (s_SeqAdd x0 x1) := by
  unfold s_SeqAdd_N s_SeqAdd
  exact letT (f := k) (fun c1 hc1 => letT (f := k) (fun c2 hc2 => letT (f := k) (fun c3 hc3 => rfl)))
theorem s_SeqAdd_c (x0 : Int) (x1 : Int)  : Con Try.prog 16 (pvs [.sc (.int .i64), .sc (.int .i64)] (x0, x1, ())) [rv (.sc (.int .i64)) [] (s_SeqAdd x0 x1)] := by
  exact evalFn_con0 teFact mixFact (orcOf_ok _) Try.func16 (by kernel_rfl) ((s_SeqAdd_lk x0 x1).trans (s_SeqAdd_p x0 x1  _ _ _))
noncomputable def s_SeqAdd_e : Ent1 Try.prog := entA 16 [.sc (.int .i64), .sc (.int .i64)] (fun x => (s_SeqAdd x.1 x.2.1)) (fun v => [rv (.sc (.int .i64)) [] v]) (fun x => s_SeqAdd_c x.1 x.2.1)


/-- impl.WordOk -/
def i_WordOk_N (x0 : Int) (x1 : Int) (γ : Type) (fail : γ) (k : Bool → γ) : γ :=
  letK (α := Bool) (i_within x1 1 62) fun c1 =>
  bif c1 then
    bif (decide (0 ≤ x1)) then
    letK (α := Int) (IntKind.wrap .i64 ((IntKind.wrap .i64 (1 * 2 ^ (min x1.toNat 64))) - 1)) fun e2 =>
    letK (α := Bool) (i_within x0 0 e2) fun c3 =>
    k c3
    else fail
  else
  k false
def i_WordOk (x0 : Int) (x1 : Int) : Bool :=
  letK (α := Bool) (i_within x1 1 62) fun c1 =>
  bif c1 then
    letK (α := Int) (IntKind.wrap .i64 ((IntKind.wrap .i64 (1 * 2 ^ (min x1.toNat 64))) - 1)) fun e2 =>
    letK (α := Bool) (i_within x0 0 e2) fun c3 =>
    c3
  else
  false
theorem i_WordOk_lk (x0 : Int) (x1 : Int) : evalFn te (orcOf (P := Try.prog) [i_within_e]) lorc0 [] Try.f50 (pvs [.sc (.int .i64), .sc (.int .i64)] (x0, x1, ())) =
  i_WordOk_N x0 x1 _ none (fun v => some [(false, [RC.c (.bool v)])]) := by kernel_rfl
theorem i_WordOk_p (x0 : Int) (x1 : Int) (hx0 : inK .i64 x0) (hx1 : inK .i64 x1)  (γ : Type) (fail : γ) (k : Bool → γ) : i_WordOk_N x0 x1 γ fail k = k (i_WordOk x0 x1) := by
  unfold i_WordOk_N i_WordOk
  exact letT (f := k) (fun c1 hc1 => bifT (f := k) (fun b0 => bifG (by (try simp only [Nat.ble_eq, Bool.and_eq_true, decide_eq_true_eq]); grind [maxSl, maxStr, toBytes_length, toInts_length, List.length_set, wrap64, i_within_eq]) (letT (f := k) (fun e2 he2 => letT (f := k) (fun c3 hc3 => rfl))))
      (fun b0 => rfl))
theorem i_WordOk_c (x0 : Int) (x1 : Int)  : Con Try.prog 50 (pvs [.sc (.int .i64), .sc (.int .i64)] (x0, x1, ())) [rv (.sc .bool) [] (i_WordOk x0 x1)] := by
  refine Con.of_facts (enters_of Try.func50 rfl (by kernel_rfl)) fun hf => ?_
  replace hf := factAt hf
  exact evalFn_con0 teFact mixFact (orcOf_ok _) Try.func50 (by kernel_rfl) ((i_WordOk_lk x0 x1).trans (i_WordOk_p x0 x1 ((hf 0 0 rfl rfl).rng) ((hf 1 0 rfl rfl).rng) _ _ _))
noncomputable def i_WordOk_e : Ent1 Try.prog := entA 50 [.sc (.int .i64), .sc (.int .i64)] (fun x => (i_WordOk x.1 x.2.1)) (fun v => [rv (.sc .bool) [] v]) (fun x => i_WordOk_c x.1 x.2.1)


/-- spec.WordOk -/
def s_WordOk_N (x0 : Int) (x1 : Int) (γ : Type) (fail : γ) (k : Bool → γ) : γ :=
  letK (α := Bool) (s_l1In x1 1 62) fun c1 =>
  bif c1 then
    bif (decide (0 ≤ (IntKind.wrap .u64 x1))) then
    letK (α := Int) (IntKind.wrap .i64 ((IntKind.wrap .i64 (1 * 2 ^ (min (IntKind.wrap .u64 x1).toNat 64))) - 1)) fun e2 =>
    letK (α := Bool) (s_l1In x0 0 e2) fun c3 =>
    k c3
    else fail
  else
  k false
def s_WordOk (x0 : Int) (x1 : Int) : Bool :=
  letK (α := Bool) (s_l1In x1 1 62) fun c1 =>
  bif c1 then
    letK (α := Int) (IntKind.wrap .i64 ((IntKind.wrap .i64 (1 * 2 ^ (min (IntKind.wrap .u64 x1).toNat 64))) - 1)) fun e2 =>
    letK (α := Bool) (s_l1In x0 0 e2) fun c3 =>
    c3
  else
  false
theorem s_WordOk_lk (x0 : Int) (x1 : Int) : evalFn te (orcOf (P := Try.prog) [s_l1In_e]) lorc0 [] Try.f53 (pvs [.sc (.int .i64), .sc (.int .i64)] (x0, x1, ())) =
  s_WordOk_N x0 x1 _ none (fun v => some [(false, [RC.c (.bool v)])]) := by kernel_rfl
theorem s_WordOk_p (x0 : Int) (x1 : Int) (hx0 : inK .i64 x0) (hx1 : inK .i64 x1)  (γ : Type) (fail : γ) (k : Bool → γ) : s_WordOk_N x0 x1 γ fail k = k (s_WordOk x0 x1) := by
  unfold s_WordOk_N s_WordOk
  exact letT (f := k) (fun c1 hc1 => bifT (f := k) (fun b0 => bifG (by simp only [decide_eq_true_eq]; exact wrapU_nonneg _) (letT (f := k) (fun e2 he2 => letT (f := k) (fun c3 hc3 => rfl))))
      (fun b0 => rfl))
theorem s_WordOk_c (x0 : Int) (x1 : Int)  : Con Try.prog 53 (pvs [.sc (.int .i64), .sc (.int .i64)] (x0, x1, ())) [rv (.sc .bool) [] (s_WordOk x0 x1)] := by
  refine Con.of_facts (enters_of Try.func53 rfl (by kernel_rfl)) fun hf => ?_
  replace hf := factAt hf
  exact evalFn_con0 teFact mixFact (orcOf_ok _) Try.func53 (by kernel_rfl) ((s_WordOk_lk x0 x1).trans (s_WordOk_p x0 x1 ((hf 0 0 rfl rfl).rng) ((hf 1 0 rfl rfl).rng) _ _ _))
noncomputable def s_WordOk_e : Ent1 Try.prog := entA 53 [.sc (.int .i64), .sc (.int .i64)] (fun x => (s_WordOk x.1 x.2.1)) (fun v => [rv (.sc .bool) [] v]) (fun x => s_WordOk_c x.1 x.2.1)


/-- impl.MssOf -/
def i_MssOf_N (x0 : Int) (γ : Type) (fail : γ) (k : Int → γ) : γ :=
  letK (α := Bool) (i_within x0 0 7) fun c1 =>
  bif (!c1) then
    k 0
  else
  bif ((decide (0 ≤ x0)) && (decide (x0 < 8))) then
  k ([64, 256, 536, 1024, 1300, 1400, 1440, 1460].getD x0.toNat 0)
  else fail
def i_MssOf (x0 : Int) : Int :=
  letK (α := Bool) (i_within x0 0 7) fun c1 =>
  bif (!c1) then
    0
  else
  ([64, 256, 536, 1024, 1300, 1400, 1440, 1460].getD x0.toNat 0)
theorem i_MssOf_lk (x0 : Int) : evalFn te (orcOf (P := Try.prog) [i_within_e]) lorc0 [] Try.f55 (pvs [.sc (.int .i64)] (x0, ())) =
  i_MssOf_N x0 _ none (fun v => some [(false, [RC.c (.int .i64 v)])]) := by kernel_rfl
theorem i_MssOf_p (x0 : Int) (hx0 : inK .i64 x0)  (γ : Type) (fail : γ) (k : Int → γ) : i_MssOf_N x0 γ fail k = k (i_MssOf x0) := by
  unfold i_MssOf_N i_MssOf
  exact letT (f := k) (fun c1 hc1 => bifT (f := k) (fun b0 => rfl)
      (fun b0 => bifG (by (try simp only [Nat.ble_eq, Bool.and_eq_true, decide_eq_true_eq]); grind [maxSl, maxStr, toBytes_length, toInts_length, List.length_set, wrap64, i_within_eq]) (rfl)))
theorem i_MssOf_c (x0 : Int)  : Con Try.prog 55 (pvs [.sc (.int .i64)] (x0, ())) [rv (.sc (.int .i64)) [] (i_MssOf x0)] := by
  refine Con.of_facts (enters_of Try.func55 rfl (by kernel_rfl)) fun hf => ?_
  replace hf := factAt hf
  exact evalFn_con0 teFact mixFact (orcOf_ok _) Try.func55 (by kernel_rfl) ((i_MssOf_lk x0).trans (i_MssOf_p x0 ((hf 0 0 rfl rfl).rng) _ _ _))
noncomputable def i_MssOf_e : Ent1 Try.prog := entA 55 [.sc (.int .i64)] (fun x => (i_MssOf x.1)) (fun v => [rv (.sc (.int .i64)) [] v]) (fun x => i_MssOf_c x.1)


/-- impl.MssIndex -/
def i_MssIndex_ann : List (Nat × Keep) := [(0, ⟨[0, 3], [], false, 0⟩)]
def i_MssIndex_L0_sh : Sh := ⟨[(0, false, [.int .i64]), (3, false, [.int .i64])], []⟩
def i_MssIndex_L0_es : List (Ex × Sh) := [(.ret, ⟨[(2, false, [.int .i64])], []⟩), (.exit 0, ⟨[(2, false, [.undef])], []⟩)]
def i_MssIndex_L0_mk (v0 : Int) (v1 : Int) : i_MssIndex_L0_sh.T := (((v0, ()), ((v1, ()), ())), ())
def i_MssIndex_L0_mx0 (y0 : Int) : Sh.T ⟨[(2, false, [.int .i64])], []⟩ := (((y0, ()), ()), ())
def i_MssIndex_L0_mx1  : Sh.T ⟨[(2, false, [.undef])], []⟩ := ((((), ()), ()), ())
def i_MssIndex_L0_B (v0 : Int) (v1 : Int) (γ : Type) (fail : γ) (next : i_MssIndex_L0_sh.T → γ) (out : WT i_MssIndex_L0_es → γ) : γ :=
  bif (decide (0 < v1)) then
    letK (α := Int) (i_MssOf v1) fun c1 =>
    bif (decide (c1 ≤ v0)) then
      out (Sum.inl (i_MssIndex_L0_mx0 v1))
    else
    next (i_MssIndex_L0_mk v0 (IntKind.wrap .i64 (v1 - 1)))
  else
  out (Sum.inr (i_MssIndex_L0_mx1 ))
theorem i_MssIndex_L0_par (v0 : Int) (v1 : Int) (γ : Type) (fail : γ) (next : i_MssIndex_L0_sh.T → γ) (out : WT i_MssIndex_L0_es → γ) : i_MssIndex_L0_B v0 v1 γ fail next out = optK (i_MssIndex_L0_B v0 v1 _ none (fun v' => some (.inl v')) (fun w => some (.inr w))) fail (fun r => Sum.elim next out r) := by
  unfold i_MssIndex_L0_B
  exact bifT (f := (fun o => optK o fail (fun r => Sum.elim next out r))) (fun _ => letT (f := (fun o => optK o fail (fun r => Sum.elim next out r))) (fun c1 _ => bifT (f := (fun o => optK o fail (fun r => Sum.elim next out r))) (fun _ => rfl)
      (fun _ => rfl)))
      (fun _ => rfl)
def i_MssIndex_L0_r : Round i_MssIndex_L0_sh.T (WT i_MssIndex_L0_es) where
  B v γ fail next out := i_MssIndex_L0_B v.1.1.1 v.1.2.1.1 γ fail next out
  par v γ fail next out := i_MssIndex_L0_par v.1.1.1 v.1.2.1.1 γ fail next out
def i_MssIndex_L0_fu (v0 : Int) (v1 : Int) : Nat := (Int.toNat (v1 - 0)) + 1
theorem i_MssIndex_L0_lk (v : i_MssIndex_L0_sh.T) (next : St → Option Res) (k : Ex → St → Option Res) : evalK te (orcOf (P := Try.prog) [i_MssOf_e]) (lorcOf []) Try.f56.ntmps i_MssIndex_ann (nthLoop (bodyOf Try.f56) 0 0) 0 (i_MssIndex_L0_sh.enc v) (endK ⟨[0, 3], [], false, 0⟩ ⟨[2], [], false, 0⟩ next k) =
  i_MssIndex_L0_r.B v _ none (fun v' => next (i_MssIndex_L0_sh.enc v')) (fun w => outK i_MssIndex_L0_es k w) := by kernel_rfl
def i_MssIndex_L0_le : LE := leOf 0 i_MssIndex_L0_sh i_MssIndex_L0_es i_MssIndex_L0_r.step (fun v => i_MssIndex_L0_fu v.1.1.1 v.1.2.1.1)
theorem i_MssIndex_L0_ls (w0 : World) (mo : Mts) (I0 : Nat → Prop) (hmo : mo.length = 0) : LSem Try.prog (Sim w0 mo Try.f56.ntmps I0) (fun b s k => match Nat.beq 0 b with | true => i_MssIndex_L0_le.run s k | false => none) 0 (nthLoop (bodyOf Try.f56) 0 0) :=
  le_sem hmo (lorc := lorcOf []) (ann := i_MssIndex_ann) (keep := ⟨[0, 3], [], false, 0⟩) (kout := ⟨[2], [], false, 0⟩) teFact mixFact (orcOf_ok _) (by kernel_rfl) (allLoops_of (bs := []) (by kernel_rfl) trivial) i_MssIndex_L0_r _ i_MssIndex_L0_lk
def i_MssIndex_L0_f (v0 : Int) (v1 : Int) (a : Unit) : Stp (Unit) ((Int)) :=
  letK (α := Int) (i_MssOf v1) fun c1 =>
  bif (decide (c1 ≤ v0)) then
    .out (v1)
  else
  .next ()
theorem i_MssIndex_L0_st (v0 : Int) (v1 : Int) (hlo : 0 < v1) (hhi : v1 ≤ 9223372036854775807) (hN : 0 ≤ 0) : i_MssIndex_L0_r.step (i_MssIndex_L0_mk v0 v1) = Stp.elim (fun a' : Unit => some (Sum.inl (i_MssIndex_L0_mk v0 (v1 + (-1))))) (fun w => some (Sum.inr ((fun p : Int => Sum.inl (i_MssIndex_L0_mx0 p)) w))) (i_MssIndex_L0_f v0 v1 ()) := by
  have hw : (IntKind.wrap .i64 (v1 - 1)) = v1 + (-1) := wrap64 (by omega) (by omega)
  show i_MssIndex_L0_B v0 v1 (Option (i_MssIndex_L0_sh.T ⊕ WT i_MssIndex_L0_es)) none (fun v' => some (Sum.inl v')) (fun w => some (Sum.inr w)) = _
  unfold i_MssIndex_L0_B i_MssIndex_L0_f
  exact bifG (by simp only [decide_eq_true_eq]; omega) (letT (f := (Stp.elim (fun a' : Unit => some (Sum.inl (i_MssIndex_L0_mk v0 (v1 + (-1))))) (fun w => some (Sum.inr ((fun p : Int => Sum.inl (i_MssIndex_L0_mx0 p)) w))))) (fun c1 hc1 => bifT (f := (Stp.elim (fun a' : Unit => some (Sum.inl (i_MssIndex_L0_mk v0 (v1 + (-1))))) (fun w => some (Sum.inr ((fun p : Int => Sum.inl (i_MssIndex_L0_mx0 p)) w))))) (fun b0 => rfl)
      (fun b0 => (by exact congrArg (fun z => some (Sum.inl (i_MssIndex_L0_mk v0 z))) hw))))
theorem i_MssIndex_L0_cl (v0 : Int) (v1 : Int) (h0 : v1 ≤ 9223372036854775807) (h1 : 0 ≤ 0) : loopF i_MssIndex_L0_r.step (i_MssIndex_L0_fu v0 v1) (i_MssIndex_L0_mk v0 v1) = some (Stp.elim (fun a => (fun i a => Sum.inr (i_MssIndex_L0_mx1 )) (v1 + (-1) * (((Int.toNat (v1 - 0)) : Nat) : Int)) a) (fun p : Int => Sum.inl (i_MssIndex_L0_mx0 p)) (forN (i_MssIndex_L0_f v0) (-1) (Int.toNat (v1 - 0)) v1 ())) :=
  forN_loop (step := i_MssIndex_L0_r.step) (mk := fun v1 a => i_MssIndex_L0_mk v0 v1) (f := i_MssIndex_L0_f v0) (e := (fun i a => Sum.inr (i_MssIndex_L0_mx1 ))) (emb := (fun p : Int => Sum.inl (i_MssIndex_L0_mx0 p))) (st := (-1)) (Inv := fun v1 a => True) (Int.toNat (v1 - 0)) v1 () _ (Nat.lt_succ_self _) trivial
    (fun j a hj hv => ⟨i_MssIndex_L0_st v0 (v1 + (-1) * (j : Int)) (by omega) (by omega) (by omega), fun _ _ => trivial⟩)
    (fun a hv => by
      show i_MssIndex_L0_B v0 (v1 + (-1) * (((Int.toNat (v1 - 0)) : Nat) : Int)) (Option (i_MssIndex_L0_sh.T ⊕ WT i_MssIndex_L0_es)) none (fun v' => some (Sum.inl v')) (fun w => some (Sum.inr w)) = _
      unfold i_MssIndex_L0_B
      exact bifN (by simp only [decide_eq_false_iff_not]; omega) rfl)
def i_MssIndex_N (x0 : Int) (γ : Type) (fail : γ) (k : Int → γ) : γ :=
  optK (loopF i_MssIndex_L0_r.step (i_MssIndex_L0_fu x0 7) (i_MssIndex_L0_mk x0 7)) fail fun w2 =>
    Sum.elim (fun w2 =>
      k w2.1.1.1)
    (fun w2 =>
      k 0) w2
def i_MssIndex (x0 : Int) : Int :=
  Stp.elim (fun a3 =>
    0)
    (fun p3 =>
      p3)
    (forN (i_MssIndex_L0_f x0) (-1) (Int.toNat (7 - 0)) 7 ())
theorem i_MssIndex_lk (x0 : Int) : evalFn te (orcOf (P := Try.prog) [i_MssOf_e]) (lorcOf [i_MssIndex_L0_le]) i_MssIndex_ann Try.f56 (pvs [.sc (.int .i64)] (x0, ())) =
  i_MssIndex_N x0 _ none (fun v => some [(false, [RC.c (.int .i64 v)])]) := by kernel_rfl
theorem i_MssIndex_p (x0 : Int) (hx0 : inK .i64 x0)  (γ : Type) (fail : γ) (k : Int → γ) : i_MssIndex_N x0 γ fail k = k (i_MssIndex x0) := by
  unfold i_MssIndex_N i_MssIndex
  exact loopT (f := k) (i_MssIndex_L0_cl x0 7 (by (try simp only [Nat.ble_eq, Bool.and_eq_true, decide_eq_true_eq, i_MssIndex_L0_mx0, i_MssIndex_L0_mx1]); grind [maxSl, maxStr, toBytes_length, toInts_length, List.length_set, wrap64]) (by (try simp only [Nat.ble_eq, Bool.and_eq_true, decide_eq_true_eq, i_MssIndex_L0_mx0, i_MssIndex_L0_mx1]); grind [maxSl, maxStr, toBytes_length, toInts_length, List.length_set, wrap64])) (fun a3 => rfl)
      (fun p3 => rfl)
theorem i_MssIndex_c (x0 : Int)  : Con Try.prog 56 (pvs [.sc (.int .i64)] (x0, ())) [rv (.sc (.int .i64)) [] (i_MssIndex x0)] := by
  refine Con.of_facts (enters_of Try.func56 rfl (by kernel_rfl)) fun hf => ?_
  replace hf := factAt hf
  exact evalFn_conL teFact mixFact (orcOf_ok _) Try.func56 (by kernel_rfl) (bs := [0]) (by kernel_rfl) (by kernel_rfl) (fun w0 mo I0 hmo => ⟨lsem_of_lorc (i_MssIndex_L0_ls w0 mo I0 hmo) (by kernel_rfl), trivial⟩) ((i_MssIndex_lk x0).trans (i_MssIndex_p x0 ((hf 0 0 rfl rfl).rng) _ _ _))
noncomputable def i_MssIndex_e : Ent1 Try.prog := entA 56 [.sc (.int .i64)] (fun x => (i_MssIndex x.1)) (fun v => [rv (.sc (.int .i64)) [] v]) (fun x => i_MssIndex_c x.1)


/-- spec.MssOf -/
def s_MssOf_N (x0 : Int) (γ : Type) (fail : γ) (k : Int → γ) : γ :=
  letK (α := Bool) (s_l1In x0 0 7) fun c1 =>
  bif (!c1) then
    k 0
  else
  bif ((decide (0 ≤ x0)) && (decide (x0 < 8))) then
  k ([64, 256, 536, 1024, 1300, 1400, 1440, 1460].getD x0.toNat 0)
  else fail
def s_MssOf (x0 : Int) : Int :=
  letK (α := Bool) (s_l1In x0 0 7) fun c1 =>
  bif (!c1) then
    0
  else
  ([64, 256, 536, 1024, 1300, 1400, 1440, 1460].getD x0.toNat 0)
theorem s_MssOf_lk (x0 : Int) : evalFn te (orcOf (P := Try.prog) [s_l1In_e]) lorc0 [] Try.f58 (pvs [.sc (.int .i64)] (x0, ())) =
  s_MssOf_N x0 _ none (fun v => some [(false, [RC.c (.int .i64 v)])]) := by kernel_rfl
theorem s_MssOf_p (x0 : Int) (hx0 : inK .i64 x0)  (γ : Type) (fail : γ) (k : Int → γ) : s_MssOf_N x0 γ fail k = k (s_MssOf x0) := by
  unfold s_MssOf_N s_MssOf
  exact letT (f := k) (fun c1 hc1 => bifT (f := k) (fun b0 => rfl)
      (fun b0 => bifG (by (try simp only [Nat.ble_eq, Bool.and_eq_true, decide_eq_true_eq]); grind [maxSl, maxStr, toBytes_length, toInts_length, List.length_set, wrap64, s_l1In_eq]) (rfl)))
theorem s_MssOf_c (x0 : Int)  : Con Try.prog 58 (pvs [.sc (.int .i64)] (x0, ())) [rv (.sc (.int .i64)) [] (s_MssOf x0)] := by
  refine Con.of_facts (enters_of Try.func58 rfl (by kernel_rfl)) fun hf => ?_
  replace hf := factAt hf
  exact evalFn_con0 teFact mixFact (orcOf_ok _) Try.func58 (by kernel_rfl) ((s_MssOf_lk x0).trans (s_MssOf_p x0 ((hf 0 0 rfl rfl).rng) _ _ _))
noncomputable def s_MssOf_e : Ent1 Try.prog := entA 58 [.sc (.int .i64)] (fun x => (s_MssOf x.1)) (fun v => [rv (.sc (.int .i64)) [] v]) (fun x => s_MssOf_c x.1)


/-- spec.MssIndex -/
def s_MssIndex_ann : List (Nat × Keep) := [(0, ⟨[0, 3, 4], [], false, 0⟩)]
def s_MssIndex_L0_sh : Sh := ⟨[(0, false, [.int .i64]), (3, false, [.int .i64]), (4, false, [.int .i64])], []⟩
def s_MssIndex_L0_es : List (Ex × Sh) := [(.exit 0, ⟨[(2, false, [.undef]), (3, false, [.int .i64])], []⟩)]
def s_MssIndex_L0_mk (v0 : Int) (v1 : Int) (v2 : Int) : s_MssIndex_L0_sh.T := (((v0, ()), ((v1, ()), ((v2, ()), ()))), ())
def s_MssIndex_L0_mx0 (y0 : Int) : Sh.T ⟨[(2, false, [.undef]), (3, false, [.int .i64])], []⟩ := ((((), ()), ((y0, ()), ())), ())
def s_MssIndex_L0_B (v0 : Int) (v1 : Int) (v2 : Int) (γ : Type) (fail : γ) (next : s_MssIndex_L0_sh.T → γ) (out : WT s_MssIndex_L0_es → γ) : γ :=
  bif (decide (v2 < 8)) then
    letK (α := Int) (s_MssOf v2) fun c1 =>
    bif (decide (c1 ≤ v0)) then
      next (s_MssIndex_L0_mk v0 v2 (IntKind.wrap .i64 (v2 + 1)))
    else
    next (s_MssIndex_L0_mk v0 v1 (IntKind.wrap .i64 (v2 + 1)))
  else
  out (s_MssIndex_L0_mx0 v1)
theorem s_MssIndex_L0_par (v0 : Int) (v1 : Int) (v2 : Int) (γ : Type) (fail : γ) (next : s_MssIndex_L0_sh.T → γ) (out : WT s_MssIndex_L0_es → γ) : s_MssIndex_L0_B v0 v1 v2 γ fail next out = optK (s_MssIndex_L0_B v0 v1 v2 _ none (fun v' => some (.inl v')) (fun w => some (.inr w))) fail (fun r => Sum.elim next out r) := by
  unfold s_MssIndex_L0_B
  exact bifT (f := (fun o => optK o fail (fun r => Sum.elim next out r))) (fun _ => letT (f := (fun o => optK o fail (fun r => Sum.elim next out r))) (fun c1 _ => bifT (f := (fun o => optK o fail (fun r => Sum.elim next out r))) (fun _ => rfl)
      (fun _ => rfl)))
      (fun _ => rfl)
def s_MssIndex_L0_r : Round s_MssIndex_L0_sh.T (WT s_MssIndex_L0_es) where
  B v γ fail next out := s_MssIndex_L0_B v.1.1.1 v.1.2.1.1 v.1.2.2.1.1 γ fail next out
  par v γ fail next out := s_MssIndex_L0_par v.1.1.1 v.1.2.1.1 v.1.2.2.1.1 γ fail next out
def s_MssIndex_L0_fu (v0 : Int) (v1 : Int) (v2 : Int) : Nat := (Int.toNat (8 - v2)) + 1
theorem s_MssIndex_L0_lk (v : s_MssIndex_L0_sh.T) (next : St → Option Res) (k : Ex → St → Option Res) : evalK te (orcOf (P := Try.prog) [s_MssOf_e]) (lorcOf []) Try.f59.ntmps s_MssIndex_ann (nthLoop (bodyOf Try.f59) 0 0) 0 (s_MssIndex_L0_sh.enc v) (endK ⟨[0, 3, 4], [], false, 0⟩ ⟨[2, 3], [], false, 0⟩ next k) =
  s_MssIndex_L0_r.B v _ none (fun v' => next (s_MssIndex_L0_sh.enc v')) (fun w => outK s_MssIndex_L0_es k w) := by kernel_rfl
def s_MssIndex_L0_le : LE := leOf 0 s_MssIndex_L0_sh s_MssIndex_L0_es s_MssIndex_L0_r.step (fun v => s_MssIndex_L0_fu v.1.1.1 v.1.2.1.1 v.1.2.2.1.1)
theorem s_MssIndex_L0_ls (w0 : World) (mo : Mts) (I0 : Nat → Prop) (hmo : mo.length = 0) : LSem Try.prog (Sim w0 mo Try.f59.ntmps I0) (fun b s k => match Nat.beq 0 b with | true => s_MssIndex_L0_le.run s k | false => none) 0 (nthLoop (bodyOf Try.f59) 0 0) :=
  le_sem hmo (lorc := lorcOf []) (ann := s_MssIndex_ann) (keep := ⟨[0, 3, 4], [], false, 0⟩) (kout := ⟨[2, 3], [], false, 0⟩) teFact mixFact (orcOf_ok _) (by kernel_rfl) (allLoops_of (bs := []) (by kernel_rfl) trivial) s_MssIndex_L0_r _ s_MssIndex_L0_lk
def s_MssIndex_L0_f (v0 : Int) (v2 : Int) (a : Int) : Stp (Int) (Empty) :=
  letK (α := Int) (s_MssOf v2) fun c1 =>
  bif (decide (c1 ≤ v0)) then
    .next v2
  else
  .next a
theorem s_MssIndex_L0_st (v0 : Int) (v1 : Int) (v2 : Int) (hlo : 0 ≤ v2) (hhi : v2 < 8) (hN : 8 ≤ 4611686018427387904) : s_MssIndex_L0_r.step (s_MssIndex_L0_mk v0 v1 v2) = Stp.elim (fun a' : Int => some (Sum.inl (s_MssIndex_L0_mk v0 a' (v2 + 1)))) (fun w => some (Sum.inr ((fun p : Empty => nomatch p) w))) (s_MssIndex_L0_f v0 v2 v1) := by
  have hw : (IntKind.wrap .i64 (v2 + 1)) = v2 + 1 := wrap64 (by omega) (by omega)
  show s_MssIndex_L0_B v0 v1 v2 (Option (s_MssIndex_L0_sh.T ⊕ WT s_MssIndex_L0_es)) none (fun v' => some (Sum.inl v')) (fun w => some (Sum.inr w)) = _
  unfold s_MssIndex_L0_B s_MssIndex_L0_f
  exact bifG (by simp only [decide_eq_true_eq]; omega) (letT (f := (Stp.elim (fun a' : Int => some (Sum.inl (s_MssIndex_L0_mk v0 a' (v2 + 1)))) (fun w => some (Sum.inr ((fun p : Empty => nomatch p) w))))) (fun c1 hc1 => bifT (f := (Stp.elim (fun a' : Int => some (Sum.inl (s_MssIndex_L0_mk v0 a' (v2 + 1)))) (fun w => some (Sum.inr ((fun p : Empty => nomatch p) w))))) (fun b0 => (by exact congrArg (fun z => some (Sum.inl (s_MssIndex_L0_mk v0 v2 z))) hw))
      (fun b0 => (by exact congrArg (fun z => some (Sum.inl (s_MssIndex_L0_mk v0 v1 z))) hw))))
theorem s_MssIndex_L0_cl (v0 : Int) (v1 : Int) (v2 : Int) (h0 : 0 ≤ v2) (h1 : 8 ≤ 4611686018427387904) : loopF s_MssIndex_L0_r.step (s_MssIndex_L0_fu v0 v1 v2) (s_MssIndex_L0_mk v0 v1 v2) = some (Stp.elim (fun a => (fun i a => s_MssIndex_L0_mx0 a) (v2 + 1 * (((Int.toNat (8 - v2)) : Nat) : Int)) a) (fun p : Empty => nomatch p) (forN (s_MssIndex_L0_f v0) 1 (Int.toNat (8 - v2)) v2 v1)) :=
  forN_loop (step := s_MssIndex_L0_r.step) (mk := fun v2 a => s_MssIndex_L0_mk v0 a v2) (f := s_MssIndex_L0_f v0) (e := (fun i a => s_MssIndex_L0_mx0 a)) (emb := (fun p : Empty => nomatch p)) (st := 1) (Inv := fun v2 a => True) (Int.toNat (8 - v2)) v2 v1 _ (Nat.lt_succ_self _) trivial
    (fun j a hj hv => ⟨s_MssIndex_L0_st v0 a (v2 + 1 * (j : Int)) (by omega) (by omega) (by omega), fun _ _ => trivial⟩)
    (fun a hv => by
      show s_MssIndex_L0_B v0 a (v2 + 1 * (((Int.toNat (8 - v2)) : Nat) : Int)) (Option (s_MssIndex_L0_sh.T ⊕ WT s_MssIndex_L0_es)) none (fun v' => some (Sum.inl v')) (fun w => some (Sum.inr w)) = _
      unfold s_MssIndex_L0_B
      exact bifN (by simp only [decide_eq_false_iff_not]; omega) rfl)
def s_MssIndex_N (x0 : Int) (γ : Type) (fail : γ) (k : Int → γ) : γ :=
  optK (loopF s_MssIndex_L0_r.step (s_MssIndex_L0_fu x0 0 0) (s_MssIndex_L0_mk x0 0 0)) fail fun w2 =>
    k w2.1.2.1.1
def s_MssIndex (x0 : Int) : Int :=
  Stp.elim (fun a3 =>
    a3)
    (fun p : Empty => nomatch p)
    (forN (s_MssIndex_L0_f x0) 1 (Int.toNat (8 - 0)) 0 0)
theorem s_MssIndex_lk (x0 : Int) : evalFn te (orcOf (P := Try.prog) [s_MssOf_e]) (lorcOf [s_MssIndex_L0_le]) s_MssIndex_ann Try.f59 (pvs [.sc (.int .i64)] (x0, ())) =
  s_MssIndex_N x0 _ none (fun v => some [(false, [RC.c (.int .i64 v)])]) := by kernel_rfl
theorem s_MssIndex_p (x0 : Int) (hx0 : inK .i64 x0)  (γ : Type) (fail : γ) (k : Int → γ) : s_MssIndex_N x0 γ fail k = k (s_MssIndex x0) := by
  unfold s_MssIndex_N s_MssIndex
  exact loopT (f := k) (s_MssIndex_L0_cl x0 0 0 (by (try simp only [Nat.ble_eq, Bool.and_eq_true, decide_eq_true_eq, s_MssIndex_L0_mx0]); grind [maxSl, maxStr, toBytes_length, toInts_length, List.length_set, wrap64]) (by (try simp only [Nat.ble_eq, Bool.and_eq_true, decide_eq_true_eq, s_MssIndex_L0_mx0]); grind [maxSl, maxStr, toBytes_length, toInts_length, List.length_set, wrap64])) (fun a3 => rfl)
      (fun p : Empty => nomatch p)
theorem s_MssIndex_c (x0 : Int)  : Con Try.prog 59 (pvs [.sc (.int .i64)] (x0, ())) [rv (.sc (.int .i64)) [] (s_MssIndex x0)] := by
  refine Con.of_facts (enters_of Try.func59 rfl (by kernel_rfl)) fun hf => ?_
  replace hf := factAt hf
  exact evalFn_conL teFact mixFact (orcOf_ok _) Try.func59 (by kernel_rfl) (bs := [0]) (by kernel_rfl) (by kernel_rfl) (fun w0 mo I0 hmo => ⟨lsem_of_lorc (s_MssIndex_L0_ls w0 mo I0 hmo) (by kernel_rfl), trivial⟩) ((s_MssIndex_lk x0).trans (s_MssIndex_p x0 ((hf 0 0 rfl rfl).rng) _ _ _))
noncomputable def s_MssIndex_e : Ent1 Try.prog := entA 59 [.sc (.int .i64)] (fun x => (s_MssIndex x.1)) (fun v => [rv (.sc (.int .i64)) [] v]) (fun x => s_MssIndex_c x.1)


/-- spec.AnswerOptions -/
def s_AnswerOptions_N (x0 : Opti) (x1 : Int) (γ : Type) (fail : γ) (k : Opti → γ) : γ :=
  bif (!x0.stamp) then
    k (⟨1460, (-1), false, false, 0, 0⟩ : Opti)
  else
  letK (α := Bool) (s_l1In x0.scale 0 14) fun c1 =>
  bif c1 then
    letK (α := Int) (s_StampOf x1 x0.scale x0.sack) fun c2 =>
    k (⟨1460, 0, x0.sack, true, c2, x0.val⟩ : Opti)
  else
  letK (α := Int) (s_StampOf x1 x0.scale x0.sack) fun c3 =>
  k (⟨1460, (-1), x0.sack, true, c3, x0.val⟩ : Opti)
def s_AnswerOptions (x0 : Opti) (x1 : Int) : Opti :=
  bif (!x0.stamp) then
    (⟨1460, (-1), false, false, 0, 0⟩ : Opti)
  else
  letK (α := Bool) (s_l1In x0.scale 0 14) fun c1 =>
  bif c1 then
    letK (α := Int) (s_StampOf x1 x0.scale x0.sack) fun c2 =>
    (⟨1460, 0, x0.sack, true, c2, x0.val⟩ : Opti)
  else
  letK (α := Int) (s_StampOf x1 x0.scale x0.sack) fun c3 =>
  (⟨1460, (-1), x0.sack, true, c3, x0.val⟩ : Opti)
theorem s_AnswerOptions_lk (x0 : Opti) (x1 : Int) : evalFn te (orcOf (P := Try.prog) [s_l1In_e, s_StampOf_e]) lorc0 [] Try.f88 (pvs [.st .opti, .sc (.int .i64)] (x0, x1, ())) =
  s_AnswerOptions_N x0 x1 _ none (fun v => some [(true, [RC.c (.int .i64 v.mss), RC.c (.int .i64 v.scale), RC.c (.bool v.sack), RC.c (.bool v.stamp), RC.c (.int .i64 v.val), RC.c (.int .i64 v.echo)])]) := by kernel_rfl
theorem s_AnswerOptions_p (x0 : Opti) (x1 : Int)   (γ : Type) (fail : γ) (k : Opti → γ) : s_AnswerOptions_N x0 x1 γ fail k = k (s_AnswerOptions x0 x1) := by
  unfold s_AnswerOptions_N s_AnswerOptions
  exact bifT (f := k) (fun b0 => rfl)
      (fun b0 => letT (f := k) (fun c1 hc1 => bifT (f := k) (fun b1 => letT (f := k) (fun c2 hc2 => rfl))
      (fun b1 => letT (f := k) (fun c3 hc3 => rfl))))
theorem s_AnswerOptions_c (x0 : Opti) (x1 : Int)  : Con Try.prog 88 (pvs [.st .opti, .sc (.int .i64)] (x0, x1, ())) [rv (.st .opti) [] (s_AnswerOptions x0 x1)] := by
  exact evalFn_con0 teFact mixFact (orcOf_ok _) Try.func88 (by kernel_rfl) ((s_AnswerOptions_lk x0 x1).trans (s_AnswerOptions_p x0 x1  _ _ _))
noncomputable def s_AnswerOptions_e : Ent1 Try.prog := entA 88 [.st .opti, .sc (.int .i64)] (fun x => (s_AnswerOptions x.1 x.2.1)) (fun v => [rv (.st .opti) [] v]) (fun x => s_AnswerOptions_c x.1 x.2.1)


/-- spec.PutWord -/
def s_PutWord_ann : List (Nat × Keep) := [(0, ⟨[0, 5, 6], [], false, 0⟩)]
def s_PutWord_L0_sh : Sh := ⟨[(0, false, [.int .i64]), (5, false, [.own 0]), (6, false, [.int .i64])], [.arr .u8 false true]⟩
def s_PutWord_L0_es : List (Ex × Sh) := [(.exit 0, ⟨[(4, false, [.undef]), (5, false, [.own 0])], [.arr .u8 false true]⟩)]
def s_PutWord_L0_mk (v0 : Int) (v1 : Int) (v2 : List Int) : s_PutWord_L0_sh.T := (((v0, ()), (((), ()), ((v1, ()), ()))), (v2, ()))
def s_PutWord_L0_mx0 (y0 : List Int) : Sh.T ⟨[(4, false, [.undef]), (5, false, [.own 0])], [.arr .u8 false true]⟩ := ((((), ()), (((), ()), ())), (y0, ()))
def s_PutWord_L0_B (v0 : Int) (v1 : Int) (v2 : List Int) (γ : Type) (fail : γ) (next : s_PutWord_L0_sh.T → γ) (out : WT s_PutWord_L0_es → γ) : γ :=
  bif (decide (0 ≤ v1)) then
    bif ((decide (0 ≤ v1)) && (decide (v1 < (v2.length : Int)))) then
    next (s_PutWord_L0_mk (IntKind.wrap .i64 (v0.tdiv 256)) (IntKind.wrap .i64 (v1 - 1)) (v2.set v1.toNat (IntKind.wrap .u8 (v0.tmod 256))))
    else fail
  else
  out (s_PutWord_L0_mx0 v2)
theorem s_PutWord_L0_par (v0 : Int) (v1 : Int) (v2 : List Int) (γ : Type) (fail : γ) (next : s_PutWord_L0_sh.T → γ) (out : WT s_PutWord_L0_es → γ) : s_PutWord_L0_B v0 v1 v2 γ fail next out = optK (s_PutWord_L0_B v0 v1 v2 _ none (fun v' => some (.inl v')) (fun w => some (.inr w))) fail (fun r => Sum.elim next out r) := by
  unfold s_PutWord_L0_B
  exact bifT (f := (fun o => optK o fail (fun r => Sum.elim next out r))) (fun _ => bifT (f := (fun o => optK o fail (fun r => Sum.elim next out r))) (fun _ => rfl) (fun _ => rfl))
      (fun _ => rfl)
def s_PutWord_L0_r : Round s_PutWord_L0_sh.T (WT s_PutWord_L0_es) where
  B v γ fail next out := s_PutWord_L0_B v.1.1.1 v.1.2.2.1.1 v.2.1 γ fail next out
  par v γ fail next out := s_PutWord_L0_par v.1.1.1 v.1.2.2.1.1 v.2.1 γ fail next out
def s_PutWord_L0_fu (v0 : Int) (v1 : Int) (v2 : List Int) : Nat := (Int.toNat (v1 - 0 + 1)) + 1
theorem s_PutWord_L0_lk (v : s_PutWord_L0_sh.T) (next : St → Option Res) (k : Ex → St → Option Res) : evalK te (orcOf (P := Try.prog) [s_l1In_e, s_WordOk_e]) (lorcOf []) Try.f147.ntmps s_PutWord_ann (nthLoop (bodyOf Try.f147) 0 0) 0 (s_PutWord_L0_sh.enc v) (endK ⟨[0, 5, 6], [], false, 0⟩ ⟨[4, 5], [], false, 0⟩ next k) =
  s_PutWord_L0_r.B v _ none (fun v' => next (s_PutWord_L0_sh.enc v')) (fun w => outK s_PutWord_L0_es k w) := by kernel_rfl
def s_PutWord_L0_le : LE := leOf 0 s_PutWord_L0_sh s_PutWord_L0_es s_PutWord_L0_r.step (fun v => s_PutWord_L0_fu v.1.1.1 v.1.2.2.1.1 v.2.1)
theorem s_PutWord_L0_ls (w0 : World) (mo : Mts) (I0 : Nat → Prop) (hmo : mo.length = 0) : LSem Try.prog (Sim w0 mo Try.f147.ntmps I0) (fun b s k => match Nat.beq 0 b with | true => s_PutWord_L0_le.run s k | false => none) 0 (nthLoop (bodyOf Try.f147) 0 0) :=
  le_sem hmo (lorc := lorcOf []) (ann := s_PutWord_ann) (keep := ⟨[0, 5, 6], [], false, 0⟩) (kout := ⟨[4, 5], [], false, 0⟩) teFact mixFact (orcOf_ok _) (by kernel_rfl) (allLoops_of (bs := []) (by kernel_rfl) trivial) s_PutWord_L0_r _ s_PutWord_L0_lk
def s_PutWord_L0_f  (v1 : Int) (a : Int × List Int) : Stp (Int × List Int) (Empty) :=
  .next ((IntKind.wrap .i64 (a.1.tdiv 256)), (a.2.set v1.toNat (IntKind.wrap .u8 (a.1.tmod 256))))
theorem s_PutWord_L0_st (v0 : Int) (v1 : Int) (v2 : List Int) (hlo : 0 ≤ v1) (hhi : v1 ≤ 9223372036854775807) (hN : 0 ≤ 0) (hinv : v1 < (v2.length : Int)) : s_PutWord_L0_r.step (s_PutWord_L0_mk v0 v1 v2) = Stp.elim (fun a' : Int × List Int => some (Sum.inl (s_PutWord_L0_mk a'.1 (v1 + (-1)) a'.2))) (fun w => some (Sum.inr ((fun p : Empty => nomatch p) w))) (s_PutWord_L0_f  v1 (v0, v2)) := by
  have hw : (IntKind.wrap .i64 (v1 - 1)) = v1 + (-1) := wrap64 (by omega) (by omega)
  show s_PutWord_L0_B v0 v1 v2 (Option (s_PutWord_L0_sh.T ⊕ WT s_PutWord_L0_es)) none (fun v' => some (Sum.inl v')) (fun w => some (Sum.inr w)) = _
  unfold s_PutWord_L0_B s_PutWord_L0_f
  exact bifG (by simp only [decide_eq_true_eq]; omega) (bifG (by (try simp only [Nat.ble_eq, Bool.and_eq_true, decide_eq_true_eq]); grind [maxSl, maxStr, toBytes_length, toInts_length, List.length_set, wrap64]) ((by exact congrArg (fun z => some (Sum.inl (s_PutWord_L0_mk (IntKind.wrap .i64 (v0.tdiv 256)) z (v2.set v1.toNat (IntKind.wrap .u8 (v0.tmod 256)))))) hw)))
theorem s_PutWord_L0_cl (v0 : Int) (v1 : Int) (v2 : List Int) (h0 : v1 ≤ 9223372036854775807) (h1 : 0 ≤ 0) (h2 : v1 < (v2.length : Int)) : loopF s_PutWord_L0_r.step (s_PutWord_L0_fu v0 v1 v2) (s_PutWord_L0_mk v0 v1 v2) = some (Stp.elim (fun a => (fun i a => s_PutWord_L0_mx0 a.2) (v1 + (-1) * (((Int.toNat (v1 - 0 + 1)) : Nat) : Int)) a) (fun p : Empty => nomatch p) (forN (s_PutWord_L0_f ) (-1) (Int.toNat (v1 - 0 + 1)) v1 (v0, v2))) :=
  forN_loop (step := s_PutWord_L0_r.step) (mk := fun v1 a => s_PutWord_L0_mk a.1 v1 a.2) (f := s_PutWord_L0_f ) (e := (fun i a => s_PutWord_L0_mx0 a.2)) (emb := (fun p : Empty => nomatch p)) (st := (-1)) (Inv := fun v1 a => v1 < (a.2.length : Int)) (Int.toNat (v1 - 0 + 1)) v1 (v0, v2) _ (Nat.lt_succ_self _) h2
    (fun j a hj hv => ⟨s_PutWord_L0_st a.1 (v1 + (-1) * (j : Int)) a.2 (by omega) (by omega) (by omega) hv, by
      intro a' he
      grind [s_PutWord_L0_f, letK, Stp.elim, wrap64, List.length_set]⟩)
    (fun a hv => by
      show s_PutWord_L0_B a.1 (v1 + (-1) * (((Int.toNat (v1 - 0 + 1)) : Nat) : Int)) a.2 (Option (s_PutWord_L0_sh.T ⊕ WT s_PutWord_L0_es)) none (fun v' => some (Sum.inl v')) (fun w => some (Sum.inr w)) = _
      unfold s_PutWord_L0_B
      exact bifN (by simp only [decide_eq_false_iff_not]; omega) rfl)
theorem s_PutWord_L0_nx (v0 : Int) (v1 : Int) (v2 : List Int) (h0 : v1 ≤ 9223372036854775807) (h1 : 0 ≤ 0) (h2 : v1 < (v2.length : Int)) : ∀ a', forN (s_PutWord_L0_f ) (-1) (Int.toNat (v1 - 0 + 1)) v1 (v0, v2) = .next a' → (v1 + (-1) * (((Int.toNat (v1 - 0 + 1)) : Nat) : Int)) < (a'.2.length : Int) :=
  forN_inv (f := s_PutWord_L0_f ) (st := (-1)) (Inv := fun v1 a => v1 < (a.2.length : Int)) (Int.toNat (v1 - 0 + 1)) v1 (v0, v2) h2
    (fun j a hj hv => by
      intro a' he
      grind [s_PutWord_L0_f, letK, Stp.elim, wrap64, List.length_set])
def s_PutWord_N (x0 : Int) (x1 : Int) (γ : Type) (fail : γ) (k : Bytes → γ) : γ :=
  letK (α := Bool) (s_l1In x1 1 6) fun c1 =>
  bif (!c1) then
    k []
  else
  letK (α := Bool) (s_WordOk x0 (IntKind.wrap .i64 (8 * x1))) fun c2 =>
  bif (!c2) then
    k []
  else
  bif ((((decide (0 ≤ x1)) && (decide (x1 = x1))) && (decide (x1 * 1 ≤ (maxSl : Int)))) && (decide (x1 ≤ (maxSl : Int)))) then
  optK (loopF s_PutWord_L0_r.step (s_PutWord_L0_fu x0 (IntKind.wrap .i64 (x1 - 1)) (List.replicate x1.toNat 0)) (s_PutWord_L0_mk x0 (IntKind.wrap .i64 (x1 - 1)) (List.replicate x1.toNat 0))) fail fun w3 =>
    k (toBytes w3.2.1)
  else fail
def s_PutWord (x0 : Int) (x1 : Int) : Bytes :=
  letK (α := Bool) (s_l1In x1 1 6) fun c1 =>
  bif (!c1) then
    []
  else
  letK (α := Bool) (s_WordOk x0 (IntKind.wrap .i64 (8 * x1))) fun c2 =>
  bif (!c2) then
    []
  else
  Stp.elim (fun a4 =>
    (toBytes a4.2))
    (fun p : Empty => nomatch p)
    (forN (s_PutWord_L0_f) (-1) (Int.toNat ((IntKind.wrap .i64 (x1 - 1)) - 0 + 1)) (IntKind.wrap .i64 (x1 - 1)) (x0, (List.replicate x1.toNat 0)))
theorem s_PutWord_lk (x0 : Int) (x1 : Int) : evalFn te (orcOf (P := Try.prog) [s_l1In_e, s_WordOk_e]) (lorcOf [s_PutWord_L0_le]) s_PutWord_ann Try.f147 (pvs [.sc (.int .i64), .sc (.int .i64)] (x0, x1, ())) =
  s_PutWord_N x0 x1 _ none (fun v => some [(false, [RC.c (.str v)])]) := by kernel_rfl
theorem s_PutWord_p (x0 : Int) (x1 : Int) (hx0 : inK .i64 x0) (hx1 : inK .i64 x1)  (γ : Type) (fail : γ) (k : Bytes → γ) : s_PutWord_N x0 x1 γ fail k = k (s_PutWord x0 x1) := by
  unfold s_PutWord_N s_PutWord
  exact letT (f := k) (fun c1 hc1 => bifT (f := k) (fun b0 => rfl)
      (fun b0 => letT (f := k) (fun c2 hc2 => bifT (f := k) (fun b1 => rfl)
      (fun b1 => bifG (by (try simp only [Nat.ble_eq, Bool.and_eq_true, decide_eq_true_eq, s_PutWord_L0_mx0]); grind [maxSl, maxStr, toBytes_length, toInts_length, List.length_set, wrap64, s_l1In_eq, wrap64]) (loopX (f := k) (s_PutWord_L0_cl x0 (IntKind.wrap .i64 (x1 - 1)) (List.replicate x1.toNat 0) (by (try simp only [Nat.ble_eq, Bool.and_eq_true, decide_eq_true_eq, s_PutWord_L0_mx0]); grind [maxSl, maxStr, toBytes_length, toInts_length, List.length_set, wrap64, s_l1In_eq, wrap64]) (by (try simp only [Nat.ble_eq, Bool.and_eq_true, decide_eq_true_eq, s_PutWord_L0_mx0]); grind [maxSl, maxStr, toBytes_length, toInts_length, List.length_set, wrap64, s_l1In_eq, wrap64]) (by (try simp only [Nat.ble_eq, Bool.and_eq_true, decide_eq_true_eq, s_PutWord_L0_mx0]); grind [maxSl, maxStr, toBytes_length, toInts_length, List.length_set, wrap64, s_l1In_eq, wrap64])) (fun a4 ha4 => have ia4 := s_PutWord_L0_nx x0 (IntKind.wrap .i64 (x1 - 1)) (List.replicate x1.toNat 0) (by (try simp only [Nat.ble_eq, Bool.and_eq_true, decide_eq_true_eq, s_PutWord_L0_mx0]); grind [maxSl, maxStr, toBytes_length, toInts_length, List.length_set, wrap64, s_l1In_eq, wrap64]) (by (try simp only [Nat.ble_eq, Bool.and_eq_true, decide_eq_true_eq, s_PutWord_L0_mx0]); grind [maxSl, maxStr, toBytes_length, toInts_length, List.length_set, wrap64, s_l1In_eq, wrap64]) (by (try simp only [Nat.ble_eq, Bool.and_eq_true, decide_eq_true_eq, s_PutWord_L0_mx0]); grind [maxSl, maxStr, toBytes_length, toInts_length, List.length_set, wrap64, s_l1In_eq, wrap64]) _ ha4; rfl)
      (fun p : Empty => nomatch p))))))
theorem s_PutWord_c (x0 : Int) (x1 : Int)  : Con Try.prog 147 (pvs [.sc (.int .i64), .sc (.int .i64)] (x0, x1, ())) [rv (.sc .str) [] (s_PutWord x0 x1)] := by
  refine Con.of_facts (enters_of Try.func147 rfl (by kernel_rfl)) fun hf => ?_
  replace hf := factAt hf
  exact evalFn_conL teFact mixFact (orcOf_ok _) Try.func147 (by kernel_rfl) (bs := [0]) (by kernel_rfl) (by kernel_rfl) (fun w0 mo I0 hmo => ⟨lsem_of_lorc (s_PutWord_L0_ls w0 mo I0 hmo) (by kernel_rfl), trivial⟩) ((s_PutWord_lk x0 x1).trans (s_PutWord_p x0 x1 ((hf 0 0 rfl rfl).rng) ((hf 1 0 rfl rfl).rng) _ _ _))
noncomputable def s_PutWord_e : Ent1 Try.prog := entA 147 [.sc (.int .i64), .sc (.int .i64)] (fun x => (s_PutWord x.1 x.2.1)) (fun v => [rv (.sc .str) [] v]) (fun x => s_PutWord_c x.1 x.2.1)

theorem s_PutWord_len (x0 x1 : Int) : (s_PutWord x0 x1).length ≤ 6 := by
  unfold s_PutWord
  cases hw : s_l1In x1 1 6 with
  | false => simp [letK]
  | true =>
    rw [s_l1In_eq] at hw
    simp only [Bool.and_eq_true, decide_eq_true_eq] at hw
    simp only [letK, Bool.not_true, cond_false]
    cases s_WordOk x0 (IntKind.wrap .i64 (8 * x1)) with
    | false => simp
    | true =>
      simp only [Bool.not_true, cond_false]
      cases hf : forN (s_PutWord_L0_f) (-1) (Int.toNat ((IntKind.wrap .i64 (x1 - 1)) - 0 + 1)) (IntKind.wrap .i64 (x1 - 1)) (x0, (List.replicate x1.toNat 0)) with
      | out p => nomatch p
      | next a =>
        have := forN_inv (Inv := fun _ a => a.2.length = x1.toNat) _ _ _ (by simp) (fun j a _ h a' he => by unfold s_PutWord_L0_f at he; cases he; simpa using h) a hf
        simp only [Stp.elim, toBytes_length]
        omega


/-- spec.SipRound -/
def s_SipRound_N (x0 : Sipr) (γ : Type) (fail : γ) (k : Sipr → γ) : γ :=
  letK (α := Int) (s_l10Turn x0.b 13) fun c1 =>
  letK (α := Int) (s_l10Turn (IntKind.wrap .u64 (x0.a + x0.b)) 32) fun c2 =>
  letK (α := Int) (s_l10Turn x0.d 16) fun c3 =>
  letK (α := Int) (IntKind.wrap .u64 (c2 + (bits .xor .u64 c3 (IntKind.wrap .u64 (x0.c + x0.d))))) fun e4 =>
  letK (α := Int) (s_l10Turn (bits .xor .u64 c3 (IntKind.wrap .u64 (x0.c + x0.d))) 21) fun c5 =>
  letK (α := Int) (IntKind.wrap .u64 ((IntKind.wrap .u64 (x0.c + x0.d)) + (bits .xor .u64 c1 (IntKind.wrap .u64 (x0.a + x0.b))))) fun e6 =>
  letK (α := Int) (s_l10Turn (bits .xor .u64 c1 (IntKind.wrap .u64 (x0.a + x0.b))) 17) fun c7 =>
  letK (α := Int) (s_l10Turn e6 32) fun c8 =>
  k (⟨e4, (bits .xor .u64 c7 e6), c8, (bits .xor .u64 c5 e4)⟩ : Sipr)
def s_SipRound (x0 : Sipr) : Sipr :=
  letK (α := Int) (s_l10Turn x0.b 13) fun c1 =>
  letK (α := Int) (s_l10Turn (IntKind.wrap .u64 (x0.a + x0.b)) 32) fun c2 =>
  letK (α := Int) (s_l10Turn x0.d 16) fun c3 =>
  letK (α := Int) (IntKind.wrap .u64 (c2 + (bits .xor .u64 c3 (IntKind.wrap .u64 (x0.c + x0.d))))) fun e4 =>
  letK (α := Int) (s_l10Turn (bits .xor .u64 c3 (IntKind.wrap .u64 (x0.c + x0.d))) 21) fun c5 =>
  letK (α := Int) (IntKind.wrap .u64 ((IntKind.wrap .u64 (x0.c + x0.d)) + (bits .xor .u64 c1 (IntKind.wrap .u64 (x0.a + x0.b))))) fun e6 =>
  letK (α := Int) (s_l10Turn (bits .xor .u64 c1 (IntKind.wrap .u64 (x0.a + x0.b))) 17) fun c7 =>
  letK (α := Int) (s_l10Turn e6 32) fun c8 =>
  (⟨e4, (bits .xor .u64 c7 e6), c8, (bits .xor .u64 c5 e4)⟩ : Sipr)
theorem s_SipRound_lk (x0 : Sipr) : evalFn te (orcOf (P := Try.prog) [s_l10Turn_e]) lorc0 [] Try.f206 (pvs [.st .sipr] (x0, ())) =
  s_SipRound_N x0 _ none (fun v => some [(true, [RC.c (.int .u64 v.a), RC.c (.int .u64 v.b), RC.c (.int .u64 v.c), RC.c (.int .u64 v.d)])]) := by kernel_rfl
theorem s_SipRound_p (x0 : Sipr)   (γ : Type) (fail : γ) (k : Sipr → γ) : s_SipRound_N x0 γ fail k = k (s_SipRound x0) := by
  unfold s_SipRound_N s_SipRound
  exact letT (f := k) (fun c1 hc1 => letT (f := k) (fun c2 hc2 => letT (f := k) (fun c3 hc3 => letT (f := k) (fun e4 he4 => letT (f := k) (fun c5 hc5 => letT (f := k) (fun e6 he6 => letT (f := k) (fun c7 hc7 => letT (f := k) (fun c8 hc8 => rfl))))))))
theorem s_SipRound_c (x0 : Sipr)  : Con Try.prog 206 (pvs [.st .sipr] (x0, ())) [rv (.st .sipr) [] (s_SipRound x0)] := by
  exact evalFn_con0 teFact mixFact (orcOf_ok _) Try.func206 (by kernel_rfl) ((s_SipRound_lk x0).trans (s_SipRound_p x0  _ _ _))
noncomputable def s_SipRound_e : Ent1 Try.prog := entA 206 [.st .sipr] (fun x => (s_SipRound x.1)) (fun v => [rv (.st .sipr) [] v]) (fun x => s_SipRound_c x.1)


/-- spec.ReplyTo -/
def s_ReplyTo_N (x0 : Clie) (x1 : Segm) (γ : Type) (fail : γ) (k : Segm × Bool → γ) : γ :=
  letK (α := Int) (s_SeqAdd x0.isn 1) fun c1 =>
  bif (x1.flags != 18) then
    k ((⟨0, 0, 0, 0, 0, 0, ⟨0, 0, false, false, 0, 0⟩, []⟩ : Segm), false)
  else
  bif (x1.ack != c1) then
    k ((⟨0, 0, 0, 0, 0, 0, ⟨0, 0, false, false, 0, 0⟩, []⟩ : Segm), false)
  else
  letK (α := Int) (s_SeqAdd x1.seq 1) fun c2 =>
  letK (α := Opti) s_NoOptions fun c3 =>
  bif x0.opts.stamp then
    bif x1.opts.stamp then
      letK (α := Int) (s_SeqAdd x0.opts.val 1) fun c4 =>
      k ((⟨x0.tuple.port, x0.tuple.my, c1, c2, 16, x0.window, ⟨c3.mss, c3.scale, c3.sack, true, c4, x1.opts.val⟩, []⟩ : Segm), true)
    else
    k ((⟨x0.tuple.port, x0.tuple.my, c1, c2, 16, x0.window, c3, []⟩ : Segm), true)
  else
  k ((⟨x0.tuple.port, x0.tuple.my, c1, c2, 16, x0.window, c3, []⟩ : Segm), true)
def s_ReplyTo (x0 : Clie) (x1 : Segm) : Segm × Bool :=
  letK (α := Int) (s_SeqAdd x0.isn 1) fun c1 =>
  bif (x1.flags != 18) then
    ((⟨0, 0, 0, 0, 0, 0, ⟨0, 0, false, false, 0, 0⟩, []⟩ : Segm), false)
  else
  bif (x1.ack != c1) then
    ((⟨0, 0, 0, 0, 0, 0, ⟨0, 0, false, false, 0, 0⟩, []⟩ : Segm), false)
  else
  letK (α := Int) (s_SeqAdd x1.seq 1) fun c2 =>
  letK (α := Opti) s_NoOptions fun c3 =>
  bif x0.opts.stamp then
    bif x1.opts.stamp then
      letK (α := Int) (s_SeqAdd x0.opts.val 1) fun c4 =>
      ((⟨x0.tuple.port, x0.tuple.my, c1, c2, 16, x0.window, ⟨c3.mss, c3.scale, c3.sack, true, c4, x1.opts.val⟩, []⟩ : Segm), true)
    else
    ((⟨x0.tuple.port, x0.tuple.my, c1, c2, 16, x0.window, c3, []⟩ : Segm), true)
  else
  ((⟨x0.tuple.port, x0.tuple.my, c1, c2, 16, x0.window, c3, []⟩ : Segm), true)
theorem s_ReplyTo_lk (x0 : Clie) (x1 : Segm) : evalFn te (orcOf (P := Try.prog) [s_SeqAdd_e, s_NoOptions_e]) lorc0 [] Try.f11 (pvs [.st .clie, .st .segm] (x0, x1, ())) =
  s_ReplyTo_N x0 x1 _ none (fun v => some [(true, [RC.c (.int .i64 v.1.from_), RC.c (.int .i64 v.1.to), RC.c (.int .i64 v.1.seq), RC.c (.int .i64 v.1.ack), RC.c (.int .i64 v.1.flags), RC.c (.int .i64 v.1.window), RC.c (.int .i64 v.1.opts.mss), RC.c (.int .i64 v.1.opts.scale), RC.c (.bool v.1.opts.sack), RC.c (.bool v.1.opts.stamp), RC.c (.int .i64 v.1.opts.val), RC.c (.int .i64 v.1.opts.echo), RC.c (.str v.1.body)]), (false, [RC.c (.bool v.2)])]) := by kernel_rfl
theorem s_ReplyTo_p (x0 : Clie) (x1 : Segm)   (γ : Type) (fail : γ) (k : Segm × Bool → γ) : s_ReplyTo_N x0 x1 γ fail k = k (s_ReplyTo x0 x1) := by
  unfold s_ReplyTo_N s_ReplyTo
  exact letT (f := k) (fun c1 hc1 => bifT (f := k) (fun b0 => rfl)
      (fun b0 => bifT (f := k) (fun b1 => rfl)
      (fun b1 => letT (f := k) (fun c2 hc2 => letT (f := k) (fun c3 hc3 => bifT (f := k) (fun b2 => bifT (f := k) (fun b3 => letT (f := k) (fun c4 hc4 => rfl))
      (fun b3 => rfl))
      (fun b2 => rfl))))))
theorem s_ReplyTo_c (x0 : Clie) (x1 : Segm)  : Con Try.prog 11 (pvs [.st .clie, .st .segm] (x0, x1, ())) [rv (.st .segm) [] (s_ReplyTo x0 x1).1, rv (.sc .bool) [] (s_ReplyTo x0 x1).2] := by
  exact evalFn_con0 teFact mixFact (orcOf_ok _) Try.func11 (by kernel_rfl) ((s_ReplyTo_lk x0 x1).trans (s_ReplyTo_p x0 x1  _ _ _))
noncomputable def s_ReplyTo_e : Ent1 Try.prog := entA 11 [.st .clie, .st .segm] (fun x => (s_ReplyTo x.1 x.2.1)) (fun v => [rv (.st .segm) [] v.1, rv (.sc .bool) [] v.2]) (fun x => s_ReplyTo_c x.1 x.2.1)


/-- impl.Granted -/
def i_Granted_N (x0 : Opti) (γ : Type) (fail : γ) (k : Opti → γ) : γ :=
  letK (α := Opti) i_NoOptions fun c1 =>
  letK (α := Int) (i_peerMss x0) fun c2 =>
  letK (α := Int) (i_MssIndex c2) fun c3 =>
  letK (α := Int) (i_MssOf c3) fun c4 =>
  bif x0.stamp then
    letK (α := Int) (i_SeqAdd x0.val 1) fun c5 =>
    k (⟨c4, x0.scale, x0.sack, true, c5, c1.echo⟩ : Opti)
  else
  k ({ c1 with mss := c4 } : Opti)
def i_Granted (x0 : Opti) : Opti :=
  letK (α := Opti) i_NoOptions fun c1 =>
  letK (α := Int) (i_peerMss x0) fun c2 =>
  letK (α := Int) (i_MssIndex c2) fun c3 =>
  letK (α := Int) (i_MssOf c3) fun c4 =>
  bif x0.stamp then
    letK (α := Int) (i_SeqAdd x0.val 1) fun c5 =>
    (⟨c4, x0.scale, x0.sack, true, c5, c1.echo⟩ : Opti)
  else
  ({ c1 with mss := c4 } : Opti)
theorem i_Granted_lk (x0 : Opti) : evalFn te (orcOf (P := Try.prog) [i_NoOptions_e, i_peerMss_e, i_MssIndex_e, i_MssOf_e, i_SeqAdd_e]) lorc0 [] Try.f17 (pvs [.st .opti] (x0, ())) =
  i_Granted_N x0 _ none (fun v => some [(true, [RC.c (.int .i64 v.mss), RC.c (.int .i64 v.scale), RC.c (.bool v.sack), RC.c (.bool v.stamp), RC.c (.int .i64 v.val), RC.c (.int .i64 v.echo)])]) := by kernel_rfl
theorem i_Granted_p (x0 : Opti)   (γ : Type) (fail : γ) (k : Opti → γ) : i_Granted_N x0 γ fail k = k (i_Granted x0) := by
  unfold i_Granted_N i_Granted
  exact letT (f := k) (fun c1 hc1 => letT (f := k) (fun c2 hc2 => letT (f := k) (fun c3 hc3 => letT (f := k) (fun c4 hc4 => bifT (f := k) (fun b0 => letT (f := k) (fun c5 hc5 => rfl))
      (fun b0 => rfl)))))
theorem i_Granted_c (x0 : Opti)  : Con Try.prog 17 (pvs [.st .opti] (x0, ())) [rv (.st .opti) [] (i_Granted x0)] := by
  exact evalFn_con0 teFact mixFact (orcOf_ok _) Try.func17 (by kernel_rfl) ((i_Granted_lk x0).trans (i_Granted_p x0  _ _ _))
noncomputable def i_Granted_e : Ent1 Try.prog := entA 17 [.st .opti] (fun x => (i_Granted x.1)) (fun v => [rv (.st .opti) [] v]) (fun x => i_Granted_c x.1)


/-- spec.Granted -/
def s_Granted_N (x0 : Opti) (γ : Type) (fail : γ) (k : Opti → γ) : γ :=
  letK (α := Opti) s_NoOptions fun c1 =>
  bif (x0.mss == 0) then
    letK (α := Int) (s_MssIndex 536) fun c2 =>
    letK (α := Int) (s_MssOf c2) fun c3 =>
    bif x0.stamp then
      letK (α := Int) (s_SeqAdd x0.val 1) fun c4 =>
      k (⟨c3, x0.scale, x0.sack, true, c4, c1.echo⟩ : Opti)
    else
    k ({ c1 with mss := c3 } : Opti)
  else
  letK (α := Int) (s_MssIndex x0.mss) fun c5 =>
  letK (α := Int) (s_MssOf c5) fun c6 =>
  bif x0.stamp then
    letK (α := Int) (s_SeqAdd x0.val 1) fun c7 =>
    k (⟨c6, x0.scale, x0.sack, true, c7, c1.echo⟩ : Opti)
  else
  k ({ c1 with mss := c6 } : Opti)
def s_Granted (x0 : Opti) : Opti :=
  letK (α := Opti) s_NoOptions fun c1 =>
  bif (x0.mss == 0) then
    letK (α := Int) (s_MssIndex 536) fun c2 =>
    letK (α := Int) (s_MssOf c2) fun c3 =>
    bif x0.stamp then
      letK (α := Int) (s_SeqAdd x0.val 1) fun c4 =>
      (⟨c3, x0.scale, x0.sack, true, c4, c1.echo⟩ : Opti)
    else
    ({ c1 with mss := c3 } : Opti)
  else
  letK (α := Int) (s_MssIndex x0.mss) fun c5 =>
  letK (α := Int) (s_MssOf c5) fun c6 =>
  bif x0.stamp then
    letK (α := Int) (s_SeqAdd x0.val 1) fun c7 =>
    (⟨c6, x0.scale, x0.sack, true, c7, c1.echo⟩ : Opti)
  else
  ({ c1 with mss := c6 } : Opti)
theorem s_Granted_lk (x0 : Opti) : evalFn te (orcOf (P := Try.prog) [s_NoOptions_e, s_MssIndex_e, s_MssOf_e, s_SeqAdd_e]) lorc0 [] Try.f18 (pvs [.st .opti] (x0, ())) =
  s_Granted_N x0 _ none (fun v => some [(true, [RC.c (.int .i64 v.mss), RC.c (.int .i64 v.scale), RC.c (.bool v.sack), RC.c (.bool v.stamp), RC.c (.int .i64 v.val), RC.c (.int .i64 v.echo)])]) := by kernel_rfl
theorem s_Granted_p (x0 : Opti)   (γ : Type) (fail : γ) (k : Opti → γ) : s_Granted_N x0 γ fail k = k (s_Granted x0) := by
  unfold s_Granted_N s_Granted
  exact letT (f := k) (fun c1 hc1 => bifT (f := k) (fun b0 => letT (f := k) (fun c2 hc2 => letT (f := k) (fun c3 hc3 => bifT (f := k) (fun b1 => letT (f := k) (fun c4 hc4 => rfl))
      (fun b1 => rfl))))
      (fun b0 => letT (f := k) (fun c5 hc5 => letT (f := k) (fun c6 hc6 => bifT (f := k) (fun b1 => letT (f := k) (fun c7 hc7 => rfl))
      (fun b1 => rfl)))))
theorem s_Granted_c (x0 : Opti)  : Con Try.prog 18 (pvs [.st .opti] (x0, ())) [rv (.st .opti) [] (s_Granted x0)] := by
  exact evalFn_con0 teFact mixFact (orcOf_ok _) Try.func18 (by kernel_rfl) ((s_Granted_lk x0).trans (s_Granted_p x0  _ _ _))
noncomputable def s_Granted_e : Ent1 Try.prog := entA 18 [.st .opti] (fun x => (s_Granted x.1)) (fun v => [rv (.st .opti) [] v]) (fun x => s_Granted_c x.1)


/-- impl.TupleOk -/
def i_TupleOk_N (x0 : Tupl) (γ : Type) (fail : γ) (k : Bool → γ) : γ :=
  letK (α := Bool) (i_WordOk x0.ip 32) fun c1 =>
  bif c1 then
    letK (α := Bool) (i_WordOk x0.port 16) fun c2 =>
    bif c2 then
      letK (α := Bool) (i_WordOk x0.my 16) fun c3 =>
      k c3
    else
    k false
  else
  k false
def i_TupleOk (x0 : Tupl) : Bool :=
  letK (α := Bool) (i_WordOk x0.ip 32) fun c1 =>
  bif c1 then
    letK (α := Bool) (i_WordOk x0.port 16) fun c2 =>
    bif c2 then
      letK (α := Bool) (i_WordOk x0.my 16) fun c3 =>
      c3
    else
    false
  else
  false
theorem i_TupleOk_lk (x0 : Tupl) : evalFn te (orcOf (P := Try.prog) [i_WordOk_e]) lorc0 [] Try.f48 (pvs [.st .tupl] (x0, ())) =
  i_TupleOk_N x0 _ none (fun v => some [(false, [RC.c (.bool v)])]) := by kernel_rfl
theorem i_TupleOk_p (x0 : Tupl)   (γ : Type) (fail : γ) (k : Bool → γ) : i_TupleOk_N x0 γ fail k = k (i_TupleOk x0) := by
  unfold i_TupleOk_N i_TupleOk
  exact letT (f := k) (fun c1 hc1 => bifT (f := k) (fun b0 => letT (f := k) (fun c2 hc2 => bifT (f := k) (fun b1 => letT (f := k) (fun c3 hc3 => rfl))
      (fun b1 => rfl)))
      (fun b0 => rfl))
theorem i_TupleOk_c (x0 : Tupl)  : Con Try.prog 48 (pvs [.st .tupl] (x0, ())) [rv (.sc .bool) [] (i_TupleOk x0)] := by
  exact evalFn_con0 teFact mixFact (orcOf_ok _) Try.func48 (by kernel_rfl) ((i_TupleOk_lk x0).trans (i_TupleOk_p x0  _ _ _))
noncomputable def i_TupleOk_e : Ent1 Try.prog := entA 48 [.st .tupl] (fun x => (i_TupleOk x.1)) (fun v => [rv (.sc .bool) [] v]) (fun x => i_TupleOk_c x.1)


/-- impl.OptionsOk -/
def i_OptionsOk_N (x0 : Opti) (γ : Type) (fail : γ) (k : Bool → γ) : γ :=
  bif (!x0.stamp) then
    bif (x0.val != 0) then
      k false
    else
    bif (x0.echo != 0) then
      k false
    else
    letK (α := Bool) (i_WordOk x0.mss 16) fun c1 =>
    bif c1 then
      letK (α := Bool) (i_within x0.scale (-1) 14) fun c2 =>
      bif c2 then
        letK (α := Bool) (i_WordOk x0.val 32) fun c3 =>
        bif c3 then
          letK (α := Bool) (i_WordOk x0.echo 32) fun c4 =>
          k c4
        else
        k false
      else
      k false
    else
    k false
  else
  letK (α := Bool) (i_WordOk x0.mss 16) fun c5 =>
  bif c5 then
    letK (α := Bool) (i_within x0.scale (-1) 14) fun c6 =>
    bif c6 then
      letK (α := Bool) (i_WordOk x0.val 32) fun c7 =>
      bif c7 then
        letK (α := Bool) (i_WordOk x0.echo 32) fun c8 =>
        k c8
      else
      k false
    else
    k false
  else
  k false
def i_OptionsOk (x0 : Opti) : Bool :=
  bif (!x0.stamp) then
    bif (x0.val != 0) then
      false
    else
    bif (x0.echo != 0) then
      false
    else
    letK (α := Bool) (i_WordOk x0.mss 16) fun c1 =>
    bif c1 then
      letK (α := Bool) (i_within x0.scale (-1) 14) fun c2 =>
      bif c2 then
        letK (α := Bool) (i_WordOk x0.val 32) fun c3 =>
        bif c3 then
          letK (α := Bool) (i_WordOk x0.echo 32) fun c4 =>
          c4
        else
        false
      else
      false
    else
    false
  else
  letK (α := Bool) (i_WordOk x0.mss 16) fun c5 =>
  bif c5 then
    letK (α := Bool) (i_within x0.scale (-1) 14) fun c6 =>
    bif c6 then
      letK (α := Bool) (i_WordOk x0.val 32) fun c7 =>
      bif c7 then
        letK (α := Bool) (i_WordOk x0.echo 32) fun c8 =>
        c8
      else
      false
    else
    false
  else
  false
theorem i_OptionsOk_lk (x0 : Opti) : evalFn te (orcOf (P := Try.prog) [i_WordOk_e, i_within_e]) lorc0 [] Try.f49 (pvs [.st .opti] (x0, ())) =
  i_OptionsOk_N x0 _ none (fun v => some [(false, [RC.c (.bool v)])]) := by kernel_rfl
theorem i_OptionsOk_p (x0 : Opti)   (γ : Type) (fail : γ) (k : Bool → γ) : i_OptionsOk_N x0 γ fail k = k (i_OptionsOk x0) := by
  unfold i_OptionsOk_N i_OptionsOk
  exact bifT (f := k) (fun b0 => bifT (f := k) (fun b1 => rfl)
      (fun b1 => bifT (f := k) (fun b2 => rfl)
      (fun b2 => letT (f := k) (fun c1 hc1 => bifT (f := k) (fun b3 => letT (f := k) (fun c2 hc2 => bifT (f := k) (fun b4 => letT (f := k) (fun c3 hc3 => bifT (f := k) (fun b5 => letT (f := k) (fun c4 hc4 => rfl))
      (fun b5 => rfl)))
      (fun b4 => rfl)))
      (fun b3 => rfl)))))
      (fun b0 => letT (f := k) (fun c5 hc5 => bifT (f := k) (fun b1 => letT (f := k) (fun c6 hc6 => bifT (f := k) (fun b2 => letT (f := k) (fun c7 hc7 => bifT (f := k) (fun b3 => letT (f := k) (fun c8 hc8 => rfl))
      (fun b3 => rfl)))
      (fun b2 => rfl)))
      (fun b1 => rfl)))
theorem i_OptionsOk_c (x0 : Opti)  : Con Try.prog 49 (pvs [.st .opti] (x0, ())) [rv (.sc .bool) [] (i_OptionsOk x0)] := by
  exact evalFn_con0 teFact mixFact (orcOf_ok _) Try.func49 (by kernel_rfl) ((i_OptionsOk_lk x0).trans (i_OptionsOk_p x0  _ _ _))
noncomputable def i_OptionsOk_e : Ent1 Try.prog := entA 49 [.st .opti] (fun x => (i_OptionsOk x.1)) (fun v => [rv (.sc .bool) [] v]) (fun x => i_OptionsOk_c x.1)


/-- spec.TupleOk -/
def s_TupleOk_N (x0 : Tupl) (γ : Type) (fail : γ) (k : Bool → γ) : γ :=
  letK (α := Bool) (s_WordOk x0.ip 32) fun c1 =>
  bif c1 then
    letK (α := Bool) (s_WordOk x0.port 16) fun c2 =>
    bif c2 then
      letK (α := Bool) (s_WordOk x0.my 16) fun c3 =>
      k c3
    else
    k false
  else
  k false
def s_TupleOk (x0 : Tupl) : Bool :=
  letK (α := Bool) (s_WordOk x0.ip 32) fun c1 =>
  bif c1 then
    letK (α := Bool) (s_WordOk x0.port 16) fun c2 =>
    bif c2 then
      letK (α := Bool) (s_WordOk x0.my 16) fun c3 =>
      c3
    else
    false
  else
  false
theorem s_TupleOk_lk (x0 : Tupl) : evalFn te (orcOf (P := Try.prog) [s_WordOk_e]) lorc0 [] Try.f51 (pvs [.st .tupl] (x0, ())) =
  s_TupleOk_N x0 _ none (fun v => some [(false, [RC.c (.bool v)])]) := by kernel_rfl
theorem s_TupleOk_p (x0 : Tupl)   (γ : Type) (fail : γ) (k : Bool → γ) : s_TupleOk_N x0 γ fail k = k (s_TupleOk x0) := by
  unfold s_TupleOk_N s_TupleOk
  exact letT (f := k) (fun c1 hc1 => bifT (f := k) (fun b0 => letT (f := k) (fun c2 hc2 => bifT (f := k) (fun b1 => letT (f := k) (fun c3 hc3 => rfl))
      (fun b1 => rfl)))
      (fun b0 => rfl))
theorem s_TupleOk_c (x0 : Tupl)  : Con Try.prog 51 (pvs [.st .tupl] (x0, ())) [rv (.sc .bool) [] (s_TupleOk x0)] := by
  exact evalFn_con0 teFact mixFact (orcOf_ok _) Try.func51 (by kernel_rfl) ((s_TupleOk_lk x0).trans (s_TupleOk_p x0  _ _ _))
noncomputable def s_TupleOk_e : Ent1 Try.prog := entA 51 [.st .tupl] (fun x => (s_TupleOk x.1)) (fun v => [rv (.sc .bool) [] v]) (fun x => s_TupleOk_c x.1)


/-- spec.OptionsOk -/
def s_OptionsOk_N (x0 : Opti) (γ : Type) (fail : γ) (k : Bool → γ) : γ :=
  bif (!x0.stamp) then
    bif (x0.val != 0) then
      k false
    else
    bif (x0.echo != 0) then
      k false
    else
    letK (α := Bool) (s_WordOk x0.mss 16) fun c1 =>
    bif c1 then
      letK (α := Bool) (s_l1In x0.scale (-1) 14) fun c2 =>
      bif c2 then
        letK (α := Bool) (s_WordOk x0.val 32) fun c3 =>
        bif c3 then
          letK (α := Bool) (s_WordOk x0.echo 32) fun c4 =>
          k c4
        else
        k false
      else
      k false
    else
    k false
  else
  letK (α := Bool) (s_WordOk x0.mss 16) fun c5 =>
  bif c5 then
    letK (α := Bool) (s_l1In x0.scale (-1) 14) fun c6 =>
    bif c6 then
      letK (α := Bool) (s_WordOk x0.val 32) fun c7 =>
      bif c7 then
        letK (α := Bool) (s_WordOk x0.echo 32) fun c8 =>
        k c8
      else
      k false
    else
    k false
  else
  k false
def s_OptionsOk (x0 : Opti) : Bool :=
  bif (!x0.stamp) then
    bif (x0.val != 0) then
      false
    else
    bif (x0.echo != 0) then
      false
    else
    letK (α := Bool) (s_WordOk x0.mss 16) fun c1 =>
    bif c1 then
      letK (α := Bool) (s_l1In x0.scale (-1) 14) fun c2 =>
      bif c2 then
        letK (α := Bool) (s_WordOk x0.val 32) fun c3 =>
        bif c3 then
          letK (α := Bool) (s_WordOk x0.echo 32) fun c4 =>
          c4
        else
        false
      else
      false
    else
    false
  else
  letK (α := Bool) (s_WordOk x0.mss 16) fun c5 =>
  bif c5 then
    letK (α := Bool) (s_l1In x0.scale (-1) 14) fun c6 =>
    bif c6 then
      letK (α := Bool) (s_WordOk x0.val 32) fun c7 =>
      bif c7 then
        letK (α := Bool) (s_WordOk x0.echo 32) fun c8 =>
        c8
      else
      false
    else
    false
  else
  false
theorem s_OptionsOk_lk (x0 : Opti) : evalFn te (orcOf (P := Try.prog) [s_WordOk_e, s_l1In_e]) lorc0 [] Try.f52 (pvs [.st .opti] (x0, ())) =
  s_OptionsOk_N x0 _ none (fun v => some [(false, [RC.c (.bool v)])]) := by kernel_rfl
theorem s_OptionsOk_p (x0 : Opti)   (γ : Type) (fail : γ) (k : Bool → γ) : s_OptionsOk_N x0 γ fail k = k (s_OptionsOk x0) := by
  unfold s_OptionsOk_N s_OptionsOk
  exact bifT (f := k) (fun b0 => bifT (f := k) (fun b1 => rfl)
      (fun b1 => bifT (f := k) (fun b2 => rfl)
      (fun b2 => letT (f := k) (fun c1 hc1 => bifT (f := k) (fun b3 => letT (f := k) (fun c2 hc2 => bifT (f := k) (fun b4 => letT (f := k) (fun c3 hc3 => bifT (f := k) (fun b5 => letT (f := k) (fun c4 hc4 => rfl))
      (fun b5 => rfl)))
      (fun b4 => rfl)))
      (fun b3 => rfl)))))
      (fun b0 => letT (f := k) (fun c5 hc5 => bifT (f := k) (fun b1 => letT (f := k) (fun c6 hc6 => bifT (f := k) (fun b2 => letT (f := k) (fun c7 hc7 => bifT (f := k) (fun b3 => letT (f := k) (fun c8 hc8 => rfl))
      (fun b3 => rfl)))
      (fun b2 => rfl)))
      (fun b1 => rfl)))
theorem s_OptionsOk_c (x0 : Opti)  : Con Try.prog 52 (pvs [.st .opti] (x0, ())) [rv (.sc .bool) [] (s_OptionsOk x0)] := by
  exact evalFn_con0 teFact mixFact (orcOf_ok _) Try.func52 (by kernel_rfl) ((s_OptionsOk_lk x0).trans (s_OptionsOk_p x0  _ _ _))
noncomputable def s_OptionsOk_e : Ent1 Try.prog := entA 52 [.st .opti] (fun x => (s_OptionsOk x.1)) (fun v => [rv (.sc .bool) [] v]) (fun x => s_OptionsOk_c x.1)


/-- spec.MacInput -/
def s_MacInput_N (x0 : Tupl) (x1 : Int) (x2 : Int) (x3 : Int) (γ : Type) (fail : γ) (k : Bytes → γ) : γ :=
  letK (α := Bool) (s_TupleOk x0) fun c1 =>
  bif (!c1) then
    k []
  else
  letK (α := Bool) (s_WordOk x1 32) fun c2 =>
  bif (!c2) then
    k []
  else
  letK (α := Bool) (s_WordOk x2 32) fun c3 =>
  bif (!c3) then
    k []
  else
  letK (α := Bool) (s_l1In x3 0 7) fun c4 =>
  bif (!c4) then
    k []
  else
  letK (α := Bytes) (s_PutWord x0.ip 4) fun c5 =>
  letK (α := Bytes) (s_PutWord x0.port 2) fun c6 =>
  bif (Nat.ble (c5.length + c6.length) maxStr) then
  letK (α := Bytes) (s_PutWord x0.my 2) fun c7 =>
  bif (Nat.ble ((c5 ++ c6).length + c7.length) maxStr) then
  letK (α := Bytes) (s_PutWord x1 4) fun c8 =>
  bif (Nat.ble (((c5 ++ c6) ++ c7).length + c8.length) maxStr) then
  letK (α := Bytes) (s_PutWord x2 4) fun c9 =>
  bif (Nat.ble ((((c5 ++ c6) ++ c7) ++ c8).length + c9.length) maxStr) then
  letK (α := Bytes) (s_PutWord x3 1) fun c10 =>
  bif (Nat.ble (((((c5 ++ c6) ++ c7) ++ c8) ++ c9).length + c10.length) maxStr) then
  k (((((c5 ++ c6) ++ c7) ++ c8) ++ c9) ++ c10)
  else fail
  else fail
  else fail
  else fail
  else fail
def s_MacInput (x0 : Tupl) (x1 : Int) (x2 : Int) (x3 : Int) : Bytes :=
  letK (α := Bool) (s_TupleOk x0) fun c1 =>
  bif (!c1) then
    []
  else
  letK (α := Bool) (s_WordOk x1 32) fun c2 =>
  bif (!c2) then
    []
  else
  letK (α := Bool) (s_WordOk x2 32) fun c3 =>
  bif (!c3) then
    []
  else
  letK (α := Bool) (s_l1In x3 0 7) fun c4 =>
  bif (!c4) then
    []
  else
  letK (α := Bytes) (s_PutWord x0.ip 4) fun c5 =>
  letK (α := Bytes) (s_PutWord x0.port 2) fun c6 =>
  letK (α := Bytes) (s_PutWord x0.my 2) fun c7 =>
  letK (α := Bytes) (s_PutWord x1 4) fun c8 =>
  letK (α := Bytes) (s_PutWord x2 4) fun c9 =>
  letK (α := Bytes) (s_PutWord x3 1) fun c10 =>
  (((((c5 ++ c6) ++ c7) ++ c8) ++ c9) ++ c10)
theorem s_MacInput_lk (x0 : Tupl) (x1 : Int) (x2 : Int) (x3 : Int) : evalFn te (orcOf (P := Try.prog) [s_TupleOk_e, s_WordOk_e, s_l1In_e, s_PutWord_e]) lorc0 [] Try.f107 (pvs [.st .tupl, .sc (.int .i64), .sc (.int .i64), .sc (.int .i64)] (x0, x1, x2, x3, ())) =
  s_MacInput_N x0 x1 x2 x3 _ none (fun v => some [(false, [RC.c (.str v)])]) := by kernel_rfl
theorem s_MacInput_p (x0 : Tupl) (x1 : Int) (x2 : Int) (x3 : Int) (hx0_ip : inK .i64 x0.ip) (hx0_port : inK .i64 x0.port) (hx0_my : inK .i64 x0.my) (hx1 : inK .i64 x1) (hx2 : inK .i64 x2) (hx3 : inK .i64 x3)  (γ : Type) (fail : γ) (k : Bytes → γ) : s_MacInput_N x0 x1 x2 x3 γ fail k = k (s_MacInput x0 x1 x2 x3) := by
  unfold s_MacInput_N s_MacInput
  exact letT (f := k) (fun c1 hc1 => bifT (f := k) (fun b0 => rfl)
      (fun b0 => letT (f := k) (fun c2 hc2 => bifT (f := k) (fun b1 => rfl)
      (fun b1 => letT (f := k) (fun c3 hc3 => bifT (f := k) (fun b2 => rfl)
      (fun b2 => letT (f := k) (fun c4 hc4 => bifT (f := k) (fun b3 => rfl)
      (fun b3 => letT (f := k) (fun c5 hc5 => letT (f := k) (fun c6 hc6 => bifG (by (try simp only [Nat.ble_eq, Bool.and_eq_true, decide_eq_true_eq]); grind [maxSl, maxStr, toBytes_length, toInts_length, List.length_set, wrap64, s_PutWord_len]) (letT (f := k) (fun c7 hc7 => bifG (by (try simp only [Nat.ble_eq, Bool.and_eq_true, decide_eq_true_eq]); grind [maxSl, maxStr, toBytes_length, toInts_length, List.length_set, wrap64, s_PutWord_len]) (letT (f := k) (fun c8 hc8 => bifG (by (try simp only [Nat.ble_eq, Bool.and_eq_true, decide_eq_true_eq]); grind [maxSl, maxStr, toBytes_length, toInts_length, List.length_set, wrap64, s_PutWord_len]) (letT (f := k) (fun c9 hc9 => bifG (by (try simp only [Nat.ble_eq, Bool.and_eq_true, decide_eq_true_eq]); grind [maxSl, maxStr, toBytes_length, toInts_length, List.length_set, wrap64, s_PutWord_len]) (letT (f := k) (fun c10 hc10 => bifG (by (try simp only [Nat.ble_eq, Bool.and_eq_true, decide_eq_true_eq]); grind [maxSl, maxStr, toBytes_length, toInts_length, List.length_set, wrap64, s_PutWord_len]) (rfl)))))))))))))))))))
theorem s_MacInput_c (x0 : Tupl) (x1 : Int) (x2 : Int) (x3 : Int)  : Con Try.prog 107 (pvs [.st .tupl, .sc (.int .i64), .sc (.int .i64), .sc (.int .i64)] (x0, x1, x2, x3, ())) [rv (.sc .str) [] (s_MacInput x0 x1 x2 x3)] := by
  refine Con.of_facts (enters_of Try.func107 rfl (by kernel_rfl)) fun hf => ?_
  replace hf := factAt hf
  exact evalFn_con0 teFact mixFact (orcOf_ok _) Try.func107 (by kernel_rfl) ((s_MacInput_lk x0 x1 x2 x3).trans (s_MacInput_p x0 x1 x2 x3 ((hf 0 0 rfl rfl).rng) ((hf 0 1 rfl rfl).rng) ((hf 0 2 rfl rfl).rng) ((hf 1 0 rfl rfl).rng) ((hf 2 0 rfl rfl).rng) ((hf 3 0 rfl rfl).rng) _ _ _))
noncomputable def s_MacInput_e : Ent1 Try.prog := entA 107 [.st .tupl, .sc (.int .i64), .sc (.int .i64), .sc (.int .i64)] (fun x => (s_MacInput x.1 x.2.1 x.2.2.1 x.2.2.2.1)) (fun v => [rv (.sc .str) [] v]) (fun x => s_MacInput_c x.1 x.2.1 x.2.2.1 x.2.2.2.1)

theorem s_MacInput_len (x0 : Tupl) (x1 : Int) (x2 : Int) (x3 : Int)   : (fun v : Bytes => v.length ≤ 64) (s_MacInput x0 x1 x2 x3) := by
  unfold s_MacInput
  exact letP (P := (fun v : Bytes => v.length ≤ 64)) (fun c1 hc1 => bifP (P := (fun v : Bytes => v.length ≤ 64)) (fun b0 => (by (try simp only [Nat.ble_eq, Bool.and_eq_true, decide_eq_true_eq]); grind [maxSl, maxStr, toBytes_length, toInts_length, List.length_set, wrap64, s_PutWord_len]))
      (fun b0 => letP (P := (fun v : Bytes => v.length ≤ 64)) (fun c2 hc2 => bifP (P := (fun v : Bytes => v.length ≤ 64)) (fun b1 => (by (try simp only [Nat.ble_eq, Bool.and_eq_true, decide_eq_true_eq]); grind [maxSl, maxStr, toBytes_length, toInts_length, List.length_set, wrap64, s_PutWord_len]))
      (fun b1 => letP (P := (fun v : Bytes => v.length ≤ 64)) (fun c3 hc3 => bifP (P := (fun v : Bytes => v.length ≤ 64)) (fun b2 => (by (try simp only [Nat.ble_eq, Bool.and_eq_true, decide_eq_true_eq]); grind [maxSl, maxStr, toBytes_length, toInts_length, List.length_set, wrap64, s_PutWord_len]))
      (fun b2 => letP (P := (fun v : Bytes => v.length ≤ 64)) (fun c4 hc4 => bifP (P := (fun v : Bytes => v.length ≤ 64)) (fun b3 => (by (try simp only [Nat.ble_eq, Bool.and_eq_true, decide_eq_true_eq]); grind [maxSl, maxStr, toBytes_length, toInts_length, List.length_set, wrap64, s_PutWord_len]))
      (fun b3 => letP (P := (fun v : Bytes => v.length ≤ 64)) (fun c5 hc5 => letP (P := (fun v : Bytes => v.length ≤ 64)) (fun c6 hc6 => letP (P := (fun v : Bytes => v.length ≤ 64)) (fun c7 hc7 => letP (P := (fun v : Bytes => v.length ≤ 64)) (fun c8 hc8 => letP (P := (fun v : Bytes => v.length ≤ 64)) (fun c9 hc9 => letP (P := (fun v : Bytes => v.length ≤ 64)) (fun c10 hc10 => (by (try simp only [Nat.ble_eq, Bool.and_eq_true, decide_eq_true_eq]); grind [maxSl, maxStr, toBytes_length, toInts_length, List.length_set, wrap64, s_PutWord_len])))))))))))))))

/-- spec.SipWord -/
def s_SipWord_N (x0 : Sipr) (x1 : Int) (γ : Type) (fail : γ) (k : Sipr → γ) : γ :=
  letK (α := Sipr) (s_SipRound ({ x0 with d := (bits .xor .u64 x0.d x1) } : Sipr)) fun c1 =>
  letK (α := Sipr) (s_SipRound c1) fun c2 =>
  k ({ c2 with a := (bits .xor .u64 c2.a x1) } : Sipr)
def s_SipWord (x0 : Sipr) (x1 : Int) : Sipr :=
  letK (α := Sipr) (s_SipRound ({ x0 with d := (bits .xor .u64 x0.d x1) } : Sipr)) fun c1 =>
  letK (α := Sipr) (s_SipRound c1) fun c2 =>
  ({ c2 with a := (bits .xor .u64 c2.a x1) } : Sipr)
theorem s_SipWord_lk (x0 : Sipr) (x1 : Int) : evalFn te (orcOf (P := Try.prog) [s_SipRound_e]) lorc0 [] Try.f198 (pvs [.st .sipr, .sc (.int .u64)] (x0, x1, ())) =
  s_SipWord_N x0 x1 _ none (fun v => some [(true, [RC.c (.int .u64 v.a), RC.c (.int .u64 v.b), RC.c (.int .u64 v.c), RC.c (.int .u64 v.d)])]) := by kernel_rfl
theorem s_SipWord_p (x0 : Sipr) (x1 : Int)   (γ : Type) (fail : γ) (k : Sipr → γ) : s_SipWord_N x0 x1 γ fail k = k (s_SipWord x0 x1) := by
  unfold s_SipWord_N s_SipWord
  exact letT (f := k) (fun c1 hc1 => letT (f := k) (fun c2 hc2 => rfl))
theorem s_SipWord_c (x0 : Sipr) (x1 : Int)  : Con Try.prog 198 (pvs [.st .sipr, .sc (.int .u64)] (x0, x1, ())) [rv (.st .sipr) [] (s_SipWord x0 x1)] := by
  exact evalFn_con0 teFact mixFact (orcOf_ok _) Try.func198 (by kernel_rfl) ((s_SipWord_lk x0 x1).trans (s_SipWord_p x0 x1  _ _ _))
noncomputable def s_SipWord_e : Ent1 Try.prog := entA 198 [.st .sipr, .sc (.int .u64)] (fun x => (s_SipWord x.1 x.2.1)) (fun v => [rv (.st .sipr) [] v]) (fun x => s_SipWord_c x.1 x.2.1)


/-- spec.SipEnd -/
def s_SipEnd_N (x0 : Sipr) (γ : Type) (fail : γ) (k : Int → γ) : γ :=
  letK (α := Sipr) (s_SipRound ({ x0 with c := (bits .xor .u64 x0.c 255) } : Sipr)) fun c1 =>
  letK (α := Sipr) (s_SipRound c1) fun c2 =>
  letK (α := Sipr) (s_SipRound c2) fun c3 =>
  letK (α := Sipr) (s_SipRound c3) fun c4 =>
  k (bits .xor .u64 (bits .xor .u64 (bits .xor .u64 c4.a c4.b) c4.c) c4.d)
def s_SipEnd (x0 : Sipr) : Int :=
  letK (α := Sipr) (s_SipRound ({ x0 with c := (bits .xor .u64 x0.c 255) } : Sipr)) fun c1 =>
  letK (α := Sipr) (s_SipRound c1) fun c2 =>
  letK (α := Sipr) (s_SipRound c2) fun c3 =>
  letK (α := Sipr) (s_SipRound c3) fun c4 =>
  (bits .xor .u64 (bits .xor .u64 (bits .xor .u64 c4.a c4.b) c4.c) c4.d)
theorem s_SipEnd_lk (x0 : Sipr) : evalFn te (orcOf (P := Try.prog) [s_SipRound_e]) lorc0 [] Try.f200 (pvs [.st .sipr] (x0, ())) =
  s_SipEnd_N x0 _ none (fun v => some [(false, [RC.c (.int .u64 v)])]) := by kernel_rfl
theorem s_SipEnd_p (x0 : Sipr)   (γ : Type) (fail : γ) (k : Int → γ) : s_SipEnd_N x0 γ fail k = k (s_SipEnd x0) := by
  unfold s_SipEnd_N s_SipEnd
  exact letT (f := k) (fun c1 hc1 => letT (f := k) (fun c2 hc2 => letT (f := k) (fun c3 hc3 => letT (f := k) (fun c4 hc4 => rfl))))
theorem s_SipEnd_c (x0 : Sipr)  : Con Try.prog 200 (pvs [.st .sipr] (x0, ())) [rv (.sc (.int .u64)) [] (s_SipEnd x0)] := by
  exact evalFn_con0 teFact mixFact (orcOf_ok _) Try.func200 (by kernel_rfl) ((s_SipEnd_lk x0).trans (s_SipEnd_p x0  _ _ _))
noncomputable def s_SipEnd_e : Ent1 Try.prog := entA 200 [.st .sipr] (fun x => (s_SipEnd x.1)) (fun v => [rv (.sc (.int .u64)) [] v]) (fun x => s_SipEnd_c x.1)


/-- impl.ClientOk -/
def i_ClientOk_N (x0 : Clie) (γ : Type) (fail : γ) (k : Bool → γ) : γ :=
  letK (α := Bool) (i_TupleOk x0.tuple) fun c1 =>
  bif c1 then
    letK (α := Bool) (i_OptionsOk x0.opts) fun c2 =>
    bif c2 then
      letK (α := Bool) (i_WordOk x0.isn 32) fun c3 =>
      bif c3 then
        letK (α := Bool) (i_WordOk x0.window 16) fun c4 =>
        k c4
      else
      k false
    else
    k false
  else
  k false
def i_ClientOk (x0 : Clie) : Bool :=
  letK (α := Bool) (i_TupleOk x0.tuple) fun c1 =>
  bif c1 then
    letK (α := Bool) (i_OptionsOk x0.opts) fun c2 =>
    bif c2 then
      letK (α := Bool) (i_WordOk x0.isn 32) fun c3 =>
      bif c3 then
        letK (α := Bool) (i_WordOk x0.window 16) fun c4 =>
        c4
      else
      false
    else
    false
  else
  false
theorem i_ClientOk_lk (x0 : Clie) : evalFn te (orcOf (P := Try.prog) [i_TupleOk_e, i_OptionsOk_e, i_WordOk_e]) lorc0 [] Try.f14 (pvs [.st .clie] (x0, ())) =
  i_ClientOk_N x0 _ none (fun v => some [(false, [RC.c (.bool v)])]) := by kernel_rfl
theorem i_ClientOk_p (x0 : Clie)   (γ : Type) (fail : γ) (k : Bool → γ) : i_ClientOk_N x0 γ fail k = k (i_ClientOk x0) := by
  unfold i_ClientOk_N i_ClientOk
  exact letT (f := k) (fun c1 hc1 => bifT (f := k) (fun b0 => letT (f := k) (fun c2 hc2 => bifT (f := k) (fun b1 => letT (f := k) (fun c3 hc3 => bifT (f := k) (fun b2 => letT (f := k) (fun c4 hc4 => rfl))
      (fun b2 => rfl)))
      (fun b1 => rfl)))
      (fun b0 => rfl))
theorem i_ClientOk_c (x0 : Clie)  : Con Try.prog 14 (pvs [.st .clie] (x0, ())) [rv (.sc .bool) [] (i_ClientOk x0)] := by
  exact evalFn_con0 teFact mixFact (orcOf_ok _) Try.func14 (by kernel_rfl) ((i_ClientOk_lk x0).trans (i_ClientOk_p x0  _ _ _))
noncomputable def i_ClientOk_e : Ent1 Try.prog := entA 14 [.st .clie] (fun x => (i_ClientOk x.1)) (fun v => [rv (.sc .bool) [] v]) (fun x => i_ClientOk_c x.1)


/-- spec.ClientOk -/
def s_ClientOk_N (x0 : Clie) (γ : Type) (fail : γ) (k : Bool → γ) : γ :=
  letK (α := Bool) (s_TupleOk x0.tuple) fun c1 =>
  bif c1 then
    letK (α := Bool) (s_OptionsOk x0.opts) fun c2 =>
    bif c2 then
      letK (α := Bool) (s_WordOk x0.isn 32) fun c3 =>
      bif c3 then
        letK (α := Bool) (s_WordOk x0.window 16) fun c4 =>
        k c4
      else
      k false
    else
    k false
  else
  k false
def s_ClientOk (x0 : Clie) : Bool :=
  letK (α := Bool) (s_TupleOk x0.tuple) fun c1 =>
  bif c1 then
    letK (α := Bool) (s_OptionsOk x0.opts) fun c2 =>
    bif c2 then
      letK (α := Bool) (s_WordOk x0.isn 32) fun c3 =>
      bif c3 then
        letK (α := Bool) (s_WordOk x0.window 16) fun c4 =>
        c4
      else
      false
    else
    false
  else
  false
theorem s_ClientOk_lk (x0 : Clie) : evalFn te (orcOf (P := Try.prog) [s_TupleOk_e, s_OptionsOk_e, s_WordOk_e]) lorc0 [] Try.f15 (pvs [.st .clie] (x0, ())) =
  s_ClientOk_N x0 _ none (fun v => some [(false, [RC.c (.bool v)])]) := by kernel_rfl
theorem s_ClientOk_p (x0 : Clie)   (γ : Type) (fail : γ) (k : Bool → γ) : s_ClientOk_N x0 γ fail k = k (s_ClientOk x0) := by
  unfold s_ClientOk_N s_ClientOk
  exact letT (f := k) (fun c1 hc1 => bifT (f := k) (fun b0 => letT (f := k) (fun c2 hc2 => bifT (f := k) (fun b1 => letT (f := k) (fun c3 hc3 => bifT (f := k) (fun b2 => letT (f := k) (fun c4 hc4 => rfl))
      (fun b2 => rfl)))
      (fun b1 => rfl)))
      (fun b0 => rfl))
theorem s_ClientOk_c (x0 : Clie)  : Con Try.prog 15 (pvs [.st .clie] (x0, ())) [rv (.sc .bool) [] (s_ClientOk x0)] := by
  exact evalFn_con0 teFact mixFact (orcOf_ok _) Try.func15 (by kernel_rfl) ((s_ClientOk_lk x0).trans (s_ClientOk_p x0  _ _ _))
noncomputable def s_ClientOk_e : Ent1 Try.prog := entA 15 [.st .clie] (fun x => (s_ClientOk x.1)) (fun v => [rv (.sc .bool) [] v]) (fun x => s_ClientOk_c x.1)


/-- spec.SipHash -/
def s_SipHash_ann : List (Nat × Keep) := [(0, ⟨[2, 7, 8, 9], [], false, 0⟩)]
def s_SipHash_L0_sh : Sh := ⟨[(2, false, [.str]), (7, false, [.ptr 0 0]), (8, false, [.int .i64]), (9, false, [.int .i64])], [.box [.int .u64, .int .u64, .int .u64, .int .u64]]⟩
def s_SipHash_L0_es : List (Ex × Sh) := [(.exit 0, ⟨[(2, false, [.str]), (6, false, [.undef]), (7, false, [.ptr 0 0]), (8, false, [.int .i64]), (9, false, [.int .i64])], [.box [.int .u64, .int .u64, .int .u64, .int .u64]]⟩)]
def s_SipHash_L0_mk (v0 : Bytes) (v1 : Int) (v2 : Int) (v3 : Int) (v4 : Int) (v5 : Int) (v6 : Int) : s_SipHash_L0_sh.T := (((v0, ()), (((), ()), ((v1, ()), ((v2, ()), ())))), ((v3, (v4, (v5, (v6, ())))), ()))
def s_SipHash_L0_mx0 (y0 : Bytes) (y1 : Int) (y2 : Int) (y3 : Int) (y4 : Int) (y5 : Int) (y6 : Int) : Sh.T ⟨[(2, false, [.str]), (6, false, [.undef]), (7, false, [.ptr 0 0]), (8, false, [.int .i64]), (9, false, [.int .i64])], [.box [.int .u64, .int .u64, .int .u64, .int .u64]]⟩ := (((y0, ()), (((), ()), (((), ()), ((y1, ()), ((y2, ()), ()))))), ((y3, (y4, (y5, (y6, ())))), ()))
def s_SipHash_L0_B (v0 : Bytes) (v1 : Int) (v2 : Int) (v3 : Int) (v4 : Int) (v5 : Int) (v6 : Int) (γ : Type) (fail : γ) (next : s_SipHash_L0_sh.T → γ) (out : WT s_SipHash_L0_es → γ) : γ :=
  bif (decide ((IntKind.wrap .i64 (v2 + 8)) ≤ v1)) then
    bif (((decide (0 ≤ v2)) && (decide (v2 ≤ (IntKind.wrap .i64 (v2 + 8))))) && (decide ((IntKind.wrap .i64 (v2 + 8)) ≤ (v0.length : Int)))) then
    letK (α := Int) (s_l10Low ((v0.take ((IntKind.wrap .i64 (v2 + 8)).toNat)).drop v2.toNat)) fun c2 =>
    letK (α := Sipr) (s_SipWord (⟨v3, v4, v5, v6⟩ : Sipr) c2) fun c3 =>
    next (s_SipHash_L0_mk v0 v1 (IntKind.wrap .i64 (v2 + 8)) c3.a c3.b c3.c c3.d)
    else fail
  else
  out (s_SipHash_L0_mx0 v0 v1 v2 v3 v4 v5 v6)
theorem s_SipHash_L0_par (v0 : Bytes) (v1 : Int) (v2 : Int) (v3 : Int) (v4 : Int) (v5 : Int) (v6 : Int) (γ : Type) (fail : γ) (next : s_SipHash_L0_sh.T → γ) (out : WT s_SipHash_L0_es → γ) : s_SipHash_L0_B v0 v1 v2 v3 v4 v5 v6 γ fail next out = optK (s_SipHash_L0_B v0 v1 v2 v3 v4 v5 v6 _ none (fun v' => some (.inl v')) (fun w => some (.inr w))) fail (fun r => Sum.elim next out r) := by
  unfold s_SipHash_L0_B
  exact bifT (f := (fun o => optK o fail (fun r => Sum.elim next out r))) (fun _ => bifT (f := (fun o => optK o fail (fun r => Sum.elim next out r))) (fun _ => letT (f := (fun o => optK o fail (fun r => Sum.elim next out r))) (fun c2 _ => letT (f := (fun o => optK o fail (fun r => Sum.elim next out r))) (fun c3 _ => rfl))) (fun _ => rfl))
      (fun _ => rfl)
def s_SipHash_L0_r : Round s_SipHash_L0_sh.T (WT s_SipHash_L0_es) where
  B v γ fail next out := s_SipHash_L0_B v.1.1.1 v.1.2.2.1.1 v.1.2.2.2.1.1 v.2.1.1 v.2.1.2.1 v.2.1.2.2.1 v.2.1.2.2.2.1 γ fail next out
  par v γ fail next out := s_SipHash_L0_par v.1.1.1 v.1.2.2.1.1 v.1.2.2.2.1.1 v.2.1.1 v.2.1.2.1 v.2.1.2.2.1 v.2.1.2.2.2.1 γ fail next out
def s_SipHash_L0_fu (v0 : Bytes) (v1 : Int) (v2 : Int) (v3 : Int) (v4 : Int) (v5 : Int) (v6 : Int) : Nat := (Int.toNat (v1 - v2)) + 1
theorem s_SipHash_L0_lk (v : s_SipHash_L0_sh.T) (next : St → Option Res) (k : Ex → St → Option Res) : evalK te (orcOf (P := Try.prog) [s_SipStart_e, s_l10Low_e, s_SipWord_e, s_SipEnd_e]) (lorcOf []) Try.f180.ntmps s_SipHash_ann (nthLoop (bodyOf Try.f180) 0 0) 0 (s_SipHash_L0_sh.enc v) (endK ⟨[2, 7, 8, 9], [], false, 0⟩ ⟨[2, 6, 7, 8, 9], [], false, 0⟩ next k) =
  s_SipHash_L0_r.B v _ none (fun v' => next (s_SipHash_L0_sh.enc v')) (fun w => outK s_SipHash_L0_es k w) := by kernel_rfl
def s_SipHash_L0_le : LE := leOf 0 s_SipHash_L0_sh s_SipHash_L0_es s_SipHash_L0_r.step (fun v => s_SipHash_L0_fu v.1.1.1 v.1.2.2.1.1 v.1.2.2.2.1.1 v.2.1.1 v.2.1.2.1 v.2.1.2.2.1 v.2.1.2.2.2.1)
theorem s_SipHash_L0_ls (w0 : World) (mo : Mts) (I0 : Nat → Prop) (hmo : mo.length = 0) : LSem Try.prog (Sim w0 mo Try.f180.ntmps I0) (fun b s k => match Nat.beq 0 b with | true => s_SipHash_L0_le.run s k | false => none) 0 (nthLoop (bodyOf Try.f180) 0 0) :=
  le_sem hmo (lorc := lorcOf []) (ann := s_SipHash_ann) (keep := ⟨[2, 7, 8, 9], [], false, 0⟩) (kout := ⟨[2, 6, 7, 8, 9], [], false, 0⟩) teFact mixFact (orcOf_ok _) (by kernel_rfl) (allLoops_of (bs := []) (by kernel_rfl) trivial) s_SipHash_L0_r _ s_SipHash_L0_lk
def s_SipHash_L0_f (v0 : Bytes) (v1 : Int) (a : Int × Int × Int × Int × Int) : Stp (Int × Int × Int × Int × Int) ((Int × Int × Int × Int × Int)) :=
  bif (decide ((IntKind.wrap .i64 (a.1 + 8)) ≤ v1)) then
    letK (α := Int) (s_l10Low ((v0.take ((IntKind.wrap .i64 (a.1 + 8)).toNat)).drop a.1.toNat)) fun c2 =>
    letK (α := Sipr) (s_SipWord (⟨a.2.1, a.2.2.1, a.2.2.2.1, a.2.2.2.2⟩ : Sipr) c2) fun c3 =>
    .next ((IntKind.wrap .i64 (a.1 + 8)), c3.a, c3.b, c3.c, c3.d)
  else
  .out ((a.1, a.2.1, a.2.2.1, a.2.2.2.1, a.2.2.2.2))
def s_SipHash_L0_w (v0 : Bytes) (v1 : Int) (v2 : Int) (v3 : Int) (v4 : Int) (v5 : Int) (v6 : Int) : (Int × Int × Int × Int × Int) := whileN (s_SipHash_L0_f v0 v1) (s_SipHash_L0_fu v0 v1 v2 v3 v4 v5 v6) (v2, v3, v4, v5, v6)
theorem s_SipHash_L0_st (v0 : Bytes) (v1 : Int) (v2 : Int) (v3 : Int) (v4 : Int) (v5 : Int) (v6 : Int) (hinv : 0 ≤ v2 ∧ v2 ≤ v1 ∧ v1 = (v0.length : Int) ∧ (v0.length : Int) ≤ 4294967296) : s_SipHash_L0_r.step (s_SipHash_L0_mk v0 v1 v2 v3 v4 v5 v6) = Stp.elim (fun a' : Int × Int × Int × Int × Int => some (Sum.inl (s_SipHash_L0_mk v0 v1 a'.1 a'.2.1 a'.2.2.1 a'.2.2.2.1 a'.2.2.2.2))) (fun w => some (Sum.inr ((fun p : Int × Int × Int × Int × Int => s_SipHash_L0_mx0 v0 v1 p.1 p.2.1 p.2.2.1 p.2.2.2.1 p.2.2.2.2) w))) (s_SipHash_L0_f v0 v1 (v2, v3, v4, v5, v6)) := by
  show s_SipHash_L0_B v0 v1 v2 v3 v4 v5 v6 (Option (s_SipHash_L0_sh.T ⊕ WT s_SipHash_L0_es)) none (fun v' => some (Sum.inl v')) (fun w => some (Sum.inr w)) = _
  unfold s_SipHash_L0_B s_SipHash_L0_f
  exact bifT (f := (Stp.elim (fun a' : Int × Int × Int × Int × Int => some (Sum.inl (s_SipHash_L0_mk v0 v1 a'.1 a'.2.1 a'.2.2.1 a'.2.2.2.1 a'.2.2.2.2))) (fun w => some (Sum.inr ((fun p : Int × Int × Int × Int × Int => s_SipHash_L0_mx0 v0 v1 p.1 p.2.1 p.2.2.1 p.2.2.2.1 p.2.2.2.2) w))))) (fun b0 => bifG (by (try simp only [Nat.ble_eq, Bool.and_eq_true, decide_eq_true_eq]); grind [maxSl, maxStr, toBytes_length, toInts_length, List.length_set, wrap64]) (letT (f := (Stp.elim (fun a' : Int × Int × Int × Int × Int => some (Sum.inl (s_SipHash_L0_mk v0 v1 a'.1 a'.2.1 a'.2.2.1 a'.2.2.2.1 a'.2.2.2.2))) (fun w => some (Sum.inr ((fun p : Int × Int × Int × Int × Int => s_SipHash_L0_mx0 v0 v1 p.1 p.2.1 p.2.2.1 p.2.2.2.1 p.2.2.2.2) w))))) (fun c2 hc2 => letT (f := (Stp.elim (fun a' : Int × Int × Int × Int × Int => some (Sum.inl (s_SipHash_L0_mk v0 v1 a'.1 a'.2.1 a'.2.2.1 a'.2.2.2.1 a'.2.2.2.2))) (fun w => some (Sum.inr ((fun p : Int × Int × Int × Int × Int => s_SipHash_L0_mx0 v0 v1 p.1 p.2.1 p.2.2.1 p.2.2.2.1 p.2.2.2.2) w))))) (fun c3 hc3 => rfl))))
      (fun b0 => rfl)
theorem s_SipHash_L0_dn (v0 : Bytes) (v1 : Int) (a : Int × Int × Int × Int × Int) (hv : 0 ≤ a.1 ∧ a.1 ≤ v1 ∧ v1 = (v0.length : Int) ∧ (v0.length : Int) ≤ 4294967296) (a' : Int × Int × Int × Int × Int) (he : s_SipHash_L0_f v0 v1 a = .next a') : (0 ≤ a'.1 ∧ a'.1 ≤ v1 ∧ v1 = (v0.length : Int) ∧ (v0.length : Int) ≤ 4294967296) ∧ Int.toNat (v1 - a'.1) < Int.toNat (v1 - a.1) := by
  grind [s_SipHash_L0_f, letK, Stp.elim, wrap64]
theorem s_SipHash_L0_cl (v0 : Bytes) (v1 : Int) (v2 : Int) (v3 : Int) (v4 : Int) (v5 : Int) (v6 : Int) (h0 : 0 ≤ v2 ∧ v2 ≤ v1 ∧ v1 = (v0.length : Int) ∧ (v0.length : Int) ≤ 4294967296) : loopF s_SipHash_L0_r.step (s_SipHash_L0_fu v0 v1 v2 v3 v4 v5 v6) (s_SipHash_L0_mk v0 v1 v2 v3 v4 v5 v6) = some ((fun p : Int × Int × Int × Int × Int => s_SipHash_L0_mx0 v0 v1 p.1 p.2.1 p.2.2.1 p.2.2.2.1 p.2.2.2.2) (s_SipHash_L0_w v0 v1 v2 v3 v4 v5 v6)) :=
  while_loop (A := Int × Int × Int × Int × Int) (step := s_SipHash_L0_r.step) (mk := fun a => s_SipHash_L0_mk v0 v1 a.1 a.2.1 a.2.2.1 a.2.2.2.1 a.2.2.2.2) (f := s_SipHash_L0_f v0 v1) (emb := (fun p : Int × Int × Int × Int × Int => s_SipHash_L0_mx0 v0 v1 p.1 p.2.1 p.2.2.1 p.2.2.2.1 p.2.2.2.2)) (Inv := fun a => 0 ≤ a.1 ∧ a.1 ≤ v1 ∧ v1 = (v0.length : Int) ∧ (v0.length : Int) ≤ 4294967296) (meas := fun a => Int.toNat (v1 - a.1))
    (fun a hv => ⟨s_SipHash_L0_st v0 v1 a.1 a.2.1 a.2.2.1 a.2.2.2.1 a.2.2.2.2 hv, s_SipHash_L0_dn v0 v1 a hv⟩) _ (v2, v3, v4, v5, v6) (Nat.lt_succ_self _) h0
theorem s_SipHash_L0_post (v0 : Bytes) (v1 v2 v3 v4 v5 v6 : Int) (h : 0 ≤ v2 ∧ v2 ≤ v1 ∧ v1 = (v0.length : Int) ∧ (v0.length : Int) ≤ 4294967296) : 0 ≤ (s_SipHash_L0_w v0 v1 v2 v3 v4 v5 v6).1 ∧ (s_SipHash_L0_w v0 v1 v2 v3 v4 v5 v6).1 ≤ (v0.length : Int) := by
  refine whileN_post (f := s_SipHash_L0_f v0 v1) (Inv := fun a => 0 ≤ a.1 ∧ a.1 ≤ v1 ∧ v1 = (v0.length : Int) ∧ (v0.length : Int) ≤ 4294967296) (Q := fun w => 0 ≤ w.1 ∧ w.1 ≤ (v0.length : Int)) (meas := fun a => Int.toNat (v1 - a.1)) (fun a hi a' he => s_SipHash_L0_dn v0 v1 a hi a' he) (fun a hi w he => ?_) _ (v2, v3, v4, v5, v6) (Nat.lt_succ_self _) h
  unfold s_SipHash_L0_f at he
  cases hd : decide (IntKind.i64.wrap (a.1 + 8) ≤ v1) <;> rw [hd] at he
  · cases he; have := hi; exact ⟨this.1, by omega⟩
  · cases he

def s_SipHash_N (x0 : Int) (x1 : Int) (x2 : Bytes) (γ : Type) (fail : γ) (k : Int → γ) : γ :=
  letK (α := Sipr) (s_SipStart x0 x1) fun c1 =>
  optK (loopF s_SipHash_L0_r.step (s_SipHash_L0_fu x2 (x2.length : Int) 0 c1.a c1.b c1.c c1.d) (s_SipHash_L0_mk x2 (x2.length : Int) 0 c1.a c1.b c1.c c1.d)) fail fun w4 =>
    bif (((decide (0 ≤ w4.1.2.2.2.2.1.1)) && (decide (w4.1.2.2.2.2.1.1 ≤ (w4.1.1.1.length : Int)))) && (decide ((w4.1.1.1.length : Int) ≤ (w4.1.1.1.length : Int)))) then
    letK (α := Bytes) ((w4.1.1.1.take ((w4.1.1.1.length : Int).toNat)).drop w4.1.2.2.2.2.1.1.toNat) fun e5 =>
    letK (α := Int) (s_l10Low e5) fun c6 =>
    letK (α := Int) (IntKind.wrap .u64 ((IntKind.wrap .u64 (w4.1.2.2.2.1.1.tmod 256)) * 72057594037927936)) fun e7 =>
    letK (α := Sipr) (s_SipWord (⟨w4.2.1.1, w4.2.1.2.1, w4.2.1.2.2.1, w4.2.1.2.2.2.1⟩ : Sipr) (bits .or .u64 c6 e7)) fun c8 =>
    letK (α := Int) (s_SipEnd c8) fun c9 =>
    k c9
    else fail
def s_SipHash (x0 : Int) (x1 : Int) (x2 : Bytes) : Int :=
  letK (α := Sipr) (s_SipStart x0 x1) fun c1 =>
  letK (α := (Int × Int × Int × Int × Int)) (s_SipHash_L0_w x2 (x2.length : Int) 0 c1.a c1.b c1.c c1.d)
    (fun p10 =>
      letK (α := Int) (s_l10Low ((x2.take ((x2.length : Int).toNat)).drop p10.1.toNat)) fun c11 =>
      letK (α := Int) (IntKind.wrap .u64 ((IntKind.wrap .u64 ((x2.length : Int).tmod 256)) * 72057594037927936)) fun e12 =>
      letK (α := Sipr) (s_SipWord (⟨p10.2.1, p10.2.2.1, p10.2.2.2.1, p10.2.2.2.2⟩ : Sipr) (bits .or .u64 c11 e12)) fun c13 =>
      letK (α := Int) (s_SipEnd c13) fun c14 =>
      c14)
theorem s_SipHash_lk (x0 : Int) (x1 : Int) (x2 : Bytes) : evalFn te (orcOf (P := Try.prog) [s_SipStart_e, s_l10Low_e, s_SipWord_e, s_SipEnd_e]) (lorcOf [s_SipHash_L0_le]) s_SipHash_ann Try.f180 (pvs [.sc (.int .u64), .sc (.int .u64), .sc .str] (x0, x1, x2, ())) =
  s_SipHash_N x0 x1 x2 _ none (fun v => some [(false, [RC.c (.int .u64 v)])]) := by kernel_rfl
theorem s_SipHash_p (x0 : Int) (x1 : Int) (x2 : Bytes) (hx0 : inK .u64 x0) (hx1 : inK .u64 x1) (hx2 : List.length x2 ≤ 4611686018427387904) (hp : x2.length ≤ 4294967296) (γ : Type) (fail : γ) (k : Int → γ) : s_SipHash_N x0 x1 x2 γ fail k = k (s_SipHash x0 x1 x2) := by
  unfold s_SipHash_N s_SipHash
  exact letT (f := k) (fun c1 hc1 => loopW (f := k) (emb := (fun p : Int × Int × Int × Int × Int => s_SipHash_L0_mx0 x2 (x2.length : Int) p.1 p.2.1 p.2.2.1 p.2.2.2.1 p.2.2.2.2)) (s_SipHash_L0_cl x2 (x2.length : Int) 0 c1.a c1.b c1.c c1.d (by first | (simp only [decide_eq_true_eq]; omega) | (have hq := s_SipHash_L0_post x2 (x2.length : Int) 0 c1.a c1.b c1.c c1.d (by omega); rw [← hp10] at hq; change ((decide (0 ≤ p10.1) && decide (p10.1 ≤ (x2.length : Int))) && decide ((x2.length : Int) ≤ (x2.length : Int))) = true; simp only [Bool.and_eq_true, decide_eq_true_eq]; omega) | grind)) (fun p10 hp10 => bifG (by first | (simp only [decide_eq_true_eq]; omega) | (have hq := s_SipHash_L0_post x2 (x2.length : Int) 0 c1.a c1.b c1.c c1.d (by omega); rw [← hp10] at hq; change ((decide (0 ≤ p10.1) && decide (p10.1 ≤ (x2.length : Int))) && decide ((x2.length : Int) ≤ (x2.length : Int))) = true; simp only [Bool.and_eq_true, decide_eq_true_eq]; omega) | grind) (letL (letT (f := k) (fun c11 hc11 => letT (f := k) (fun e12 he12 => letT (f := k) (fun c13 hc13 => letT (f := k) (fun c14 hc14 => rfl))))))))
theorem s_SipHash_c (x0 : Int) (x1 : Int) (x2 : Bytes) (hp : x2.length ≤ 4294967296) : Con Try.prog 180 (pvs [.sc (.int .u64), .sc (.int .u64), .sc .str] (x0, x1, x2, ())) [rv (.sc (.int .u64)) [] (s_SipHash x0 x1 x2)] := by
  refine Con.of_facts (enters_of Try.func180 rfl (by kernel_rfl)) fun hf => ?_
  replace hf := factAt hf
  exact evalFn_conL teFact mixFact (orcOf_ok _) Try.func180 (by kernel_rfl) (bs := [0]) (by kernel_rfl) (by kernel_rfl) (fun w0 mo I0 hmo => ⟨lsem_of_lorc (s_SipHash_L0_ls w0 mo I0 hmo) (by kernel_rfl), trivial⟩) ((s_SipHash_lk x0 x1 x2).trans (s_SipHash_p x0 x1 x2 ((hf 0 0 rfl rfl).rng) ((hf 1 0 rfl rfl).rng) ((hf 2 0 rfl rfl).slen) hp _ _ _))
noncomputable def s_SipHash_e : Ent1 Try.prog := entP 180 [.sc (.int .u64), .sc (.int .u64), .sc .str] (fun x => (decide (x.2.2.1.length ≤ 4294967296))) (fun x => (s_SipHash x.1 x.2.1 x.2.2.1)) (fun v => [rv (.sc (.int .u64)) [] v]) (fun x hx => s_SipHash_c x.1 x.2.1 x.2.2.1 (of_decide_eq_true hx))


/-- spec.MacOf -/
def s_MacOf_ann : List (Nat × Keep) := [(0, ⟨[1, 2, 5], [], false, 0⟩)]
def s_MacOf_L0_sh : Sh := ⟨[(1, false, [.str]), (2, false, [.ptr 0 0]), (5, false, [.int .i64])], [.box [.bool, .int .u64, .int .u64, .sl .arg .macRow]]⟩
def s_MacOf_L0_es : List (Ex × Sh) := [(.ret, ⟨[(4, false, [.int .i64])], []⟩), (.exit 0, ⟨[(4, false, [.undef])], []⟩)]
def s_MacOf_L0_mk (v0 : Bytes) (v1 : Int) (v2 : Bool) (v3 : Int) (v4 : Int) (v5 : List MacRow) : s_MacOf_L0_sh.T := (((v0, ()), (((), ()), ((v1, ()), ()))), ((v2, (v3, (v4, (v5, ())))), ()))
def s_MacOf_L0_mx0 (y0 : Int) : Sh.T ⟨[(4, false, [.int .i64])], []⟩ := (((y0, ()), ()), ())
def s_MacOf_L0_mx1  : Sh.T ⟨[(4, false, [.undef])], []⟩ := ((((), ()), ()), ())
def s_MacOf_L0_B (v0 : Bytes) (v1 : Int) (v2 : Bool) (v3 : Int) (v4 : Int) (v5 : List MacRow) (γ : Type) (fail : γ) (next : s_MacOf_L0_sh.T → γ) (out : WT s_MacOf_L0_es → γ) : γ :=
  bif (decide (v1 < (v5.length : Int))) then
    bif ((decide (0 ≤ v1)) && (decide (v1 < (v5.length : Int)))) then
    bif ((v5.getD v1.toNat (Ty.zero .macRow)).input == v0) then
      bif ((decide (0 ≤ v1)) && (decide (v1 < (v5.length : Int)))) then
      bif (decide ((((v5.getD v1.toNat (Ty.zero .macRow)).value).tmod 16777216) < 0)) then
        letK (α := Int) (IntKind.wrap .i64 ((((v5.getD v1.toNat (Ty.zero .macRow)).value).tmod 16777216) + 16777216)) fun e2 =>
        out (Sum.inl (s_MacOf_L0_mx0 e2))
      else
      out (Sum.inl (s_MacOf_L0_mx0 (((v5.getD v1.toNat (Ty.zero .macRow)).value).tmod 16777216)))
      else fail
    else
    next (s_MacOf_L0_mk v0 (IntKind.wrap .i64 (v1 + 1)) v2 v3 v4 v5)
    else fail
  else
  out (Sum.inr (s_MacOf_L0_mx1 ))
theorem s_MacOf_L0_par (v0 : Bytes) (v1 : Int) (v2 : Bool) (v3 : Int) (v4 : Int) (v5 : List MacRow) (γ : Type) (fail : γ) (next : s_MacOf_L0_sh.T → γ) (out : WT s_MacOf_L0_es → γ) : s_MacOf_L0_B v0 v1 v2 v3 v4 v5 γ fail next out = optK (s_MacOf_L0_B v0 v1 v2 v3 v4 v5 _ none (fun v' => some (.inl v')) (fun w => some (.inr w))) fail (fun r => Sum.elim next out r) := by
  unfold s_MacOf_L0_B
  exact bifT (f := (fun o => optK o fail (fun r => Sum.elim next out r))) (fun _ => bifT (f := (fun o => optK o fail (fun r => Sum.elim next out r))) (fun _ => bifT (f := (fun o => optK o fail (fun r => Sum.elim next out r))) (fun _ => bifT (f := (fun o => optK o fail (fun r => Sum.elim next out r))) (fun _ => bifT (f := (fun o => optK o fail (fun r => Sum.elim next out r))) (fun _ => letT (f := (fun o => optK o fail (fun r => Sum.elim next out r))) (fun e2 _ => rfl))
      (fun _ => rfl)) (fun _ => rfl))
      (fun _ => rfl)) (fun _ => rfl))
      (fun _ => rfl)
def s_MacOf_L0_r : Round s_MacOf_L0_sh.T (WT s_MacOf_L0_es) where
  B v γ fail next out := s_MacOf_L0_B v.1.1.1 v.1.2.2.1.1 v.2.1.1 v.2.1.2.1 v.2.1.2.2.1 v.2.1.2.2.2.1 γ fail next out
  par v γ fail next out := s_MacOf_L0_par v.1.1.1 v.1.2.2.1.1 v.2.1.1 v.2.1.2.1 v.2.1.2.2.1 v.2.1.2.2.2.1 γ fail next out
def s_MacOf_L0_fu (v0 : Bytes) (v1 : Int) (v2 : Bool) (v3 : Int) (v4 : Int) (v5 : List MacRow) : Nat := (Int.toNat ((v5.length : Int) - v1)) + 1
theorem s_MacOf_L0_lk (v : s_MacOf_L0_sh.T) (next : St → Option Res) (k : Ex → St → Option Res) : evalK te (orcOf (P := Try.prog) [s_SipHash_e]) (lorcOf []) Try.f157.ntmps s_MacOf_ann (nthLoop (bodyOf Try.f157) 0 0) 0 (s_MacOf_L0_sh.enc v) (endK ⟨[1, 2, 5], [], false, 0⟩ ⟨[4], [], false, 0⟩ next k) =
  s_MacOf_L0_r.B v _ none (fun v' => next (s_MacOf_L0_sh.enc v')) (fun w => outK s_MacOf_L0_es k w) := by kernel_rfl
def s_MacOf_L0_le : LE := leOf 0 s_MacOf_L0_sh s_MacOf_L0_es s_MacOf_L0_r.step (fun v => s_MacOf_L0_fu v.1.1.1 v.1.2.2.1.1 v.2.1.1 v.2.1.2.1 v.2.1.2.2.1 v.2.1.2.2.2.1)
theorem s_MacOf_L0_ls (w0 : World) (mo : Mts) (I0 : Nat → Prop) (hmo : mo.length = 0) : LSem Try.prog (Sim w0 mo Try.f157.ntmps I0) (fun b s k => match Nat.beq 0 b with | true => s_MacOf_L0_le.run s k | false => none) 0 (nthLoop (bodyOf Try.f157) 0 0) :=
  le_sem hmo (lorc := lorcOf []) (ann := s_MacOf_ann) (keep := ⟨[1, 2, 5], [], false, 0⟩) (kout := ⟨[4], [], false, 0⟩) teFact mixFact (orcOf_ok _) (by kernel_rfl) (allLoops_of (bs := []) (by kernel_rfl) trivial) s_MacOf_L0_r _ s_MacOf_L0_lk
def s_MacOf_L0_f (v0 : Bytes) (v2 : Bool) (v3 : Int) (v4 : Int) (v5 : List MacRow) (v1 : Int) (a : Unit) : Stp (Unit) ((Int)) :=
  bif ((v5.getD v1.toNat (Ty.zero .macRow)).input == v0) then
    bif (decide ((((v5.getD v1.toNat (Ty.zero .macRow)).value).tmod 16777216) < 0)) then
      letK (α := Int) (IntKind.wrap .i64 ((((v5.getD v1.toNat (Ty.zero .macRow)).value).tmod 16777216) + 16777216)) fun e2 =>
      .out (e2)
    else
    .out ((((v5.getD v1.toNat (Ty.zero .macRow)).value).tmod 16777216))
  else
  .next ()
theorem s_MacOf_L0_st (v0 : Bytes) (v1 : Int) (v2 : Bool) (v3 : Int) (v4 : Int) (v5 : List MacRow) (hlo : 0 ≤ v1) (hhi : v1 < (v5.length : Int)) (hN : (v5.length : Int) ≤ 4611686018427387904) : s_MacOf_L0_r.step (s_MacOf_L0_mk v0 v1 v2 v3 v4 v5) = Stp.elim (fun a' : Unit => some (Sum.inl (s_MacOf_L0_mk v0 (v1 + 1) v2 v3 v4 v5))) (fun w => some (Sum.inr ((fun p : Int => Sum.inl (s_MacOf_L0_mx0 p)) w))) (s_MacOf_L0_f v0 v2 v3 v4 v5 v1 ()) := by
  have hw : (IntKind.wrap .i64 (v1 + 1)) = v1 + 1 := wrap64 (by omega) (by omega)
  show s_MacOf_L0_B v0 v1 v2 v3 v4 v5 (Option (s_MacOf_L0_sh.T ⊕ WT s_MacOf_L0_es)) none (fun v' => some (Sum.inl v')) (fun w => some (Sum.inr w)) = _
  unfold s_MacOf_L0_B s_MacOf_L0_f
  exact bifG (by simp only [decide_eq_true_eq]; omega) (bifG (by (try simp only [Nat.ble_eq, Bool.and_eq_true, decide_eq_true_eq]); grind [maxSl, maxStr, toBytes_length, toInts_length, List.length_set, wrap64]) (bifT (f := (Stp.elim (fun a' : Unit => some (Sum.inl (s_MacOf_L0_mk v0 (v1 + 1) v2 v3 v4 v5))) (fun w => some (Sum.inr ((fun p : Int => Sum.inl (s_MacOf_L0_mx0 p)) w))))) (fun b0 => bifG (by (try simp only [Nat.ble_eq, Bool.and_eq_true, decide_eq_true_eq]); grind [maxSl, maxStr, toBytes_length, toInts_length, List.length_set, wrap64]) (bifT (f := (Stp.elim (fun a' : Unit => some (Sum.inl (s_MacOf_L0_mk v0 (v1 + 1) v2 v3 v4 v5))) (fun w => some (Sum.inr ((fun p : Int => Sum.inl (s_MacOf_L0_mx0 p)) w))))) (fun b1 => letT (f := (Stp.elim (fun a' : Unit => some (Sum.inl (s_MacOf_L0_mk v0 (v1 + 1) v2 v3 v4 v5))) (fun w => some (Sum.inr ((fun p : Int => Sum.inl (s_MacOf_L0_mx0 p)) w))))) (fun e2 he2 => rfl))
      (fun b1 => rfl)))
      (fun b0 => (by exact congrArg (fun z => some (Sum.inl (s_MacOf_L0_mk v0 z v2 v3 v4 v5))) hw))))
theorem s_MacOf_L0_cl (v0 : Bytes) (v1 : Int) (v2 : Bool) (v3 : Int) (v4 : Int) (v5 : List MacRow) (h0 : 0 ≤ v1) (h1 : (v5.length : Int) ≤ 4611686018427387904) : loopF s_MacOf_L0_r.step (s_MacOf_L0_fu v0 v1 v2 v3 v4 v5) (s_MacOf_L0_mk v0 v1 v2 v3 v4 v5) = some (Stp.elim (fun a => (fun i a => Sum.inr (s_MacOf_L0_mx1 )) (v1 + 1 * (((Int.toNat ((v5.length : Int) - v1)) : Nat) : Int)) a) (fun p : Int => Sum.inl (s_MacOf_L0_mx0 p)) (forN (s_MacOf_L0_f v0 v2 v3 v4 v5) 1 (Int.toNat ((v5.length : Int) - v1)) v1 ())) :=
  forN_loop (step := s_MacOf_L0_r.step) (mk := fun v1 a => s_MacOf_L0_mk v0 v1 v2 v3 v4 v5) (f := s_MacOf_L0_f v0 v2 v3 v4 v5) (e := (fun i a => Sum.inr (s_MacOf_L0_mx1 ))) (emb := (fun p : Int => Sum.inl (s_MacOf_L0_mx0 p))) (st := 1) (Inv := fun v1 a => True) (Int.toNat ((v5.length : Int) - v1)) v1 () _ (Nat.lt_succ_self _) trivial
    (fun j a hj hv => ⟨s_MacOf_L0_st v0 (v1 + 1 * (j : Int)) v2 v3 v4 v5 (by omega) (by omega) (by omega), fun _ _ => trivial⟩)
    (fun a hv => by
      show s_MacOf_L0_B v0 (v1 + 1 * (((Int.toNat ((v5.length : Int) - v1)) : Nat) : Int)) v2 v3 v4 v5 (Option (s_MacOf_L0_sh.T ⊕ WT s_MacOf_L0_es)) none (fun v' => some (Sum.inl v')) (fun w => some (Sum.inr w)) = _
      unfold s_MacOf_L0_B
      exact bifN (by simp only [decide_eq_false_iff_not]; omega) rfl)
def s_MacOf_N (x0 : Mac) (x1 : Bytes) (γ : Type) (fail : γ) (k : Int → γ) : γ :=
  bif (!x0.use) then
    bif (decide (x1.length ≤ 4294967296)) then
    letK (α := Int) (s_SipHash x0.k x0.l x1) fun c1 =>
    k (IntKind.wrap .i64 (c1.tmod 16777216))
    else fail
  else
  optK (loopF s_MacOf_L0_r.step (s_MacOf_L0_fu x1 0 x0.use x0.k x0.l x0.rows) (s_MacOf_L0_mk x1 0 x0.use x0.k x0.l x0.rows)) fail fun w3 =>
    Sum.elim (fun w3 =>
      k w3.1.1.1)
    (fun w3 =>
      k 0) w3
def s_MacOf (x0 : Mac) (x1 : Bytes) : Int :=
  bif (!x0.use) then
    letK (α := Int) (s_SipHash x0.k x0.l x1) fun c1 =>
    (IntKind.wrap .i64 (c1.tmod 16777216))
  else
  Stp.elim (fun a4 =>
    0)
    (fun p4 =>
      p4)
    (forN (s_MacOf_L0_f x1 x0.use x0.k x0.l x0.rows) 1 (Int.toNat ((x0.rows.length : Int) - 0)) 0 ())
theorem s_MacOf_lk (x0 : Mac) (x1 : Bytes) : evalFn te (orcOf (P := Try.prog) [s_SipHash_e]) (lorcOf [s_MacOf_L0_le]) s_MacOf_ann Try.f157 (pvs [.st .mac, .sc .str] (x0, x1, ())) =
  s_MacOf_N x0 x1 _ none (fun v => some [(false, [RC.c (.int .i64 v)])]) := by kernel_rfl
theorem s_MacOf_p (x0 : Mac) (x1 : Bytes) (hx0_k : inK .u64 x0.k) (hx0_l : inK .u64 x0.l) (hx0_rows : x0.rows.length ≤ 140737488355328) (hx0_rows_e : ∀ y ∈ x0.rows, ∀ c ∈ Ty.cells .macRow y, FactC c) (hx1 : List.length x1 ≤ 4611686018427387904) (hp : x0.rows.length ≤ 4294967296 ∧ x1.length ≤ 4294967296) (γ : Type) (fail : γ) (k : Int → γ) : s_MacOf_N x0 x1 γ fail k = k (s_MacOf x0 x1) := by
  unfold s_MacOf_N s_MacOf
  exact bifT (f := k) (fun b0 => bifG (by (try simp only [Nat.ble_eq, Bool.and_eq_true, decide_eq_true_eq, s_MacOf_L0_mx0, s_MacOf_L0_mx1]); grind [maxSl, maxStr, toBytes_length, toInts_length, List.length_set, wrap64]) (letT (f := k) (fun c1 hc1 => rfl)))
      (fun b0 => loopT (f := k) (s_MacOf_L0_cl x1 0 x0.use x0.k x0.l x0.rows (by (try simp only [Nat.ble_eq, Bool.and_eq_true, decide_eq_true_eq, s_MacOf_L0_mx0, s_MacOf_L0_mx1]); grind [maxSl, maxStr, toBytes_length, toInts_length, List.length_set, wrap64]) (by (try simp only [Nat.ble_eq, Bool.and_eq_true, decide_eq_true_eq, s_MacOf_L0_mx0, s_MacOf_L0_mx1]); grind [maxSl, maxStr, toBytes_length, toInts_length, List.length_set, wrap64])) (fun a4 => rfl)
      (fun p4 => rfl))
theorem s_MacOf_c (x0 : Mac) (x1 : Bytes) (hp : x0.rows.length ≤ 4294967296 ∧ x1.length ≤ 4294967296) : Con Try.prog 157 (pvs [.st .mac, .sc .str] (x0, x1, ())) [rv (.sc (.int .i64)) [] (s_MacOf x0 x1)] := by
  refine Con.of_facts (enters_of Try.func157 rfl (by kernel_rfl)) fun hf => ?_
  replace hf := factAt hf
  exact evalFn_conL teFact mixFact (orcOf_ok _) Try.func157 (by kernel_rfl) (bs := [0]) (by kernel_rfl) (by kernel_rfl) (fun w0 mo I0 hmo => ⟨lsem_of_lorc (s_MacOf_L0_ls w0 mo I0 hmo) (by kernel_rfl), trivial⟩) ((s_MacOf_lk x0 x1).trans (s_MacOf_p x0 x1 ((hf 0 1 rfl rfl).rng) ((hf 0 2 rfl rfl).rng) ((hf 0 3 rfl rfl).len) (fun y hy => (hf 0 3 rfl rfl).elem hy) ((hf 1 0 rfl rfl).slen) hp _ _ _))
noncomputable def s_MacOf_e : Ent1 Try.prog := entP 157 [.st .mac, .sc .str] (fun x => (decide (x.1.rows.length ≤ 4294967296 ∧ x.2.1.length ≤ 4294967296))) (fun x => (s_MacOf x.1 x.2.1)) (fun v => [rv (.sc (.int .i64)) [] v]) (fun x hx => s_MacOf_c x.1 x.2.1 (of_decide_eq_true hx))


/-- spec.l1Byte -/
def s_l1Byte_N (y0 : Curs) (γ : Type) (fail : γ) (k : Int × Curs → γ) : γ :=
  letK (α := Int) (IntKind.wrap .i64 ((IntKind.wrap .i64 (y0.h * 6364136223846793005)) + 1442695040888963407)) fun e1 =>
  letK (α := Int) (bits .and .i64 (bits .xor .i64 (e1.fdiv 8589934592) (e1.fdiv 35184372088832)) 255) fun e2 =>
  bif (decide (y0.i < (y0.b.length : Int))) then
    bif ((decide (0 ≤ y0.i)) && (decide (y0.i < (y0.b.length : Int)))) then
    letK (α := Int) (IntKind.wrap .i64 (e2 + (IntKind.wrap .i64 (y0.b.getD y0.i.toNat 0)))) fun e3 =>
    k ((bits .and .i64 e3 255), (⟨y0.b, (IntKind.wrap .i64 (y0.i + 1)), e1⟩ : Curs))
    else fail
  else
  k (e2, ({ y0 with h := e1 } : Curs))
def s_l1Byte (y0 : Curs) : Int × Curs :=
  letK (α := Int) (IntKind.wrap .i64 ((IntKind.wrap .i64 (y0.h * 6364136223846793005)) + 1442695040888963407)) fun e1 =>
  letK (α := Int) (bits .and .i64 (bits .xor .i64 (e1.fdiv 8589934592) (e1.fdiv 35184372088832)) 255) fun e2 =>
  bif (decide (y0.i < (y0.b.length : Int))) then
    letK (α := Int) (IntKind.wrap .i64 (e2 + (IntKind.wrap .i64 (y0.b.getD y0.i.toNat 0)))) fun e3 =>
    ((bits .and .i64 e3 255), (⟨y0.b, (IntKind.wrap .i64 (y0.i + 1)), e1⟩ : Curs))
  else
  (e2, ({ y0 with h := e1 } : Curs))
theorem s_l1Byte_lk (y0 : Curs) : evalFnM te (orcOf (P := Try.prog) []) lorc0 [] Try.f99 (pvs [.wr false [.ptr 0]] ((), ())) (mos [.box [.c (.sl .u8), .c (.int .i64), .c (.int .i64)]] ((y0.b, y0.i, y0.h, ()), ())) =
  s_l1Byte_N y0 _ none (fun v => some ([(false, [RC.c (.int .i64 v.1)])] ++ (mos [.box [.c (.sl .u8), .c (.int .i64), .c (.int .i64)]] ((v.2.b, v.2.i, v.2.h, ()), ())).map encO)) := by kernel_rfl
theorem s_l1Byte_p (y0 : Curs) (hy0_b : y0.b.length ≤ 140737488355328) (hy0_i : inK .i64 y0.i) (hy0_h : inK .i64 y0.h) (hp : 0 ≤ y0.i ∧ y0.b.length ≤ 1048576) (γ : Type) (fail : γ) (k : Int × Curs → γ) : s_l1Byte_N y0 γ fail k = k (s_l1Byte y0) := by
  unfold s_l1Byte_N s_l1Byte
  exact letT (f := k) (fun e1 he1 => letT (f := k) (fun e2 he2 => bifT (f := k) (fun b0 => bifG (by (try simp only [Nat.ble_eq, Bool.and_eq_true, decide_eq_true_eq]); grind [maxSl, maxStr, toBytes_length, toInts_length, List.length_set, wrap64, and255]) (letT (f := k) (fun e3 he3 => rfl)))
      (fun b0 => rfl)))
theorem s_l1Byte_c (y0 : Curs) (hp : 0 ≤ y0.i ∧ y0.b.length ≤ 1048576) : ConM Try.prog 99 (pvs [.wr false [.ptr 0]] ((), ())) (mos [.box [.c (.sl .u8), .c (.int .i64), .c (.int .i64)]] ((y0.b, y0.i, y0.h, ()), ())) [rv (.sc (.int .i64)) [] (s_l1Byte y0).1] (mos [.box [.c (.sl .u8), .c (.int .i64), .c (.int .i64)]] ((((s_l1Byte y0).2).b, ((s_l1Byte y0).2).i, ((s_l1Byte y0).2).h, ()), ())) := by
  refine ConM.of_facts (enters_of Try.func99 rfl (by kernel_rfl)) fun hf hg => ?_
  replace hf := factAt hf
  exact evalFn_conLM teFact mixFact (orcOf_ok _) Try.func99 (by kernel_rfl) (bs := []) (by kernel_rfl) (by kernel_rfl) (by kernel_rfl) rfl (fun w0 mo I0 hmo => trivial) ((s_l1Byte_lk y0).trans (s_l1Byte_p y0 ((mbAt hg 0 0 rfl rfl).len) ((mbAt hg 0 1 rfl rfl).rng) ((mbAt hg 0 2 rfl rfl).rng) hp _ _ _))
noncomputable def s_l1Byte_e : Ent1 Try.prog := entM 99 [.wr false [.ptr 0]] [.box [.c (.sl .u8), .c (.int .i64), .c (.int .i64)]] (fun x y => (decide (0 ≤ (⟨y.1.1, y.1.2.1, y.1.2.2.1⟩ : Curs).i ∧ (⟨y.1.1, y.1.2.1, y.1.2.2.1⟩ : Curs).b.length ≤ 1048576))) (fun x y => (s_l1Byte (⟨y.1.1, y.1.2.1, y.1.2.2.1⟩ : Curs))) (fun v => [rv (.sc (.int .i64)) [] v.1]) (fun x y v => (mos [.box [.c (.sl .u8), .c (.int .i64), .c (.int .i64)]] ((v.2.b, v.2.i, v.2.h, ()), ()))) (fun x y hx => s_l1Byte_c (⟨y.1.1, y.1.2.1, y.1.2.2.1⟩ : Curs) (of_decide_eq_true hx))

theorem s_l1Byte_cur (y0 : Curs)  (hc0 : 0 ≤ y0.i ∧ y0.b.length ≤ 1048576) : 0 ≤ (s_l1Byte y0).2.i ∧ (s_l1Byte y0).2.b.length ≤ 1048576 := by
  unfold s_l1Byte
  exact letP (P := (fun v : Int × Curs => 0 ≤ v.2.i ∧ v.2.b.length ≤ 1048576)) (fun e1 he1 => letP (P := (fun v : Int × Curs => 0 ≤ v.2.i ∧ v.2.b.length ≤ 1048576)) (fun e2 he2 => bifP (P := (fun v : Int × Curs => 0 ≤ v.2.i ∧ v.2.b.length ≤ 1048576)) (fun b0 => letP (P := (fun v : Int × Curs => 0 ≤ v.2.i ∧ v.2.b.length ≤ 1048576)) (fun e3 he3 => (by (try simp only [Nat.ble_eq, Bool.and_eq_true, decide_eq_true_eq]); grind [maxSl, maxStr, toBytes_length, toInts_length, List.length_set, wrap64])))
      (fun b0 => (by (try simp only [Nat.ble_eq, Bool.and_eq_true, decide_eq_true_eq]); grind [maxSl, maxStr, toBytes_length, toInts_length, List.length_set, wrap64]))))
theorem s_l1Byte_rng (y0 : Curs) (hp : 0 ≤ y0.i ∧ y0.b.length ≤ 1048576)  : (fun v : Int × Curs => 0 ≤ v.1 ∧ v.1 ≤ 255) (s_l1Byte y0) := by
  unfold s_l1Byte
  exact letP (P := (fun v : Int × Curs => 0 ≤ v.1 ∧ v.1 ≤ 255)) (fun e1 he1 => letP (P := (fun v : Int × Curs => 0 ≤ v.1 ∧ v.1 ≤ 255)) (fun e2 he2 => bifP (P := (fun v : Int × Curs => 0 ≤ v.1 ∧ v.1 ≤ 255)) (fun b0 => letP (P := (fun v : Int × Curs => 0 ≤ v.1 ∧ v.1 ≤ 255)) (fun e3 he3 => (by subst_vars; exact and255 _)))
      (fun b0 => (by subst_vars; exact and255 _))))

/-- spec.CookieOf -/
def s_CookieOf_N (x0 : Mac) (x1 : Tupl) (x2 : Int) (x3 : Int) (x4 : Int) (γ : Type) (fail : γ) (k : Int → γ) : γ :=
  letK (α := Bytes) (s_MacInput x1 x2 x3 x4) fun c1 =>
  bif (c1 == []) then
    k (-1)
  else
  letK (α := Int) (IntKind.wrap .i64 ((IntKind.wrap .i64 ((x3.tmod 32) * 134217728)) + (IntKind.wrap .i64 (x4 * 16777216)))) fun e2 =>
  bif (decide (x0.rows.length ≤ 4294967296 ∧ c1.length ≤ 4294967296)) then
  letK (α := Int) (s_MacOf x0 c1) fun c3 =>
  k (IntKind.wrap .i64 (e2 + c3))
  else fail
def s_CookieOf (x0 : Mac) (x1 : Tupl) (x2 : Int) (x3 : Int) (x4 : Int) : Int :=
  letK (α := Bytes) (s_MacInput x1 x2 x3 x4) fun c1 =>
  bif (c1 == []) then
    (-1)
  else
  letK (α := Int) (IntKind.wrap .i64 ((IntKind.wrap .i64 ((x3.tmod 32) * 134217728)) + (IntKind.wrap .i64 (x4 * 16777216)))) fun e2 =>
  letK (α := Int) (s_MacOf x0 c1) fun c3 =>
  (IntKind.wrap .i64 (e2 + c3))
theorem s_CookieOf_lk (x0 : Mac) (x1 : Tupl) (x2 : Int) (x3 : Int) (x4 : Int) : evalFn te (orcOf (P := Try.prog) [s_MacInput_e, s_MacOf_e]) lorc0 [] Try.f118 (pvs [.st .mac, .st .tupl, .sc (.int .i64), .sc (.int .i64), .sc (.int .i64)] (x0, x1, x2, x3, x4, ())) =
  s_CookieOf_N x0 x1 x2 x3 x4 _ none (fun v => some [(false, [RC.c (.int .i64 v)])]) := by kernel_rfl
theorem s_CookieOf_p (x0 : Mac) (x1 : Tupl) (x2 : Int) (x3 : Int) (x4 : Int) (hx0_k : inK .u64 x0.k) (hx0_l : inK .u64 x0.l) (hx0_rows : x0.rows.length ≤ 140737488355328) (hx0_rows_e : ∀ y ∈ x0.rows, ∀ c ∈ Ty.cells .macRow y, FactC c) (hx1_ip : inK .i64 x1.ip) (hx1_port : inK .i64 x1.port) (hx1_my : inK .i64 x1.my) (hx2 : inK .i64 x2) (hx3 : inK .i64 x3) (hx4 : inK .i64 x4) (hp : x0.rows.length ≤ 4294967296) (γ : Type) (fail : γ) (k : Int → γ) : s_CookieOf_N x0 x1 x2 x3 x4 γ fail k = k (s_CookieOf x0 x1 x2 x3 x4) := by
  unfold s_CookieOf_N s_CookieOf
  exact letT (f := k) (fun c1 hc1 => bifT (f := k) (fun b0 => rfl)
      (fun b0 => letT (f := k) (fun e2 he2 => bifG (by (try simp only [Nat.ble_eq, Bool.and_eq_true, decide_eq_true_eq]); grind [maxSl, maxStr, toBytes_length, toInts_length, List.length_set, wrap64, s_MacInput_len]) (letT (f := k) (fun c3 hc3 => rfl)))))
theorem s_CookieOf_c (x0 : Mac) (x1 : Tupl) (x2 : Int) (x3 : Int) (x4 : Int) (hp : x0.rows.length ≤ 4294967296) : Con Try.prog 118 (pvs [.st .mac, .st .tupl, .sc (.int .i64), .sc (.int .i64), .sc (.int .i64)] (x0, x1, x2, x3, x4, ())) [rv (.sc (.int .i64)) [] (s_CookieOf x0 x1 x2 x3 x4)] := by
  refine Con.of_facts (enters_of Try.func118 rfl (by kernel_rfl)) fun hf => ?_
  replace hf := factAt hf
  exact evalFn_con0 teFact mixFact (orcOf_ok _) Try.func118 (by kernel_rfl) ((s_CookieOf_lk x0 x1 x2 x3 x4).trans (s_CookieOf_p x0 x1 x2 x3 x4 ((hf 0 1 rfl rfl).rng) ((hf 0 2 rfl rfl).rng) ((hf 0 3 rfl rfl).len) (fun y hy => (hf 0 3 rfl rfl).elem hy) ((hf 1 0 rfl rfl).rng) ((hf 1 1 rfl rfl).rng) ((hf 1 2 rfl rfl).rng) ((hf 2 0 rfl rfl).rng) ((hf 3 0 rfl rfl).rng) ((hf 4 0 rfl rfl).rng) hp _ _ _))
noncomputable def s_CookieOf_e : Ent1 Try.prog := entP 118 [.st .mac, .st .tupl, .sc (.int .i64), .sc (.int .i64), .sc (.int .i64)] (fun x => (decide (x.1.rows.length ≤ 4294967296))) (fun x => (s_CookieOf x.1 x.2.1 x.2.2.1 x.2.2.2.1 x.2.2.2.2.1)) (fun v => [rv (.sc (.int .i64)) [] v]) (fun x hx => s_CookieOf_c x.1 x.2.1 x.2.2.1 x.2.2.2.1 x.2.2.2.2.1 (of_decide_eq_true hx))


/-- spec.l1Below -/
def s_l1Below_N (y0 : Curs) (x1 : Int) (γ : Type) (fail : γ) (k : Int × Curs → γ) : γ :=
  bif (decide (x1 ≤ 0)) then
    k (0, y0)
  else
  bif (decide (x1 ≤ 256)) then
    bif (decide (0 ≤ y0.i ∧ y0.b.length ≤ 1048576)) then
    letK (α := Int × Curs) (s_l1Byte y0) fun c1 =>
    bif (x1 != 0) then
    k ((c1.1.tmod x1), c1.2)
    else fail
    else fail
  else
  bif (decide (0 ≤ y0.i ∧ y0.b.length ≤ 1048576)) then
  letK (α := Int × Curs) (s_l1Byte y0) fun c2 =>
  bif (decide (0 ≤ c2.2.i ∧ c2.2.b.length ≤ 1048576)) then
  letK (α := Int × Curs) (s_l1Byte c2.2) fun c3 =>
  bif (decide (0 ≤ c3.2.i ∧ c3.2.b.length ≤ 1048576)) then
  letK (α := Int × Curs) (s_l1Byte c3.2) fun c4 =>
  bif (decide (0 ≤ c4.2.i ∧ c4.2.b.length ≤ 1048576)) then
  letK (α := Int × Curs) (s_l1Byte c4.2) fun c5 =>
  letK (α := Int) (IntKind.wrap .i64 ((IntKind.wrap .i64 (c2.1 * 16777216)) + (IntKind.wrap .i64 (c3.1 * 65536)))) fun e6 =>
  letK (α := Int) (IntKind.wrap .i64 ((IntKind.wrap .i64 (e6 + (IntKind.wrap .i64 (c4.1 * 256)))) + c5.1)) fun e7 =>
  bif (x1 != 0) then
  k ((e7.tmod x1), c5.2)
  else fail
  else fail
  else fail
  else fail
  else fail
def s_l1Below (y0 : Curs) (x1 : Int) : Int × Curs :=
  bif (decide (x1 ≤ 0)) then
    (0, y0)
  else
  bif (decide (x1 ≤ 256)) then
    letK (α := Int × Curs) (s_l1Byte y0) fun c1 =>
    ((c1.1.tmod x1), c1.2)
  else
  letK (α := Int × Curs) (s_l1Byte y0) fun c2 =>
  letK (α := Int × Curs) (s_l1Byte c2.2) fun c3 =>
  letK (α := Int × Curs) (s_l1Byte c3.2) fun c4 =>
  letK (α := Int × Curs) (s_l1Byte c4.2) fun c5 =>
  letK (α := Int) (IntKind.wrap .i64 ((IntKind.wrap .i64 (c2.1 * 16777216)) + (IntKind.wrap .i64 (c3.1 * 65536)))) fun e6 =>
  letK (α := Int) (IntKind.wrap .i64 ((IntKind.wrap .i64 (e6 + (IntKind.wrap .i64 (c4.1 * 256)))) + c5.1)) fun e7 =>
  ((e7.tmod x1), c5.2)
theorem s_l1Below_lk (y0 : Curs) (x1 : Int) : evalFnM te (orcOf (P := Try.prog) [s_l1Byte_e]) lorc0 [] Try.f42 (pvs [.wr false [.ptr 0], .sc (.int .i64)] ((), x1, ())) (mos [.box [.c (.sl .u8), .c (.int .i64), .c (.int .i64)]] ((y0.b, y0.i, y0.h, ()), ())) =
  s_l1Below_N y0 x1 _ none (fun v => some ([(false, [RC.c (.int .i64 v.1)])] ++ (mos [.box [.c (.sl .u8), .c (.int .i64), .c (.int .i64)]] ((v.2.b, v.2.i, v.2.h, ()), ())).map encO)) := by kernel_rfl
theorem s_l1Below_p (y0 : Curs) (x1 : Int) (hx1 : inK .i64 x1) (hy0_b : y0.b.length ≤ 140737488355328) (hy0_i : inK .i64 y0.i) (hy0_h : inK .i64 y0.h) (hp : 0 ≤ y0.i ∧ y0.b.length ≤ 1048576) (γ : Type) (fail : γ) (k : Int × Curs → γ) : s_l1Below_N y0 x1 γ fail k = k (s_l1Below y0 x1) := by
  unfold s_l1Below_N s_l1Below
  exact bifT (f := k) (fun b0 => rfl)
      (fun b0 => bifT (f := k) (fun b1 => bifG (by (try simp only [Nat.ble_eq, Bool.and_eq_true, decide_eq_true_eq]); grind [maxSl, maxStr, toBytes_length, toInts_length, List.length_set, wrap64, tmod_nn, tmod_lt, s_l1Byte_rng, s_l1Byte_cur]) (letT (f := k) (fun c1 hc1 => have rc1 := s_l1Byte_rng y0 (by first | assumption | exact ⟨by assumption, by assumption⟩ | grind [maxSl, wrap64]); have kc1 : 0 ≤ c1.2.i ∧ c1.2.b.length ≤ 1048576 := (by rw [hc1]; exact s_l1Byte_cur _ (by first | assumption | exact ⟨by assumption, by assumption⟩ | grind [maxSl, wrap64])); bifG (by (try simp only [Nat.ble_eq, Bool.and_eq_true, decide_eq_true_eq]); grind [maxSl, maxStr, toBytes_length, toInts_length, List.length_set, wrap64, tmod_nn, tmod_lt, s_l1Byte_rng, s_l1Byte_cur]) (rfl))))
      (fun b1 => bifG (by (try simp only [Nat.ble_eq, Bool.and_eq_true, decide_eq_true_eq]); grind [maxSl, maxStr, toBytes_length, toInts_length, List.length_set, wrap64, tmod_nn, tmod_lt, s_l1Byte_rng, s_l1Byte_cur]) (letT (f := k) (fun c2 hc2 => have rc2 := s_l1Byte_rng y0 (by first | assumption | exact ⟨by assumption, by assumption⟩ | grind [maxSl, wrap64]); have kc2 : 0 ≤ c2.2.i ∧ c2.2.b.length ≤ 1048576 := (by rw [hc2]; exact s_l1Byte_cur _ (by first | assumption | exact ⟨by assumption, by assumption⟩ | grind [maxSl, wrap64])); bifG (by (try simp only [Nat.ble_eq, Bool.and_eq_true, decide_eq_true_eq]); grind [maxSl, maxStr, toBytes_length, toInts_length, List.length_set, wrap64, tmod_nn, tmod_lt, s_l1Byte_rng, s_l1Byte_cur]) (letT (f := k) (fun c3 hc3 => have rc3 := s_l1Byte_rng c2.2 (by first | assumption | exact ⟨by assumption, by assumption⟩ | grind [maxSl, wrap64]); have kc3 : 0 ≤ c3.2.i ∧ c3.2.b.length ≤ 1048576 := (by rw [hc3]; exact s_l1Byte_cur _ (by first | assumption | exact ⟨by assumption, by assumption⟩ | grind [maxSl, wrap64])); bifG (by (try simp only [Nat.ble_eq, Bool.and_eq_true, decide_eq_true_eq]); grind [maxSl, maxStr, toBytes_length, toInts_length, List.length_set, wrap64, tmod_nn, tmod_lt, s_l1Byte_rng, s_l1Byte_cur]) (letT (f := k) (fun c4 hc4 => have rc4 := s_l1Byte_rng c3.2 (by first | assumption | exact ⟨by assumption, by assumption⟩ | grind [maxSl, wrap64]); have kc4 : 0 ≤ c4.2.i ∧ c4.2.b.length ≤ 1048576 := (by rw [hc4]; exact s_l1Byte_cur _ (by first | assumption | exact ⟨by assumption, by assumption⟩ | grind [maxSl, wrap64])); bifG (by (try simp only [Nat.ble_eq, Bool.and_eq_true, decide_eq_true_eq]); grind [maxSl, maxStr, toBytes_length, toInts_length, List.length_set, wrap64, tmod_nn, tmod_lt, s_l1Byte_rng, s_l1Byte_cur]) (letT (f := k) (fun c5 hc5 => have rc5 := s_l1Byte_rng c4.2 (by first | assumption | exact ⟨by assumption, by assumption⟩ | grind [maxSl, wrap64]); have kc5 : 0 ≤ c5.2.i ∧ c5.2.b.length ≤ 1048576 := (by rw [hc5]; exact s_l1Byte_cur _ (by first | assumption | exact ⟨by assumption, by assumption⟩ | grind [maxSl, wrap64])); letT (f := k) (fun e6 he6 => letT (f := k) (fun e7 he7 => bifG (by (try simp only [Nat.ble_eq, Bool.and_eq_true, decide_eq_true_eq]); grind [maxSl, maxStr, toBytes_length, toInts_length, List.length_set, wrap64, tmod_nn, tmod_lt, s_l1Byte_rng, s_l1Byte_cur]) (rfl)))))))))))))
theorem s_l1Below_c (y0 : Curs) (x1 : Int) (hp : 0 ≤ y0.i ∧ y0.b.length ≤ 1048576) : ConM Try.prog 42 (pvs [.wr false [.ptr 0], .sc (.int .i64)] ((), x1, ())) (mos [.box [.c (.sl .u8), .c (.int .i64), .c (.int .i64)]] ((y0.b, y0.i, y0.h, ()), ())) [rv (.sc (.int .i64)) [] (s_l1Below y0 x1).1] (mos [.box [.c (.sl .u8), .c (.int .i64), .c (.int .i64)]] ((((s_l1Below y0 x1).2).b, ((s_l1Below y0 x1).2).i, ((s_l1Below y0 x1).2).h, ()), ())) := by
  refine ConM.of_facts (enters_of Try.func42 rfl (by kernel_rfl)) fun hf hg => ?_
  replace hf := factAt hf
  exact evalFn_conLM teFact mixFact (orcOf_ok _) Try.func42 (by kernel_rfl) (bs := []) (by kernel_rfl) (by kernel_rfl) (by kernel_rfl) rfl (fun w0 mo I0 hmo => trivial) ((s_l1Below_lk y0 x1).trans (s_l1Below_p y0 x1 ((hf 1 0 rfl rfl).rng) ((mbAt hg 0 0 rfl rfl).len) ((mbAt hg 0 1 rfl rfl).rng) ((mbAt hg 0 2 rfl rfl).rng) hp _ _ _))
noncomputable def s_l1Below_e : Ent1 Try.prog := entM 42 [.wr false [.ptr 0], .sc (.int .i64)] [.box [.c (.sl .u8), .c (.int .i64), .c (.int .i64)]] (fun x y => (decide (0 ≤ (⟨y.1.1, y.1.2.1, y.1.2.2.1⟩ : Curs).i ∧ (⟨y.1.1, y.1.2.1, y.1.2.2.1⟩ : Curs).b.length ≤ 1048576))) (fun x y => (s_l1Below (⟨y.1.1, y.1.2.1, y.1.2.2.1⟩ : Curs) x.2.1)) (fun v => [rv (.sc (.int .i64)) [] v.1]) (fun x y v => (mos [.box [.c (.sl .u8), .c (.int .i64), .c (.int .i64)]] ((v.2.b, v.2.i, v.2.h, ()), ()))) (fun x y hx => s_l1Below_c (⟨y.1.1, y.1.2.1, y.1.2.2.1⟩ : Curs) x.2.1 (of_decide_eq_true hx))

theorem s_l1Below_cur (y0 : Curs) (x1 : Int)  (hc0 : 0 ≤ y0.i ∧ y0.b.length ≤ 1048576) : 0 ≤ (s_l1Below y0 x1).2.i ∧ (s_l1Below y0 x1).2.b.length ≤ 1048576 := by
  unfold s_l1Below
  exact bifP (P := (fun v : Int × Curs => 0 ≤ v.2.i ∧ v.2.b.length ≤ 1048576)) (fun b0 => (by (try simp only [Nat.ble_eq, Bool.and_eq_true, decide_eq_true_eq]); grind [maxSl, maxStr, toBytes_length, toInts_length, List.length_set, wrap64, s_l1Byte_rng, s_l1Byte_cur]))
      (fun b0 => bifP (P := (fun v : Int × Curs => 0 ≤ v.2.i ∧ v.2.b.length ≤ 1048576)) (fun b1 => letP (P := (fun v : Int × Curs => 0 ≤ v.2.i ∧ v.2.b.length ≤ 1048576)) (fun c1 hc1 => have rc1 := s_l1Byte_rng y0 (by first | assumption | exact ⟨by assumption, by assumption⟩ | grind [maxSl, wrap64]); have kc1 : 0 ≤ c1.2.i ∧ c1.2.b.length ≤ 1048576 := (by rw [hc1]; exact s_l1Byte_cur _ (by first | assumption | exact ⟨by assumption, by assumption⟩ | grind [maxSl, wrap64])); (by (try simp only [Nat.ble_eq, Bool.and_eq_true, decide_eq_true_eq]); grind [maxSl, maxStr, toBytes_length, toInts_length, List.length_set, wrap64, s_l1Byte_rng, s_l1Byte_cur])))
      (fun b1 => letP (P := (fun v : Int × Curs => 0 ≤ v.2.i ∧ v.2.b.length ≤ 1048576)) (fun c2 hc2 => have rc2 := s_l1Byte_rng y0 (by first | assumption | exact ⟨by assumption, by assumption⟩ | grind [maxSl, wrap64]); have kc2 : 0 ≤ c2.2.i ∧ c2.2.b.length ≤ 1048576 := (by rw [hc2]; exact s_l1Byte_cur _ (by first | assumption | exact ⟨by assumption, by assumption⟩ | grind [maxSl, wrap64])); letP (P := (fun v : Int × Curs => 0 ≤ v.2.i ∧ v.2.b.length ≤ 1048576)) (fun c3 hc3 => have rc3 := s_l1Byte_rng c2.2 (by first | assumption | exact ⟨by assumption, by assumption⟩ | grind [maxSl, wrap64]); have kc3 : 0 ≤ c3.2.i ∧ c3.2.b.length ≤ 1048576 := (by rw [hc3]; exact s_l1Byte_cur _ (by first | assumption | exact ⟨by assumption, by assumption⟩ | grind [maxSl, wrap64])); letP (P := (fun v : Int × Curs => 0 ≤ v.2.i ∧ v.2.b.length ≤ 1048576)) (fun c4 hc4 => have rc4 := s_l1Byte_rng c3.2 (by first | assumption | exact ⟨by assumption, by assumption⟩ | grind [maxSl, wrap64]); have kc4 : 0 ≤ c4.2.i ∧ c4.2.b.length ≤ 1048576 := (by rw [hc4]; exact s_l1Byte_cur _ (by first | assumption | exact ⟨by assumption, by assumption⟩ | grind [maxSl, wrap64])); letP (P := (fun v : Int × Curs => 0 ≤ v.2.i ∧ v.2.b.length ≤ 1048576)) (fun c5 hc5 => have rc5 := s_l1Byte_rng c4.2 (by first | assumption | exact ⟨by assumption, by assumption⟩ | grind [maxSl, wrap64]); have kc5 : 0 ≤ c5.2.i ∧ c5.2.b.length ≤ 1048576 := (by rw [hc5]; exact s_l1Byte_cur _ (by first | assumption | exact ⟨by assumption, by assumption⟩ | grind [maxSl, wrap64])); letP (P := (fun v : Int × Curs => 0 ≤ v.2.i ∧ v.2.b.length ≤ 1048576)) (fun e6 he6 => letP (P := (fun v : Int × Curs => 0 ≤ v.2.i ∧ v.2.b.length ≤ 1048576)) (fun e7 he7 => (by (try simp only [Nat.ble_eq, Bool.and_eq_true, decide_eq_true_eq]); grind [maxSl, maxStr, toBytes_length, toInts_length, List.length_set, wrap64, s_l1Byte_rng, s_l1Byte_cur])))))))))
theorem s_l1Below_rng (y0 : Curs) (x1 : Int) (hp : 0 ≤ y0.i ∧ y0.b.length ≤ 1048576)  : (fun v : Int × Curs => 0 ≤ v.1 ∧ (0 < x1 → v.1 < x1)) (s_l1Below y0 x1) := by
  unfold s_l1Below
  exact bifP (P := (fun v : Int × Curs => 0 ≤ v.1 ∧ (0 < x1 → v.1 < x1))) (fun b0 => (by
    first
    | (simp only []; omega)
    | (simp only []; refine ⟨tmod_nn ?_, fun h => tmod_lt h⟩; rw [hc1]; exact (s_l1Byte_rng _ hp).1)
    | (simp only []; refine ⟨tmod_nn ?_, fun h => tmod_lt h⟩; have r2 := s_l1Byte_rng _ hp; have r3 := s_l1Byte_rng _ kc2; have r4 := s_l1Byte_rng _ kc3; have r5 := s_l1Byte_rng _ kc4; rw [← hc2] at r2; rw [← hc3] at r3; rw [← hc4] at r4; rw [← hc5] at r5; rw [he7, he6]; simp only [wrap64_def]; omega)))
      (fun b0 => bifP (P := (fun v : Int × Curs => 0 ≤ v.1 ∧ (0 < x1 → v.1 < x1))) (fun b1 => letP (P := (fun v : Int × Curs => 0 ≤ v.1 ∧ (0 < x1 → v.1 < x1))) (fun c1 hc1 => have rc1 := s_l1Byte_rng y0 (by first | assumption | exact ⟨by assumption, by assumption⟩ | grind [maxSl, wrap64]); have kc1 : 0 ≤ c1.2.i ∧ c1.2.b.length ≤ 1048576 := (by rw [hc1]; exact s_l1Byte_cur _ (by first | assumption | exact ⟨by assumption, by assumption⟩ | grind [maxSl, wrap64])); (by
    first
    | (simp only []; omega)
    | (simp only []; refine ⟨tmod_nn ?_, fun h => tmod_lt h⟩; rw [hc1]; exact (s_l1Byte_rng _ hp).1)
    | (simp only []; refine ⟨tmod_nn ?_, fun h => tmod_lt h⟩; have r2 := s_l1Byte_rng _ hp; have r3 := s_l1Byte_rng _ kc2; have r4 := s_l1Byte_rng _ kc3; have r5 := s_l1Byte_rng _ kc4; rw [← hc2] at r2; rw [← hc3] at r3; rw [← hc4] at r4; rw [← hc5] at r5; rw [he7, he6]; simp only [wrap64_def]; omega))))
      (fun b1 => letP (P := (fun v : Int × Curs => 0 ≤ v.1 ∧ (0 < x1 → v.1 < x1))) (fun c2 hc2 => have rc2 := s_l1Byte_rng y0 (by first | assumption | exact ⟨by assumption, by assumption⟩ | grind [maxSl, wrap64]); have kc2 : 0 ≤ c2.2.i ∧ c2.2.b.length ≤ 1048576 := (by rw [hc2]; exact s_l1Byte_cur _ (by first | assumption | exact ⟨by assumption, by assumption⟩ | grind [maxSl, wrap64])); letP (P := (fun v : Int × Curs => 0 ≤ v.1 ∧ (0 < x1 → v.1 < x1))) (fun c3 hc3 => have rc3 := s_l1Byte_rng c2.2 (by first | assumption | exact ⟨by assumption, by assumption⟩ | grind [maxSl, wrap64]); have kc3 : 0 ≤ c3.2.i ∧ c3.2.b.length ≤ 1048576 := (by rw [hc3]; exact s_l1Byte_cur _ (by first | assumption | exact ⟨by assumption, by assumption⟩ | grind [maxSl, wrap64])); letP (P := (fun v : Int × Curs => 0 ≤ v.1 ∧ (0 < x1 → v.1 < x1))) (fun c4 hc4 => have rc4 := s_l1Byte_rng c3.2 (by first | assumption | exact ⟨by assumption, by assumption⟩ | grind [maxSl, wrap64]); have kc4 : 0 ≤ c4.2.i ∧ c4.2.b.length ≤ 1048576 := (by rw [hc4]; exact s_l1Byte_cur _ (by first | assumption | exact ⟨by assumption, by assumption⟩ | grind [maxSl, wrap64])); letP (P := (fun v : Int × Curs => 0 ≤ v.1 ∧ (0 < x1 → v.1 < x1))) (fun c5 hc5 => have rc5 := s_l1Byte_rng c4.2 (by first | assumption | exact ⟨by assumption, by assumption⟩ | grind [maxSl, wrap64]); have kc5 : 0 ≤ c5.2.i ∧ c5.2.b.length ≤ 1048576 := (by rw [hc5]; exact s_l1Byte_cur _ (by first | assumption | exact ⟨by assumption, by assumption⟩ | grind [maxSl, wrap64])); letP (P := (fun v : Int × Curs => 0 ≤ v.1 ∧ (0 < x1 → v.1 < x1))) (fun e6 he6 => letP (P := (fun v : Int × Curs => 0 ≤ v.1 ∧ (0 < x1 → v.1 < x1))) (fun e7 he7 => (by
    first
    | (simp only []; omega)
    | (simp only []; refine ⟨tmod_nn ?_, fun h => tmod_lt h⟩; rw [hc1]; exact (s_l1Byte_rng _ hp).1)
    | (simp only []; refine ⟨tmod_nn ?_, fun h => tmod_lt h⟩; have r2 := s_l1Byte_rng _ hp; have r3 := s_l1Byte_rng _ kc2; have r4 := s_l1Byte_rng _ kc3; have r5 := s_l1Byte_rng _ kc4; rw [← hc2] at r2; rw [← hc3] at r3; rw [← hc4] at r4; rw [← hc5] at r5; rw [he7, he6]; simp only [wrap64_def]; omega))))))))))

/-- spec.FirstSeq -/
def s_FirstSeq_N (x0 : Door) (x1 : Tupl) (x2 : Segm) (γ : Type) (fail : γ) (k : Int → γ) : γ :=
  bif (x2.opts.mss == 0) then
    letK (α := Int) (s_MssIndex 536) fun c1 =>
    bif (decide (x0.keys.now.rows.length ≤ 4294967296)) then
    letK (α := Int) (s_CookieOf x0.keys.now x1 x2.seq x0.keys.epoch c1) fun c2 =>
    letK (α := Int) (s_l1Max 0 c2) fun c3 =>
    k c3
    else fail
  else
  letK (α := Int) (s_MssIndex x2.opts.mss) fun c4 =>
  bif (decide (x0.keys.now.rows.length ≤ 4294967296)) then
  letK (α := Int) (s_CookieOf x0.keys.now x1 x2.seq x0.keys.epoch c4) fun c5 =>
  letK (α := Int) (s_l1Max 0 c5) fun c6 =>
  k c6
  else fail
def s_FirstSeq (x0 : Door) (x1 : Tupl) (x2 : Segm) : Int :=
  bif (x2.opts.mss == 0) then
    letK (α := Int) (s_MssIndex 536) fun c1 =>
    letK (α := Int) (s_CookieOf x0.keys.now x1 x2.seq x0.keys.epoch c1) fun c2 =>
    letK (α := Int) (s_l1Max 0 c2) fun c3 =>
    c3
  else
  letK (α := Int) (s_MssIndex x2.opts.mss) fun c4 =>
  letK (α := Int) (s_CookieOf x0.keys.now x1 x2.seq x0.keys.epoch c4) fun c5 =>
  letK (α := Int) (s_l1Max 0 c5) fun c6 =>
  c6
theorem s_FirstSeq_lk (x0 : Door) (x1 : Tupl) (x2 : Segm) : evalFn te (orcOf (P := Try.prog) [s_MssIndex_e, s_CookieOf_e, s_l1Max_e]) lorc0 [] Try.f87 (pvs [.st .door, .st .tupl, .st .segm] (x0, x1, x2, ())) =
  s_FirstSeq_N x0 x1 x2 _ none (fun v => some [(false, [RC.c (.int .i64 v)])]) := by kernel_rfl
theorem s_FirstSeq_p (x0 : Door) (x1 : Tupl) (x2 : Segm) (hx0_port : inK .i64 x0.port) (hx0_clock : inK .i64 x0.clock) (hx0_keys_epoch : inK .i64 x0.keys.epoch) (hx0_keys_now_k : inK .u64 x0.keys.now.k) (hx0_keys_now_l : inK .u64 x0.keys.now.l) (hx0_keys_now_rows : x0.keys.now.rows.length ≤ 140737488355328) (hx0_keys_now_rows_e : ∀ y ∈ x0.keys.now.rows, ∀ c ∈ Ty.cells .macRow y, FactC c) (hx0_keys_before_k : inK .u64 x0.keys.before.k) (hx0_keys_before_l : inK .u64 x0.keys.before.l) (hx0_keys_before_rows : x0.keys.before.rows.length ≤ 140737488355328) (hx0_keys_before_rows_e : ∀ y ∈ x0.keys.before.rows, ∀ c ∈ Ty.cells .macRow y, FactC c) (hx0_limits_halves : inK .i64 x0.limits.halves) (hx0_limits_waiting : inK .i64 x0.limits.waiting) (hx0_limits_conns : inK .i64 x0.limits.conns) (hx0_limits_chal : inK .i64 x0.limits.chal) (hx0_halves : x0.halves.length ≤ 140737488355328) (hx0_table_conns : x0.table.conns.length ≤ 140737488355328) (hx0_table_conns_e : ∀ y ∈ x0.table.conns, ∀ c ∈ Ty.cells .conn y, FactC c) (hx0_table_waiting : x0.table.waiting.length ≤ 140737488355328) (hx0_chal : inK .i64 x0.chal) (hx1_ip : inK .i64 x1.ip) (hx1_port : inK .i64 x1.port) (hx1_my : inK .i64 x1.my) (hx2_from_ : inK .i64 x2.from_) (hx2_to : inK .i64 x2.to) (hx2_seq : inK .i64 x2.seq) (hx2_ack : inK .i64 x2.ack) (hx2_flags : inK .i64 x2.flags) (hx2_window : inK .i64 x2.window) (hx2_opts_mss : inK .i64 x2.opts.mss) (hx2_opts_scale : inK .i64 x2.opts.scale) (hx2_opts_val : inK .i64 x2.opts.val) (hx2_opts_echo : inK .i64 x2.opts.echo) (hx2_body : List.length x2.body ≤ 4611686018427387904) (hp : x0.keys.now.rows.length ≤ 4294967296 ∧ x0.keys.before.rows.length ≤ 4294967296 ∧ x0.halves.length ≤ 4294967296 ∧ x0.table.conns.length ≤ 4294967296 ∧ x0.table.waiting.length ≤ 4294967296 ∧ x2.body.length ≤ 4294967296) (γ : Type) (fail : γ) (k : Int → γ) : s_FirstSeq_N x0 x1 x2 γ fail k = k (s_FirstSeq x0 x1 x2) := by
  unfold s_FirstSeq_N s_FirstSeq
  exact bifT (f := k) (fun b0 => letT (f := k) (fun c1 hc1 => bifG (by (try simp only [Nat.ble_eq, Bool.and_eq_true, decide_eq_true_eq]); grind [maxSl, maxStr, toBytes_length, toInts_length, List.length_set, wrap64]) (letT (f := k) (fun c2 hc2 => letT (f := k) (fun c3 hc3 => rfl)))))
      (fun b0 => letT (f := k) (fun c4 hc4 => bifG (by (try simp only [Nat.ble_eq, Bool.and_eq_true, decide_eq_true_eq]); grind [maxSl, maxStr, toBytes_length, toInts_length, List.length_set, wrap64]) (letT (f := k) (fun c5 hc5 => letT (f := k) (fun c6 hc6 => rfl)))))
theorem s_FirstSeq_c (x0 : Door) (x1 : Tupl) (x2 : Segm) (hp : x0.keys.now.rows.length ≤ 4294967296 ∧ x0.keys.before.rows.length ≤ 4294967296 ∧ x0.halves.length ≤ 4294967296 ∧ x0.table.conns.length ≤ 4294967296 ∧ x0.table.waiting.length ≤ 4294967296 ∧ x2.body.length ≤ 4294967296) : Con Try.prog 87 (pvs [.st .door, .st .tupl, .st .segm] (x0, x1, x2, ())) [rv (.sc (.int .i64)) [] (s_FirstSeq x0 x1 x2)] := by
  refine Con.of_facts (enters_of Try.func87 rfl (by kernel_rfl)) fun hf => ?_
  replace hf := factAt hf
  exact evalFn_con0 teFact mixFact (orcOf_ok _) Try.func87 (by kernel_rfl) ((s_FirstSeq_lk x0 x1 x2).trans (s_FirstSeq_p x0 x1 x2 ((hf 0 0 rfl rfl).rng) ((hf 0 1 rfl rfl).rng) ((hf 0 2 rfl rfl).rng) ((hf 0 4 rfl rfl).rng) ((hf 0 5 rfl rfl).rng) ((hf 0 6 rfl rfl).len) (fun y hy => (hf 0 6 rfl rfl).elem hy) ((hf 0 8 rfl rfl).rng) ((hf 0 9 rfl rfl).rng) ((hf 0 10 rfl rfl).len) (fun y hy => (hf 0 10 rfl rfl).elem hy) ((hf 0 12 rfl rfl).rng) ((hf 0 13 rfl rfl).rng) ((hf 0 14 rfl rfl).rng) ((hf 0 15 rfl rfl).rng) ((hf 0 16 rfl rfl).len) ((hf 0 17 rfl rfl).len) (fun y hy => (hf 0 17 rfl rfl).elem hy) ((hf 0 18 rfl rfl).len) ((hf 0 19 rfl rfl).rng) ((hf 1 0 rfl rfl).rng) ((hf 1 1 rfl rfl).rng) ((hf 1 2 rfl rfl).rng) ((hf 2 0 rfl rfl).rng) ((hf 2 1 rfl rfl).rng) ((hf 2 2 rfl rfl).rng) ((hf 2 3 rfl rfl).rng) ((hf 2 4 rfl rfl).rng) ((hf 2 5 rfl rfl).rng) ((hf 2 6 rfl rfl).rng) ((hf 2 7 rfl rfl).rng) ((hf 2 10 rfl rfl).rng) ((hf 2 11 rfl rfl).rng) ((hf 2 12 rfl rfl).slen) hp _ _ _))
noncomputable def s_FirstSeq_e : Ent1 Try.prog := entP 87 [.st .door, .st .tupl, .st .segm] (fun x => (decide (x.1.keys.now.rows.length ≤ 4294967296 ∧ x.1.keys.before.rows.length ≤ 4294967296 ∧ x.1.halves.length ≤ 4294967296 ∧ x.1.table.conns.length ≤ 4294967296 ∧ x.1.table.waiting.length ≤ 4294967296 ∧ x.2.2.1.body.length ≤ 4294967296))) (fun x => (s_FirstSeq x.1 x.2.1 x.2.2.1)) (fun v => [rv (.sc (.int .i64)) [] v]) (fun x hx => s_FirstSeq_c x.1 x.2.1 x.2.2.1 (of_decide_eq_true hx))


/-- spec.l1PickInt -/
def s_l1PickInt_N (y0 : Curs) (x1 : List Int) (γ : Type) (fail : γ) (k : Int × Curs → γ) : γ :=
  bif (decide (0 ≤ y0.i ∧ y0.b.length ≤ 1048576)) then
  letK (α := Int × Curs) (s_l1Below y0 (x1.length : Int)) fun c1 =>
  bif ((decide (0 ≤ c1.1)) && (decide (c1.1 < (x1.length : Int)))) then
  k ((x1.getD c1.1.toNat 0), c1.2)
  else fail
  else fail
def s_l1PickInt (y0 : Curs) (x1 : List Int) : Int × Curs :=
  letK (α := Int × Curs) (s_l1Below y0 (x1.length : Int)) fun c1 =>
  ((x1.getD c1.1.toNat 0), c1.2)
theorem s_l1PickInt_lk (y0 : Curs) (x1 : List Int) : evalFnM te (orcOf (P := Try.prog) [s_l1Below_e]) lorc0 [] Try.f100 (pvs [.wr false [.ptr 0], .sc (.sl .i64)] ((), x1, ())) (mos [.box [.c (.sl .u8), .c (.int .i64), .c (.int .i64)]] ((y0.b, y0.i, y0.h, ()), ())) =
  s_l1PickInt_N y0 x1 _ none (fun v => some ([(false, [RC.c (.int .i64 v.1)])] ++ (mos [.box [.c (.sl .u8), .c (.int .i64), .c (.int .i64)]] ((v.2.b, v.2.i, v.2.h, ()), ())).map encO)) := by kernel_rfl
theorem s_l1PickInt_p (y0 : Curs) (x1 : List Int) (hx1 : x1.length ≤ 140737488355328) (hy0_b : y0.b.length ≤ 140737488355328) (hy0_i : inK .i64 y0.i) (hy0_h : inK .i64 y0.h) (hp : (0 ≤ y0.i ∧ y0.b.length ≤ 1048576) ∧ 0 < x1.length) (γ : Type) (fail : γ) (k : Int × Curs → γ) : s_l1PickInt_N y0 x1 γ fail k = k (s_l1PickInt y0 x1) := by
  unfold s_l1PickInt_N s_l1PickInt
  exact bifG (by first | ((try simp only [Nat.ble_eq, Bool.and_eq_true, decide_eq_true_eq]); grind [maxSl]) | (have r := s_l1Below_rng y0 (x1.length : Int) hp.1; rw [← hc1] at r; have r2 := r.2 (by omega); have r1 := r.1; change (decide (0 ≤ c1.1) && decide (c1.1 < (x1.length : Int))) = true; simp only [Bool.and_eq_true, decide_eq_true_eq]; exact ⟨r1, r2⟩)) (letT (f := k) (fun c1 hc1 => have rc1 := s_l1Below_rng y0 (x1.length : Int) (by first | assumption | exact ⟨by assumption, by assumption⟩ | grind [maxSl, wrap64]); have kc1 : 0 ≤ c1.2.i ∧ c1.2.b.length ≤ 1048576 := (by rw [hc1]; exact s_l1Below_cur _ _ (by first | assumption | exact ⟨by assumption, by assumption⟩ | grind [maxSl, wrap64])); bifG (by first | ((try simp only [Nat.ble_eq, Bool.and_eq_true, decide_eq_true_eq]); grind [maxSl]) | (have r := s_l1Below_rng y0 (x1.length : Int) hp.1; rw [← hc1] at r; have r2 := r.2 (by omega); have r1 := r.1; change (decide (0 ≤ c1.1) && decide (c1.1 < (x1.length : Int))) = true; simp only [Bool.and_eq_true, decide_eq_true_eq]; exact ⟨r1, r2⟩)) (rfl)))
theorem s_l1PickInt_c (y0 : Curs) (x1 : List Int) (hp : (0 ≤ y0.i ∧ y0.b.length ≤ 1048576) ∧ 0 < x1.length) : ConM Try.prog 100 (pvs [.wr false [.ptr 0], .sc (.sl .i64)] ((), x1, ())) (mos [.box [.c (.sl .u8), .c (.int .i64), .c (.int .i64)]] ((y0.b, y0.i, y0.h, ()), ())) [rv (.sc (.int .i64)) [] (s_l1PickInt y0 x1).1] (mos [.box [.c (.sl .u8), .c (.int .i64), .c (.int .i64)]] ((((s_l1PickInt y0 x1).2).b, ((s_l1PickInt y0 x1).2).i, ((s_l1PickInt y0 x1).2).h, ()), ())) := by
  refine ConM.of_facts (enters_of Try.func100 rfl (by kernel_rfl)) fun hf hg => ?_
  replace hf := factAt hf
  exact evalFn_conLM teFact mixFact (orcOf_ok _) Try.func100 (by kernel_rfl) (bs := []) (by kernel_rfl) (by kernel_rfl) (by kernel_rfl) rfl (fun w0 mo I0 hmo => trivial) ((s_l1PickInt_lk y0 x1).trans (s_l1PickInt_p y0 x1 ((hf 1 0 rfl rfl).len) ((mbAt hg 0 0 rfl rfl).len) ((mbAt hg 0 1 rfl rfl).rng) ((mbAt hg 0 2 rfl rfl).rng) hp _ _ _))
noncomputable def s_l1PickInt_e : Ent1 Try.prog := entM 100 [.wr false [.ptr 0], .sc (.sl .i64)] [.box [.c (.sl .u8), .c (.int .i64), .c (.int .i64)]] (fun x y => (decide ((0 ≤ (⟨y.1.1, y.1.2.1, y.1.2.2.1⟩ : Curs).i ∧ (⟨y.1.1, y.1.2.1, y.1.2.2.1⟩ : Curs).b.length ≤ 1048576) ∧ 0 < x.2.1.length))) (fun x y => (s_l1PickInt (⟨y.1.1, y.1.2.1, y.1.2.2.1⟩ : Curs) x.2.1)) (fun v => [rv (.sc (.int .i64)) [] v.1]) (fun x y v => (mos [.box [.c (.sl .u8), .c (.int .i64), .c (.int .i64)]] ((v.2.b, v.2.i, v.2.h, ()), ()))) (fun x y hx => s_l1PickInt_c (⟨y.1.1, y.1.2.1, y.1.2.2.1⟩ : Curs) x.2.1 (of_decide_eq_true hx))

theorem s_l1PickInt_cur (y0 : Curs) (x1 : List Int) (hp : (0 ≤ y0.i ∧ y0.b.length ≤ 1048576) ∧ 0 < x1.length) (hc0 : 0 ≤ y0.i ∧ y0.b.length ≤ 1048576) : 0 ≤ (s_l1PickInt y0 x1).2.i ∧ (s_l1PickInt y0 x1).2.b.length ≤ 1048576 := by
  unfold s_l1PickInt
  exact letP (P := (fun v : Int × Curs => 0 ≤ v.2.i ∧ v.2.b.length ≤ 1048576)) (fun c1 hc1 => have rc1 := s_l1Below_rng y0 (x1.length : Int) (by first | assumption | exact ⟨by assumption, by assumption⟩ | grind [maxSl, wrap64]); have kc1 : 0 ≤ c1.2.i ∧ c1.2.b.length ≤ 1048576 := (by rw [hc1]; exact s_l1Below_cur _ _ (by first | assumption | exact ⟨by assumption, by assumption⟩ | grind [maxSl, wrap64])); (by (try simp only [Nat.ble_eq, Bool.and_eq_true, decide_eq_true_eq]); grind [maxSl, maxStr, toBytes_length, toInts_length, List.length_set, wrap64, s_l1Below_rng, s_l1Below_cur]))

/-- spec.SynAck -/
def s_SynAck_N (x0 : Door) (x1 : Tupl) (x2 : Segm) (γ : Type) (fail : γ) (k : Segm → γ) : γ :=
  bif (decide (x0.keys.now.rows.length ≤ 4294967296 ∧ x0.keys.before.rows.length ≤ 4294967296 ∧ x0.halves.length ≤ 4294967296 ∧ x0.table.conns.length ≤ 4294967296 ∧ x0.table.waiting.length ≤ 4294967296 ∧ x2.body.length ≤ 4294967296)) then
  letK (α := Int) (s_FirstSeq x0 x1 x2) fun c1 =>
  letK (α := Int) (s_SeqAdd x2.seq 1) fun c2 =>
  letK (α := Opti) (s_AnswerOptions x2.opts x0.clock) fun c3 =>
  k (⟨x1.my, x1.port, c1, c2, 18, 32, c3, []⟩ : Segm)
  else fail
def s_SynAck (x0 : Door) (x1 : Tupl) (x2 : Segm) : Segm :=
  letK (α := Int) (s_FirstSeq x0 x1 x2) fun c1 =>
  letK (α := Int) (s_SeqAdd x2.seq 1) fun c2 =>
  letK (α := Opti) (s_AnswerOptions x2.opts x0.clock) fun c3 =>
  (⟨x1.my, x1.port, c1, c2, 18, 32, c3, []⟩ : Segm)
theorem s_SynAck_lk (x0 : Door) (x1 : Tupl) (x2 : Segm) : evalFn te (orcOf (P := Try.prog) [s_FirstSeq_e, s_SeqAdd_e, s_AnswerOptions_e]) lorc0 [] Try.f34 (pvs [.st .door, .st .tupl, .st .segm] (x0, x1, x2, ())) =
  s_SynAck_N x0 x1 x2 _ none (fun v => some [(true, [RC.c (.int .i64 v.from_), RC.c (.int .i64 v.to), RC.c (.int .i64 v.seq), RC.c (.int .i64 v.ack), RC.c (.int .i64 v.flags), RC.c (.int .i64 v.window), RC.c (.int .i64 v.opts.mss), RC.c (.int .i64 v.opts.scale), RC.c (.bool v.opts.sack), RC.c (.bool v.opts.stamp), RC.c (.int .i64 v.opts.val), RC.c (.int .i64 v.opts.echo), RC.c (.str v.body)])]) := by kernel_rfl
theorem s_SynAck_p (x0 : Door) (x1 : Tupl) (x2 : Segm) (hx0_port : inK .i64 x0.port) (hx0_clock : inK .i64 x0.clock) (hx0_keys_epoch : inK .i64 x0.keys.epoch) (hx0_keys_now_k : inK .u64 x0.keys.now.k) (hx0_keys_now_l : inK .u64 x0.keys.now.l) (hx0_keys_now_rows : x0.keys.now.rows.length ≤ 140737488355328) (hx0_keys_now_rows_e : ∀ y ∈ x0.keys.now.rows, ∀ c ∈ Ty.cells .macRow y, FactC c) (hx0_keys_before_k : inK .u64 x0.keys.before.k) (hx0_keys_before_l : inK .u64 x0.keys.before.l) (hx0_keys_before_rows : x0.keys.before.rows.length ≤ 140737488355328) (hx0_keys_before_rows_e : ∀ y ∈ x0.keys.before.rows, ∀ c ∈ Ty.cells .macRow y, FactC c) (hx0_limits_halves : inK .i64 x0.limits.halves) (hx0_limits_waiting : inK .i64 x0.limits.waiting) (hx0_limits_conns : inK .i64 x0.limits.conns) (hx0_limits_chal : inK .i64 x0.limits.chal) (hx0_halves : x0.halves.length ≤ 140737488355328) (hx0_table_conns : x0.table.conns.length ≤ 140737488355328) (hx0_table_conns_e : ∀ y ∈ x0.table.conns, ∀ c ∈ Ty.cells .conn y, FactC c) (hx0_table_waiting : x0.table.waiting.length ≤ 140737488355328) (hx0_chal : inK .i64 x0.chal) (hx1_ip : inK .i64 x1.ip) (hx1_port : inK .i64 x1.port) (hx1_my : inK .i64 x1.my) (hx2_from_ : inK .i64 x2.from_) (hx2_to : inK .i64 x2.to) (hx2_seq : inK .i64 x2.seq) (hx2_ack : inK .i64 x2.ack) (hx2_flags : inK .i64 x2.flags) (hx2_window : inK .i64 x2.window) (hx2_opts_mss : inK .i64 x2.opts.mss) (hx2_opts_scale : inK .i64 x2.opts.scale) (hx2_opts_val : inK .i64 x2.opts.val) (hx2_opts_echo : inK .i64 x2.opts.echo) (hx2_body : List.length x2.body ≤ 4611686018427387904) (hp : x0.keys.now.rows.length ≤ 4294967296 ∧ x0.keys.before.rows.length ≤ 4294967296 ∧ x0.halves.length ≤ 4294967296 ∧ x0.table.conns.length ≤ 4294967296 ∧ x0.table.waiting.length ≤ 4294967296 ∧ x2.body.length ≤ 4294967296) (γ : Type) (fail : γ) (k : Segm → γ) : s_SynAck_N x0 x1 x2 γ fail k = k (s_SynAck x0 x1 x2) := by
  unfold s_SynAck_N s_SynAck
  exact bifG (by (try simp only [Nat.ble_eq, Bool.and_eq_true, decide_eq_true_eq]); grind [maxSl, maxStr, toBytes_length, toInts_length, List.length_set, wrap64]) (letT (f := k) (fun c1 hc1 => letT (f := k) (fun c2 hc2 => letT (f := k) (fun c3 hc3 => rfl))))
theorem s_SynAck_c (x0 : Door) (x1 : Tupl) (x2 : Segm) (hp : x0.keys.now.rows.length ≤ 4294967296 ∧ x0.keys.before.rows.length ≤ 4294967296 ∧ x0.halves.length ≤ 4294967296 ∧ x0.table.conns.length ≤ 4294967296 ∧ x0.table.waiting.length ≤ 4294967296 ∧ x2.body.length ≤ 4294967296) : Con Try.prog 34 (pvs [.st .door, .st .tupl, .st .segm] (x0, x1, x2, ())) [rv (.st .segm) [] (s_SynAck x0 x1 x2)] := by
  refine Con.of_facts (enters_of Try.func34 rfl (by kernel_rfl)) fun hf => ?_
  replace hf := factAt hf
  exact evalFn_con0 teFact mixFact (orcOf_ok _) Try.func34 (by kernel_rfl) ((s_SynAck_lk x0 x1 x2).trans (s_SynAck_p x0 x1 x2 ((hf 0 0 rfl rfl).rng) ((hf 0 1 rfl rfl).rng) ((hf 0 2 rfl rfl).rng) ((hf 0 4 rfl rfl).rng) ((hf 0 5 rfl rfl).rng) ((hf 0 6 rfl rfl).len) (fun y hy => (hf 0 6 rfl rfl).elem hy) ((hf 0 8 rfl rfl).rng) ((hf 0 9 rfl rfl).rng) ((hf 0 10 rfl rfl).len) (fun y hy => (hf 0 10 rfl rfl).elem hy) ((hf 0 12 rfl rfl).rng) ((hf 0 13 rfl rfl).rng) ((hf 0 14 rfl rfl).rng) ((hf 0 15 rfl rfl).rng) ((hf 0 16 rfl rfl).len) ((hf 0 17 rfl rfl).len) (fun y hy => (hf 0 17 rfl rfl).elem hy) ((hf 0 18 rfl rfl).len) ((hf 0 19 rfl rfl).rng) ((hf 1 0 rfl rfl).rng) ((hf 1 1 rfl rfl).rng) ((hf 1 2 rfl rfl).rng) ((hf 2 0 rfl rfl).rng) ((hf 2 1 rfl rfl).rng) ((hf 2 2 rfl rfl).rng) ((hf 2 3 rfl rfl).rng) ((hf 2 4 rfl rfl).rng) ((hf 2 5 rfl rfl).rng) ((hf 2 6 rfl rfl).rng) ((hf 2 7 rfl rfl).rng) ((hf 2 10 rfl rfl).rng) ((hf 2 11 rfl rfl).rng) ((hf 2 12 rfl rfl).slen) hp _ _ _))
noncomputable def s_SynAck_e : Ent1 Try.prog := entP 34 [.st .door, .st .tupl, .st .segm] (fun x => (decide (x.1.keys.now.rows.length ≤ 4294967296 ∧ x.1.keys.before.rows.length ≤ 4294967296 ∧ x.1.halves.length ≤ 4294967296 ∧ x.1.table.conns.length ≤ 4294967296 ∧ x.1.table.waiting.length ≤ 4294967296 ∧ x.2.2.1.body.length ≤ 4294967296))) (fun x => (s_SynAck x.1 x.2.1 x.2.2.1)) (fun v => [rv (.st .segm) [] v]) (fun x hx => s_SynAck_c x.1 x.2.1 x.2.2.1 (of_decide_eq_true hx))


/-- spec.l1Once -/
def s_l1Once_N (y0 : Curs) (x1 : Int) (γ : Type) (fail : γ) (k : Bool × Curs → γ) : γ :=
  bif (decide (0 ≤ y0.i ∧ y0.b.length ≤ 1048576)) then
  letK (α := Int × Curs) (s_l1Below y0 x1) fun c1 =>
  k ((c1.1 == 0), c1.2)
  else fail
def s_l1Once (y0 : Curs) (x1 : Int) : Bool × Curs :=
  letK (α := Int × Curs) (s_l1Below y0 x1) fun c1 =>
  ((c1.1 == 0), c1.2)
theorem s_l1Once_lk (y0 : Curs) (x1 : Int) : evalFnM te (orcOf (P := Try.prog) [s_l1Below_e]) lorc0 [] Try.f63 (pvs [.wr false [.ptr 0], .sc (.int .i64)] ((), x1, ())) (mos [.box [.c (.sl .u8), .c (.int .i64), .c (.int .i64)]] ((y0.b, y0.i, y0.h, ()), ())) =
  s_l1Once_N y0 x1 _ none (fun v => some ([(false, [RC.c (.bool v.1)])] ++ (mos [.box [.c (.sl .u8), .c (.int .i64), .c (.int .i64)]] ((v.2.b, v.2.i, v.2.h, ()), ())).map encO)) := by kernel_rfl
theorem s_l1Once_p (y0 : Curs) (x1 : Int) (hx1 : inK .i64 x1) (hy0_b : y0.b.length ≤ 140737488355328) (hy0_i : inK .i64 y0.i) (hy0_h : inK .i64 y0.h) (hp : 0 ≤ y0.i ∧ y0.b.length ≤ 1048576) (γ : Type) (fail : γ) (k : Bool × Curs → γ) : s_l1Once_N y0 x1 γ fail k = k (s_l1Once y0 x1) := by
  unfold s_l1Once_N s_l1Once
  exact bifG (by (try simp only [Nat.ble_eq, Bool.and_eq_true, decide_eq_true_eq]); grind [maxSl, maxStr, toBytes_length, toInts_length, List.length_set, wrap64, s_l1Below_rng, s_l1Below_cur]) (letT (f := k) (fun c1 hc1 => have rc1 := s_l1Below_rng y0 x1 (by first | assumption | exact ⟨by assumption, by assumption⟩ | grind [maxSl, wrap64]); have kc1 : 0 ≤ c1.2.i ∧ c1.2.b.length ≤ 1048576 := (by rw [hc1]; exact s_l1Below_cur _ _ (by first | assumption | exact ⟨by assumption, by assumption⟩ | grind [maxSl, wrap64])); rfl))
theorem s_l1Once_c (y0 : Curs) (x1 : Int) (hp : 0 ≤ y0.i ∧ y0.b.length ≤ 1048576) : ConM Try.prog 63 (pvs [.wr false [.ptr 0], .sc (.int .i64)] ((), x1, ())) (mos [.box [.c (.sl .u8), .c (.int .i64), .c (.int .i64)]] ((y0.b, y0.i, y0.h, ()), ())) [rv (.sc .bool) [] (s_l1Once y0 x1).1] (mos [.box [.c (.sl .u8), .c (.int .i64), .c (.int .i64)]] ((((s_l1Once y0 x1).2).b, ((s_l1Once y0 x1).2).i, ((s_l1Once y0 x1).2).h, ()), ())) := by
  refine ConM.of_facts (enters_of Try.func63 rfl (by kernel_rfl)) fun hf hg => ?_
  replace hf := factAt hf
  exact evalFn_conLM teFact mixFact (orcOf_ok _) Try.func63 (by kernel_rfl) (bs := []) (by kernel_rfl) (by kernel_rfl) (by kernel_rfl) rfl (fun w0 mo I0 hmo => trivial) ((s_l1Once_lk y0 x1).trans (s_l1Once_p y0 x1 ((hf 1 0 rfl rfl).rng) ((mbAt hg 0 0 rfl rfl).len) ((mbAt hg 0 1 rfl rfl).rng) ((mbAt hg 0 2 rfl rfl).rng) hp _ _ _))
noncomputable def s_l1Once_e : Ent1 Try.prog := entM 63 [.wr false [.ptr 0], .sc (.int .i64)] [.box [.c (.sl .u8), .c (.int .i64), .c (.int .i64)]] (fun x y => (decide (0 ≤ (⟨y.1.1, y.1.2.1, y.1.2.2.1⟩ : Curs).i ∧ (⟨y.1.1, y.1.2.1, y.1.2.2.1⟩ : Curs).b.length ≤ 1048576))) (fun x y => (s_l1Once (⟨y.1.1, y.1.2.1, y.1.2.2.1⟩ : Curs) x.2.1)) (fun v => [rv (.sc .bool) [] v.1]) (fun x y v => (mos [.box [.c (.sl .u8), .c (.int .i64), .c (.int .i64)]] ((v.2.b, v.2.i, v.2.h, ()), ()))) (fun x y hx => s_l1Once_c (⟨y.1.1, y.1.2.1, y.1.2.2.1⟩ : Curs) x.2.1 (of_decide_eq_true hx))

theorem s_l1Once_cur (y0 : Curs) (x1 : Int)  (hc0 : 0 ≤ y0.i ∧ y0.b.length ≤ 1048576) : 0 ≤ (s_l1Once y0 x1).2.i ∧ (s_l1Once y0 x1).2.b.length ≤ 1048576 := by
  unfold s_l1Once
  exact letP (P := (fun v : Bool × Curs => 0 ≤ v.2.i ∧ v.2.b.length ≤ 1048576)) (fun c1 hc1 => have rc1 := s_l1Below_rng y0 x1 (by first | assumption | exact ⟨by assumption, by assumption⟩ | grind [maxSl, wrap64]); have kc1 : 0 ≤ c1.2.i ∧ c1.2.b.length ≤ 1048576 := (by rw [hc1]; exact s_l1Below_cur _ _ (by first | assumption | exact ⟨by assumption, by assumption⟩ | grind [maxSl, wrap64])); (by (try simp only [Nat.ble_eq, Bool.and_eq_true, decide_eq_true_eq]); grind [maxSl, maxStr, toBytes_length, toInts_length, List.length_set, wrap64, s_l1Below_rng, s_l1Below_cur]))

/-- spec.l2Deep -/
def s_l2Deep_ann : List (Nat × Keep) := [(0, ⟨[0, 3, 4], [], false, 1⟩)]
def s_l2Deep_L0_sh : Sh := ⟨[(0, false, [.ptr 0 0]), (3, false, [.int .i64]), (4, false, [.int .i64])], [.box [.sl .any .u8, .int .i64, .int .i64]]⟩
def s_l2Deep_L0_es : List (Ex × Sh) := [(.exit 0, ⟨[(2, false, [.undef]), (3, false, [.int .i64])], [.box [.sl .any .u8, .int .i64, .int .i64]]⟩)]
def s_l2Deep_L0_mk (v0 : Int) (v1 : Int) (v2 : List Int) (v3 : Int) (v4 : Int) : s_l2Deep_L0_sh.T := ((((), ()), ((v0, ()), ((v1, ()), ()))), ((v2, (v3, (v4, ()))), ()))
def s_l2Deep_L0_mx0 (y0 : Int) (y1 : List Int) (y2 : Int) (y3 : Int) : Sh.T ⟨[(2, false, [.undef]), (3, false, [.int .i64])], [.box [.sl .any .u8, .int .i64, .int .i64]]⟩ := ((((), ()), ((y0, ()), ())), ((y1, (y2, (y3, ()))), ()))
def s_l2Deep_L0_B (v0 : Int) (v1 : Int) (v2 : List Int) (v3 : Int) (v4 : Int) (γ : Type) (fail : γ) (next : s_l2Deep_L0_sh.T → γ) (out : WT s_l2Deep_L0_es → γ) : γ :=
  bif (decide (v1 < 4)) then
    bif (decide (0 ≤ (⟨v2, v3, v4⟩ : Curs).i ∧ (⟨v2, v3, v4⟩ : Curs).b.length ≤ 1048576)) then
    letK (α := Int × Curs) (s_l1Byte (⟨v2, v3, v4⟩ : Curs)) fun c3 =>
    next (s_l2Deep_L0_mk (IntKind.wrap .i64 ((IntKind.wrap .i64 (256 * v0)) + c3.1)) (IntKind.wrap .i64 (v1 + 1)) c3.2.b c3.2.i c3.2.h)
    else fail
  else
  out (s_l2Deep_L0_mx0 v0 v2 v3 v4)
theorem s_l2Deep_L0_par (v0 : Int) (v1 : Int) (v2 : List Int) (v3 : Int) (v4 : Int) (γ : Type) (fail : γ) (next : s_l2Deep_L0_sh.T → γ) (out : WT s_l2Deep_L0_es → γ) : s_l2Deep_L0_B v0 v1 v2 v3 v4 γ fail next out = optK (s_l2Deep_L0_B v0 v1 v2 v3 v4 _ none (fun v' => some (.inl v')) (fun w => some (.inr w))) fail (fun r => Sum.elim next out r) := by
  unfold s_l2Deep_L0_B
  exact bifT (f := (fun o => optK o fail (fun r => Sum.elim next out r))) (fun _ => bifT (f := (fun o => optK o fail (fun r => Sum.elim next out r))) (fun _ => letT (f := (fun o => optK o fail (fun r => Sum.elim next out r))) (fun c3 _ => rfl)) (fun _ => rfl))
      (fun _ => rfl)
def s_l2Deep_L0_r : Round s_l2Deep_L0_sh.T (WT s_l2Deep_L0_es) where
  B v γ fail next out := s_l2Deep_L0_B v.1.2.1.1 v.1.2.2.1.1 v.2.1.1 v.2.1.2.1 v.2.1.2.2.1 γ fail next out
  par v γ fail next out := s_l2Deep_L0_par v.1.2.1.1 v.1.2.2.1.1 v.2.1.1 v.2.1.2.1 v.2.1.2.2.1 γ fail next out
def s_l2Deep_L0_fu (v0 : Int) (v1 : Int) (v2 : List Int) (v3 : Int) (v4 : Int) : Nat := (Int.toNat (4 - v1)) + 1
theorem s_l2Deep_L0_lk (v : s_l2Deep_L0_sh.T) (next : St → Option Res) (k : Ex → St → Option Res) : evalK te (orcOf (P := Try.prog) [s_l1Once_e, s_l1PickInt_e, s_l1Byte_e]) (lorcOf []) Try.f143.ntmps s_l2Deep_ann (nthLoop (bodyOf Try.f143) 0 0) 0 (s_l2Deep_L0_sh.enc v) (endK ⟨[0, 3, 4], [], false, 1⟩ ⟨[2, 3], [], false, 1⟩ next k) =
  s_l2Deep_L0_r.B v _ none (fun v' => next (s_l2Deep_L0_sh.enc v')) (fun w => outK s_l2Deep_L0_es k w) := by kernel_rfl
def s_l2Deep_L0_le : LE := leOf 0 s_l2Deep_L0_sh s_l2Deep_L0_es s_l2Deep_L0_r.step (fun v => s_l2Deep_L0_fu v.1.2.1.1 v.1.2.2.1.1 v.2.1.1 v.2.1.2.1 v.2.1.2.2.1)
theorem s_l2Deep_L0_ls (w0 : World) (mo : Mts) (I0 : Nat → Prop) (hmo : mo.length = 1) : LSem Try.prog (Sim w0 mo Try.f143.ntmps I0) (fun b s k => match Nat.beq 0 b with | true => s_l2Deep_L0_le.run s k | false => none) 0 (nthLoop (bodyOf Try.f143) 0 0) :=
  le_sem hmo (lorc := lorcOf []) (ann := s_l2Deep_ann) (keep := ⟨[0, 3, 4], [], false, 1⟩) (kout := ⟨[2, 3], [], false, 1⟩) teFact mixFact (orcOf_ok _) (by kernel_rfl) (allLoops_of (bs := []) (by kernel_rfl) trivial) s_l2Deep_L0_r _ s_l2Deep_L0_lk
def s_l2Deep_L0_f  (v1 : Int) (a : Int × List Int × Int × Int) : Stp (Int × List Int × Int × Int) (Empty) :=
  letK (α := Int × Curs) (s_l1Byte (⟨a.2.1, a.2.2.1, a.2.2.2⟩ : Curs)) fun c3 =>
  .next ((IntKind.wrap .i64 ((IntKind.wrap .i64 (256 * a.1)) + c3.1)), c3.2.b, c3.2.i, c3.2.h)
theorem s_l2Deep_L0_st (v0 : Int) (v1 : Int) (v2 : List Int) (v3 : Int) (v4 : Int) (hlo : 0 ≤ v1) (hhi : v1 < 4) (hN : 4 ≤ 4611686018427387904) (hinv : 0 ≤ v3 ∧ v2.length ≤ 1048576) : s_l2Deep_L0_r.step (s_l2Deep_L0_mk v0 v1 v2 v3 v4) = Stp.elim (fun a' : Int × List Int × Int × Int => some (Sum.inl (s_l2Deep_L0_mk a'.1 (v1 + 1) a'.2.1 a'.2.2.1 a'.2.2.2))) (fun w => some (Sum.inr ((fun p : Empty => nomatch p) w))) (s_l2Deep_L0_f  v1 (v0, v2, v3, v4)) := by
  have hw : (IntKind.wrap .i64 (v1 + 1)) = v1 + 1 := wrap64 (by omega) (by omega)
  show s_l2Deep_L0_B v0 v1 v2 v3 v4 (Option (s_l2Deep_L0_sh.T ⊕ WT s_l2Deep_L0_es)) none (fun v' => some (Sum.inl v')) (fun w => some (Sum.inr w)) = _
  unfold s_l2Deep_L0_B s_l2Deep_L0_f
  exact bifG (by simp only [decide_eq_true_eq]; omega) (bifG (by (try simp only [Nat.ble_eq, Bool.and_eq_true, decide_eq_true_eq]); grind [maxSl, maxStr, toBytes_length, toInts_length, List.length_set, wrap64, s_l1Once_cur, s_l1PickInt_cur, s_l1Byte_rng, s_l1Byte_cur]) (letT (f := (Stp.elim (fun a' : Int × List Int × Int × Int => some (Sum.inl (s_l2Deep_L0_mk a'.1 (v1 + 1) a'.2.1 a'.2.2.1 a'.2.2.2))) (fun w => some (Sum.inr ((fun p : Empty => nomatch p) w))))) (fun (c3 : Int × Curs) hc3 => have rc3 := s_l1Byte_rng (⟨v2, v3, v4⟩ : Curs) (by first | assumption | exact ⟨by assumption, by assumption⟩ | grind [maxSl, wrap64, s_l2Deep_L0_mx0]); have kc3 : 0 ≤ c3.2.i ∧ c3.2.b.length ≤ 1048576 := (by rw [hc3]; exact s_l1Byte_cur _ (by first | assumption | exact ⟨by assumption, by assumption⟩ | grind [maxSl, wrap64, s_l2Deep_L0_mx0])); (by exact congrArg (fun z => some (Sum.inl (s_l2Deep_L0_mk (IntKind.wrap .i64 ((IntKind.wrap .i64 (256 * v0)) + c3.1)) z c3.2.b c3.2.i c3.2.h))) hw))))
theorem s_l2Deep_L0_cl (v0 : Int) (v1 : Int) (v2 : List Int) (v3 : Int) (v4 : Int) (h0 : 0 ≤ v1) (h1 : 4 ≤ 4611686018427387904) (h2 : 0 ≤ v3 ∧ v2.length ≤ 1048576) : loopF s_l2Deep_L0_r.step (s_l2Deep_L0_fu v0 v1 v2 v3 v4) (s_l2Deep_L0_mk v0 v1 v2 v3 v4) = some (Stp.elim (fun a => (fun i a => s_l2Deep_L0_mx0 a.1 a.2.1 a.2.2.1 a.2.2.2) (v1 + 1 * (((Int.toNat (4 - v1)) : Nat) : Int)) a) (fun p : Empty => nomatch p) (forN (s_l2Deep_L0_f ) 1 (Int.toNat (4 - v1)) v1 (v0, v2, v3, v4))) :=
  forN_loop (step := s_l2Deep_L0_r.step) (mk := fun v1 a => s_l2Deep_L0_mk a.1 v1 a.2.1 a.2.2.1 a.2.2.2) (f := s_l2Deep_L0_f ) (e := (fun i a => s_l2Deep_L0_mx0 a.1 a.2.1 a.2.2.1 a.2.2.2)) (emb := (fun p : Empty => nomatch p)) (st := 1) (Inv := fun v1 a => 0 ≤ a.2.2.1 ∧ a.2.1.length ≤ 1048576) (Int.toNat (4 - v1)) v1 (v0, v2, v3, v4) _ (Nat.lt_succ_self _) h2
    (fun j a hj hv => ⟨s_l2Deep_L0_st a.1 (v1 + 1 * (j : Int)) a.2.1 a.2.2.1 a.2.2.2 (by omega) (by omega) (by omega) hv, by
      intro a' he
      unfold s_l2Deep_L0_f at he
      simp only [letK] at he
      cases he
      exact s_l1Byte_cur _ hv⟩)
    (fun a hv => by
      show s_l2Deep_L0_B a.1 (v1 + 1 * (((Int.toNat (4 - v1)) : Nat) : Int)) a.2.1 a.2.2.1 a.2.2.2 (Option (s_l2Deep_L0_sh.T ⊕ WT s_l2Deep_L0_es)) none (fun v' => some (Sum.inl v')) (fun w => some (Sum.inr w)) = _
      unfold s_l2Deep_L0_B
      exact bifN (by simp only [decide_eq_false_iff_not]; omega) rfl)
theorem s_l2Deep_L0_nx (v0 : Int) (v1 : Int) (v2 : List Int) (v3 : Int) (v4 : Int) (h0 : 0 ≤ v1) (h1 : 4 ≤ 4611686018427387904) (h2 : 0 ≤ v3 ∧ v2.length ≤ 1048576) : ∀ a', forN (s_l2Deep_L0_f ) 1 (Int.toNat (4 - v1)) v1 (v0, v2, v3, v4) = .next a' → 0 ≤ a'.2.2.1 ∧ a'.2.1.length ≤ 1048576 :=
  forN_inv (f := s_l2Deep_L0_f ) (st := 1) (Inv := fun v1 a => 0 ≤ a.2.2.1 ∧ a.2.1.length ≤ 1048576) (Int.toNat (4 - v1)) v1 (v0, v2, v3, v4) h2
    (fun j a hj hv => by
      intro a' he
      unfold s_l2Deep_L0_f at he
      simp only [letK] at he
      cases he
      exact s_l1Byte_cur _ hv)
def s_l2Deep_N (y0 : Curs) (γ : Type) (fail : γ) (k : Int × Curs → γ) : γ :=
  bif (decide (0 ≤ y0.i ∧ y0.b.length ≤ 1048576)) then
  letK (α := Bool × Curs) (s_l1Once y0 3) fun c1 =>
  bif c1.1 then
    bif (decide ((0 ≤ c1.2.i ∧ c1.2.b.length ≤ 1048576) ∧ 0 < ([0, 1, 4294967295, 2147483647, 2147483648, 4294967294] : List Int).length)) then
    letK (α := Int × Curs) (s_l1PickInt c1.2 [0, 1, 4294967295, 2147483647, 2147483648, 4294967294]) fun c2 =>
    k (c2.1, c2.2)
    else fail
  else
  optK (loopF s_l2Deep_L0_r.step (s_l2Deep_L0_fu 0 0 c1.2.b c1.2.i c1.2.h) (s_l2Deep_L0_mk 0 0 c1.2.b c1.2.i c1.2.h)) fail fun w4 =>
    k (w4.1.2.1.1, (⟨w4.2.1.1, w4.2.1.2.1, w4.2.1.2.2.1⟩ : Curs))
  else fail
def s_l2Deep (y0 : Curs) : Int × Curs :=
  letK (α := Bool × Curs) (s_l1Once y0 3) fun c1 =>
  bif c1.1 then
    letK (α := Int × Curs) (s_l1PickInt c1.2 [0, 1, 4294967295, 2147483647, 2147483648, 4294967294]) fun c2 =>
    (c2.1, c2.2)
  else
  Stp.elim (fun a5 =>
    (a5.1, (⟨a5.2.1, a5.2.2.1, a5.2.2.2⟩ : Curs)))
    (fun p : Empty => nomatch p)
    (forN (s_l2Deep_L0_f) 1 (Int.toNat (4 - 0)) 0 (0, c1.2.b, c1.2.i, c1.2.h))
theorem s_l2Deep_lk (y0 : Curs) : evalFnM te (orcOf (P := Try.prog) [s_l1Once_e, s_l1PickInt_e, s_l1Byte_e]) (lorcOf [s_l2Deep_L0_le]) s_l2Deep_ann Try.f143 (pvs [.wr false [.ptr 0]] ((), ())) (mos [.box [.c (.sl .u8), .c (.int .i64), .c (.int .i64)]] ((y0.b, y0.i, y0.h, ()), ())) =
  s_l2Deep_N y0 _ none (fun v => some ([(false, [RC.c (.int .i64 v.1)])] ++ (mos [.box [.c (.sl .u8), .c (.int .i64), .c (.int .i64)]] ((v.2.b, v.2.i, v.2.h, ()), ())).map encO)) := by kernel_rfl
theorem s_l2Deep_p (y0 : Curs) (hy0_b : y0.b.length ≤ 140737488355328) (hy0_i : inK .i64 y0.i) (hy0_h : inK .i64 y0.h) (hp : 0 ≤ y0.i ∧ y0.b.length ≤ 1048576) (γ : Type) (fail : γ) (k : Int × Curs → γ) : s_l2Deep_N y0 γ fail k = k (s_l2Deep y0) := by
  unfold s_l2Deep_N s_l2Deep
  exact bifG (by (try simp only [Nat.ble_eq, Bool.and_eq_true, decide_eq_true_eq, s_l2Deep_L0_mx0]); grind [maxSl, maxStr, toBytes_length, toInts_length, List.length_set, wrap64, s_l1Once_cur, s_l1PickInt_cur, s_l1Byte_rng, s_l1Byte_cur]) (letT (f := k) (fun c1 hc1 => have kc1 : 0 ≤ c1.2.i ∧ c1.2.b.length ≤ 1048576 := (by rw [hc1]; exact s_l1Once_cur _ _ (by first | assumption | exact ⟨by assumption, by assumption⟩ | grind [maxSl, wrap64, s_l2Deep_L0_mx0])); bifT (f := k) (fun b0 => bifG (by (try simp only [Nat.ble_eq, Bool.and_eq_true, decide_eq_true_eq, s_l2Deep_L0_mx0]); grind [maxSl, maxStr, toBytes_length, toInts_length, List.length_set, wrap64, s_l1Once_cur, s_l1PickInt_cur, s_l1Byte_rng, s_l1Byte_cur]) (letT (f := k) (fun c2 hc2 => have kc2 : 0 ≤ c2.2.i ∧ c2.2.b.length ≤ 1048576 := (by rw [hc2]; exact s_l1PickInt_cur _ _ (by first | assumption | exact ⟨by assumption, by assumption⟩ | grind [maxSl, wrap64, s_l2Deep_L0_mx0]) (by first | assumption | exact ⟨by assumption, by assumption⟩ | grind [maxSl, wrap64, s_l2Deep_L0_mx0])); rfl)))
      (fun b0 => loopX (f := k) (s_l2Deep_L0_cl 0 0 c1.2.b c1.2.i c1.2.h (by (try simp only [Nat.ble_eq, Bool.and_eq_true, decide_eq_true_eq, s_l2Deep_L0_mx0]); grind [maxSl, maxStr, toBytes_length, toInts_length, List.length_set, wrap64, s_l1Once_cur, s_l1PickInt_cur, s_l1Byte_rng, s_l1Byte_cur]) (by (try simp only [Nat.ble_eq, Bool.and_eq_true, decide_eq_true_eq, s_l2Deep_L0_mx0]); grind [maxSl, maxStr, toBytes_length, toInts_length, List.length_set, wrap64, s_l1Once_cur, s_l1PickInt_cur, s_l1Byte_rng, s_l1Byte_cur]) (by (try simp only [Nat.ble_eq, Bool.and_eq_true, decide_eq_true_eq, s_l2Deep_L0_mx0]); grind [maxSl, maxStr, toBytes_length, toInts_length, List.length_set, wrap64, s_l1Once_cur, s_l1PickInt_cur, s_l1Byte_rng, s_l1Byte_cur])) (fun a5 ha5 => have ia5 := s_l2Deep_L0_nx 0 0 c1.2.b c1.2.i c1.2.h (by (try simp only [Nat.ble_eq, Bool.and_eq_true, decide_eq_true_eq, s_l2Deep_L0_mx0]); grind [maxSl, maxStr, toBytes_length, toInts_length, List.length_set, wrap64, s_l1Once_cur, s_l1PickInt_cur, s_l1Byte_rng, s_l1Byte_cur]) (by (try simp only [Nat.ble_eq, Bool.and_eq_true, decide_eq_true_eq, s_l2Deep_L0_mx0]); grind [maxSl, maxStr, toBytes_length, toInts_length, List.length_set, wrap64, s_l1Once_cur, s_l1PickInt_cur, s_l1Byte_rng, s_l1Byte_cur]) (by (try simp only [Nat.ble_eq, Bool.and_eq_true, decide_eq_true_eq, s_l2Deep_L0_mx0]); grind [maxSl, maxStr, toBytes_length, toInts_length, List.length_set, wrap64, s_l1Once_cur, s_l1PickInt_cur, s_l1Byte_rng, s_l1Byte_cur]) _ ha5; rfl)
      (fun p : Empty => nomatch p))))
theorem s_l2Deep_c (y0 : Curs) (hp : 0 ≤ y0.i ∧ y0.b.length ≤ 1048576) : ConM Try.prog 143 (pvs [.wr false [.ptr 0]] ((), ())) (mos [.box [.c (.sl .u8), .c (.int .i64), .c (.int .i64)]] ((y0.b, y0.i, y0.h, ()), ())) [rv (.sc (.int .i64)) [] (s_l2Deep y0).1] (mos [.box [.c (.sl .u8), .c (.int .i64), .c (.int .i64)]] ((((s_l2Deep y0).2).b, ((s_l2Deep y0).2).i, ((s_l2Deep y0).2).h, ()), ())) := by
  refine ConM.of_facts (enters_of Try.func143 rfl (by kernel_rfl)) fun hf hg => ?_
  replace hf := factAt hf
  exact evalFn_conLM teFact mixFact (orcOf_ok _) Try.func143 (by kernel_rfl) (bs := [0]) (by kernel_rfl) (by kernel_rfl) (by kernel_rfl) rfl (fun w0 mo I0 hmo => ⟨lsem_of_lorc (s_l2Deep_L0_ls w0 mo I0 hmo) (by kernel_rfl), trivial⟩) ((s_l2Deep_lk y0).trans (s_l2Deep_p y0 ((mbAt hg 0 0 rfl rfl).len) ((mbAt hg 0 1 rfl rfl).rng) ((mbAt hg 0 2 rfl rfl).rng) hp _ _ _))
noncomputable def s_l2Deep_e : Ent1 Try.prog := entM 143 [.wr false [.ptr 0]] [.box [.c (.sl .u8), .c (.int .i64), .c (.int .i64)]] (fun x y => (decide (0 ≤ (⟨y.1.1, y.1.2.1, y.1.2.2.1⟩ : Curs).i ∧ (⟨y.1.1, y.1.2.1, y.1.2.2.1⟩ : Curs).b.length ≤ 1048576))) (fun x y => (s_l2Deep (⟨y.1.1, y.1.2.1, y.1.2.2.1⟩ : Curs))) (fun v => [rv (.sc (.int .i64)) [] v.1]) (fun x y v => (mos [.box [.c (.sl .u8), .c (.int .i64), .c (.int .i64)]] ((v.2.b, v.2.i, v.2.h, ()), ()))) (fun x y hx => s_l2Deep_c (⟨y.1.1, y.1.2.1, y.1.2.2.1⟩ : Curs) (of_decide_eq_true hx))

theorem s_l2Deep_cur (y0 : Curs)  (hc0 : 0 ≤ y0.i ∧ y0.b.length ≤ 1048576) : 0 ≤ (s_l2Deep y0).2.i ∧ (s_l2Deep y0).2.b.length ≤ 1048576 := by
  unfold s_l2Deep
  exact letP (P := (fun v : Int × Curs => 0 ≤ v.2.i ∧ v.2.b.length ≤ 1048576)) (fun c1 hc1 => have kc1 : 0 ≤ c1.2.i ∧ c1.2.b.length ≤ 1048576 := (by rw [hc1]; exact s_l1Once_cur _ _ (by first | assumption | exact ⟨by assumption, by assumption⟩ | grind [maxSl, wrap64, s_l2Deep_L0_mx0])); bifP (P := (fun v : Int × Curs => 0 ≤ v.2.i ∧ v.2.b.length ≤ 1048576)) (fun b0 => letP (P := (fun v : Int × Curs => 0 ≤ v.2.i ∧ v.2.b.length ≤ 1048576)) (fun c2 hc2 => have kc2 : 0 ≤ c2.2.i ∧ c2.2.b.length ≤ 1048576 := (by rw [hc2]; exact s_l1PickInt_cur _ _ (by first | assumption | exact ⟨by assumption, by assumption⟩ | grind [maxSl, wrap64, s_l2Deep_L0_mx0]) (by first | assumption | exact ⟨by assumption, by assumption⟩ | grind [maxSl, wrap64, s_l2Deep_L0_mx0])); (by (try simp only [Nat.ble_eq, Bool.and_eq_true, decide_eq_true_eq, s_l2Deep_L0_mx0]); grind [maxSl, maxStr, toBytes_length, toInts_length, List.length_set, wrap64, s_l1Once_cur, s_l1PickInt_cur, s_l1Byte_rng, s_l1Byte_cur])))
      (fun b0 => loopP (P := (fun v : Int × Curs => 0 ≤ v.2.i ∧ v.2.b.length ≤ 1048576)) (fun a5 ha5 => have ia5 := s_l2Deep_L0_nx 0 0 c1.2.b c1.2.i c1.2.h (by (try simp only [Nat.ble_eq, Bool.and_eq_true, decide_eq_true_eq, s_l2Deep_L0_mx0]); grind [maxSl, maxStr, toBytes_length, toInts_length, List.length_set, wrap64, s_l1Once_cur, s_l1PickInt_cur, s_l1Byte_rng, s_l1Byte_cur]) (by (try simp only [Nat.ble_eq, Bool.and_eq_true, decide_eq_true_eq, s_l2Deep_L0_mx0]); grind [maxSl, maxStr, toBytes_length, toInts_length, List.length_set, wrap64, s_l1Once_cur, s_l1PickInt_cur, s_l1Byte_rng, s_l1Byte_cur]) (by (try simp only [Nat.ble_eq, Bool.and_eq_true, decide_eq_true_eq, s_l2Deep_L0_mx0]); grind [maxSl, maxStr, toBytes_length, toInts_length, List.length_set, wrap64, s_l1Once_cur, s_l1PickInt_cur, s_l1Byte_rng, s_l1Byte_cur]) _ ha5; (by (try simp only [Nat.ble_eq, Bool.and_eq_true, decide_eq_true_eq, s_l2Deep_L0_mx0]); grind [maxSl, maxStr, toBytes_length, toInts_length, List.length_set, wrap64, s_l1Once_cur, s_l1PickInt_cur, s_l1Byte_rng, s_l1Byte_cur]))
      (fun p _ => nomatch p)))

/-- spec.l6Ip -/
def s_l6Ip_N (y0 : Curs) (γ : Type) (fail : γ) (k : Int × Curs → γ) : γ :=
  bif (decide ((0 ≤ y0.i ∧ y0.b.length ≤ 1048576) ∧ 0 < ([167772161, 167772162, 167772163, 0, 4294967295] : List Int).length)) then
  letK (α := Int × Curs) (s_l1PickInt y0 [167772161, 167772162, 167772163, 0, 4294967295]) fun c1 =>
  k (c1.1, c1.2)
  else fail
def s_l6Ip (y0 : Curs) : Int × Curs :=
  letK (α := Int × Curs) (s_l1PickInt y0 [167772161, 167772162, 167772163, 0, 4294967295]) fun c1 =>
  (c1.1, c1.2)
theorem s_l6Ip_lk (y0 : Curs) : evalFnM te (orcOf (P := Try.prog) [s_l1PickInt_e]) lorc0 [] Try.f172 (pvs [.wr false [.ptr 0]] ((), ())) (mos [.box [.c (.sl .u8), .c (.int .i64), .c (.int .i64)]] ((y0.b, y0.i, y0.h, ()), ())) =
  s_l6Ip_N y0 _ none (fun v => some ([(false, [RC.c (.int .i64 v.1)])] ++ (mos [.box [.c (.sl .u8), .c (.int .i64), .c (.int .i64)]] ((v.2.b, v.2.i, v.2.h, ()), ())).map encO)) := by kernel_rfl
theorem s_l6Ip_p (y0 : Curs) (hy0_b : y0.b.length ≤ 140737488355328) (hy0_i : inK .i64 y0.i) (hy0_h : inK .i64 y0.h) (hp : 0 ≤ y0.i ∧ y0.b.length ≤ 1048576) (γ : Type) (fail : γ) (k : Int × Curs → γ) : s_l6Ip_N y0 γ fail k = k (s_l6Ip y0) := by
  unfold s_l6Ip_N s_l6Ip
  exact bifG (by (try simp only [Nat.ble_eq, Bool.and_eq_true, decide_eq_true_eq]); grind [maxSl, maxStr, toBytes_length, toInts_length, List.length_set, wrap64, s_l1PickInt_cur]) (letT (f := k) (fun c1 hc1 => have kc1 : 0 ≤ c1.2.i ∧ c1.2.b.length ≤ 1048576 := (by rw [hc1]; exact s_l1PickInt_cur _ _ (by first | assumption | exact ⟨by assumption, by assumption⟩ | grind [maxSl, wrap64]) (by first | assumption | exact ⟨by assumption, by assumption⟩ | grind [maxSl, wrap64])); rfl))
theorem s_l6Ip_c (y0 : Curs) (hp : 0 ≤ y0.i ∧ y0.b.length ≤ 1048576) : ConM Try.prog 172 (pvs [.wr false [.ptr 0]] ((), ())) (mos [.box [.c (.sl .u8), .c (.int .i64), .c (.int .i64)]] ((y0.b, y0.i, y0.h, ()), ())) [rv (.sc (.int .i64)) [] (s_l6Ip y0).1] (mos [.box [.c (.sl .u8), .c (.int .i64), .c (.int .i64)]] ((((s_l6Ip y0).2).b, ((s_l6Ip y0).2).i, ((s_l6Ip y0).2).h, ()), ())) := by
  refine ConM.of_facts (enters_of Try.func172 rfl (by kernel_rfl)) fun hf hg => ?_
  replace hf := factAt hf
  exact evalFn_conLM teFact mixFact (orcOf_ok _) Try.func172 (by kernel_rfl) (bs := []) (by kernel_rfl) (by kernel_rfl) (by kernel_rfl) rfl (fun w0 mo I0 hmo => trivial) ((s_l6Ip_lk y0).trans (s_l6Ip_p y0 ((mbAt hg 0 0 rfl rfl).len) ((mbAt hg 0 1 rfl rfl).rng) ((mbAt hg 0 2 rfl rfl).rng) hp _ _ _))
noncomputable def s_l6Ip_e : Ent1 Try.prog := entM 172 [.wr false [.ptr 0]] [.box [.c (.sl .u8), .c (.int .i64), .c (.int .i64)]] (fun x y => (decide (0 ≤ (⟨y.1.1, y.1.2.1, y.1.2.2.1⟩ : Curs).i ∧ (⟨y.1.1, y.1.2.1, y.1.2.2.1⟩ : Curs).b.length ≤ 1048576))) (fun x y => (s_l6Ip (⟨y.1.1, y.1.2.1, y.1.2.2.1⟩ : Curs))) (fun v => [rv (.sc (.int .i64)) [] v.1]) (fun x y v => (mos [.box [.c (.sl .u8), .c (.int .i64), .c (.int .i64)]] ((v.2.b, v.2.i, v.2.h, ()), ()))) (fun x y hx => s_l6Ip_c (⟨y.1.1, y.1.2.1, y.1.2.2.1⟩ : Curs) (of_decide_eq_true hx))

theorem s_l6Ip_cur (y0 : Curs)  (hc0 : 0 ≤ y0.i ∧ y0.b.length ≤ 1048576) : 0 ≤ (s_l6Ip y0).2.i ∧ (s_l6Ip y0).2.b.length ≤ 1048576 := by
  unfold s_l6Ip
  exact letP (P := (fun v : Int × Curs => 0 ≤ v.2.i ∧ v.2.b.length ≤ 1048576)) (fun c1 hc1 => have kc1 : 0 ≤ c1.2.i ∧ c1.2.b.length ≤ 1048576 := (by rw [hc1]; exact s_l1PickInt_cur _ _ (by first | assumption | exact ⟨by assumption, by assumption⟩ | grind [maxSl, wrap64]) (by first | assumption | exact ⟨by assumption, by assumption⟩ | grind [maxSl, wrap64])); (by (try simp only [Nat.ble_eq, Bool.and_eq_true, decide_eq_true_eq]); grind [maxSl, maxStr, toBytes_length, toInts_length, List.length_set, wrap64, s_l1PickInt_cur]))

/-- spec.l8Options -/
def s_l8Options_N (y0 : Curs) (γ : Type) (fail : γ) (k : Opti × Curs → γ) : γ :=
  letK (α := Opti) s_NoOptions fun c1 =>
  bif (decide (0 ≤ y0.i ∧ y0.b.length ≤ 1048576)) then
  letK (α := Bool × Curs) (s_l1Once y0 3) fun c2 =>
  bif (!c2.1) then
    bif (decide ((0 ≤ c2.2.i ∧ c2.2.b.length ≤ 1048576) ∧ 0 < ([536, 1460, 1300, 64, 65535, 1] : List Int).length)) then
    letK (α := Int × Curs) (s_l1PickInt c2.2 [536, 1460, 1300, 64, 65535, 1]) fun c3 =>
    bif (decide (0 ≤ c3.2.i ∧ c3.2.b.length ≤ 1048576)) then
    letK (α := Bool × Curs) (s_l1Once c3.2 2) fun c4 =>
    bif c4.1 then
      bif (decide (0 ≤ c4.2.i ∧ c4.2.b.length ≤ 1048576)) then
      letK (α := Int × Curs) (s_l1Below c4.2 15) fun c5 =>
      bif (decide (0 ≤ c5.2.i ∧ c5.2.b.length ≤ 1048576)) then
      letK (α := Bool × Curs) (s_l1Once c5.2 2) fun c6 =>
      bif (decide (0 ≤ c6.2.i ∧ c6.2.b.length ≤ 1048576)) then
      letK (α := Bool × Curs) (s_l1Once c6.2 2) fun c7 =>
      bif c7.1 then
        bif (decide (0 ≤ c7.2.i ∧ c7.2.b.length ≤ 1048576)) then
        letK (α := Int × Curs) (s_l2Deep c7.2) fun c8 =>
        bif (decide (0 ≤ c8.2.i ∧ c8.2.b.length ≤ 1048576)) then
        letK (α := Int × Curs) (s_l2Deep c8.2) fun c9 =>
        k ((⟨c3.1, c5.1, c6.1, true, c8.1, c9.1⟩ : Opti), c9.2)
        else fail
        else fail
      else
      k (({ c1 with mss := c3.1, scale := c5.1, sack := c6.1 } : Opti), c7.2)
      else fail
      else fail
      else fail
    else
    bif (decide (0 ≤ c4.2.i ∧ c4.2.b.length ≤ 1048576)) then
    letK (α := Bool × Curs) (s_l1Once c4.2 2) fun c10 =>
    bif (decide (0 ≤ c10.2.i ∧ c10.2.b.length ≤ 1048576)) then
    letK (α := Bool × Curs) (s_l1Once c10.2 2) fun c11 =>
    bif c11.1 then
      bif (decide (0 ≤ c11.2.i ∧ c11.2.b.length ≤ 1048576)) then
      letK (α := Int × Curs) (s_l2Deep c11.2) fun c12 =>
      bif (decide (0 ≤ c12.2.i ∧ c12.2.b.length ≤ 1048576)) then
      letK (α := Int × Curs) (s_l2Deep c12.2) fun c13 =>
      k ((⟨c3.1, c1.scale, c10.1, true, c12.1, c13.1⟩ : Opti), c13.2)
      else fail
      else fail
    else
    k (({ c1 with mss := c3.1, sack := c10.1 } : Opti), c11.2)
    else fail
    else fail
    else fail
    else fail
  else
  bif (decide (0 ≤ c2.2.i ∧ c2.2.b.length ≤ 1048576)) then
  letK (α := Bool × Curs) (s_l1Once c2.2 2) fun c14 =>
  bif c14.1 then
    bif (decide (0 ≤ c14.2.i ∧ c14.2.b.length ≤ 1048576)) then
    letK (α := Int × Curs) (s_l1Below c14.2 15) fun c15 =>
    bif (decide (0 ≤ c15.2.i ∧ c15.2.b.length ≤ 1048576)) then
    letK (α := Bool × Curs) (s_l1Once c15.2 2) fun c16 =>
    bif (decide (0 ≤ c16.2.i ∧ c16.2.b.length ≤ 1048576)) then
    letK (α := Bool × Curs) (s_l1Once c16.2 2) fun c17 =>
    bif c17.1 then
      bif (decide (0 ≤ c17.2.i ∧ c17.2.b.length ≤ 1048576)) then
      letK (α := Int × Curs) (s_l2Deep c17.2) fun c18 =>
      bif (decide (0 ≤ c18.2.i ∧ c18.2.b.length ≤ 1048576)) then
      letK (α := Int × Curs) (s_l2Deep c18.2) fun c19 =>
      k ((⟨c1.mss, c15.1, c16.1, true, c18.1, c19.1⟩ : Opti), c19.2)
      else fail
      else fail
    else
    k (({ c1 with scale := c15.1, sack := c16.1 } : Opti), c17.2)
    else fail
    else fail
    else fail
  else
  bif (decide (0 ≤ c14.2.i ∧ c14.2.b.length ≤ 1048576)) then
  letK (α := Bool × Curs) (s_l1Once c14.2 2) fun c20 =>
  bif (decide (0 ≤ c20.2.i ∧ c20.2.b.length ≤ 1048576)) then
  letK (α := Bool × Curs) (s_l1Once c20.2 2) fun c21 =>
  bif c21.1 then
    bif (decide (0 ≤ c21.2.i ∧ c21.2.b.length ≤ 1048576)) then
    letK (α := Int × Curs) (s_l2Deep c21.2) fun c22 =>
    bif (decide (0 ≤ c22.2.i ∧ c22.2.b.length ≤ 1048576)) then
    letK (α := Int × Curs) (s_l2Deep c22.2) fun c23 =>
    k ((⟨c1.mss, c1.scale, c20.1, true, c22.1, c23.1⟩ : Opti), c23.2)
    else fail
    else fail
  else
  k (({ c1 with sack := c20.1 } : Opti), c21.2)
  else fail
  else fail
  else fail
  else fail
def s_l8Options (y0 : Curs) : Opti × Curs :=
  letK (α := Opti) s_NoOptions fun c1 =>
  letK (α := Bool × Curs) (s_l1Once y0 3) fun c2 =>
  bif (!c2.1) then
    letK (α := Int × Curs) (s_l1PickInt c2.2 [536, 1460, 1300, 64, 65535, 1]) fun c3 =>
    letK (α := Bool × Curs) (s_l1Once c3.2 2) fun c4 =>
    bif c4.1 then
      letK (α := Int × Curs) (s_l1Below c4.2 15) fun c5 =>
      letK (α := Bool × Curs) (s_l1Once c5.2 2) fun c6 =>
      letK (α := Bool × Curs) (s_l1Once c6.2 2) fun c7 =>
      bif c7.1 then
        letK (α := Int × Curs) (s_l2Deep c7.2) fun c8 =>
        letK (α := Int × Curs) (s_l2Deep c8.2) fun c9 =>
        ((⟨c3.1, c5.1, c6.1, true, c8.1, c9.1⟩ : Opti), c9.2)
      else
      (({ c1 with mss := c3.1, scale := c5.1, sack := c6.1 } : Opti), c7.2)
    else
    letK (α := Bool × Curs) (s_l1Once c4.2 2) fun c10 =>
    letK (α := Bool × Curs) (s_l1Once c10.2 2) fun c11 =>
    bif c11.1 then
      letK (α := Int × Curs) (s_l2Deep c11.2) fun c12 =>
      letK (α := Int × Curs) (s_l2Deep c12.2) fun c13 =>
      ((⟨c3.1, c1.scale, c10.1, true, c12.1, c13.1⟩ : Opti), c13.2)
    else
    (({ c1 with mss := c3.1, sack := c10.1 } : Opti), c11.2)
  else
  letK (α := Bool × Curs) (s_l1Once c2.2 2) fun c14 =>
  bif c14.1 then
    letK (α := Int × Curs) (s_l1Below c14.2 15) fun c15 =>
    letK (α := Bool × Curs) (s_l1Once c15.2 2) fun c16 =>
    letK (α := Bool × Curs) (s_l1Once c16.2 2) fun c17 =>
    bif c17.1 then
      letK (α := Int × Curs) (s_l2Deep c17.2) fun c18 =>
      letK (α := Int × Curs) (s_l2Deep c18.2) fun c19 =>
      ((⟨c1.mss, c15.1, c16.1, true, c18.1, c19.1⟩ : Opti), c19.2)
    else
    (({ c1 with scale := c15.1, sack := c16.1 } : Opti), c17.2)
  else
  letK (α := Bool × Curs) (s_l1Once c14.2 2) fun c20 =>
  letK (α := Bool × Curs) (s_l1Once c20.2 2) fun c21 =>
  bif c21.1 then
    letK (α := Int × Curs) (s_l2Deep c21.2) fun c22 =>
    letK (α := Int × Curs) (s_l2Deep c22.2) fun c23 =>
    ((⟨c1.mss, c1.scale, c20.1, true, c22.1, c23.1⟩ : Opti), c23.2)
  else
  (({ c1 with sack := c20.1 } : Opti), c21.2)
theorem s_l8Options_lk (y0 : Curs) : evalFnM te (orcOf (P := Try.prog) [s_NoOptions_e, s_l1Once_e, s_l1PickInt_e, s_l1Below_e, s_l2Deep_e]) lorc0 [] Try.f144 (pvs [.wr false [.ptr 0]] ((), ())) (mos [.box [.c (.sl .u8), .c (.int .i64), .c (.int .i64)]] ((y0.b, y0.i, y0.h, ()), ())) =
  s_l8Options_N y0 _ none (fun v => some ([(true, [RC.c (.int .i64 v.1.mss), RC.c (.int .i64 v.1.scale), RC.c (.bool v.1.sack), RC.c (.bool v.1.stamp), RC.c (.int .i64 v.1.val), RC.c (.int .i64 v.1.echo)])] ++ (mos [.box [.c (.sl .u8), .c (.int .i64), .c (.int .i64)]] ((v.2.b, v.2.i, v.2.h, ()), ())).map encO)) := by kernel_rfl
theorem s_l8Options_p (y0 : Curs) (hy0_b : y0.b.length ≤ 140737488355328) (hy0_i : inK .i64 y0.i) (hy0_h : inK .i64 y0.h) (hp : 0 ≤ y0.i ∧ y0.b.length ≤ 1048576) (γ : Type) (fail : γ) (k : Opti × Curs → γ) : s_l8Options_N y0 γ fail k = k (s_l8Options y0) := by
  unfold s_l8Options_N s_l8Options
  exact letT (f := k) (fun c1 hc1 => bifG (by (try simp only [Nat.ble_eq, Bool.and_eq_true, decide_eq_true_eq]); grind [maxSl, maxStr, toBytes_length, toInts_length, List.length_set, wrap64, s_l1Once_cur, s_l1PickInt_cur, s_l1Below_rng, s_l1Below_cur, s_l2Deep_cur]) (letT (f := k) (fun c2 hc2 => have kc2 : 0 ≤ c2.2.i ∧ c2.2.b.length ≤ 1048576 := (by rw [hc2]; exact s_l1Once_cur _ _ (by first | assumption | exact ⟨by assumption, by assumption⟩ | grind [maxSl, wrap64])); bifT (f := k) (fun b0 => bifG (by (try simp only [Nat.ble_eq, Bool.and_eq_true, decide_eq_true_eq]); grind [maxSl, maxStr, toBytes_length, toInts_length, List.length_set, wrap64, s_l1Once_cur, s_l1PickInt_cur, s_l1Below_rng, s_l1Below_cur, s_l2Deep_cur]) (letT (f := k) (fun c3 hc3 => have kc3 : 0 ≤ c3.2.i ∧ c3.2.b.length ≤ 1048576 := (by rw [hc3]; exact s_l1PickInt_cur _ _ (by first | assumption | exact ⟨by assumption, by assumption⟩ | grind [maxSl, wrap64]) (by first | assumption | exact ⟨by assumption, by assumption⟩ | grind [maxSl, wrap64])); bifG (by (try simp only [Nat.ble_eq, Bool.and_eq_true, decide_eq_true_eq]); grind [maxSl, maxStr, toBytes_length, toInts_length, List.length_set, wrap64, s_l1Once_cur, s_l1PickInt_cur, s_l1Below_rng, s_l1Below_cur, s_l2Deep_cur]) (letT (f := k) (fun c4 hc4 => have kc4 : 0 ≤ c4.2.i ∧ c4.2.b.length ≤ 1048576 := (by rw [hc4]; exact s_l1Once_cur _ _ (by first | assumption | exact ⟨by assumption, by assumption⟩ | grind [maxSl, wrap64])); bifT (f := k) (fun b1 => bifG (by (try simp only [Nat.ble_eq, Bool.and_eq_true, decide_eq_true_eq]); grind [maxSl, maxStr, toBytes_length, toInts_length, List.length_set, wrap64, s_l1Once_cur, s_l1PickInt_cur, s_l1Below_rng, s_l1Below_cur, s_l2Deep_cur]) (letT (f := k) (fun c5 hc5 => have rc5 := s_l1Below_rng c4.2 15 (by first | assumption | exact ⟨by assumption, by assumption⟩ | grind [maxSl, wrap64]); have kc5 : 0 ≤ c5.2.i ∧ c5.2.b.length ≤ 1048576 := (by rw [hc5]; exact s_l1Below_cur _ _ (by first | assumption | exact ⟨by assumption, by assumption⟩ | grind [maxSl, wrap64])); bifG (by (try simp only [Nat.ble_eq, Bool.and_eq_true, decide_eq_true_eq]); grind [maxSl, maxStr, toBytes_length, toInts_length, List.length_set, wrap64, s_l1Once_cur, s_l1PickInt_cur, s_l1Below_rng, s_l1Below_cur, s_l2Deep_cur]) (letT (f := k) (fun c6 hc6 => have kc6 : 0 ≤ c6.2.i ∧ c6.2.b.length ≤ 1048576 := (by rw [hc6]; exact s_l1Once_cur _ _ (by first | assumption | exact ⟨by assumption, by assumption⟩ | grind [maxSl, wrap64])); bifG (by (try simp only [Nat.ble_eq, Bool.and_eq_true, decide_eq_true_eq]); grind [maxSl, maxStr, toBytes_length, toInts_length, List.length_set, wrap64, s_l1Once_cur, s_l1PickInt_cur, s_l1Below_rng, s_l1Below_cur, s_l2Deep_cur]) (letT (f := k) (fun c7 hc7 => have kc7 : 0 ≤ c7.2.i ∧ c7.2.b.length ≤ 1048576 := (by rw [hc7]; exact s_l1Once_cur _ _ (by first | assumption | exact ⟨by assumption, by assumption⟩ | grind [maxSl, wrap64])); bifT (f := k) (fun b2 => bifG (by (try simp only [Nat.ble_eq, Bool.and_eq_true, decide_eq_true_eq]); grind [maxSl, maxStr, toBytes_length, toInts_length, List.length_set, wrap64, s_l1Once_cur, s_l1PickInt_cur, s_l1Below_rng, s_l1Below_cur, s_l2Deep_cur]) (letT (f := k) (fun c8 hc8 => have kc8 : 0 ≤ c8.2.i ∧ c8.2.b.length ≤ 1048576 := (by rw [hc8]; exact s_l2Deep_cur _ (by first | assumption | exact ⟨by assumption, by assumption⟩ | grind [maxSl, wrap64])); bifG (by (try simp only [Nat.ble_eq, Bool.and_eq_true, decide_eq_true_eq]); grind [maxSl, maxStr, toBytes_length, toInts_length, List.length_set, wrap64, s_l1Once_cur, s_l1PickInt_cur, s_l1Below_rng, s_l1Below_cur, s_l2Deep_cur]) (letT (f := k) (fun c9 hc9 => have kc9 : 0 ≤ c9.2.i ∧ c9.2.b.length ≤ 1048576 := (by rw [hc9]; exact s_l2Deep_cur _ (by first | assumption | exact ⟨by assumption, by assumption⟩ | grind [maxSl, wrap64])); rfl)))))
      (fun b2 => rfl))))))))
      (fun b1 => bifG (by (try simp only [Nat.ble_eq, Bool.and_eq_true, decide_eq_true_eq]); grind [maxSl, maxStr, toBytes_length, toInts_length, List.length_set, wrap64, s_l1Once_cur, s_l1PickInt_cur, s_l1Below_rng, s_l1Below_cur, s_l2Deep_cur]) (letT (f := k) (fun c10 hc10 => have kc10 : 0 ≤ c10.2.i ∧ c10.2.b.length ≤ 1048576 := (by rw [hc10]; exact s_l1Once_cur _ _ (by first | assumption | exact ⟨by assumption, by assumption⟩ | grind [maxSl, wrap64])); bifG (by (try simp only [Nat.ble_eq, Bool.and_eq_true, decide_eq_true_eq]); grind [maxSl, maxStr, toBytes_length, toInts_length, List.length_set, wrap64, s_l1Once_cur, s_l1PickInt_cur, s_l1Below_rng, s_l1Below_cur, s_l2Deep_cur]) (letT (f := k) (fun c11 hc11 => have kc11 : 0 ≤ c11.2.i ∧ c11.2.b.length ≤ 1048576 := (by rw [hc11]; exact s_l1Once_cur _ _ (by first | assumption | exact ⟨by assumption, by assumption⟩ | grind [maxSl, wrap64])); bifT (f := k) (fun b2 => bifG (by (try simp only [Nat.ble_eq, Bool.and_eq_true, decide_eq_true_eq]); grind [maxSl, maxStr, toBytes_length, toInts_length, List.length_set, wrap64, s_l1Once_cur, s_l1PickInt_cur, s_l1Below_rng, s_l1Below_cur, s_l2Deep_cur]) (letT (f := k) (fun c12 hc12 => have kc12 : 0 ≤ c12.2.i ∧ c12.2.b.length ≤ 1048576 := (by rw [hc12]; exact s_l2Deep_cur _ (by first | assumption | exact ⟨by assumption, by assumption⟩ | grind [maxSl, wrap64])); bifG (by (try simp only [Nat.ble_eq, Bool.and_eq_true, decide_eq_true_eq]); grind [maxSl, maxStr, toBytes_length, toInts_length, List.length_set, wrap64, s_l1Once_cur, s_l1PickInt_cur, s_l1Below_rng, s_l1Below_cur, s_l2Deep_cur]) (letT (f := k) (fun c13 hc13 => have kc13 : 0 ≤ c13.2.i ∧ c13.2.b.length ≤ 1048576 := (by rw [hc13]; exact s_l2Deep_cur _ (by first | assumption | exact ⟨by assumption, by assumption⟩ | grind [maxSl, wrap64])); rfl)))))
      (fun b2 => rfl)))))))))))
      (fun b0 => bifG (by (try simp only [Nat.ble_eq, Bool.and_eq_true, decide_eq_true_eq]); grind [maxSl, maxStr, toBytes_length, toInts_length, List.length_set, wrap64, s_l1Once_cur, s_l1PickInt_cur, s_l1Below_rng, s_l1Below_cur, s_l2Deep_cur]) (letT (f := k) (fun c14 hc14 => have kc14 : 0 ≤ c14.2.i ∧ c14.2.b.length ≤ 1048576 := (by rw [hc14]; exact s_l1Once_cur _ _ (by first | assumption | exact ⟨by assumption, by assumption⟩ | grind [maxSl, wrap64])); bifT (f := k) (fun b1 => bifG (by (try simp only [Nat.ble_eq, Bool.and_eq_true, decide_eq_true_eq]); grind [maxSl, maxStr, toBytes_length, toInts_length, List.length_set, wrap64, s_l1Once_cur, s_l1PickInt_cur, s_l1Below_rng, s_l1Below_cur, s_l2Deep_cur]) (letT (f := k) (fun c15 hc15 => have rc15 := s_l1Below_rng c14.2 15 (by first | assumption | exact ⟨by assumption, by assumption⟩ | grind [maxSl, wrap64]); have kc15 : 0 ≤ c15.2.i ∧ c15.2.b.length ≤ 1048576 := (by rw [hc15]; exact s_l1Below_cur _ _ (by first | assumption | exact ⟨by assumption, by assumption⟩ | grind [maxSl, wrap64])); bifG (by (try simp only [Nat.ble_eq, Bool.and_eq_true, decide_eq_true_eq]); grind [maxSl, maxStr, toBytes_length, toInts_length, List.length_set, wrap64, s_l1Once_cur, s_l1PickInt_cur, s_l1Below_rng, s_l1Below_cur, s_l2Deep_cur]) (letT (f := k) (fun c16 hc16 => have kc16 : 0 ≤ c16.2.i ∧ c16.2.b.length ≤ 1048576 := (by rw [hc16]; exact s_l1Once_cur _ _ (by first | assumption | exact ⟨by assumption, by assumption⟩ | grind [maxSl, wrap64])); bifG (by (try simp only [Nat.ble_eq, Bool.and_eq_true, decide_eq_true_eq]); grind [maxSl, maxStr, toBytes_length, toInts_length, List.length_set, wrap64, s_l1Once_cur, s_l1PickInt_cur, s_l1Below_rng, s_l1Below_cur, s_l2Deep_cur]) (letT (f := k) (fun c17 hc17 => have kc17 : 0 ≤ c17.2.i ∧ c17.2.b.length ≤ 1048576 := (by rw [hc17]; exact s_l1Once_cur _ _ (by first | assumption | exact ⟨by assumption, by assumption⟩ | grind [maxSl, wrap64])); bifT (f := k) (fun b2 => bifG (by (try simp only [Nat.ble_eq, Bool.and_eq_true, decide_eq_true_eq]); grind [maxSl, maxStr, toBytes_length, toInts_length, List.length_set, wrap64, s_l1Once_cur, s_l1PickInt_cur, s_l1Below_rng, s_l1Below_cur, s_l2Deep_cur]) (letT (f := k) (fun c18 hc18 => have kc18 : 0 ≤ c18.2.i ∧ c18.2.b.length ≤ 1048576 := (by rw [hc18]; exact s_l2Deep_cur _ (by first | assumption | exact ⟨by assumption, by assumption⟩ | grind [maxSl, wrap64])); bifG (by (try simp only [Nat.ble_eq, Bool.and_eq_true, decide_eq_true_eq]); grind [maxSl, maxStr, toBytes_length, toInts_length, List.length_set, wrap64, s_l1Once_cur, s_l1PickInt_cur, s_l1Below_rng, s_l1Below_cur, s_l2Deep_cur]) (letT (f := k) (fun c19 hc19 => have kc19 : 0 ≤ c19.2.i ∧ c19.2.b.length ≤ 1048576 := (by rw [hc19]; exact s_l2Deep_cur _ (by first | assumption | exact ⟨by assumption, by assumption⟩ | grind [maxSl, wrap64])); rfl)))))
      (fun b2 => rfl))))))))
      (fun b1 => bifG (by (try simp only [Nat.ble_eq, Bool.and_eq_true, decide_eq_true_eq]); grind [maxSl, maxStr, toBytes_length, toInts_length, List.length_set, wrap64, s_l1Once_cur, s_l1PickInt_cur, s_l1Below_rng, s_l1Below_cur, s_l2Deep_cur]) (letT (f := k) (fun c20 hc20 => have kc20 : 0 ≤ c20.2.i ∧ c20.2.b.length ≤ 1048576 := (by rw [hc20]; exact s_l1Once_cur _ _ (by first | assumption | exact ⟨by assumption, by assumption⟩ | grind [maxSl, wrap64])); bifG (by (try simp only [Nat.ble_eq, Bool.and_eq_true, decide_eq_true_eq]); grind [maxSl, maxStr, toBytes_length, toInts_length, List.length_set, wrap64, s_l1Once_cur, s_l1PickInt_cur, s_l1Below_rng, s_l1Below_cur, s_l2Deep_cur]) (letT (f := k) (fun c21 hc21 => have kc21 : 0 ≤ c21.2.i ∧ c21.2.b.length ≤ 1048576 := (by rw [hc21]; exact s_l1Once_cur _ _ (by first | assumption | exact ⟨by assumption, by assumption⟩ | grind [maxSl, wrap64])); bifT (f := k) (fun b2 => bifG (by (try simp only [Nat.ble_eq, Bool.and_eq_true, decide_eq_true_eq]); grind [maxSl, maxStr, toBytes_length, toInts_length, List.length_set, wrap64, s_l1Once_cur, s_l1PickInt_cur, s_l1Below_rng, s_l1Below_cur, s_l2Deep_cur]) (letT (f := k) (fun c22 hc22 => have kc22 : 0 ≤ c22.2.i ∧ c22.2.b.length ≤ 1048576 := (by rw [hc22]; exact s_l2Deep_cur _ (by first | assumption | exact ⟨by assumption, by assumption⟩ | grind [maxSl, wrap64])); bifG (by (try simp only [Nat.ble_eq, Bool.and_eq_true, decide_eq_true_eq]); grind [maxSl, maxStr, toBytes_length, toInts_length, List.length_set, wrap64, s_l1Once_cur, s_l1PickInt_cur, s_l1Below_rng, s_l1Below_cur, s_l2Deep_cur]) (letT (f := k) (fun c23 hc23 => have kc23 : 0 ≤ c23.2.i ∧ c23.2.b.length ≤ 1048576 := (by rw [hc23]; exact s_l2Deep_cur _ (by first | assumption | exact ⟨by assumption, by assumption⟩ | grind [maxSl, wrap64])); rfl)))))
      (fun b2 => rfl))))))))))))
theorem s_l8Options_c (y0 : Curs) (hp : 0 ≤ y0.i ∧ y0.b.length ≤ 1048576) : ConM Try.prog 144 (pvs [.wr false [.ptr 0]] ((), ())) (mos [.box [.c (.sl .u8), .c (.int .i64), .c (.int .i64)]] ((y0.b, y0.i, y0.h, ()), ())) [rv (.st .opti) [] (s_l8Options y0).1] (mos [.box [.c (.sl .u8), .c (.int .i64), .c (.int .i64)]] ((((s_l8Options y0).2).b, ((s_l8Options y0).2).i, ((s_l8Options y0).2).h, ()), ())) := by
  refine ConM.of_facts (enters_of Try.func144 rfl (by kernel_rfl)) fun hf hg => ?_
  replace hf := factAt hf
  exact evalFn_conLM teFact mixFact (orcOf_ok _) Try.func144 (by kernel_rfl) (bs := []) (by kernel_rfl) (by kernel_rfl) (by kernel_rfl) rfl (fun w0 mo I0 hmo => trivial) ((s_l8Options_lk y0).trans (s_l8Options_p y0 ((mbAt hg 0 0 rfl rfl).len) ((mbAt hg 0 1 rfl rfl).rng) ((mbAt hg 0 2 rfl rfl).rng) hp _ _ _))
noncomputable def s_l8Options_e : Ent1 Try.prog := entM 144 [.wr false [.ptr 0]] [.box [.c (.sl .u8), .c (.int .i64), .c (.int .i64)]] (fun x y => (decide (0 ≤ (⟨y.1.1, y.1.2.1, y.1.2.2.1⟩ : Curs).i ∧ (⟨y.1.1, y.1.2.1, y.1.2.2.1⟩ : Curs).b.length ≤ 1048576))) (fun x y => (s_l8Options (⟨y.1.1, y.1.2.1, y.1.2.2.1⟩ : Curs))) (fun v => [rv (.st .opti) [] v.1]) (fun x y v => (mos [.box [.c (.sl .u8), .c (.int .i64), .c (.int .i64)]] ((v.2.b, v.2.i, v.2.h, ()), ()))) (fun x y hx => s_l8Options_c (⟨y.1.1, y.1.2.1, y.1.2.2.1⟩ : Curs) (of_decide_eq_true hx))

theorem s_l8Options_cur (y0 : Curs)  (hc0 : 0 ≤ y0.i ∧ y0.b.length ≤ 1048576) : 0 ≤ (s_l8Options y0).2.i ∧ (s_l8Options y0).2.b.length ≤ 1048576 := by
  unfold s_l8Options
  exact letP (P := (fun v : Opti × Curs => 0 ≤ v.2.i ∧ v.2.b.length ≤ 1048576)) (fun c1 hc1 => letP (P := (fun v : Opti × Curs => 0 ≤ v.2.i ∧ v.2.b.length ≤ 1048576)) (fun c2 hc2 => have kc2 : 0 ≤ c2.2.i ∧ c2.2.b.length ≤ 1048576 := (by rw [hc2]; exact s_l1Once_cur _ _ (by first | assumption | exact ⟨by assumption, by assumption⟩ | grind [maxSl, wrap64])); bifP (P := (fun v : Opti × Curs => 0 ≤ v.2.i ∧ v.2.b.length ≤ 1048576)) (fun b0 => letP (P := (fun v : Opti × Curs => 0 ≤ v.2.i ∧ v.2.b.length ≤ 1048576)) (fun c3 hc3 => have kc3 : 0 ≤ c3.2.i ∧ c3.2.b.length ≤ 1048576 := (by rw [hc3]; exact s_l1PickInt_cur _ _ (by first | assumption | exact ⟨by assumption, by assumption⟩ | grind [maxSl, wrap64]) (by first | assumption | exact ⟨by assumption, by assumption⟩ | grind [maxSl, wrap64])); letP (P := (fun v : Opti × Curs => 0 ≤ v.2.i ∧ v.2.b.length ≤ 1048576)) (fun c4 hc4 => have kc4 : 0 ≤ c4.2.i ∧ c4.2.b.length ≤ 1048576 := (by rw [hc4]; exact s_l1Once_cur _ _ (by first | assumption | exact ⟨by assumption, by assumption⟩ | grind [maxSl, wrap64])); bifP (P := (fun v : Opti × Curs => 0 ≤ v.2.i ∧ v.2.b.length ≤ 1048576)) (fun b1 => letP (P := (fun v : Opti × Curs => 0 ≤ v.2.i ∧ v.2.b.length ≤ 1048576)) (fun c5 hc5 => have rc5 := s_l1Below_rng c4.2 15 (by first | assumption | exact ⟨by assumption, by assumption⟩ | grind [maxSl, wrap64]); have kc5 : 0 ≤ c5.2.i ∧ c5.2.b.length ≤ 1048576 := (by rw [hc5]; exact s_l1Below_cur _ _ (by first | assumption | exact ⟨by assumption, by assumption⟩ | grind [maxSl, wrap64])); letP (P := (fun v : Opti × Curs => 0 ≤ v.2.i ∧ v.2.b.length ≤ 1048576)) (fun c6 hc6 => have kc6 : 0 ≤ c6.2.i ∧ c6.2.b.length ≤ 1048576 := (by rw [hc6]; exact s_l1Once_cur _ _ (by first | assumption | exact ⟨by assumption, by assumption⟩ | grind [maxSl, wrap64])); letP (P := (fun v : Opti × Curs => 0 ≤ v.2.i ∧ v.2.b.length ≤ 1048576)) (fun c7 hc7 => have kc7 : 0 ≤ c7.2.i ∧ c7.2.b.length ≤ 1048576 := (by rw [hc7]; exact s_l1Once_cur _ _ (by first | assumption | exact ⟨by assumption, by assumption⟩ | grind [maxSl, wrap64])); bifP (P := (fun v : Opti × Curs => 0 ≤ v.2.i ∧ v.2.b.length ≤ 1048576)) (fun b2 => letP (P := (fun v : Opti × Curs => 0 ≤ v.2.i ∧ v.2.b.length ≤ 1048576)) (fun c8 hc8 => have kc8 : 0 ≤ c8.2.i ∧ c8.2.b.length ≤ 1048576 := (by rw [hc8]; exact s_l2Deep_cur _ (by first | assumption | exact ⟨by assumption, by assumption⟩ | grind [maxSl, wrap64])); letP (P := (fun v : Opti × Curs => 0 ≤ v.2.i ∧ v.2.b.length ≤ 1048576)) (fun c9 hc9 => have kc9 : 0 ≤ c9.2.i ∧ c9.2.b.length ≤ 1048576 := (by rw [hc9]; exact s_l2Deep_cur _ (by first | assumption | exact ⟨by assumption, by assumption⟩ | grind [maxSl, wrap64])); (by (try simp only [Nat.ble_eq, Bool.and_eq_true, decide_eq_true_eq]); grind [maxSl, maxStr, toBytes_length, toInts_length, List.length_set, wrap64, s_l1Once_cur, s_l1PickInt_cur, s_l1Below_rng, s_l1Below_cur, s_l2Deep_cur]))))
      (fun b2 => (by (try simp only [Nat.ble_eq, Bool.and_eq_true, decide_eq_true_eq]); grind [maxSl, maxStr, toBytes_length, toInts_length, List.length_set, wrap64, s_l1Once_cur, s_l1PickInt_cur, s_l1Below_rng, s_l1Below_cur, s_l2Deep_cur]))))))
      (fun b1 => letP (P := (fun v : Opti × Curs => 0 ≤ v.2.i ∧ v.2.b.length ≤ 1048576)) (fun c10 hc10 => have kc10 : 0 ≤ c10.2.i ∧ c10.2.b.length ≤ 1048576 := (by rw [hc10]; exact s_l1Once_cur _ _ (by first | assumption | exact ⟨by assumption, by assumption⟩ | grind [maxSl, wrap64])); letP (P := (fun v : Opti × Curs => 0 ≤ v.2.i ∧ v.2.b.length ≤ 1048576)) (fun c11 hc11 => have kc11 : 0 ≤ c11.2.i ∧ c11.2.b.length ≤ 1048576 := (by rw [hc11]; exact s_l1Once_cur _ _ (by first | assumption | exact ⟨by assumption, by assumption⟩ | grind [maxSl, wrap64])); bifP (P := (fun v : Opti × Curs => 0 ≤ v.2.i ∧ v.2.b.length ≤ 1048576)) (fun b2 => letP (P := (fun v : Opti × Curs => 0 ≤ v.2.i ∧ v.2.b.length ≤ 1048576)) (fun c12 hc12 => have kc12 : 0 ≤ c12.2.i ∧ c12.2.b.length ≤ 1048576 := (by rw [hc12]; exact s_l2Deep_cur _ (by first | assumption | exact ⟨by assumption, by assumption⟩ | grind [maxSl, wrap64])); letP (P := (fun v : Opti × Curs => 0 ≤ v.2.i ∧ v.2.b.length ≤ 1048576)) (fun c13 hc13 => have kc13 : 0 ≤ c13.2.i ∧ c13.2.b.length ≤ 1048576 := (by rw [hc13]; exact s_l2Deep_cur _ (by first | assumption | exact ⟨by assumption, by assumption⟩ | grind [maxSl, wrap64])); (by (try simp only [Nat.ble_eq, Bool.and_eq_true, decide_eq_true_eq]); grind [maxSl, maxStr, toBytes_length, toInts_length, List.length_set, wrap64, s_l1Once_cur, s_l1PickInt_cur, s_l1Below_rng, s_l1Below_cur, s_l2Deep_cur]))))
      (fun b2 => (by (try simp only [Nat.ble_eq, Bool.and_eq_true, decide_eq_true_eq]); grind [maxSl, maxStr, toBytes_length, toInts_length, List.length_set, wrap64, s_l1Once_cur, s_l1PickInt_cur, s_l1Below_rng, s_l1Below_cur, s_l2Deep_cur]))))))))
      (fun b0 => letP (P := (fun v : Opti × Curs => 0 ≤ v.2.i ∧ v.2.b.length ≤ 1048576)) (fun c14 hc14 => have kc14 : 0 ≤ c14.2.i ∧ c14.2.b.length ≤ 1048576 := (by rw [hc14]; exact s_l1Once_cur _ _ (by first | assumption | exact ⟨by assumption, by assumption⟩ | grind [maxSl, wrap64])); bifP (P := (fun v : Opti × Curs => 0 ≤ v.2.i ∧ v.2.b.length ≤ 1048576)) (fun b1 => letP (P := (fun v : Opti × Curs => 0 ≤ v.2.i ∧ v.2.b.length ≤ 1048576)) (fun c15 hc15 => have rc15 := s_l1Below_rng c14.2 15 (by first | assumption | exact ⟨by assumption, by assumption⟩ | grind [maxSl, wrap64]); have kc15 : 0 ≤ c15.2.i ∧ c15.2.b.length ≤ 1048576 := (by rw [hc15]; exact s_l1Below_cur _ _ (by first | assumption | exact ⟨by assumption, by assumption⟩ | grind [maxSl, wrap64])); letP (P := (fun v : Opti × Curs => 0 ≤ v.2.i ∧ v.2.b.length ≤ 1048576)) (fun c16 hc16 => have kc16 : 0 ≤ c16.2.i ∧ c16.2.b.length ≤ 1048576 := (by rw [hc16]; exact s_l1Once_cur _ _ (by first | assumption | exact ⟨by assumption, by assumption⟩ | grind [maxSl, wrap64])); letP (P := (fun v : Opti × Curs => 0 ≤ v.2.i ∧ v.2.b.length ≤ 1048576)) (fun c17 hc17 => have kc17 : 0 ≤ c17.2.i ∧ c17.2.b.length ≤ 1048576 := (by rw [hc17]; exact s_l1Once_cur _ _ (by first | assumption | exact ⟨by assumption, by assumption⟩ | grind [maxSl, wrap64])); bifP (P := (fun v : Opti × Curs => 0 ≤ v.2.i ∧ v.2.b.length ≤ 1048576)) (fun b2 => letP (P := (fun v : Opti × Curs => 0 ≤ v.2.i ∧ v.2.b.length ≤ 1048576)) (fun c18 hc18 => have kc18 : 0 ≤ c18.2.i ∧ c18.2.b.length ≤ 1048576 := (by rw [hc18]; exact s_l2Deep_cur _ (by first | assumption | exact ⟨by assumption, by assumption⟩ | grind [maxSl, wrap64])); letP (P := (fun v : Opti × Curs => 0 ≤ v.2.i ∧ v.2.b.length ≤ 1048576)) (fun c19 hc19 => have kc19 : 0 ≤ c19.2.i ∧ c19.2.b.length ≤ 1048576 := (by rw [hc19]; exact s_l2Deep_cur _ (by first | assumption | exact ⟨by assumption, by assumption⟩ | grind [maxSl, wrap64])); (by (try simp only [Nat.ble_eq, Bool.and_eq_true, decide_eq_true_eq]); grind [maxSl, maxStr, toBytes_length, toInts_length, List.length_set, wrap64, s_l1Once_cur, s_l1PickInt_cur, s_l1Below_rng, s_l1Below_cur, s_l2Deep_cur]))))
      (fun b2 => (by (try simp only [Nat.ble_eq, Bool.and_eq_true, decide_eq_true_eq]); grind [maxSl, maxStr, toBytes_length, toInts_length, List.length_set, wrap64, s_l1Once_cur, s_l1PickInt_cur, s_l1Below_rng, s_l1Below_cur, s_l2Deep_cur]))))))
      (fun b1 => letP (P := (fun v : Opti × Curs => 0 ≤ v.2.i ∧ v.2.b.length ≤ 1048576)) (fun c20 hc20 => have kc20 : 0 ≤ c20.2.i ∧ c20.2.b.length ≤ 1048576 := (by rw [hc20]; exact s_l1Once_cur _ _ (by first | assumption | exact ⟨by assumption, by assumption⟩ | grind [maxSl, wrap64])); letP (P := (fun v : Opti × Curs => 0 ≤ v.2.i ∧ v.2.b.length ≤ 1048576)) (fun c21 hc21 => have kc21 : 0 ≤ c21.2.i ∧ c21.2.b.length ≤ 1048576 := (by rw [hc21]; exact s_l1Once_cur _ _ (by first | assumption | exact ⟨by assumption, by assumption⟩ | grind [maxSl, wrap64])); bifP (P := (fun v : Opti × Curs => 0 ≤ v.2.i ∧ v.2.b.length ≤ 1048576)) (fun b2 => letP (P := (fun v : Opti × Curs => 0 ≤ v.2.i ∧ v.2.b.length ≤ 1048576)) (fun c22 hc22 => have kc22 : 0 ≤ c22.2.i ∧ c22.2.b.length ≤ 1048576 := (by rw [hc22]; exact s_l2Deep_cur _ (by first | assumption | exact ⟨by assumption, by assumption⟩ | grind [maxSl, wrap64])); letP (P := (fun v : Opti × Curs => 0 ≤ v.2.i ∧ v.2.b.length ≤ 1048576)) (fun c23 hc23 => have kc23 : 0 ≤ c23.2.i ∧ c23.2.b.length ≤ 1048576 := (by rw [hc23]; exact s_l2Deep_cur _ (by first | assumption | exact ⟨by assumption, by assumption⟩ | grind [maxSl, wrap64])); (by (try simp only [Nat.ble_eq, Bool.and_eq_true, decide_eq_true_eq]); grind [maxSl, maxStr, toBytes_length, toInts_length, List.length_set, wrap64, s_l1Once_cur, s_l1PickInt_cur, s_l1Below_rng, s_l1Below_cur, s_l2Deep_cur]))))
      (fun b2 => (by (try simp only [Nat.ble_eq, Bool.and_eq_true, decide_eq_true_eq]); grind [maxSl, maxStr, toBytes_length, toInts_length, List.length_set, wrap64, s_l1Once_cur, s_l1PickInt_cur, s_l1Below_rng, s_l1Below_cur, s_l2Deep_cur])))))))))

/-- spec.l12Tuple -/
def s_l12Tuple_N (y0 : Curs) (γ : Type) (fail : γ) (k : Tupl × Curs → γ) : γ :=
  bif (decide (0 ≤ y0.i ∧ y0.b.length ≤ 1048576)) then
  letK (α := Int × Curs) (s_l6Ip y0) fun c1 =>
  bif (decide ((0 ≤ c1.2.i ∧ c1.2.b.length ≤ 1048576) ∧ 0 < ([40000, 40001, 40002] : List Int).length)) then
  letK (α := Int × Curs) (s_l1PickInt c1.2 [40000, 40001, 40002]) fun c2 =>
  k ((⟨c1.1, c2.1, 80⟩ : Tupl), c2.2)
  else fail
  else fail
def s_l12Tuple (y0 : Curs) : Tupl × Curs :=
  letK (α := Int × Curs) (s_l6Ip y0) fun c1 =>
  letK (α := Int × Curs) (s_l1PickInt c1.2 [40000, 40001, 40002]) fun c2 =>
  ((⟨c1.1, c2.1, 80⟩ : Tupl), c2.2)
theorem s_l12Tuple_lk (y0 : Curs) : evalFnM te (orcOf (P := Try.prog) [s_l6Ip_e, s_l1PickInt_e]) lorc0 [] Try.f145 (pvs [.wr false [.ptr 0]] ((), ())) (mos [.box [.c (.sl .u8), .c (.int .i64), .c (.int .i64)]] ((y0.b, y0.i, y0.h, ()), ())) =
  s_l12Tuple_N y0 _ none (fun v => some ([(true, [RC.c (.int .i64 v.1.ip), RC.c (.int .i64 v.1.port), RC.c (.int .i64 v.1.my)])] ++ (mos [.box [.c (.sl .u8), .c (.int .i64), .c (.int .i64)]] ((v.2.b, v.2.i, v.2.h, ()), ())).map encO)) := by kernel_rfl
theorem s_l12Tuple_p (y0 : Curs) (hy0_b : y0.b.length ≤ 140737488355328) (hy0_i : inK .i64 y0.i) (hy0_h : inK .i64 y0.h) (hp : 0 ≤ y0.i ∧ y0.b.length ≤ 1048576) (γ : Type) (fail : γ) (k : Tupl × Curs → γ) : s_l12Tuple_N y0 γ fail k = k (s_l12Tuple y0) := by
  unfold s_l12Tuple_N s_l12Tuple
  exact bifG (by (try simp only [Nat.ble_eq, Bool.and_eq_true, decide_eq_true_eq]); grind [maxSl, maxStr, toBytes_length, toInts_length, List.length_set, wrap64, s_l6Ip_cur, s_l1PickInt_cur]) (letT (f := k) (fun c1 hc1 => have kc1 : 0 ≤ c1.2.i ∧ c1.2.b.length ≤ 1048576 := (by rw [hc1]; exact s_l6Ip_cur _ (by first | assumption | exact ⟨by assumption, by assumption⟩ | grind [maxSl, wrap64])); bifG (by (try simp only [Nat.ble_eq, Bool.and_eq_true, decide_eq_true_eq]); grind [maxSl, maxStr, toBytes_length, toInts_length, List.length_set, wrap64, s_l6Ip_cur, s_l1PickInt_cur]) (letT (f := k) (fun c2 hc2 => have kc2 : 0 ≤ c2.2.i ∧ c2.2.b.length ≤ 1048576 := (by rw [hc2]; exact s_l1PickInt_cur _ _ (by first | assumption | exact ⟨by assumption, by assumption⟩ | grind [maxSl, wrap64]) (by first | assumption | exact ⟨by assumption, by assumption⟩ | grind [maxSl, wrap64])); rfl))))
theorem s_l12Tuple_c (y0 : Curs) (hp : 0 ≤ y0.i ∧ y0.b.length ≤ 1048576) : ConM Try.prog 145 (pvs [.wr false [.ptr 0]] ((), ())) (mos [.box [.c (.sl .u8), .c (.int .i64), .c (.int .i64)]] ((y0.b, y0.i, y0.h, ()), ())) [rv (.st .tupl) [] (s_l12Tuple y0).1] (mos [.box [.c (.sl .u8), .c (.int .i64), .c (.int .i64)]] ((((s_l12Tuple y0).2).b, ((s_l12Tuple y0).2).i, ((s_l12Tuple y0).2).h, ()), ())) := by
  refine ConM.of_facts (enters_of Try.func145 rfl (by kernel_rfl)) fun hf hg => ?_
  replace hf := factAt hf
  exact evalFn_conLM teFact mixFact (orcOf_ok _) Try.func145 (by kernel_rfl) (bs := []) (by kernel_rfl) (by kernel_rfl) (by kernel_rfl) rfl (fun w0 mo I0 hmo => trivial) ((s_l12Tuple_lk y0).trans (s_l12Tuple_p y0 ((mbAt hg 0 0 rfl rfl).len) ((mbAt hg 0 1 rfl rfl).rng) ((mbAt hg 0 2 rfl rfl).rng) hp _ _ _))
noncomputable def s_l12Tuple_e : Ent1 Try.prog := entM 145 [.wr false [.ptr 0]] [.box [.c (.sl .u8), .c (.int .i64), .c (.int .i64)]] (fun x y => (decide (0 ≤ (⟨y.1.1, y.1.2.1, y.1.2.2.1⟩ : Curs).i ∧ (⟨y.1.1, y.1.2.1, y.1.2.2.1⟩ : Curs).b.length ≤ 1048576))) (fun x y => (s_l12Tuple (⟨y.1.1, y.1.2.1, y.1.2.2.1⟩ : Curs))) (fun v => [rv (.st .tupl) [] v.1]) (fun x y v => (mos [.box [.c (.sl .u8), .c (.int .i64), .c (.int .i64)]] ((v.2.b, v.2.i, v.2.h, ()), ()))) (fun x y hx => s_l12Tuple_c (⟨y.1.1, y.1.2.1, y.1.2.2.1⟩ : Curs) (of_decide_eq_true hx))

theorem s_l12Tuple_cur (y0 : Curs)  (hc0 : 0 ≤ y0.i ∧ y0.b.length ≤ 1048576) : 0 ≤ (s_l12Tuple y0).2.i ∧ (s_l12Tuple y0).2.b.length ≤ 1048576 := by
  unfold s_l12Tuple
  exact letP (P := (fun v : Tupl × Curs => 0 ≤ v.2.i ∧ v.2.b.length ≤ 1048576)) (fun c1 hc1 => have kc1 : 0 ≤ c1.2.i ∧ c1.2.b.length ≤ 1048576 := (by rw [hc1]; exact s_l6Ip_cur _ (by first | assumption | exact ⟨by assumption, by assumption⟩ | grind [maxSl, wrap64])); letP (P := (fun v : Tupl × Curs => 0 ≤ v.2.i ∧ v.2.b.length ≤ 1048576)) (fun c2 hc2 => have kc2 : 0 ≤ c2.2.i ∧ c2.2.b.length ≤ 1048576 := (by rw [hc2]; exact s_l1PickInt_cur _ _ (by first | assumption | exact ⟨by assumption, by assumption⟩ | grind [maxSl, wrap64]) (by first | assumption | exact ⟨by assumption, by assumption⟩ | grind [maxSl, wrap64])); (by (try simp only [Nat.ble_eq, Bool.and_eq_true, decide_eq_true_eq]); grind [maxSl, maxStr, toBytes_length, toInts_length, List.length_set, wrap64, s_l6Ip_cur, s_l1PickInt_cur])))

/-- spec.l32Client -/
def s_l32Client_N (y0 : Curs) (γ : Type) (fail : γ) (k : Clie × Curs → γ) : γ :=
  bif (decide ((0 ≤ y0.i ∧ y0.b.length ≤ 1048576) ∧ 0 < ([40007, 40008, 40000] : List Int).length)) then
  letK (α := Int × Curs) (s_l1PickInt y0 [40007, 40008, 40000]) fun c1 =>
  bif (decide (0 ≤ c1.2.i ∧ c1.2.b.length ≤ 1048576)) then
  letK (α := Int × Curs) (s_l2Deep c1.2) fun c2 =>
  bif (decide (0 ≤ c2.2.i ∧ c2.2.b.length ≤ 1048576)) then
  letK (α := Opti × Curs) (s_l8Options c2.2) fun c3 =>
  bif (decide ((0 ≤ c3.2.i ∧ c3.2.b.length ≤ 1048576) ∧ 0 < ([0, 9, 65535] : List Int).length)) then
  letK (α := Int × Curs) (s_l1PickInt c3.2 [0, 9, 65535]) fun c4 =>
  k ((⟨⟨167772162, c1.1, 80⟩, c2.1, c3.1, c4.1⟩ : Clie), c4.2)
  else fail
  else fail
  else fail
  else fail
def s_l32Client (y0 : Curs) : Clie × Curs :=
  letK (α := Int × Curs) (s_l1PickInt y0 [40007, 40008, 40000]) fun c1 =>
  letK (α := Int × Curs) (s_l2Deep c1.2) fun c2 =>
  letK (α := Opti × Curs) (s_l8Options c2.2) fun c3 =>
  letK (α := Int × Curs) (s_l1PickInt c3.2 [0, 9, 65535]) fun c4 =>
  ((⟨⟨167772162, c1.1, 80⟩, c2.1, c3.1, c4.1⟩ : Clie), c4.2)
theorem s_l32Client_lk (y0 : Curs) : evalFnM te (orcOf (P := Try.prog) [s_l1PickInt_e, s_l2Deep_e, s_l8Options_e]) lorc0 [] Try.f93 (pvs [.wr false [.ptr 0]] ((), ())) (mos [.box [.c (.sl .u8), .c (.int .i64), .c (.int .i64)]] ((y0.b, y0.i, y0.h, ()), ())) =
  s_l32Client_N y0 _ none (fun v => some ([(true, [RC.c (.int .i64 v.1.tuple.ip), RC.c (.int .i64 v.1.tuple.port), RC.c (.int .i64 v.1.tuple.my), RC.c (.int .i64 v.1.isn), RC.c (.int .i64 v.1.opts.mss), RC.c (.int .i64 v.1.opts.scale), RC.c (.bool v.1.opts.sack), RC.c (.bool v.1.opts.stamp), RC.c (.int .i64 v.1.opts.val), RC.c (.int .i64 v.1.opts.echo), RC.c (.int .i64 v.1.window)])] ++ (mos [.box [.c (.sl .u8), .c (.int .i64), .c (.int .i64)]] ((v.2.b, v.2.i, v.2.h, ()), ())).map encO)) := by kernel_rfl
theorem s_l32Client_p (y0 : Curs) (hy0_b : y0.b.length ≤ 140737488355328) (hy0_i : inK .i64 y0.i) (hy0_h : inK .i64 y0.h) (hp : 0 ≤ y0.i ∧ y0.b.length ≤ 1048576) (γ : Type) (fail : γ) (k : Clie × Curs → γ) : s_l32Client_N y0 γ fail k = k (s_l32Client y0) := by
  unfold s_l32Client_N s_l32Client
  exact bifG (by (try simp only [Nat.ble_eq, Bool.and_eq_true, decide_eq_true_eq]); grind [maxSl, maxStr, toBytes_length, toInts_length, List.length_set, wrap64, s_l1PickInt_cur, s_l2Deep_cur, s_l8Options_cur]) (letT (f := k) (fun c1 hc1 => have kc1 : 0 ≤ c1.2.i ∧ c1.2.b.length ≤ 1048576 := (by rw [hc1]; exact s_l1PickInt_cur _ _ (by first | assumption | exact ⟨by assumption, by assumption⟩ | grind [maxSl, wrap64]) (by first | assumption | exact ⟨by assumption, by assumption⟩ | grind [maxSl, wrap64])); bifG (by (try simp only [Nat.ble_eq, Bool.and_eq_true, decide_eq_true_eq]); grind [maxSl, maxStr, toBytes_length, toInts_length, List.length_set, wrap64, s_l1PickInt_cur, s_l2Deep_cur, s_l8Options_cur]) (letT (f := k) (fun c2 hc2 => have kc2 : 0 ≤ c2.2.i ∧ c2.2.b.length ≤ 1048576 := (by rw [hc2]; exact s_l2Deep_cur _ (by first | assumption | exact ⟨by assumption, by assumption⟩ | grind [maxSl, wrap64])); bifG (by (try simp only [Nat.ble_eq, Bool.and_eq_true, decide_eq_true_eq]); grind [maxSl, maxStr, toBytes_length, toInts_length, List.length_set, wrap64, s_l1PickInt_cur, s_l2Deep_cur, s_l8Options_cur]) (letT (f := k) (fun c3 hc3 => have kc3 : 0 ≤ c3.2.i ∧ c3.2.b.length ≤ 1048576 := (by rw [hc3]; exact s_l8Options_cur _ (by first | assumption | exact ⟨by assumption, by assumption⟩ | grind [maxSl, wrap64])); bifG (by (try simp only [Nat.ble_eq, Bool.and_eq_true, decide_eq_true_eq]); grind [maxSl, maxStr, toBytes_length, toInts_length, List.length_set, wrap64, s_l1PickInt_cur, s_l2Deep_cur, s_l8Options_cur]) (letT (f := k) (fun c4 hc4 => have kc4 : 0 ≤ c4.2.i ∧ c4.2.b.length ≤ 1048576 := (by rw [hc4]; exact s_l1PickInt_cur _ _ (by first | assumption | exact ⟨by assumption, by assumption⟩ | grind [maxSl, wrap64]) (by first | assumption | exact ⟨by assumption, by assumption⟩ | grind [maxSl, wrap64])); rfl))))))))
theorem s_l32Client_c (y0 : Curs) (hp : 0 ≤ y0.i ∧ y0.b.length ≤ 1048576) : ConM Try.prog 93 (pvs [.wr false [.ptr 0]] ((), ())) (mos [.box [.c (.sl .u8), .c (.int .i64), .c (.int .i64)]] ((y0.b, y0.i, y0.h, ()), ())) [rv (.st .clie) [] (s_l32Client y0).1] (mos [.box [.c (.sl .u8), .c (.int .i64), .c (.int .i64)]] ((((s_l32Client y0).2).b, ((s_l32Client y0).2).i, ((s_l32Client y0).2).h, ()), ())) := by
  refine ConM.of_facts (enters_of Try.func93 rfl (by kernel_rfl)) fun hf hg => ?_
  replace hf := factAt hf
  exact evalFn_conLM teFact mixFact (orcOf_ok _) Try.func93 (by kernel_rfl) (bs := []) (by kernel_rfl) (by kernel_rfl) (by kernel_rfl) rfl (fun w0 mo I0 hmo => trivial) ((s_l32Client_lk y0).trans (s_l32Client_p y0 ((mbAt hg 0 0 rfl rfl).len) ((mbAt hg 0 1 rfl rfl).rng) ((mbAt hg 0 2 rfl rfl).rng) hp _ _ _))
noncomputable def s_l32Client_e : Ent1 Try.prog := entM 93 [.wr false [.ptr 0]] [.box [.c (.sl .u8), .c (.int .i64), .c (.int .i64)]] (fun x y => (decide (0 ≤ (⟨y.1.1, y.1.2.1, y.1.2.2.1⟩ : Curs).i ∧ (⟨y.1.1, y.1.2.1, y.1.2.2.1⟩ : Curs).b.length ≤ 1048576))) (fun x y => (s_l32Client (⟨y.1.1, y.1.2.1, y.1.2.2.1⟩ : Curs))) (fun v => [rv (.st .clie) [] v.1]) (fun x y v => (mos [.box [.c (.sl .u8), .c (.int .i64), .c (.int .i64)]] ((v.2.b, v.2.i, v.2.h, ()), ()))) (fun x y hx => s_l32Client_c (⟨y.1.1, y.1.2.1, y.1.2.2.1⟩ : Curs) (of_decide_eq_true hx))

theorem s_l32Client_cur (y0 : Curs)  (hc0 : 0 ≤ y0.i ∧ y0.b.length ≤ 1048576) : 0 ≤ (s_l32Client y0).2.i ∧ (s_l32Client y0).2.b.length ≤ 1048576 := by
  unfold s_l32Client
  exact letP (P := (fun v : Clie × Curs => 0 ≤ v.2.i ∧ v.2.b.length ≤ 1048576)) (fun c1 hc1 => have kc1 : 0 ≤ c1.2.i ∧ c1.2.b.length ≤ 1048576 := (by rw [hc1]; exact s_l1PickInt_cur _ _ (by first | assumption | exact ⟨by assumption, by assumption⟩ | grind [maxSl, wrap64]) (by first | assumption | exact ⟨by assumption, by assumption⟩ | grind [maxSl, wrap64])); letP (P := (fun v : Clie × Curs => 0 ≤ v.2.i ∧ v.2.b.length ≤ 1048576)) (fun c2 hc2 => have kc2 : 0 ≤ c2.2.i ∧ c2.2.b.length ≤ 1048576 := (by rw [hc2]; exact s_l2Deep_cur _ (by first | assumption | exact ⟨by assumption, by assumption⟩ | grind [maxSl, wrap64])); letP (P := (fun v : Clie × Curs => 0 ≤ v.2.i ∧ v.2.b.length ≤ 1048576)) (fun c3 hc3 => have kc3 : 0 ≤ c3.2.i ∧ c3.2.b.length ≤ 1048576 := (by rw [hc3]; exact s_l8Options_cur _ (by first | assumption | exact ⟨by assumption, by assumption⟩ | grind [maxSl, wrap64])); letP (P := (fun v : Clie × Curs => 0 ≤ v.2.i ∧ v.2.b.length ≤ 1048576)) (fun c4 hc4 => have kc4 : 0 ≤ c4.2.i ∧ c4.2.b.length ≤ 1048576 := (by rw [hc4]; exact s_l1PickInt_cur _ _ (by first | assumption | exact ⟨by assumption, by assumption⟩ | grind [maxSl, wrap64]) (by first | assumption | exact ⟨by assumption, by assumption⟩ | grind [maxSl, wrap64])); (by (try simp only [Nat.ble_eq, Bool.and_eq_true, decide_eq_true_eq]); grind [maxSl, maxStr, toBytes_length, toInts_length, List.length_set, wrap64, s_l1PickInt_cur, s_l2Deep_cur, s_l8Options_cur])))))

end Go.Proofs.Ytbikbonhcfbmeaa
