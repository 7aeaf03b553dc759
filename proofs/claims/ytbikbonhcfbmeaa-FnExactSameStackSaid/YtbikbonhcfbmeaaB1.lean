/-
  Contracts of functions and plain laws (printed by a program): each theorem says what a function of the program returns; conditions are its hypotheses.
-/
import Derived.Test.YtbikbonhcfbmeaaBase
set_option maxRecDepth 4000
set_option linter.unusedVariables false
set_option linter.unusedSimpArgs false
namespace Go.Proofs.Ytbikbonhcfbmeaa
open Go Go.RowKit

/-- laws.toTuple -/
def w_toTuple_N (x0 : Tupl) (γ : Type) (fail : γ) (k : Tupl → γ) : γ :=
  k x0
def w_toTuple (x0 : Tupl) : Tupl :=
  x0
theorem w_toTuple_lk (x0 : Tupl) : evalFn te (orcOf (P := Try.prog) []) lorc0 [] Try.f35 (pvs [.st .tupl] (x0, ())) =
  w_toTuple_N x0 _ none (fun v => some [(true, [RC.c (.int .i64 v.ip), RC.c (.int .i64 v.port), RC.c (.int .i64 v.my)])]) := by kernel_rfl
theorem w_toTuple_p (x0 : Tupl)   (γ : Type) (fail : γ) (k : Tupl → γ) : w_toTuple_N x0 γ fail k = k (w_toTuple x0) := by
  unfold w_toTuple_N w_toTuple
  exact rfl
theorem w_toTuple_c (x0 : Tupl)  : Con Try.prog 35 (pvs [.st .tupl] (x0, ())) [rv (.st .tupl) [] (w_toTuple x0)] := by
  exact evalFn_con0 teFact mixFact (orcOf_ok _) Try.func35 (by kernel_rfl) ((w_toTuple_lk x0).trans (w_toTuple_p x0  _ _ _))
noncomputable def w_toTuple_e : Ent1 Try.prog := entA 35 [.st .tupl] (fun x => (w_toTuple x.1)) (fun v => [rv (.st .tupl) [] v]) (fun x => w_toTuple_c x.1)


/-- laws.szHalfS -/
def w_szHalfS_N (x0 : List Half) (x1 : Int) (γ : Type) (fail : γ) (k : Int → γ) : γ :=
  bif (decide ((IntKind.wrap .i64 (x1 - (x0.length : Int))) < 0)) then
    k (-1)
  else
  k (IntKind.wrap .i64 (x1 - (x0.length : Int)))
def w_szHalfS (x0 : List Half) (x1 : Int) : Int :=
  bif (decide ((IntKind.wrap .i64 (x1 - (x0.length : Int))) < 0)) then
    (-1)
  else
  (IntKind.wrap .i64 (x1 - (x0.length : Int)))
theorem w_szHalfS_lk (x0 : List Half) (x1 : Int) : evalFn te (orcOf (P := Try.prog) []) lorc0 [] Try.f70 (pvs [.sc (.sl .half), .sc (.int .i64)] (x0, x1, ())) =
  w_szHalfS_N x0 x1 _ none (fun v => some [(false, [RC.c (.int .i64 v)])]) := by kernel_rfl
theorem w_szHalfS_p (x0 : List Half) (x1 : Int)   (γ : Type) (fail : γ) (k : Int → γ) : w_szHalfS_N x0 x1 γ fail k = k (w_szHalfS x0 x1) := by
  unfold w_szHalfS_N w_szHalfS
  exact bifT (f := k) (fun b0 => rfl)
      (fun b0 => rfl)
theorem w_szHalfS_c (x0 : List Half) (x1 : Int)  : Con Try.prog 70 (pvs [.sc (.sl .half), .sc (.int .i64)] (x0, x1, ())) [rv (.sc (.int .i64)) [] (w_szHalfS x0 x1)] := by
  exact evalFn_con0 teFact mixFact (orcOf_ok _) Try.func70 (by kernel_rfl) ((w_szHalfS_lk x0 x1).trans (w_szHalfS_p x0 x1  _ _ _))
noncomputable def w_szHalfS_e : Ent1 Try.prog := entA 70 [.sc (.sl .half), .sc (.int .i64)] (fun x => (w_szHalfS x.1 x.2.1)) (fun v => [rv (.sc (.int .i64)) [] v]) (fun x => w_szHalfS_c x.1 x.2.1)


/-- laws.toLimits -/
def w_toLimits_N (x0 : Limi) (γ : Type) (fail : γ) (k : Limi → γ) : γ :=
  k x0
def w_toLimits (x0 : Limi) : Limi :=
  x0
theorem w_toLimits_lk (x0 : Limi) : evalFn te (orcOf (P := Try.prog) []) lorc0 [] Try.f73 (pvs [.st .limi] (x0, ())) =
  w_toLimits_N x0 _ none (fun v => some [(true, [RC.c (.int .i64 v.halves), RC.c (.int .i64 v.waiting), RC.c (.int .i64 v.conns), RC.c (.int .i64 v.chal)])]) := by kernel_rfl
theorem w_toLimits_p (x0 : Limi)   (γ : Type) (fail : γ) (k : Limi → γ) : w_toLimits_N x0 γ fail k = k (w_toLimits x0) := by
  unfold w_toLimits_N w_toLimits
  exact rfl
theorem w_toLimits_c (x0 : Limi)  : Con Try.prog 73 (pvs [.st .limi] (x0, ())) [rv (.st .limi) [] (w_toLimits x0)] := by
  exact evalFn_con0 teFact mixFact (orcOf_ok _) Try.func73 (by kernel_rfl) ((w_toLimits_lk x0).trans (w_toLimits_p x0  _ _ _))
noncomputable def w_toLimits_e : Ent1 Try.prog := entA 73 [.st .limi] (fun x => (w_toLimits x.1)) (fun v => [rv (.st .limi) [] v]) (fun x => w_toLimits_c x.1)


/-- laws.eqLimits -/
def w_eqLimits_N (x0 : Limi) (x1 : Limi) (γ : Type) (fail : γ) (k : Bool → γ) : γ :=
  bif (x0.halves != x1.halves) then
    k false
  else
  bif (x0.waiting != x1.waiting) then
    k false
  else
  bif (x0.conns != x1.conns) then
    k false
  else
  bif (x0.chal != x1.chal) then
    k false
  else
  k true
def w_eqLimits (x0 : Limi) (x1 : Limi) : Bool :=
  bif (x0.halves != x1.halves) then
    false
  else
  bif (x0.waiting != x1.waiting) then
    false
  else
  bif (x0.conns != x1.conns) then
    false
  else
  bif (x0.chal != x1.chal) then
    false
  else
  true
theorem w_eqLimits_lk (x0 : Limi) (x1 : Limi) : evalFn te (orcOf (P := Try.prog) []) lorc0 [] Try.f77 (pvs [.st .limi, .st .limi] (x0, x1, ())) =
  w_eqLimits_N x0 x1 _ none (fun v => some [(false, [RC.c (.bool v)])]) := by kernel_rfl
theorem w_eqLimits_p (x0 : Limi) (x1 : Limi)   (γ : Type) (fail : γ) (k : Bool → γ) : w_eqLimits_N x0 x1 γ fail k = k (w_eqLimits x0 x1) := by
  unfold w_eqLimits_N w_eqLimits
  exact bifT (f := k) (fun b0 => rfl)
      (fun b0 => bifT (f := k) (fun b1 => rfl)
      (fun b1 => bifT (f := k) (fun b2 => rfl)
      (fun b2 => bifT (f := k) (fun b3 => rfl)
      (fun b3 => rfl))))
theorem w_eqLimits_c (x0 : Limi) (x1 : Limi)  : Con Try.prog 77 (pvs [.st .limi, .st .limi] (x0, x1, ())) [rv (.sc .bool) [] (w_eqLimits x0 x1)] := by
  exact evalFn_con0 teFact mixFact (orcOf_ok _) Try.func77 (by kernel_rfl) ((w_eqLimits_lk x0 x1).trans (w_eqLimits_p x0 x1  _ _ _))
noncomputable def w_eqLimits_e : Ent1 Try.prog := entA 77 [.st .limi, .st .limi] (fun x => (w_eqLimits x.1 x.2.1)) (fun v => [rv (.sc .bool) [] v]) (fun x => w_eqLimits_c x.1 x.2.1)


/-- spec.SameLink -/
def s_SameLink_ann : List (Nat × Keep) := [(0, ⟨[2, 3, 5], [], false, 0⟩)]
def s_SameLink_L0_sh : Sh := ⟨[(2, false, [.ptr 0 0]), (3, false, [.ptr 1 0]), (5, false, [.int .i64])], [.box [.int .i64, .int .i64, .sl .arg .entr], .box [.int .i64, .int .i64, .sl .arg .entr]]⟩
def s_SameLink_L0_es : List (Ex × Sh) := [(.ret, ⟨[(4, false, [.bool])], []⟩), (.exit 0, ⟨[(4, false, [.undef])], []⟩)]
def s_SameLink_L0_mk (v0 : Int) (v1 : Int) (v2 : Int) (v3 : List Entr) (v4 : Int) (v5 : Int) (v6 : List Entr) : s_SameLink_L0_sh.T := ((((), ()), (((), ()), ((v0, ()), ()))), ((v1, (v2, (v3, ()))), ((v4, (v5, (v6, ()))), ())))
def s_SameLink_L0_mx0 (y0 : Bool) : Sh.T ⟨[(4, false, [.bool])], []⟩ := (((y0, ()), ()), ())
def s_SameLink_L0_mx1  : Sh.T ⟨[(4, false, [.undef])], []⟩ := ((((), ()), ()), ())
def s_SameLink_L0_B (v0 : Int) (v1 : Int) (v2 : Int) (v3 : List Entr) (v4 : Int) (v5 : Int) (v6 : List Entr) (γ : Type) (fail : γ) (next : s_SameLink_L0_sh.T → γ) (out : WT s_SameLink_L0_es → γ) : γ :=
  bif (decide (v0 < (v3.length : Int))) then
    bif ((decide (0 ≤ v0)) && (decide (v0 < (v3.length : Int)))) then
    bif ((decide (0 ≤ v0)) && (decide (v0 < (v6.length : Int)))) then
    bif (!(((v3.getD v0.toNat (Ty.zero .entr)).ip == (v6.getD v0.toNat (Ty.zero .entr)).ip) && (((v3.getD v0.toNat (Ty.zero .entr)).hw == (v6.getD v0.toNat (Ty.zero .entr)).hw) && (((v3.getD v0.toNat (Ty.zero .entr)).age == (v6.getD v0.toNat (Ty.zero .entr)).age) && true)))) then
      out (Sum.inl (s_SameLink_L0_mx0 false))
    else
    next (s_SameLink_L0_mk (IntKind.wrap .i64 (v0 + 1)) v1 v2 v3 v4 v5 v6)
    else fail
    else fail
  else
  out (Sum.inr (s_SameLink_L0_mx1 ))
theorem s_SameLink_L0_par (v0 : Int) (v1 : Int) (v2 : Int) (v3 : List Entr) (v4 : Int) (v5 : Int) (v6 : List Entr) (γ : Type) (fail : γ) (next : s_SameLink_L0_sh.T → γ) (out : WT s_SameLink_L0_es → γ) : s_SameLink_L0_B v0 v1 v2 v3 v4 v5 v6 γ fail next out = optK (s_SameLink_L0_B v0 v1 v2 v3 v4 v5 v6 _ none (fun v' => some (.inl v')) (fun w => some (.inr w))) fail (fun r => Sum.elim next out r) := by
  unfold s_SameLink_L0_B
  exact bifT (f := (fun o => optK o fail (fun r => Sum.elim next out r))) (fun _ => bifT (f := (fun o => optK o fail (fun r => Sum.elim next out r))) (fun _ => bifT (f := (fun o => optK o fail (fun r => Sum.elim next out r))) (fun _ => bifT (f := (fun o => optK o fail (fun r => Sum.elim next out r))) (fun _ => rfl)
      (fun _ => rfl)) (fun _ => rfl)) (fun _ => rfl))
      (fun _ => rfl)
def s_SameLink_L0_r : Round s_SameLink_L0_sh.T (WT s_SameLink_L0_es) where
  B v γ fail next out := s_SameLink_L0_B v.1.2.2.1.1 v.2.1.1 v.2.1.2.1 v.2.1.2.2.1 v.2.2.1.1 v.2.2.1.2.1 v.2.2.1.2.2.1 γ fail next out
  par v γ fail next out := s_SameLink_L0_par v.1.2.2.1.1 v.2.1.1 v.2.1.2.1 v.2.1.2.2.1 v.2.2.1.1 v.2.2.1.2.1 v.2.2.1.2.2.1 γ fail next out
def s_SameLink_L0_fu (v0 : Int) (v1 : Int) (v2 : Int) (v3 : List Entr) (v4 : Int) (v5 : Int) (v6 : List Entr) : Nat := (Int.toNat ((v3.length : Int) - v0)) + 1
theorem s_SameLink_L0_lk (v : s_SameLink_L0_sh.T) (next : St → Option Res) (k : Ex → St → Option Res) : evalK te (orcOf (P := Try.prog) []) (lorcOf []) Try.f81.ntmps s_SameLink_ann (nthLoop (bodyOf Try.f81) 0 0) 0 (s_SameLink_L0_sh.enc v) (endK ⟨[2, 3, 5], [], false, 0⟩ ⟨[4], [], false, 0⟩ next k) =
  s_SameLink_L0_r.B v _ none (fun v' => next (s_SameLink_L0_sh.enc v')) (fun w => outK s_SameLink_L0_es k w) := by kernel_rfl
def s_SameLink_L0_le : LE := leOf 0 s_SameLink_L0_sh s_SameLink_L0_es s_SameLink_L0_r.step (fun v => s_SameLink_L0_fu v.1.2.2.1.1 v.2.1.1 v.2.1.2.1 v.2.1.2.2.1 v.2.2.1.1 v.2.2.1.2.1 v.2.2.1.2.2.1)
theorem s_SameLink_L0_ls (w0 : World) (mo : Mts) (I0 : Nat → Prop) (hmo : mo.length = 0) : LSem Try.prog (Sim w0 mo Try.f81.ntmps I0) (fun b s k => match Nat.beq 0 b with | true => s_SameLink_L0_le.run s k | false => none) 0 (nthLoop (bodyOf Try.f81) 0 0) :=
  le_sem hmo (lorc := lorcOf []) (ann := s_SameLink_ann) (keep := ⟨[2, 3, 5], [], false, 0⟩) (kout := ⟨[4], [], false, 0⟩) teFact mixFact (orcOf_ok _) (by kernel_rfl) (allLoops_of (bs := []) (by kernel_rfl) trivial) s_SameLink_L0_r _ s_SameLink_L0_lk
def s_SameLink_L0_f (v1 : Int) (v2 : Int) (v3 : List Entr) (v4 : Int) (v5 : Int) (v6 : List Entr) (v0 : Int) (a : Unit) : Stp (Unit) ((Unit)) :=
  bif (!(((v3.getD v0.toNat (Ty.zero .entr)).ip == (v6.getD v0.toNat (Ty.zero .entr)).ip) && (((v3.getD v0.toNat (Ty.zero .entr)).hw == (v6.getD v0.toNat (Ty.zero .entr)).hw) && (((v3.getD v0.toNat (Ty.zero .entr)).age == (v6.getD v0.toNat (Ty.zero .entr)).age) && true)))) then
    .out (())
  else
  .next ()
theorem s_SameLink_L0_st (v0 : Int) (v1 : Int) (v2 : Int) (v3 : List Entr) (v4 : Int) (v5 : Int) (v6 : List Entr) (hlo : 0 ≤ v0) (hhi : v0 < (v3.length : Int)) (hN : (v3.length : Int) ≤ 4611686018427387904) (hi0 : (v3.length : Int) ≤ (v6.length : Int)) : s_SameLink_L0_r.step (s_SameLink_L0_mk v0 v1 v2 v3 v4 v5 v6) = Stp.elim (fun a' : Unit => some (Sum.inl (s_SameLink_L0_mk (v0 + 1) v1 v2 v3 v4 v5 v6))) (fun w => some (Sum.inr ((fun p : Unit => Sum.inl (s_SameLink_L0_mx0 false)) w))) (s_SameLink_L0_f v1 v2 v3 v4 v5 v6 v0 ()) := by
  have hw : (IntKind.wrap .i64 (v0 + 1)) = v0 + 1 := wrap64 (by omega) (by omega)
  show s_SameLink_L0_B v0 v1 v2 v3 v4 v5 v6 (Option (s_SameLink_L0_sh.T ⊕ WT s_SameLink_L0_es)) none (fun v' => some (Sum.inl v')) (fun w => some (Sum.inr w)) = _
  unfold s_SameLink_L0_B s_SameLink_L0_f
  exact bifG (by simp only [decide_eq_true_eq]; omega) (bifG (by (try simp only [Nat.ble_eq, Bool.and_eq_true, decide_eq_true_eq]); grind [maxSl, maxStr, toBytes_length, toInts_length, List.length_set, wrap64]) (bifG (by (try simp only [Nat.ble_eq, Bool.and_eq_true, decide_eq_true_eq]); grind [maxSl, maxStr, toBytes_length, toInts_length, List.length_set, wrap64]) (bifT (f := (Stp.elim (fun a' : Unit => some (Sum.inl (s_SameLink_L0_mk (v0 + 1) v1 v2 v3 v4 v5 v6))) (fun w => some (Sum.inr ((fun p : Unit => Sum.inl (s_SameLink_L0_mx0 false)) w))))) (fun b0 => rfl)
      (fun b0 => (by exact congrArg (fun z => some (Sum.inl (s_SameLink_L0_mk z v1 v2 v3 v4 v5 v6))) hw)))))
theorem s_SameLink_L0_cl (v0 : Int) (v1 : Int) (v2 : Int) (v3 : List Entr) (v4 : Int) (v5 : Int) (v6 : List Entr) (h0 : 0 ≤ v0) (h1 : (v3.length : Int) ≤ 4611686018427387904) (h2 : (v3.length : Int) ≤ (v6.length : Int)) : loopF s_SameLink_L0_r.step (s_SameLink_L0_fu v0 v1 v2 v3 v4 v5 v6) (s_SameLink_L0_mk v0 v1 v2 v3 v4 v5 v6) = some (Stp.elim (fun a => (fun i a => Sum.inr (s_SameLink_L0_mx1 )) (v0 + 1 * (((Int.toNat ((v3.length : Int) - v0)) : Nat) : Int)) a) (fun p : Unit => Sum.inl (s_SameLink_L0_mx0 false)) (forN (s_SameLink_L0_f v1 v2 v3 v4 v5 v6) 1 (Int.toNat ((v3.length : Int) - v0)) v0 ())) :=
  forN_loop (step := s_SameLink_L0_r.step) (mk := fun v0 a => s_SameLink_L0_mk v0 v1 v2 v3 v4 v5 v6) (f := s_SameLink_L0_f v1 v2 v3 v4 v5 v6) (e := (fun i a => Sum.inr (s_SameLink_L0_mx1 ))) (emb := (fun p : Unit => Sum.inl (s_SameLink_L0_mx0 false))) (st := 1) (Inv := fun v0 a => True) (Int.toNat ((v3.length : Int) - v0)) v0 () _ (Nat.lt_succ_self _) trivial
    (fun j a hj hv => ⟨s_SameLink_L0_st (v0 + 1 * (j : Int)) v1 v2 v3 v4 v5 v6 (by omega) (by omega) (by omega) h2, fun _ _ => trivial⟩)
    (fun a hv => by
      show s_SameLink_L0_B (v0 + 1 * (((Int.toNat ((v3.length : Int) - v0)) : Nat) : Int)) v1 v2 v3 v4 v5 v6 (Option (s_SameLink_L0_sh.T ⊕ WT s_SameLink_L0_es)) none (fun v' => some (Sum.inl v')) (fun w => some (Sum.inr w)) = _
      unfold s_SameLink_L0_B
      exact bifN (by simp only [decide_eq_false_iff_not]; omega) rfl)
def s_SameLink_N (x0 : Link) (x1 : Link) (γ : Type) (fail : γ) (k : Bool → γ) : γ :=
  bif (x0.mac != x1.mac) then
    k false
  else
  bif (x0.ip != x1.ip) then
    k false
  else
  bif ((x0.cache.length : Int) != (x1.cache.length : Int)) then
    k false
  else
  optK (loopF s_SameLink_L0_r.step (s_SameLink_L0_fu 0 x0.mac x0.ip x0.cache x1.mac x1.ip x1.cache) (s_SameLink_L0_mk 0 x0.mac x0.ip x0.cache x1.mac x1.ip x1.cache)) fail fun w1 =>
    Sum.elim (fun w1 =>
      k w1.1.1.1)
    (fun w1 =>
      k true) w1
def s_SameLink (x0 : Link) (x1 : Link) : Bool :=
  bif (x0.mac != x1.mac) then
    false
  else
  bif (x0.ip != x1.ip) then
    false
  else
  bif ((x0.cache.length : Int) != (x1.cache.length : Int)) then
    false
  else
  Stp.elim (fun a2 =>
    true)
    (fun p2 =>
      false)
    (forN (s_SameLink_L0_f x0.mac x0.ip x0.cache x1.mac x1.ip x1.cache) 1 (Int.toNat ((x0.cache.length : Int) - 0)) 0 ())
theorem s_SameLink_lk (x0 : Link) (x1 : Link) : evalFn te (orcOf (P := Try.prog) []) (lorcOf [s_SameLink_L0_le]) s_SameLink_ann Try.f81 (pvs [.st .link, .st .link] (x0, x1, ())) =
  s_SameLink_N x0 x1 _ none (fun v => some [(false, [RC.c (.bool v)])]) := by kernel_rfl
theorem s_SameLink_p (x0 : Link) (x1 : Link) (hx0_mac : inK .i64 x0.mac) (hx0_ip : inK .i64 x0.ip) (hx0_cache : x0.cache.length ≤ 140737488355328) (hx1_mac : inK .i64 x1.mac) (hx1_ip : inK .i64 x1.ip) (hx1_cache : x1.cache.length ≤ 140737488355328)  (γ : Type) (fail : γ) (k : Bool → γ) : s_SameLink_N x0 x1 γ fail k = k (s_SameLink x0 x1) := by
  unfold s_SameLink_N s_SameLink
  exact bifT (f := k) (fun b0 => rfl)
      (fun b0 => bifT (f := k) (fun b1 => rfl)
      (fun b1 => bifT (f := k) (fun b2 => rfl)
      (fun b2 => loopT (f := k) (s_SameLink_L0_cl 0 x0.mac x0.ip x0.cache x1.mac x1.ip x1.cache (by (try simp only [Nat.ble_eq, Bool.and_eq_true, decide_eq_true_eq, s_SameLink_L0_mx0, s_SameLink_L0_mx1]); grind [maxSl, maxStr, toBytes_length, toInts_length, List.length_set, wrap64]) (by (try simp only [Nat.ble_eq, Bool.and_eq_true, decide_eq_true_eq, s_SameLink_L0_mx0, s_SameLink_L0_mx1]); grind [maxSl, maxStr, toBytes_length, toInts_length, List.length_set, wrap64]) (by (try simp only [Nat.ble_eq, Bool.and_eq_true, decide_eq_true_eq, s_SameLink_L0_mx0, s_SameLink_L0_mx1]); grind [maxSl, maxStr, toBytes_length, toInts_length, List.length_set, wrap64])) (fun a2 => rfl)
      (fun p2 => rfl))))
theorem s_SameLink_c (x0 : Link) (x1 : Link)  : Con Try.prog 81 (pvs [.st .link, .st .link] (x0, x1, ())) [rv (.sc .bool) [] (s_SameLink x0 x1)] := by
  refine Con.of_facts (enters_of Try.func81 rfl (by kernel_rfl)) fun hf => ?_
  replace hf := factAt hf
  exact evalFn_conL teFact mixFact (orcOf_ok _) Try.func81 (by kernel_rfl) (bs := [0]) (by kernel_rfl) (by kernel_rfl) (fun w0 mo I0 hmo => ⟨lsem_of_lorc (s_SameLink_L0_ls w0 mo I0 hmo) (by kernel_rfl), trivial⟩) ((s_SameLink_lk x0 x1).trans (s_SameLink_p x0 x1 ((hf 0 0 rfl rfl).rng) ((hf 0 1 rfl rfl).rng) ((hf 0 2 rfl rfl).len) ((hf 1 0 rfl rfl).rng) ((hf 1 1 rfl rfl).rng) ((hf 1 2 rfl rfl).len) _ _ _))
noncomputable def s_SameLink_e : Ent1 Try.prog := entA 81 [.st .link, .st .link] (fun x => (s_SameLink x.1 x.2.1)) (fun v => [rv (.sc .bool) [] v]) (fun x => s_SameLink_c x.1 x.2.1)


/-- laws.toOptions -/
def w_toOptions_N (x0 : Opti) (γ : Type) (fail : γ) (k : Opti → γ) : γ :=
  k x0
def w_toOptions (x0 : Opti) : Opti :=
  x0
theorem w_toOptions_lk (x0 : Opti) : evalFn te (orcOf (P := Try.prog) []) lorc0 [] Try.f89 (pvs [.st .opti] (x0, ())) =
  w_toOptions_N x0 _ none (fun v => some [(true, [RC.c (.int .i64 v.mss), RC.c (.int .i64 v.scale), RC.c (.bool v.sack), RC.c (.bool v.stamp), RC.c (.int .i64 v.val), RC.c (.int .i64 v.echo)])]) := by kernel_rfl
theorem w_toOptions_p (x0 : Opti)   (γ : Type) (fail : γ) (k : Opti → γ) : w_toOptions_N x0 γ fail k = k (w_toOptions x0) := by
  unfold w_toOptions_N w_toOptions
  exact rfl
theorem w_toOptions_c (x0 : Opti)  : Con Try.prog 89 (pvs [.st .opti] (x0, ())) [rv (.st .opti) [] (w_toOptions x0)] := by
  exact evalFn_con0 teFact mixFact (orcOf_ok _) Try.func89 (by kernel_rfl) ((w_toOptions_lk x0).trans (w_toOptions_p x0  _ _ _))
noncomputable def w_toOptions_e : Ent1 Try.prog := entA 89 [.st .opti] (fun x => (w_toOptions x.1)) (fun v => [rv (.st .opti) [] v]) (fun x => w_toOptions_c x.1)


/-- laws.eqOptions -/
def w_eqOptions_N (x0 : Opti) (x1 : Opti) (γ : Type) (fail : γ) (k : Bool → γ) : γ :=
  bif (x0.mss != x1.mss) then
    k false
  else
  bif (x0.scale != x1.scale) then
    k false
  else
  bif (!(x0.sack == x1.sack)) then
    k false
  else
  bif (!(x0.stamp == x1.stamp)) then
    k false
  else
  bif (x0.val != x1.val) then
    k false
  else
  bif (x0.echo != x1.echo) then
    k false
  else
  k true
def w_eqOptions (x0 : Opti) (x1 : Opti) : Bool :=
  bif (x0.mss != x1.mss) then
    false
  else
  bif (x0.scale != x1.scale) then
    false
  else
  bif (!(x0.sack == x1.sack)) then
    false
  else
  bif (!(x0.stamp == x1.stamp)) then
    false
  else
  bif (x0.val != x1.val) then
    false
  else
  bif (x0.echo != x1.echo) then
    false
  else
  true
theorem w_eqOptions_lk (x0 : Opti) (x1 : Opti) : evalFn te (orcOf (P := Try.prog) []) lorc0 [] Try.f92 (pvs [.st .opti, .st .opti] (x0, x1, ())) =
  w_eqOptions_N x0 x1 _ none (fun v => some [(false, [RC.c (.bool v)])]) := by kernel_rfl
theorem w_eqOptions_p (x0 : Opti) (x1 : Opti)   (γ : Type) (fail : γ) (k : Bool → γ) : w_eqOptions_N x0 x1 γ fail k = k (w_eqOptions x0 x1) := by
  unfold w_eqOptions_N w_eqOptions
  exact bifT (f := k) (fun b0 => rfl)
      (fun b0 => bifT (f := k) (fun b1 => rfl)
      (fun b1 => bifT (f := k) (fun b2 => rfl)
      (fun b2 => bifT (f := k) (fun b3 => rfl)
      (fun b3 => bifT (f := k) (fun b4 => rfl)
      (fun b4 => bifT (f := k) (fun b5 => rfl)
      (fun b5 => rfl))))))
theorem w_eqOptions_c (x0 : Opti) (x1 : Opti)  : Con Try.prog 92 (pvs [.st .opti, .st .opti] (x0, x1, ())) [rv (.sc .bool) [] (w_eqOptions x0 x1)] := by
  exact evalFn_con0 teFact mixFact (orcOf_ok _) Try.func92 (by kernel_rfl) ((w_eqOptions_lk x0 x1).trans (w_eqOptions_p x0 x1  _ _ _))
noncomputable def w_eqOptions_e : Ent1 Try.prog := entA 92 [.st .opti, .st .opti] (fun x => (w_eqOptions x.1 x.2.1)) (fun v => [rv (.sc .bool) [] v]) (fun x => w_eqOptions_c x.1 x.2.1)


/-- laws.szTupleS -/
def w_szTupleS_N (x0 : List Tupl) (x1 : Int) (γ : Type) (fail : γ) (k : Int → γ) : γ :=
  bif (decide ((IntKind.wrap .i64 (x1 - (x0.length : Int))) < 0)) then
    k (-1)
  else
  k (IntKind.wrap .i64 (x1 - (x0.length : Int)))
def w_szTupleS (x0 : List Tupl) (x1 : Int) : Int :=
  bif (decide ((IntKind.wrap .i64 (x1 - (x0.length : Int))) < 0)) then
    (-1)
  else
  (IntKind.wrap .i64 (x1 - (x0.length : Int)))
theorem w_szTupleS_lk (x0 : List Tupl) (x1 : Int) : evalFn te (orcOf (P := Try.prog) []) lorc0 [] Try.f121 (pvs [.sc (.sl .tupl), .sc (.int .i64)] (x0, x1, ())) =
  w_szTupleS_N x0 x1 _ none (fun v => some [(false, [RC.c (.int .i64 v)])]) := by kernel_rfl
theorem w_szTupleS_p (x0 : List Tupl) (x1 : Int)   (γ : Type) (fail : γ) (k : Int → γ) : w_szTupleS_N x0 x1 γ fail k = k (w_szTupleS x0 x1) := by
  unfold w_szTupleS_N w_szTupleS
  exact bifT (f := k) (fun b0 => rfl)
      (fun b0 => rfl)
theorem w_szTupleS_c (x0 : List Tupl) (x1 : Int)  : Con Try.prog 121 (pvs [.sc (.sl .tupl), .sc (.int .i64)] (x0, x1, ())) [rv (.sc (.int .i64)) [] (w_szTupleS x0 x1)] := by
  exact evalFn_con0 teFact mixFact (orcOf_ok _) Try.func121 (by kernel_rfl) ((w_szTupleS_lk x0 x1).trans (w_szTupleS_p x0 x1  _ _ _))
noncomputable def w_szTupleS_e : Ent1 Try.prog := entA 121 [.sc (.sl .tupl), .sc (.int .i64)] (fun x => (w_szTupleS x.1 x.2.1)) (fun v => [rv (.sc (.int .i64)) [] v]) (fun x => w_szTupleS_c x.1 x.2.1)


/-- laws.toHalf -/
def w_toHalf_N (x0 : Half) (γ : Type) (fail : γ) (k : Half → γ) : γ :=
  letK (α := Tupl) (w_toTuple x0.tuple) fun c1 =>
  letK (α := Opti) (w_toOptions x0.opts) fun c2 =>
  k (⟨c1, x0.iss, x0.irs, c2, x0.age, x0.window⟩ : Half)
def w_toHalf (x0 : Half) : Half :=
  letK (α := Tupl) (w_toTuple x0.tuple) fun c1 =>
  letK (α := Opti) (w_toOptions x0.opts) fun c2 =>
  (⟨c1, x0.iss, x0.irs, c2, x0.age, x0.window⟩ : Half)
theorem w_toHalf_lk (x0 : Half) : evalFn te (orcOf (P := Try.prog) [w_toTuple_e, w_toOptions_e]) lorc0 [] Try.f123 (pvs [.st .half] (x0, ())) =
  w_toHalf_N x0 _ none (fun v => some [(true, [RC.c (.int .i64 v.tuple.ip), RC.c (.int .i64 v.tuple.port), RC.c (.int .i64 v.tuple.my), RC.c (.int .i64 v.iss), RC.c (.int .i64 v.irs), RC.c (.int .i64 v.opts.mss), RC.c (.int .i64 v.opts.scale), RC.c (.bool v.opts.sack), RC.c (.bool v.opts.stamp), RC.c (.int .i64 v.opts.val), RC.c (.int .i64 v.opts.echo), RC.c (.int .i64 v.age), RC.c (.int .i64 v.window)])]) := by kernel_rfl
theorem w_toHalf_p (x0 : Half)   (γ : Type) (fail : γ) (k : Half → γ) : w_toHalf_N x0 γ fail k = k (w_toHalf x0) := by
  unfold w_toHalf_N w_toHalf
  exact letT (f := k) (fun c1 hc1 => letT (f := k) (fun c2 hc2 => rfl))
theorem w_toHalf_c (x0 : Half)  : Con Try.prog 123 (pvs [.st .half] (x0, ())) [rv (.st .half) [] (w_toHalf x0)] := by
  exact evalFn_con0 teFact mixFact (orcOf_ok _) Try.func123 (by kernel_rfl) ((w_toHalf_lk x0).trans (w_toHalf_p x0  _ _ _))
noncomputable def w_toHalf_e : Ent1 Try.prog := entA 123 [.st .half] (fun x => (w_toHalf x.1)) (fun v => [rv (.st .half) [] v]) (fun x => w_toHalf_c x.1)


/-- laws.toTupleS -/
def w_toTupleS_ann : List (Nat × Keep) := [(0, ⟨[0, 3, 4], [], false, 0⟩)]
def w_toTupleS_L0_sh : Sh := ⟨[(0, false, [.sl .arg .tupl]), (3, false, [.own 0]), (4, false, [.int .i64])], [.arr .tupl false true]⟩
def w_toTupleS_L0_es : List (Ex × Sh) := [(.exit 0, ⟨[(2, false, [.undef]), (3, false, [.own 0])], [.arr .tupl false true]⟩)]
def w_toTupleS_L0_mk (v0 : List Tupl) (v1 : Int) (v2 : List Tupl) : w_toTupleS_L0_sh.T := (((v0, ()), (((), ()), ((v1, ()), ()))), (v2, ()))
def w_toTupleS_L0_mx0 (y0 : List Tupl) : Sh.T ⟨[(2, false, [.undef]), (3, false, [.own 0])], [.arr .tupl false true]⟩ := ((((), ()), (((), ()), ())), (y0, ()))
def w_toTupleS_L0_B (v0 : List Tupl) (v1 : Int) (v2 : List Tupl) (γ : Type) (fail : γ) (next : w_toTupleS_L0_sh.T → γ) (out : WT w_toTupleS_L0_es → γ) : γ :=
  bif (decide (v1 < (v0.length : Int))) then
    bif ((decide (0 ≤ v1)) && (decide (v1 < (v0.length : Int)))) then
    letK (α := Tupl) (w_toTuple (v0.getD v1.toNat (Ty.zero .tupl))) fun c1 =>
    bif ((decide (0 ≤ v1)) && (decide (v1 < (v2.length : Int)))) then
    next (w_toTupleS_L0_mk v0 (IntKind.wrap .i64 (v1 + 1)) (v2.set v1.toNat c1))
    else fail
    else fail
  else
  out (w_toTupleS_L0_mx0 v2)
theorem w_toTupleS_L0_par (v0 : List Tupl) (v1 : Int) (v2 : List Tupl) (γ : Type) (fail : γ) (next : w_toTupleS_L0_sh.T → γ) (out : WT w_toTupleS_L0_es → γ) : w_toTupleS_L0_B v0 v1 v2 γ fail next out = optK (w_toTupleS_L0_B v0 v1 v2 _ none (fun v' => some (.inl v')) (fun w => some (.inr w))) fail (fun r => Sum.elim next out r) := by
  unfold w_toTupleS_L0_B
  exact bifT (f := (fun o => optK o fail (fun r => Sum.elim next out r))) (fun _ => bifT (f := (fun o => optK o fail (fun r => Sum.elim next out r))) (fun _ => letT (f := (fun o => optK o fail (fun r => Sum.elim next out r))) (fun c1 _ => bifT (f := (fun o => optK o fail (fun r => Sum.elim next out r))) (fun _ => rfl) (fun _ => rfl))) (fun _ => rfl))
      (fun _ => rfl)
def w_toTupleS_L0_r : Round w_toTupleS_L0_sh.T (WT w_toTupleS_L0_es) where
  B v γ fail next out := w_toTupleS_L0_B v.1.1.1 v.1.2.2.1.1 v.2.1 γ fail next out
  par v γ fail next out := w_toTupleS_L0_par v.1.1.1 v.1.2.2.1.1 v.2.1 γ fail next out
def w_toTupleS_L0_fu (v0 : List Tupl) (v1 : Int) (v2 : List Tupl) : Nat := (Int.toNat ((v0.length : Int) - v1)) + 1
theorem w_toTupleS_L0_lk (v : w_toTupleS_L0_sh.T) (next : St → Option Res) (k : Ex → St → Option Res) : evalK te (orcOf (P := Try.prog) [w_toTuple_e]) (lorcOf []) Try.f125.ntmps w_toTupleS_ann (nthLoop (bodyOf Try.f125) 0 0) 0 (w_toTupleS_L0_sh.enc v) (endK ⟨[0, 3, 4], [], false, 0⟩ ⟨[2, 3], [], false, 0⟩ next k) =
  w_toTupleS_L0_r.B v _ none (fun v' => next (w_toTupleS_L0_sh.enc v')) (fun w => outK w_toTupleS_L0_es k w) := by kernel_rfl
def w_toTupleS_L0_le : LE := leOf 0 w_toTupleS_L0_sh w_toTupleS_L0_es w_toTupleS_L0_r.step (fun v => w_toTupleS_L0_fu v.1.1.1 v.1.2.2.1.1 v.2.1)
theorem w_toTupleS_L0_ls (w0 : World) (mo : Mts) (I0 : Nat → Prop) (hmo : mo.length = 0) : LSem Try.prog (Sim w0 mo Try.f125.ntmps I0) (fun b s k => match Nat.beq 0 b with | true => w_toTupleS_L0_le.run s k | false => none) 0 (nthLoop (bodyOf Try.f125) 0 0) :=
  le_sem hmo (lorc := lorcOf []) (ann := w_toTupleS_ann) (keep := ⟨[0, 3, 4], [], false, 0⟩) (kout := ⟨[2, 3], [], false, 0⟩) teFact mixFact (orcOf_ok _) (by kernel_rfl) (allLoops_of (bs := []) (by kernel_rfl) trivial) w_toTupleS_L0_r _ w_toTupleS_L0_lk
def w_toTupleS_L0_f (v0 : List Tupl) (v1 : Int) (a : List Tupl) : Stp (List Tupl) (Empty) :=
  letK (α := Tupl) (w_toTuple (v0.getD v1.toNat (Ty.zero .tupl))) fun c1 =>
  .next (a.set v1.toNat c1)
theorem w_toTupleS_L0_st (v0 : List Tupl) (v1 : Int) (v2 : List Tupl) (hlo : 0 ≤ v1) (hhi : v1 < (v0.length : Int)) (hN : (v0.length : Int) ≤ 4611686018427387904) (hinv : (v0.length : Int) ≤ (v2.length : Int)) : w_toTupleS_L0_r.step (w_toTupleS_L0_mk v0 v1 v2) = Stp.elim (fun a' : List Tupl => some (Sum.inl (w_toTupleS_L0_mk v0 (v1 + 1) a'))) (fun w => some (Sum.inr ((fun p : Empty => nomatch p) w))) (w_toTupleS_L0_f v0 v1 v2) := by
  have hw : (IntKind.wrap .i64 (v1 + 1)) = v1 + 1 := wrap64 (by omega) (by omega)
  show w_toTupleS_L0_B v0 v1 v2 (Option (w_toTupleS_L0_sh.T ⊕ WT w_toTupleS_L0_es)) none (fun v' => some (Sum.inl v')) (fun w => some (Sum.inr w)) = _
  unfold w_toTupleS_L0_B w_toTupleS_L0_f
  exact bifG (by simp only [decide_eq_true_eq]; omega) (bifG (by (try simp only [Nat.ble_eq, Bool.and_eq_true, decide_eq_true_eq]); grind [maxSl, maxStr, toBytes_length, toInts_length, List.length_set, wrap64]) (letT (f := (Stp.elim (fun a' : List Tupl => some (Sum.inl (w_toTupleS_L0_mk v0 (v1 + 1) a'))) (fun w => some (Sum.inr ((fun p : Empty => nomatch p) w))))) (fun c1 hc1 => bifG (by (try simp only [Nat.ble_eq, Bool.and_eq_true, decide_eq_true_eq]); grind [maxSl, maxStr, toBytes_length, toInts_length, List.length_set, wrap64]) ((by exact congrArg (fun z => some (Sum.inl (w_toTupleS_L0_mk v0 z (v2.set v1.toNat c1)))) hw)))))
theorem w_toTupleS_L0_cl (v0 : List Tupl) (v1 : Int) (v2 : List Tupl) (h0 : 0 ≤ v1) (h1 : (v0.length : Int) ≤ 4611686018427387904) (h2 : (v0.length : Int) ≤ (v2.length : Int)) : loopF w_toTupleS_L0_r.step (w_toTupleS_L0_fu v0 v1 v2) (w_toTupleS_L0_mk v0 v1 v2) = some (Stp.elim (fun a => (fun i a => w_toTupleS_L0_mx0 a) (v1 + 1 * (((Int.toNat ((v0.length : Int) - v1)) : Nat) : Int)) a) (fun p : Empty => nomatch p) (forN (w_toTupleS_L0_f v0) 1 (Int.toNat ((v0.length : Int) - v1)) v1 v2)) :=
  forN_loop (step := w_toTupleS_L0_r.step) (mk := fun v1 a => w_toTupleS_L0_mk v0 v1 a) (f := w_toTupleS_L0_f v0) (e := (fun i a => w_toTupleS_L0_mx0 a)) (emb := (fun p : Empty => nomatch p)) (st := 1) (Inv := fun v1 a => (v0.length : Int) ≤ (a.length : Int)) (Int.toNat ((v0.length : Int) - v1)) v1 v2 _ (Nat.lt_succ_self _) h2
    (fun j a hj hv => ⟨w_toTupleS_L0_st v0 (v1 + 1 * (j : Int)) a (by omega) (by omega) (by omega) hv, by
      intro a' he
      grind [w_toTupleS_L0_f, letK, Stp.elim, wrap64, List.length_set]⟩)
    (fun a hv => by
      show w_toTupleS_L0_B v0 (v1 + 1 * (((Int.toNat ((v0.length : Int) - v1)) : Nat) : Int)) a (Option (w_toTupleS_L0_sh.T ⊕ WT w_toTupleS_L0_es)) none (fun v' => some (Sum.inl v')) (fun w => some (Sum.inr w)) = _
      unfold w_toTupleS_L0_B
      exact bifN (by simp only [decide_eq_false_iff_not]; omega) rfl)
theorem w_toTupleS_L0_nx (v0 : List Tupl) (v1 : Int) (v2 : List Tupl) (h0 : 0 ≤ v1) (h1 : (v0.length : Int) ≤ 4611686018427387904) (h2 : (v0.length : Int) ≤ (v2.length : Int)) : ∀ a', forN (w_toTupleS_L0_f v0) 1 (Int.toNat ((v0.length : Int) - v1)) v1 v2 = .next a' → (v0.length : Int) ≤ (a'.length : Int) :=
  forN_inv (f := w_toTupleS_L0_f v0) (st := 1) (Inv := fun v1 a => (v0.length : Int) ≤ (a.length : Int)) (Int.toNat ((v0.length : Int) - v1)) v1 v2 h2
    (fun j a hj hv => by
      intro a' he
      grind [w_toTupleS_L0_f, letK, Stp.elim, wrap64, List.length_set])
def w_toTupleS_N (x0 : List Tupl) (γ : Type) (fail : γ) (k : List Tupl → γ) : γ :=
  bif ((((decide (0 ≤ (x0.length : Int))) && (decide ((x0.length : Int) = (x0.length : Int)))) && (decide ((x0.length : Int) * 24 ≤ (maxSl : Int)))) && (decide ((x0.length : Int) ≤ (maxSl : Int)))) then
  optK (loopF w_toTupleS_L0_r.step (w_toTupleS_L0_fu x0 0 (List.replicate ((x0.length : Int).toNat) (⟨0, 0, 0⟩ : Tupl))) (w_toTupleS_L0_mk x0 0 (List.replicate ((x0.length : Int).toNat) (⟨0, 0, 0⟩ : Tupl)))) fail fun w2 =>
    k w2.2.1
  else fail
def w_toTupleS (x0 : List Tupl) : List Tupl :=
  Stp.elim (fun a3 =>
    a3)
    (fun p : Empty => nomatch p)
    (forN (w_toTupleS_L0_f x0) 1 (Int.toNat ((x0.length : Int) - 0)) 0 (List.replicate ((x0.length : Int).toNat) (⟨0, 0, 0⟩ : Tupl)))
theorem w_toTupleS_lk (x0 : List Tupl) : evalFn te (orcOf (P := Try.prog) [w_toTuple_e]) (lorcOf [w_toTupleS_L0_le]) w_toTupleS_ann Try.f125 (pvs [.sc (.sl .tupl)] (x0, ())) =
  w_toTupleS_N x0 _ none (fun v => some [(false, [RC.own true .tupl v])]) := by kernel_rfl
theorem w_toTupleS_p (x0 : List Tupl) (hx0 : x0.length ≤ 140737488355328) (hp : x0.length ≤ 4294967296) (γ : Type) (fail : γ) (k : List Tupl → γ) : w_toTupleS_N x0 γ fail k = k (w_toTupleS x0) := by
  unfold w_toTupleS_N w_toTupleS
  exact bifG (by (try simp only [Nat.ble_eq, Bool.and_eq_true, decide_eq_true_eq, w_toTupleS_L0_mx0]); grind [maxSl, maxStr, toBytes_length, toInts_length, List.length_set, wrap64]) (loopX (f := k) (w_toTupleS_L0_cl x0 0 (List.replicate ((x0.length : Int).toNat) (⟨0, 0, 0⟩ : Tupl)) (by (try simp only [Nat.ble_eq, Bool.and_eq_true, decide_eq_true_eq, w_toTupleS_L0_mx0]); grind [maxSl, maxStr, toBytes_length, toInts_length, List.length_set, wrap64]) (by (try simp only [Nat.ble_eq, Bool.and_eq_true, decide_eq_true_eq, w_toTupleS_L0_mx0]); grind [maxSl, maxStr, toBytes_length, toInts_length, List.length_set, wrap64]) (by (try simp only [Nat.ble_eq, Bool.and_eq_true, decide_eq_true_eq, w_toTupleS_L0_mx0]); grind [maxSl, maxStr, toBytes_length, toInts_length, List.length_set, wrap64])) (fun a3 ha3 => have ia3 := w_toTupleS_L0_nx x0 0 (List.replicate ((x0.length : Int).toNat) (⟨0, 0, 0⟩ : Tupl)) (by (try simp only [Nat.ble_eq, Bool.and_eq_true, decide_eq_true_eq, w_toTupleS_L0_mx0]); grind [maxSl, maxStr, toBytes_length, toInts_length, List.length_set, wrap64]) (by (try simp only [Nat.ble_eq, Bool.and_eq_true, decide_eq_true_eq, w_toTupleS_L0_mx0]); grind [maxSl, maxStr, toBytes_length, toInts_length, List.length_set, wrap64]) (by (try simp only [Nat.ble_eq, Bool.and_eq_true, decide_eq_true_eq, w_toTupleS_L0_mx0]); grind [maxSl, maxStr, toBytes_length, toInts_length, List.length_set, wrap64]) _ ha3; rfl)
      (fun p : Empty => nomatch p))
theorem w_toTupleS_c (x0 : List Tupl) (hp : x0.length ≤ 4294967296) : Con Try.prog 125 (pvs [.sc (.sl .tupl)] (x0, ())) [rv (.sc (.sl .tupl)) [.o true] (w_toTupleS x0)] := by
  refine Con.of_facts (enters_of Try.func125 rfl (by kernel_rfl)) fun hf => ?_
  replace hf := factAt hf
  exact evalFn_conL teFact mixFact (orcOf_ok _) Try.func125 (by kernel_rfl) (bs := [0]) (by kernel_rfl) (by kernel_rfl) (fun w0 mo I0 hmo => ⟨lsem_of_lorc (w_toTupleS_L0_ls w0 mo I0 hmo) (by kernel_rfl), trivial⟩) ((w_toTupleS_lk x0).trans (w_toTupleS_p x0 ((hf 0 0 rfl rfl).len) hp _ _ _))
noncomputable def w_toTupleS_e : Ent1 Try.prog := entP 125 [.sc (.sl .tupl)] (fun x => (decide (x.1.length ≤ 4294967296))) (fun x => (w_toTupleS x.1)) (fun v => [rv (.sc (.sl .tupl)) [.o true] v]) (fun x hx => w_toTupleS_c x.1 (of_decide_eq_true hx))


/-- laws.szEntryS -/
def w_szEntryS_N (x0 : List Entr) (x1 : Int) (γ : Type) (fail : γ) (k : Int → γ) : γ :=
  bif (decide ((IntKind.wrap .i64 (x1 - (x0.length : Int))) < 0)) then
    k (-1)
  else
  k (IntKind.wrap .i64 (x1 - (x0.length : Int)))
def w_szEntryS (x0 : List Entr) (x1 : Int) : Int :=
  bif (decide ((IntKind.wrap .i64 (x1 - (x0.length : Int))) < 0)) then
    (-1)
  else
  (IntKind.wrap .i64 (x1 - (x0.length : Int)))
theorem w_szEntryS_lk (x0 : List Entr) (x1 : Int) : evalFn te (orcOf (P := Try.prog) []) lorc0 [] Try.f130 (pvs [.sc (.sl .entr), .sc (.int .i64)] (x0, x1, ())) =
  w_szEntryS_N x0 x1 _ none (fun v => some [(false, [RC.c (.int .i64 v)])]) := by kernel_rfl
theorem w_szEntryS_p (x0 : List Entr) (x1 : Int)   (γ : Type) (fail : γ) (k : Int → γ) : w_szEntryS_N x0 x1 γ fail k = k (w_szEntryS x0 x1) := by
  unfold w_szEntryS_N w_szEntryS
  exact bifT (f := k) (fun b0 => rfl)
      (fun b0 => rfl)
theorem w_szEntryS_c (x0 : List Entr) (x1 : Int)  : Con Try.prog 130 (pvs [.sc (.sl .entr), .sc (.int .i64)] (x0, x1, ())) [rv (.sc (.int .i64)) [] (w_szEntryS x0 x1)] := by
  exact evalFn_con0 teFact mixFact (orcOf_ok _) Try.func130 (by kernel_rfl) ((w_szEntryS_lk x0 x1).trans (w_szEntryS_p x0 x1  _ _ _))
noncomputable def w_szEntryS_e : Ent1 Try.prog := entA 130 [.sc (.sl .entr), .sc (.int .i64)] (fun x => (w_szEntryS x.1 x.2.1)) (fun v => [rv (.sc (.int .i64)) [] v]) (fun x => w_szEntryS_c x.1 x.2.1)


/-- spec.SameHalves -/
def s_SameHalves_ann : List (Nat × Keep) := [(0, ⟨[0, 1, 5], [], false, 0⟩)]
def s_SameHalves_L0_sh : Sh := ⟨[(0, false, [.sl .arg .half]), (1, false, [.sl .arg .half]), (5, false, [.int .i64])], []⟩
def s_SameHalves_L0_es : List (Ex × Sh) := [(.ret, ⟨[(4, false, [.bool])], []⟩), (.exit 0, ⟨[(4, false, [.undef])], []⟩)]
def s_SameHalves_L0_mk (v0 : List Half) (v1 : List Half) (v2 : Int) : s_SameHalves_L0_sh.T := (((v0, ()), ((v1, ()), ((v2, ()), ()))), ())
def s_SameHalves_L0_mx0 (y0 : Bool) : Sh.T ⟨[(4, false, [.bool])], []⟩ := (((y0, ()), ()), ())
def s_SameHalves_L0_mx1  : Sh.T ⟨[(4, false, [.undef])], []⟩ := ((((), ()), ()), ())
def s_SameHalves_L0_B (v0 : List Half) (v1 : List Half) (v2 : Int) (γ : Type) (fail : γ) (next : s_SameHalves_L0_sh.T → γ) (out : WT s_SameHalves_L0_es → γ) : γ :=
  bif (decide (v2 < (v0.length : Int))) then
    bif ((decide (0 ≤ v2)) && (decide (v2 < (v0.length : Int)))) then
    bif ((decide (0 ≤ v2)) && (decide (v2 < (v1.length : Int)))) then
    bif (!((((v0.getD v2.toNat (Ty.zero .half)).tuple.ip == (v1.getD v2.toNat (Ty.zero .half)).tuple.ip) && (((v0.getD v2.toNat (Ty.zero .half)).tuple.port == (v1.getD v2.toNat (Ty.zero .half)).tuple.port) && (((v0.getD v2.toNat (Ty.zero .half)).tuple.my == (v1.getD v2.toNat (Ty.zero .half)).tuple.my) && true))) && (((v0.getD v2.toNat (Ty.zero .half)).iss == (v1.getD v2.toNat (Ty.zero .half)).iss) && (((v0.getD v2.toNat (Ty.zero .half)).irs == (v1.getD v2.toNat (Ty.zero .half)).irs) && ((((v0.getD v2.toNat (Ty.zero .half)).opts.mss == (v1.getD v2.toNat (Ty.zero .half)).opts.mss) && (((v0.getD v2.toNat (Ty.zero .half)).opts.scale == (v1.getD v2.toNat (Ty.zero .half)).opts.scale) && (((v0.getD v2.toNat (Ty.zero .half)).opts.sack == (v1.getD v2.toNat (Ty.zero .half)).opts.sack) && (((v0.getD v2.toNat (Ty.zero .half)).opts.stamp == (v1.getD v2.toNat (Ty.zero .half)).opts.stamp) && (((v0.getD v2.toNat (Ty.zero .half)).opts.val == (v1.getD v2.toNat (Ty.zero .half)).opts.val) && (((v0.getD v2.toNat (Ty.zero .half)).opts.echo == (v1.getD v2.toNat (Ty.zero .half)).opts.echo) && true)))))) && (((v0.getD v2.toNat (Ty.zero .half)).age == (v1.getD v2.toNat (Ty.zero .half)).age) && (((v0.getD v2.toNat (Ty.zero .half)).window == (v1.getD v2.toNat (Ty.zero .half)).window) && true))))))) then
      out (Sum.inl (s_SameHalves_L0_mx0 false))
    else
    next (s_SameHalves_L0_mk v0 v1 (IntKind.wrap .i64 (v2 + 1)))
    else fail
    else fail
  else
  out (Sum.inr (s_SameHalves_L0_mx1 ))
theorem s_SameHalves_L0_par (v0 : List Half) (v1 : List Half) (v2 : Int) (γ : Type) (fail : γ) (next : s_SameHalves_L0_sh.T → γ) (out : WT s_SameHalves_L0_es → γ) : s_SameHalves_L0_B v0 v1 v2 γ fail next out = optK (s_SameHalves_L0_B v0 v1 v2 _ none (fun v' => some (.inl v')) (fun w => some (.inr w))) fail (fun r => Sum.elim next out r) := by
  unfold s_SameHalves_L0_B
  exact bifT (f := (fun o => optK o fail (fun r => Sum.elim next out r))) (fun _ => bifT (f := (fun o => optK o fail (fun r => Sum.elim next out r))) (fun _ => bifT (f := (fun o => optK o fail (fun r => Sum.elim next out r))) (fun _ => bifT (f := (fun o => optK o fail (fun r => Sum.elim next out r))) (fun _ => rfl)
      (fun _ => rfl)) (fun _ => rfl)) (fun _ => rfl))
      (fun _ => rfl)
def s_SameHalves_L0_r : Round s_SameHalves_L0_sh.T (WT s_SameHalves_L0_es) where
  B v γ fail next out := s_SameHalves_L0_B v.1.1.1 v.1.2.1.1 v.1.2.2.1.1 γ fail next out
  par v γ fail next out := s_SameHalves_L0_par v.1.1.1 v.1.2.1.1 v.1.2.2.1.1 γ fail next out
def s_SameHalves_L0_fu (v0 : List Half) (v1 : List Half) (v2 : Int) : Nat := (Int.toNat ((v0.length : Int) - v2)) + 1
theorem s_SameHalves_L0_lk (v : s_SameHalves_L0_sh.T) (next : St → Option Res) (k : Ex → St → Option Res) : evalK te (orcOf (P := Try.prog) []) (lorcOf []) Try.f132.ntmps s_SameHalves_ann (nthLoop (bodyOf Try.f132) 0 0) 0 (s_SameHalves_L0_sh.enc v) (endK ⟨[0, 1, 5], [], false, 0⟩ ⟨[4], [], false, 0⟩ next k) =
  s_SameHalves_L0_r.B v _ none (fun v' => next (s_SameHalves_L0_sh.enc v')) (fun w => outK s_SameHalves_L0_es k w) := by kernel_rfl
def s_SameHalves_L0_le : LE := leOf 0 s_SameHalves_L0_sh s_SameHalves_L0_es s_SameHalves_L0_r.step (fun v => s_SameHalves_L0_fu v.1.1.1 v.1.2.1.1 v.1.2.2.1.1)
theorem s_SameHalves_L0_ls (w0 : World) (mo : Mts) (I0 : Nat → Prop) (hmo : mo.length = 0) : LSem Try.prog (Sim w0 mo Try.f132.ntmps I0) (fun b s k => match Nat.beq 0 b with | true => s_SameHalves_L0_le.run s k | false => none) 0 (nthLoop (bodyOf Try.f132) 0 0) :=
  le_sem hmo (lorc := lorcOf []) (ann := s_SameHalves_ann) (keep := ⟨[0, 1, 5], [], false, 0⟩) (kout := ⟨[4], [], false, 0⟩) teFact mixFact (orcOf_ok _) (by kernel_rfl) (allLoops_of (bs := []) (by kernel_rfl) trivial) s_SameHalves_L0_r _ s_SameHalves_L0_lk
def s_SameHalves_L0_f (v0 : List Half) (v1 : List Half) (v2 : Int) (a : Unit) : Stp (Unit) ((Unit)) :=
  bif (!((((v0.getD v2.toNat (Ty.zero .half)).tuple.ip == (v1.getD v2.toNat (Ty.zero .half)).tuple.ip) && (((v0.getD v2.toNat (Ty.zero .half)).tuple.port == (v1.getD v2.toNat (Ty.zero .half)).tuple.port) && (((v0.getD v2.toNat (Ty.zero .half)).tuple.my == (v1.getD v2.toNat (Ty.zero .half)).tuple.my) && true))) && (((v0.getD v2.toNat (Ty.zero .half)).iss == (v1.getD v2.toNat (Ty.zero .half)).iss) && (((v0.getD v2.toNat (Ty.zero .half)).irs == (v1.getD v2.toNat (Ty.zero .half)).irs) && ((((v0.getD v2.toNat (Ty.zero .half)).opts.mss == (v1.getD v2.toNat (Ty.zero .half)).opts.mss) && (((v0.getD v2.toNat (Ty.zero .half)).opts.scale == (v1.getD v2.toNat (Ty.zero .half)).opts.scale) && (((v0.getD v2.toNat (Ty.zero .half)).opts.sack == (v1.getD v2.toNat (Ty.zero .half)).opts.sack) && (((v0.getD v2.toNat (Ty.zero .half)).opts.stamp == (v1.getD v2.toNat (Ty.zero .half)).opts.stamp) && (((v0.getD v2.toNat (Ty.zero .half)).opts.val == (v1.getD v2.toNat (Ty.zero .half)).opts.val) && (((v0.getD v2.toNat (Ty.zero .half)).opts.echo == (v1.getD v2.toNat (Ty.zero .half)).opts.echo) && true)))))) && (((v0.getD v2.toNat (Ty.zero .half)).age == (v1.getD v2.toNat (Ty.zero .half)).age) && (((v0.getD v2.toNat (Ty.zero .half)).window == (v1.getD v2.toNat (Ty.zero .half)).window) && true))))))) then
    .out (())
  else
  .next ()
theorem s_SameHalves_L0_st (v0 : List Half) (v1 : List Half) (v2 : Int) (hlo : 0 ≤ v2) (hhi : v2 < (v0.length : Int)) (hN : (v0.length : Int) ≤ 4611686018427387904) (hi0 : (v0.length : Int) ≤ (v1.length : Int)) : s_SameHalves_L0_r.step (s_SameHalves_L0_mk v0 v1 v2) = Stp.elim (fun a' : Unit => some (Sum.inl (s_SameHalves_L0_mk v0 v1 (v2 + 1)))) (fun w => some (Sum.inr ((fun p : Unit => Sum.inl (s_SameHalves_L0_mx0 false)) w))) (s_SameHalves_L0_f v0 v1 v2 ()) := by
  have hw : (IntKind.wrap .i64 (v2 + 1)) = v2 + 1 := wrap64 (by omega) (by omega)
  show s_SameHalves_L0_B v0 v1 v2 (Option (s_SameHalves_L0_sh.T ⊕ WT s_SameHalves_L0_es)) none (fun v' => some (Sum.inl v')) (fun w => some (Sum.inr w)) = _
  unfold s_SameHalves_L0_B s_SameHalves_L0_f
  exact bifG (by simp only [decide_eq_true_eq]; omega) (bifG (by (try simp only [Nat.ble_eq, Bool.and_eq_true, decide_eq_true_eq]); grind [maxSl, maxStr, toBytes_length, toInts_length, List.length_set, wrap64]) (bifG (by (try simp only [Nat.ble_eq, Bool.and_eq_true, decide_eq_true_eq]); grind [maxSl, maxStr, toBytes_length, toInts_length, List.length_set, wrap64]) (bifT (f := (Stp.elim (fun a' : Unit => some (Sum.inl (s_SameHalves_L0_mk v0 v1 (v2 + 1)))) (fun w => some (Sum.inr ((fun p : Unit => Sum.inl (s_SameHalves_L0_mx0 false)) w))))) (fun b0 => rfl)
      (fun b0 => (by exact congrArg (fun z => some (Sum.inl (s_SameHalves_L0_mk v0 v1 z))) hw)))))
theorem s_SameHalves_L0_cl (v0 : List Half) (v1 : List Half) (v2 : Int) (h0 : 0 ≤ v2) (h1 : (v0.length : Int) ≤ 4611686018427387904) (h2 : (v0.length : Int) ≤ (v1.length : Int)) : loopF s_SameHalves_L0_r.step (s_SameHalves_L0_fu v0 v1 v2) (s_SameHalves_L0_mk v0 v1 v2) = some (Stp.elim (fun a => (fun i a => Sum.inr (s_SameHalves_L0_mx1 )) (v2 + 1 * (((Int.toNat ((v0.length : Int) - v2)) : Nat) : Int)) a) (fun p : Unit => Sum.inl (s_SameHalves_L0_mx0 false)) (forN (s_SameHalves_L0_f v0 v1) 1 (Int.toNat ((v0.length : Int) - v2)) v2 ())) :=
  forN_loop (step := s_SameHalves_L0_r.step) (mk := fun v2 a => s_SameHalves_L0_mk v0 v1 v2) (f := s_SameHalves_L0_f v0 v1) (e := (fun i a => Sum.inr (s_SameHalves_L0_mx1 ))) (emb := (fun p : Unit => Sum.inl (s_SameHalves_L0_mx0 false))) (st := 1) (Inv := fun v2 a => True) (Int.toNat ((v0.length : Int) - v2)) v2 () _ (Nat.lt_succ_self _) trivial
    (fun j a hj hv => ⟨s_SameHalves_L0_st v0 v1 (v2 + 1 * (j : Int)) (by omega) (by omega) (by omega) h2, fun _ _ => trivial⟩)
    (fun a hv => by
      show s_SameHalves_L0_B v0 v1 (v2 + 1 * (((Int.toNat ((v0.length : Int) - v2)) : Nat) : Int)) (Option (s_SameHalves_L0_sh.T ⊕ WT s_SameHalves_L0_es)) none (fun v' => some (Sum.inl v')) (fun w => some (Sum.inr w)) = _
      unfold s_SameHalves_L0_B
      exact bifN (by simp only [decide_eq_false_iff_not]; omega) rfl)
def s_SameHalves_N (x0 : List Half) (x1 : List Half) (γ : Type) (fail : γ) (k : Bool → γ) : γ :=
  bif ((x0.length : Int) != (x1.length : Int)) then
    k false
  else
  optK (loopF s_SameHalves_L0_r.step (s_SameHalves_L0_fu x0 x1 0) (s_SameHalves_L0_mk x0 x1 0)) fail fun w1 =>
    Sum.elim (fun w1 =>
      k w1.1.1.1)
    (fun w1 =>
      k true) w1
def s_SameHalves (x0 : List Half) (x1 : List Half) : Bool :=
  bif ((x0.length : Int) != (x1.length : Int)) then
    false
  else
  Stp.elim (fun a2 =>
    true)
    (fun p2 =>
      false)
    (forN (s_SameHalves_L0_f x0 x1) 1 (Int.toNat ((x0.length : Int) - 0)) 0 ())
theorem s_SameHalves_lk (x0 : List Half) (x1 : List Half) : evalFn te (orcOf (P := Try.prog) []) (lorcOf [s_SameHalves_L0_le]) s_SameHalves_ann Try.f132 (pvs [.sc (.sl .half), .sc (.sl .half)] (x0, x1, ())) =
  s_SameHalves_N x0 x1 _ none (fun v => some [(false, [RC.c (.bool v)])]) := by kernel_rfl
theorem s_SameHalves_p (x0 : List Half) (x1 : List Half) (hx0 : x0.length ≤ 140737488355328) (hx1 : x1.length ≤ 140737488355328)  (γ : Type) (fail : γ) (k : Bool → γ) : s_SameHalves_N x0 x1 γ fail k = k (s_SameHalves x0 x1) := by
  unfold s_SameHalves_N s_SameHalves
  exact bifT (f := k) (fun b0 => rfl)
      (fun b0 => loopT (f := k) (s_SameHalves_L0_cl x0 x1 0 (by (try simp only [Nat.ble_eq, Bool.and_eq_true, decide_eq_true_eq, s_SameHalves_L0_mx0, s_SameHalves_L0_mx1]); grind [maxSl, maxStr, toBytes_length, toInts_length, List.length_set, wrap64]) (by (try simp only [Nat.ble_eq, Bool.and_eq_true, decide_eq_true_eq, s_SameHalves_L0_mx0, s_SameHalves_L0_mx1]); grind [maxSl, maxStr, toBytes_length, toInts_length, List.length_set, wrap64]) (by (try simp only [Nat.ble_eq, Bool.and_eq_true, decide_eq_true_eq, s_SameHalves_L0_mx0, s_SameHalves_L0_mx1]); grind [maxSl, maxStr, toBytes_length, toInts_length, List.length_set, wrap64])) (fun a2 => rfl)
      (fun p2 => rfl))
theorem s_SameHalves_c (x0 : List Half) (x1 : List Half)  : Con Try.prog 132 (pvs [.sc (.sl .half), .sc (.sl .half)] (x0, x1, ())) [rv (.sc .bool) [] (s_SameHalves x0 x1)] := by
  refine Con.of_facts (enters_of Try.func132 rfl (by kernel_rfl)) fun hf => ?_
  replace hf := factAt hf
  exact evalFn_conL teFact mixFact (orcOf_ok _) Try.func132 (by kernel_rfl) (bs := [0]) (by kernel_rfl) (by kernel_rfl) (fun w0 mo I0 hmo => ⟨lsem_of_lorc (s_SameHalves_L0_ls w0 mo I0 hmo) (by kernel_rfl), trivial⟩) ((s_SameHalves_lk x0 x1).trans (s_SameHalves_p x0 x1 ((hf 0 0 rfl rfl).len) ((hf 1 0 rfl rfl).len) _ _ _))
noncomputable def s_SameHalves_e : Ent1 Try.prog := entA 132 [.sc (.sl .half), .sc (.sl .half)] (fun x => (s_SameHalves x.1 x.2.1)) (fun v => [rv (.sc .bool) [] v]) (fun x => s_SameHalves_c x.1 x.2.1)


/-- slices.Equal[[]impl.Entry,impl.Entry] -/
def g_Equal_Entry_ann : List (Nat × Keep) := [(0, ⟨[0, 1, 12, 13], [], false, 0⟩)]
def g_Equal_Entry_L0_sh : Sh := ⟨[(0, false, [.sl .arg .entr]), (1, false, [.sl .arg .entr]), (12, false, [.int .i64]), (13, false, [.int .i64])], []⟩
def g_Equal_Entry_L0_es : List (Ex × Sh) := [(.ret, ⟨[(4, false, [.bool])], []⟩), (.exit 0, ⟨[(4, false, [.undef])], []⟩)]
def g_Equal_Entry_L0_mk (v0 : List Entr) (v1 : List Entr) (v2 : Int) (v3 : Int) : g_Equal_Entry_L0_sh.T := (((v0, ()), ((v1, ()), ((v2, ()), ((v3, ()), ())))), ())
def g_Equal_Entry_L0_mx0 (y0 : Bool) : Sh.T ⟨[(4, false, [.bool])], []⟩ := (((y0, ()), ()), ())
def g_Equal_Entry_L0_mx1  : Sh.T ⟨[(4, false, [.undef])], []⟩ := ((((), ()), ()), ())
def g_Equal_Entry_L0_B (v0 : List Entr) (v1 : List Entr) (v2 : Int) (v3 : Int) (γ : Type) (fail : γ) (next : g_Equal_Entry_L0_sh.T → γ) (out : WT g_Equal_Entry_L0_es → γ) : γ :=
  bif (decide (v3 < v2)) then
    bif ((decide (0 ≤ v3)) && (decide (v3 < (v0.length : Int)))) then
    bif ((decide (0 ≤ v3)) && (decide (v3 < (v1.length : Int)))) then
    bif (!(((v0.getD v3.toNat (Ty.zero .entr)).ip == (v1.getD v3.toNat (Ty.zero .entr)).ip) && (((v0.getD v3.toNat (Ty.zero .entr)).hw == (v1.getD v3.toNat (Ty.zero .entr)).hw) && (((v0.getD v3.toNat (Ty.zero .entr)).age == (v1.getD v3.toNat (Ty.zero .entr)).age) && true)))) then
      out (Sum.inl (g_Equal_Entry_L0_mx0 false))
    else
    next (g_Equal_Entry_L0_mk v0 v1 v2 (IntKind.wrap .i64 (v3 + 1)))
    else fail
    else fail
  else
  out (Sum.inr (g_Equal_Entry_L0_mx1 ))
theorem g_Equal_Entry_L0_par (v0 : List Entr) (v1 : List Entr) (v2 : Int) (v3 : Int) (γ : Type) (fail : γ) (next : g_Equal_Entry_L0_sh.T → γ) (out : WT g_Equal_Entry_L0_es → γ) : g_Equal_Entry_L0_B v0 v1 v2 v3 γ fail next out = optK (g_Equal_Entry_L0_B v0 v1 v2 v3 _ none (fun v' => some (.inl v')) (fun w => some (.inr w))) fail (fun r => Sum.elim next out r) := by
  unfold g_Equal_Entry_L0_B
  exact bifT (f := (fun o => optK o fail (fun r => Sum.elim next out r))) (fun _ => bifT (f := (fun o => optK o fail (fun r => Sum.elim next out r))) (fun _ => bifT (f := (fun o => optK o fail (fun r => Sum.elim next out r))) (fun _ => bifT (f := (fun o => optK o fail (fun r => Sum.elim next out r))) (fun _ => rfl)
      (fun _ => rfl)) (fun _ => rfl)) (fun _ => rfl))
      (fun _ => rfl)
def g_Equal_Entry_L0_r : Round g_Equal_Entry_L0_sh.T (WT g_Equal_Entry_L0_es) where
  B v γ fail next out := g_Equal_Entry_L0_B v.1.1.1 v.1.2.1.1 v.1.2.2.1.1 v.1.2.2.2.1.1 γ fail next out
  par v γ fail next out := g_Equal_Entry_L0_par v.1.1.1 v.1.2.1.1 v.1.2.2.1.1 v.1.2.2.2.1.1 γ fail next out
def g_Equal_Entry_L0_fu (v0 : List Entr) (v1 : List Entr) (v2 : Int) (v3 : Int) : Nat := (Int.toNat (v2 - v3)) + 1
theorem g_Equal_Entry_L0_lk (v : g_Equal_Entry_L0_sh.T) (next : St → Option Res) (k : Ex → St → Option Res) : evalK te (orcOf (P := Try.prog) []) (lorcOf []) Try.f135.ntmps g_Equal_Entry_ann (nthLoop (bodyOf Try.f135) 0 0) 0 (g_Equal_Entry_L0_sh.enc v) (endK ⟨[0, 1, 12, 13], [], false, 0⟩ ⟨[4], [], false, 0⟩ next k) =
  g_Equal_Entry_L0_r.B v _ none (fun v' => next (g_Equal_Entry_L0_sh.enc v')) (fun w => outK g_Equal_Entry_L0_es k w) := by kernel_rfl
def g_Equal_Entry_L0_le : LE := leOf 0 g_Equal_Entry_L0_sh g_Equal_Entry_L0_es g_Equal_Entry_L0_r.step (fun v => g_Equal_Entry_L0_fu v.1.1.1 v.1.2.1.1 v.1.2.2.1.1 v.1.2.2.2.1.1)
theorem g_Equal_Entry_L0_ls (w0 : World) (mo : Mts) (I0 : Nat → Prop) (hmo : mo.length = 0) : LSem Try.prog (Sim w0 mo Try.f135.ntmps I0) (fun b s k => match Nat.beq 0 b with | true => g_Equal_Entry_L0_le.run s k | false => none) 0 (nthLoop (bodyOf Try.f135) 0 0) :=
  le_sem hmo (lorc := lorcOf []) (ann := g_Equal_Entry_ann) (keep := ⟨[0, 1, 12, 13], [], false, 0⟩) (kout := ⟨[4], [], false, 0⟩) teFact mixFact (orcOf_ok _) (by kernel_rfl) (allLoops_of (bs := []) (by kernel_rfl) trivial) g_Equal_Entry_L0_r _ g_Equal_Entry_L0_lk
def g_Equal_Entry_L0_f (v0 : List Entr) (v1 : List Entr) (v2 : Int) (v3 : Int) (a : Unit) : Stp (Unit) ((Unit)) :=
  bif (!(((v0.getD v3.toNat (Ty.zero .entr)).ip == (v1.getD v3.toNat (Ty.zero .entr)).ip) && (((v0.getD v3.toNat (Ty.zero .entr)).hw == (v1.getD v3.toNat (Ty.zero .entr)).hw) && (((v0.getD v3.toNat (Ty.zero .entr)).age == (v1.getD v3.toNat (Ty.zero .entr)).age) && true)))) then
    .out (())
  else
  .next ()
theorem g_Equal_Entry_L0_st (v0 : List Entr) (v1 : List Entr) (v2 : Int) (v3 : Int) (hlo : 0 ≤ v3) (hhi : v3 < v2) (hN : v2 ≤ 4611686018427387904) (hi0 : v2 ≤ (v0.length : Int)) (hi1 : v2 ≤ (v1.length : Int)) : g_Equal_Entry_L0_r.step (g_Equal_Entry_L0_mk v0 v1 v2 v3) = Stp.elim (fun a' : Unit => some (Sum.inl (g_Equal_Entry_L0_mk v0 v1 v2 (v3 + 1)))) (fun w => some (Sum.inr ((fun p : Unit => Sum.inl (g_Equal_Entry_L0_mx0 false)) w))) (g_Equal_Entry_L0_f v0 v1 v2 v3 ()) := by
  have hw : (IntKind.wrap .i64 (v3 + 1)) = v3 + 1 := wrap64 (by omega) (by omega)
  show g_Equal_Entry_L0_B v0 v1 v2 v3 (Option (g_Equal_Entry_L0_sh.T ⊕ WT g_Equal_Entry_L0_es)) none (fun v' => some (Sum.inl v')) (fun w => some (Sum.inr w)) = _
  unfold g_Equal_Entry_L0_B g_Equal_Entry_L0_f
  exact bifG (by simp only [decide_eq_true_eq]; omega) (bifG (by (try simp only [Nat.ble_eq, Bool.and_eq_true, decide_eq_true_eq]); grind [maxSl, maxStr, toBytes_length, toInts_length, List.length_set, wrap64]) (bifG (by (try simp only [Nat.ble_eq, Bool.and_eq_true, decide_eq_true_eq]); grind [maxSl, maxStr, toBytes_length, toInts_length, List.length_set, wrap64]) (bifT (f := (Stp.elim (fun a' : Unit => some (Sum.inl (g_Equal_Entry_L0_mk v0 v1 v2 (v3 + 1)))) (fun w => some (Sum.inr ((fun p : Unit => Sum.inl (g_Equal_Entry_L0_mx0 false)) w))))) (fun b0 => rfl)
      (fun b0 => (by exact congrArg (fun z => some (Sum.inl (g_Equal_Entry_L0_mk v0 v1 v2 z))) hw)))))
theorem g_Equal_Entry_L0_cl (v0 : List Entr) (v1 : List Entr) (v2 : Int) (v3 : Int) (h0 : 0 ≤ v3) (h1 : v2 ≤ 4611686018427387904) (h2 : v2 ≤ (v0.length : Int)) (h3 : v2 ≤ (v1.length : Int)) : loopF g_Equal_Entry_L0_r.step (g_Equal_Entry_L0_fu v0 v1 v2 v3) (g_Equal_Entry_L0_mk v0 v1 v2 v3) = some (Stp.elim (fun a => (fun i a => Sum.inr (g_Equal_Entry_L0_mx1 )) (v3 + 1 * (((Int.toNat (v2 - v3)) : Nat) : Int)) a) (fun p : Unit => Sum.inl (g_Equal_Entry_L0_mx0 false)) (forN (g_Equal_Entry_L0_f v0 v1 v2) 1 (Int.toNat (v2 - v3)) v3 ())) :=
  forN_loop (step := g_Equal_Entry_L0_r.step) (mk := fun v3 a => g_Equal_Entry_L0_mk v0 v1 v2 v3) (f := g_Equal_Entry_L0_f v0 v1 v2) (e := (fun i a => Sum.inr (g_Equal_Entry_L0_mx1 ))) (emb := (fun p : Unit => Sum.inl (g_Equal_Entry_L0_mx0 false))) (st := 1) (Inv := fun v3 a => True) (Int.toNat (v2 - v3)) v3 () _ (Nat.lt_succ_self _) trivial
    (fun j a hj hv => ⟨g_Equal_Entry_L0_st v0 v1 v2 (v3 + 1 * (j : Int)) (by omega) (by omega) (by omega) h2 h3, fun _ _ => trivial⟩)
    (fun a hv => by
      show g_Equal_Entry_L0_B v0 v1 v2 (v3 + 1 * (((Int.toNat (v2 - v3)) : Nat) : Int)) (Option (g_Equal_Entry_L0_sh.T ⊕ WT g_Equal_Entry_L0_es)) none (fun v' => some (Sum.inl v')) (fun w => some (Sum.inr w)) = _
      unfold g_Equal_Entry_L0_B
      exact bifN (by simp only [decide_eq_false_iff_not]; omega) rfl)
def g_Equal_Entry_N (x0 : List Entr) (x1 : List Entr) (γ : Type) (fail : γ) (k : Bool → γ) : γ :=
  bif ((x0.length : Int) != (x1.length : Int)) then
    k false
  else
  optK (loopF g_Equal_Entry_L0_r.step (g_Equal_Entry_L0_fu x0 x1 (x0.length : Int) 0) (g_Equal_Entry_L0_mk x0 x1 (x0.length : Int) 0)) fail fun w1 =>
    Sum.elim (fun w1 =>
      k w1.1.1.1)
    (fun w1 =>
      k true) w1
def g_Equal_Entry (x0 : List Entr) (x1 : List Entr) : Bool :=
  bif ((x0.length : Int) != (x1.length : Int)) then
    false
  else
  Stp.elim (fun a2 =>
    true)
    (fun p2 =>
      false)
    (forN (g_Equal_Entry_L0_f x0 x1 (x0.length : Int)) 1 (Int.toNat ((x0.length : Int) - 0)) 0 ())
theorem g_Equal_Entry_lk (x0 : List Entr) (x1 : List Entr) : evalFn te (orcOf (P := Try.prog) []) (lorcOf [g_Equal_Entry_L0_le]) g_Equal_Entry_ann Try.f135 (pvs [.sc (.sl .entr), .sc (.sl .entr)] (x0, x1, ())) =
  g_Equal_Entry_N x0 x1 _ none (fun v => some [(false, [RC.c (.bool v)])]) := by kernel_rfl
theorem g_Equal_Entry_p (x0 : List Entr) (x1 : List Entr) (hx0 : x0.length ≤ 140737488355328) (hx1 : x1.length ≤ 140737488355328)  (γ : Type) (fail : γ) (k : Bool → γ) : g_Equal_Entry_N x0 x1 γ fail k = k (g_Equal_Entry x0 x1) := by
  unfold g_Equal_Entry_N g_Equal_Entry
  exact bifT (f := k) (fun b0 => rfl)
      (fun b0 => loopT (f := k) (g_Equal_Entry_L0_cl x0 x1 (x0.length : Int) 0 (by (try simp only [Nat.ble_eq, Bool.and_eq_true, decide_eq_true_eq, g_Equal_Entry_L0_mx0, g_Equal_Entry_L0_mx1]); grind [maxSl, maxStr, toBytes_length, toInts_length, List.length_set, wrap64]) (by (try simp only [Nat.ble_eq, Bool.and_eq_true, decide_eq_true_eq, g_Equal_Entry_L0_mx0, g_Equal_Entry_L0_mx1]); grind [maxSl, maxStr, toBytes_length, toInts_length, List.length_set, wrap64]) (by (try simp only [Nat.ble_eq, Bool.and_eq_true, decide_eq_true_eq, g_Equal_Entry_L0_mx0, g_Equal_Entry_L0_mx1]); grind [maxSl, maxStr, toBytes_length, toInts_length, List.length_set, wrap64]) (by (try simp only [Nat.ble_eq, Bool.and_eq_true, decide_eq_true_eq, g_Equal_Entry_L0_mx0, g_Equal_Entry_L0_mx1]); grind [maxSl, maxStr, toBytes_length, toInts_length, List.length_set, wrap64])) (fun a2 => rfl)
      (fun p2 => rfl))
theorem g_Equal_Entry_c (x0 : List Entr) (x1 : List Entr)  : Con Try.prog 135 (pvs [.sc (.sl .entr), .sc (.sl .entr)] (x0, x1, ())) [rv (.sc .bool) [] (g_Equal_Entry x0 x1)] := by
  refine Con.of_facts (enters_of Try.func135 rfl (by kernel_rfl)) fun hf => ?_
  replace hf := factAt hf
  exact evalFn_conL teFact mixFact (orcOf_ok _) Try.func135 (by kernel_rfl) (bs := [0]) (by kernel_rfl) (by kernel_rfl) (fun w0 mo I0 hmo => ⟨lsem_of_lorc (g_Equal_Entry_L0_ls w0 mo I0 hmo) (by kernel_rfl), trivial⟩) ((g_Equal_Entry_lk x0 x1).trans (g_Equal_Entry_p x0 x1 ((hf 0 0 rfl rfl).len) ((hf 1 0 rfl rfl).len) _ _ _))
noncomputable def g_Equal_Entry_e : Ent1 Try.prog := entA 135 [.sc (.sl .entr), .sc (.sl .entr)] (fun x => (g_Equal_Entry x.1 x.2.1)) (fun v => [rv (.sc .bool) [] v]) (fun x => g_Equal_Entry_c x.1 x.2.1)


/-- spec.SameMac -/
def s_SameMac_ann : List (Nat × Keep) := [(0, ⟨[2, 3, 5], [], false, 0⟩)]
def s_SameMac_L0_sh : Sh := ⟨[(2, false, [.ptr 0 0]), (3, false, [.ptr 1 0]), (5, false, [.int .i64])], [.box [.bool, .int .u64, .int .u64, .sl .arg .macRow], .box [.bool, .int .u64, .int .u64, .sl .arg .macRow]]⟩
def s_SameMac_L0_es : List (Ex × Sh) := [(.ret, ⟨[(4, false, [.bool])], []⟩), (.exit 0, ⟨[(4, false, [.undef])], []⟩)]
def s_SameMac_L0_mk (v0 : Int) (v1 : Bool) (v2 : Int) (v3 : Int) (v4 : List MacRow) (v5 : Bool) (v6 : Int) (v7 : Int) (v8 : List MacRow) : s_SameMac_L0_sh.T := ((((), ()), (((), ()), ((v0, ()), ()))), ((v1, (v2, (v3, (v4, ())))), ((v5, (v6, (v7, (v8, ())))), ())))
def s_SameMac_L0_mx0 (y0 : Bool) : Sh.T ⟨[(4, false, [.bool])], []⟩ := (((y0, ()), ()), ())
def s_SameMac_L0_mx1  : Sh.T ⟨[(4, false, [.undef])], []⟩ := ((((), ()), ()), ())
def s_SameMac_L0_B (v0 : Int) (v1 : Bool) (v2 : Int) (v3 : Int) (v4 : List MacRow) (v5 : Bool) (v6 : Int) (v7 : Int) (v8 : List MacRow) (γ : Type) (fail : γ) (next : s_SameMac_L0_sh.T → γ) (out : WT s_SameMac_L0_es → γ) : γ :=
  bif (decide (v0 < (v4.length : Int))) then
    bif ((decide (0 ≤ v0)) && (decide (v0 < (v4.length : Int)))) then
    bif ((decide (0 ≤ v0)) && (decide (v0 < (v8.length : Int)))) then
    bif (!(((v4.getD v0.toNat (Ty.zero .macRow)).input == (v8.getD v0.toNat (Ty.zero .macRow)).input) && (((v4.getD v0.toNat (Ty.zero .macRow)).value == (v8.getD v0.toNat (Ty.zero .macRow)).value) && true))) then
      out (Sum.inl (s_SameMac_L0_mx0 false))
    else
    next (s_SameMac_L0_mk (IntKind.wrap .i64 (v0 + 1)) v1 v2 v3 v4 v5 v6 v7 v8)
    else fail
    else fail
  else
  out (Sum.inr (s_SameMac_L0_mx1 ))
theorem s_SameMac_L0_par (v0 : Int) (v1 : Bool) (v2 : Int) (v3 : Int) (v4 : List MacRow) (v5 : Bool) (v6 : Int) (v7 : Int) (v8 : List MacRow) (γ : Type) (fail : γ) (next : s_SameMac_L0_sh.T → γ) (out : WT s_SameMac_L0_es → γ) : s_SameMac_L0_B v0 v1 v2 v3 v4 v5 v6 v7 v8 γ fail next out = optK (s_SameMac_L0_B v0 v1 v2 v3 v4 v5 v6 v7 v8 _ none (fun v' => some (.inl v')) (fun w => some (.inr w))) fail (fun r => Sum.elim next out r) := by
  unfold s_SameMac_L0_B
  exact bifT (f := (fun o => optK o fail (fun r => Sum.elim next out r))) (fun _ => bifT (f := (fun o => optK o fail (fun r => Sum.elim next out r))) (fun _ => bifT (f := (fun o => optK o fail (fun r => Sum.elim next out r))) (fun _ => bifT (f := (fun o => optK o fail (fun r => Sum.elim next out r))) (fun _ => rfl)
      (fun _ => rfl)) (fun _ => rfl)) (fun _ => rfl))
      (fun _ => rfl)
def s_SameMac_L0_r : Round s_SameMac_L0_sh.T (WT s_SameMac_L0_es) where
  B v γ fail next out := s_SameMac_L0_B v.1.2.2.1.1 v.2.1.1 v.2.1.2.1 v.2.1.2.2.1 v.2.1.2.2.2.1 v.2.2.1.1 v.2.2.1.2.1 v.2.2.1.2.2.1 v.2.2.1.2.2.2.1 γ fail next out
  par v γ fail next out := s_SameMac_L0_par v.1.2.2.1.1 v.2.1.1 v.2.1.2.1 v.2.1.2.2.1 v.2.1.2.2.2.1 v.2.2.1.1 v.2.2.1.2.1 v.2.2.1.2.2.1 v.2.2.1.2.2.2.1 γ fail next out
def s_SameMac_L0_fu (v0 : Int) (v1 : Bool) (v2 : Int) (v3 : Int) (v4 : List MacRow) (v5 : Bool) (v6 : Int) (v7 : Int) (v8 : List MacRow) : Nat := (Int.toNat ((v4.length : Int) - v0)) + 1
theorem s_SameMac_L0_lk (v : s_SameMac_L0_sh.T) (next : St → Option Res) (k : Ex → St → Option Res) : evalK te (orcOf (P := Try.prog) []) (lorcOf []) Try.f155.ntmps s_SameMac_ann (nthLoop (bodyOf Try.f155) 0 0) 0 (s_SameMac_L0_sh.enc v) (endK ⟨[2, 3, 5], [], false, 0⟩ ⟨[4], [], false, 0⟩ next k) =
  s_SameMac_L0_r.B v _ none (fun v' => next (s_SameMac_L0_sh.enc v')) (fun w => outK s_SameMac_L0_es k w) := by kernel_rfl
def s_SameMac_L0_le : LE := leOf 0 s_SameMac_L0_sh s_SameMac_L0_es s_SameMac_L0_r.step (fun v => s_SameMac_L0_fu v.1.2.2.1.1 v.2.1.1 v.2.1.2.1 v.2.1.2.2.1 v.2.1.2.2.2.1 v.2.2.1.1 v.2.2.1.2.1 v.2.2.1.2.2.1 v.2.2.1.2.2.2.1)
theorem s_SameMac_L0_ls (w0 : World) (mo : Mts) (I0 : Nat → Prop) (hmo : mo.length = 0) : LSem Try.prog (Sim w0 mo Try.f155.ntmps I0) (fun b s k => match Nat.beq 0 b with | true => s_SameMac_L0_le.run s k | false => none) 0 (nthLoop (bodyOf Try.f155) 0 0) :=
  le_sem hmo (lorc := lorcOf []) (ann := s_SameMac_ann) (keep := ⟨[2, 3, 5], [], false, 0⟩) (kout := ⟨[4], [], false, 0⟩) teFact mixFact (orcOf_ok _) (by kernel_rfl) (allLoops_of (bs := []) (by kernel_rfl) trivial) s_SameMac_L0_r _ s_SameMac_L0_lk
def s_SameMac_L0_f (v1 : Bool) (v2 : Int) (v3 : Int) (v4 : List MacRow) (v5 : Bool) (v6 : Int) (v7 : Int) (v8 : List MacRow) (v0 : Int) (a : Unit) : Stp (Unit) ((Unit)) :=
  bif (!(((v4.getD v0.toNat (Ty.zero .macRow)).input == (v8.getD v0.toNat (Ty.zero .macRow)).input) && (((v4.getD v0.toNat (Ty.zero .macRow)).value == (v8.getD v0.toNat (Ty.zero .macRow)).value) && true))) then
    .out (())
  else
  .next ()
theorem s_SameMac_L0_st (v0 : Int) (v1 : Bool) (v2 : Int) (v3 : Int) (v4 : List MacRow) (v5 : Bool) (v6 : Int) (v7 : Int) (v8 : List MacRow) (hlo : 0 ≤ v0) (hhi : v0 < (v4.length : Int)) (hN : (v4.length : Int) ≤ 4611686018427387904) (hi0 : (v4.length : Int) ≤ (v8.length : Int)) : s_SameMac_L0_r.step (s_SameMac_L0_mk v0 v1 v2 v3 v4 v5 v6 v7 v8) = Stp.elim (fun a' : Unit => some (Sum.inl (s_SameMac_L0_mk (v0 + 1) v1 v2 v3 v4 v5 v6 v7 v8))) (fun w => some (Sum.inr ((fun p : Unit => Sum.inl (s_SameMac_L0_mx0 false)) w))) (s_SameMac_L0_f v1 v2 v3 v4 v5 v6 v7 v8 v0 ()) := by
  have hw : (IntKind.wrap .i64 (v0 + 1)) = v0 + 1 := wrap64 (by omega) (by omega)
  show s_SameMac_L0_B v0 v1 v2 v3 v4 v5 v6 v7 v8 (Option (s_SameMac_L0_sh.T ⊕ WT s_SameMac_L0_es)) none (fun v' => some (Sum.inl v')) (fun w => some (Sum.inr w)) = _
  unfold s_SameMac_L0_B s_SameMac_L0_f
  exact bifG (by simp only [decide_eq_true_eq]; omega) (bifG (by (try simp only [Nat.ble_eq, Bool.and_eq_true, decide_eq_true_eq]); grind [maxSl, maxStr, toBytes_length, toInts_length, List.length_set, wrap64]) (bifG (by (try simp only [Nat.ble_eq, Bool.and_eq_true, decide_eq_true_eq]); grind [maxSl, maxStr, toBytes_length, toInts_length, List.length_set, wrap64]) (bifT (f := (Stp.elim (fun a' : Unit => some (Sum.inl (s_SameMac_L0_mk (v0 + 1) v1 v2 v3 v4 v5 v6 v7 v8))) (fun w => some (Sum.inr ((fun p : Unit => Sum.inl (s_SameMac_L0_mx0 false)) w))))) (fun b0 => rfl)
      (fun b0 => (by exact congrArg (fun z => some (Sum.inl (s_SameMac_L0_mk z v1 v2 v3 v4 v5 v6 v7 v8))) hw)))))
theorem s_SameMac_L0_cl (v0 : Int) (v1 : Bool) (v2 : Int) (v3 : Int) (v4 : List MacRow) (v5 : Bool) (v6 : Int) (v7 : Int) (v8 : List MacRow) (h0 : 0 ≤ v0) (h1 : (v4.length : Int) ≤ 4611686018427387904) (h2 : (v4.length : Int) ≤ (v8.length : Int)) : loopF s_SameMac_L0_r.step (s_SameMac_L0_fu v0 v1 v2 v3 v4 v5 v6 v7 v8) (s_SameMac_L0_mk v0 v1 v2 v3 v4 v5 v6 v7 v8) = some (Stp.elim (fun a => (fun i a => Sum.inr (s_SameMac_L0_mx1 )) (v0 + 1 * (((Int.toNat ((v4.length : Int) - v0)) : Nat) : Int)) a) (fun p : Unit => Sum.inl (s_SameMac_L0_mx0 false)) (forN (s_SameMac_L0_f v1 v2 v3 v4 v5 v6 v7 v8) 1 (Int.toNat ((v4.length : Int) - v0)) v0 ())) :=
  forN_loop (step := s_SameMac_L0_r.step) (mk := fun v0 a => s_SameMac_L0_mk v0 v1 v2 v3 v4 v5 v6 v7 v8) (f := s_SameMac_L0_f v1 v2 v3 v4 v5 v6 v7 v8) (e := (fun i a => Sum.inr (s_SameMac_L0_mx1 ))) (emb := (fun p : Unit => Sum.inl (s_SameMac_L0_mx0 false))) (st := 1) (Inv := fun v0 a => True) (Int.toNat ((v4.length : Int) - v0)) v0 () _ (Nat.lt_succ_self _) trivial
    (fun j a hj hv => ⟨s_SameMac_L0_st (v0 + 1 * (j : Int)) v1 v2 v3 v4 v5 v6 v7 v8 (by omega) (by omega) (by omega) h2, fun _ _ => trivial⟩)
    (fun a hv => by
      show s_SameMac_L0_B (v0 + 1 * (((Int.toNat ((v4.length : Int) - v0)) : Nat) : Int)) v1 v2 v3 v4 v5 v6 v7 v8 (Option (s_SameMac_L0_sh.T ⊕ WT s_SameMac_L0_es)) none (fun v' => some (Sum.inl v')) (fun w => some (Sum.inr w)) = _
      unfold s_SameMac_L0_B
      exact bifN (by simp only [decide_eq_false_iff_not]; omega) rfl)
def s_SameMac_N (x0 : Mac) (x1 : Mac) (γ : Type) (fail : γ) (k : Bool → γ) : γ :=
  bif (!(x0.use == x1.use)) then
    k false
  else
  bif (x0.k != x1.k) then
    k false
  else
  bif (x0.l != x1.l) then
    k false
  else
  bif ((x0.rows.length : Int) != (x1.rows.length : Int)) then
    k false
  else
  optK (loopF s_SameMac_L0_r.step (s_SameMac_L0_fu 0 x0.use x0.k x0.l x0.rows x1.use x1.k x1.l x1.rows) (s_SameMac_L0_mk 0 x0.use x0.k x0.l x0.rows x1.use x1.k x1.l x1.rows)) fail fun w1 =>
    Sum.elim (fun w1 =>
      k w1.1.1.1)
    (fun w1 =>
      k true) w1
def s_SameMac (x0 : Mac) (x1 : Mac) : Bool :=
  bif (!(x0.use == x1.use)) then
    false
  else
  bif (x0.k != x1.k) then
    false
  else
  bif (x0.l != x1.l) then
    false
  else
  bif ((x0.rows.length : Int) != (x1.rows.length : Int)) then
    false
  else
  Stp.elim (fun a2 =>
    true)
    (fun p2 =>
      false)
    (forN (s_SameMac_L0_f x0.use x0.k x0.l x0.rows x1.use x1.k x1.l x1.rows) 1 (Int.toNat ((x0.rows.length : Int) - 0)) 0 ())
theorem s_SameMac_lk (x0 : Mac) (x1 : Mac) : evalFn te (orcOf (P := Try.prog) []) (lorcOf [s_SameMac_L0_le]) s_SameMac_ann Try.f155 (pvs [.st .mac, .st .mac] (x0, x1, ())) =
  s_SameMac_N x0 x1 _ none (fun v => some [(false, [RC.c (.bool v)])]) := by kernel_rfl
theorem s_SameMac_p (x0 : Mac) (x1 : Mac) (hx0_k : inK .u64 x0.k) (hx0_l : inK .u64 x0.l) (hx0_rows : x0.rows.length ≤ 140737488355328) (hx0_rows_e : ∀ y ∈ x0.rows, ∀ c ∈ Ty.cells .macRow y, FactC c) (hx1_k : inK .u64 x1.k) (hx1_l : inK .u64 x1.l) (hx1_rows : x1.rows.length ≤ 140737488355328) (hx1_rows_e : ∀ y ∈ x1.rows, ∀ c ∈ Ty.cells .macRow y, FactC c)  (γ : Type) (fail : γ) (k : Bool → γ) : s_SameMac_N x0 x1 γ fail k = k (s_SameMac x0 x1) := by
  unfold s_SameMac_N s_SameMac
  exact bifT (f := k) (fun b0 => rfl)
      (fun b0 => bifT (f := k) (fun b1 => rfl)
      (fun b1 => bifT (f := k) (fun b2 => rfl)
      (fun b2 => bifT (f := k) (fun b3 => rfl)
      (fun b3 => loopT (f := k) (s_SameMac_L0_cl 0 x0.use x0.k x0.l x0.rows x1.use x1.k x1.l x1.rows (by (try simp only [Nat.ble_eq, Bool.and_eq_true, decide_eq_true_eq, s_SameMac_L0_mx0, s_SameMac_L0_mx1]); grind [maxSl, maxStr, toBytes_length, toInts_length, List.length_set, wrap64]) (by (try simp only [Nat.ble_eq, Bool.and_eq_true, decide_eq_true_eq, s_SameMac_L0_mx0, s_SameMac_L0_mx1]); grind [maxSl, maxStr, toBytes_length, toInts_length, List.length_set, wrap64]) (by (try simp only [Nat.ble_eq, Bool.and_eq_true, decide_eq_true_eq, s_SameMac_L0_mx0, s_SameMac_L0_mx1]); grind [maxSl, maxStr, toBytes_length, toInts_length, List.length_set, wrap64])) (fun a2 => rfl)
      (fun p2 => rfl)))))
theorem s_SameMac_c (x0 : Mac) (x1 : Mac)  : Con Try.prog 155 (pvs [.st .mac, .st .mac] (x0, x1, ())) [rv (.sc .bool) [] (s_SameMac x0 x1)] := by
  refine Con.of_facts (enters_of Try.func155 rfl (by kernel_rfl)) fun hf => ?_
  replace hf := factAt hf
  exact evalFn_conL teFact mixFact (orcOf_ok _) Try.func155 (by kernel_rfl) (bs := [0]) (by kernel_rfl) (by kernel_rfl) (fun w0 mo I0 hmo => ⟨lsem_of_lorc (s_SameMac_L0_ls w0 mo I0 hmo) (by kernel_rfl), trivial⟩) ((s_SameMac_lk x0 x1).trans (s_SameMac_p x0 x1 ((hf 0 1 rfl rfl).rng) ((hf 0 2 rfl rfl).rng) ((hf 0 3 rfl rfl).len) (fun y hy => (hf 0 3 rfl rfl).elem hy) ((hf 1 1 rfl rfl).rng) ((hf 1 2 rfl rfl).rng) ((hf 1 3 rfl rfl).len) (fun y hy => (hf 1 3 rfl rfl).elem hy) _ _ _))
noncomputable def s_SameMac_e : Ent1 Try.prog := entA 155 [.st .mac, .st .mac] (fun x => (s_SameMac x.1 x.2.1)) (fun v => [rv (.sc .bool) [] v]) (fun x => s_SameMac_c x.1 x.2.1)


/-- laws.eqTuple -/
def w_eqTuple_N (x0 : Tupl) (x1 : Tupl) (γ : Type) (fail : γ) (k : Bool → γ) : γ :=
  bif (x0.ip != x1.ip) then
    k false
  else
  bif (x0.port != x1.port) then
    k false
  else
  bif (x0.my != x1.my) then
    k false
  else
  k true
def w_eqTuple (x0 : Tupl) (x1 : Tupl) : Bool :=
  bif (x0.ip != x1.ip) then
    false
  else
  bif (x0.port != x1.port) then
    false
  else
  bif (x0.my != x1.my) then
    false
  else
  true
theorem w_eqTuple_lk (x0 : Tupl) (x1 : Tupl) : evalFn te (orcOf (P := Try.prog) []) lorc0 [] Try.f163 (pvs [.st .tupl, .st .tupl] (x0, x1, ())) =
  w_eqTuple_N x0 x1 _ none (fun v => some [(false, [RC.c (.bool v)])]) := by kernel_rfl
theorem w_eqTuple_p (x0 : Tupl) (x1 : Tupl)   (γ : Type) (fail : γ) (k : Bool → γ) : w_eqTuple_N x0 x1 γ fail k = k (w_eqTuple x0 x1) := by
  unfold w_eqTuple_N w_eqTuple
  exact bifT (f := k) (fun b0 => rfl)
      (fun b0 => bifT (f := k) (fun b1 => rfl)
      (fun b1 => bifT (f := k) (fun b2 => rfl)
      (fun b2 => rfl)))
theorem w_eqTuple_c (x0 : Tupl) (x1 : Tupl)  : Con Try.prog 163 (pvs [.st .tupl, .st .tupl] (x0, x1, ())) [rv (.sc .bool) [] (w_eqTuple x0 x1)] := by
  exact evalFn_con0 teFact mixFact (orcOf_ok _) Try.func163 (by kernel_rfl) ((w_eqTuple_lk x0 x1).trans (w_eqTuple_p x0 x1  _ _ _))
noncomputable def w_eqTuple_e : Ent1 Try.prog := entA 163 [.st .tupl, .st .tupl] (fun x => (w_eqTuple x.1 x.2.1)) (fun v => [rv (.sc .bool) [] v]) (fun x => w_eqTuple_c x.1 x.2.1)


/-- laws.toEntry -/
def w_toEntry_N (x0 : Entr) (γ : Type) (fail : γ) (k : Entr → γ) : γ :=
  k x0
def w_toEntry (x0 : Entr) : Entr :=
  x0
theorem w_toEntry_lk (x0 : Entr) : evalFn te (orcOf (P := Try.prog) []) lorc0 [] Try.f166 (pvs [.st .entr] (x0, ())) =
  w_toEntry_N x0 _ none (fun v => some [(true, [RC.c (.int .i64 v.ip), RC.c (.int .i64 v.hw), RC.c (.int .i64 v.age)])]) := by kernel_rfl
theorem w_toEntry_p (x0 : Entr)   (γ : Type) (fail : γ) (k : Entr → γ) : w_toEntry_N x0 γ fail k = k (w_toEntry x0) := by
  unfold w_toEntry_N w_toEntry
  exact rfl
theorem w_toEntry_c (x0 : Entr)  : Con Try.prog 166 (pvs [.st .entr] (x0, ())) [rv (.st .entr) [] (w_toEntry x0)] := by
  exact evalFn_con0 teFact mixFact (orcOf_ok _) Try.func166 (by kernel_rfl) ((w_toEntry_lk x0).trans (w_toEntry_p x0  _ _ _))
noncomputable def w_toEntry_e : Ent1 Try.prog := entA 166 [.st .entr] (fun x => (w_toEntry x.1)) (fun v => [rv (.st .entr) [] v]) (fun x => w_toEntry_c x.1)


/-- slices.Equal[[]impl.Half,impl.Half] -/
def g_Equal_Half_ann : List (Nat × Keep) := [(0, ⟨[0, 1, 12, 13], [], false, 0⟩)]
def g_Equal_Half_L0_sh : Sh := ⟨[(0, false, [.sl .arg .half]), (1, false, [.sl .arg .half]), (12, false, [.int .i64]), (13, false, [.int .i64])], []⟩
def g_Equal_Half_L0_es : List (Ex × Sh) := [(.ret, ⟨[(4, false, [.bool])], []⟩), (.exit 0, ⟨[(4, false, [.undef])], []⟩)]
def g_Equal_Half_L0_mk (v0 : List Half) (v1 : List Half) (v2 : Int) (v3 : Int) : g_Equal_Half_L0_sh.T := (((v0, ()), ((v1, ()), ((v2, ()), ((v3, ()), ())))), ())
def g_Equal_Half_L0_mx0 (y0 : Bool) : Sh.T ⟨[(4, false, [.bool])], []⟩ := (((y0, ()), ()), ())
def g_Equal_Half_L0_mx1  : Sh.T ⟨[(4, false, [.undef])], []⟩ := ((((), ()), ()), ())
def g_Equal_Half_L0_B (v0 : List Half) (v1 : List Half) (v2 : Int) (v3 : Int) (γ : Type) (fail : γ) (next : g_Equal_Half_L0_sh.T → γ) (out : WT g_Equal_Half_L0_es → γ) : γ :=
  bif (decide (v3 < v2)) then
    bif ((decide (0 ≤ v3)) && (decide (v3 < (v0.length : Int)))) then
    bif ((decide (0 ≤ v3)) && (decide (v3 < (v1.length : Int)))) then
    bif (!((((v0.getD v3.toNat (Ty.zero .half)).tuple.ip == (v1.getD v3.toNat (Ty.zero .half)).tuple.ip) && (((v0.getD v3.toNat (Ty.zero .half)).tuple.port == (v1.getD v3.toNat (Ty.zero .half)).tuple.port) && (((v0.getD v3.toNat (Ty.zero .half)).tuple.my == (v1.getD v3.toNat (Ty.zero .half)).tuple.my) && true))) && (((v0.getD v3.toNat (Ty.zero .half)).iss == (v1.getD v3.toNat (Ty.zero .half)).iss) && (((v0.getD v3.toNat (Ty.zero .half)).irs == (v1.getD v3.toNat (Ty.zero .half)).irs) && ((((v0.getD v3.toNat (Ty.zero .half)).opts.mss == (v1.getD v3.toNat (Ty.zero .half)).opts.mss) && (((v0.getD v3.toNat (Ty.zero .half)).opts.scale == (v1.getD v3.toNat (Ty.zero .half)).opts.scale) && (((v0.getD v3.toNat (Ty.zero .half)).opts.sack == (v1.getD v3.toNat (Ty.zero .half)).opts.sack) && (((v0.getD v3.toNat (Ty.zero .half)).opts.stamp == (v1.getD v3.toNat (Ty.zero .half)).opts.stamp) && (((v0.getD v3.toNat (Ty.zero .half)).opts.val == (v1.getD v3.toNat (Ty.zero .half)).opts.val) && (((v0.getD v3.toNat (Ty.zero .half)).opts.echo == (v1.getD v3.toNat (Ty.zero .half)).opts.echo) && true)))))) && (((v0.getD v3.toNat (Ty.zero .half)).age == (v1.getD v3.toNat (Ty.zero .half)).age) && (((v0.getD v3.toNat (Ty.zero .half)).window == (v1.getD v3.toNat (Ty.zero .half)).window) && true))))))) then
      out (Sum.inl (g_Equal_Half_L0_mx0 false))
    else
    next (g_Equal_Half_L0_mk v0 v1 v2 (IntKind.wrap .i64 (v3 + 1)))
    else fail
    else fail
  else
  out (Sum.inr (g_Equal_Half_L0_mx1 ))
theorem g_Equal_Half_L0_par (v0 : List Half) (v1 : List Half) (v2 : Int) (v3 : Int) (γ : Type) (fail : γ) (next : g_Equal_Half_L0_sh.T → γ) (out : WT g_Equal_Half_L0_es → γ) : g_Equal_Half_L0_B v0 v1 v2 v3 γ fail next out = optK (g_Equal_Half_L0_B v0 v1 v2 v3 _ none (fun v' => some (.inl v')) (fun w => some (.inr w))) fail (fun r => Sum.elim next out r) := by
  unfold g_Equal_Half_L0_B
  exact bifT (f := (fun o => optK o fail (fun r => Sum.elim next out r))) (fun _ => bifT (f := (fun o => optK o fail (fun r => Sum.elim next out r))) (fun _ => bifT (f := (fun o => optK o fail (fun r => Sum.elim next out r))) (fun _ => bifT (f := (fun o => optK o fail (fun r => Sum.elim next out r))) (fun _ => rfl)
      (fun _ => rfl)) (fun _ => rfl)) (fun _ => rfl))
      (fun _ => rfl)
def g_Equal_Half_L0_r : Round g_Equal_Half_L0_sh.T (WT g_Equal_Half_L0_es) where
  B v γ fail next out := g_Equal_Half_L0_B v.1.1.1 v.1.2.1.1 v.1.2.2.1.1 v.1.2.2.2.1.1 γ fail next out
  par v γ fail next out := g_Equal_Half_L0_par v.1.1.1 v.1.2.1.1 v.1.2.2.1.1 v.1.2.2.2.1.1 γ fail next out
def g_Equal_Half_L0_fu (v0 : List Half) (v1 : List Half) (v2 : Int) (v3 : Int) : Nat := (Int.toNat (v2 - v3)) + 1
theorem g_Equal_Half_L0_lk (v : g_Equal_Half_L0_sh.T) (next : St → Option Res) (k : Ex → St → Option Res) : evalK te (orcOf (P := Try.prog) []) (lorcOf []) Try.f167.ntmps g_Equal_Half_ann (nthLoop (bodyOf Try.f167) 0 0) 0 (g_Equal_Half_L0_sh.enc v) (endK ⟨[0, 1, 12, 13], [], false, 0⟩ ⟨[4], [], false, 0⟩ next k) =
  g_Equal_Half_L0_r.B v _ none (fun v' => next (g_Equal_Half_L0_sh.enc v')) (fun w => outK g_Equal_Half_L0_es k w) := by kernel_rfl
def g_Equal_Half_L0_le : LE := leOf 0 g_Equal_Half_L0_sh g_Equal_Half_L0_es g_Equal_Half_L0_r.step (fun v => g_Equal_Half_L0_fu v.1.1.1 v.1.2.1.1 v.1.2.2.1.1 v.1.2.2.2.1.1)
theorem g_Equal_Half_L0_ls (w0 : World) (mo : Mts) (I0 : Nat → Prop) (hmo : mo.length = 0) : LSem Try.prog (Sim w0 mo Try.f167.ntmps I0) (fun b s k => match Nat.beq 0 b with | true => g_Equal_Half_L0_le.run s k | false => none) 0 (nthLoop (bodyOf Try.f167) 0 0) :=
  le_sem hmo (lorc := lorcOf []) (ann := g_Equal_Half_ann) (keep := ⟨[0, 1, 12, 13], [], false, 0⟩) (kout := ⟨[4], [], false, 0⟩) teFact mixFact (orcOf_ok _) (by kernel_rfl) (allLoops_of (bs := []) (by kernel_rfl) trivial) g_Equal_Half_L0_r _ g_Equal_Half_L0_lk
def g_Equal_Half_L0_f (v0 : List Half) (v1 : List Half) (v2 : Int) (v3 : Int) (a : Unit) : Stp (Unit) ((Unit)) :=
  bif (!((((v0.getD v3.toNat (Ty.zero .half)).tuple.ip == (v1.getD v3.toNat (Ty.zero .half)).tuple.ip) && (((v0.getD v3.toNat (Ty.zero .half)).tuple.port == (v1.getD v3.toNat (Ty.zero .half)).tuple.port) && (((v0.getD v3.toNat (Ty.zero .half)).tuple.my == (v1.getD v3.toNat (Ty.zero .half)).tuple.my) && true))) && (((v0.getD v3.toNat (Ty.zero .half)).iss == (v1.getD v3.toNat (Ty.zero .half)).iss) && (((v0.getD v3.toNat (Ty.zero .half)).irs == (v1.getD v3.toNat (Ty.zero .half)).irs) && ((((v0.getD v3.toNat (Ty.zero .half)).opts.mss == (v1.getD v3.toNat (Ty.zero .half)).opts.mss) && (((v0.getD v3.toNat (Ty.zero .half)).opts.scale == (v1.getD v3.toNat (Ty.zero .half)).opts.scale) && (((v0.getD v3.toNat (Ty.zero .half)).opts.sack == (v1.getD v3.toNat (Ty.zero .half)).opts.sack) && (((v0.getD v3.toNat (Ty.zero .half)).opts.stamp == (v1.getD v3.toNat (Ty.zero .half)).opts.stamp) && (((v0.getD v3.toNat (Ty.zero .half)).opts.val == (v1.getD v3.toNat (Ty.zero .half)).opts.val) && (((v0.getD v3.toNat (Ty.zero .half)).opts.echo == (v1.getD v3.toNat (Ty.zero .half)).opts.echo) && true)))))) && (((v0.getD v3.toNat (Ty.zero .half)).age == (v1.getD v3.toNat (Ty.zero .half)).age) && (((v0.getD v3.toNat (Ty.zero .half)).window == (v1.getD v3.toNat (Ty.zero .half)).window) && true))))))) then
    .out (())
  else
  .next ()
theorem g_Equal_Half_L0_st (v0 : List Half) (v1 : List Half) (v2 : Int) (v3 : Int) (hlo : 0 ≤ v3) (hhi : v3 < v2) (hN : v2 ≤ 4611686018427387904) (hi0 : v2 ≤ (v0.length : Int)) (hi1 : v2 ≤ (v1.length : Int)) : g_Equal_Half_L0_r.step (g_Equal_Half_L0_mk v0 v1 v2 v3) = Stp.elim (fun a' : Unit => some (Sum.inl (g_Equal_Half_L0_mk v0 v1 v2 (v3 + 1)))) (fun w => some (Sum.inr ((fun p : Unit => Sum.inl (g_Equal_Half_L0_mx0 false)) w))) (g_Equal_Half_L0_f v0 v1 v2 v3 ()) := by
  have hw : (IntKind.wrap .i64 (v3 + 1)) = v3 + 1 := wrap64 (by omega) (by omega)
  show g_Equal_Half_L0_B v0 v1 v2 v3 (Option (g_Equal_Half_L0_sh.T ⊕ WT g_Equal_Half_L0_es)) none (fun v' => some (Sum.inl v')) (fun w => some (Sum.inr w)) = _
  unfold g_Equal_Half_L0_B g_Equal_Half_L0_f
  exact bifG (by simp only [decide_eq_true_eq]; omega) (bifG (by (try simp only [Nat.ble_eq, Bool.and_eq_true, decide_eq_true_eq]); grind [maxSl, maxStr, toBytes_length, toInts_length, List.length_set, wrap64]) (bifG (by (try simp only [Nat.ble_eq, Bool.and_eq_true, decide_eq_true_eq]); grind [maxSl, maxStr, toBytes_length, toInts_length, List.length_set, wrap64]) (bifT (f := (Stp.elim (fun a' : Unit => some (Sum.inl (g_Equal_Half_L0_mk v0 v1 v2 (v3 + 1)))) (fun w => some (Sum.inr ((fun p : Unit => Sum.inl (g_Equal_Half_L0_mx0 false)) w))))) (fun b0 => rfl)
      (fun b0 => (by exact congrArg (fun z => some (Sum.inl (g_Equal_Half_L0_mk v0 v1 v2 z))) hw)))))
theorem g_Equal_Half_L0_cl (v0 : List Half) (v1 : List Half) (v2 : Int) (v3 : Int) (h0 : 0 ≤ v3) (h1 : v2 ≤ 4611686018427387904) (h2 : v2 ≤ (v0.length : Int)) (h3 : v2 ≤ (v1.length : Int)) : loopF g_Equal_Half_L0_r.step (g_Equal_Half_L0_fu v0 v1 v2 v3) (g_Equal_Half_L0_mk v0 v1 v2 v3) = some (Stp.elim (fun a => (fun i a => Sum.inr (g_Equal_Half_L0_mx1 )) (v3 + 1 * (((Int.toNat (v2 - v3)) : Nat) : Int)) a) (fun p : Unit => Sum.inl (g_Equal_Half_L0_mx0 false)) (forN (g_Equal_Half_L0_f v0 v1 v2) 1 (Int.toNat (v2 - v3)) v3 ())) :=
  forN_loop (step := g_Equal_Half_L0_r.step) (mk := fun v3 a => g_Equal_Half_L0_mk v0 v1 v2 v3) (f := g_Equal_Half_L0_f v0 v1 v2) (e := (fun i a => Sum.inr (g_Equal_Half_L0_mx1 ))) (emb := (fun p : Unit => Sum.inl (g_Equal_Half_L0_mx0 false))) (st := 1) (Inv := fun v3 a => True) (Int.toNat (v2 - v3)) v3 () _ (Nat.lt_succ_self _) trivial
    (fun j a hj hv => ⟨g_Equal_Half_L0_st v0 v1 v2 (v3 + 1 * (j : Int)) (by omega) (by omega) (by omega) h2 h3, fun _ _ => trivial⟩)
    (fun a hv => by
      show g_Equal_Half_L0_B v0 v1 v2 (v3 + 1 * (((Int.toNat (v2 - v3)) : Nat) : Int)) (Option (g_Equal_Half_L0_sh.T ⊕ WT g_Equal_Half_L0_es)) none (fun v' => some (Sum.inl v')) (fun w => some (Sum.inr w)) = _
      unfold g_Equal_Half_L0_B
      exact bifN (by simp only [decide_eq_false_iff_not]; omega) rfl)
def g_Equal_Half_N (x0 : List Half) (x1 : List Half) (γ : Type) (fail : γ) (k : Bool → γ) : γ :=
  bif ((x0.length : Int) != (x1.length : Int)) then
    k false
  else
  optK (loopF g_Equal_Half_L0_r.step (g_Equal_Half_L0_fu x0 x1 (x0.length : Int) 0) (g_Equal_Half_L0_mk x0 x1 (x0.length : Int) 0)) fail fun w1 =>
    Sum.elim (fun w1 =>
      k w1.1.1.1)
    (fun w1 =>
      k true) w1
def g_Equal_Half (x0 : List Half) (x1 : List Half) : Bool :=
  bif ((x0.length : Int) != (x1.length : Int)) then
    false
  else
  Stp.elim (fun a2 =>
    true)
    (fun p2 =>
      false)
    (forN (g_Equal_Half_L0_f x0 x1 (x0.length : Int)) 1 (Int.toNat ((x0.length : Int) - 0)) 0 ())
theorem g_Equal_Half_lk (x0 : List Half) (x1 : List Half) : evalFn te (orcOf (P := Try.prog) []) (lorcOf [g_Equal_Half_L0_le]) g_Equal_Half_ann Try.f167 (pvs [.sc (.sl .half), .sc (.sl .half)] (x0, x1, ())) =
  g_Equal_Half_N x0 x1 _ none (fun v => some [(false, [RC.c (.bool v)])]) := by kernel_rfl
theorem g_Equal_Half_p (x0 : List Half) (x1 : List Half) (hx0 : x0.length ≤ 140737488355328) (hx1 : x1.length ≤ 140737488355328)  (γ : Type) (fail : γ) (k : Bool → γ) : g_Equal_Half_N x0 x1 γ fail k = k (g_Equal_Half x0 x1) := by
  unfold g_Equal_Half_N g_Equal_Half
  exact bifT (f := k) (fun b0 => rfl)
      (fun b0 => loopT (f := k) (g_Equal_Half_L0_cl x0 x1 (x0.length : Int) 0 (by (try simp only [Nat.ble_eq, Bool.and_eq_true, decide_eq_true_eq, g_Equal_Half_L0_mx0, g_Equal_Half_L0_mx1]); grind [maxSl, maxStr, toBytes_length, toInts_length, List.length_set, wrap64]) (by (try simp only [Nat.ble_eq, Bool.and_eq_true, decide_eq_true_eq, g_Equal_Half_L0_mx0, g_Equal_Half_L0_mx1]); grind [maxSl, maxStr, toBytes_length, toInts_length, List.length_set, wrap64]) (by (try simp only [Nat.ble_eq, Bool.and_eq_true, decide_eq_true_eq, g_Equal_Half_L0_mx0, g_Equal_Half_L0_mx1]); grind [maxSl, maxStr, toBytes_length, toInts_length, List.length_set, wrap64]) (by (try simp only [Nat.ble_eq, Bool.and_eq_true, decide_eq_true_eq, g_Equal_Half_L0_mx0, g_Equal_Half_L0_mx1]); grind [maxSl, maxStr, toBytes_length, toInts_length, List.length_set, wrap64])) (fun a2 => rfl)
      (fun p2 => rfl))
theorem g_Equal_Half_c (x0 : List Half) (x1 : List Half)  : Con Try.prog 167 (pvs [.sc (.sl .half), .sc (.sl .half)] (x0, x1, ())) [rv (.sc .bool) [] (g_Equal_Half x0 x1)] := by
  refine Con.of_facts (enters_of Try.func167 rfl (by kernel_rfl)) fun hf => ?_
  replace hf := factAt hf
  exact evalFn_conL teFact mixFact (orcOf_ok _) Try.func167 (by kernel_rfl) (bs := [0]) (by kernel_rfl) (by kernel_rfl) (fun w0 mo I0 hmo => ⟨lsem_of_lorc (g_Equal_Half_L0_ls w0 mo I0 hmo) (by kernel_rfl), trivial⟩) ((g_Equal_Half_lk x0 x1).trans (g_Equal_Half_p x0 x1 ((hf 0 0 rfl rfl).len) ((hf 1 0 rfl rfl).len) _ _ _))
noncomputable def g_Equal_Half_e : Ent1 Try.prog := entA 167 [.sc (.sl .half), .sc (.sl .half)] (fun x => (g_Equal_Half x.1 x.2.1)) (fun v => [rv (.sc .bool) [] v]) (fun x => g_Equal_Half_c x.1 x.2.1)


/-- slices.Equal[[]impl.Tuple,impl.Tuple] -/
def g_Equal_Tuple_ann : List (Nat × Keep) := [(0, ⟨[0, 1, 12, 13], [], false, 0⟩)]
def g_Equal_Tuple_L0_sh : Sh := ⟨[(0, false, [.sl .arg .tupl]), (1, false, [.sl .arg .tupl]), (12, false, [.int .i64]), (13, false, [.int .i64])], []⟩
def g_Equal_Tuple_L0_es : List (Ex × Sh) := [(.ret, ⟨[(4, false, [.bool])], []⟩), (.exit 0, ⟨[(4, false, [.undef])], []⟩)]
def g_Equal_Tuple_L0_mk (v0 : List Tupl) (v1 : List Tupl) (v2 : Int) (v3 : Int) : g_Equal_Tuple_L0_sh.T := (((v0, ()), ((v1, ()), ((v2, ()), ((v3, ()), ())))), ())
def g_Equal_Tuple_L0_mx0 (y0 : Bool) : Sh.T ⟨[(4, false, [.bool])], []⟩ := (((y0, ()), ()), ())
def g_Equal_Tuple_L0_mx1  : Sh.T ⟨[(4, false, [.undef])], []⟩ := ((((), ()), ()), ())
def g_Equal_Tuple_L0_B (v0 : List Tupl) (v1 : List Tupl) (v2 : Int) (v3 : Int) (γ : Type) (fail : γ) (next : g_Equal_Tuple_L0_sh.T → γ) (out : WT g_Equal_Tuple_L0_es → γ) : γ :=
  bif (decide (v3 < v2)) then
    bif ((decide (0 ≤ v3)) && (decide (v3 < (v0.length : Int)))) then
    bif ((decide (0 ≤ v3)) && (decide (v3 < (v1.length : Int)))) then
    bif (!(((v0.getD v3.toNat (Ty.zero .tupl)).ip == (v1.getD v3.toNat (Ty.zero .tupl)).ip) && (((v0.getD v3.toNat (Ty.zero .tupl)).port == (v1.getD v3.toNat (Ty.zero .tupl)).port) && (((v0.getD v3.toNat (Ty.zero .tupl)).my == (v1.getD v3.toNat (Ty.zero .tupl)).my) && true)))) then
      out (Sum.inl (g_Equal_Tuple_L0_mx0 false))
    else
    next (g_Equal_Tuple_L0_mk v0 v1 v2 (IntKind.wrap .i64 (v3 + 1)))
    else fail
    else fail
  else
  out (Sum.inr (g_Equal_Tuple_L0_mx1 ))
theorem g_Equal_Tuple_L0_par (v0 : List Tupl) (v1 : List Tupl) (v2 : Int) (v3 : Int) (γ : Type) (fail : γ) (next : g_Equal_Tuple_L0_sh.T → γ) (out : WT g_Equal_Tuple_L0_es → γ) : g_Equal_Tuple_L0_B v0 v1 v2 v3 γ fail next out = optK (g_Equal_Tuple_L0_B v0 v1 v2 v3 _ none (fun v' => some (.inl v')) (fun w => some (.inr w))) fail (fun r => Sum.elim next out r) := by
  unfold g_Equal_Tuple_L0_B
  exact bifT (f := (fun o => optK o fail (fun r => Sum.elim next out r))) (fun _ => bifT (f := (fun o => optK o fail (fun r => Sum.elim next out r))) (fun _ => bifT (f := (fun o => optK o fail (fun r => Sum.elim next out r))) (fun _ => bifT (f := (fun o => optK o fail (fun r => Sum.elim next out r))) (fun _ => rfl)
      (fun _ => rfl)) (fun _ => rfl)) (fun _ => rfl))
      (fun _ => rfl)
def g_Equal_Tuple_L0_r : Round g_Equal_Tuple_L0_sh.T (WT g_Equal_Tuple_L0_es) where
  B v γ fail next out := g_Equal_Tuple_L0_B v.1.1.1 v.1.2.1.1 v.1.2.2.1.1 v.1.2.2.2.1.1 γ fail next out
  par v γ fail next out := g_Equal_Tuple_L0_par v.1.1.1 v.1.2.1.1 v.1.2.2.1.1 v.1.2.2.2.1.1 γ fail next out
def g_Equal_Tuple_L0_fu (v0 : List Tupl) (v1 : List Tupl) (v2 : Int) (v3 : Int) : Nat := (Int.toNat (v2 - v3)) + 1
theorem g_Equal_Tuple_L0_lk (v : g_Equal_Tuple_L0_sh.T) (next : St → Option Res) (k : Ex → St → Option Res) : evalK te (orcOf (P := Try.prog) []) (lorcOf []) Try.f170.ntmps g_Equal_Tuple_ann (nthLoop (bodyOf Try.f170) 0 0) 0 (g_Equal_Tuple_L0_sh.enc v) (endK ⟨[0, 1, 12, 13], [], false, 0⟩ ⟨[4], [], false, 0⟩ next k) =
  g_Equal_Tuple_L0_r.B v _ none (fun v' => next (g_Equal_Tuple_L0_sh.enc v')) (fun w => outK g_Equal_Tuple_L0_es k w) := by kernel_rfl
def g_Equal_Tuple_L0_le : LE := leOf 0 g_Equal_Tuple_L0_sh g_Equal_Tuple_L0_es g_Equal_Tuple_L0_r.step (fun v => g_Equal_Tuple_L0_fu v.1.1.1 v.1.2.1.1 v.1.2.2.1.1 v.1.2.2.2.1.1)
theorem g_Equal_Tuple_L0_ls (w0 : World) (mo : Mts) (I0 : Nat → Prop) (hmo : mo.length = 0) : LSem Try.prog (Sim w0 mo Try.f170.ntmps I0) (fun b s k => match Nat.beq 0 b with | true => g_Equal_Tuple_L0_le.run s k | false => none) 0 (nthLoop (bodyOf Try.f170) 0 0) :=
  le_sem hmo (lorc := lorcOf []) (ann := g_Equal_Tuple_ann) (keep := ⟨[0, 1, 12, 13], [], false, 0⟩) (kout := ⟨[4], [], false, 0⟩) teFact mixFact (orcOf_ok _) (by kernel_rfl) (allLoops_of (bs := []) (by kernel_rfl) trivial) g_Equal_Tuple_L0_r _ g_Equal_Tuple_L0_lk
def g_Equal_Tuple_L0_f (v0 : List Tupl) (v1 : List Tupl) (v2 : Int) (v3 : Int) (a : Unit) : Stp (Unit) ((Unit)) :=
  bif (!(((v0.getD v3.toNat (Ty.zero .tupl)).ip == (v1.getD v3.toNat (Ty.zero .tupl)).ip) && (((v0.getD v3.toNat (Ty.zero .tupl)).port == (v1.getD v3.toNat (Ty.zero .tupl)).port) && (((v0.getD v3.toNat (Ty.zero .tupl)).my == (v1.getD v3.toNat (Ty.zero .tupl)).my) && true)))) then
    .out (())
  else
  .next ()
theorem g_Equal_Tuple_L0_st (v0 : List Tupl) (v1 : List Tupl) (v2 : Int) (v3 : Int) (hlo : 0 ≤ v3) (hhi : v3 < v2) (hN : v2 ≤ 4611686018427387904) (hi0 : v2 ≤ (v0.length : Int)) (hi1 : v2 ≤ (v1.length : Int)) : g_Equal_Tuple_L0_r.step (g_Equal_Tuple_L0_mk v0 v1 v2 v3) = Stp.elim (fun a' : Unit => some (Sum.inl (g_Equal_Tuple_L0_mk v0 v1 v2 (v3 + 1)))) (fun w => some (Sum.inr ((fun p : Unit => Sum.inl (g_Equal_Tuple_L0_mx0 false)) w))) (g_Equal_Tuple_L0_f v0 v1 v2 v3 ()) := by
  have hw : (IntKind.wrap .i64 (v3 + 1)) = v3 + 1 := wrap64 (by omega) (by omega)
  show g_Equal_Tuple_L0_B v0 v1 v2 v3 (Option (g_Equal_Tuple_L0_sh.T ⊕ WT g_Equal_Tuple_L0_es)) none (fun v' => some (Sum.inl v')) (fun w => some (Sum.inr w)) = _
  unfold g_Equal_Tuple_L0_B g_Equal_Tuple_L0_f
  exact bifG (by simp only [decide_eq_true_eq]; omega) (bifG (by (try simp only [Nat.ble_eq, Bool.and_eq_true, decide_eq_true_eq]); grind [maxSl, maxStr, toBytes_length, toInts_length, List.length_set, wrap64]) (bifG (by (try simp only [Nat.ble_eq, Bool.and_eq_true, decide_eq_true_eq]); grind [maxSl, maxStr, toBytes_length, toInts_length, List.length_set, wrap64]) (bifT (f := (Stp.elim (fun a' : Unit => some (Sum.inl (g_Equal_Tuple_L0_mk v0 v1 v2 (v3 + 1)))) (fun w => some (Sum.inr ((fun p : Unit => Sum.inl (g_Equal_Tuple_L0_mx0 false)) w))))) (fun b0 => rfl)
      (fun b0 => (by exact congrArg (fun z => some (Sum.inl (g_Equal_Tuple_L0_mk v0 v1 v2 z))) hw)))))
theorem g_Equal_Tuple_L0_cl (v0 : List Tupl) (v1 : List Tupl) (v2 : Int) (v3 : Int) (h0 : 0 ≤ v3) (h1 : v2 ≤ 4611686018427387904) (h2 : v2 ≤ (v0.length : Int)) (h3 : v2 ≤ (v1.length : Int)) : loopF g_Equal_Tuple_L0_r.step (g_Equal_Tuple_L0_fu v0 v1 v2 v3) (g_Equal_Tuple_L0_mk v0 v1 v2 v3) = some (Stp.elim (fun a => (fun i a => Sum.inr (g_Equal_Tuple_L0_mx1 )) (v3 + 1 * (((Int.toNat (v2 - v3)) : Nat) : Int)) a) (fun p : Unit => Sum.inl (g_Equal_Tuple_L0_mx0 false)) (forN (g_Equal_Tuple_L0_f v0 v1 v2) 1 (Int.toNat (v2 - v3)) v3 ())) :=
  forN_loop (step := g_Equal_Tuple_L0_r.step) (mk := fun v3 a => g_Equal_Tuple_L0_mk v0 v1 v2 v3) (f := g_Equal_Tuple_L0_f v0 v1 v2) (e := (fun i a => Sum.inr (g_Equal_Tuple_L0_mx1 ))) (emb := (fun p : Unit => Sum.inl (g_Equal_Tuple_L0_mx0 false))) (st := 1) (Inv := fun v3 a => True) (Int.toNat (v2 - v3)) v3 () _ (Nat.lt_succ_self _) trivial
    (fun j a hj hv => ⟨g_Equal_Tuple_L0_st v0 v1 v2 (v3 + 1 * (j : Int)) (by omega) (by omega) (by omega) h2 h3, fun _ _ => trivial⟩)
    (fun a hv => by
      show g_Equal_Tuple_L0_B v0 v1 v2 (v3 + 1 * (((Int.toNat (v2 - v3)) : Nat) : Int)) (Option (g_Equal_Tuple_L0_sh.T ⊕ WT g_Equal_Tuple_L0_es)) none (fun v' => some (Sum.inl v')) (fun w => some (Sum.inr w)) = _
      unfold g_Equal_Tuple_L0_B
      exact bifN (by simp only [decide_eq_false_iff_not]; omega) rfl)
def g_Equal_Tuple_N (x0 : List Tupl) (x1 : List Tupl) (γ : Type) (fail : γ) (k : Bool → γ) : γ :=
  bif ((x0.length : Int) != (x1.length : Int)) then
    k false
  else
  optK (loopF g_Equal_Tuple_L0_r.step (g_Equal_Tuple_L0_fu x0 x1 (x0.length : Int) 0) (g_Equal_Tuple_L0_mk x0 x1 (x0.length : Int) 0)) fail fun w1 =>
    Sum.elim (fun w1 =>
      k w1.1.1.1)
    (fun w1 =>
      k true) w1
def g_Equal_Tuple (x0 : List Tupl) (x1 : List Tupl) : Bool :=
  bif ((x0.length : Int) != (x1.length : Int)) then
    false
  else
  Stp.elim (fun a2 =>
    true)
    (fun p2 =>
      false)
    (forN (g_Equal_Tuple_L0_f x0 x1 (x0.length : Int)) 1 (Int.toNat ((x0.length : Int) - 0)) 0 ())
theorem g_Equal_Tuple_lk (x0 : List Tupl) (x1 : List Tupl) : evalFn te (orcOf (P := Try.prog) []) (lorcOf [g_Equal_Tuple_L0_le]) g_Equal_Tuple_ann Try.f170 (pvs [.sc (.sl .tupl), .sc (.sl .tupl)] (x0, x1, ())) =
  g_Equal_Tuple_N x0 x1 _ none (fun v => some [(false, [RC.c (.bool v)])]) := by kernel_rfl
theorem g_Equal_Tuple_p (x0 : List Tupl) (x1 : List Tupl) (hx0 : x0.length ≤ 140737488355328) (hx1 : x1.length ≤ 140737488355328)  (γ : Type) (fail : γ) (k : Bool → γ) : g_Equal_Tuple_N x0 x1 γ fail k = k (g_Equal_Tuple x0 x1) := by
  unfold g_Equal_Tuple_N g_Equal_Tuple
  exact bifT (f := k) (fun b0 => rfl)
      (fun b0 => loopT (f := k) (g_Equal_Tuple_L0_cl x0 x1 (x0.length : Int) 0 (by (try simp only [Nat.ble_eq, Bool.and_eq_true, decide_eq_true_eq, g_Equal_Tuple_L0_mx0, g_Equal_Tuple_L0_mx1]); grind [maxSl, maxStr, toBytes_length, toInts_length, List.length_set, wrap64]) (by (try simp only [Nat.ble_eq, Bool.and_eq_true, decide_eq_true_eq, g_Equal_Tuple_L0_mx0, g_Equal_Tuple_L0_mx1]); grind [maxSl, maxStr, toBytes_length, toInts_length, List.length_set, wrap64]) (by (try simp only [Nat.ble_eq, Bool.and_eq_true, decide_eq_true_eq, g_Equal_Tuple_L0_mx0, g_Equal_Tuple_L0_mx1]); grind [maxSl, maxStr, toBytes_length, toInts_length, List.length_set, wrap64]) (by (try simp only [Nat.ble_eq, Bool.and_eq_true, decide_eq_true_eq, g_Equal_Tuple_L0_mx0, g_Equal_Tuple_L0_mx1]); grind [maxSl, maxStr, toBytes_length, toInts_length, List.length_set, wrap64])) (fun a2 => rfl)
      (fun p2 => rfl))
theorem g_Equal_Tuple_c (x0 : List Tupl) (x1 : List Tupl)  : Con Try.prog 170 (pvs [.sc (.sl .tupl), .sc (.sl .tupl)] (x0, x1, ())) [rv (.sc .bool) [] (g_Equal_Tuple x0 x1)] := by
  refine Con.of_facts (enters_of Try.func170 rfl (by kernel_rfl)) fun hf => ?_
  replace hf := factAt hf
  exact evalFn_conL teFact mixFact (orcOf_ok _) Try.func170 (by kernel_rfl) (bs := [0]) (by kernel_rfl) (by kernel_rfl) (fun w0 mo I0 hmo => ⟨lsem_of_lorc (g_Equal_Tuple_L0_ls w0 mo I0 hmo) (by kernel_rfl), trivial⟩) ((g_Equal_Tuple_lk x0 x1).trans (g_Equal_Tuple_p x0 x1 ((hf 0 0 rfl rfl).len) ((hf 1 0 rfl rfl).len) _ _ _))
noncomputable def g_Equal_Tuple_e : Ent1 Try.prog := entA 170 [.sc (.sl .tupl), .sc (.sl .tupl)] (fun x => (g_Equal_Tuple x.1 x.2.1)) (fun v => [rv (.sc .bool) [] v]) (fun x => g_Equal_Tuple_c x.1 x.2.1)


/-- laws.eqEntry -/
def w_eqEntry_N (x0 : Entr) (x1 : Entr) (γ : Type) (fail : γ) (k : Bool → γ) : γ :=
  bif (x0.ip != x1.ip) then
    k false
  else
  bif (x0.hw != x1.hw) then
    k false
  else
  bif (x0.age != x1.age) then
    k false
  else
  k true
def w_eqEntry (x0 : Entr) (x1 : Entr) : Bool :=
  bif (x0.ip != x1.ip) then
    false
  else
  bif (x0.hw != x1.hw) then
    false
  else
  bif (x0.age != x1.age) then
    false
  else
  true
theorem w_eqEntry_lk (x0 : Entr) (x1 : Entr) : evalFn te (orcOf (P := Try.prog) []) lorc0 [] Try.f171 (pvs [.st .entr, .st .entr] (x0, x1, ())) =
  w_eqEntry_N x0 x1 _ none (fun v => some [(false, [RC.c (.bool v)])]) := by kernel_rfl
theorem w_eqEntry_p (x0 : Entr) (x1 : Entr)   (γ : Type) (fail : γ) (k : Bool → γ) : w_eqEntry_N x0 x1 γ fail k = k (w_eqEntry x0 x1) := by
  unfold w_eqEntry_N w_eqEntry
  exact bifT (f := k) (fun b0 => rfl)
      (fun b0 => bifT (f := k) (fun b1 => rfl)
      (fun b1 => bifT (f := k) (fun b2 => rfl)
      (fun b2 => rfl)))
theorem w_eqEntry_c (x0 : Entr) (x1 : Entr)  : Con Try.prog 171 (pvs [.st .entr, .st .entr] (x0, x1, ())) [rv (.sc .bool) [] (w_eqEntry x0 x1)] := by
  exact evalFn_con0 teFact mixFact (orcOf_ok _) Try.func171 (by kernel_rfl) ((w_eqEntry_lk x0 x1).trans (w_eqEntry_p x0 x1  _ _ _))
noncomputable def w_eqEntry_e : Ent1 Try.prog := entA 171 [.st .entr, .st .entr] (fun x => (w_eqEntry x.1 x.2.1)) (fun v => [rv (.sc .bool) [] v]) (fun x => w_eqEntry_c x.1 x.2.1)


/-- slices.Equal[[]impl.MacRow,impl.MacRow] -/
def g_Equal_MacRow_ann : List (Nat × Keep) := [(0, ⟨[0, 1, 12, 13], [], false, 0⟩)]
def g_Equal_MacRow_L0_sh : Sh := ⟨[(0, false, [.sl .arg .macRow]), (1, false, [.sl .arg .macRow]), (12, false, [.int .i64]), (13, false, [.int .i64])], []⟩
def g_Equal_MacRow_L0_es : List (Ex × Sh) := [(.ret, ⟨[(4, false, [.bool])], []⟩), (.exit 0, ⟨[(4, false, [.undef])], []⟩)]
def g_Equal_MacRow_L0_mk (v0 : List MacRow) (v1 : List MacRow) (v2 : Int) (v3 : Int) : g_Equal_MacRow_L0_sh.T := (((v0, ()), ((v1, ()), ((v2, ()), ((v3, ()), ())))), ())
def g_Equal_MacRow_L0_mx0 (y0 : Bool) : Sh.T ⟨[(4, false, [.bool])], []⟩ := (((y0, ()), ()), ())
def g_Equal_MacRow_L0_mx1  : Sh.T ⟨[(4, false, [.undef])], []⟩ := ((((), ()), ()), ())
def g_Equal_MacRow_L0_B (v0 : List MacRow) (v1 : List MacRow) (v2 : Int) (v3 : Int) (γ : Type) (fail : γ) (next : g_Equal_MacRow_L0_sh.T → γ) (out : WT g_Equal_MacRow_L0_es → γ) : γ :=
  bif (decide (v3 < v2)) then
    bif ((decide (0 ≤ v3)) && (decide (v3 < (v0.length : Int)))) then
    bif ((decide (0 ≤ v3)) && (decide (v3 < (v1.length : Int)))) then
    bif (!(((v0.getD v3.toNat (Ty.zero .macRow)).input == (v1.getD v3.toNat (Ty.zero .macRow)).input) && (((v0.getD v3.toNat (Ty.zero .macRow)).value == (v1.getD v3.toNat (Ty.zero .macRow)).value) && true))) then
      out (Sum.inl (g_Equal_MacRow_L0_mx0 false))
    else
    next (g_Equal_MacRow_L0_mk v0 v1 v2 (IntKind.wrap .i64 (v3 + 1)))
    else fail
    else fail
  else
  out (Sum.inr (g_Equal_MacRow_L0_mx1 ))
theorem g_Equal_MacRow_L0_par (v0 : List MacRow) (v1 : List MacRow) (v2 : Int) (v3 : Int) (γ : Type) (fail : γ) (next : g_Equal_MacRow_L0_sh.T → γ) (out : WT g_Equal_MacRow_L0_es → γ) : g_Equal_MacRow_L0_B v0 v1 v2 v3 γ fail next out = optK (g_Equal_MacRow_L0_B v0 v1 v2 v3 _ none (fun v' => some (.inl v')) (fun w => some (.inr w))) fail (fun r => Sum.elim next out r) := by
  unfold g_Equal_MacRow_L0_B
  exact bifT (f := (fun o => optK o fail (fun r => Sum.elim next out r))) (fun _ => bifT (f := (fun o => optK o fail (fun r => Sum.elim next out r))) (fun _ => bifT (f := (fun o => optK o fail (fun r => Sum.elim next out r))) (fun _ => bifT (f := (fun o => optK o fail (fun r => Sum.elim next out r))) (fun _ => rfl)
      (fun _ => rfl)) (fun _ => rfl)) (fun _ => rfl))
      (fun _ => rfl)
def g_Equal_MacRow_L0_r : Round g_Equal_MacRow_L0_sh.T (WT g_Equal_MacRow_L0_es) where
  B v γ fail next out := g_Equal_MacRow_L0_B v.1.1.1 v.1.2.1.1 v.1.2.2.1.1 v.1.2.2.2.1.1 γ fail next out
  par v γ fail next out := g_Equal_MacRow_L0_par v.1.1.1 v.1.2.1.1 v.1.2.2.1.1 v.1.2.2.2.1.1 γ fail next out
def g_Equal_MacRow_L0_fu (v0 : List MacRow) (v1 : List MacRow) (v2 : Int) (v3 : Int) : Nat := (Int.toNat (v2 - v3)) + 1
theorem g_Equal_MacRow_L0_lk (v : g_Equal_MacRow_L0_sh.T) (next : St → Option Res) (k : Ex → St → Option Res) : evalK te (orcOf (P := Try.prog) []) (lorcOf []) Try.f176.ntmps g_Equal_MacRow_ann (nthLoop (bodyOf Try.f176) 0 0) 0 (g_Equal_MacRow_L0_sh.enc v) (endK ⟨[0, 1, 12, 13], [], false, 0⟩ ⟨[4], [], false, 0⟩ next k) =
  g_Equal_MacRow_L0_r.B v _ none (fun v' => next (g_Equal_MacRow_L0_sh.enc v')) (fun w => outK g_Equal_MacRow_L0_es k w) := by kernel_rfl
def g_Equal_MacRow_L0_le : LE := leOf 0 g_Equal_MacRow_L0_sh g_Equal_MacRow_L0_es g_Equal_MacRow_L0_r.step (fun v => g_Equal_MacRow_L0_fu v.1.1.1 v.1.2.1.1 v.1.2.2.1.1 v.1.2.2.2.1.1)
theorem g_Equal_MacRow_L0_ls (w0 : World) (mo : Mts) (I0 : Nat → Prop) (hmo : mo.length = 0) : LSem Try.prog (Sim w0 mo Try.f176.ntmps I0) (fun b s k => match Nat.beq 0 b with | true => g_Equal_MacRow_L0_le.run s k | false => none) 0 (nthLoop (bodyOf Try.f176) 0 0) :=
  le_sem hmo (lorc := lorcOf []) (ann := g_Equal_MacRow_ann) (keep := ⟨[0, 1, 12, 13], [], false, 0⟩) (kout := ⟨[4], [], false, 0⟩) teFact mixFact (orcOf_ok _) (by kernel_rfl) (allLoops_of (bs := []) (by kernel_rfl) trivial) g_Equal_MacRow_L0_r _ g_Equal_MacRow_L0_lk
def g_Equal_MacRow_L0_f (v0 : List MacRow) (v1 : List MacRow) (v2 : Int) (v3 : Int) (a : Unit) : Stp (Unit) ((Unit)) :=
  bif (!(((v0.getD v3.toNat (Ty.zero .macRow)).input == (v1.getD v3.toNat (Ty.zero .macRow)).input) && (((v0.getD v3.toNat (Ty.zero .macRow)).value == (v1.getD v3.toNat (Ty.zero .macRow)).value) && true))) then
    .out (())
  else
  .next ()
theorem g_Equal_MacRow_L0_st (v0 : List MacRow) (v1 : List MacRow) (v2 : Int) (v3 : Int) (hlo : 0 ≤ v3) (hhi : v3 < v2) (hN : v2 ≤ 4611686018427387904) (hi0 : v2 ≤ (v0.length : Int)) (hi1 : v2 ≤ (v1.length : Int)) : g_Equal_MacRow_L0_r.step (g_Equal_MacRow_L0_mk v0 v1 v2 v3) = Stp.elim (fun a' : Unit => some (Sum.inl (g_Equal_MacRow_L0_mk v0 v1 v2 (v3 + 1)))) (fun w => some (Sum.inr ((fun p : Unit => Sum.inl (g_Equal_MacRow_L0_mx0 false)) w))) (g_Equal_MacRow_L0_f v0 v1 v2 v3 ()) := by
  have hw : (IntKind.wrap .i64 (v3 + 1)) = v3 + 1 := wrap64 (by omega) (by omega)
  show g_Equal_MacRow_L0_B v0 v1 v2 v3 (Option (g_Equal_MacRow_L0_sh.T ⊕ WT g_Equal_MacRow_L0_es)) none (fun v' => some (Sum.inl v')) (fun w => some (Sum.inr w)) = _
  unfold g_Equal_MacRow_L0_B g_Equal_MacRow_L0_f
  exact bifG (by simp only [decide_eq_true_eq]; omega) (bifG (by (try simp only [Nat.ble_eq, Bool.and_eq_true, decide_eq_true_eq]); grind [maxSl, maxStr, toBytes_length, toInts_length, List.length_set, wrap64]) (bifG (by (try simp only [Nat.ble_eq, Bool.and_eq_true, decide_eq_true_eq]); grind [maxSl, maxStr, toBytes_length, toInts_length, List.length_set, wrap64]) (bifT (f := (Stp.elim (fun a' : Unit => some (Sum.inl (g_Equal_MacRow_L0_mk v0 v1 v2 (v3 + 1)))) (fun w => some (Sum.inr ((fun p : Unit => Sum.inl (g_Equal_MacRow_L0_mx0 false)) w))))) (fun b0 => rfl)
      (fun b0 => (by exact congrArg (fun z => some (Sum.inl (g_Equal_MacRow_L0_mk v0 v1 v2 z))) hw)))))
theorem g_Equal_MacRow_L0_cl (v0 : List MacRow) (v1 : List MacRow) (v2 : Int) (v3 : Int) (h0 : 0 ≤ v3) (h1 : v2 ≤ 4611686018427387904) (h2 : v2 ≤ (v0.length : Int)) (h3 : v2 ≤ (v1.length : Int)) : loopF g_Equal_MacRow_L0_r.step (g_Equal_MacRow_L0_fu v0 v1 v2 v3) (g_Equal_MacRow_L0_mk v0 v1 v2 v3) = some (Stp.elim (fun a => (fun i a => Sum.inr (g_Equal_MacRow_L0_mx1 )) (v3 + 1 * (((Int.toNat (v2 - v3)) : Nat) : Int)) a) (fun p : Unit => Sum.inl (g_Equal_MacRow_L0_mx0 false)) (forN (g_Equal_MacRow_L0_f v0 v1 v2) 1 (Int.toNat (v2 - v3)) v3 ())) :=
  forN_loop (step := g_Equal_MacRow_L0_r.step) (mk := fun v3 a => g_Equal_MacRow_L0_mk v0 v1 v2 v3) (f := g_Equal_MacRow_L0_f v0 v1 v2) (e := (fun i a => Sum.inr (g_Equal_MacRow_L0_mx1 ))) (emb := (fun p : Unit => Sum.inl (g_Equal_MacRow_L0_mx0 false))) (st := 1) (Inv := fun v3 a => True) (Int.toNat (v2 - v3)) v3 () _ (Nat.lt_succ_self _) trivial
    (fun j a hj hv => ⟨g_Equal_MacRow_L0_st v0 v1 v2 (v3 + 1 * (j : Int)) (by omega) (by omega) (by omega) h2 h3, fun _ _ => trivial⟩)
    (fun a hv => by
      show g_Equal_MacRow_L0_B v0 v1 v2 (v3 + 1 * (((Int.toNat (v2 - v3)) : Nat) : Int)) (Option (g_Equal_MacRow_L0_sh.T ⊕ WT g_Equal_MacRow_L0_es)) none (fun v' => some (Sum.inl v')) (fun w => some (Sum.inr w)) = _
      unfold g_Equal_MacRow_L0_B
      exact bifN (by simp only [decide_eq_false_iff_not]; omega) rfl)
def g_Equal_MacRow_N (x0 : List MacRow) (x1 : List MacRow) (γ : Type) (fail : γ) (k : Bool → γ) : γ :=
  bif ((x0.length : Int) != (x1.length : Int)) then
    k false
  else
  optK (loopF g_Equal_MacRow_L0_r.step (g_Equal_MacRow_L0_fu x0 x1 (x0.length : Int) 0) (g_Equal_MacRow_L0_mk x0 x1 (x0.length : Int) 0)) fail fun w1 =>
    Sum.elim (fun w1 =>
      k w1.1.1.1)
    (fun w1 =>
      k true) w1
def g_Equal_MacRow (x0 : List MacRow) (x1 : List MacRow) : Bool :=
  bif ((x0.length : Int) != (x1.length : Int)) then
    false
  else
  Stp.elim (fun a2 =>
    true)
    (fun p2 =>
      false)
    (forN (g_Equal_MacRow_L0_f x0 x1 (x0.length : Int)) 1 (Int.toNat ((x0.length : Int) - 0)) 0 ())
theorem g_Equal_MacRow_lk (x0 : List MacRow) (x1 : List MacRow) : evalFn te (orcOf (P := Try.prog) []) (lorcOf [g_Equal_MacRow_L0_le]) g_Equal_MacRow_ann Try.f176 (pvs [.sc (.sl .macRow), .sc (.sl .macRow)] (x0, x1, ())) =
  g_Equal_MacRow_N x0 x1 _ none (fun v => some [(false, [RC.c (.bool v)])]) := by kernel_rfl
theorem g_Equal_MacRow_p (x0 : List MacRow) (x1 : List MacRow) (hx0 : x0.length ≤ 140737488355328) (hx0_e : ∀ y ∈ x0, ∀ c ∈ Ty.cells .macRow y, FactC c) (hx1 : x1.length ≤ 140737488355328) (hx1_e : ∀ y ∈ x1, ∀ c ∈ Ty.cells .macRow y, FactC c)  (γ : Type) (fail : γ) (k : Bool → γ) : g_Equal_MacRow_N x0 x1 γ fail k = k (g_Equal_MacRow x0 x1) := by
  unfold g_Equal_MacRow_N g_Equal_MacRow
  exact bifT (f := k) (fun b0 => rfl)
      (fun b0 => loopT (f := k) (g_Equal_MacRow_L0_cl x0 x1 (x0.length : Int) 0 (by (try simp only [Nat.ble_eq, Bool.and_eq_true, decide_eq_true_eq, g_Equal_MacRow_L0_mx0, g_Equal_MacRow_L0_mx1]); grind [maxSl, maxStr, toBytes_length, toInts_length, List.length_set, wrap64]) (by (try simp only [Nat.ble_eq, Bool.and_eq_true, decide_eq_true_eq, g_Equal_MacRow_L0_mx0, g_Equal_MacRow_L0_mx1]); grind [maxSl, maxStr, toBytes_length, toInts_length, List.length_set, wrap64]) (by (try simp only [Nat.ble_eq, Bool.and_eq_true, decide_eq_true_eq, g_Equal_MacRow_L0_mx0, g_Equal_MacRow_L0_mx1]); grind [maxSl, maxStr, toBytes_length, toInts_length, List.length_set, wrap64]) (by (try simp only [Nat.ble_eq, Bool.and_eq_true, decide_eq_true_eq, g_Equal_MacRow_L0_mx0, g_Equal_MacRow_L0_mx1]); grind [maxSl, maxStr, toBytes_length, toInts_length, List.length_set, wrap64])) (fun a2 => rfl)
      (fun p2 => rfl))
theorem g_Equal_MacRow_c (x0 : List MacRow) (x1 : List MacRow)  : Con Try.prog 176 (pvs [.sc (.sl .macRow), .sc (.sl .macRow)] (x0, x1, ())) [rv (.sc .bool) [] (g_Equal_MacRow x0 x1)] := by
  refine Con.of_facts (enters_of Try.func176 rfl (by kernel_rfl)) fun hf => ?_
  replace hf := factAt hf
  exact evalFn_conL teFact mixFact (orcOf_ok _) Try.func176 (by kernel_rfl) (bs := [0]) (by kernel_rfl) (by kernel_rfl) (fun w0 mo I0 hmo => ⟨lsem_of_lorc (g_Equal_MacRow_L0_ls w0 mo I0 hmo) (by kernel_rfl), trivial⟩) ((g_Equal_MacRow_lk x0 x1).trans (g_Equal_MacRow_p x0 x1 ((hf 0 0 rfl rfl).len) (fun y hy => (hf 0 0 rfl rfl).elem hy) ((hf 1 0 rfl rfl).len) (fun y hy => (hf 1 0 rfl rfl).elem hy) _ _ _))
noncomputable def g_Equal_MacRow_e : Ent1 Try.prog := entA 176 [.sc (.sl .macRow), .sc (.sl .macRow)] (fun x => (g_Equal_MacRow x.1 x.2.1)) (fun v => [rv (.sc .bool) [] v]) (fun x => g_Equal_MacRow_c x.1 x.2.1)


/-- laws.szMacRow -/
def w_szMacRow_N (x0 : MacRow) (x1 : Int) (γ : Type) (fail : γ) (k : Int → γ) : γ :=
  bif (decide ((IntKind.wrap .i64 (x1 - (x0.input.length : Int))) < 0)) then
    k (-1)
  else
  k (IntKind.wrap .i64 (x1 - (x0.input.length : Int)))
def w_szMacRow (x0 : MacRow) (x1 : Int) : Int :=
  bif (decide ((IntKind.wrap .i64 (x1 - (x0.input.length : Int))) < 0)) then
    (-1)
  else
  (IntKind.wrap .i64 (x1 - (x0.input.length : Int)))
theorem w_szMacRow_lk (x0 : MacRow) (x1 : Int) : evalFn te (orcOf (P := Try.prog) []) lorc0 [] Try.f181 (pvs [.st .macRow, .sc (.int .i64)] (x0, x1, ())) =
  w_szMacRow_N x0 x1 _ none (fun v => some [(false, [RC.c (.int .i64 v)])]) := by kernel_rfl
theorem w_szMacRow_p (x0 : MacRow) (x1 : Int)   (γ : Type) (fail : γ) (k : Int → γ) : w_szMacRow_N x0 x1 γ fail k = k (w_szMacRow x0 x1) := by
  unfold w_szMacRow_N w_szMacRow
  exact bifT (f := k) (fun b0 => rfl)
      (fun b0 => rfl)
theorem w_szMacRow_c (x0 : MacRow) (x1 : Int)  : Con Try.prog 181 (pvs [.st .macRow, .sc (.int .i64)] (x0, x1, ())) [rv (.sc (.int .i64)) [] (w_szMacRow x0 x1)] := by
  exact evalFn_con0 teFact mixFact (orcOf_ok _) Try.func181 (by kernel_rfl) ((w_szMacRow_lk x0 x1).trans (w_szMacRow_p x0 x1  _ _ _))
noncomputable def w_szMacRow_e : Ent1 Try.prog := entA 181 [.st .macRow, .sc (.int .i64)] (fun x => (w_szMacRow x.1 x.2.1)) (fun v => [rv (.sc (.int .i64)) [] v]) (fun x => w_szMacRow_c x.1 x.2.1)

theorem w_szMacRow_sm (x0 : MacRow) (x1 : Int)  (hn : 0 ≤ x1 ∧ x1 ≤ 1048576) (hx0_input : List.length x0.input ≤ 4611686018427387904) : (fun v : Int => 0 ≤ v → v ≤ 1048576 ∧ List.length x0.input ≤ 1048576) (w_szMacRow x0 x1) := by
  unfold w_szMacRow
  exact bifP (P := (fun v : Int => 0 ≤ v → v ≤ 1048576 ∧ List.length x0.input ≤ 1048576)) (fun b0 => (by (try simp only [Nat.ble_eq, Bool.and_eq_true, decide_eq_true_eq]); grind [maxSl, maxStr, toBytes_length, toInts_length, List.length_set, wrap64]))
      (fun b0 => (by (try simp only [Nat.ble_eq, Bool.and_eq_true, decide_eq_true_eq]); grind [maxSl, maxStr, toBytes_length, toInts_length, List.length_set, wrap64]))

/-- laws.szSender -/
def w_szSender_N (x0 : Sndr) (x1 : Int) (γ : Type) (fail : γ) (k : Int → γ) : γ :=
  bif (decide ((IntKind.wrap .i64 (x1 - (x0.data.length : Int))) < 0)) then
    k (-1)
  else
  k (IntKind.wrap .i64 (x1 - (x0.data.length : Int)))
def w_szSender (x0 : Sndr) (x1 : Int) : Int :=
  bif (decide ((IntKind.wrap .i64 (x1 - (x0.data.length : Int))) < 0)) then
    (-1)
  else
  (IntKind.wrap .i64 (x1 - (x0.data.length : Int)))
theorem w_szSender_lk (x0 : Sndr) (x1 : Int) : evalFn te (orcOf (P := Try.prog) []) lorc0 [] Try.f182 (pvs [.st .sndr, .sc (.int .i64)] (x0, x1, ())) =
  w_szSender_N x0 x1 _ none (fun v => some [(false, [RC.c (.int .i64 v)])]) := by kernel_rfl
theorem w_szSender_p (x0 : Sndr) (x1 : Int)   (γ : Type) (fail : γ) (k : Int → γ) : w_szSender_N x0 x1 γ fail k = k (w_szSender x0 x1) := by
  unfold w_szSender_N w_szSender
  exact bifT (f := k) (fun b0 => rfl)
      (fun b0 => rfl)
theorem w_szSender_c (x0 : Sndr) (x1 : Int)  : Con Try.prog 182 (pvs [.st .sndr, .sc (.int .i64)] (x0, x1, ())) [rv (.sc (.int .i64)) [] (w_szSender x0 x1)] := by
  exact evalFn_con0 teFact mixFact (orcOf_ok _) Try.func182 (by kernel_rfl) ((w_szSender_lk x0 x1).trans (w_szSender_p x0 x1  _ _ _))
noncomputable def w_szSender_e : Ent1 Try.prog := entA 182 [.st .sndr, .sc (.int .i64)] (fun x => (w_szSender x.1 x.2.1)) (fun v => [rv (.sc (.int .i64)) [] v]) (fun x => w_szSender_c x.1 x.2.1)

theorem w_szSender_sm (x0 : Sndr) (x1 : Int)  (hn : 0 ≤ x1 ∧ x1 ≤ 1048576) (hx0_data : List.length x0.data ≤ 4611686018427387904) : (fun v : Int => 0 ≤ v → v ≤ 1048576 ∧ List.length x0.data ≤ 1048576) (w_szSender x0 x1) := by
  unfold w_szSender
  exact bifP (P := (fun v : Int => 0 ≤ v → v ≤ 1048576 ∧ List.length x0.data ≤ 1048576)) (fun b0 => (by (try simp only [Nat.ble_eq, Bool.and_eq_true, decide_eq_true_eq]); grind [maxSl, maxStr, toBytes_length, toInts_length, List.length_set, wrap64]))
      (fun b0 => (by (try simp only [Nat.ble_eq, Bool.and_eq_true, decide_eq_true_eq]); grind [maxSl, maxStr, toBytes_length, toInts_length, List.length_set, wrap64]))

/-- laws.toMacRow -/
def w_toMacRow_N (x0 : MacRow) (γ : Type) (fail : γ) (k : MacRow → γ) : γ :=
  k x0
def w_toMacRow (x0 : MacRow) : MacRow :=
  x0
theorem w_toMacRow_lk (x0 : MacRow) : evalFn te (orcOf (P := Try.prog) []) lorc0 [] Try.f184 (pvs [.st .macRow] (x0, ())) =
  w_toMacRow_N x0 _ none (fun v => some [(true, [RC.c (.str v.input), RC.c (.int .i64 v.value)])]) := by kernel_rfl
theorem w_toMacRow_p (x0 : MacRow)   (γ : Type) (fail : γ) (k : MacRow → γ) : w_toMacRow_N x0 γ fail k = k (w_toMacRow x0) := by
  unfold w_toMacRow_N w_toMacRow
  exact rfl
theorem w_toMacRow_c (x0 : MacRow)  : Con Try.prog 184 (pvs [.st .macRow] (x0, ())) [rv (.st .macRow) [] (w_toMacRow x0)] := by
  exact evalFn_con0 teFact mixFact (orcOf_ok _) Try.func184 (by kernel_rfl) ((w_toMacRow_lk x0).trans (w_toMacRow_p x0  _ _ _))
noncomputable def w_toMacRow_e : Ent1 Try.prog := entA 184 [.st .macRow] (fun x => (w_toMacRow x.1)) (fun v => [rv (.st .macRow) [] v]) (fun x => w_toMacRow_c x.1)


/-- laws.toSender -/
def w_toSender_N (x0 : Sndr) (γ : Type) (fail : γ) (k : Sndr → γ) : γ :=
  k x0
def w_toSender (x0 : Sndr) : Sndr :=
  x0
theorem w_toSender_lk (x0 : Sndr) : evalFn te (orcOf (P := Try.prog) []) lorc0 [] Try.f185 (pvs [.st .sndr] (x0, ())) =
  w_toSender_N x0 _ none (fun v => some [(true, [RC.c (.int .i64 v.una), RC.c (.str v.data), RC.c (.int .i64 v.sent), RC.c (.bool v.fin), RC.c (.bool v.finSent), RC.c (.bool v.done)])]) := by kernel_rfl
theorem w_toSender_p (x0 : Sndr)   (γ : Type) (fail : γ) (k : Sndr → γ) : w_toSender_N x0 γ fail k = k (w_toSender x0) := by
  unfold w_toSender_N w_toSender
  exact rfl
theorem w_toSender_c (x0 : Sndr)  : Con Try.prog 185 (pvs [.st .sndr] (x0, ())) [rv (.st .sndr) [] (w_toSender x0)] := by
  exact evalFn_con0 teFact mixFact (orcOf_ok _) Try.func185 (by kernel_rfl) ((w_toSender_lk x0).trans (w_toSender_p x0  _ _ _))
noncomputable def w_toSender_e : Ent1 Try.prog := entA 185 [.st .sndr] (fun x => (w_toSender x.1)) (fun v => [rv (.st .sndr) [] v]) (fun x => w_toSender_c x.1)


/-- laws.eqMacRow -/
def w_eqMacRow_N (x0 : MacRow) (x1 : MacRow) (γ : Type) (fail : γ) (k : Bool → γ) : γ :=
  bif (!(x0.input == x1.input)) then
    k false
  else
  bif (x0.value != x1.value) then
    k false
  else
  k true
def w_eqMacRow (x0 : MacRow) (x1 : MacRow) : Bool :=
  bif (!(x0.input == x1.input)) then
    false
  else
  bif (x0.value != x1.value) then
    false
  else
  true
theorem w_eqMacRow_lk (x0 : MacRow) (x1 : MacRow) : evalFn te (orcOf (P := Try.prog) []) lorc0 [] Try.f187 (pvs [.st .macRow, .st .macRow] (x0, x1, ())) =
  w_eqMacRow_N x0 x1 _ none (fun v => some [(false, [RC.c (.bool v)])]) := by kernel_rfl
theorem w_eqMacRow_p (x0 : MacRow) (x1 : MacRow)   (γ : Type) (fail : γ) (k : Bool → γ) : w_eqMacRow_N x0 x1 γ fail k = k (w_eqMacRow x0 x1) := by
  unfold w_eqMacRow_N w_eqMacRow
  exact bifT (f := k) (fun b0 => rfl)
      (fun b0 => bifT (f := k) (fun b1 => rfl)
      (fun b1 => rfl))
theorem w_eqMacRow_c (x0 : MacRow) (x1 : MacRow)  : Con Try.prog 187 (pvs [.st .macRow, .st .macRow] (x0, x1, ())) [rv (.sc .bool) [] (w_eqMacRow x0 x1)] := by
  exact evalFn_con0 teFact mixFact (orcOf_ok _) Try.func187 (by kernel_rfl) ((w_eqMacRow_lk x0 x1).trans (w_eqMacRow_p x0 x1  _ _ _))
noncomputable def w_eqMacRow_e : Ent1 Try.prog := entA 187 [.st .macRow, .st .macRow] (fun x => (w_eqMacRow x.1 x.2.1)) (fun v => [rv (.sc .bool) [] v]) (fun x => w_eqMacRow_c x.1 x.2.1)


/-- laws.eqSender -/
def w_eqSender_N (x0 : Sndr) (x1 : Sndr) (γ : Type) (fail : γ) (k : Bool → γ) : γ :=
  bif (x0.una != x1.una) then
    k false
  else
  bif (!(x0.data == x1.data)) then
    k false
  else
  bif (x0.sent != x1.sent) then
    k false
  else
  bif (!(x0.fin == x1.fin)) then
    k false
  else
  bif (!(x0.finSent == x1.finSent)) then
    k false
  else
  bif (!(x0.done == x1.done)) then
    k false
  else
  k true
def w_eqSender (x0 : Sndr) (x1 : Sndr) : Bool :=
  bif (x0.una != x1.una) then
    false
  else
  bif (!(x0.data == x1.data)) then
    false
  else
  bif (x0.sent != x1.sent) then
    false
  else
  bif (!(x0.fin == x1.fin)) then
    false
  else
  bif (!(x0.finSent == x1.finSent)) then
    false
  else
  bif (!(x0.done == x1.done)) then
    false
  else
  true
theorem w_eqSender_lk (x0 : Sndr) (x1 : Sndr) : evalFn te (orcOf (P := Try.prog) []) lorc0 [] Try.f188 (pvs [.st .sndr, .st .sndr] (x0, x1, ())) =
  w_eqSender_N x0 x1 _ none (fun v => some [(false, [RC.c (.bool v)])]) := by kernel_rfl
theorem w_eqSender_p (x0 : Sndr) (x1 : Sndr)   (γ : Type) (fail : γ) (k : Bool → γ) : w_eqSender_N x0 x1 γ fail k = k (w_eqSender x0 x1) := by
  unfold w_eqSender_N w_eqSender
  exact bifT (f := k) (fun b0 => rfl)
      (fun b0 => bifT (f := k) (fun b1 => rfl)
      (fun b1 => bifT (f := k) (fun b2 => rfl)
      (fun b2 => bifT (f := k) (fun b3 => rfl)
      (fun b3 => bifT (f := k) (fun b4 => rfl)
      (fun b4 => bifT (f := k) (fun b5 => rfl)
      (fun b5 => rfl))))))
theorem w_eqSender_c (x0 : Sndr) (x1 : Sndr)  : Con Try.prog 188 (pvs [.st .sndr, .st .sndr] (x0, x1, ())) [rv (.sc .bool) [] (w_eqSender x0 x1)] := by
  exact evalFn_con0 teFact mixFact (orcOf_ok _) Try.func188 (by kernel_rfl) ((w_eqSender_lk x0 x1).trans (w_eqSender_p x0 x1  _ _ _))
noncomputable def w_eqSender_e : Ent1 Try.prog := entA 188 [.st .sndr, .st .sndr] (fun x => (w_eqSender x.1 x.2.1)) (fun v => [rv (.sc .bool) [] v]) (fun x => w_eqSender_c x.1 x.2.1)


/-- spec.SameReceiver -/
def s_SameReceiver_ann : List (Nat × Keep) := [(0, ⟨[2, 3, 5], [], false, 0⟩)]
def s_SameReceiver_L0_sh : Sh := ⟨[(2, false, [.ptr 0 0]), (3, false, [.ptr 1 0]), (5, false, [.int .i64])], [.box [.int .i64, .str, .sl .arg .piec, .int .i64, .bool], .box [.int .i64, .str, .sl .arg .piec, .int .i64, .bool]]⟩
def s_SameReceiver_L0_es : List (Ex × Sh) := [(.ret, ⟨[(4, false, [.bool])], []⟩), (.exit 0, ⟨[(4, false, [.undef])], []⟩)]
def s_SameReceiver_L0_mk (v0 : Int) (v1 : Int) (v2 : Bytes) (v3 : List Piec) (v4 : Int) (v5 : Bool) (v6 : Int) (v7 : Bytes) (v8 : List Piec) (v9 : Int) (v10 : Bool) : s_SameReceiver_L0_sh.T := ((((), ()), (((), ()), ((v0, ()), ()))), ((v1, (v2, (v3, (v4, (v5, ()))))), ((v6, (v7, (v8, (v9, (v10, ()))))), ())))
def s_SameReceiver_L0_mx0 (y0 : Bool) : Sh.T ⟨[(4, false, [.bool])], []⟩ := (((y0, ()), ()), ())
def s_SameReceiver_L0_mx1  : Sh.T ⟨[(4, false, [.undef])], []⟩ := ((((), ()), ()), ())
def s_SameReceiver_L0_B (v0 : Int) (v1 : Int) (v2 : Bytes) (v3 : List Piec) (v4 : Int) (v5 : Bool) (v6 : Int) (v7 : Bytes) (v8 : List Piec) (v9 : Int) (v10 : Bool) (γ : Type) (fail : γ) (next : s_SameReceiver_L0_sh.T → γ) (out : WT s_SameReceiver_L0_es → γ) : γ :=
  bif (decide (v0 < (v3.length : Int))) then
    bif ((decide (0 ≤ v0)) && (decide (v0 < (v3.length : Int)))) then
    bif ((decide (0 ≤ v0)) && (decide (v0 < (v8.length : Int)))) then
    bif (!(((v3.getD v0.toNat (Ty.zero .piec)).off == (v8.getD v0.toNat (Ty.zero .piec)).off) && (((v3.getD v0.toNat (Ty.zero .piec)).text == (v8.getD v0.toNat (Ty.zero .piec)).text) && true))) then
      out (Sum.inl (s_SameReceiver_L0_mx0 false))
    else
    next (s_SameReceiver_L0_mk (IntKind.wrap .i64 (v0 + 1)) v1 v2 v3 v4 v5 v6 v7 v8 v9 v10)
    else fail
    else fail
  else
  out (Sum.inr (s_SameReceiver_L0_mx1 ))
theorem s_SameReceiver_L0_par (v0 : Int) (v1 : Int) (v2 : Bytes) (v3 : List Piec) (v4 : Int) (v5 : Bool) (v6 : Int) (v7 : Bytes) (v8 : List Piec) (v9 : Int) (v10 : Bool) (γ : Type) (fail : γ) (next : s_SameReceiver_L0_sh.T → γ) (out : WT s_SameReceiver_L0_es → γ) : s_SameReceiver_L0_B v0 v1 v2 v3 v4 v5 v6 v7 v8 v9 v10 γ fail next out = optK (s_SameReceiver_L0_B v0 v1 v2 v3 v4 v5 v6 v7 v8 v9 v10 _ none (fun v' => some (.inl v')) (fun w => some (.inr w))) fail (fun r => Sum.elim next out r) := by
  unfold s_SameReceiver_L0_B
  exact bifT (f := (fun o => optK o fail (fun r => Sum.elim next out r))) (fun _ => bifT (f := (fun o => optK o fail (fun r => Sum.elim next out r))) (fun _ => bifT (f := (fun o => optK o fail (fun r => Sum.elim next out r))) (fun _ => bifT (f := (fun o => optK o fail (fun r => Sum.elim next out r))) (fun _ => rfl)
      (fun _ => rfl)) (fun _ => rfl)) (fun _ => rfl))
      (fun _ => rfl)
def s_SameReceiver_L0_r : Round s_SameReceiver_L0_sh.T (WT s_SameReceiver_L0_es) where
  B v γ fail next out := s_SameReceiver_L0_B v.1.2.2.1.1 v.2.1.1 v.2.1.2.1 v.2.1.2.2.1 v.2.1.2.2.2.1 v.2.1.2.2.2.2.1 v.2.2.1.1 v.2.2.1.2.1 v.2.2.1.2.2.1 v.2.2.1.2.2.2.1 v.2.2.1.2.2.2.2.1 γ fail next out
  par v γ fail next out := s_SameReceiver_L0_par v.1.2.2.1.1 v.2.1.1 v.2.1.2.1 v.2.1.2.2.1 v.2.1.2.2.2.1 v.2.1.2.2.2.2.1 v.2.2.1.1 v.2.2.1.2.1 v.2.2.1.2.2.1 v.2.2.1.2.2.2.1 v.2.2.1.2.2.2.2.1 γ fail next out
def s_SameReceiver_L0_fu (v0 : Int) (v1 : Int) (v2 : Bytes) (v3 : List Piec) (v4 : Int) (v5 : Bool) (v6 : Int) (v7 : Bytes) (v8 : List Piec) (v9 : Int) (v10 : Bool) : Nat := (Int.toNat ((v3.length : Int) - v0)) + 1
theorem s_SameReceiver_L0_lk (v : s_SameReceiver_L0_sh.T) (next : St → Option Res) (k : Ex → St → Option Res) : evalK te (orcOf (P := Try.prog) []) (lorcOf []) Try.f190.ntmps s_SameReceiver_ann (nthLoop (bodyOf Try.f190) 0 0) 0 (s_SameReceiver_L0_sh.enc v) (endK ⟨[2, 3, 5], [], false, 0⟩ ⟨[4], [], false, 0⟩ next k) =
  s_SameReceiver_L0_r.B v _ none (fun v' => next (s_SameReceiver_L0_sh.enc v')) (fun w => outK s_SameReceiver_L0_es k w) := by kernel_rfl
def s_SameReceiver_L0_le : LE := leOf 0 s_SameReceiver_L0_sh s_SameReceiver_L0_es s_SameReceiver_L0_r.step (fun v => s_SameReceiver_L0_fu v.1.2.2.1.1 v.2.1.1 v.2.1.2.1 v.2.1.2.2.1 v.2.1.2.2.2.1 v.2.1.2.2.2.2.1 v.2.2.1.1 v.2.2.1.2.1 v.2.2.1.2.2.1 v.2.2.1.2.2.2.1 v.2.2.1.2.2.2.2.1)
theorem s_SameReceiver_L0_ls (w0 : World) (mo : Mts) (I0 : Nat → Prop) (hmo : mo.length = 0) : LSem Try.prog (Sim w0 mo Try.f190.ntmps I0) (fun b s k => match Nat.beq 0 b with | true => s_SameReceiver_L0_le.run s k | false => none) 0 (nthLoop (bodyOf Try.f190) 0 0) :=
  le_sem hmo (lorc := lorcOf []) (ann := s_SameReceiver_ann) (keep := ⟨[2, 3, 5], [], false, 0⟩) (kout := ⟨[4], [], false, 0⟩) teFact mixFact (orcOf_ok _) (by kernel_rfl) (allLoops_of (bs := []) (by kernel_rfl) trivial) s_SameReceiver_L0_r _ s_SameReceiver_L0_lk
def s_SameReceiver_L0_f (v1 : Int) (v2 : Bytes) (v3 : List Piec) (v4 : Int) (v5 : Bool) (v6 : Int) (v7 : Bytes) (v8 : List Piec) (v9 : Int) (v10 : Bool) (v0 : Int) (a : Unit) : Stp (Unit) ((Unit)) :=
  bif (!(((v3.getD v0.toNat (Ty.zero .piec)).off == (v8.getD v0.toNat (Ty.zero .piec)).off) && (((v3.getD v0.toNat (Ty.zero .piec)).text == (v8.getD v0.toNat (Ty.zero .piec)).text) && true))) then
    .out (())
  else
  .next ()
theorem s_SameReceiver_L0_st (v0 : Int) (v1 : Int) (v2 : Bytes) (v3 : List Piec) (v4 : Int) (v5 : Bool) (v6 : Int) (v7 : Bytes) (v8 : List Piec) (v9 : Int) (v10 : Bool) (hlo : 0 ≤ v0) (hhi : v0 < (v3.length : Int)) (hN : (v3.length : Int) ≤ 4611686018427387904) (hi0 : (v3.length : Int) ≤ (v8.length : Int)) : s_SameReceiver_L0_r.step (s_SameReceiver_L0_mk v0 v1 v2 v3 v4 v5 v6 v7 v8 v9 v10) = Stp.elim (fun a' : Unit => some (Sum.inl (s_SameReceiver_L0_mk (v0 + 1) v1 v2 v3 v4 v5 v6 v7 v8 v9 v10))) (fun w => some (Sum.inr ((fun p : Unit => Sum.inl (s_SameReceiver_L0_mx0 false)) w))) (s_SameReceiver_L0_f v1 v2 v3 v4 v5 v6 v7 v8 v9 v10 v0 ()) := by
  have hw : (IntKind.wrap .i64 (v0 + 1)) = v0 + 1 := wrap64 (by omega) (by omega)
  show s_SameReceiver_L0_B v0 v1 v2 v3 v4 v5 v6 v7 v8 v9 v10 (Option (s_SameReceiver_L0_sh.T ⊕ WT s_SameReceiver_L0_es)) none (fun v' => some (Sum.inl v')) (fun w => some (Sum.inr w)) = _
  unfold s_SameReceiver_L0_B s_SameReceiver_L0_f
  exact bifG (by simp only [decide_eq_true_eq]; omega) (bifG (by (try simp only [Nat.ble_eq, Bool.and_eq_true, decide_eq_true_eq]); grind [maxSl, maxStr, toBytes_length, toInts_length, List.length_set, wrap64]) (bifG (by (try simp only [Nat.ble_eq, Bool.and_eq_true, decide_eq_true_eq]); grind [maxSl, maxStr, toBytes_length, toInts_length, List.length_set, wrap64]) (bifT (f := (Stp.elim (fun a' : Unit => some (Sum.inl (s_SameReceiver_L0_mk (v0 + 1) v1 v2 v3 v4 v5 v6 v7 v8 v9 v10))) (fun w => some (Sum.inr ((fun p : Unit => Sum.inl (s_SameReceiver_L0_mx0 false)) w))))) (fun b0 => rfl)
      (fun b0 => (by exact congrArg (fun z => some (Sum.inl (s_SameReceiver_L0_mk z v1 v2 v3 v4 v5 v6 v7 v8 v9 v10))) hw)))))
theorem s_SameReceiver_L0_cl (v0 : Int) (v1 : Int) (v2 : Bytes) (v3 : List Piec) (v4 : Int) (v5 : Bool) (v6 : Int) (v7 : Bytes) (v8 : List Piec) (v9 : Int) (v10 : Bool) (h0 : 0 ≤ v0) (h1 : (v3.length : Int) ≤ 4611686018427387904) (h2 : (v3.length : Int) ≤ (v8.length : Int)) : loopF s_SameReceiver_L0_r.step (s_SameReceiver_L0_fu v0 v1 v2 v3 v4 v5 v6 v7 v8 v9 v10) (s_SameReceiver_L0_mk v0 v1 v2 v3 v4 v5 v6 v7 v8 v9 v10) = some (Stp.elim (fun a => (fun i a => Sum.inr (s_SameReceiver_L0_mx1 )) (v0 + 1 * (((Int.toNat ((v3.length : Int) - v0)) : Nat) : Int)) a) (fun p : Unit => Sum.inl (s_SameReceiver_L0_mx0 false)) (forN (s_SameReceiver_L0_f v1 v2 v3 v4 v5 v6 v7 v8 v9 v10) 1 (Int.toNat ((v3.length : Int) - v0)) v0 ())) :=
  forN_loop (step := s_SameReceiver_L0_r.step) (mk := fun v0 a => s_SameReceiver_L0_mk v0 v1 v2 v3 v4 v5 v6 v7 v8 v9 v10) (f := s_SameReceiver_L0_f v1 v2 v3 v4 v5 v6 v7 v8 v9 v10) (e := (fun i a => Sum.inr (s_SameReceiver_L0_mx1 ))) (emb := (fun p : Unit => Sum.inl (s_SameReceiver_L0_mx0 false))) (st := 1) (Inv := fun v0 a => True) (Int.toNat ((v3.length : Int) - v0)) v0 () _ (Nat.lt_succ_self _) trivial
    (fun j a hj hv => ⟨s_SameReceiver_L0_st (v0 + 1 * (j : Int)) v1 v2 v3 v4 v5 v6 v7 v8 v9 v10 (by omega) (by omega) (by omega) h2, fun _ _ => trivial⟩)
    (fun a hv => by
      show s_SameReceiver_L0_B (v0 + 1 * (((Int.toNat ((v3.length : Int) - v0)) : Nat) : Int)) v1 v2 v3 v4 v5 v6 v7 v8 v9 v10 (Option (s_SameReceiver_L0_sh.T ⊕ WT s_SameReceiver_L0_es)) none (fun v' => some (Sum.inl v')) (fun w => some (Sum.inr w)) = _
      unfold s_SameReceiver_L0_B
      exact bifN (by simp only [decide_eq_false_iff_not]; omega) rfl)
def s_SameReceiver_N (x0 : Recv) (x1 : Recv) (γ : Type) (fail : γ) (k : Bool → γ) : γ :=
  bif (x0.next != x1.next) then
    k false
  else
  bif (!(x0.data == x1.data)) then
    k false
  else
  bif (x0.fin != x1.fin) then
    k false
  else
  bif (!(x0.done == x1.done)) then
    k false
  else
  bif ((x0.held.length : Int) != (x1.held.length : Int)) then
    k false
  else
  optK (loopF s_SameReceiver_L0_r.step (s_SameReceiver_L0_fu 0 x0.next x0.data x0.held x0.fin x0.done x1.next x1.data x1.held x1.fin x1.done) (s_SameReceiver_L0_mk 0 x0.next x0.data x0.held x0.fin x0.done x1.next x1.data x1.held x1.fin x1.done)) fail fun w1 =>
    Sum.elim (fun w1 =>
      k w1.1.1.1)
    (fun w1 =>
      k true) w1
def s_SameReceiver (x0 : Recv) (x1 : Recv) : Bool :=
  bif (x0.next != x1.next) then
    false
  else
  bif (!(x0.data == x1.data)) then
    false
  else
  bif (x0.fin != x1.fin) then
    false
  else
  bif (!(x0.done == x1.done)) then
    false
  else
  bif ((x0.held.length : Int) != (x1.held.length : Int)) then
    false
  else
  Stp.elim (fun a2 =>
    true)
    (fun p2 =>
      false)
    (forN (s_SameReceiver_L0_f x0.next x0.data x0.held x0.fin x0.done x1.next x1.data x1.held x1.fin x1.done) 1 (Int.toNat ((x0.held.length : Int) - 0)) 0 ())
theorem s_SameReceiver_lk (x0 : Recv) (x1 : Recv) : evalFn te (orcOf (P := Try.prog) []) (lorcOf [s_SameReceiver_L0_le]) s_SameReceiver_ann Try.f190 (pvs [.st .recv, .st .recv] (x0, x1, ())) =
  s_SameReceiver_N x0 x1 _ none (fun v => some [(false, [RC.c (.bool v)])]) := by kernel_rfl
theorem s_SameReceiver_p (x0 : Recv) (x1 : Recv) (hx0_next : inK .i64 x0.next) (hx0_data : List.length x0.data ≤ 4611686018427387904) (hx0_held : x0.held.length ≤ 140737488355328) (hx0_held_e : ∀ y ∈ x0.held, ∀ c ∈ Ty.cells .piec y, FactC c) (hx0_fin : inK .i64 x0.fin) (hx1_next : inK .i64 x1.next) (hx1_data : List.length x1.data ≤ 4611686018427387904) (hx1_held : x1.held.length ≤ 140737488355328) (hx1_held_e : ∀ y ∈ x1.held, ∀ c ∈ Ty.cells .piec y, FactC c) (hx1_fin : inK .i64 x1.fin)  (γ : Type) (fail : γ) (k : Bool → γ) : s_SameReceiver_N x0 x1 γ fail k = k (s_SameReceiver x0 x1) := by
  unfold s_SameReceiver_N s_SameReceiver
  exact bifT (f := k) (fun b0 => rfl)
      (fun b0 => bifT (f := k) (fun b1 => rfl)
      (fun b1 => bifT (f := k) (fun b2 => rfl)
      (fun b2 => bifT (f := k) (fun b3 => rfl)
      (fun b3 => bifT (f := k) (fun b4 => rfl)
      (fun b4 => loopT (f := k) (s_SameReceiver_L0_cl 0 x0.next x0.data x0.held x0.fin x0.done x1.next x1.data x1.held x1.fin x1.done (by (try simp only [Nat.ble_eq, Bool.and_eq_true, decide_eq_true_eq, s_SameReceiver_L0_mx0, s_SameReceiver_L0_mx1]); grind [maxSl, maxStr, toBytes_length, toInts_length, List.length_set, wrap64]) (by (try simp only [Nat.ble_eq, Bool.and_eq_true, decide_eq_true_eq, s_SameReceiver_L0_mx0, s_SameReceiver_L0_mx1]); grind [maxSl, maxStr, toBytes_length, toInts_length, List.length_set, wrap64]) (by (try simp only [Nat.ble_eq, Bool.and_eq_true, decide_eq_true_eq, s_SameReceiver_L0_mx0, s_SameReceiver_L0_mx1]); grind [maxSl, maxStr, toBytes_length, toInts_length, List.length_set, wrap64])) (fun a2 => rfl)
      (fun p2 => rfl))))))
theorem s_SameReceiver_c (x0 : Recv) (x1 : Recv)  : Con Try.prog 190 (pvs [.st .recv, .st .recv] (x0, x1, ())) [rv (.sc .bool) [] (s_SameReceiver x0 x1)] := by
  refine Con.of_facts (enters_of Try.func190 rfl (by kernel_rfl)) fun hf => ?_
  replace hf := factAt hf
  exact evalFn_conL teFact mixFact (orcOf_ok _) Try.func190 (by kernel_rfl) (bs := [0]) (by kernel_rfl) (by kernel_rfl) (fun w0 mo I0 hmo => ⟨lsem_of_lorc (s_SameReceiver_L0_ls w0 mo I0 hmo) (by kernel_rfl), trivial⟩) ((s_SameReceiver_lk x0 x1).trans (s_SameReceiver_p x0 x1 ((hf 0 0 rfl rfl).rng) ((hf 0 1 rfl rfl).slen) ((hf 0 2 rfl rfl).len) (fun y hy => (hf 0 2 rfl rfl).elem hy) ((hf 0 3 rfl rfl).rng) ((hf 1 0 rfl rfl).rng) ((hf 1 1 rfl rfl).slen) ((hf 1 2 rfl rfl).len) (fun y hy => (hf 1 2 rfl rfl).elem hy) ((hf 1 3 rfl rfl).rng) _ _ _))
noncomputable def s_SameReceiver_e : Ent1 Try.prog := entA 190 [.st .recv, .st .recv] (fun x => (s_SameReceiver x.1 x.2.1)) (fun v => [rv (.sc .bool) [] v]) (fun x => s_SameReceiver_c x.1 x.2.1)


/-- slices.Equal[[]impl.Piece,impl.Piece] -/
def g_Equal_Piece_ann : List (Nat × Keep) := [(0, ⟨[0, 1, 12, 13], [], false, 0⟩)]
def g_Equal_Piece_L0_sh : Sh := ⟨[(0, false, [.sl .arg .piec]), (1, false, [.sl .arg .piec]), (12, false, [.int .i64]), (13, false, [.int .i64])], []⟩
def g_Equal_Piece_L0_es : List (Ex × Sh) := [(.ret, ⟨[(4, false, [.bool])], []⟩), (.exit 0, ⟨[(4, false, [.undef])], []⟩)]
def g_Equal_Piece_L0_mk (v0 : List Piec) (v1 : List Piec) (v2 : Int) (v3 : Int) : g_Equal_Piece_L0_sh.T := (((v0, ()), ((v1, ()), ((v2, ()), ((v3, ()), ())))), ())
def g_Equal_Piece_L0_mx0 (y0 : Bool) : Sh.T ⟨[(4, false, [.bool])], []⟩ := (((y0, ()), ()), ())
def g_Equal_Piece_L0_mx1  : Sh.T ⟨[(4, false, [.undef])], []⟩ := ((((), ()), ()), ())
def g_Equal_Piece_L0_B (v0 : List Piec) (v1 : List Piec) (v2 : Int) (v3 : Int) (γ : Type) (fail : γ) (next : g_Equal_Piece_L0_sh.T → γ) (out : WT g_Equal_Piece_L0_es → γ) : γ :=
  bif (decide (v3 < v2)) then
    bif ((decide (0 ≤ v3)) && (decide (v3 < (v0.length : Int)))) then
    bif ((decide (0 ≤ v3)) && (decide (v3 < (v1.length : Int)))) then
    bif (!(((v0.getD v3.toNat (Ty.zero .piec)).off == (v1.getD v3.toNat (Ty.zero .piec)).off) && (((v0.getD v3.toNat (Ty.zero .piec)).text == (v1.getD v3.toNat (Ty.zero .piec)).text) && true))) then
      out (Sum.inl (g_Equal_Piece_L0_mx0 false))
    else
    next (g_Equal_Piece_L0_mk v0 v1 v2 (IntKind.wrap .i64 (v3 + 1)))
    else fail
    else fail
  else
  out (Sum.inr (g_Equal_Piece_L0_mx1 ))
theorem g_Equal_Piece_L0_par (v0 : List Piec) (v1 : List Piec) (v2 : Int) (v3 : Int) (γ : Type) (fail : γ) (next : g_Equal_Piece_L0_sh.T → γ) (out : WT g_Equal_Piece_L0_es → γ) : g_Equal_Piece_L0_B v0 v1 v2 v3 γ fail next out = optK (g_Equal_Piece_L0_B v0 v1 v2 v3 _ none (fun v' => some (.inl v')) (fun w => some (.inr w))) fail (fun r => Sum.elim next out r) := by
  unfold g_Equal_Piece_L0_B
  exact bifT (f := (fun o => optK o fail (fun r => Sum.elim next out r))) (fun _ => bifT (f := (fun o => optK o fail (fun r => Sum.elim next out r))) (fun _ => bifT (f := (fun o => optK o fail (fun r => Sum.elim next out r))) (fun _ => bifT (f := (fun o => optK o fail (fun r => Sum.elim next out r))) (fun _ => rfl)
      (fun _ => rfl)) (fun _ => rfl)) (fun _ => rfl))
      (fun _ => rfl)
def g_Equal_Piece_L0_r : Round g_Equal_Piece_L0_sh.T (WT g_Equal_Piece_L0_es) where
  B v γ fail next out := g_Equal_Piece_L0_B v.1.1.1 v.1.2.1.1 v.1.2.2.1.1 v.1.2.2.2.1.1 γ fail next out
  par v γ fail next out := g_Equal_Piece_L0_par v.1.1.1 v.1.2.1.1 v.1.2.2.1.1 v.1.2.2.2.1.1 γ fail next out
def g_Equal_Piece_L0_fu (v0 : List Piec) (v1 : List Piec) (v2 : Int) (v3 : Int) : Nat := (Int.toNat (v2 - v3)) + 1
theorem g_Equal_Piece_L0_lk (v : g_Equal_Piece_L0_sh.T) (next : St → Option Res) (k : Ex → St → Option Res) : evalK te (orcOf (P := Try.prog) []) (lorcOf []) Try.f204.ntmps g_Equal_Piece_ann (nthLoop (bodyOf Try.f204) 0 0) 0 (g_Equal_Piece_L0_sh.enc v) (endK ⟨[0, 1, 12, 13], [], false, 0⟩ ⟨[4], [], false, 0⟩ next k) =
  g_Equal_Piece_L0_r.B v _ none (fun v' => next (g_Equal_Piece_L0_sh.enc v')) (fun w => outK g_Equal_Piece_L0_es k w) := by kernel_rfl
def g_Equal_Piece_L0_le : LE := leOf 0 g_Equal_Piece_L0_sh g_Equal_Piece_L0_es g_Equal_Piece_L0_r.step (fun v => g_Equal_Piece_L0_fu v.1.1.1 v.1.2.1.1 v.1.2.2.1.1 v.1.2.2.2.1.1)
theorem g_Equal_Piece_L0_ls (w0 : World) (mo : Mts) (I0 : Nat → Prop) (hmo : mo.length = 0) : LSem Try.prog (Sim w0 mo Try.f204.ntmps I0) (fun b s k => match Nat.beq 0 b with | true => g_Equal_Piece_L0_le.run s k | false => none) 0 (nthLoop (bodyOf Try.f204) 0 0) :=
  le_sem hmo (lorc := lorcOf []) (ann := g_Equal_Piece_ann) (keep := ⟨[0, 1, 12, 13], [], false, 0⟩) (kout := ⟨[4], [], false, 0⟩) teFact mixFact (orcOf_ok _) (by kernel_rfl) (allLoops_of (bs := []) (by kernel_rfl) trivial) g_Equal_Piece_L0_r _ g_Equal_Piece_L0_lk
def g_Equal_Piece_L0_f (v0 : List Piec) (v1 : List Piec) (v2 : Int) (v3 : Int) (a : Unit) : Stp (Unit) ((Unit)) :=
  bif (!(((v0.getD v3.toNat (Ty.zero .piec)).off == (v1.getD v3.toNat (Ty.zero .piec)).off) && (((v0.getD v3.toNat (Ty.zero .piec)).text == (v1.getD v3.toNat (Ty.zero .piec)).text) && true))) then
    .out (())
  else
  .next ()
theorem g_Equal_Piece_L0_st (v0 : List Piec) (v1 : List Piec) (v2 : Int) (v3 : Int) (hlo : 0 ≤ v3) (hhi : v3 < v2) (hN : v2 ≤ 4611686018427387904) (hi0 : v2 ≤ (v0.length : Int)) (hi1 : v2 ≤ (v1.length : Int)) : g_Equal_Piece_L0_r.step (g_Equal_Piece_L0_mk v0 v1 v2 v3) = Stp.elim (fun a' : Unit => some (Sum.inl (g_Equal_Piece_L0_mk v0 v1 v2 (v3 + 1)))) (fun w => some (Sum.inr ((fun p : Unit => Sum.inl (g_Equal_Piece_L0_mx0 false)) w))) (g_Equal_Piece_L0_f v0 v1 v2 v3 ()) := by
  have hw : (IntKind.wrap .i64 (v3 + 1)) = v3 + 1 := wrap64 (by omega) (by omega)
  show g_Equal_Piece_L0_B v0 v1 v2 v3 (Option (g_Equal_Piece_L0_sh.T ⊕ WT g_Equal_Piece_L0_es)) none (fun v' => some (Sum.inl v')) (fun w => some (Sum.inr w)) = _
  unfold g_Equal_Piece_L0_B g_Equal_Piece_L0_f
  exact bifG (by simp only [decide_eq_true_eq]; omega) (bifG (by (try simp only [Nat.ble_eq, Bool.and_eq_true, decide_eq_true_eq]); grind [maxSl, maxStr, toBytes_length, toInts_length, List.length_set, wrap64]) (bifG (by (try simp only [Nat.ble_eq, Bool.and_eq_true, decide_eq_true_eq]); grind [maxSl, maxStr, toBytes_length, toInts_length, List.length_set, wrap64]) (bifT (f := (Stp.elim (fun a' : Unit => some (Sum.inl (g_Equal_Piece_L0_mk v0 v1 v2 (v3 + 1)))) (fun w => some (Sum.inr ((fun p : Unit => Sum.inl (g_Equal_Piece_L0_mx0 false)) w))))) (fun b0 => rfl)
      (fun b0 => (by exact congrArg (fun z => some (Sum.inl (g_Equal_Piece_L0_mk v0 v1 v2 z))) hw)))))
theorem g_Equal_Piece_L0_cl (v0 : List Piec) (v1 : List Piec) (v2 : Int) (v3 : Int) (h0 : 0 ≤ v3) (h1 : v2 ≤ 4611686018427387904) (h2 : v2 ≤ (v0.length : Int)) (h3 : v2 ≤ (v1.length : Int)) : loopF g_Equal_Piece_L0_r.step (g_Equal_Piece_L0_fu v0 v1 v2 v3) (g_Equal_Piece_L0_mk v0 v1 v2 v3) = some (Stp.elim (fun a => (fun i a => Sum.inr (g_Equal_Piece_L0_mx1 )) (v3 + 1 * (((Int.toNat (v2 - v3)) : Nat) : Int)) a) (fun p : Unit => Sum.inl (g_Equal_Piece_L0_mx0 false)) (forN (g_Equal_Piece_L0_f v0 v1 v2) 1 (Int.toNat (v2 - v3)) v3 ())) :=
  forN_loop (step := g_Equal_Piece_L0_r.step) (mk := fun v3 a => g_Equal_Piece_L0_mk v0 v1 v2 v3) (f := g_Equal_Piece_L0_f v0 v1 v2) (e := (fun i a => Sum.inr (g_Equal_Piece_L0_mx1 ))) (emb := (fun p : Unit => Sum.inl (g_Equal_Piece_L0_mx0 false))) (st := 1) (Inv := fun v3 a => True) (Int.toNat (v2 - v3)) v3 () _ (Nat.lt_succ_self _) trivial
    (fun j a hj hv => ⟨g_Equal_Piece_L0_st v0 v1 v2 (v3 + 1 * (j : Int)) (by omega) (by omega) (by omega) h2 h3, fun _ _ => trivial⟩)
    (fun a hv => by
      show g_Equal_Piece_L0_B v0 v1 v2 (v3 + 1 * (((Int.toNat (v2 - v3)) : Nat) : Int)) (Option (g_Equal_Piece_L0_sh.T ⊕ WT g_Equal_Piece_L0_es)) none (fun v' => some (Sum.inl v')) (fun w => some (Sum.inr w)) = _
      unfold g_Equal_Piece_L0_B
      exact bifN (by simp only [decide_eq_false_iff_not]; omega) rfl)
def g_Equal_Piece_N (x0 : List Piec) (x1 : List Piec) (γ : Type) (fail : γ) (k : Bool → γ) : γ :=
  bif ((x0.length : Int) != (x1.length : Int)) then
    k false
  else
  optK (loopF g_Equal_Piece_L0_r.step (g_Equal_Piece_L0_fu x0 x1 (x0.length : Int) 0) (g_Equal_Piece_L0_mk x0 x1 (x0.length : Int) 0)) fail fun w1 =>
    Sum.elim (fun w1 =>
      k w1.1.1.1)
    (fun w1 =>
      k true) w1
def g_Equal_Piece (x0 : List Piec) (x1 : List Piec) : Bool :=
  bif ((x0.length : Int) != (x1.length : Int)) then
    false
  else
  Stp.elim (fun a2 =>
    true)
    (fun p2 =>
      false)
    (forN (g_Equal_Piece_L0_f x0 x1 (x0.length : Int)) 1 (Int.toNat ((x0.length : Int) - 0)) 0 ())
theorem g_Equal_Piece_lk (x0 : List Piec) (x1 : List Piec) : evalFn te (orcOf (P := Try.prog) []) (lorcOf [g_Equal_Piece_L0_le]) g_Equal_Piece_ann Try.f204 (pvs [.sc (.sl .piec), .sc (.sl .piec)] (x0, x1, ())) =
  g_Equal_Piece_N x0 x1 _ none (fun v => some [(false, [RC.c (.bool v)])]) := by kernel_rfl
theorem g_Equal_Piece_p (x0 : List Piec) (x1 : List Piec) (hx0 : x0.length ≤ 140737488355328) (hx0_e : ∀ y ∈ x0, ∀ c ∈ Ty.cells .piec y, FactC c) (hx1 : x1.length ≤ 140737488355328) (hx1_e : ∀ y ∈ x1, ∀ c ∈ Ty.cells .piec y, FactC c)  (γ : Type) (fail : γ) (k : Bool → γ) : g_Equal_Piece_N x0 x1 γ fail k = k (g_Equal_Piece x0 x1) := by
  unfold g_Equal_Piece_N g_Equal_Piece
  exact bifT (f := k) (fun b0 => rfl)
      (fun b0 => loopT (f := k) (g_Equal_Piece_L0_cl x0 x1 (x0.length : Int) 0 (by (try simp only [Nat.ble_eq, Bool.and_eq_true, decide_eq_true_eq, g_Equal_Piece_L0_mx0, g_Equal_Piece_L0_mx1]); grind [maxSl, maxStr, toBytes_length, toInts_length, List.length_set, wrap64]) (by (try simp only [Nat.ble_eq, Bool.and_eq_true, decide_eq_true_eq, g_Equal_Piece_L0_mx0, g_Equal_Piece_L0_mx1]); grind [maxSl, maxStr, toBytes_length, toInts_length, List.length_set, wrap64]) (by (try simp only [Nat.ble_eq, Bool.and_eq_true, decide_eq_true_eq, g_Equal_Piece_L0_mx0, g_Equal_Piece_L0_mx1]); grind [maxSl, maxStr, toBytes_length, toInts_length, List.length_set, wrap64]) (by (try simp only [Nat.ble_eq, Bool.and_eq_true, decide_eq_true_eq, g_Equal_Piece_L0_mx0, g_Equal_Piece_L0_mx1]); grind [maxSl, maxStr, toBytes_length, toInts_length, List.length_set, wrap64])) (fun a2 => rfl)
      (fun p2 => rfl))
theorem g_Equal_Piece_c (x0 : List Piec) (x1 : List Piec)  : Con Try.prog 204 (pvs [.sc (.sl .piec), .sc (.sl .piec)] (x0, x1, ())) [rv (.sc .bool) [] (g_Equal_Piece x0 x1)] := by
  refine Con.of_facts (enters_of Try.func204 rfl (by kernel_rfl)) fun hf => ?_
  replace hf := factAt hf
  exact evalFn_conL teFact mixFact (orcOf_ok _) Try.func204 (by kernel_rfl) (bs := [0]) (by kernel_rfl) (by kernel_rfl) (fun w0 mo I0 hmo => ⟨lsem_of_lorc (g_Equal_Piece_L0_ls w0 mo I0 hmo) (by kernel_rfl), trivial⟩) ((g_Equal_Piece_lk x0 x1).trans (g_Equal_Piece_p x0 x1 ((hf 0 0 rfl rfl).len) (fun y hy => (hf 0 0 rfl rfl).elem hy) ((hf 1 0 rfl rfl).len) (fun y hy => (hf 1 0 rfl rfl).elem hy) _ _ _))
noncomputable def g_Equal_Piece_e : Ent1 Try.prog := entA 204 [.sc (.sl .piec), .sc (.sl .piec)] (fun x => (g_Equal_Piece x.1 x.2.1)) (fun v => [rv (.sc .bool) [] v]) (fun x => g_Equal_Piece_c x.1 x.2.1)


/-- laws.szPiece -/
def w_szPiece_N (x0 : Piec) (x1 : Int) (γ : Type) (fail : γ) (k : Int → γ) : γ :=
  bif (decide ((IntKind.wrap .i64 (x1 - (x0.text.length : Int))) < 0)) then
    k (-1)
  else
  k (IntKind.wrap .i64 (x1 - (x0.text.length : Int)))
def w_szPiece (x0 : Piec) (x1 : Int) : Int :=
  bif (decide ((IntKind.wrap .i64 (x1 - (x0.text.length : Int))) < 0)) then
    (-1)
  else
  (IntKind.wrap .i64 (x1 - (x0.text.length : Int)))
theorem w_szPiece_lk (x0 : Piec) (x1 : Int) : evalFn te (orcOf (P := Try.prog) []) lorc0 [] Try.f207 (pvs [.st .piec, .sc (.int .i64)] (x0, x1, ())) =
  w_szPiece_N x0 x1 _ none (fun v => some [(false, [RC.c (.int .i64 v)])]) := by kernel_rfl
theorem w_szPiece_p (x0 : Piec) (x1 : Int)   (γ : Type) (fail : γ) (k : Int → γ) : w_szPiece_N x0 x1 γ fail k = k (w_szPiece x0 x1) := by
  unfold w_szPiece_N w_szPiece
  exact bifT (f := k) (fun b0 => rfl)
      (fun b0 => rfl)
theorem w_szPiece_c (x0 : Piec) (x1 : Int)  : Con Try.prog 207 (pvs [.st .piec, .sc (.int .i64)] (x0, x1, ())) [rv (.sc (.int .i64)) [] (w_szPiece x0 x1)] := by
  exact evalFn_con0 teFact mixFact (orcOf_ok _) Try.func207 (by kernel_rfl) ((w_szPiece_lk x0 x1).trans (w_szPiece_p x0 x1  _ _ _))
noncomputable def w_szPiece_e : Ent1 Try.prog := entA 207 [.st .piec, .sc (.int .i64)] (fun x => (w_szPiece x.1 x.2.1)) (fun v => [rv (.sc (.int .i64)) [] v]) (fun x => w_szPiece_c x.1 x.2.1)

theorem w_szPiece_sm (x0 : Piec) (x1 : Int)  (hn : 0 ≤ x1 ∧ x1 ≤ 1048576) (hx0_text : List.length x0.text ≤ 4611686018427387904) : (fun v : Int => 0 ≤ v → v ≤ 1048576 ∧ List.length x0.text ≤ 1048576) (w_szPiece x0 x1) := by
  unfold w_szPiece
  exact bifP (P := (fun v : Int => 0 ≤ v → v ≤ 1048576 ∧ List.length x0.text ≤ 1048576)) (fun b0 => (by (try simp only [Nat.ble_eq, Bool.and_eq_true, decide_eq_true_eq]); grind [maxSl, maxStr, toBytes_length, toInts_length, List.length_set, wrap64]))
      (fun b0 => (by (try simp only [Nat.ble_eq, Bool.and_eq_true, decide_eq_true_eq]); grind [maxSl, maxStr, toBytes_length, toInts_length, List.length_set, wrap64]))

/-- laws.toPiece -/
def w_toPiece_N (x0 : Piec) (γ : Type) (fail : γ) (k : Piec → γ) : γ :=
  k x0
def w_toPiece (x0 : Piec) : Piec :=
  x0
theorem w_toPiece_lk (x0 : Piec) : evalFn te (orcOf (P := Try.prog) []) lorc0 [] Try.f208 (pvs [.st .piec] (x0, ())) =
  w_toPiece_N x0 _ none (fun v => some [(true, [RC.c (.int .i64 v.off), RC.c (.str v.text)])]) := by kernel_rfl
theorem w_toPiece_p (x0 : Piec)   (γ : Type) (fail : γ) (k : Piec → γ) : w_toPiece_N x0 γ fail k = k (w_toPiece x0) := by
  unfold w_toPiece_N w_toPiece
  exact rfl
theorem w_toPiece_c (x0 : Piec)  : Con Try.prog 208 (pvs [.st .piec] (x0, ())) [rv (.st .piec) [] (w_toPiece x0)] := by
  exact evalFn_con0 teFact mixFact (orcOf_ok _) Try.func208 (by kernel_rfl) ((w_toPiece_lk x0).trans (w_toPiece_p x0  _ _ _))
noncomputable def w_toPiece_e : Ent1 Try.prog := entA 208 [.st .piec] (fun x => (w_toPiece x.1)) (fun v => [rv (.st .piec) [] v]) (fun x => w_toPiece_c x.1)


/-- laws.eqPiece -/
def w_eqPiece_N (x0 : Piec) (x1 : Piec) (γ : Type) (fail : γ) (k : Bool → γ) : γ :=
  bif (x0.off != x1.off) then
    k false
  else
  bif (!(x0.text == x1.text)) then
    k false
  else
  k true
def w_eqPiece (x0 : Piec) (x1 : Piec) : Bool :=
  bif (x0.off != x1.off) then
    false
  else
  bif (!(x0.text == x1.text)) then
    false
  else
  true
theorem w_eqPiece_lk (x0 : Piec) (x1 : Piec) : evalFn te (orcOf (P := Try.prog) []) lorc0 [] Try.f209 (pvs [.st .piec, .st .piec] (x0, x1, ())) =
  w_eqPiece_N x0 x1 _ none (fun v => some [(false, [RC.c (.bool v)])]) := by kernel_rfl
theorem w_eqPiece_p (x0 : Piec) (x1 : Piec)   (γ : Type) (fail : γ) (k : Bool → γ) : w_eqPiece_N x0 x1 γ fail k = k (w_eqPiece x0 x1) := by
  unfold w_eqPiece_N w_eqPiece
  exact bifT (f := k) (fun b0 => rfl)
      (fun b0 => bifT (f := k) (fun b1 => rfl)
      (fun b1 => rfl))
theorem w_eqPiece_c (x0 : Piec) (x1 : Piec)  : Con Try.prog 209 (pvs [.st .piec, .st .piec] (x0, x1, ())) [rv (.sc .bool) [] (w_eqPiece x0 x1)] := by
  exact evalFn_con0 teFact mixFact (orcOf_ok _) Try.func209 (by kernel_rfl) ((w_eqPiece_lk x0 x1).trans (w_eqPiece_p x0 x1  _ _ _))
noncomputable def w_eqPiece_e : Ent1 Try.prog := entA 209 [.st .piec, .st .piec] (fun x => (w_eqPiece x.1 x.2.1)) (fun v => [rv (.sc .bool) [] v]) (fun x => w_eqPiece_c x.1 x.2.1)


/-- laws.toHalfS -/
def w_toHalfS_ann : List (Nat × Keep) := [(0, ⟨[0, 3, 4], [], false, 0⟩)]
def w_toHalfS_L0_sh : Sh := ⟨[(0, false, [.sl .arg .half]), (3, false, [.own 0]), (4, false, [.int .i64])], [.arr .half false true]⟩
def w_toHalfS_L0_es : List (Ex × Sh) := [(.exit 0, ⟨[(2, false, [.undef]), (3, false, [.own 0])], [.arr .half false true]⟩)]
def w_toHalfS_L0_mk (v0 : List Half) (v1 : Int) (v2 : List Half) : w_toHalfS_L0_sh.T := (((v0, ()), (((), ()), ((v1, ()), ()))), (v2, ()))
def w_toHalfS_L0_mx0 (y0 : List Half) : Sh.T ⟨[(2, false, [.undef]), (3, false, [.own 0])], [.arr .half false true]⟩ := ((((), ()), (((), ()), ())), (y0, ()))
def w_toHalfS_L0_B (v0 : List Half) (v1 : Int) (v2 : List Half) (γ : Type) (fail : γ) (next : w_toHalfS_L0_sh.T → γ) (out : WT w_toHalfS_L0_es → γ) : γ :=
  bif (decide (v1 < (v0.length : Int))) then
    bif ((decide (0 ≤ v1)) && (decide (v1 < (v0.length : Int)))) then
    letK (α := Half) (w_toHalf (v0.getD v1.toNat (Ty.zero .half))) fun c2 =>
    bif ((decide (0 ≤ v1)) && (decide (v1 < (v2.length : Int)))) then
    next (w_toHalfS_L0_mk v0 (IntKind.wrap .i64 (v1 + 1)) (v2.set v1.toNat c2))
    else fail
    else fail
  else
  out (w_toHalfS_L0_mx0 v2)
theorem w_toHalfS_L0_par (v0 : List Half) (v1 : Int) (v2 : List Half) (γ : Type) (fail : γ) (next : w_toHalfS_L0_sh.T → γ) (out : WT w_toHalfS_L0_es → γ) : w_toHalfS_L0_B v0 v1 v2 γ fail next out = optK (w_toHalfS_L0_B v0 v1 v2 _ none (fun v' => some (.inl v')) (fun w => some (.inr w))) fail (fun r => Sum.elim next out r) := by
  unfold w_toHalfS_L0_B
  exact bifT (f := (fun o => optK o fail (fun r => Sum.elim next out r))) (fun _ => bifT (f := (fun o => optK o fail (fun r => Sum.elim next out r))) (fun _ => letT (f := (fun o => optK o fail (fun r => Sum.elim next out r))) (fun c2 _ => bifT (f := (fun o => optK o fail (fun r => Sum.elim next out r))) (fun _ => rfl) (fun _ => rfl))) (fun _ => rfl))
      (fun _ => rfl)
def w_toHalfS_L0_r : Round w_toHalfS_L0_sh.T (WT w_toHalfS_L0_es) where
  B v γ fail next out := w_toHalfS_L0_B v.1.1.1 v.1.2.2.1.1 v.2.1 γ fail next out
  par v γ fail next out := w_toHalfS_L0_par v.1.1.1 v.1.2.2.1.1 v.2.1 γ fail next out
def w_toHalfS_L0_fu (v0 : List Half) (v1 : Int) (v2 : List Half) : Nat := (Int.toNat ((v0.length : Int) - v1)) + 1
theorem w_toHalfS_L0_lk (v : w_toHalfS_L0_sh.T) (next : St → Option Res) (k : Ex → St → Option Res) : evalK te (orcOf (P := Try.prog) [w_toHalf_e]) (lorcOf []) Try.f74.ntmps w_toHalfS_ann (nthLoop (bodyOf Try.f74) 0 0) 0 (w_toHalfS_L0_sh.enc v) (endK ⟨[0, 3, 4], [], false, 0⟩ ⟨[2, 3], [], false, 0⟩ next k) =
  w_toHalfS_L0_r.B v _ none (fun v' => next (w_toHalfS_L0_sh.enc v')) (fun w => outK w_toHalfS_L0_es k w) := by kernel_rfl
def w_toHalfS_L0_le : LE := leOf 0 w_toHalfS_L0_sh w_toHalfS_L0_es w_toHalfS_L0_r.step (fun v => w_toHalfS_L0_fu v.1.1.1 v.1.2.2.1.1 v.2.1)
theorem w_toHalfS_L0_ls (w0 : World) (mo : Mts) (I0 : Nat → Prop) (hmo : mo.length = 0) : LSem Try.prog (Sim w0 mo Try.f74.ntmps I0) (fun b s k => match Nat.beq 0 b with | true => w_toHalfS_L0_le.run s k | false => none) 0 (nthLoop (bodyOf Try.f74) 0 0) :=
  le_sem hmo (lorc := lorcOf []) (ann := w_toHalfS_ann) (keep := ⟨[0, 3, 4], [], false, 0⟩) (kout := ⟨[2, 3], [], false, 0⟩) teFact mixFact (orcOf_ok _) (by kernel_rfl) (allLoops_of (bs := []) (by kernel_rfl) trivial) w_toHalfS_L0_r _ w_toHalfS_L0_lk
def w_toHalfS_L0_f (v0 : List Half) (v1 : Int) (a : List Half) : Stp (List Half) (Empty) :=
  letK (α := Half) (w_toHalf (v0.getD v1.toNat (Ty.zero .half))) fun c2 =>
  .next (a.set v1.toNat c2)
theorem w_toHalfS_L0_st (v0 : List Half) (v1 : Int) (v2 : List Half) (hlo : 0 ≤ v1) (hhi : v1 < (v0.length : Int)) (hN : (v0.length : Int) ≤ 4611686018427387904) (hinv : (v0.length : Int) ≤ (v2.length : Int)) : w_toHalfS_L0_r.step (w_toHalfS_L0_mk v0 v1 v2) = Stp.elim (fun a' : List Half => some (Sum.inl (w_toHalfS_L0_mk v0 (v1 + 1) a'))) (fun w => some (Sum.inr ((fun p : Empty => nomatch p) w))) (w_toHalfS_L0_f v0 v1 v2) := by
  have hw : (IntKind.wrap .i64 (v1 + 1)) = v1 + 1 := wrap64 (by omega) (by omega)
  show w_toHalfS_L0_B v0 v1 v2 (Option (w_toHalfS_L0_sh.T ⊕ WT w_toHalfS_L0_es)) none (fun v' => some (Sum.inl v')) (fun w => some (Sum.inr w)) = _
  unfold w_toHalfS_L0_B w_toHalfS_L0_f
  exact bifG (by simp only [decide_eq_true_eq]; omega) (bifG (by (try simp only [Nat.ble_eq, Bool.and_eq_true, decide_eq_true_eq]); grind [maxSl, maxStr, toBytes_length, toInts_length, List.length_set, wrap64]) (letT (f := (Stp.elim (fun a' : List Half => some (Sum.inl (w_toHalfS_L0_mk v0 (v1 + 1) a'))) (fun w => some (Sum.inr ((fun p : Empty => nomatch p) w))))) (fun c2 hc2 => bifG (by (try simp only [Nat.ble_eq, Bool.and_eq_true, decide_eq_true_eq]); grind [maxSl, maxStr, toBytes_length, toInts_length, List.length_set, wrap64]) ((by exact congrArg (fun z => some (Sum.inl (w_toHalfS_L0_mk v0 z (v2.set v1.toNat c2)))) hw)))))
theorem w_toHalfS_L0_cl (v0 : List Half) (v1 : Int) (v2 : List Half) (h0 : 0 ≤ v1) (h1 : (v0.length : Int) ≤ 4611686018427387904) (h2 : (v0.length : Int) ≤ (v2.length : Int)) : loopF w_toHalfS_L0_r.step (w_toHalfS_L0_fu v0 v1 v2) (w_toHalfS_L0_mk v0 v1 v2) = some (Stp.elim (fun a => (fun i a => w_toHalfS_L0_mx0 a) (v1 + 1 * (((Int.toNat ((v0.length : Int) - v1)) : Nat) : Int)) a) (fun p : Empty => nomatch p) (forN (w_toHalfS_L0_f v0) 1 (Int.toNat ((v0.length : Int) - v1)) v1 v2)) :=
  forN_loop (step := w_toHalfS_L0_r.step) (mk := fun v1 a => w_toHalfS_L0_mk v0 v1 a) (f := w_toHalfS_L0_f v0) (e := (fun i a => w_toHalfS_L0_mx0 a)) (emb := (fun p : Empty => nomatch p)) (st := 1) (Inv := fun v1 a => (v0.length : Int) ≤ (a.length : Int)) (Int.toNat ((v0.length : Int) - v1)) v1 v2 _ (Nat.lt_succ_self _) h2
    (fun j a hj hv => ⟨w_toHalfS_L0_st v0 (v1 + 1 * (j : Int)) a (by omega) (by omega) (by omega) hv, by
      intro a' he
      grind [w_toHalfS_L0_f, letK, Stp.elim, wrap64, List.length_set]⟩)
    (fun a hv => by
      show w_toHalfS_L0_B v0 (v1 + 1 * (((Int.toNat ((v0.length : Int) - v1)) : Nat) : Int)) a (Option (w_toHalfS_L0_sh.T ⊕ WT w_toHalfS_L0_es)) none (fun v' => some (Sum.inl v')) (fun w => some (Sum.inr w)) = _
      unfold w_toHalfS_L0_B
      exact bifN (by simp only [decide_eq_false_iff_not]; omega) rfl)
theorem w_toHalfS_L0_nx (v0 : List Half) (v1 : Int) (v2 : List Half) (h0 : 0 ≤ v1) (h1 : (v0.length : Int) ≤ 4611686018427387904) (h2 : (v0.length : Int) ≤ (v2.length : Int)) : ∀ a', forN (w_toHalfS_L0_f v0) 1 (Int.toNat ((v0.length : Int) - v1)) v1 v2 = .next a' → (v0.length : Int) ≤ (a'.length : Int) :=
  forN_inv (f := w_toHalfS_L0_f v0) (st := 1) (Inv := fun v1 a => (v0.length : Int) ≤ (a.length : Int)) (Int.toNat ((v0.length : Int) - v1)) v1 v2 h2
    (fun j a hj hv => by
      intro a' he
      grind [w_toHalfS_L0_f, letK, Stp.elim, wrap64, List.length_set])
def w_toHalfS_N (x0 : List Half) (γ : Type) (fail : γ) (k : List Half → γ) : γ :=
  bif ((((decide (0 ≤ (x0.length : Int))) && (decide ((x0.length : Int) = (x0.length : Int)))) && (decide ((x0.length : Int) * 96 ≤ (maxSl : Int)))) && (decide ((x0.length : Int) ≤ (maxSl : Int)))) then
  letK (α := List Half) (List.replicate ((x0.length : Int).toNat) (⟨⟨0, 0, 0⟩, 0, 0, ⟨0, 0, false, false, 0, 0⟩, 0, 0⟩ : Half)) fun l1 =>
  optK (loopF w_toHalfS_L0_r.step (w_toHalfS_L0_fu x0 0 l1) (w_toHalfS_L0_mk x0 0 l1)) fail fun w3 =>
    k w3.2.1
  else fail
def w_toHalfS (x0 : List Half) : List Half :=
  letK (α := List Half) (List.replicate ((x0.length : Int).toNat) (⟨⟨0, 0, 0⟩, 0, 0, ⟨0, 0, false, false, 0, 0⟩, 0, 0⟩ : Half)) fun l1 =>
  Stp.elim (fun a4 =>
    a4)
    (fun p : Empty => nomatch p)
    (forN (w_toHalfS_L0_f x0) 1 (Int.toNat ((x0.length : Int) - 0)) 0 l1)
theorem w_toHalfS_lk (x0 : List Half) : evalFn te (orcOf (P := Try.prog) [w_toHalf_e]) (lorcOf [w_toHalfS_L0_le]) w_toHalfS_ann Try.f74 (pvs [.sc (.sl .half)] (x0, ())) =
  w_toHalfS_N x0 _ none (fun v => some [(false, [RC.own true .half v])]) := by kernel_rfl
theorem w_toHalfS_p (x0 : List Half) (hx0 : x0.length ≤ 140737488355328) (hp : x0.length ≤ 4294967296) (γ : Type) (fail : γ) (k : List Half → γ) : w_toHalfS_N x0 γ fail k = k (w_toHalfS x0) := by
  unfold w_toHalfS_N w_toHalfS
  exact bifG (by (try simp only [Nat.ble_eq, Bool.and_eq_true, decide_eq_true_eq, w_toHalfS_L0_mx0]); grind [maxSl, maxStr, toBytes_length, toInts_length, List.length_set, wrap64]) (letT (f := k) (fun l1 hl1 => loopX (f := k) (w_toHalfS_L0_cl x0 0 l1 (by (try simp only [Nat.ble_eq, Bool.and_eq_true, decide_eq_true_eq, w_toHalfS_L0_mx0]); grind [maxSl, maxStr, toBytes_length, toInts_length, List.length_set, wrap64]) (by (try simp only [Nat.ble_eq, Bool.and_eq_true, decide_eq_true_eq, w_toHalfS_L0_mx0]); grind [maxSl, maxStr, toBytes_length, toInts_length, List.length_set, wrap64]) (by (try simp only [Nat.ble_eq, Bool.and_eq_true, decide_eq_true_eq, w_toHalfS_L0_mx0]); grind [maxSl, maxStr, toBytes_length, toInts_length, List.length_set, wrap64])) (fun a4 ha4 => have ia4 := w_toHalfS_L0_nx x0 0 l1 (by (try simp only [Nat.ble_eq, Bool.and_eq_true, decide_eq_true_eq, w_toHalfS_L0_mx0]); grind [maxSl, maxStr, toBytes_length, toInts_length, List.length_set, wrap64]) (by (try simp only [Nat.ble_eq, Bool.and_eq_true, decide_eq_true_eq, w_toHalfS_L0_mx0]); grind [maxSl, maxStr, toBytes_length, toInts_length, List.length_set, wrap64]) (by (try simp only [Nat.ble_eq, Bool.and_eq_true, decide_eq_true_eq, w_toHalfS_L0_mx0]); grind [maxSl, maxStr, toBytes_length, toInts_length, List.length_set, wrap64]) _ ha4; rfl)
      (fun p : Empty => nomatch p)))
theorem w_toHalfS_c (x0 : List Half) (hp : x0.length ≤ 4294967296) : Con Try.prog 74 (pvs [.sc (.sl .half)] (x0, ())) [rv (.sc (.sl .half)) [.o true] (w_toHalfS x0)] := by
  refine Con.of_facts (enters_of Try.func74 rfl (by kernel_rfl)) fun hf => ?_
  replace hf := factAt hf
  exact evalFn_conL teFact mixFact (orcOf_ok _) Try.func74 (by kernel_rfl) (bs := [0]) (by kernel_rfl) (by kernel_rfl) (fun w0 mo I0 hmo => ⟨lsem_of_lorc (w_toHalfS_L0_ls w0 mo I0 hmo) (by kernel_rfl), trivial⟩) ((w_toHalfS_lk x0).trans (w_toHalfS_p x0 ((hf 0 0 rfl rfl).len) hp _ _ _))
noncomputable def w_toHalfS_e : Ent1 Try.prog := entP 74 [.sc (.sl .half)] (fun x => (decide (x.1.length ≤ 4294967296))) (fun x => (w_toHalfS x.1)) (fun v => [rv (.sc (.sl .half)) [.o true] v]) (fun x hx => w_toHalfS_c x.1 (of_decide_eq_true hx))


/-- impl.SameLink -/
def i_SameLink_N (x0 : Link) (x1 : Link) (γ : Type) (fail : γ) (k : Bool → γ) : γ :=
  bif (x0.mac == x1.mac) then
    bif (x0.ip == x1.ip) then
      letK (α := Bool) (g_Equal_Entry x0.cache x1.cache) fun c1 =>
      k c1
    else
    k false
  else
  k false
def i_SameLink (x0 : Link) (x1 : Link) : Bool :=
  bif (x0.mac == x1.mac) then
    bif (x0.ip == x1.ip) then
      letK (α := Bool) (g_Equal_Entry x0.cache x1.cache) fun c1 =>
      c1
    else
    false
  else
  false
theorem i_SameLink_lk (x0 : Link) (x1 : Link) : evalFn te (orcOf (P := Try.prog) [g_Equal_Entry_e]) lorc0 [] Try.f84 (pvs [.st .link, .st .link] (x0, x1, ())) =
  i_SameLink_N x0 x1 _ none (fun v => some [(false, [RC.c (.bool v)])]) := by kernel_rfl
theorem i_SameLink_p (x0 : Link) (x1 : Link)   (γ : Type) (fail : γ) (k : Bool → γ) : i_SameLink_N x0 x1 γ fail k = k (i_SameLink x0 x1) := by
  unfold i_SameLink_N i_SameLink
  exact bifT (f := k) (fun b0 => bifT (f := k) (fun b1 => letT (f := k) (fun c1 hc1 => rfl))
      (fun b1 => rfl))
      (fun b0 => rfl)
theorem i_SameLink_c (x0 : Link) (x1 : Link)  : Con Try.prog 84 (pvs [.st .link, .st .link] (x0, x1, ())) [rv (.sc .bool) [] (i_SameLink x0 x1)] := by
  exact evalFn_con0 teFact mixFact (orcOf_ok _) Try.func84 (by kernel_rfl) ((i_SameLink_lk x0 x1).trans (i_SameLink_p x0 x1  _ _ _))
noncomputable def i_SameLink_e : Ent1 Try.prog := entA 84 [.st .link, .st .link] (fun x => (i_SameLink x.1 x.2.1)) (fun v => [rv (.sc .bool) [] v]) (fun x => i_SameLink_c x.1 x.2.1)


/-- laws.eqHalf -/
def w_eqHalf_N (x0 : Half) (x1 : Half) (γ : Type) (fail : γ) (k : Bool → γ) : γ :=
  letK (α := Bool) (w_eqTuple x0.tuple x1.tuple) fun c1 =>
  bif (!c1) then
    k false
  else
  bif (x0.iss != x1.iss) then
    k false
  else
  bif (x0.irs != x1.irs) then
    k false
  else
  letK (α := Bool) (w_eqOptions x0.opts x1.opts) fun c2 =>
  bif (!c2) then
    k false
  else
  bif (x0.age != x1.age) then
    k false
  else
  bif (x0.window != x1.window) then
    k false
  else
  k true
def w_eqHalf (x0 : Half) (x1 : Half) : Bool :=
  letK (α := Bool) (w_eqTuple x0.tuple x1.tuple) fun c1 =>
  bif (!c1) then
    false
  else
  bif (x0.iss != x1.iss) then
    false
  else
  bif (x0.irs != x1.irs) then
    false
  else
  letK (α := Bool) (w_eqOptions x0.opts x1.opts) fun c2 =>
  bif (!c2) then
    false
  else
  bif (x0.age != x1.age) then
    false
  else
  bif (x0.window != x1.window) then
    false
  else
  true
theorem w_eqHalf_lk (x0 : Half) (x1 : Half) : evalFn te (orcOf (P := Try.prog) [w_eqTuple_e, w_eqOptions_e]) lorc0 [] Try.f127 (pvs [.st .half, .st .half] (x0, x1, ())) =
  w_eqHalf_N x0 x1 _ none (fun v => some [(false, [RC.c (.bool v)])]) := by kernel_rfl
theorem w_eqHalf_p (x0 : Half) (x1 : Half)   (γ : Type) (fail : γ) (k : Bool → γ) : w_eqHalf_N x0 x1 γ fail k = k (w_eqHalf x0 x1) := by
  unfold w_eqHalf_N w_eqHalf
  exact letT (f := k) (fun c1 hc1 => bifT (f := k) (fun b0 => rfl)
      (fun b0 => bifT (f := k) (fun b1 => rfl)
      (fun b1 => bifT (f := k) (fun b2 => rfl)
      (fun b2 => letT (f := k) (fun c2 hc2 => bifT (f := k) (fun b3 => rfl)
      (fun b3 => bifT (f := k) (fun b4 => rfl)
      (fun b4 => bifT (f := k) (fun b5 => rfl)
      (fun b5 => rfl))))))))
theorem w_eqHalf_c (x0 : Half) (x1 : Half)  : Con Try.prog 127 (pvs [.st .half, .st .half] (x0, x1, ())) [rv (.sc .bool) [] (w_eqHalf x0 x1)] := by
  exact evalFn_con0 teFact mixFact (orcOf_ok _) Try.func127 (by kernel_rfl) ((w_eqHalf_lk x0 x1).trans (w_eqHalf_p x0 x1  _ _ _))
noncomputable def w_eqHalf_e : Ent1 Try.prog := entA 127 [.st .half, .st .half] (fun x => (w_eqHalf x.1 x.2.1)) (fun v => [rv (.sc .bool) [] v]) (fun x => w_eqHalf_c x.1 x.2.1)


/-- laws.eqTupleS -/
def w_eqTupleS_ann : List (Nat × Keep) := [(0, ⟨[0, 1, 5], [], false, 0⟩)]
def w_eqTupleS_L0_sh : Sh := ⟨[(0, false, [.sl .arg .tupl]), (1, false, [.sl .arg .tupl]), (5, false, [.int .i64])], []⟩
def w_eqTupleS_L0_es : List (Ex × Sh) := [(.ret, ⟨[(4, false, [.bool])], []⟩), (.exit 0, ⟨[(4, false, [.undef])], []⟩)]
def w_eqTupleS_L0_mk (v0 : List Tupl) (v1 : List Tupl) (v2 : Int) : w_eqTupleS_L0_sh.T := (((v0, ()), ((v1, ()), ((v2, ()), ()))), ())
def w_eqTupleS_L0_mx0 (y0 : Bool) : Sh.T ⟨[(4, false, [.bool])], []⟩ := (((y0, ()), ()), ())
def w_eqTupleS_L0_mx1  : Sh.T ⟨[(4, false, [.undef])], []⟩ := ((((), ()), ()), ())
def w_eqTupleS_L0_B (v0 : List Tupl) (v1 : List Tupl) (v2 : Int) (γ : Type) (fail : γ) (next : w_eqTupleS_L0_sh.T → γ) (out : WT w_eqTupleS_L0_es → γ) : γ :=
  bif (decide (v2 < (v0.length : Int))) then
    bif ((decide (0 ≤ v2)) && (decide (v2 < (v0.length : Int)))) then
    bif ((decide (0 ≤ v2)) && (decide (v2 < (v1.length : Int)))) then
    letK (α := Bool) (w_eqTuple (v0.getD v2.toNat (Ty.zero .tupl)) (v1.getD v2.toNat (Ty.zero .tupl))) fun c1 =>
    bif (!c1) then
      out (Sum.inl (w_eqTupleS_L0_mx0 false))
    else
    next (w_eqTupleS_L0_mk v0 v1 (IntKind.wrap .i64 (v2 + 1)))
    else fail
    else fail
  else
  out (Sum.inr (w_eqTupleS_L0_mx1 ))
theorem w_eqTupleS_L0_par (v0 : List Tupl) (v1 : List Tupl) (v2 : Int) (γ : Type) (fail : γ) (next : w_eqTupleS_L0_sh.T → γ) (out : WT w_eqTupleS_L0_es → γ) : w_eqTupleS_L0_B v0 v1 v2 γ fail next out = optK (w_eqTupleS_L0_B v0 v1 v2 _ none (fun v' => some (.inl v')) (fun w => some (.inr w))) fail (fun r => Sum.elim next out r) := by
  unfold w_eqTupleS_L0_B
  exact bifT (f := (fun o => optK o fail (fun r => Sum.elim next out r))) (fun _ => bifT (f := (fun o => optK o fail (fun r => Sum.elim next out r))) (fun _ => bifT (f := (fun o => optK o fail (fun r => Sum.elim next out r))) (fun _ => letT (f := (fun o => optK o fail (fun r => Sum.elim next out r))) (fun c1 _ => bifT (f := (fun o => optK o fail (fun r => Sum.elim next out r))) (fun _ => rfl)
      (fun _ => rfl))) (fun _ => rfl)) (fun _ => rfl))
      (fun _ => rfl)
def w_eqTupleS_L0_r : Round w_eqTupleS_L0_sh.T (WT w_eqTupleS_L0_es) where
  B v γ fail next out := w_eqTupleS_L0_B v.1.1.1 v.1.2.1.1 v.1.2.2.1.1 γ fail next out
  par v γ fail next out := w_eqTupleS_L0_par v.1.1.1 v.1.2.1.1 v.1.2.2.1.1 γ fail next out
def w_eqTupleS_L0_fu (v0 : List Tupl) (v1 : List Tupl) (v2 : Int) : Nat := (Int.toNat ((v0.length : Int) - v2)) + 1
theorem w_eqTupleS_L0_lk (v : w_eqTupleS_L0_sh.T) (next : St → Option Res) (k : Ex → St → Option Res) : evalK te (orcOf (P := Try.prog) [w_eqTuple_e]) (lorcOf []) Try.f129.ntmps w_eqTupleS_ann (nthLoop (bodyOf Try.f129) 0 0) 0 (w_eqTupleS_L0_sh.enc v) (endK ⟨[0, 1, 5], [], false, 0⟩ ⟨[4], [], false, 0⟩ next k) =
  w_eqTupleS_L0_r.B v _ none (fun v' => next (w_eqTupleS_L0_sh.enc v')) (fun w => outK w_eqTupleS_L0_es k w) := by kernel_rfl
def w_eqTupleS_L0_le : LE := leOf 0 w_eqTupleS_L0_sh w_eqTupleS_L0_es w_eqTupleS_L0_r.step (fun v => w_eqTupleS_L0_fu v.1.1.1 v.1.2.1.1 v.1.2.2.1.1)
theorem w_eqTupleS_L0_ls (w0 : World) (mo : Mts) (I0 : Nat → Prop) (hmo : mo.length = 0) : LSem Try.prog (Sim w0 mo Try.f129.ntmps I0) (fun b s k => match Nat.beq 0 b with | true => w_eqTupleS_L0_le.run s k | false => none) 0 (nthLoop (bodyOf Try.f129) 0 0) :=
  le_sem hmo (lorc := lorcOf []) (ann := w_eqTupleS_ann) (keep := ⟨[0, 1, 5], [], false, 0⟩) (kout := ⟨[4], [], false, 0⟩) teFact mixFact (orcOf_ok _) (by kernel_rfl) (allLoops_of (bs := []) (by kernel_rfl) trivial) w_eqTupleS_L0_r _ w_eqTupleS_L0_lk
def w_eqTupleS_L0_f (v0 : List Tupl) (v1 : List Tupl) (v2 : Int) (a : Unit) : Stp (Unit) ((Unit)) :=
  letK (α := Bool) (w_eqTuple (v0.getD v2.toNat (Ty.zero .tupl)) (v1.getD v2.toNat (Ty.zero .tupl))) fun c1 =>
  bif (!c1) then
    .out (())
  else
  .next ()
theorem w_eqTupleS_L0_st (v0 : List Tupl) (v1 : List Tupl) (v2 : Int) (hlo : 0 ≤ v2) (hhi : v2 < (v0.length : Int)) (hN : (v0.length : Int) ≤ 4611686018427387904) (hi0 : (v0.length : Int) ≤ (v1.length : Int)) : w_eqTupleS_L0_r.step (w_eqTupleS_L0_mk v0 v1 v2) = Stp.elim (fun a' : Unit => some (Sum.inl (w_eqTupleS_L0_mk v0 v1 (v2 + 1)))) (fun w => some (Sum.inr ((fun p : Unit => Sum.inl (w_eqTupleS_L0_mx0 false)) w))) (w_eqTupleS_L0_f v0 v1 v2 ()) := by
  have hw : (IntKind.wrap .i64 (v2 + 1)) = v2 + 1 := wrap64 (by omega) (by omega)
  show w_eqTupleS_L0_B v0 v1 v2 (Option (w_eqTupleS_L0_sh.T ⊕ WT w_eqTupleS_L0_es)) none (fun v' => some (Sum.inl v')) (fun w => some (Sum.inr w)) = _
  unfold w_eqTupleS_L0_B w_eqTupleS_L0_f
  exact bifG (by simp only [decide_eq_true_eq]; omega) (bifG (by (try simp only [Nat.ble_eq, Bool.and_eq_true, decide_eq_true_eq]); grind [maxSl, maxStr, toBytes_length, toInts_length, List.length_set, wrap64]) (bifG (by (try simp only [Nat.ble_eq, Bool.and_eq_true, decide_eq_true_eq]); grind [maxSl, maxStr, toBytes_length, toInts_length, List.length_set, wrap64]) (letT (f := (Stp.elim (fun a' : Unit => some (Sum.inl (w_eqTupleS_L0_mk v0 v1 (v2 + 1)))) (fun w => some (Sum.inr ((fun p : Unit => Sum.inl (w_eqTupleS_L0_mx0 false)) w))))) (fun c1 hc1 => bifT (f := (Stp.elim (fun a' : Unit => some (Sum.inl (w_eqTupleS_L0_mk v0 v1 (v2 + 1)))) (fun w => some (Sum.inr ((fun p : Unit => Sum.inl (w_eqTupleS_L0_mx0 false)) w))))) (fun b0 => rfl)
      (fun b0 => (by exact congrArg (fun z => some (Sum.inl (w_eqTupleS_L0_mk v0 v1 z))) hw))))))
theorem w_eqTupleS_L0_cl (v0 : List Tupl) (v1 : List Tupl) (v2 : Int) (h0 : 0 ≤ v2) (h1 : (v0.length : Int) ≤ 4611686018427387904) (h2 : (v0.length : Int) ≤ (v1.length : Int)) : loopF w_eqTupleS_L0_r.step (w_eqTupleS_L0_fu v0 v1 v2) (w_eqTupleS_L0_mk v0 v1 v2) = some (Stp.elim (fun a => (fun i a => Sum.inr (w_eqTupleS_L0_mx1 )) (v2 + 1 * (((Int.toNat ((v0.length : Int) - v2)) : Nat) : Int)) a) (fun p : Unit => Sum.inl (w_eqTupleS_L0_mx0 false)) (forN (w_eqTupleS_L0_f v0 v1) 1 (Int.toNat ((v0.length : Int) - v2)) v2 ())) :=
  forN_loop (step := w_eqTupleS_L0_r.step) (mk := fun v2 a => w_eqTupleS_L0_mk v0 v1 v2) (f := w_eqTupleS_L0_f v0 v1) (e := (fun i a => Sum.inr (w_eqTupleS_L0_mx1 ))) (emb := (fun p : Unit => Sum.inl (w_eqTupleS_L0_mx0 false))) (st := 1) (Inv := fun v2 a => True) (Int.toNat ((v0.length : Int) - v2)) v2 () _ (Nat.lt_succ_self _) trivial
    (fun j a hj hv => ⟨w_eqTupleS_L0_st v0 v1 (v2 + 1 * (j : Int)) (by omega) (by omega) (by omega) h2, fun _ _ => trivial⟩)
    (fun a hv => by
      show w_eqTupleS_L0_B v0 v1 (v2 + 1 * (((Int.toNat ((v0.length : Int) - v2)) : Nat) : Int)) (Option (w_eqTupleS_L0_sh.T ⊕ WT w_eqTupleS_L0_es)) none (fun v' => some (Sum.inl v')) (fun w => some (Sum.inr w)) = _
      unfold w_eqTupleS_L0_B
      exact bifN (by simp only [decide_eq_false_iff_not]; omega) rfl)
def w_eqTupleS_N (x0 : List Tupl) (x1 : List Tupl) (γ : Type) (fail : γ) (k : Bool → γ) : γ :=
  bif ((x0.length : Int) != (x1.length : Int)) then
    k false
  else
  optK (loopF w_eqTupleS_L0_r.step (w_eqTupleS_L0_fu x0 x1 0) (w_eqTupleS_L0_mk x0 x1 0)) fail fun w2 =>
    Sum.elim (fun w2 =>
      k w2.1.1.1)
    (fun w2 =>
      k true) w2
def w_eqTupleS (x0 : List Tupl) (x1 : List Tupl) : Bool :=
  bif ((x0.length : Int) != (x1.length : Int)) then
    false
  else
  Stp.elim (fun a3 =>
    true)
    (fun p3 =>
      false)
    (forN (w_eqTupleS_L0_f x0 x1) 1 (Int.toNat ((x0.length : Int) - 0)) 0 ())
theorem w_eqTupleS_lk (x0 : List Tupl) (x1 : List Tupl) : evalFn te (orcOf (P := Try.prog) [w_eqTuple_e]) (lorcOf [w_eqTupleS_L0_le]) w_eqTupleS_ann Try.f129 (pvs [.sc (.sl .tupl), .sc (.sl .tupl)] (x0, x1, ())) =
  w_eqTupleS_N x0 x1 _ none (fun v => some [(false, [RC.c (.bool v)])]) := by kernel_rfl
theorem w_eqTupleS_p (x0 : List Tupl) (x1 : List Tupl) (hx0 : x0.length ≤ 140737488355328) (hx1 : x1.length ≤ 140737488355328)  (γ : Type) (fail : γ) (k : Bool → γ) : w_eqTupleS_N x0 x1 γ fail k = k (w_eqTupleS x0 x1) := by
  unfold w_eqTupleS_N w_eqTupleS
  exact bifT (f := k) (fun b0 => rfl)
      (fun b0 => loopT (f := k) (w_eqTupleS_L0_cl x0 x1 0 (by (try simp only [Nat.ble_eq, Bool.and_eq_true, decide_eq_true_eq, w_eqTupleS_L0_mx0, w_eqTupleS_L0_mx1]); grind [maxSl, maxStr, toBytes_length, toInts_length, List.length_set, wrap64]) (by (try simp only [Nat.ble_eq, Bool.and_eq_true, decide_eq_true_eq, w_eqTupleS_L0_mx0, w_eqTupleS_L0_mx1]); grind [maxSl, maxStr, toBytes_length, toInts_length, List.length_set, wrap64]) (by (try simp only [Nat.ble_eq, Bool.and_eq_true, decide_eq_true_eq, w_eqTupleS_L0_mx0, w_eqTupleS_L0_mx1]); grind [maxSl, maxStr, toBytes_length, toInts_length, List.length_set, wrap64])) (fun a3 => rfl)
      (fun p3 => rfl))
theorem w_eqTupleS_c (x0 : List Tupl) (x1 : List Tupl)  : Con Try.prog 129 (pvs [.sc (.sl .tupl), .sc (.sl .tupl)] (x0, x1, ())) [rv (.sc .bool) [] (w_eqTupleS x0 x1)] := by
  refine Con.of_facts (enters_of Try.func129 rfl (by kernel_rfl)) fun hf => ?_
  replace hf := factAt hf
  exact evalFn_conL teFact mixFact (orcOf_ok _) Try.func129 (by kernel_rfl) (bs := [0]) (by kernel_rfl) (by kernel_rfl) (fun w0 mo I0 hmo => ⟨lsem_of_lorc (w_eqTupleS_L0_ls w0 mo I0 hmo) (by kernel_rfl), trivial⟩) ((w_eqTupleS_lk x0 x1).trans (w_eqTupleS_p x0 x1 ((hf 0 0 rfl rfl).len) ((hf 1 0 rfl rfl).len) _ _ _))
noncomputable def w_eqTupleS_e : Ent1 Try.prog := entA 129 [.sc (.sl .tupl), .sc (.sl .tupl)] (fun x => (w_eqTupleS x.1 x.2.1)) (fun v => [rv (.sc .bool) [] v]) (fun x => w_eqTupleS_c x.1 x.2.1)


/-- spec.SameKeys -/
def s_SameKeys_N (x0 : Keys) (x1 : Keys) (γ : Type) (fail : γ) (k : Bool → γ) : γ :=
  bif (x0.epoch == x1.epoch) then
    bif (x0.two == x1.two) then
      letK (α := Bool) (s_SameMac x0.now x1.now) fun c1 =>
      bif c1 then
        letK (α := Bool) (s_SameMac x0.before x1.before) fun c2 =>
        k c2
      else
      k false
    else
    k false
  else
  k false
def s_SameKeys (x0 : Keys) (x1 : Keys) : Bool :=
  bif (x0.epoch == x1.epoch) then
    bif (x0.two == x1.two) then
      letK (α := Bool) (s_SameMac x0.now x1.now) fun c1 =>
      bif c1 then
        letK (α := Bool) (s_SameMac x0.before x1.before) fun c2 =>
        c2
      else
      false
    else
    false
  else
  false
theorem s_SameKeys_lk (x0 : Keys) (x1 : Keys) : evalFn te (orcOf (P := Try.prog) [s_SameMac_e]) lorc0 [] Try.f131 (pvs [.st .keys, .st .keys] (x0, x1, ())) =
  s_SameKeys_N x0 x1 _ none (fun v => some [(false, [RC.c (.bool v)])]) := by kernel_rfl
theorem s_SameKeys_p (x0 : Keys) (x1 : Keys)   (γ : Type) (fail : γ) (k : Bool → γ) : s_SameKeys_N x0 x1 γ fail k = k (s_SameKeys x0 x1) := by
  unfold s_SameKeys_N s_SameKeys
  exact bifT (f := k) (fun b0 => bifT (f := k) (fun b1 => letT (f := k) (fun c1 hc1 => bifT (f := k) (fun b2 => letT (f := k) (fun c2 hc2 => rfl))
      (fun b2 => rfl)))
      (fun b1 => rfl))
      (fun b0 => rfl)
theorem s_SameKeys_c (x0 : Keys) (x1 : Keys)  : Con Try.prog 131 (pvs [.st .keys, .st .keys] (x0, x1, ())) [rv (.sc .bool) [] (s_SameKeys x0 x1)] := by
  exact evalFn_con0 teFact mixFact (orcOf_ok _) Try.func131 (by kernel_rfl) ((s_SameKeys_lk x0 x1).trans (s_SameKeys_p x0 x1  _ _ _))
noncomputable def s_SameKeys_e : Ent1 Try.prog := entA 131 [.st .keys, .st .keys] (fun x => (s_SameKeys x.1 x.2.1)) (fun v => [rv (.sc .bool) [] v]) (fun x => s_SameKeys_c x.1 x.2.1)


/-- laws.toEntryS -/
def w_toEntryS_ann : List (Nat × Keep) := [(0, ⟨[0, 3, 4], [], false, 0⟩)]
def w_toEntryS_L0_sh : Sh := ⟨[(0, false, [.sl .arg .entr]), (3, false, [.own 0]), (4, false, [.int .i64])], [.arr .entr false true]⟩
def w_toEntryS_L0_es : List (Ex × Sh) := [(.exit 0, ⟨[(2, false, [.undef]), (3, false, [.own 0])], [.arr .entr false true]⟩)]
def w_toEntryS_L0_mk (v0 : List Entr) (v1 : Int) (v2 : List Entr) : w_toEntryS_L0_sh.T := (((v0, ()), (((), ()), ((v1, ()), ()))), (v2, ()))
def w_toEntryS_L0_mx0 (y0 : List Entr) : Sh.T ⟨[(2, false, [.undef]), (3, false, [.own 0])], [.arr .entr false true]⟩ := ((((), ()), (((), ()), ())), (y0, ()))
def w_toEntryS_L0_B (v0 : List Entr) (v1 : Int) (v2 : List Entr) (γ : Type) (fail : γ) (next : w_toEntryS_L0_sh.T → γ) (out : WT w_toEntryS_L0_es → γ) : γ :=
  bif (decide (v1 < (v0.length : Int))) then
    bif ((decide (0 ≤ v1)) && (decide (v1 < (v0.length : Int)))) then
    letK (α := Entr) (w_toEntry (v0.getD v1.toNat (Ty.zero .entr))) fun c1 =>
    bif ((decide (0 ≤ v1)) && (decide (v1 < (v2.length : Int)))) then
    next (w_toEntryS_L0_mk v0 (IntKind.wrap .i64 (v1 + 1)) (v2.set v1.toNat c1))
    else fail
    else fail
  else
  out (w_toEntryS_L0_mx0 v2)
theorem w_toEntryS_L0_par (v0 : List Entr) (v1 : Int) (v2 : List Entr) (γ : Type) (fail : γ) (next : w_toEntryS_L0_sh.T → γ) (out : WT w_toEntryS_L0_es → γ) : w_toEntryS_L0_B v0 v1 v2 γ fail next out = optK (w_toEntryS_L0_B v0 v1 v2 _ none (fun v' => some (.inl v')) (fun w => some (.inr w))) fail (fun r => Sum.elim next out r) := by
  unfold w_toEntryS_L0_B
  exact bifT (f := (fun o => optK o fail (fun r => Sum.elim next out r))) (fun _ => bifT (f := (fun o => optK o fail (fun r => Sum.elim next out r))) (fun _ => letT (f := (fun o => optK o fail (fun r => Sum.elim next out r))) (fun c1 _ => bifT (f := (fun o => optK o fail (fun r => Sum.elim next out r))) (fun _ => rfl) (fun _ => rfl))) (fun _ => rfl))
      (fun _ => rfl)
def w_toEntryS_L0_r : Round w_toEntryS_L0_sh.T (WT w_toEntryS_L0_es) where
  B v γ fail next out := w_toEntryS_L0_B v.1.1.1 v.1.2.2.1.1 v.2.1 γ fail next out
  par v γ fail next out := w_toEntryS_L0_par v.1.1.1 v.1.2.2.1.1 v.2.1 γ fail next out
def w_toEntryS_L0_fu (v0 : List Entr) (v1 : Int) (v2 : List Entr) : Nat := (Int.toNat ((v0.length : Int) - v1)) + 1
theorem w_toEntryS_L0_lk (v : w_toEntryS_L0_sh.T) (next : St → Option Res) (k : Ex → St → Option Res) : evalK te (orcOf (P := Try.prog) [w_toEntry_e]) (lorcOf []) Try.f134.ntmps w_toEntryS_ann (nthLoop (bodyOf Try.f134) 0 0) 0 (w_toEntryS_L0_sh.enc v) (endK ⟨[0, 3, 4], [], false, 0⟩ ⟨[2, 3], [], false, 0⟩ next k) =
  w_toEntryS_L0_r.B v _ none (fun v' => next (w_toEntryS_L0_sh.enc v')) (fun w => outK w_toEntryS_L0_es k w) := by kernel_rfl
def w_toEntryS_L0_le : LE := leOf 0 w_toEntryS_L0_sh w_toEntryS_L0_es w_toEntryS_L0_r.step (fun v => w_toEntryS_L0_fu v.1.1.1 v.1.2.2.1.1 v.2.1)
theorem w_toEntryS_L0_ls (w0 : World) (mo : Mts) (I0 : Nat → Prop) (hmo : mo.length = 0) : LSem Try.prog (Sim w0 mo Try.f134.ntmps I0) (fun b s k => match Nat.beq 0 b with | true => w_toEntryS_L0_le.run s k | false => none) 0 (nthLoop (bodyOf Try.f134) 0 0) :=
  le_sem hmo (lorc := lorcOf []) (ann := w_toEntryS_ann) (keep := ⟨[0, 3, 4], [], false, 0⟩) (kout := ⟨[2, 3], [], false, 0⟩) teFact mixFact (orcOf_ok _) (by kernel_rfl) (allLoops_of (bs := []) (by kernel_rfl) trivial) w_toEntryS_L0_r _ w_toEntryS_L0_lk
def w_toEntryS_L0_f (v0 : List Entr) (v1 : Int) (a : List Entr) : Stp (List Entr) (Empty) :=
  letK (α := Entr) (w_toEntry (v0.getD v1.toNat (Ty.zero .entr))) fun c1 =>
  .next (a.set v1.toNat c1)
theorem w_toEntryS_L0_st (v0 : List Entr) (v1 : Int) (v2 : List Entr) (hlo : 0 ≤ v1) (hhi : v1 < (v0.length : Int)) (hN : (v0.length : Int) ≤ 4611686018427387904) (hinv : (v0.length : Int) ≤ (v2.length : Int)) : w_toEntryS_L0_r.step (w_toEntryS_L0_mk v0 v1 v2) = Stp.elim (fun a' : List Entr => some (Sum.inl (w_toEntryS_L0_mk v0 (v1 + 1) a'))) (fun w => some (Sum.inr ((fun p : Empty => nomatch p) w))) (w_toEntryS_L0_f v0 v1 v2) := by
  have hw : (IntKind.wrap .i64 (v1 + 1)) = v1 + 1 := wrap64 (by omega) (by omega)
  show w_toEntryS_L0_B v0 v1 v2 (Option (w_toEntryS_L0_sh.T ⊕ WT w_toEntryS_L0_es)) none (fun v' => some (Sum.inl v')) (fun w => some (Sum.inr w)) = _
  unfold w_toEntryS_L0_B w_toEntryS_L0_f
  exact bifG (by simp only [decide_eq_true_eq]; omega) (bifG (by (try simp only [Nat.ble_eq, Bool.and_eq_true, decide_eq_true_eq]); grind [maxSl, maxStr, toBytes_length, toInts_length, List.length_set, wrap64]) (letT (f := (Stp.elim (fun a' : List Entr => some (Sum.inl (w_toEntryS_L0_mk v0 (v1 + 1) a'))) (fun w => some (Sum.inr ((fun p : Empty => nomatch p) w))))) (fun c1 hc1 => bifG (by (try simp only [Nat.ble_eq, Bool.and_eq_true, decide_eq_true_eq]); grind [maxSl, maxStr, toBytes_length, toInts_length, List.length_set, wrap64]) ((by exact congrArg (fun z => some (Sum.inl (w_toEntryS_L0_mk v0 z (v2.set v1.toNat c1)))) hw)))))
theorem w_toEntryS_L0_cl (v0 : List Entr) (v1 : Int) (v2 : List Entr) (h0 : 0 ≤ v1) (h1 : (v0.length : Int) ≤ 4611686018427387904) (h2 : (v0.length : Int) ≤ (v2.length : Int)) : loopF w_toEntryS_L0_r.step (w_toEntryS_L0_fu v0 v1 v2) (w_toEntryS_L0_mk v0 v1 v2) = some (Stp.elim (fun a => (fun i a => w_toEntryS_L0_mx0 a) (v1 + 1 * (((Int.toNat ((v0.length : Int) - v1)) : Nat) : Int)) a) (fun p : Empty => nomatch p) (forN (w_toEntryS_L0_f v0) 1 (Int.toNat ((v0.length : Int) - v1)) v1 v2)) :=
  forN_loop (step := w_toEntryS_L0_r.step) (mk := fun v1 a => w_toEntryS_L0_mk v0 v1 a) (f := w_toEntryS_L0_f v0) (e := (fun i a => w_toEntryS_L0_mx0 a)) (emb := (fun p : Empty => nomatch p)) (st := 1) (Inv := fun v1 a => (v0.length : Int) ≤ (a.length : Int)) (Int.toNat ((v0.length : Int) - v1)) v1 v2 _ (Nat.lt_succ_self _) h2
    (fun j a hj hv => ⟨w_toEntryS_L0_st v0 (v1 + 1 * (j : Int)) a (by omega) (by omega) (by omega) hv, by
      intro a' he
      grind [w_toEntryS_L0_f, letK, Stp.elim, wrap64, List.length_set]⟩)
    (fun a hv => by
      show w_toEntryS_L0_B v0 (v1 + 1 * (((Int.toNat ((v0.length : Int) - v1)) : Nat) : Int)) a (Option (w_toEntryS_L0_sh.T ⊕ WT w_toEntryS_L0_es)) none (fun v' => some (Sum.inl v')) (fun w => some (Sum.inr w)) = _
      unfold w_toEntryS_L0_B
      exact bifN (by simp only [decide_eq_false_iff_not]; omega) rfl)
theorem w_toEntryS_L0_nx (v0 : List Entr) (v1 : Int) (v2 : List Entr) (h0 : 0 ≤ v1) (h1 : (v0.length : Int) ≤ 4611686018427387904) (h2 : (v0.length : Int) ≤ (v2.length : Int)) : ∀ a', forN (w_toEntryS_L0_f v0) 1 (Int.toNat ((v0.length : Int) - v1)) v1 v2 = .next a' → (v0.length : Int) ≤ (a'.length : Int) :=
  forN_inv (f := w_toEntryS_L0_f v0) (st := 1) (Inv := fun v1 a => (v0.length : Int) ≤ (a.length : Int)) (Int.toNat ((v0.length : Int) - v1)) v1 v2 h2
    (fun j a hj hv => by
      intro a' he
      grind [w_toEntryS_L0_f, letK, Stp.elim, wrap64, List.length_set])
def w_toEntryS_N (x0 : List Entr) (γ : Type) (fail : γ) (k : List Entr → γ) : γ :=
  bif ((((decide (0 ≤ (x0.length : Int))) && (decide ((x0.length : Int) = (x0.length : Int)))) && (decide ((x0.length : Int) * 24 ≤ (maxSl : Int)))) && (decide ((x0.length : Int) ≤ (maxSl : Int)))) then
  optK (loopF w_toEntryS_L0_r.step (w_toEntryS_L0_fu x0 0 (List.replicate ((x0.length : Int).toNat) (⟨0, 0, 0⟩ : Entr))) (w_toEntryS_L0_mk x0 0 (List.replicate ((x0.length : Int).toNat) (⟨0, 0, 0⟩ : Entr)))) fail fun w2 =>
    k w2.2.1
  else fail
def w_toEntryS (x0 : List Entr) : List Entr :=
  Stp.elim (fun a3 =>
    a3)
    (fun p : Empty => nomatch p)
    (forN (w_toEntryS_L0_f x0) 1 (Int.toNat ((x0.length : Int) - 0)) 0 (List.replicate ((x0.length : Int).toNat) (⟨0, 0, 0⟩ : Entr)))
theorem w_toEntryS_lk (x0 : List Entr) : evalFn te (orcOf (P := Try.prog) [w_toEntry_e]) (lorcOf [w_toEntryS_L0_le]) w_toEntryS_ann Try.f134 (pvs [.sc (.sl .entr)] (x0, ())) =
  w_toEntryS_N x0 _ none (fun v => some [(false, [RC.own true .entr v])]) := by kernel_rfl
theorem w_toEntryS_p (x0 : List Entr) (hx0 : x0.length ≤ 140737488355328) (hp : x0.length ≤ 4294967296) (γ : Type) (fail : γ) (k : List Entr → γ) : w_toEntryS_N x0 γ fail k = k (w_toEntryS x0) := by
  unfold w_toEntryS_N w_toEntryS
  exact bifG (by (try simp only [Nat.ble_eq, Bool.and_eq_true, decide_eq_true_eq, w_toEntryS_L0_mx0]); grind [maxSl, maxStr, toBytes_length, toInts_length, List.length_set, wrap64]) (loopX (f := k) (w_toEntryS_L0_cl x0 0 (List.replicate ((x0.length : Int).toNat) (⟨0, 0, 0⟩ : Entr)) (by (try simp only [Nat.ble_eq, Bool.and_eq_true, decide_eq_true_eq, w_toEntryS_L0_mx0]); grind [maxSl, maxStr, toBytes_length, toInts_length, List.length_set, wrap64]) (by (try simp only [Nat.ble_eq, Bool.and_eq_true, decide_eq_true_eq, w_toEntryS_L0_mx0]); grind [maxSl, maxStr, toBytes_length, toInts_length, List.length_set, wrap64]) (by (try simp only [Nat.ble_eq, Bool.and_eq_true, decide_eq_true_eq, w_toEntryS_L0_mx0]); grind [maxSl, maxStr, toBytes_length, toInts_length, List.length_set, wrap64])) (fun a3 ha3 => have ia3 := w_toEntryS_L0_nx x0 0 (List.replicate ((x0.length : Int).toNat) (⟨0, 0, 0⟩ : Entr)) (by (try simp only [Nat.ble_eq, Bool.and_eq_true, decide_eq_true_eq, w_toEntryS_L0_mx0]); grind [maxSl, maxStr, toBytes_length, toInts_length, List.length_set, wrap64]) (by (try simp only [Nat.ble_eq, Bool.and_eq_true, decide_eq_true_eq, w_toEntryS_L0_mx0]); grind [maxSl, maxStr, toBytes_length, toInts_length, List.length_set, wrap64]) (by (try simp only [Nat.ble_eq, Bool.and_eq_true, decide_eq_true_eq, w_toEntryS_L0_mx0]); grind [maxSl, maxStr, toBytes_length, toInts_length, List.length_set, wrap64]) _ ha3; rfl)
      (fun p : Empty => nomatch p))
theorem w_toEntryS_c (x0 : List Entr) (hp : x0.length ≤ 4294967296) : Con Try.prog 134 (pvs [.sc (.sl .entr)] (x0, ())) [rv (.sc (.sl .entr)) [.o true] (w_toEntryS x0)] := by
  refine Con.of_facts (enters_of Try.func134 rfl (by kernel_rfl)) fun hf => ?_
  replace hf := factAt hf
  exact evalFn_conL teFact mixFact (orcOf_ok _) Try.func134 (by kernel_rfl) (bs := [0]) (by kernel_rfl) (by kernel_rfl) (fun w0 mo I0 hmo => ⟨lsem_of_lorc (w_toEntryS_L0_ls w0 mo I0 hmo) (by kernel_rfl), trivial⟩) ((w_toEntryS_lk x0).trans (w_toEntryS_p x0 ((hf 0 0 rfl rfl).len) hp _ _ _))
noncomputable def w_toEntryS_e : Ent1 Try.prog := entP 134 [.sc (.sl .entr)] (fun x => (decide (x.1.length ≤ 4294967296))) (fun x => (w_toEntryS x.1)) (fun v => [rv (.sc (.sl .entr)) [.o true] v]) (fun x hx => w_toEntryS_c x.1 (of_decide_eq_true hx))


/-- impl.SameHalves -/
def i_SameHalves_N (x0 : List Half) (x1 : List Half) (γ : Type) (fail : γ) (k : Bool → γ) : γ :=
  letK (α := Bool) (g_Equal_Half x0 x1) fun c1 =>
  k c1
def i_SameHalves (x0 : List Half) (x1 : List Half) : Bool :=
  letK (α := Bool) (g_Equal_Half x0 x1) fun c1 =>
  c1
theorem i_SameHalves_lk (x0 : List Half) (x1 : List Half) : evalFn te (orcOf (P := Try.prog) [g_Equal_Half_e]) lorc0 [] Try.f137 (pvs [.sc (.sl .half), .sc (.sl .half)] (x0, x1, ())) =
  i_SameHalves_N x0 x1 _ none (fun v => some [(false, [RC.c (.bool v)])]) := by kernel_rfl
theorem i_SameHalves_p (x0 : List Half) (x1 : List Half)   (γ : Type) (fail : γ) (k : Bool → γ) : i_SameHalves_N x0 x1 γ fail k = k (i_SameHalves x0 x1) := by
  unfold i_SameHalves_N i_SameHalves
  exact letT (f := k) (fun c1 hc1 => rfl)
theorem i_SameHalves_c (x0 : List Half) (x1 : List Half)  : Con Try.prog 137 (pvs [.sc (.sl .half), .sc (.sl .half)] (x0, x1, ())) [rv (.sc .bool) [] (i_SameHalves x0 x1)] := by
  exact evalFn_con0 teFact mixFact (orcOf_ok _) Try.func137 (by kernel_rfl) ((i_SameHalves_lk x0 x1).trans (i_SameHalves_p x0 x1  _ _ _))
noncomputable def i_SameHalves_e : Ent1 Try.prog := entA 137 [.sc (.sl .half), .sc (.sl .half)] (fun x => (i_SameHalves x.1 x.2.1)) (fun v => [rv (.sc .bool) [] v]) (fun x => i_SameHalves_c x.1 x.2.1)


/-- laws.eqEntryS -/
def w_eqEntryS_ann : List (Nat × Keep) := [(0, ⟨[0, 1, 5], [], false, 0⟩)]
def w_eqEntryS_L0_sh : Sh := ⟨[(0, false, [.sl .arg .entr]), (1, false, [.sl .arg .entr]), (5, false, [.int .i64])], []⟩
def w_eqEntryS_L0_es : List (Ex × Sh) := [(.ret, ⟨[(4, false, [.bool])], []⟩), (.exit 0, ⟨[(4, false, [.undef])], []⟩)]
def w_eqEntryS_L0_mk (v0 : List Entr) (v1 : List Entr) (v2 : Int) : w_eqEntryS_L0_sh.T := (((v0, ()), ((v1, ()), ((v2, ()), ()))), ())
def w_eqEntryS_L0_mx0 (y0 : Bool) : Sh.T ⟨[(4, false, [.bool])], []⟩ := (((y0, ()), ()), ())
def w_eqEntryS_L0_mx1  : Sh.T ⟨[(4, false, [.undef])], []⟩ := ((((), ()), ()), ())
def w_eqEntryS_L0_B (v0 : List Entr) (v1 : List Entr) (v2 : Int) (γ : Type) (fail : γ) (next : w_eqEntryS_L0_sh.T → γ) (out : WT w_eqEntryS_L0_es → γ) : γ :=
  bif (decide (v2 < (v0.length : Int))) then
    bif ((decide (0 ≤ v2)) && (decide (v2 < (v0.length : Int)))) then
    bif ((decide (0 ≤ v2)) && (decide (v2 < (v1.length : Int)))) then
    letK (α := Bool) (w_eqEntry (v0.getD v2.toNat (Ty.zero .entr)) (v1.getD v2.toNat (Ty.zero .entr))) fun c1 =>
    bif (!c1) then
      out (Sum.inl (w_eqEntryS_L0_mx0 false))
    else
    next (w_eqEntryS_L0_mk v0 v1 (IntKind.wrap .i64 (v2 + 1)))
    else fail
    else fail
  else
  out (Sum.inr (w_eqEntryS_L0_mx1 ))
theorem w_eqEntryS_L0_par (v0 : List Entr) (v1 : List Entr) (v2 : Int) (γ : Type) (fail : γ) (next : w_eqEntryS_L0_sh.T → γ) (out : WT w_eqEntryS_L0_es → γ) : w_eqEntryS_L0_B v0 v1 v2 γ fail next out = optK (w_eqEntryS_L0_B v0 v1 v2 _ none (fun v' => some (.inl v')) (fun w => some (.inr w))) fail (fun r => Sum.elim next out r) := by
  unfold w_eqEntryS_L0_B
  exact bifT (f := (fun o => optK o fail (fun r => Sum.elim next out r))) (fun _ => bifT (f := (fun o => optK o fail (fun r => Sum.elim next out r))) (fun _ => bifT (f := (fun o => optK o fail (fun r => Sum.elim next out r))) (fun _ => letT (f := (fun o => optK o fail (fun r => Sum.elim next out r))) (fun c1 _ => bifT (f := (fun o => optK o fail (fun r => Sum.elim next out r))) (fun _ => rfl)
      (fun _ => rfl))) (fun _ => rfl)) (fun _ => rfl))
      (fun _ => rfl)
def w_eqEntryS_L0_r : Round w_eqEntryS_L0_sh.T (WT w_eqEntryS_L0_es) where
  B v γ fail next out := w_eqEntryS_L0_B v.1.1.1 v.1.2.1.1 v.1.2.2.1.1 γ fail next out
  par v γ fail next out := w_eqEntryS_L0_par v.1.1.1 v.1.2.1.1 v.1.2.2.1.1 γ fail next out
def w_eqEntryS_L0_fu (v0 : List Entr) (v1 : List Entr) (v2 : Int) : Nat := (Int.toNat ((v0.length : Int) - v2)) + 1
theorem w_eqEntryS_L0_lk (v : w_eqEntryS_L0_sh.T) (next : St → Option Res) (k : Ex → St → Option Res) : evalK te (orcOf (P := Try.prog) [w_eqEntry_e]) (lorcOf []) Try.f139.ntmps w_eqEntryS_ann (nthLoop (bodyOf Try.f139) 0 0) 0 (w_eqEntryS_L0_sh.enc v) (endK ⟨[0, 1, 5], [], false, 0⟩ ⟨[4], [], false, 0⟩ next k) =
  w_eqEntryS_L0_r.B v _ none (fun v' => next (w_eqEntryS_L0_sh.enc v')) (fun w => outK w_eqEntryS_L0_es k w) := by kernel_rfl
def w_eqEntryS_L0_le : LE := leOf 0 w_eqEntryS_L0_sh w_eqEntryS_L0_es w_eqEntryS_L0_r.step (fun v => w_eqEntryS_L0_fu v.1.1.1 v.1.2.1.1 v.1.2.2.1.1)
theorem w_eqEntryS_L0_ls (w0 : World) (mo : Mts) (I0 : Nat → Prop) (hmo : mo.length = 0) : LSem Try.prog (Sim w0 mo Try.f139.ntmps I0) (fun b s k => match Nat.beq 0 b with | true => w_eqEntryS_L0_le.run s k | false => none) 0 (nthLoop (bodyOf Try.f139) 0 0) :=
  le_sem hmo (lorc := lorcOf []) (ann := w_eqEntryS_ann) (keep := ⟨[0, 1, 5], [], false, 0⟩) (kout := ⟨[4], [], false, 0⟩) teFact mixFact (orcOf_ok _) (by kernel_rfl) (allLoops_of (bs := []) (by kernel_rfl) trivial) w_eqEntryS_L0_r _ w_eqEntryS_L0_lk
def w_eqEntryS_L0_f (v0 : List Entr) (v1 : List Entr) (v2 : Int) (a : Unit) : Stp (Unit) ((Unit)) :=
  letK (α := Bool) (w_eqEntry (v0.getD v2.toNat (Ty.zero .entr)) (v1.getD v2.toNat (Ty.zero .entr))) fun c1 =>
  bif (!c1) then
    .out (())
  else
  .next ()
theorem w_eqEntryS_L0_st (v0 : List Entr) (v1 : List Entr) (v2 : Int) (hlo : 0 ≤ v2) (hhi : v2 < (v0.length : Int)) (hN : (v0.length : Int) ≤ 4611686018427387904) (hi0 : (v0.length : Int) ≤ (v1.length : Int)) : w_eqEntryS_L0_r.step (w_eqEntryS_L0_mk v0 v1 v2) = Stp.elim (fun a' : Unit => some (Sum.inl (w_eqEntryS_L0_mk v0 v1 (v2 + 1)))) (fun w => some (Sum.inr ((fun p : Unit => Sum.inl (w_eqEntryS_L0_mx0 false)) w))) (w_eqEntryS_L0_f v0 v1 v2 ()) := by
  have hw : (IntKind.wrap .i64 (v2 + 1)) = v2 + 1 := wrap64 (by omega) (by omega)
  show w_eqEntryS_L0_B v0 v1 v2 (Option (w_eqEntryS_L0_sh.T ⊕ WT w_eqEntryS_L0_es)) none (fun v' => some (Sum.inl v')) (fun w => some (Sum.inr w)) = _
  unfold w_eqEntryS_L0_B w_eqEntryS_L0_f
  exact bifG (by simp only [decide_eq_true_eq]; omega) (bifG (by (try simp only [Nat.ble_eq, Bool.and_eq_true, decide_eq_true_eq]); grind [maxSl, maxStr, toBytes_length, toInts_length, List.length_set, wrap64]) (bifG (by (try simp only [Nat.ble_eq, Bool.and_eq_true, decide_eq_true_eq]); grind [maxSl, maxStr, toBytes_length, toInts_length, List.length_set, wrap64]) (letT (f := (Stp.elim (fun a' : Unit => some (Sum.inl (w_eqEntryS_L0_mk v0 v1 (v2 + 1)))) (fun w => some (Sum.inr ((fun p : Unit => Sum.inl (w_eqEntryS_L0_mx0 false)) w))))) (fun c1 hc1 => bifT (f := (Stp.elim (fun a' : Unit => some (Sum.inl (w_eqEntryS_L0_mk v0 v1 (v2 + 1)))) (fun w => some (Sum.inr ((fun p : Unit => Sum.inl (w_eqEntryS_L0_mx0 false)) w))))) (fun b0 => rfl)
      (fun b0 => (by exact congrArg (fun z => some (Sum.inl (w_eqEntryS_L0_mk v0 v1 z))) hw))))))
theorem w_eqEntryS_L0_cl (v0 : List Entr) (v1 : List Entr) (v2 : Int) (h0 : 0 ≤ v2) (h1 : (v0.length : Int) ≤ 4611686018427387904) (h2 : (v0.length : Int) ≤ (v1.length : Int)) : loopF w_eqEntryS_L0_r.step (w_eqEntryS_L0_fu v0 v1 v2) (w_eqEntryS_L0_mk v0 v1 v2) = some (Stp.elim (fun a => (fun i a => Sum.inr (w_eqEntryS_L0_mx1 )) (v2 + 1 * (((Int.toNat ((v0.length : Int) - v2)) : Nat) : Int)) a) (fun p : Unit => Sum.inl (w_eqEntryS_L0_mx0 false)) (forN (w_eqEntryS_L0_f v0 v1) 1 (Int.toNat ((v0.length : Int) - v2)) v2 ())) :=
  forN_loop (step := w_eqEntryS_L0_r.step) (mk := fun v2 a => w_eqEntryS_L0_mk v0 v1 v2) (f := w_eqEntryS_L0_f v0 v1) (e := (fun i a => Sum.inr (w_eqEntryS_L0_mx1 ))) (emb := (fun p : Unit => Sum.inl (w_eqEntryS_L0_mx0 false))) (st := 1) (Inv := fun v2 a => True) (Int.toNat ((v0.length : Int) - v2)) v2 () _ (Nat.lt_succ_self _) trivial
    (fun j a hj hv => ⟨w_eqEntryS_L0_st v0 v1 (v2 + 1 * (j : Int)) (by omega) (by omega) (by omega) h2, fun _ _ => trivial⟩)
    (fun a hv => by
      show w_eqEntryS_L0_B v0 v1 (v2 + 1 * (((Int.toNat ((v0.length : Int) - v2)) : Nat) : Int)) (Option (w_eqEntryS_L0_sh.T ⊕ WT w_eqEntryS_L0_es)) none (fun v' => some (Sum.inl v')) (fun w => some (Sum.inr w)) = _
      unfold w_eqEntryS_L0_B
      exact bifN (by simp only [decide_eq_false_iff_not]; omega) rfl)
def w_eqEntryS_N (x0 : List Entr) (x1 : List Entr) (γ : Type) (fail : γ) (k : Bool → γ) : γ :=
  bif ((x0.length : Int) != (x1.length : Int)) then
    k false
  else
  optK (loopF w_eqEntryS_L0_r.step (w_eqEntryS_L0_fu x0 x1 0) (w_eqEntryS_L0_mk x0 x1 0)) fail fun w2 =>
    Sum.elim (fun w2 =>
      k w2.1.1.1)
    (fun w2 =>
      k true) w2
def w_eqEntryS (x0 : List Entr) (x1 : List Entr) : Bool :=
  bif ((x0.length : Int) != (x1.length : Int)) then
    false
  else
  Stp.elim (fun a3 =>
    true)
    (fun p3 =>
      false)
    (forN (w_eqEntryS_L0_f x0 x1) 1 (Int.toNat ((x0.length : Int) - 0)) 0 ())
theorem w_eqEntryS_lk (x0 : List Entr) (x1 : List Entr) : evalFn te (orcOf (P := Try.prog) [w_eqEntry_e]) (lorcOf [w_eqEntryS_L0_le]) w_eqEntryS_ann Try.f139 (pvs [.sc (.sl .entr), .sc (.sl .entr)] (x0, x1, ())) =
  w_eqEntryS_N x0 x1 _ none (fun v => some [(false, [RC.c (.bool v)])]) := by kernel_rfl
theorem w_eqEntryS_p (x0 : List Entr) (x1 : List Entr) (hx0 : x0.length ≤ 140737488355328) (hx1 : x1.length ≤ 140737488355328)  (γ : Type) (fail : γ) (k : Bool → γ) : w_eqEntryS_N x0 x1 γ fail k = k (w_eqEntryS x0 x1) := by
  unfold w_eqEntryS_N w_eqEntryS
  exact bifT (f := k) (fun b0 => rfl)
      (fun b0 => loopT (f := k) (w_eqEntryS_L0_cl x0 x1 0 (by (try simp only [Nat.ble_eq, Bool.and_eq_true, decide_eq_true_eq, w_eqEntryS_L0_mx0, w_eqEntryS_L0_mx1]); grind [maxSl, maxStr, toBytes_length, toInts_length, List.length_set, wrap64]) (by (try simp only [Nat.ble_eq, Bool.and_eq_true, decide_eq_true_eq, w_eqEntryS_L0_mx0, w_eqEntryS_L0_mx1]); grind [maxSl, maxStr, toBytes_length, toInts_length, List.length_set, wrap64]) (by (try simp only [Nat.ble_eq, Bool.and_eq_true, decide_eq_true_eq, w_eqEntryS_L0_mx0, w_eqEntryS_L0_mx1]); grind [maxSl, maxStr, toBytes_length, toInts_length, List.length_set, wrap64])) (fun a3 => rfl)
      (fun p3 => rfl))
theorem w_eqEntryS_c (x0 : List Entr) (x1 : List Entr)  : Con Try.prog 139 (pvs [.sc (.sl .entr), .sc (.sl .entr)] (x0, x1, ())) [rv (.sc .bool) [] (w_eqEntryS x0 x1)] := by
  refine Con.of_facts (enters_of Try.func139 rfl (by kernel_rfl)) fun hf => ?_
  replace hf := factAt hf
  exact evalFn_conL teFact mixFact (orcOf_ok _) Try.func139 (by kernel_rfl) (bs := [0]) (by kernel_rfl) (by kernel_rfl) (fun w0 mo I0 hmo => ⟨lsem_of_lorc (w_eqEntryS_L0_ls w0 mo I0 hmo) (by kernel_rfl), trivial⟩) ((w_eqEntryS_lk x0 x1).trans (w_eqEntryS_p x0 x1 ((hf 0 0 rfl rfl).len) ((hf 1 0 rfl rfl).len) _ _ _))
noncomputable def w_eqEntryS_e : Ent1 Try.prog := entA 139 [.sc (.sl .entr), .sc (.sl .entr)] (fun x => (w_eqEntryS x.1 x.2.1)) (fun v => [rv (.sc .bool) [] v]) (fun x => w_eqEntryS_c x.1 x.2.1)


/-- impl.SameMac -/
def i_SameMac_N (x0 : Mac) (x1 : Mac) (γ : Type) (fail : γ) (k : Bool → γ) : γ :=
  bif (x0.use == x1.use) then
    bif (x0.k == x1.k) then
      bif (x0.l == x1.l) then
        letK (α := Bool) (g_Equal_MacRow x0.rows x1.rows) fun c1 =>
        k c1
      else
      k false
    else
    k false
  else
  k false
def i_SameMac (x0 : Mac) (x1 : Mac) : Bool :=
  bif (x0.use == x1.use) then
    bif (x0.k == x1.k) then
      bif (x0.l == x1.l) then
        letK (α := Bool) (g_Equal_MacRow x0.rows x1.rows) fun c1 =>
        c1
      else
      false
    else
    false
  else
  false
theorem i_SameMac_lk (x0 : Mac) (x1 : Mac) : evalFn te (orcOf (P := Try.prog) [g_Equal_MacRow_e]) lorc0 [] Try.f150 (pvs [.st .mac, .st .mac] (x0, x1, ())) =
  i_SameMac_N x0 x1 _ none (fun v => some [(false, [RC.c (.bool v)])]) := by kernel_rfl
theorem i_SameMac_p (x0 : Mac) (x1 : Mac)   (γ : Type) (fail : γ) (k : Bool → γ) : i_SameMac_N x0 x1 γ fail k = k (i_SameMac x0 x1) := by
  unfold i_SameMac_N i_SameMac
  exact bifT (f := k) (fun b0 => bifT (f := k) (fun b1 => bifT (f := k) (fun b2 => letT (f := k) (fun c1 hc1 => rfl))
      (fun b2 => rfl))
      (fun b1 => rfl))
      (fun b0 => rfl)
theorem i_SameMac_c (x0 : Mac) (x1 : Mac)  : Con Try.prog 150 (pvs [.st .mac, .st .mac] (x0, x1, ())) [rv (.sc .bool) [] (i_SameMac x0 x1)] := by
  exact evalFn_con0 teFact mixFact (orcOf_ok _) Try.func150 (by kernel_rfl) ((i_SameMac_lk x0 x1).trans (i_SameMac_p x0 x1  _ _ _))
noncomputable def i_SameMac_e : Ent1 Try.prog := entA 150 [.st .mac, .st .mac] (fun x => (i_SameMac x.1 x.2.1)) (fun v => [rv (.sc .bool) [] v]) (fun x => i_SameMac_c x.1 x.2.1)


/-- laws.szMacRowS -/
def w_szMacRowS_ann : List (Nat × Keep) := [(0, ⟨[0, 1, 5], [], false, 0⟩)]
def w_szMacRowS_L0_sh : Sh := ⟨[(0, false, [.sl .arg .macRow]), (1, false, [.int .i64]), (5, false, [.int .i64])], []⟩
def w_szMacRowS_L0_es : List (Ex × Sh) := [(.ret, ⟨[(1, false, [.int .i64]), (4, false, [.int .i64])], []⟩), (.exit 0, ⟨[(1, false, [.int .i64]), (4, false, [.undef])], []⟩)]
def w_szMacRowS_L0_mk (v0 : List MacRow) (v1 : Int) (v2 : Int) : w_szMacRowS_L0_sh.T := (((v0, ()), ((v1, ()), ((v2, ()), ()))), ())
def w_szMacRowS_L0_mx0 (y0 : Int) (y1 : Int) : Sh.T ⟨[(1, false, [.int .i64]), (4, false, [.int .i64])], []⟩ := (((y0, ()), ((y1, ()), ())), ())
def w_szMacRowS_L0_mx1 (y0 : Int) : Sh.T ⟨[(1, false, [.int .i64]), (4, false, [.undef])], []⟩ := (((y0, ()), (((), ()), ())), ())
def w_szMacRowS_L0_B (v0 : List MacRow) (v1 : Int) (v2 : Int) (γ : Type) (fail : γ) (next : w_szMacRowS_L0_sh.T → γ) (out : WT w_szMacRowS_L0_es → γ) : γ :=
  bif (decide (v2 < (v0.length : Int))) then
    bif ((decide (0 ≤ v2)) && (decide (v2 < (v0.length : Int)))) then
    letK (α := Int) (w_szMacRow (v0.getD v2.toNat (Ty.zero .macRow)) v1) fun c1 =>
    bif (decide (c1 < 0)) then
      out (Sum.inl (w_szMacRowS_L0_mx0 c1 (-1)))
    else
    next (w_szMacRowS_L0_mk v0 c1 (IntKind.wrap .i64 (v2 + 1)))
    else fail
  else
  out (Sum.inr (w_szMacRowS_L0_mx1 v1))
theorem w_szMacRowS_L0_par (v0 : List MacRow) (v1 : Int) (v2 : Int) (γ : Type) (fail : γ) (next : w_szMacRowS_L0_sh.T → γ) (out : WT w_szMacRowS_L0_es → γ) : w_szMacRowS_L0_B v0 v1 v2 γ fail next out = optK (w_szMacRowS_L0_B v0 v1 v2 _ none (fun v' => some (.inl v')) (fun w => some (.inr w))) fail (fun r => Sum.elim next out r) := by
  unfold w_szMacRowS_L0_B
  exact bifT (f := (fun o => optK o fail (fun r => Sum.elim next out r))) (fun _ => bifT (f := (fun o => optK o fail (fun r => Sum.elim next out r))) (fun _ => letT (f := (fun o => optK o fail (fun r => Sum.elim next out r))) (fun c1 _ => bifT (f := (fun o => optK o fail (fun r => Sum.elim next out r))) (fun _ => rfl)
      (fun _ => rfl))) (fun _ => rfl))
      (fun _ => rfl)
def w_szMacRowS_L0_r : Round w_szMacRowS_L0_sh.T (WT w_szMacRowS_L0_es) where
  B v γ fail next out := w_szMacRowS_L0_B v.1.1.1 v.1.2.1.1 v.1.2.2.1.1 γ fail next out
  par v γ fail next out := w_szMacRowS_L0_par v.1.1.1 v.1.2.1.1 v.1.2.2.1.1 γ fail next out
def w_szMacRowS_L0_fu (v0 : List MacRow) (v1 : Int) (v2 : Int) : Nat := (Int.toNat ((v0.length : Int) - v2)) + 1
theorem w_szMacRowS_L0_lk (v : w_szMacRowS_L0_sh.T) (next : St → Option Res) (k : Ex → St → Option Res) : evalK te (orcOf (P := Try.prog) [w_szMacRow_e]) (lorcOf []) Try.f158.ntmps w_szMacRowS_ann (nthLoop (bodyOf Try.f158) 0 0) 0 (w_szMacRowS_L0_sh.enc v) (endK ⟨[0, 1, 5], [], false, 0⟩ ⟨[1, 4], [], false, 0⟩ next k) =
  w_szMacRowS_L0_r.B v _ none (fun v' => next (w_szMacRowS_L0_sh.enc v')) (fun w => outK w_szMacRowS_L0_es k w) := by kernel_rfl
def w_szMacRowS_L0_le : LE := leOf 0 w_szMacRowS_L0_sh w_szMacRowS_L0_es w_szMacRowS_L0_r.step (fun v => w_szMacRowS_L0_fu v.1.1.1 v.1.2.1.1 v.1.2.2.1.1)
theorem w_szMacRowS_L0_ls (w0 : World) (mo : Mts) (I0 : Nat → Prop) (hmo : mo.length = 0) : LSem Try.prog (Sim w0 mo Try.f158.ntmps I0) (fun b s k => match Nat.beq 0 b with | true => w_szMacRowS_L0_le.run s k | false => none) 0 (nthLoop (bodyOf Try.f158) 0 0) :=
  le_sem hmo (lorc := lorcOf []) (ann := w_szMacRowS_ann) (keep := ⟨[0, 1, 5], [], false, 0⟩) (kout := ⟨[1, 4], [], false, 0⟩) teFact mixFact (orcOf_ok _) (by kernel_rfl) (allLoops_of (bs := []) (by kernel_rfl) trivial) w_szMacRowS_L0_r _ w_szMacRowS_L0_lk
def w_szMacRowS_L0_f (v0 : List MacRow) (v2 : Int) (a : Int) : Stp (Int) ((Int)) :=
  letK (α := Int) (w_szMacRow (v0.getD v2.toNat (Ty.zero .macRow)) a) fun c1 =>
  bif (decide (c1 < 0)) then
    .out (c1)
  else
  .next c1
theorem w_szMacRowS_L0_st (v0 : List MacRow) (v1 : Int) (v2 : Int) (hlo : 0 ≤ v2) (hhi : v2 < (v0.length : Int)) (hN : (v0.length : Int) ≤ 4611686018427387904) : w_szMacRowS_L0_r.step (w_szMacRowS_L0_mk v0 v1 v2) = Stp.elim (fun a' : Int => some (Sum.inl (w_szMacRowS_L0_mk v0 a' (v2 + 1)))) (fun w => some (Sum.inr ((fun p : Int => Sum.inl (w_szMacRowS_L0_mx0 p (-1))) w))) (w_szMacRowS_L0_f v0 v2 v1) := by
  have hw : (IntKind.wrap .i64 (v2 + 1)) = v2 + 1 := wrap64 (by omega) (by omega)
  show w_szMacRowS_L0_B v0 v1 v2 (Option (w_szMacRowS_L0_sh.T ⊕ WT w_szMacRowS_L0_es)) none (fun v' => some (Sum.inl v')) (fun w => some (Sum.inr w)) = _
  unfold w_szMacRowS_L0_B w_szMacRowS_L0_f
  exact bifG (by simp only [decide_eq_true_eq]; omega) (bifG (by (try simp only [Nat.ble_eq, Bool.and_eq_true, decide_eq_true_eq]); grind [maxSl, maxStr, toBytes_length, toInts_length, List.length_set, wrap64, w_szMacRow_sm]) (letT (f := (Stp.elim (fun a' : Int => some (Sum.inl (w_szMacRowS_L0_mk v0 a' (v2 + 1)))) (fun w => some (Sum.inr ((fun p : Int => Sum.inl (w_szMacRowS_L0_mx0 p (-1))) w))))) (fun c1 hc1 => bifT (f := (Stp.elim (fun a' : Int => some (Sum.inl (w_szMacRowS_L0_mk v0 a' (v2 + 1)))) (fun w => some (Sum.inr ((fun p : Int => Sum.inl (w_szMacRowS_L0_mx0 p (-1))) w))))) (fun b0 => rfl)
      (fun b0 => (by exact congrArg (fun z => some (Sum.inl (w_szMacRowS_L0_mk v0 c1 z))) hw)))))
theorem w_szMacRowS_L0_cl (v0 : List MacRow) (v1 : Int) (v2 : Int) (h0 : 0 ≤ v2) (h1 : (v0.length : Int) ≤ 4611686018427387904) : loopF w_szMacRowS_L0_r.step (w_szMacRowS_L0_fu v0 v1 v2) (w_szMacRowS_L0_mk v0 v1 v2) = some (Stp.elim (fun a => (fun i a => Sum.inr (w_szMacRowS_L0_mx1 a)) (v2 + 1 * (((Int.toNat ((v0.length : Int) - v2)) : Nat) : Int)) a) (fun p : Int => Sum.inl (w_szMacRowS_L0_mx0 p (-1))) (forN (w_szMacRowS_L0_f v0) 1 (Int.toNat ((v0.length : Int) - v2)) v2 v1)) :=
  forN_loop (step := w_szMacRowS_L0_r.step) (mk := fun v2 a => w_szMacRowS_L0_mk v0 a v2) (f := w_szMacRowS_L0_f v0) (e := (fun i a => Sum.inr (w_szMacRowS_L0_mx1 a))) (emb := (fun p : Int => Sum.inl (w_szMacRowS_L0_mx0 p (-1)))) (st := 1) (Inv := fun v2 a => True) (Int.toNat ((v0.length : Int) - v2)) v2 v1 _ (Nat.lt_succ_self _) trivial
    (fun j a hj hv => ⟨w_szMacRowS_L0_st v0 a (v2 + 1 * (j : Int)) (by omega) (by omega) (by omega), fun _ _ => trivial⟩)
    (fun a hv => by
      show w_szMacRowS_L0_B v0 a (v2 + 1 * (((Int.toNat ((v0.length : Int) - v2)) : Nat) : Int)) (Option (w_szMacRowS_L0_sh.T ⊕ WT w_szMacRowS_L0_es)) none (fun v' => some (Sum.inl v')) (fun w => some (Sum.inr w)) = _
      unfold w_szMacRowS_L0_B
      exact bifN (by simp only [decide_eq_false_iff_not]; omega) rfl)
def w_szMacRowS_N (x0 : List MacRow) (x1 : Int) (γ : Type) (fail : γ) (k : Int → γ) : γ :=
  bif (decide ((IntKind.wrap .i64 (x1 - (x0.length : Int))) < 0)) then
    k (-1)
  else
  optK (loopF w_szMacRowS_L0_r.step (w_szMacRowS_L0_fu x0 (IntKind.wrap .i64 (x1 - (x0.length : Int))) 0) (w_szMacRowS_L0_mk x0 (IntKind.wrap .i64 (x1 - (x0.length : Int))) 0)) fail fun w2 =>
    Sum.elim (fun w2 =>
      k w2.1.2.1.1)
    (fun w2 =>
      k w2.1.1.1) w2
def w_szMacRowS (x0 : List MacRow) (x1 : Int) : Int :=
  bif (decide ((IntKind.wrap .i64 (x1 - (x0.length : Int))) < 0)) then
    (-1)
  else
  Stp.elim (fun a3 =>
    a3)
    (fun p3 =>
      (-1))
    (forN (w_szMacRowS_L0_f x0) 1 (Int.toNat ((x0.length : Int) - 0)) 0 (IntKind.wrap .i64 (x1 - (x0.length : Int))))
theorem w_szMacRowS_lk (x0 : List MacRow) (x1 : Int) : evalFn te (orcOf (P := Try.prog) [w_szMacRow_e]) (lorcOf [w_szMacRowS_L0_le]) w_szMacRowS_ann Try.f158 (pvs [.sc (.sl .macRow), .sc (.int .i64)] (x0, x1, ())) =
  w_szMacRowS_N x0 x1 _ none (fun v => some [(false, [RC.c (.int .i64 v)])]) := by kernel_rfl
theorem w_szMacRowS_p (x0 : List MacRow) (x1 : Int) (hx0 : x0.length ≤ 140737488355328) (hx0_e : ∀ y ∈ x0, ∀ c ∈ Ty.cells .macRow y, FactC c) (hx1 : inK .i64 x1)  (γ : Type) (fail : γ) (k : Int → γ) : w_szMacRowS_N x0 x1 γ fail k = k (w_szMacRowS x0 x1) := by
  unfold w_szMacRowS_N w_szMacRowS
  exact bifT (f := k) (fun b0 => rfl)
      (fun b0 => loopT (f := k) (w_szMacRowS_L0_cl x0 (IntKind.wrap .i64 (x1 - (x0.length : Int))) 0 (by (try simp only [Nat.ble_eq, Bool.and_eq_true, decide_eq_true_eq, w_szMacRowS_L0_mx0, w_szMacRowS_L0_mx1]); grind [maxSl, maxStr, toBytes_length, toInts_length, List.length_set, wrap64, w_szMacRow_sm]) (by (try simp only [Nat.ble_eq, Bool.and_eq_true, decide_eq_true_eq, w_szMacRowS_L0_mx0, w_szMacRowS_L0_mx1]); grind [maxSl, maxStr, toBytes_length, toInts_length, List.length_set, wrap64, w_szMacRow_sm])) (fun a3 => rfl)
      (fun p3 => rfl))
theorem w_szMacRowS_c (x0 : List MacRow) (x1 : Int)  : Con Try.prog 158 (pvs [.sc (.sl .macRow), .sc (.int .i64)] (x0, x1, ())) [rv (.sc (.int .i64)) [] (w_szMacRowS x0 x1)] := by
  refine Con.of_facts (enters_of Try.func158 rfl (by kernel_rfl)) fun hf => ?_
  replace hf := factAt hf
  exact evalFn_conL teFact mixFact (orcOf_ok _) Try.func158 (by kernel_rfl) (bs := [0]) (by kernel_rfl) (by kernel_rfl) (fun w0 mo I0 hmo => ⟨lsem_of_lorc (w_szMacRowS_L0_ls w0 mo I0 hmo) (by kernel_rfl), trivial⟩) ((w_szMacRowS_lk x0 x1).trans (w_szMacRowS_p x0 x1 ((hf 0 0 rfl rfl).len) (fun y hy => (hf 0 0 rfl rfl).elem hy) ((hf 1 0 rfl rfl).rng) _ _ _))
noncomputable def w_szMacRowS_e : Ent1 Try.prog := entA 158 [.sc (.sl .macRow), .sc (.int .i64)] (fun x => (w_szMacRowS x.1 x.2.1)) (fun v => [rv (.sc (.int .i64)) [] v]) (fun x => w_szMacRowS_c x.1 x.2.1)


/-- laws.toMacRowS -/
def w_toMacRowS_ann : List (Nat × Keep) := [(0, ⟨[0, 3, 4], [], false, 0⟩)]
def w_toMacRowS_L0_sh : Sh := ⟨[(0, false, [.sl .arg .macRow]), (3, false, [.own 0]), (4, false, [.int .i64])], [.arr .macRow false true]⟩
def w_toMacRowS_L0_es : List (Ex × Sh) := [(.exit 0, ⟨[(2, false, [.undef]), (3, false, [.own 0])], [.arr .macRow false true]⟩)]
def w_toMacRowS_L0_mk (v0 : List MacRow) (v1 : Int) (v2 : List MacRow) : w_toMacRowS_L0_sh.T := (((v0, ()), (((), ()), ((v1, ()), ()))), (v2, ()))
def w_toMacRowS_L0_mx0 (y0 : List MacRow) : Sh.T ⟨[(2, false, [.undef]), (3, false, [.own 0])], [.arr .macRow false true]⟩ := ((((), ()), (((), ()), ())), (y0, ()))
def w_toMacRowS_L0_B (v0 : List MacRow) (v1 : Int) (v2 : List MacRow) (γ : Type) (fail : γ) (next : w_toMacRowS_L0_sh.T → γ) (out : WT w_toMacRowS_L0_es → γ) : γ :=
  bif (decide (v1 < (v0.length : Int))) then
    bif ((decide (0 ≤ v1)) && (decide (v1 < (v0.length : Int)))) then
    letK (α := MacRow) (w_toMacRow (v0.getD v1.toNat (Ty.zero .macRow))) fun c1 =>
    bif ((decide (0 ≤ v1)) && (decide (v1 < (v2.length : Int)))) then
    next (w_toMacRowS_L0_mk v0 (IntKind.wrap .i64 (v1 + 1)) (v2.set v1.toNat c1))
    else fail
    else fail
  else
  out (w_toMacRowS_L0_mx0 v2)
theorem w_toMacRowS_L0_par (v0 : List MacRow) (v1 : Int) (v2 : List MacRow) (γ : Type) (fail : γ) (next : w_toMacRowS_L0_sh.T → γ) (out : WT w_toMacRowS_L0_es → γ) : w_toMacRowS_L0_B v0 v1 v2 γ fail next out = optK (w_toMacRowS_L0_B v0 v1 v2 _ none (fun v' => some (.inl v')) (fun w => some (.inr w))) fail (fun r => Sum.elim next out r) := by
  unfold w_toMacRowS_L0_B
  exact bifT (f := (fun o => optK o fail (fun r => Sum.elim next out r))) (fun _ => bifT (f := (fun o => optK o fail (fun r => Sum.elim next out r))) (fun _ => letT (f := (fun o => optK o fail (fun r => Sum.elim next out r))) (fun c1 _ => bifT (f := (fun o => optK o fail (fun r => Sum.elim next out r))) (fun _ => rfl) (fun _ => rfl))) (fun _ => rfl))
      (fun _ => rfl)
def w_toMacRowS_L0_r : Round w_toMacRowS_L0_sh.T (WT w_toMacRowS_L0_es) where
  B v γ fail next out := w_toMacRowS_L0_B v.1.1.1 v.1.2.2.1.1 v.2.1 γ fail next out
  par v γ fail next out := w_toMacRowS_L0_par v.1.1.1 v.1.2.2.1.1 v.2.1 γ fail next out
def w_toMacRowS_L0_fu (v0 : List MacRow) (v1 : Int) (v2 : List MacRow) : Nat := (Int.toNat ((v0.length : Int) - v1)) + 1
theorem w_toMacRowS_L0_lk (v : w_toMacRowS_L0_sh.T) (next : St → Option Res) (k : Ex → St → Option Res) : evalK te (orcOf (P := Try.prog) [w_toMacRow_e]) (lorcOf []) Try.f160.ntmps w_toMacRowS_ann (nthLoop (bodyOf Try.f160) 0 0) 0 (w_toMacRowS_L0_sh.enc v) (endK ⟨[0, 3, 4], [], false, 0⟩ ⟨[2, 3], [], false, 0⟩ next k) =
  w_toMacRowS_L0_r.B v _ none (fun v' => next (w_toMacRowS_L0_sh.enc v')) (fun w => outK w_toMacRowS_L0_es k w) := by kernel_rfl
def w_toMacRowS_L0_le : LE := leOf 0 w_toMacRowS_L0_sh w_toMacRowS_L0_es w_toMacRowS_L0_r.step (fun v => w_toMacRowS_L0_fu v.1.1.1 v.1.2.2.1.1 v.2.1)
theorem w_toMacRowS_L0_ls (w0 : World) (mo : Mts) (I0 : Nat → Prop) (hmo : mo.length = 0) : LSem Try.prog (Sim w0 mo Try.f160.ntmps I0) (fun b s k => match Nat.beq 0 b with | true => w_toMacRowS_L0_le.run s k | false => none) 0 (nthLoop (bodyOf Try.f160) 0 0) :=
  le_sem hmo (lorc := lorcOf []) (ann := w_toMacRowS_ann) (keep := ⟨[0, 3, 4], [], false, 0⟩) (kout := ⟨[2, 3], [], false, 0⟩) teFact mixFact (orcOf_ok _) (by kernel_rfl) (allLoops_of (bs := []) (by kernel_rfl) trivial) w_toMacRowS_L0_r _ w_toMacRowS_L0_lk
def w_toMacRowS_L0_f (v0 : List MacRow) (v1 : Int) (a : List MacRow) : Stp (List MacRow) (Empty) :=
  letK (α := MacRow) (w_toMacRow (v0.getD v1.toNat (Ty.zero .macRow))) fun c1 =>
  .next (a.set v1.toNat c1)
theorem w_toMacRowS_L0_st (v0 : List MacRow) (v1 : Int) (v2 : List MacRow) (hlo : 0 ≤ v1) (hhi : v1 < (v0.length : Int)) (hN : (v0.length : Int) ≤ 4611686018427387904) (hinv : (v0.length : Int) ≤ (v2.length : Int)) : w_toMacRowS_L0_r.step (w_toMacRowS_L0_mk v0 v1 v2) = Stp.elim (fun a' : List MacRow => some (Sum.inl (w_toMacRowS_L0_mk v0 (v1 + 1) a'))) (fun w => some (Sum.inr ((fun p : Empty => nomatch p) w))) (w_toMacRowS_L0_f v0 v1 v2) := by
  have hw : (IntKind.wrap .i64 (v1 + 1)) = v1 + 1 := wrap64 (by omega) (by omega)
  show w_toMacRowS_L0_B v0 v1 v2 (Option (w_toMacRowS_L0_sh.T ⊕ WT w_toMacRowS_L0_es)) none (fun v' => some (Sum.inl v')) (fun w => some (Sum.inr w)) = _
  unfold w_toMacRowS_L0_B w_toMacRowS_L0_f
  exact bifG (by simp only [decide_eq_true_eq]; omega) (bifG (by (try simp only [Nat.ble_eq, Bool.and_eq_true, decide_eq_true_eq]); grind [maxSl, maxStr, toBytes_length, toInts_length, List.length_set, wrap64]) (letT (f := (Stp.elim (fun a' : List MacRow => some (Sum.inl (w_toMacRowS_L0_mk v0 (v1 + 1) a'))) (fun w => some (Sum.inr ((fun p : Empty => nomatch p) w))))) (fun c1 hc1 => bifG (by (try simp only [Nat.ble_eq, Bool.and_eq_true, decide_eq_true_eq]); grind [maxSl, maxStr, toBytes_length, toInts_length, List.length_set, wrap64]) ((by exact congrArg (fun z => some (Sum.inl (w_toMacRowS_L0_mk v0 z (v2.set v1.toNat c1)))) hw)))))
theorem w_toMacRowS_L0_cl (v0 : List MacRow) (v1 : Int) (v2 : List MacRow) (h0 : 0 ≤ v1) (h1 : (v0.length : Int) ≤ 4611686018427387904) (h2 : (v0.length : Int) ≤ (v2.length : Int)) : loopF w_toMacRowS_L0_r.step (w_toMacRowS_L0_fu v0 v1 v2) (w_toMacRowS_L0_mk v0 v1 v2) = some (Stp.elim (fun a => (fun i a => w_toMacRowS_L0_mx0 a) (v1 + 1 * (((Int.toNat ((v0.length : Int) - v1)) : Nat) : Int)) a) (fun p : Empty => nomatch p) (forN (w_toMacRowS_L0_f v0) 1 (Int.toNat ((v0.length : Int) - v1)) v1 v2)) :=
  forN_loop (step := w_toMacRowS_L0_r.step) (mk := fun v1 a => w_toMacRowS_L0_mk v0 v1 a) (f := w_toMacRowS_L0_f v0) (e := (fun i a => w_toMacRowS_L0_mx0 a)) (emb := (fun p : Empty => nomatch p)) (st := 1) (Inv := fun v1 a => (v0.length : Int) ≤ (a.length : Int)) (Int.toNat ((v0.length : Int) - v1)) v1 v2 _ (Nat.lt_succ_self _) h2
    (fun j a hj hv => ⟨w_toMacRowS_L0_st v0 (v1 + 1 * (j : Int)) a (by omega) (by omega) (by omega) hv, by
      intro a' he
      grind [w_toMacRowS_L0_f, letK, Stp.elim, wrap64, List.length_set]⟩)
    (fun a hv => by
      show w_toMacRowS_L0_B v0 (v1 + 1 * (((Int.toNat ((v0.length : Int) - v1)) : Nat) : Int)) a (Option (w_toMacRowS_L0_sh.T ⊕ WT w_toMacRowS_L0_es)) none (fun v' => some (Sum.inl v')) (fun w => some (Sum.inr w)) = _
      unfold w_toMacRowS_L0_B
      exact bifN (by simp only [decide_eq_false_iff_not]; omega) rfl)
theorem w_toMacRowS_L0_nx (v0 : List MacRow) (v1 : Int) (v2 : List MacRow) (h0 : 0 ≤ v1) (h1 : (v0.length : Int) ≤ 4611686018427387904) (h2 : (v0.length : Int) ≤ (v2.length : Int)) : ∀ a', forN (w_toMacRowS_L0_f v0) 1 (Int.toNat ((v0.length : Int) - v1)) v1 v2 = .next a' → (v0.length : Int) ≤ (a'.length : Int) :=
  forN_inv (f := w_toMacRowS_L0_f v0) (st := 1) (Inv := fun v1 a => (v0.length : Int) ≤ (a.length : Int)) (Int.toNat ((v0.length : Int) - v1)) v1 v2 h2
    (fun j a hj hv => by
      intro a' he
      grind [w_toMacRowS_L0_f, letK, Stp.elim, wrap64, List.length_set])
def w_toMacRowS_N (x0 : List MacRow) (γ : Type) (fail : γ) (k : List MacRow → γ) : γ :=
  bif ((((decide (0 ≤ (x0.length : Int))) && (decide ((x0.length : Int) = (x0.length : Int)))) && (decide ((x0.length : Int) * 24 ≤ (maxSl : Int)))) && (decide ((x0.length : Int) ≤ (maxSl : Int)))) then
  optK (loopF w_toMacRowS_L0_r.step (w_toMacRowS_L0_fu x0 0 (List.replicate ((x0.length : Int).toNat) (⟨[], 0⟩ : MacRow))) (w_toMacRowS_L0_mk x0 0 (List.replicate ((x0.length : Int).toNat) (⟨[], 0⟩ : MacRow)))) fail fun w2 =>
    k w2.2.1
  else fail
def w_toMacRowS (x0 : List MacRow) : List MacRow :=
  Stp.elim (fun a3 =>
    a3)
    (fun p : Empty => nomatch p)
    (forN (w_toMacRowS_L0_f x0) 1 (Int.toNat ((x0.length : Int) - 0)) 0 (List.replicate ((x0.length : Int).toNat) (⟨[], 0⟩ : MacRow)))
theorem w_toMacRowS_lk (x0 : List MacRow) : evalFn te (orcOf (P := Try.prog) [w_toMacRow_e]) (lorcOf [w_toMacRowS_L0_le]) w_toMacRowS_ann Try.f160 (pvs [.sc (.sl .macRow)] (x0, ())) =
  w_toMacRowS_N x0 _ none (fun v => some [(false, [RC.own true .macRow v])]) := by kernel_rfl
theorem w_toMacRowS_p (x0 : List MacRow) (hx0 : x0.length ≤ 140737488355328) (hx0_e : ∀ y ∈ x0, ∀ c ∈ Ty.cells .macRow y, FactC c) (hp : x0.length ≤ 4294967296) (γ : Type) (fail : γ) (k : List MacRow → γ) : w_toMacRowS_N x0 γ fail k = k (w_toMacRowS x0) := by
  unfold w_toMacRowS_N w_toMacRowS
  exact bifG (by (try simp only [Nat.ble_eq, Bool.and_eq_true, decide_eq_true_eq, w_toMacRowS_L0_mx0]); grind [maxSl, maxStr, toBytes_length, toInts_length, List.length_set, wrap64]) (loopX (f := k) (w_toMacRowS_L0_cl x0 0 (List.replicate ((x0.length : Int).toNat) (⟨[], 0⟩ : MacRow)) (by (try simp only [Nat.ble_eq, Bool.and_eq_true, decide_eq_true_eq, w_toMacRowS_L0_mx0]); grind [maxSl, maxStr, toBytes_length, toInts_length, List.length_set, wrap64]) (by (try simp only [Nat.ble_eq, Bool.and_eq_true, decide_eq_true_eq, w_toMacRowS_L0_mx0]); grind [maxSl, maxStr, toBytes_length, toInts_length, List.length_set, wrap64]) (by (try simp only [Nat.ble_eq, Bool.and_eq_true, decide_eq_true_eq, w_toMacRowS_L0_mx0]); grind [maxSl, maxStr, toBytes_length, toInts_length, List.length_set, wrap64])) (fun a3 ha3 => have ia3 := w_toMacRowS_L0_nx x0 0 (List.replicate ((x0.length : Int).toNat) (⟨[], 0⟩ : MacRow)) (by (try simp only [Nat.ble_eq, Bool.and_eq_true, decide_eq_true_eq, w_toMacRowS_L0_mx0]); grind [maxSl, maxStr, toBytes_length, toInts_length, List.length_set, wrap64]) (by (try simp only [Nat.ble_eq, Bool.and_eq_true, decide_eq_true_eq, w_toMacRowS_L0_mx0]); grind [maxSl, maxStr, toBytes_length, toInts_length, List.length_set, wrap64]) (by (try simp only [Nat.ble_eq, Bool.and_eq_true, decide_eq_true_eq, w_toMacRowS_L0_mx0]); grind [maxSl, maxStr, toBytes_length, toInts_length, List.length_set, wrap64]) _ ha3; rfl)
      (fun p : Empty => nomatch p))
theorem w_toMacRowS_c (x0 : List MacRow) (hp : x0.length ≤ 4294967296) : Con Try.prog 160 (pvs [.sc (.sl .macRow)] (x0, ())) [rv (.sc (.sl .macRow)) [.o true] (w_toMacRowS x0)] := by
  refine Con.of_facts (enters_of Try.func160 rfl (by kernel_rfl)) fun hf => ?_
  replace hf := factAt hf
  exact evalFn_conL teFact mixFact (orcOf_ok _) Try.func160 (by kernel_rfl) (bs := [0]) (by kernel_rfl) (by kernel_rfl) (fun w0 mo I0 hmo => ⟨lsem_of_lorc (w_toMacRowS_L0_ls w0 mo I0 hmo) (by kernel_rfl), trivial⟩) ((w_toMacRowS_lk x0).trans (w_toMacRowS_p x0 ((hf 0 0 rfl rfl).len) (fun y hy => (hf 0 0 rfl rfl).elem hy) hp _ _ _))
noncomputable def w_toMacRowS_e : Ent1 Try.prog := entP 160 [.sc (.sl .macRow)] (fun x => (decide (x.1.length ≤ 4294967296))) (fun x => (w_toMacRowS x.1)) (fun v => [rv (.sc (.sl .macRow)) [.o true] v]) (fun x hx => w_toMacRowS_c x.1 (of_decide_eq_true hx))


/-- laws.eqMacRowS -/
def w_eqMacRowS_ann : List (Nat × Keep) := [(0, ⟨[0, 1, 5], [], false, 0⟩)]
def w_eqMacRowS_L0_sh : Sh := ⟨[(0, false, [.sl .arg .macRow]), (1, false, [.sl .arg .macRow]), (5, false, [.int .i64])], []⟩
def w_eqMacRowS_L0_es : List (Ex × Sh) := [(.ret, ⟨[(4, false, [.bool])], []⟩), (.exit 0, ⟨[(4, false, [.undef])], []⟩)]
def w_eqMacRowS_L0_mk (v0 : List MacRow) (v1 : List MacRow) (v2 : Int) : w_eqMacRowS_L0_sh.T := (((v0, ()), ((v1, ()), ((v2, ()), ()))), ())
def w_eqMacRowS_L0_mx0 (y0 : Bool) : Sh.T ⟨[(4, false, [.bool])], []⟩ := (((y0, ()), ()), ())
def w_eqMacRowS_L0_mx1  : Sh.T ⟨[(4, false, [.undef])], []⟩ := ((((), ()), ()), ())
def w_eqMacRowS_L0_B (v0 : List MacRow) (v1 : List MacRow) (v2 : Int) (γ : Type) (fail : γ) (next : w_eqMacRowS_L0_sh.T → γ) (out : WT w_eqMacRowS_L0_es → γ) : γ :=
  bif (decide (v2 < (v0.length : Int))) then
    bif ((decide (0 ≤ v2)) && (decide (v2 < (v0.length : Int)))) then
    bif ((decide (0 ≤ v2)) && (decide (v2 < (v1.length : Int)))) then
    letK (α := Bool) (w_eqMacRow (v0.getD v2.toNat (Ty.zero .macRow)) (v1.getD v2.toNat (Ty.zero .macRow))) fun c1 =>
    bif (!c1) then
      out (Sum.inl (w_eqMacRowS_L0_mx0 false))
    else
    next (w_eqMacRowS_L0_mk v0 v1 (IntKind.wrap .i64 (v2 + 1)))
    else fail
    else fail
  else
  out (Sum.inr (w_eqMacRowS_L0_mx1 ))
theorem w_eqMacRowS_L0_par (v0 : List MacRow) (v1 : List MacRow) (v2 : Int) (γ : Type) (fail : γ) (next : w_eqMacRowS_L0_sh.T → γ) (out : WT w_eqMacRowS_L0_es → γ) : w_eqMacRowS_L0_B v0 v1 v2 γ fail next out = optK (w_eqMacRowS_L0_B v0 v1 v2 _ none (fun v' => some (.inl v')) (fun w => some (.inr w))) fail (fun r => Sum.elim next out r) := by
  unfold w_eqMacRowS_L0_B
  exact bifT (f := (fun o => optK o fail (fun r => Sum.elim next out r))) (fun _ => bifT (f := (fun o => optK o fail (fun r => Sum.elim next out r))) (fun _ => bifT (f := (fun o => optK o fail (fun r => Sum.elim next out r))) (fun _ => letT (f := (fun o => optK o fail (fun r => Sum.elim next out r))) (fun c1 _ => bifT (f := (fun o => optK o fail (fun r => Sum.elim next out r))) (fun _ => rfl)
      (fun _ => rfl))) (fun _ => rfl)) (fun _ => rfl))
      (fun _ => rfl)
def w_eqMacRowS_L0_r : Round w_eqMacRowS_L0_sh.T (WT w_eqMacRowS_L0_es) where
  B v γ fail next out := w_eqMacRowS_L0_B v.1.1.1 v.1.2.1.1 v.1.2.2.1.1 γ fail next out
  par v γ fail next out := w_eqMacRowS_L0_par v.1.1.1 v.1.2.1.1 v.1.2.2.1.1 γ fail next out
def w_eqMacRowS_L0_fu (v0 : List MacRow) (v1 : List MacRow) (v2 : Int) : Nat := (Int.toNat ((v0.length : Int) - v2)) + 1
theorem w_eqMacRowS_L0_lk (v : w_eqMacRowS_L0_sh.T) (next : St → Option Res) (k : Ex → St → Option Res) : evalK te (orcOf (P := Try.prog) [w_eqMacRow_e]) (lorcOf []) Try.f162.ntmps w_eqMacRowS_ann (nthLoop (bodyOf Try.f162) 0 0) 0 (w_eqMacRowS_L0_sh.enc v) (endK ⟨[0, 1, 5], [], false, 0⟩ ⟨[4], [], false, 0⟩ next k) =
  w_eqMacRowS_L0_r.B v _ none (fun v' => next (w_eqMacRowS_L0_sh.enc v')) (fun w => outK w_eqMacRowS_L0_es k w) := by kernel_rfl
def w_eqMacRowS_L0_le : LE := leOf 0 w_eqMacRowS_L0_sh w_eqMacRowS_L0_es w_eqMacRowS_L0_r.step (fun v => w_eqMacRowS_L0_fu v.1.1.1 v.1.2.1.1 v.1.2.2.1.1)
theorem w_eqMacRowS_L0_ls (w0 : World) (mo : Mts) (I0 : Nat → Prop) (hmo : mo.length = 0) : LSem Try.prog (Sim w0 mo Try.f162.ntmps I0) (fun b s k => match Nat.beq 0 b with | true => w_eqMacRowS_L0_le.run s k | false => none) 0 (nthLoop (bodyOf Try.f162) 0 0) :=
  le_sem hmo (lorc := lorcOf []) (ann := w_eqMacRowS_ann) (keep := ⟨[0, 1, 5], [], false, 0⟩) (kout := ⟨[4], [], false, 0⟩) teFact mixFact (orcOf_ok _) (by kernel_rfl) (allLoops_of (bs := []) (by kernel_rfl) trivial) w_eqMacRowS_L0_r _ w_eqMacRowS_L0_lk
def w_eqMacRowS_L0_f (v0 : List MacRow) (v1 : List MacRow) (v2 : Int) (a : Unit) : Stp (Unit) ((Unit)) :=
  letK (α := Bool) (w_eqMacRow (v0.getD v2.toNat (Ty.zero .macRow)) (v1.getD v2.toNat (Ty.zero .macRow))) fun c1 =>
  bif (!c1) then
    .out (())
  else
  .next ()
theorem w_eqMacRowS_L0_st (v0 : List MacRow) (v1 : List MacRow) (v2 : Int) (hlo : 0 ≤ v2) (hhi : v2 < (v0.length : Int)) (hN : (v0.length : Int) ≤ 4611686018427387904) (hi0 : (v0.length : Int) ≤ (v1.length : Int)) : w_eqMacRowS_L0_r.step (w_eqMacRowS_L0_mk v0 v1 v2) = Stp.elim (fun a' : Unit => some (Sum.inl (w_eqMacRowS_L0_mk v0 v1 (v2 + 1)))) (fun w => some (Sum.inr ((fun p : Unit => Sum.inl (w_eqMacRowS_L0_mx0 false)) w))) (w_eqMacRowS_L0_f v0 v1 v2 ()) := by
  have hw : (IntKind.wrap .i64 (v2 + 1)) = v2 + 1 := wrap64 (by omega) (by omega)
  show w_eqMacRowS_L0_B v0 v1 v2 (Option (w_eqMacRowS_L0_sh.T ⊕ WT w_eqMacRowS_L0_es)) none (fun v' => some (Sum.inl v')) (fun w => some (Sum.inr w)) = _
  unfold w_eqMacRowS_L0_B w_eqMacRowS_L0_f
  exact bifG (by simp only [decide_eq_true_eq]; omega) (bifG (by (try simp only [Nat.ble_eq, Bool.and_eq_true, decide_eq_true_eq]); grind [maxSl, maxStr, toBytes_length, toInts_length, List.length_set, wrap64]) (bifG (by (try simp only [Nat.ble_eq, Bool.and_eq_true, decide_eq_true_eq]); grind [maxSl, maxStr, toBytes_length, toInts_length, List.length_set, wrap64]) (letT (f := (Stp.elim (fun a' : Unit => some (Sum.inl (w_eqMacRowS_L0_mk v0 v1 (v2 + 1)))) (fun w => some (Sum.inr ((fun p : Unit => Sum.inl (w_eqMacRowS_L0_mx0 false)) w))))) (fun c1 hc1 => bifT (f := (Stp.elim (fun a' : Unit => some (Sum.inl (w_eqMacRowS_L0_mk v0 v1 (v2 + 1)))) (fun w => some (Sum.inr ((fun p : Unit => Sum.inl (w_eqMacRowS_L0_mx0 false)) w))))) (fun b0 => rfl)
      (fun b0 => (by exact congrArg (fun z => some (Sum.inl (w_eqMacRowS_L0_mk v0 v1 z))) hw))))))
theorem w_eqMacRowS_L0_cl (v0 : List MacRow) (v1 : List MacRow) (v2 : Int) (h0 : 0 ≤ v2) (h1 : (v0.length : Int) ≤ 4611686018427387904) (h2 : (v0.length : Int) ≤ (v1.length : Int)) : loopF w_eqMacRowS_L0_r.step (w_eqMacRowS_L0_fu v0 v1 v2) (w_eqMacRowS_L0_mk v0 v1 v2) = some (Stp.elim (fun a => (fun i a => Sum.inr (w_eqMacRowS_L0_mx1 )) (v2 + 1 * (((Int.toNat ((v0.length : Int) - v2)) : Nat) : Int)) a) (fun p : Unit => Sum.inl (w_eqMacRowS_L0_mx0 false)) (forN (w_eqMacRowS_L0_f v0 v1) 1 (Int.toNat ((v0.length : Int) - v2)) v2 ())) :=
  forN_loop (step := w_eqMacRowS_L0_r.step) (mk := fun v2 a => w_eqMacRowS_L0_mk v0 v1 v2) (f := w_eqMacRowS_L0_f v0 v1) (e := (fun i a => Sum.inr (w_eqMacRowS_L0_mx1 ))) (emb := (fun p : Unit => Sum.inl (w_eqMacRowS_L0_mx0 false))) (st := 1) (Inv := fun v2 a => True) (Int.toNat ((v0.length : Int) - v2)) v2 () _ (Nat.lt_succ_self _) trivial
    (fun j a hj hv => ⟨w_eqMacRowS_L0_st v0 v1 (v2 + 1 * (j : Int)) (by omega) (by omega) (by omega) h2, fun _ _ => trivial⟩)
    (fun a hv => by
      show w_eqMacRowS_L0_B v0 v1 (v2 + 1 * (((Int.toNat ((v0.length : Int) - v2)) : Nat) : Int)) (Option (w_eqMacRowS_L0_sh.T ⊕ WT w_eqMacRowS_L0_es)) none (fun v' => some (Sum.inl v')) (fun w => some (Sum.inr w)) = _
      unfold w_eqMacRowS_L0_B
      exact bifN (by simp only [decide_eq_false_iff_not]; omega) rfl)
def w_eqMacRowS_N (x0 : List MacRow) (x1 : List MacRow) (γ : Type) (fail : γ) (k : Bool → γ) : γ :=
  bif ((x0.length : Int) != (x1.length : Int)) then
    k false
  else
  optK (loopF w_eqMacRowS_L0_r.step (w_eqMacRowS_L0_fu x0 x1 0) (w_eqMacRowS_L0_mk x0 x1 0)) fail fun w2 =>
    Sum.elim (fun w2 =>
      k w2.1.1.1)
    (fun w2 =>
      k true) w2
def w_eqMacRowS (x0 : List MacRow) (x1 : List MacRow) : Bool :=
  bif ((x0.length : Int) != (x1.length : Int)) then
    false
  else
  Stp.elim (fun a3 =>
    true)
    (fun p3 =>
      false)
    (forN (w_eqMacRowS_L0_f x0 x1) 1 (Int.toNat ((x0.length : Int) - 0)) 0 ())
theorem w_eqMacRowS_lk (x0 : List MacRow) (x1 : List MacRow) : evalFn te (orcOf (P := Try.prog) [w_eqMacRow_e]) (lorcOf [w_eqMacRowS_L0_le]) w_eqMacRowS_ann Try.f162 (pvs [.sc (.sl .macRow), .sc (.sl .macRow)] (x0, x1, ())) =
  w_eqMacRowS_N x0 x1 _ none (fun v => some [(false, [RC.c (.bool v)])]) := by kernel_rfl
theorem w_eqMacRowS_p (x0 : List MacRow) (x1 : List MacRow) (hx0 : x0.length ≤ 140737488355328) (hx0_e : ∀ y ∈ x0, ∀ c ∈ Ty.cells .macRow y, FactC c) (hx1 : x1.length ≤ 140737488355328) (hx1_e : ∀ y ∈ x1, ∀ c ∈ Ty.cells .macRow y, FactC c)  (γ : Type) (fail : γ) (k : Bool → γ) : w_eqMacRowS_N x0 x1 γ fail k = k (w_eqMacRowS x0 x1) := by
  unfold w_eqMacRowS_N w_eqMacRowS
  exact bifT (f := k) (fun b0 => rfl)
      (fun b0 => loopT (f := k) (w_eqMacRowS_L0_cl x0 x1 0 (by (try simp only [Nat.ble_eq, Bool.and_eq_true, decide_eq_true_eq, w_eqMacRowS_L0_mx0, w_eqMacRowS_L0_mx1]); grind [maxSl, maxStr, toBytes_length, toInts_length, List.length_set, wrap64]) (by (try simp only [Nat.ble_eq, Bool.and_eq_true, decide_eq_true_eq, w_eqMacRowS_L0_mx0, w_eqMacRowS_L0_mx1]); grind [maxSl, maxStr, toBytes_length, toInts_length, List.length_set, wrap64]) (by (try simp only [Nat.ble_eq, Bool.and_eq_true, decide_eq_true_eq, w_eqMacRowS_L0_mx0, w_eqMacRowS_L0_mx1]); grind [maxSl, maxStr, toBytes_length, toInts_length, List.length_set, wrap64])) (fun a3 => rfl)
      (fun p3 => rfl))
theorem w_eqMacRowS_c (x0 : List MacRow) (x1 : List MacRow)  : Con Try.prog 162 (pvs [.sc (.sl .macRow), .sc (.sl .macRow)] (x0, x1, ())) [rv (.sc .bool) [] (w_eqMacRowS x0 x1)] := by
  refine Con.of_facts (enters_of Try.func162 rfl (by kernel_rfl)) fun hf => ?_
  replace hf := factAt hf
  exact evalFn_conL teFact mixFact (orcOf_ok _) Try.func162 (by kernel_rfl) (bs := [0]) (by kernel_rfl) (by kernel_rfl) (fun w0 mo I0 hmo => ⟨lsem_of_lorc (w_eqMacRowS_L0_ls w0 mo I0 hmo) (by kernel_rfl), trivial⟩) ((w_eqMacRowS_lk x0 x1).trans (w_eqMacRowS_p x0 x1 ((hf 0 0 rfl rfl).len) (fun y hy => (hf 0 0 rfl rfl).elem hy) ((hf 1 0 rfl rfl).len) (fun y hy => (hf 1 0 rfl rfl).elem hy) _ _ _))
noncomputable def w_eqMacRowS_e : Ent1 Try.prog := entA 162 [.sc (.sl .macRow), .sc (.sl .macRow)] (fun x => (w_eqMacRowS x.1 x.2.1)) (fun v => [rv (.sc .bool) [] v]) (fun x => w_eqMacRowS_c x.1 x.2.1)


/-- spec.SameConn -/
def s_SameConn_N (x0 : Conn) (x1 : Conn) (γ : Type) (fail : γ) (k : Bool → γ) : γ :=
  bif ((x0.tuple.ip == x1.tuple.ip) && ((x0.tuple.port == x1.tuple.port) && ((x0.tuple.my == x1.tuple.my) && true))) then
    bif (x0.state == x1.state) then
      bif ((x0.s.una == x1.s.una) && ((x0.s.data == x1.s.data) && ((x0.s.sent == x1.s.sent) && ((x0.s.fin == x1.s.fin) && ((x0.s.finSent == x1.s.finSent) && ((x0.s.done == x1.s.done) && true)))))) then
        letK (α := Bool) (s_SameReceiver x0.r x1.r) fun c1 =>
        bif c1 then
          bif (x0.window == x1.window) then
            bif (x0.most == x1.most) then
              bif ((x0.opts.mss == x1.opts.mss) && ((x0.opts.scale == x1.opts.scale) && ((x0.opts.sack == x1.opts.sack) && ((x0.opts.stamp == x1.opts.stamp) && ((x0.opts.val == x1.opts.val) && ((x0.opts.echo == x1.opts.echo) && true)))))) then
                bif (x0.timer == x1.timer) then
                  k (x0.tries == x1.tries)
                else
                k false
              else
              k false
            else
            k false
          else
          k false
        else
        k false
      else
      k false
    else
    k false
  else
  k false
def s_SameConn (x0 : Conn) (x1 : Conn) : Bool :=
  bif ((x0.tuple.ip == x1.tuple.ip) && ((x0.tuple.port == x1.tuple.port) && ((x0.tuple.my == x1.tuple.my) && true))) then
    bif (x0.state == x1.state) then
      bif ((x0.s.una == x1.s.una) && ((x0.s.data == x1.s.data) && ((x0.s.sent == x1.s.sent) && ((x0.s.fin == x1.s.fin) && ((x0.s.finSent == x1.s.finSent) && ((x0.s.done == x1.s.done) && true)))))) then
        letK (α := Bool) (s_SameReceiver x0.r x1.r) fun c1 =>
        bif c1 then
          bif (x0.window == x1.window) then
            bif (x0.most == x1.most) then
              bif ((x0.opts.mss == x1.opts.mss) && ((x0.opts.scale == x1.opts.scale) && ((x0.opts.sack == x1.opts.sack) && ((x0.opts.stamp == x1.opts.stamp) && ((x0.opts.val == x1.opts.val) && ((x0.opts.echo == x1.opts.echo) && true)))))) then
                bif (x0.timer == x1.timer) then
                  (x0.tries == x1.tries)
                else
                false
              else
              false
            else
            false
          else
          false
        else
        false
      else
      false
    else
    false
  else
  false
theorem s_SameConn_lk (x0 : Conn) (x1 : Conn) : evalFn te (orcOf (P := Try.prog) [s_SameReceiver_e]) lorc0 [] Try.f165 (pvs [.st .conn, .st .conn] (x0, x1, ())) =
  s_SameConn_N x0 x1 _ none (fun v => some [(false, [RC.c (.bool v)])]) := by kernel_rfl
theorem s_SameConn_p (x0 : Conn) (x1 : Conn)   (γ : Type) (fail : γ) (k : Bool → γ) : s_SameConn_N x0 x1 γ fail k = k (s_SameConn x0 x1) := by
  unfold s_SameConn_N s_SameConn
  exact bifT (f := k) (fun b0 => bifT (f := k) (fun b1 => bifT (f := k) (fun b2 => letT (f := k) (fun c1 hc1 => bifT (f := k) (fun b3 => bifT (f := k) (fun b4 => bifT (f := k) (fun b5 => bifT (f := k) (fun b6 => bifT (f := k) (fun b7 => rfl)
      (fun b7 => rfl))
      (fun b6 => rfl))
      (fun b5 => rfl))
      (fun b4 => rfl))
      (fun b3 => rfl)))
      (fun b2 => rfl))
      (fun b1 => rfl))
      (fun b0 => rfl)
theorem s_SameConn_c (x0 : Conn) (x1 : Conn)  : Con Try.prog 165 (pvs [.st .conn, .st .conn] (x0, x1, ())) [rv (.sc .bool) [] (s_SameConn x0 x1)] := by
  exact evalFn_con0 teFact mixFact (orcOf_ok _) Try.func165 (by kernel_rfl) ((s_SameConn_lk x0 x1).trans (s_SameConn_p x0 x1  _ _ _))
noncomputable def s_SameConn_e : Ent1 Try.prog := entA 165 [.st .conn, .st .conn] (fun x => (s_SameConn x.1 x.2.1)) (fun v => [rv (.sc .bool) [] v]) (fun x => s_SameConn_c x.1 x.2.1)


/-- impl.SameReceiver -/
def i_SameReceiver_N (x0 : Recv) (x1 : Recv) (γ : Type) (fail : γ) (k : Bool → γ) : γ :=
  bif (x0.next == x1.next) then
    bif (x0.data == x1.data) then
      letK (α := Bool) (g_Equal_Piece x0.held x1.held) fun c1 =>
      bif c1 then
        bif (x0.fin == x1.fin) then
          k (x0.done == x1.done)
        else
        k false
      else
      k false
    else
    k false
  else
  k false
def i_SameReceiver (x0 : Recv) (x1 : Recv) : Bool :=
  bif (x0.next == x1.next) then
    bif (x0.data == x1.data) then
      letK (α := Bool) (g_Equal_Piece x0.held x1.held) fun c1 =>
      bif c1 then
        bif (x0.fin == x1.fin) then
          (x0.done == x1.done)
        else
        false
      else
      false
    else
    false
  else
  false
theorem i_SameReceiver_lk (x0 : Recv) (x1 : Recv) : evalFn te (orcOf (P := Try.prog) [g_Equal_Piece_e]) lorc0 [] Try.f191 (pvs [.st .recv, .st .recv] (x0, x1, ())) =
  i_SameReceiver_N x0 x1 _ none (fun v => some [(false, [RC.c (.bool v)])]) := by kernel_rfl
theorem i_SameReceiver_p (x0 : Recv) (x1 : Recv)   (γ : Type) (fail : γ) (k : Bool → γ) : i_SameReceiver_N x0 x1 γ fail k = k (i_SameReceiver x0 x1) := by
  unfold i_SameReceiver_N i_SameReceiver
  exact bifT (f := k) (fun b0 => bifT (f := k) (fun b1 => letT (f := k) (fun c1 hc1 => bifT (f := k) (fun b2 => bifT (f := k) (fun b3 => rfl)
      (fun b3 => rfl))
      (fun b2 => rfl)))
      (fun b1 => rfl))
      (fun b0 => rfl)
theorem i_SameReceiver_c (x0 : Recv) (x1 : Recv)  : Con Try.prog 191 (pvs [.st .recv, .st .recv] (x0, x1, ())) [rv (.sc .bool) [] (i_SameReceiver x0 x1)] := by
  exact evalFn_con0 teFact mixFact (orcOf_ok _) Try.func191 (by kernel_rfl) ((i_SameReceiver_lk x0 x1).trans (i_SameReceiver_p x0 x1  _ _ _))
noncomputable def i_SameReceiver_e : Ent1 Try.prog := entA 191 [.st .recv, .st .recv] (fun x => (i_SameReceiver x.1 x.2.1)) (fun v => [rv (.sc .bool) [] v]) (fun x => i_SameReceiver_c x.1 x.2.1)


/-- laws.szPieceS -/
def w_szPieceS_ann : List (Nat × Keep) := [(0, ⟨[0, 1, 5], [], false, 0⟩)]
def w_szPieceS_L0_sh : Sh := ⟨[(0, false, [.sl .arg .piec]), (1, false, [.int .i64]), (5, false, [.int .i64])], []⟩
def w_szPieceS_L0_es : List (Ex × Sh) := [(.ret, ⟨[(1, false, [.int .i64]), (4, false, [.int .i64])], []⟩), (.exit 0, ⟨[(1, false, [.int .i64]), (4, false, [.undef])], []⟩)]
def w_szPieceS_L0_mk (v0 : List Piec) (v1 : Int) (v2 : Int) : w_szPieceS_L0_sh.T := (((v0, ()), ((v1, ()), ((v2, ()), ()))), ())
def w_szPieceS_L0_mx0 (y0 : Int) (y1 : Int) : Sh.T ⟨[(1, false, [.int .i64]), (4, false, [.int .i64])], []⟩ := (((y0, ()), ((y1, ()), ())), ())
def w_szPieceS_L0_mx1 (y0 : Int) : Sh.T ⟨[(1, false, [.int .i64]), (4, false, [.undef])], []⟩ := (((y0, ()), (((), ()), ())), ())
def w_szPieceS_L0_B (v0 : List Piec) (v1 : Int) (v2 : Int) (γ : Type) (fail : γ) (next : w_szPieceS_L0_sh.T → γ) (out : WT w_szPieceS_L0_es → γ) : γ :=
  bif (decide (v2 < (v0.length : Int))) then
    bif ((decide (0 ≤ v2)) && (decide (v2 < (v0.length : Int)))) then
    letK (α := Int) (w_szPiece (v0.getD v2.toNat (Ty.zero .piec)) v1) fun c1 =>
    bif (decide (c1 < 0)) then
      out (Sum.inl (w_szPieceS_L0_mx0 c1 (-1)))
    else
    next (w_szPieceS_L0_mk v0 c1 (IntKind.wrap .i64 (v2 + 1)))
    else fail
  else
  out (Sum.inr (w_szPieceS_L0_mx1 v1))
theorem w_szPieceS_L0_par (v0 : List Piec) (v1 : Int) (v2 : Int) (γ : Type) (fail : γ) (next : w_szPieceS_L0_sh.T → γ) (out : WT w_szPieceS_L0_es → γ) : w_szPieceS_L0_B v0 v1 v2 γ fail next out = optK (w_szPieceS_L0_B v0 v1 v2 _ none (fun v' => some (.inl v')) (fun w => some (.inr w))) fail (fun r => Sum.elim next out r) := by
  unfold w_szPieceS_L0_B
  exact bifT (f := (fun o => optK o fail (fun r => Sum.elim next out r))) (fun _ => bifT (f := (fun o => optK o fail (fun r => Sum.elim next out r))) (fun _ => letT (f := (fun o => optK o fail (fun r => Sum.elim next out r))) (fun c1 _ => bifT (f := (fun o => optK o fail (fun r => Sum.elim next out r))) (fun _ => rfl)
      (fun _ => rfl))) (fun _ => rfl))
      (fun _ => rfl)
def w_szPieceS_L0_r : Round w_szPieceS_L0_sh.T (WT w_szPieceS_L0_es) where
  B v γ fail next out := w_szPieceS_L0_B v.1.1.1 v.1.2.1.1 v.1.2.2.1.1 γ fail next out
  par v γ fail next out := w_szPieceS_L0_par v.1.1.1 v.1.2.1.1 v.1.2.2.1.1 γ fail next out
def w_szPieceS_L0_fu (v0 : List Piec) (v1 : Int) (v2 : Int) : Nat := (Int.toNat ((v0.length : Int) - v2)) + 1
theorem w_szPieceS_L0_lk (v : w_szPieceS_L0_sh.T) (next : St → Option Res) (k : Ex → St → Option Res) : evalK te (orcOf (P := Try.prog) [w_szPiece_e]) (lorcOf []) Try.f201.ntmps w_szPieceS_ann (nthLoop (bodyOf Try.f201) 0 0) 0 (w_szPieceS_L0_sh.enc v) (endK ⟨[0, 1, 5], [], false, 0⟩ ⟨[1, 4], [], false, 0⟩ next k) =
  w_szPieceS_L0_r.B v _ none (fun v' => next (w_szPieceS_L0_sh.enc v')) (fun w => outK w_szPieceS_L0_es k w) := by kernel_rfl
def w_szPieceS_L0_le : LE := leOf 0 w_szPieceS_L0_sh w_szPieceS_L0_es w_szPieceS_L0_r.step (fun v => w_szPieceS_L0_fu v.1.1.1 v.1.2.1.1 v.1.2.2.1.1)
theorem w_szPieceS_L0_ls (w0 : World) (mo : Mts) (I0 : Nat → Prop) (hmo : mo.length = 0) : LSem Try.prog (Sim w0 mo Try.f201.ntmps I0) (fun b s k => match Nat.beq 0 b with | true => w_szPieceS_L0_le.run s k | false => none) 0 (nthLoop (bodyOf Try.f201) 0 0) :=
  le_sem hmo (lorc := lorcOf []) (ann := w_szPieceS_ann) (keep := ⟨[0, 1, 5], [], false, 0⟩) (kout := ⟨[1, 4], [], false, 0⟩) teFact mixFact (orcOf_ok _) (by kernel_rfl) (allLoops_of (bs := []) (by kernel_rfl) trivial) w_szPieceS_L0_r _ w_szPieceS_L0_lk
def w_szPieceS_L0_f (v0 : List Piec) (v2 : Int) (a : Int) : Stp (Int) ((Int)) :=
  letK (α := Int) (w_szPiece (v0.getD v2.toNat (Ty.zero .piec)) a) fun c1 =>
  bif (decide (c1 < 0)) then
    .out (c1)
  else
  .next c1
theorem w_szPieceS_L0_st (v0 : List Piec) (v1 : Int) (v2 : Int) (hlo : 0 ≤ v2) (hhi : v2 < (v0.length : Int)) (hN : (v0.length : Int) ≤ 4611686018427387904) : w_szPieceS_L0_r.step (w_szPieceS_L0_mk v0 v1 v2) = Stp.elim (fun a' : Int => some (Sum.inl (w_szPieceS_L0_mk v0 a' (v2 + 1)))) (fun w => some (Sum.inr ((fun p : Int => Sum.inl (w_szPieceS_L0_mx0 p (-1))) w))) (w_szPieceS_L0_f v0 v2 v1) := by
  have hw : (IntKind.wrap .i64 (v2 + 1)) = v2 + 1 := wrap64 (by omega) (by omega)
  show w_szPieceS_L0_B v0 v1 v2 (Option (w_szPieceS_L0_sh.T ⊕ WT w_szPieceS_L0_es)) none (fun v' => some (Sum.inl v')) (fun w => some (Sum.inr w)) = _
  unfold w_szPieceS_L0_B w_szPieceS_L0_f
  exact bifG (by simp only [decide_eq_true_eq]; omega) (bifG (by (try simp only [Nat.ble_eq, Bool.and_eq_true, decide_eq_true_eq]); grind [maxSl, maxStr, toBytes_length, toInts_length, List.length_set, wrap64, w_szPiece_sm]) (letT (f := (Stp.elim (fun a' : Int => some (Sum.inl (w_szPieceS_L0_mk v0 a' (v2 + 1)))) (fun w => some (Sum.inr ((fun p : Int => Sum.inl (w_szPieceS_L0_mx0 p (-1))) w))))) (fun c1 hc1 => bifT (f := (Stp.elim (fun a' : Int => some (Sum.inl (w_szPieceS_L0_mk v0 a' (v2 + 1)))) (fun w => some (Sum.inr ((fun p : Int => Sum.inl (w_szPieceS_L0_mx0 p (-1))) w))))) (fun b0 => rfl)
      (fun b0 => (by exact congrArg (fun z => some (Sum.inl (w_szPieceS_L0_mk v0 c1 z))) hw)))))
theorem w_szPieceS_L0_cl (v0 : List Piec) (v1 : Int) (v2 : Int) (h0 : 0 ≤ v2) (h1 : (v0.length : Int) ≤ 4611686018427387904) : loopF w_szPieceS_L0_r.step (w_szPieceS_L0_fu v0 v1 v2) (w_szPieceS_L0_mk v0 v1 v2) = some (Stp.elim (fun a => (fun i a => Sum.inr (w_szPieceS_L0_mx1 a)) (v2 + 1 * (((Int.toNat ((v0.length : Int) - v2)) : Nat) : Int)) a) (fun p : Int => Sum.inl (w_szPieceS_L0_mx0 p (-1))) (forN (w_szPieceS_L0_f v0) 1 (Int.toNat ((v0.length : Int) - v2)) v2 v1)) :=
  forN_loop (step := w_szPieceS_L0_r.step) (mk := fun v2 a => w_szPieceS_L0_mk v0 a v2) (f := w_szPieceS_L0_f v0) (e := (fun i a => Sum.inr (w_szPieceS_L0_mx1 a))) (emb := (fun p : Int => Sum.inl (w_szPieceS_L0_mx0 p (-1)))) (st := 1) (Inv := fun v2 a => True) (Int.toNat ((v0.length : Int) - v2)) v2 v1 _ (Nat.lt_succ_self _) trivial
    (fun j a hj hv => ⟨w_szPieceS_L0_st v0 a (v2 + 1 * (j : Int)) (by omega) (by omega) (by omega), fun _ _ => trivial⟩)
    (fun a hv => by
      show w_szPieceS_L0_B v0 a (v2 + 1 * (((Int.toNat ((v0.length : Int) - v2)) : Nat) : Int)) (Option (w_szPieceS_L0_sh.T ⊕ WT w_szPieceS_L0_es)) none (fun v' => some (Sum.inl v')) (fun w => some (Sum.inr w)) = _
      unfold w_szPieceS_L0_B
      exact bifN (by simp only [decide_eq_false_iff_not]; omega) rfl)
def w_szPieceS_N (x0 : List Piec) (x1 : Int) (γ : Type) (fail : γ) (k : Int → γ) : γ :=
  bif (decide ((IntKind.wrap .i64 (x1 - (x0.length : Int))) < 0)) then
    k (-1)
  else
  optK (loopF w_szPieceS_L0_r.step (w_szPieceS_L0_fu x0 (IntKind.wrap .i64 (x1 - (x0.length : Int))) 0) (w_szPieceS_L0_mk x0 (IntKind.wrap .i64 (x1 - (x0.length : Int))) 0)) fail fun w2 =>
    Sum.elim (fun w2 =>
      k w2.1.2.1.1)
    (fun w2 =>
      k w2.1.1.1) w2
def w_szPieceS (x0 : List Piec) (x1 : Int) : Int :=
  bif (decide ((IntKind.wrap .i64 (x1 - (x0.length : Int))) < 0)) then
    (-1)
  else
  Stp.elim (fun a3 =>
    a3)
    (fun p3 =>
      (-1))
    (forN (w_szPieceS_L0_f x0) 1 (Int.toNat ((x0.length : Int) - 0)) 0 (IntKind.wrap .i64 (x1 - (x0.length : Int))))
theorem w_szPieceS_lk (x0 : List Piec) (x1 : Int) : evalFn te (orcOf (P := Try.prog) [w_szPiece_e]) (lorcOf [w_szPieceS_L0_le]) w_szPieceS_ann Try.f201 (pvs [.sc (.sl .piec), .sc (.int .i64)] (x0, x1, ())) =
  w_szPieceS_N x0 x1 _ none (fun v => some [(false, [RC.c (.int .i64 v)])]) := by kernel_rfl
theorem w_szPieceS_p (x0 : List Piec) (x1 : Int) (hx0 : x0.length ≤ 140737488355328) (hx0_e : ∀ y ∈ x0, ∀ c ∈ Ty.cells .piec y, FactC c) (hx1 : inK .i64 x1)  (γ : Type) (fail : γ) (k : Int → γ) : w_szPieceS_N x0 x1 γ fail k = k (w_szPieceS x0 x1) := by
  unfold w_szPieceS_N w_szPieceS
  exact bifT (f := k) (fun b0 => rfl)
      (fun b0 => loopT (f := k) (w_szPieceS_L0_cl x0 (IntKind.wrap .i64 (x1 - (x0.length : Int))) 0 (by (try simp only [Nat.ble_eq, Bool.and_eq_true, decide_eq_true_eq, w_szPieceS_L0_mx0, w_szPieceS_L0_mx1]); grind [maxSl, maxStr, toBytes_length, toInts_length, List.length_set, wrap64, w_szPiece_sm]) (by (try simp only [Nat.ble_eq, Bool.and_eq_true, decide_eq_true_eq, w_szPieceS_L0_mx0, w_szPieceS_L0_mx1]); grind [maxSl, maxStr, toBytes_length, toInts_length, List.length_set, wrap64, w_szPiece_sm])) (fun a3 => rfl)
      (fun p3 => rfl))
theorem w_szPieceS_c (x0 : List Piec) (x1 : Int)  : Con Try.prog 201 (pvs [.sc (.sl .piec), .sc (.int .i64)] (x0, x1, ())) [rv (.sc (.int .i64)) [] (w_szPieceS x0 x1)] := by
  refine Con.of_facts (enters_of Try.func201 rfl (by kernel_rfl)) fun hf => ?_
  replace hf := factAt hf
  exact evalFn_conL teFact mixFact (orcOf_ok _) Try.func201 (by kernel_rfl) (bs := [0]) (by kernel_rfl) (by kernel_rfl) (fun w0 mo I0 hmo => ⟨lsem_of_lorc (w_szPieceS_L0_ls w0 mo I0 hmo) (by kernel_rfl), trivial⟩) ((w_szPieceS_lk x0 x1).trans (w_szPieceS_p x0 x1 ((hf 0 0 rfl rfl).len) (fun y hy => (hf 0 0 rfl rfl).elem hy) ((hf 1 0 rfl rfl).rng) _ _ _))
noncomputable def w_szPieceS_e : Ent1 Try.prog := entA 201 [.sc (.sl .piec), .sc (.int .i64)] (fun x => (w_szPieceS x.1 x.2.1)) (fun v => [rv (.sc (.int .i64)) [] v]) (fun x => w_szPieceS_c x.1 x.2.1)


/-- laws.toPieceS -/
def w_toPieceS_ann : List (Nat × Keep) := [(0, ⟨[0, 3, 4], [], false, 0⟩)]
def w_toPieceS_L0_sh : Sh := ⟨[(0, false, [.sl .arg .piec]), (3, false, [.own 0]), (4, false, [.int .i64])], [.arr .piec false true]⟩
def w_toPieceS_L0_es : List (Ex × Sh) := [(.exit 0, ⟨[(2, false, [.undef]), (3, false, [.own 0])], [.arr .piec false true]⟩)]
def w_toPieceS_L0_mk (v0 : List Piec) (v1 : Int) (v2 : List Piec) : w_toPieceS_L0_sh.T := (((v0, ()), (((), ()), ((v1, ()), ()))), (v2, ()))
def w_toPieceS_L0_mx0 (y0 : List Piec) : Sh.T ⟨[(2, false, [.undef]), (3, false, [.own 0])], [.arr .piec false true]⟩ := ((((), ()), (((), ()), ())), (y0, ()))
def w_toPieceS_L0_B (v0 : List Piec) (v1 : Int) (v2 : List Piec) (γ : Type) (fail : γ) (next : w_toPieceS_L0_sh.T → γ) (out : WT w_toPieceS_L0_es → γ) : γ :=
  bif (decide (v1 < (v0.length : Int))) then
    bif ((decide (0 ≤ v1)) && (decide (v1 < (v0.length : Int)))) then
    letK (α := Piec) (w_toPiece (v0.getD v1.toNat (Ty.zero .piec))) fun c1 =>
    bif ((decide (0 ≤ v1)) && (decide (v1 < (v2.length : Int)))) then
    next (w_toPieceS_L0_mk v0 (IntKind.wrap .i64 (v1 + 1)) (v2.set v1.toNat c1))
    else fail
    else fail
  else
  out (w_toPieceS_L0_mx0 v2)
theorem w_toPieceS_L0_par (v0 : List Piec) (v1 : Int) (v2 : List Piec) (γ : Type) (fail : γ) (next : w_toPieceS_L0_sh.T → γ) (out : WT w_toPieceS_L0_es → γ) : w_toPieceS_L0_B v0 v1 v2 γ fail next out = optK (w_toPieceS_L0_B v0 v1 v2 _ none (fun v' => some (.inl v')) (fun w => some (.inr w))) fail (fun r => Sum.elim next out r) := by
  unfold w_toPieceS_L0_B
  exact bifT (f := (fun o => optK o fail (fun r => Sum.elim next out r))) (fun _ => bifT (f := (fun o => optK o fail (fun r => Sum.elim next out r))) (fun _ => letT (f := (fun o => optK o fail (fun r => Sum.elim next out r))) (fun c1 _ => bifT (f := (fun o => optK o fail (fun r => Sum.elim next out r))) (fun _ => rfl) (fun _ => rfl))) (fun _ => rfl))
      (fun _ => rfl)
def w_toPieceS_L0_r : Round w_toPieceS_L0_sh.T (WT w_toPieceS_L0_es) where
  B v γ fail next out := w_toPieceS_L0_B v.1.1.1 v.1.2.2.1.1 v.2.1 γ fail next out
  par v γ fail next out := w_toPieceS_L0_par v.1.1.1 v.1.2.2.1.1 v.2.1 γ fail next out
def w_toPieceS_L0_fu (v0 : List Piec) (v1 : Int) (v2 : List Piec) : Nat := (Int.toNat ((v0.length : Int) - v1)) + 1
theorem w_toPieceS_L0_lk (v : w_toPieceS_L0_sh.T) (next : St → Option Res) (k : Ex → St → Option Res) : evalK te (orcOf (P := Try.prog) [w_toPiece_e]) (lorcOf []) Try.f202.ntmps w_toPieceS_ann (nthLoop (bodyOf Try.f202) 0 0) 0 (w_toPieceS_L0_sh.enc v) (endK ⟨[0, 3, 4], [], false, 0⟩ ⟨[2, 3], [], false, 0⟩ next k) =
  w_toPieceS_L0_r.B v _ none (fun v' => next (w_toPieceS_L0_sh.enc v')) (fun w => outK w_toPieceS_L0_es k w) := by kernel_rfl
def w_toPieceS_L0_le : LE := leOf 0 w_toPieceS_L0_sh w_toPieceS_L0_es w_toPieceS_L0_r.step (fun v => w_toPieceS_L0_fu v.1.1.1 v.1.2.2.1.1 v.2.1)
theorem w_toPieceS_L0_ls (w0 : World) (mo : Mts) (I0 : Nat → Prop) (hmo : mo.length = 0) : LSem Try.prog (Sim w0 mo Try.f202.ntmps I0) (fun b s k => match Nat.beq 0 b with | true => w_toPieceS_L0_le.run s k | false => none) 0 (nthLoop (bodyOf Try.f202) 0 0) :=
  le_sem hmo (lorc := lorcOf []) (ann := w_toPieceS_ann) (keep := ⟨[0, 3, 4], [], false, 0⟩) (kout := ⟨[2, 3], [], false, 0⟩) teFact mixFact (orcOf_ok _) (by kernel_rfl) (allLoops_of (bs := []) (by kernel_rfl) trivial) w_toPieceS_L0_r _ w_toPieceS_L0_lk
def w_toPieceS_L0_f (v0 : List Piec) (v1 : Int) (a : List Piec) : Stp (List Piec) (Empty) :=
  letK (α := Piec) (w_toPiece (v0.getD v1.toNat (Ty.zero .piec))) fun c1 =>
  .next (a.set v1.toNat c1)
theorem w_toPieceS_L0_st (v0 : List Piec) (v1 : Int) (v2 : List Piec) (hlo : 0 ≤ v1) (hhi : v1 < (v0.length : Int)) (hN : (v0.length : Int) ≤ 4611686018427387904) (hinv : (v0.length : Int) ≤ (v2.length : Int)) : w_toPieceS_L0_r.step (w_toPieceS_L0_mk v0 v1 v2) = Stp.elim (fun a' : List Piec => some (Sum.inl (w_toPieceS_L0_mk v0 (v1 + 1) a'))) (fun w => some (Sum.inr ((fun p : Empty => nomatch p) w))) (w_toPieceS_L0_f v0 v1 v2) := by
  have hw : (IntKind.wrap .i64 (v1 + 1)) = v1 + 1 := wrap64 (by omega) (by omega)
  show w_toPieceS_L0_B v0 v1 v2 (Option (w_toPieceS_L0_sh.T ⊕ WT w_toPieceS_L0_es)) none (fun v' => some (Sum.inl v')) (fun w => some (Sum.inr w)) = _
  unfold w_toPieceS_L0_B w_toPieceS_L0_f
  exact bifG (by simp only [decide_eq_true_eq]; omega) (bifG (by (try simp only [Nat.ble_eq, Bool.and_eq_true, decide_eq_true_eq]); grind [maxSl, maxStr, toBytes_length, toInts_length, List.length_set, wrap64]) (letT (f := (Stp.elim (fun a' : List Piec => some (Sum.inl (w_toPieceS_L0_mk v0 (v1 + 1) a'))) (fun w => some (Sum.inr ((fun p : Empty => nomatch p) w))))) (fun c1 hc1 => bifG (by (try simp only [Nat.ble_eq, Bool.and_eq_true, decide_eq_true_eq]); grind [maxSl, maxStr, toBytes_length, toInts_length, List.length_set, wrap64]) ((by exact congrArg (fun z => some (Sum.inl (w_toPieceS_L0_mk v0 z (v2.set v1.toNat c1)))) hw)))))
theorem w_toPieceS_L0_cl (v0 : List Piec) (v1 : Int) (v2 : List Piec) (h0 : 0 ≤ v1) (h1 : (v0.length : Int) ≤ 4611686018427387904) (h2 : (v0.length : Int) ≤ (v2.length : Int)) : loopF w_toPieceS_L0_r.step (w_toPieceS_L0_fu v0 v1 v2) (w_toPieceS_L0_mk v0 v1 v2) = some (Stp.elim (fun a => (fun i a => w_toPieceS_L0_mx0 a) (v1 + 1 * (((Int.toNat ((v0.length : Int) - v1)) : Nat) : Int)) a) (fun p : Empty => nomatch p) (forN (w_toPieceS_L0_f v0) 1 (Int.toNat ((v0.length : Int) - v1)) v1 v2)) :=
  forN_loop (step := w_toPieceS_L0_r.step) (mk := fun v1 a => w_toPieceS_L0_mk v0 v1 a) (f := w_toPieceS_L0_f v0) (e := (fun i a => w_toPieceS_L0_mx0 a)) (emb := (fun p : Empty => nomatch p)) (st := 1) (Inv := fun v1 a => (v0.length : Int) ≤ (a.length : Int)) (Int.toNat ((v0.length : Int) - v1)) v1 v2 _ (Nat.lt_succ_self _) h2
    (fun j a hj hv => ⟨w_toPieceS_L0_st v0 (v1 + 1 * (j : Int)) a (by omega) (by omega) (by omega) hv, by
      intro a' he
      grind [w_toPieceS_L0_f, letK, Stp.elim, wrap64, List.length_set]⟩)
    (fun a hv => by
      show w_toPieceS_L0_B v0 (v1 + 1 * (((Int.toNat ((v0.length : Int) - v1)) : Nat) : Int)) a (Option (w_toPieceS_L0_sh.T ⊕ WT w_toPieceS_L0_es)) none (fun v' => some (Sum.inl v')) (fun w => some (Sum.inr w)) = _
      unfold w_toPieceS_L0_B
      exact bifN (by simp only [decide_eq_false_iff_not]; omega) rfl)
theorem w_toPieceS_L0_nx (v0 : List Piec) (v1 : Int) (v2 : List Piec) (h0 : 0 ≤ v1) (h1 : (v0.length : Int) ≤ 4611686018427387904) (h2 : (v0.length : Int) ≤ (v2.length : Int)) : ∀ a', forN (w_toPieceS_L0_f v0) 1 (Int.toNat ((v0.length : Int) - v1)) v1 v2 = .next a' → (v0.length : Int) ≤ (a'.length : Int) :=
  forN_inv (f := w_toPieceS_L0_f v0) (st := 1) (Inv := fun v1 a => (v0.length : Int) ≤ (a.length : Int)) (Int.toNat ((v0.length : Int) - v1)) v1 v2 h2
    (fun j a hj hv => by
      intro a' he
      grind [w_toPieceS_L0_f, letK, Stp.elim, wrap64, List.length_set])
def w_toPieceS_N (x0 : List Piec) (γ : Type) (fail : γ) (k : List Piec → γ) : γ :=
  bif ((((decide (0 ≤ (x0.length : Int))) && (decide ((x0.length : Int) = (x0.length : Int)))) && (decide ((x0.length : Int) * 24 ≤ (maxSl : Int)))) && (decide ((x0.length : Int) ≤ (maxSl : Int)))) then
  optK (loopF w_toPieceS_L0_r.step (w_toPieceS_L0_fu x0 0 (List.replicate ((x0.length : Int).toNat) (⟨0, []⟩ : Piec))) (w_toPieceS_L0_mk x0 0 (List.replicate ((x0.length : Int).toNat) (⟨0, []⟩ : Piec)))) fail fun w2 =>
    k w2.2.1
  else fail
def w_toPieceS (x0 : List Piec) : List Piec :=
  Stp.elim (fun a3 =>
    a3)
    (fun p : Empty => nomatch p)
    (forN (w_toPieceS_L0_f x0) 1 (Int.toNat ((x0.length : Int) - 0)) 0 (List.replicate ((x0.length : Int).toNat) (⟨0, []⟩ : Piec)))
theorem w_toPieceS_lk (x0 : List Piec) : evalFn te (orcOf (P := Try.prog) [w_toPiece_e]) (lorcOf [w_toPieceS_L0_le]) w_toPieceS_ann Try.f202 (pvs [.sc (.sl .piec)] (x0, ())) =
  w_toPieceS_N x0 _ none (fun v => some [(false, [RC.own true .piec v])]) := by kernel_rfl
theorem w_toPieceS_p (x0 : List Piec) (hx0 : x0.length ≤ 140737488355328) (hx0_e : ∀ y ∈ x0, ∀ c ∈ Ty.cells .piec y, FactC c) (hp : x0.length ≤ 4294967296) (γ : Type) (fail : γ) (k : List Piec → γ) : w_toPieceS_N x0 γ fail k = k (w_toPieceS x0) := by
  unfold w_toPieceS_N w_toPieceS
  exact bifG (by (try simp only [Nat.ble_eq, Bool.and_eq_true, decide_eq_true_eq, w_toPieceS_L0_mx0]); grind [maxSl, maxStr, toBytes_length, toInts_length, List.length_set, wrap64]) (loopX (f := k) (w_toPieceS_L0_cl x0 0 (List.replicate ((x0.length : Int).toNat) (⟨0, []⟩ : Piec)) (by (try simp only [Nat.ble_eq, Bool.and_eq_true, decide_eq_true_eq, w_toPieceS_L0_mx0]); grind [maxSl, maxStr, toBytes_length, toInts_length, List.length_set, wrap64]) (by (try simp only [Nat.ble_eq, Bool.and_eq_true, decide_eq_true_eq, w_toPieceS_L0_mx0]); grind [maxSl, maxStr, toBytes_length, toInts_length, List.length_set, wrap64]) (by (try simp only [Nat.ble_eq, Bool.and_eq_true, decide_eq_true_eq, w_toPieceS_L0_mx0]); grind [maxSl, maxStr, toBytes_length, toInts_length, List.length_set, wrap64])) (fun a3 ha3 => have ia3 := w_toPieceS_L0_nx x0 0 (List.replicate ((x0.length : Int).toNat) (⟨0, []⟩ : Piec)) (by (try simp only [Nat.ble_eq, Bool.and_eq_true, decide_eq_true_eq, w_toPieceS_L0_mx0]); grind [maxSl, maxStr, toBytes_length, toInts_length, List.length_set, wrap64]) (by (try simp only [Nat.ble_eq, Bool.and_eq_true, decide_eq_true_eq, w_toPieceS_L0_mx0]); grind [maxSl, maxStr, toBytes_length, toInts_length, List.length_set, wrap64]) (by (try simp only [Nat.ble_eq, Bool.and_eq_true, decide_eq_true_eq, w_toPieceS_L0_mx0]); grind [maxSl, maxStr, toBytes_length, toInts_length, List.length_set, wrap64]) _ ha3; rfl)
      (fun p : Empty => nomatch p))
theorem w_toPieceS_c (x0 : List Piec) (hp : x0.length ≤ 4294967296) : Con Try.prog 202 (pvs [.sc (.sl .piec)] (x0, ())) [rv (.sc (.sl .piec)) [.o true] (w_toPieceS x0)] := by
  refine Con.of_facts (enters_of Try.func202 rfl (by kernel_rfl)) fun hf => ?_
  replace hf := factAt hf
  exact evalFn_conL teFact mixFact (orcOf_ok _) Try.func202 (by kernel_rfl) (bs := [0]) (by kernel_rfl) (by kernel_rfl) (fun w0 mo I0 hmo => ⟨lsem_of_lorc (w_toPieceS_L0_ls w0 mo I0 hmo) (by kernel_rfl), trivial⟩) ((w_toPieceS_lk x0).trans (w_toPieceS_p x0 ((hf 0 0 rfl rfl).len) (fun y hy => (hf 0 0 rfl rfl).elem hy) hp _ _ _))
noncomputable def w_toPieceS_e : Ent1 Try.prog := entP 202 [.sc (.sl .piec)] (fun x => (decide (x.1.length ≤ 4294967296))) (fun x => (w_toPieceS x.1)) (fun v => [rv (.sc (.sl .piec)) [.o true] v]) (fun x hx => w_toPieceS_c x.1 (of_decide_eq_true hx))


end Go.Proofs.Ytbikbonhcfbmeaa
