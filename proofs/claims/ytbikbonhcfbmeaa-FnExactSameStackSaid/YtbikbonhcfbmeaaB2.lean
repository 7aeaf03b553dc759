/-
  Contracts of functions and plain laws (printed by a program): each theorem says what a function of the program returns; conditions are its hypotheses.
-/
import Derived.Test.YtbikbonhcfbmeaaB1
set_option maxRecDepth 4000
set_option linter.unusedVariables false
set_option linter.unusedSimpArgs false
namespace Go.Proofs.Ytbikbonhcfbmeaa
open Go Go.RowKit

/-- laws.eqPieceS -/
def w_eqPieceS_ann : List (Nat × Keep) := [(0, ⟨[0, 1, 5], [], false, 0⟩)]
def w_eqPieceS_L0_sh : Sh := ⟨[(0, false, [.sl .arg .piec]), (1, false, [.sl .arg .piec]), (5, false, [.int .i64])], []⟩
def w_eqPieceS_L0_es : List (Ex × Sh) := [(.ret, ⟨[(4, false, [.bool])], []⟩), (.exit 0, ⟨[(4, false, [.undef])], []⟩)]
def w_eqPieceS_L0_mk (v0 : List Piec) (v1 : List Piec) (v2 : Int) : w_eqPieceS_L0_sh.T := (((v0, ()), ((v1, ()), ((v2, ()), ()))), ())
def w_eqPieceS_L0_mx0 (y0 : Bool) : Sh.T ⟨[(4, false, [.bool])], []⟩ := (((y0, ()), ()), ())
def w_eqPieceS_L0_mx1  : Sh.T ⟨[(4, false, [.undef])], []⟩ := ((((), ()), ()), ())
def w_eqPieceS_L0_B (v0 : List Piec) (v1 : List Piec) (v2 : Int) (γ : Type) (fail : γ) (next : w_eqPieceS_L0_sh.T → γ) (out : WT w_eqPieceS_L0_es → γ) : γ :=
  bif (decide (v2 < (v0.length : Int))) then
    bif ((decide (0 ≤ v2)) && (decide (v2 < (v0.length : Int)))) then
    bif ((decide (0 ≤ v2)) && (decide (v2 < (v1.length : Int)))) then
    letK (α := Bool) (w_eqPiece (v0.getD v2.toNat (Ty.zero .piec)) (v1.getD v2.toNat (Ty.zero .piec))) fun c1 =>
    bif (!c1) then
      out (Sum.inl (w_eqPieceS_L0_mx0 false))
    else
    next (w_eqPieceS_L0_mk v0 v1 (IntKind.wrap .i64 (v2 + 1)))
    else fail
    else fail
  else
  out (Sum.inr (w_eqPieceS_L0_mx1 ))
theorem w_eqPieceS_L0_par (v0 : List Piec) (v1 : List Piec) (v2 : Int) (γ : Type) (fail : γ) (next : w_eqPieceS_L0_sh.T → γ) (out : WT w_eqPieceS_L0_es → γ) : w_eqPieceS_L0_B v0 v1 v2 γ fail next out = optK (w_eqPieceS_L0_B v0 v1 v2 _ none (fun v' => some (.inl v')) (fun w => some (.inr w))) fail (fun r => Sum.elim next out r) := by
  unfold w_eqPieceS_L0_B
  exact bifT (f := (fun o => optK o fail (fun r => Sum.elim next out r))) (fun _ => bifT (f := (fun o => optK o fail (fun r => Sum.elim next out r))) (fun _ => bifT (f := (fun o => optK o fail (fun r => Sum.elim next out r))) (fun _ => letT (f := (fun o => optK o fail (fun r => Sum.elim next out r))) (fun c1 _ => bifT (f := (fun o => optK o fail (fun r => Sum.elim next out r))) (fun _ => rfl)
      (fun _ => rfl))) (fun _ => rfl)) (fun _ => rfl))
      (fun _ => rfl)
def w_eqPieceS_L0_r : Round w_eqPieceS_L0_sh.T (WT w_eqPieceS_L0_es) where
  B v γ fail next out := w_eqPieceS_L0_B v.1.1.1 v.1.2.1.1 v.1.2.2.1.1 γ fail next out
  par v γ fail next out := w_eqPieceS_L0_par v.1.1.1 v.1.2.1.1 v.1.2.2.1.1 γ fail next out
def w_eqPieceS_L0_fu (v0 : List Piec) (v1 : List Piec) (v2 : Int) : Nat := (Int.toNat ((v0.length : Int) - v2)) + 1
theorem w_eqPieceS_L0_lk (v : w_eqPieceS_L0_sh.T) (next : St → Option Res) (k : Ex → St → Option Res) : evalK te (orcOf (P := Try.prog) [w_eqPiece_e]) (lorcOf []) Try.f203.ntmps w_eqPieceS_ann (nthLoop (bodyOf Try.f203) 0 0) 0 (w_eqPieceS_L0_sh.enc v) (endK ⟨[0, 1, 5], [], false, 0⟩ ⟨[4], [], false, 0⟩ next k) =
  w_eqPieceS_L0_r.B v _ none (fun v' => next (w_eqPieceS_L0_sh.enc v')) (fun w => outK w_eqPieceS_L0_es k w) := by kernel_rfl
def w_eqPieceS_L0_le : LE := leOf 0 w_eqPieceS_L0_sh w_eqPieceS_L0_es w_eqPieceS_L0_r.step (fun v => w_eqPieceS_L0_fu v.1.1.1 v.1.2.1.1 v.1.2.2.1.1)
theorem w_eqPieceS_L0_ls (w0 : World) (mo : Mts) (I0 : Nat → Prop) (hmo : mo.length = 0) : LSem Try.prog (Sim w0 mo Try.f203.ntmps I0) (fun b s k => match Nat.beq 0 b with | true => w_eqPieceS_L0_le.run s k | false => none) 0 (nthLoop (bodyOf Try.f203) 0 0) :=
  le_sem hmo (lorc := lorcOf []) (ann := w_eqPieceS_ann) (keep := ⟨[0, 1, 5], [], false, 0⟩) (kout := ⟨[4], [], false, 0⟩) teFact mixFact (orcOf_ok _) (by kernel_rfl) (allLoops_of (bs := []) (by kernel_rfl) trivial) w_eqPieceS_L0_r _ w_eqPieceS_L0_lk
def w_eqPieceS_L0_f (v0 : List Piec) (v1 : List Piec) (v2 : Int) (a : Unit) : Stp (Unit) ((Unit)) :=
  letK (α := Bool) (w_eqPiece (v0.getD v2.toNat (Ty.zero .piec)) (v1.getD v2.toNat (Ty.zero .piec))) fun c1 =>
  bif (!c1) then
    .out (())
  else
  .next ()
theorem w_eqPieceS_L0_st (v0 : List Piec) (v1 : List Piec) (v2 : Int) (hlo : 0 ≤ v2) (hhi : v2 < (v0.length : Int)) (hN : (v0.length : Int) ≤ 4611686018427387904) (hi0 : (v0.length : Int) ≤ (v1.length : Int)) : w_eqPieceS_L0_r.step (w_eqPieceS_L0_mk v0 v1 v2) = Stp.elim (fun a' : Unit => some (Sum.inl (w_eqPieceS_L0_mk v0 v1 (v2 + 1)))) (fun w => some (Sum.inr ((fun p : Unit => Sum.inl (w_eqPieceS_L0_mx0 false)) w))) (w_eqPieceS_L0_f v0 v1 v2 ()) := by
  have hw : (IntKind.wrap .i64 (v2 + 1)) = v2 + 1 := wrap64 (by omega) (by omega)
  show w_eqPieceS_L0_B v0 v1 v2 (Option (w_eqPieceS_L0_sh.T ⊕ WT w_eqPieceS_L0_es)) none (fun v' => some (Sum.inl v')) (fun w => some (Sum.inr w)) = _
  unfold w_eqPieceS_L0_B w_eqPieceS_L0_f
  exact bifG (by simp only [decide_eq_true_eq]; omega) (bifG (by (try simp only [Nat.ble_eq, Bool.and_eq_true, decide_eq_true_eq]); grind [maxSl, maxStr, toBytes_length, toInts_length, List.length_set, wrap64]) (bifG (by (try simp only [Nat.ble_eq, Bool.and_eq_true, decide_eq_true_eq]); grind [maxSl, maxStr, toBytes_length, toInts_length, List.length_set, wrap64]) (letT (f := (Stp.elim (fun a' : Unit => some (Sum.inl (w_eqPieceS_L0_mk v0 v1 (v2 + 1)))) (fun w => some (Sum.inr ((fun p : Unit => Sum.inl (w_eqPieceS_L0_mx0 false)) w))))) (fun c1 hc1 => bifT (f := (Stp.elim (fun a' : Unit => some (Sum.inl (w_eqPieceS_L0_mk v0 v1 (v2 + 1)))) (fun w => some (Sum.inr ((fun p : Unit => Sum.inl (w_eqPieceS_L0_mx0 false)) w))))) (fun b0 => rfl)
      (fun b0 => (by exact congrArg (fun z => some (Sum.inl (w_eqPieceS_L0_mk v0 v1 z))) hw))))))
theorem w_eqPieceS_L0_cl (v0 : List Piec) (v1 : List Piec) (v2 : Int) (h0 : 0 ≤ v2) (h1 : (v0.length : Int) ≤ 4611686018427387904) (h2 : (v0.length : Int) ≤ (v1.length : Int)) : loopF w_eqPieceS_L0_r.step (w_eqPieceS_L0_fu v0 v1 v2) (w_eqPieceS_L0_mk v0 v1 v2) = some (Stp.elim (fun a => (fun i a => Sum.inr (w_eqPieceS_L0_mx1 )) (v2 + 1 * (((Int.toNat ((v0.length : Int) - v2)) : Nat) : Int)) a) (fun p : Unit => Sum.inl (w_eqPieceS_L0_mx0 false)) (forN (w_eqPieceS_L0_f v0 v1) 1 (Int.toNat ((v0.length : Int) - v2)) v2 ())) :=
  forN_loop (step := w_eqPieceS_L0_r.step) (mk := fun v2 a => w_eqPieceS_L0_mk v0 v1 v2) (f := w_eqPieceS_L0_f v0 v1) (e := (fun i a => Sum.inr (w_eqPieceS_L0_mx1 ))) (emb := (fun p : Unit => Sum.inl (w_eqPieceS_L0_mx0 false))) (st := 1) (Inv := fun v2 a => True) (Int.toNat ((v0.length : Int) - v2)) v2 () _ (Nat.lt_succ_self _) trivial
    (fun j a hj hv => ⟨w_eqPieceS_L0_st v0 v1 (v2 + 1 * (j : Int)) (by omega) (by omega) (by omega) h2, fun _ _ => trivial⟩)
    (fun a hv => by
      show w_eqPieceS_L0_B v0 v1 (v2 + 1 * (((Int.toNat ((v0.length : Int) - v2)) : Nat) : Int)) (Option (w_eqPieceS_L0_sh.T ⊕ WT w_eqPieceS_L0_es)) none (fun v' => some (Sum.inl v')) (fun w => some (Sum.inr w)) = _
      unfold w_eqPieceS_L0_B
      exact bifN (by simp only [decide_eq_false_iff_not]; omega) rfl)
def w_eqPieceS_N (x0 : List Piec) (x1 : List Piec) (γ : Type) (fail : γ) (k : Bool → γ) : γ :=
  bif ((x0.length : Int) != (x1.length : Int)) then
    k false
  else
  optK (loopF w_eqPieceS_L0_r.step (w_eqPieceS_L0_fu x0 x1 0) (w_eqPieceS_L0_mk x0 x1 0)) fail fun w2 =>
    Sum.elim (fun w2 =>
      k w2.1.1.1)
    (fun w2 =>
      k true) w2
def w_eqPieceS (x0 : List Piec) (x1 : List Piec) : Bool :=
  bif ((x0.length : Int) != (x1.length : Int)) then
    false
  else
  Stp.elim (fun a3 =>
    true)
    (fun p3 =>
      false)
    (forN (w_eqPieceS_L0_f x0 x1) 1 (Int.toNat ((x0.length : Int) - 0)) 0 ())
theorem w_eqPieceS_lk (x0 : List Piec) (x1 : List Piec) : evalFn te (orcOf (P := Try.prog) [w_eqPiece_e]) (lorcOf [w_eqPieceS_L0_le]) w_eqPieceS_ann Try.f203 (pvs [.sc (.sl .piec), .sc (.sl .piec)] (x0, x1, ())) =
  w_eqPieceS_N x0 x1 _ none (fun v => some [(false, [RC.c (.bool v)])]) := by kernel_rfl
theorem w_eqPieceS_p (x0 : List Piec) (x1 : List Piec) (hx0 : x0.length ≤ 140737488355328) (hx0_e : ∀ y ∈ x0, ∀ c ∈ Ty.cells .piec y, FactC c) (hx1 : x1.length ≤ 140737488355328) (hx1_e : ∀ y ∈ x1, ∀ c ∈ Ty.cells .piec y, FactC c)  (γ : Type) (fail : γ) (k : Bool → γ) : w_eqPieceS_N x0 x1 γ fail k = k (w_eqPieceS x0 x1) := by
  unfold w_eqPieceS_N w_eqPieceS
  exact bifT (f := k) (fun b0 => rfl)
      (fun b0 => loopT (f := k) (w_eqPieceS_L0_cl x0 x1 0 (by (try simp only [Nat.ble_eq, Bool.and_eq_true, decide_eq_true_eq, w_eqPieceS_L0_mx0, w_eqPieceS_L0_mx1]); grind [maxSl, maxStr, toBytes_length, toInts_length, List.length_set, wrap64]) (by (try simp only [Nat.ble_eq, Bool.and_eq_true, decide_eq_true_eq, w_eqPieceS_L0_mx0, w_eqPieceS_L0_mx1]); grind [maxSl, maxStr, toBytes_length, toInts_length, List.length_set, wrap64]) (by (try simp only [Nat.ble_eq, Bool.and_eq_true, decide_eq_true_eq, w_eqPieceS_L0_mx0, w_eqPieceS_L0_mx1]); grind [maxSl, maxStr, toBytes_length, toInts_length, List.length_set, wrap64])) (fun a3 => rfl)
      (fun p3 => rfl))
theorem w_eqPieceS_c (x0 : List Piec) (x1 : List Piec)  : Con Try.prog 203 (pvs [.sc (.sl .piec), .sc (.sl .piec)] (x0, x1, ())) [rv (.sc .bool) [] (w_eqPieceS x0 x1)] := by
  refine Con.of_facts (enters_of Try.func203 rfl (by kernel_rfl)) fun hf => ?_
  replace hf := factAt hf
  exact evalFn_conL teFact mixFact (orcOf_ok _) Try.func203 (by kernel_rfl) (bs := [0]) (by kernel_rfl) (by kernel_rfl) (fun w0 mo I0 hmo => ⟨lsem_of_lorc (w_eqPieceS_L0_ls w0 mo I0 hmo) (by kernel_rfl), trivial⟩) ((w_eqPieceS_lk x0 x1).trans (w_eqPieceS_p x0 x1 ((hf 0 0 rfl rfl).len) (fun y hy => (hf 0 0 rfl rfl).elem hy) ((hf 1 0 rfl rfl).len) (fun y hy => (hf 1 0 rfl rfl).elem hy) _ _ _))
noncomputable def w_eqPieceS_e : Ent1 Try.prog := entA 203 [.sc (.sl .piec), .sc (.sl .piec)] (fun x => (w_eqPieceS x.1 x.2.1)) (fun v => [rv (.sc .bool) [] v]) (fun x => w_eqPieceS_c x.1 x.2.1)


/-- laws.eqHalfS -/
def w_eqHalfS_ann : List (Nat × Keep) := [(0, ⟨[0, 1, 5], [], false, 0⟩)]
def w_eqHalfS_L0_sh : Sh := ⟨[(0, false, [.sl .arg .half]), (1, false, [.sl .arg .half]), (5, false, [.int .i64])], []⟩
def w_eqHalfS_L0_es : List (Ex × Sh) := [(.ret, ⟨[(4, false, [.bool])], []⟩), (.exit 0, ⟨[(4, false, [.undef])], []⟩)]
def w_eqHalfS_L0_mk (v0 : List Half) (v1 : List Half) (v2 : Int) : w_eqHalfS_L0_sh.T := (((v0, ()), ((v1, ()), ((v2, ()), ()))), ())
def w_eqHalfS_L0_mx0 (y0 : Bool) : Sh.T ⟨[(4, false, [.bool])], []⟩ := (((y0, ()), ()), ())
def w_eqHalfS_L0_mx1  : Sh.T ⟨[(4, false, [.undef])], []⟩ := ((((), ()), ()), ())
def w_eqHalfS_L0_B (v0 : List Half) (v1 : List Half) (v2 : Int) (γ : Type) (fail : γ) (next : w_eqHalfS_L0_sh.T → γ) (out : WT w_eqHalfS_L0_es → γ) : γ :=
  bif (decide (v2 < (v0.length : Int))) then
    bif ((decide (0 ≤ v2)) && (decide (v2 < (v0.length : Int)))) then
    bif ((decide (0 ≤ v2)) && (decide (v2 < (v1.length : Int)))) then
    letK (α := Bool) (w_eqHalf (v0.getD v2.toNat (Ty.zero .half)) (v1.getD v2.toNat (Ty.zero .half))) fun c1 =>
    bif (!c1) then
      out (Sum.inl (w_eqHalfS_L0_mx0 false))
    else
    next (w_eqHalfS_L0_mk v0 v1 (IntKind.wrap .i64 (v2 + 1)))
    else fail
    else fail
  else
  out (Sum.inr (w_eqHalfS_L0_mx1 ))
theorem w_eqHalfS_L0_par (v0 : List Half) (v1 : List Half) (v2 : Int) (γ : Type) (fail : γ) (next : w_eqHalfS_L0_sh.T → γ) (out : WT w_eqHalfS_L0_es → γ) : w_eqHalfS_L0_B v0 v1 v2 γ fail next out = optK (w_eqHalfS_L0_B v0 v1 v2 _ none (fun v' => some (.inl v')) (fun w => some (.inr w))) fail (fun r => Sum.elim next out r) := by
  unfold w_eqHalfS_L0_B
  exact bifT (f := (fun o => optK o fail (fun r => Sum.elim next out r))) (fun _ => bifT (f := (fun o => optK o fail (fun r => Sum.elim next out r))) (fun _ => bifT (f := (fun o => optK o fail (fun r => Sum.elim next out r))) (fun _ => letT (f := (fun o => optK o fail (fun r => Sum.elim next out r))) (fun c1 _ => bifT (f := (fun o => optK o fail (fun r => Sum.elim next out r))) (fun _ => rfl)
      (fun _ => rfl))) (fun _ => rfl)) (fun _ => rfl))
      (fun _ => rfl)
def w_eqHalfS_L0_r : Round w_eqHalfS_L0_sh.T (WT w_eqHalfS_L0_es) where
  B v γ fail next out := w_eqHalfS_L0_B v.1.1.1 v.1.2.1.1 v.1.2.2.1.1 γ fail next out
  par v γ fail next out := w_eqHalfS_L0_par v.1.1.1 v.1.2.1.1 v.1.2.2.1.1 γ fail next out
def w_eqHalfS_L0_fu (v0 : List Half) (v1 : List Half) (v2 : Int) : Nat := (Int.toNat ((v0.length : Int) - v2)) + 1
theorem w_eqHalfS_L0_lk (v : w_eqHalfS_L0_sh.T) (next : St → Option Res) (k : Ex → St → Option Res) : evalK te (orcOf (P := Try.prog) [w_eqHalf_e]) (lorcOf []) Try.f78.ntmps w_eqHalfS_ann (nthLoop (bodyOf Try.f78) 0 0) 0 (w_eqHalfS_L0_sh.enc v) (endK ⟨[0, 1, 5], [], false, 0⟩ ⟨[4], [], false, 0⟩ next k) =
  w_eqHalfS_L0_r.B v _ none (fun v' => next (w_eqHalfS_L0_sh.enc v')) (fun w => outK w_eqHalfS_L0_es k w) := by kernel_rfl
def w_eqHalfS_L0_le : LE := leOf 0 w_eqHalfS_L0_sh w_eqHalfS_L0_es w_eqHalfS_L0_r.step (fun v => w_eqHalfS_L0_fu v.1.1.1 v.1.2.1.1 v.1.2.2.1.1)
theorem w_eqHalfS_L0_ls (w0 : World) (mo : Mts) (I0 : Nat → Prop) (hmo : mo.length = 0) : LSem Try.prog (Sim w0 mo Try.f78.ntmps I0) (fun b s k => match Nat.beq 0 b with | true => w_eqHalfS_L0_le.run s k | false => none) 0 (nthLoop (bodyOf Try.f78) 0 0) :=
  le_sem hmo (lorc := lorcOf []) (ann := w_eqHalfS_ann) (keep := ⟨[0, 1, 5], [], false, 0⟩) (kout := ⟨[4], [], false, 0⟩) teFact mixFact (orcOf_ok _) (by kernel_rfl) (allLoops_of (bs := []) (by kernel_rfl) trivial) w_eqHalfS_L0_r _ w_eqHalfS_L0_lk
def w_eqHalfS_L0_f (v0 : List Half) (v1 : List Half) (v2 : Int) (a : Unit) : Stp (Unit) ((Unit)) :=
  letK (α := Bool) (w_eqHalf (v0.getD v2.toNat (Ty.zero .half)) (v1.getD v2.toNat (Ty.zero .half))) fun c1 =>
  bif (!c1) then
    .out (())
  else
  .next ()
theorem w_eqHalfS_L0_st (v0 : List Half) (v1 : List Half) (v2 : Int) (hlo : 0 ≤ v2) (hhi : v2 < (v0.length : Int)) (hN : (v0.length : Int) ≤ 4611686018427387904) (hi0 : (v0.length : Int) ≤ (v1.length : Int)) : w_eqHalfS_L0_r.step (w_eqHalfS_L0_mk v0 v1 v2) = Stp.elim (fun a' : Unit => some (Sum.inl (w_eqHalfS_L0_mk v0 v1 (v2 + 1)))) (fun w => some (Sum.inr ((fun p : Unit => Sum.inl (w_eqHalfS_L0_mx0 false)) w))) (w_eqHalfS_L0_f v0 v1 v2 ()) := by
  have hw : (IntKind.wrap .i64 (v2 + 1)) = v2 + 1 := wrap64 (by omega) (by omega)
  show w_eqHalfS_L0_B v0 v1 v2 (Option (w_eqHalfS_L0_sh.T ⊕ WT w_eqHalfS_L0_es)) none (fun v' => some (Sum.inl v')) (fun w => some (Sum.inr w)) = _
  unfold w_eqHalfS_L0_B w_eqHalfS_L0_f
  exact bifG (by simp only [decide_eq_true_eq]; omega) (bifG (by (try simp only [Nat.ble_eq, Bool.and_eq_true, decide_eq_true_eq]); grind [maxSl, maxStr, toBytes_length, toInts_length, List.length_set, wrap64]) (bifG (by (try simp only [Nat.ble_eq, Bool.and_eq_true, decide_eq_true_eq]); grind [maxSl, maxStr, toBytes_length, toInts_length, List.length_set, wrap64]) (letT (f := (Stp.elim (fun a' : Unit => some (Sum.inl (w_eqHalfS_L0_mk v0 v1 (v2 + 1)))) (fun w => some (Sum.inr ((fun p : Unit => Sum.inl (w_eqHalfS_L0_mx0 false)) w))))) (fun c1 hc1 => bifT (f := (Stp.elim (fun a' : Unit => some (Sum.inl (w_eqHalfS_L0_mk v0 v1 (v2 + 1)))) (fun w => some (Sum.inr ((fun p : Unit => Sum.inl (w_eqHalfS_L0_mx0 false)) w))))) (fun b0 => rfl)
      (fun b0 => (by exact congrArg (fun z => some (Sum.inl (w_eqHalfS_L0_mk v0 v1 z))) hw))))))
theorem w_eqHalfS_L0_cl (v0 : List Half) (v1 : List Half) (v2 : Int) (h0 : 0 ≤ v2) (h1 : (v0.length : Int) ≤ 4611686018427387904) (h2 : (v0.length : Int) ≤ (v1.length : Int)) : loopF w_eqHalfS_L0_r.step (w_eqHalfS_L0_fu v0 v1 v2) (w_eqHalfS_L0_mk v0 v1 v2) = some (Stp.elim (fun a => (fun i a => Sum.inr (w_eqHalfS_L0_mx1 )) (v2 + 1 * (((Int.toNat ((v0.length : Int) - v2)) : Nat) : Int)) a) (fun p : Unit => Sum.inl (w_eqHalfS_L0_mx0 false)) (forN (w_eqHalfS_L0_f v0 v1) 1 (Int.toNat ((v0.length : Int) - v2)) v2 ())) :=
  forN_loop (step := w_eqHalfS_L0_r.step) (mk := fun v2 a => w_eqHalfS_L0_mk v0 v1 v2) (f := w_eqHalfS_L0_f v0 v1) (e := (fun i a => Sum.inr (w_eqHalfS_L0_mx1 ))) (emb := (fun p : Unit => Sum.inl (w_eqHalfS_L0_mx0 false))) (st := 1) (Inv := fun v2 a => True) (Int.toNat ((v0.length : Int) - v2)) v2 () _ (Nat.lt_succ_self _) trivial
    (fun j a hj hv => ⟨w_eqHalfS_L0_st v0 v1 (v2 + 1 * (j : Int)) (by omega) (by omega) (by omega) h2, fun _ _ => trivial⟩)
    (fun a hv => by
      show w_eqHalfS_L0_B v0 v1 (v2 + 1 * (((Int.toNat ((v0.length : Int) - v2)) : Nat) : Int)) (Option (w_eqHalfS_L0_sh.T ⊕ WT w_eqHalfS_L0_es)) none (fun v' => some (Sum.inl v')) (fun w => some (Sum.inr w)) = _
      unfold w_eqHalfS_L0_B
      exact bifN (by simp only [decide_eq_false_iff_not]; omega) rfl)
def w_eqHalfS_N (x0 : List Half) (x1 : List Half) (γ : Type) (fail : γ) (k : Bool → γ) : γ :=
  bif ((x0.length : Int) != (x1.length : Int)) then
    k false
  else
  optK (loopF w_eqHalfS_L0_r.step (w_eqHalfS_L0_fu x0 x1 0) (w_eqHalfS_L0_mk x0 x1 0)) fail fun w2 =>
    Sum.elim (fun w2 =>
      k w2.1.1.1)
    (fun w2 =>
      k true) w2
def w_eqHalfS (x0 : List Half) (x1 : List Half) : Bool :=
  bif ((x0.length : Int) != (x1.length : Int)) then
    false
  else
  Stp.elim (fun a3 =>
    true)
    (fun p3 =>
      false)
    (forN (w_eqHalfS_L0_f x0 x1) 1 (Int.toNat ((x0.length : Int) - 0)) 0 ())
theorem w_eqHalfS_lk (x0 : List Half) (x1 : List Half) : evalFn te (orcOf (P := Try.prog) [w_eqHalf_e]) (lorcOf [w_eqHalfS_L0_le]) w_eqHalfS_ann Try.f78 (pvs [.sc (.sl .half), .sc (.sl .half)] (x0, x1, ())) =
  w_eqHalfS_N x0 x1 _ none (fun v => some [(false, [RC.c (.bool v)])]) := by kernel_rfl
theorem w_eqHalfS_p (x0 : List Half) (x1 : List Half) (hx0 : x0.length ≤ 140737488355328) (hx1 : x1.length ≤ 140737488355328)  (γ : Type) (fail : γ) (k : Bool → γ) : w_eqHalfS_N x0 x1 γ fail k = k (w_eqHalfS x0 x1) := by
  unfold w_eqHalfS_N w_eqHalfS
  exact bifT (f := k) (fun b0 => rfl)
      (fun b0 => loopT (f := k) (w_eqHalfS_L0_cl x0 x1 0 (by (try simp only [Nat.ble_eq, Bool.and_eq_true, decide_eq_true_eq, w_eqHalfS_L0_mx0, w_eqHalfS_L0_mx1]); grind [maxSl, maxStr, toBytes_length, toInts_length, List.length_set, wrap64]) (by (try simp only [Nat.ble_eq, Bool.and_eq_true, decide_eq_true_eq, w_eqHalfS_L0_mx0, w_eqHalfS_L0_mx1]); grind [maxSl, maxStr, toBytes_length, toInts_length, List.length_set, wrap64]) (by (try simp only [Nat.ble_eq, Bool.and_eq_true, decide_eq_true_eq, w_eqHalfS_L0_mx0, w_eqHalfS_L0_mx1]); grind [maxSl, maxStr, toBytes_length, toInts_length, List.length_set, wrap64])) (fun a3 => rfl)
      (fun p3 => rfl))
theorem w_eqHalfS_c (x0 : List Half) (x1 : List Half)  : Con Try.prog 78 (pvs [.sc (.sl .half), .sc (.sl .half)] (x0, x1, ())) [rv (.sc .bool) [] (w_eqHalfS x0 x1)] := by
  refine Con.of_facts (enters_of Try.func78 rfl (by kernel_rfl)) fun hf => ?_
  replace hf := factAt hf
  exact evalFn_conL teFact mixFact (orcOf_ok _) Try.func78 (by kernel_rfl) (bs := [0]) (by kernel_rfl) (by kernel_rfl) (fun w0 mo I0 hmo => ⟨lsem_of_lorc (w_eqHalfS_L0_ls w0 mo I0 hmo) (by kernel_rfl), trivial⟩) ((w_eqHalfS_lk x0 x1).trans (w_eqHalfS_p x0 x1 ((hf 0 0 rfl rfl).len) ((hf 1 0 rfl rfl).len) _ _ _))
noncomputable def w_eqHalfS_e : Ent1 Try.prog := entA 78 [.sc (.sl .half), .sc (.sl .half)] (fun x => (w_eqHalfS x.1 x.2.1)) (fun v => [rv (.sc .bool) [] v]) (fun x => w_eqHalfS_c x.1 x.2.1)


/-- laws.toLink -/
def w_toLink_N (x0 : Link) (γ : Type) (fail : γ) (k : Link → γ) : γ :=
  bif (decide (x0.cache.length ≤ 4294967296)) then
  letK (α := List Entr) (w_toEntryS x0.cache) fun c1 =>
  k ({ x0 with cache := c1 } : Link)
  else fail
def w_toLink (x0 : Link) : Link :=
  letK (α := List Entr) (w_toEntryS x0.cache) fun c1 =>
  ({ x0 with cache := c1 } : Link)
theorem w_toLink_lk (x0 : Link) : evalFn te (orcOf (P := Try.prog) [w_toEntryS_e]) lorc0 [] Try.f83 (pvs [.st .link] (x0, ())) =
  w_toLink_N x0 _ none (fun v => some [(true, [RC.c (.int .i64 v.mac), RC.c (.int .i64 v.ip), RC.own true .entr v.cache])]) := by kernel_rfl
theorem w_toLink_p (x0 : Link) (hx0_mac : inK .i64 x0.mac) (hx0_ip : inK .i64 x0.ip) (hx0_cache : x0.cache.length ≤ 140737488355328) (hp : x0.cache.length ≤ 4294967296) (γ : Type) (fail : γ) (k : Link → γ) : w_toLink_N x0 γ fail k = k (w_toLink x0) := by
  unfold w_toLink_N w_toLink
  exact bifG (by (try simp only [Nat.ble_eq, Bool.and_eq_true, decide_eq_true_eq]); grind [maxSl, maxStr, toBytes_length, toInts_length, List.length_set, wrap64]) (letT (f := k) (fun c1 hc1 => rfl))
theorem w_toLink_c (x0 : Link) (hp : x0.cache.length ≤ 4294967296) : Con Try.prog 83 (pvs [.st .link] (x0, ())) [rv (.st .link) [.c, .c, .o true] (w_toLink x0)] := by
  refine Con.of_facts (enters_of Try.func83 rfl (by kernel_rfl)) fun hf => ?_
  replace hf := factAt hf
  exact evalFn_con0 teFact mixFact (orcOf_ok _) Try.func83 (by kernel_rfl) ((w_toLink_lk x0).trans (w_toLink_p x0 ((hf 0 0 rfl rfl).rng) ((hf 0 1 rfl rfl).rng) ((hf 0 2 rfl rfl).len) hp _ _ _))
noncomputable def w_toLink_e : Ent1 Try.prog := entP 83 [.st .link] (fun x => (decide (x.1.cache.length ≤ 4294967296))) (fun x => (w_toLink x.1)) (fun v => [rv (.st .link) [.c, .c, .o true] v]) (fun x hx => w_toLink_c x.1 (of_decide_eq_true hx))


/-- laws.eqLink -/
def w_eqLink_N (x0 : Link) (x1 : Link) (γ : Type) (fail : γ) (k : Bool → γ) : γ :=
  bif (x0.mac != x1.mac) then
    k false
  else
  bif (x0.ip != x1.ip) then
    k false
  else
  letK (α := Bool) (w_eqEntryS x0.cache x1.cache) fun c1 =>
  bif (!c1) then
    k false
  else
  k true
def w_eqLink (x0 : Link) (x1 : Link) : Bool :=
  bif (x0.mac != x1.mac) then
    false
  else
  bif (x0.ip != x1.ip) then
    false
  else
  letK (α := Bool) (w_eqEntryS x0.cache x1.cache) fun c1 =>
  bif (!c1) then
    false
  else
  true
theorem w_eqLink_lk (x0 : Link) (x1 : Link) : evalFn te (orcOf (P := Try.prog) [w_eqEntryS_e]) lorc0 [] Try.f86 (pvs [.st .link, .st .link] (x0, x1, ())) =
  w_eqLink_N x0 x1 _ none (fun v => some [(false, [RC.c (.bool v)])]) := by kernel_rfl
theorem w_eqLink_p (x0 : Link) (x1 : Link)   (γ : Type) (fail : γ) (k : Bool → γ) : w_eqLink_N x0 x1 γ fail k = k (w_eqLink x0 x1) := by
  unfold w_eqLink_N w_eqLink
  exact bifT (f := k) (fun b0 => rfl)
      (fun b0 => bifT (f := k) (fun b1 => rfl)
      (fun b1 => letT (f := k) (fun c1 hc1 => bifT (f := k) (fun b2 => rfl)
      (fun b2 => rfl))))
theorem w_eqLink_c (x0 : Link) (x1 : Link)  : Con Try.prog 86 (pvs [.st .link, .st .link] (x0, x1, ())) [rv (.sc .bool) [] (w_eqLink x0 x1)] := by
  exact evalFn_con0 teFact mixFact (orcOf_ok _) Try.func86 (by kernel_rfl) ((w_eqLink_lk x0 x1).trans (w_eqLink_p x0 x1  _ _ _))
noncomputable def w_eqLink_e : Ent1 Try.prog := entA 86 [.st .link, .st .link] (fun x => (w_eqLink x.1 x.2.1)) (fun v => [rv (.sc .bool) [] v]) (fun x => w_eqLink_c x.1 x.2.1)


/-- laws.toMac -/
def w_toMac_N (x0 : Mac) (γ : Type) (fail : γ) (k : Mac → γ) : γ :=
  bif (decide (x0.rows.length ≤ 4294967296)) then
  letK (α := List MacRow) (w_toMacRowS x0.rows) fun c1 =>
  k ({ x0 with rows := c1 } : Mac)
  else fail
def w_toMac (x0 : Mac) : Mac :=
  letK (α := List MacRow) (w_toMacRowS x0.rows) fun c1 =>
  ({ x0 with rows := c1 } : Mac)
theorem w_toMac_lk (x0 : Mac) : evalFn te (orcOf (P := Try.prog) [w_toMacRowS_e]) lorc0 [] Try.f122 (pvs [.st .mac] (x0, ())) =
  w_toMac_N x0 _ none (fun v => some [(true, [RC.c (.bool v.use), RC.c (.int .u64 v.k), RC.c (.int .u64 v.l), RC.own true .macRow v.rows])]) := by kernel_rfl
theorem w_toMac_p (x0 : Mac) (hx0_k : inK .u64 x0.k) (hx0_l : inK .u64 x0.l) (hx0_rows : x0.rows.length ≤ 140737488355328) (hx0_rows_e : ∀ y ∈ x0.rows, ∀ c ∈ Ty.cells .macRow y, FactC c) (hp : x0.rows.length ≤ 4294967296) (γ : Type) (fail : γ) (k : Mac → γ) : w_toMac_N x0 γ fail k = k (w_toMac x0) := by
  unfold w_toMac_N w_toMac
  exact bifG (by (try simp only [Nat.ble_eq, Bool.and_eq_true, decide_eq_true_eq]); grind [maxSl, maxStr, toBytes_length, toInts_length, List.length_set, wrap64]) (letT (f := k) (fun c1 hc1 => rfl))
theorem w_toMac_c (x0 : Mac) (hp : x0.rows.length ≤ 4294967296) : Con Try.prog 122 (pvs [.st .mac] (x0, ())) [rv (.st .mac) [.c, .c, .c, .o true] (w_toMac x0)] := by
  refine Con.of_facts (enters_of Try.func122 rfl (by kernel_rfl)) fun hf => ?_
  replace hf := factAt hf
  exact evalFn_con0 teFact mixFact (orcOf_ok _) Try.func122 (by kernel_rfl) ((w_toMac_lk x0).trans (w_toMac_p x0 ((hf 0 1 rfl rfl).rng) ((hf 0 2 rfl rfl).rng) ((hf 0 3 rfl rfl).len) (fun y hy => (hf 0 3 rfl rfl).elem hy) hp _ _ _))
noncomputable def w_toMac_e : Ent1 Try.prog := entP 122 [.st .mac] (fun x => (decide (x.1.rows.length ≤ 4294967296))) (fun x => (w_toMac x.1)) (fun v => [rv (.st .mac) [.c, .c, .c, .o true] v]) (fun x hx => w_toMac_c x.1 (of_decide_eq_true hx))


/-- laws.eqMac -/
def w_eqMac_N (x0 : Mac) (x1 : Mac) (γ : Type) (fail : γ) (k : Bool → γ) : γ :=
  bif (!(x0.use == x1.use)) then
    k false
  else
  bif (x0.k != x1.k) then
    k false
  else
  bif (x0.l != x1.l) then
    k false
  else
  letK (α := Bool) (w_eqMacRowS x0.rows x1.rows) fun c1 =>
  bif (!c1) then
    k false
  else
  k true
def w_eqMac (x0 : Mac) (x1 : Mac) : Bool :=
  bif (!(x0.use == x1.use)) then
    false
  else
  bif (x0.k != x1.k) then
    false
  else
  bif (x0.l != x1.l) then
    false
  else
  letK (α := Bool) (w_eqMacRowS x0.rows x1.rows) fun c1 =>
  bif (!c1) then
    false
  else
  true
theorem w_eqMac_lk (x0 : Mac) (x1 : Mac) : evalFn te (orcOf (P := Try.prog) [w_eqMacRowS_e]) lorc0 [] Try.f126 (pvs [.st .mac, .st .mac] (x0, x1, ())) =
  w_eqMac_N x0 x1 _ none (fun v => some [(false, [RC.c (.bool v)])]) := by kernel_rfl
theorem w_eqMac_p (x0 : Mac) (x1 : Mac)   (γ : Type) (fail : γ) (k : Bool → γ) : w_eqMac_N x0 x1 γ fail k = k (w_eqMac x0 x1) := by
  unfold w_eqMac_N w_eqMac
  exact bifT (f := k) (fun b0 => rfl)
      (fun b0 => bifT (f := k) (fun b1 => rfl)
      (fun b1 => bifT (f := k) (fun b2 => rfl)
      (fun b2 => letT (f := k) (fun c1 hc1 => bifT (f := k) (fun b3 => rfl)
      (fun b3 => rfl)))))
theorem w_eqMac_c (x0 : Mac) (x1 : Mac)  : Con Try.prog 126 (pvs [.st .mac, .st .mac] (x0, x1, ())) [rv (.sc .bool) [] (w_eqMac x0 x1)] := by
  exact evalFn_con0 teFact mixFact (orcOf_ok _) Try.func126 (by kernel_rfl) ((w_eqMac_lk x0 x1).trans (w_eqMac_p x0 x1  _ _ _))
noncomputable def w_eqMac_e : Ent1 Try.prog := entA 126 [.st .mac, .st .mac] (fun x => (w_eqMac x.1 x.2.1)) (fun v => [rv (.sc .bool) [] v]) (fun x => w_eqMac_c x.1 x.2.1)


/-- spec.SameTable -/
def s_SameTable_ann : List (Nat × Keep) := [(0, ⟨[2, 3, 5], [], false, 0⟩), (2, ⟨[2, 3, 6], [], false, 0⟩)]
def s_SameTable_L0_sh : Sh := ⟨[(2, false, [.ptr 0 0]), (3, false, [.ptr 1 0]), (5, false, [.int .i64])], [.box [.sl .arg .conn, .sl .arg .tupl], .box [.sl .arg .conn, .sl .arg .tupl]]⟩
def s_SameTable_L0_es : List (Ex × Sh) := [(.ret, ⟨[(2, false, [.ptr 0 0]), (3, false, [.ptr 1 0]), (4, false, [.bool])], [.box [.sl .arg .conn, .sl .arg .tupl], .box [.sl .arg .conn, .sl .arg .tupl]]⟩), (.exit 0, ⟨[(2, false, [.ptr 0 0]), (3, false, [.ptr 1 0]), (4, false, [.undef])], [.box [.sl .arg .conn, .sl .arg .tupl], .box [.sl .arg .conn, .sl .arg .tupl]]⟩)]
def s_SameTable_L0_mk (v0 : Int) (v1 : List Conn) (v2 : List Tupl) (v3 : List Conn) (v4 : List Tupl) : s_SameTable_L0_sh.T := ((((), ()), (((), ()), ((v0, ()), ()))), ((v1, (v2, ())), ((v3, (v4, ())), ())))
def s_SameTable_L0_mx0 (y0 : Bool) (y1 : List Conn) (y2 : List Tupl) (y3 : List Conn) (y4 : List Tupl) : Sh.T ⟨[(2, false, [.ptr 0 0]), (3, false, [.ptr 1 0]), (4, false, [.bool])], [.box [.sl .arg .conn, .sl .arg .tupl], .box [.sl .arg .conn, .sl .arg .tupl]]⟩ := ((((), ()), (((), ()), ((y0, ()), ()))), ((y1, (y2, ())), ((y3, (y4, ())), ())))
def s_SameTable_L0_mx1 (y0 : List Conn) (y1 : List Tupl) (y2 : List Conn) (y3 : List Tupl) : Sh.T ⟨[(2, false, [.ptr 0 0]), (3, false, [.ptr 1 0]), (4, false, [.undef])], [.box [.sl .arg .conn, .sl .arg .tupl], .box [.sl .arg .conn, .sl .arg .tupl]]⟩ := ((((), ()), (((), ()), (((), ()), ()))), ((y0, (y1, ())), ((y2, (y3, ())), ())))
def s_SameTable_L0_B (v0 : Int) (v1 : List Conn) (v2 : List Tupl) (v3 : List Conn) (v4 : List Tupl) (γ : Type) (fail : γ) (next : s_SameTable_L0_sh.T → γ) (out : WT s_SameTable_L0_es → γ) : γ :=
  bif (decide (v0 < (v1.length : Int))) then
    bif ((decide (0 ≤ v0)) && (decide (v0 < (v1.length : Int)))) then
    bif ((decide (0 ≤ v0)) && (decide (v0 < (v3.length : Int)))) then
    letK (α := Bool) (s_SameConn (v1.getD v0.toNat (Ty.zero .conn)) (v3.getD v0.toNat (Ty.zero .conn))) fun c1 =>
    bif (!c1) then
      out (Sum.inl (s_SameTable_L0_mx0 false v1 v2 v3 v4))
    else
    next (s_SameTable_L0_mk (IntKind.wrap .i64 (v0 + 1)) v1 v2 v3 v4)
    else fail
    else fail
  else
  out (Sum.inr (s_SameTable_L0_mx1 v1 v2 v3 v4))
theorem s_SameTable_L0_par (v0 : Int) (v1 : List Conn) (v2 : List Tupl) (v3 : List Conn) (v4 : List Tupl) (γ : Type) (fail : γ) (next : s_SameTable_L0_sh.T → γ) (out : WT s_SameTable_L0_es → γ) : s_SameTable_L0_B v0 v1 v2 v3 v4 γ fail next out = optK (s_SameTable_L0_B v0 v1 v2 v3 v4 _ none (fun v' => some (.inl v')) (fun w => some (.inr w))) fail (fun r => Sum.elim next out r) := by
  unfold s_SameTable_L0_B
  exact bifT (f := (fun o => optK o fail (fun r => Sum.elim next out r))) (fun _ => bifT (f := (fun o => optK o fail (fun r => Sum.elim next out r))) (fun _ => bifT (f := (fun o => optK o fail (fun r => Sum.elim next out r))) (fun _ => letT (f := (fun o => optK o fail (fun r => Sum.elim next out r))) (fun c1 _ => bifT (f := (fun o => optK o fail (fun r => Sum.elim next out r))) (fun _ => rfl)
      (fun _ => rfl))) (fun _ => rfl)) (fun _ => rfl))
      (fun _ => rfl)
def s_SameTable_L0_r : Round s_SameTable_L0_sh.T (WT s_SameTable_L0_es) where
  B v γ fail next out := s_SameTable_L0_B v.1.2.2.1.1 v.2.1.1 v.2.1.2.1 v.2.2.1.1 v.2.2.1.2.1 γ fail next out
  par v γ fail next out := s_SameTable_L0_par v.1.2.2.1.1 v.2.1.1 v.2.1.2.1 v.2.2.1.1 v.2.2.1.2.1 γ fail next out
def s_SameTable_L0_fu (v0 : Int) (v1 : List Conn) (v2 : List Tupl) (v3 : List Conn) (v4 : List Tupl) : Nat := (Int.toNat ((v1.length : Int) - v0)) + 1
theorem s_SameTable_L0_lk (v : s_SameTable_L0_sh.T) (next : St → Option Res) (k : Ex → St → Option Res) : evalK te (orcOf (P := Try.prog) [s_SameConn_e]) (lorcOf []) Try.f133.ntmps s_SameTable_ann (nthLoop (bodyOf Try.f133) 0 0) 0 (s_SameTable_L0_sh.enc v) (endK ⟨[2, 3, 5], [], false, 0⟩ ⟨[2, 3, 4], [], false, 0⟩ next k) =
  s_SameTable_L0_r.B v _ none (fun v' => next (s_SameTable_L0_sh.enc v')) (fun w => outK s_SameTable_L0_es k w) := by kernel_rfl
def s_SameTable_L0_le : LE := leOf 0 s_SameTable_L0_sh s_SameTable_L0_es s_SameTable_L0_r.step (fun v => s_SameTable_L0_fu v.1.2.2.1.1 v.2.1.1 v.2.1.2.1 v.2.2.1.1 v.2.2.1.2.1)
theorem s_SameTable_L0_ls (w0 : World) (mo : Mts) (I0 : Nat → Prop) (hmo : mo.length = 0) : LSem Try.prog (Sim w0 mo Try.f133.ntmps I0) (fun b s k => match Nat.beq 0 b with | true => s_SameTable_L0_le.run s k | false => none) 0 (nthLoop (bodyOf Try.f133) 0 0) :=
  le_sem hmo (lorc := lorcOf []) (ann := s_SameTable_ann) (keep := ⟨[2, 3, 5], [], false, 0⟩) (kout := ⟨[2, 3, 4], [], false, 0⟩) teFact mixFact (orcOf_ok _) (by kernel_rfl) (allLoops_of (bs := []) (by kernel_rfl) trivial) s_SameTable_L0_r _ s_SameTable_L0_lk
def s_SameTable_L0_f (v1 : List Conn) (v2 : List Tupl) (v3 : List Conn) (v4 : List Tupl) (v0 : Int) (a : Unit) : Stp (Unit) ((Unit)) :=
  letK (α := Bool) (s_SameConn (v1.getD v0.toNat (Ty.zero .conn)) (v3.getD v0.toNat (Ty.zero .conn))) fun c1 =>
  bif (!c1) then
    .out (())
  else
  .next ()
theorem s_SameTable_L0_st (v0 : Int) (v1 : List Conn) (v2 : List Tupl) (v3 : List Conn) (v4 : List Tupl) (hlo : 0 ≤ v0) (hhi : v0 < (v1.length : Int)) (hN : (v1.length : Int) ≤ 4611686018427387904) (hi0 : (v1.length : Int) ≤ (v3.length : Int)) : s_SameTable_L0_r.step (s_SameTable_L0_mk v0 v1 v2 v3 v4) = Stp.elim (fun a' : Unit => some (Sum.inl (s_SameTable_L0_mk (v0 + 1) v1 v2 v3 v4))) (fun w => some (Sum.inr ((fun p : Unit => Sum.inl (s_SameTable_L0_mx0 false v1 v2 v3 v4)) w))) (s_SameTable_L0_f v1 v2 v3 v4 v0 ()) := by
  have hw : (IntKind.wrap .i64 (v0 + 1)) = v0 + 1 := wrap64 (by omega) (by omega)
  show s_SameTable_L0_B v0 v1 v2 v3 v4 (Option (s_SameTable_L0_sh.T ⊕ WT s_SameTable_L0_es)) none (fun v' => some (Sum.inl v')) (fun w => some (Sum.inr w)) = _
  unfold s_SameTable_L0_B s_SameTable_L0_f
  exact bifG (by simp only [decide_eq_true_eq]; omega) (bifG (by (try simp only [Nat.ble_eq, Bool.and_eq_true, decide_eq_true_eq]); grind [maxSl, maxStr, toBytes_length, toInts_length, List.length_set, wrap64]) (bifG (by (try simp only [Nat.ble_eq, Bool.and_eq_true, decide_eq_true_eq]); grind [maxSl, maxStr, toBytes_length, toInts_length, List.length_set, wrap64]) (letT (f := (Stp.elim (fun a' : Unit => some (Sum.inl (s_SameTable_L0_mk (v0 + 1) v1 v2 v3 v4))) (fun w => some (Sum.inr ((fun p : Unit => Sum.inl (s_SameTable_L0_mx0 false v1 v2 v3 v4)) w))))) (fun c1 hc1 => bifT (f := (Stp.elim (fun a' : Unit => some (Sum.inl (s_SameTable_L0_mk (v0 + 1) v1 v2 v3 v4))) (fun w => some (Sum.inr ((fun p : Unit => Sum.inl (s_SameTable_L0_mx0 false v1 v2 v3 v4)) w))))) (fun b0 => rfl)
      (fun b0 => (by exact congrArg (fun z => some (Sum.inl (s_SameTable_L0_mk z v1 v2 v3 v4))) hw))))))
theorem s_SameTable_L0_cl (v0 : Int) (v1 : List Conn) (v2 : List Tupl) (v3 : List Conn) (v4 : List Tupl) (h0 : 0 ≤ v0) (h1 : (v1.length : Int) ≤ 4611686018427387904) (h2 : (v1.length : Int) ≤ (v3.length : Int)) : loopF s_SameTable_L0_r.step (s_SameTable_L0_fu v0 v1 v2 v3 v4) (s_SameTable_L0_mk v0 v1 v2 v3 v4) = some (Stp.elim (fun a => (fun i a => Sum.inr (s_SameTable_L0_mx1 v1 v2 v3 v4)) (v0 + 1 * (((Int.toNat ((v1.length : Int) - v0)) : Nat) : Int)) a) (fun p : Unit => Sum.inl (s_SameTable_L0_mx0 false v1 v2 v3 v4)) (forN (s_SameTable_L0_f v1 v2 v3 v4) 1 (Int.toNat ((v1.length : Int) - v0)) v0 ())) :=
  forN_loop (step := s_SameTable_L0_r.step) (mk := fun v0 a => s_SameTable_L0_mk v0 v1 v2 v3 v4) (f := s_SameTable_L0_f v1 v2 v3 v4) (e := (fun i a => Sum.inr (s_SameTable_L0_mx1 v1 v2 v3 v4))) (emb := (fun p : Unit => Sum.inl (s_SameTable_L0_mx0 false v1 v2 v3 v4))) (st := 1) (Inv := fun v0 a => True) (Int.toNat ((v1.length : Int) - v0)) v0 () _ (Nat.lt_succ_self _) trivial
    (fun j a hj hv => ⟨s_SameTable_L0_st (v0 + 1 * (j : Int)) v1 v2 v3 v4 (by omega) (by omega) (by omega) h2, fun _ _ => trivial⟩)
    (fun a hv => by
      show s_SameTable_L0_B (v0 + 1 * (((Int.toNat ((v1.length : Int) - v0)) : Nat) : Int)) v1 v2 v3 v4 (Option (s_SameTable_L0_sh.T ⊕ WT s_SameTable_L0_es)) none (fun v' => some (Sum.inl v')) (fun w => some (Sum.inr w)) = _
      unfold s_SameTable_L0_B
      exact bifN (by simp only [decide_eq_false_iff_not]; omega) rfl)
def s_SameTable_L1_sh : Sh := ⟨[(2, false, [.ptr 0 0]), (3, false, [.ptr 1 0]), (6, false, [.int .i64])], [.box [.sl .arg .conn, .sl .arg .tupl], .box [.sl .arg .conn, .sl .arg .tupl]]⟩
def s_SameTable_L1_es : List (Ex × Sh) := [(.ret, ⟨[(4, false, [.bool])], []⟩), (.exit 2, ⟨[(4, false, [.undef])], []⟩)]
def s_SameTable_L1_mk (v0 : Int) (v1 : List Conn) (v2 : List Tupl) (v3 : List Conn) (v4 : List Tupl) : s_SameTable_L1_sh.T := ((((), ()), (((), ()), ((v0, ()), ()))), ((v1, (v2, ())), ((v3, (v4, ())), ())))
def s_SameTable_L1_mx0 (y0 : Bool) : Sh.T ⟨[(4, false, [.bool])], []⟩ := (((y0, ()), ()), ())
def s_SameTable_L1_mx1  : Sh.T ⟨[(4, false, [.undef])], []⟩ := ((((), ()), ()), ())
def s_SameTable_L1_B (v0 : Int) (v1 : List Conn) (v2 : List Tupl) (v3 : List Conn) (v4 : List Tupl) (γ : Type) (fail : γ) (next : s_SameTable_L1_sh.T → γ) (out : WT s_SameTable_L1_es → γ) : γ :=
  bif (decide (v0 < (v2.length : Int))) then
    bif ((decide (0 ≤ v0)) && (decide (v0 < (v2.length : Int)))) then
    bif ((decide (0 ≤ v0)) && (decide (v0 < (v4.length : Int)))) then
    bif (!(((v2.getD v0.toNat (Ty.zero .tupl)).ip == (v4.getD v0.toNat (Ty.zero .tupl)).ip) && (((v2.getD v0.toNat (Ty.zero .tupl)).port == (v4.getD v0.toNat (Ty.zero .tupl)).port) && (((v2.getD v0.toNat (Ty.zero .tupl)).my == (v4.getD v0.toNat (Ty.zero .tupl)).my) && true)))) then
      out (Sum.inl (s_SameTable_L1_mx0 false))
    else
    next (s_SameTable_L1_mk (IntKind.wrap .i64 (v0 + 1)) v1 v2 v3 v4)
    else fail
    else fail
  else
  out (Sum.inr (s_SameTable_L1_mx1 ))
theorem s_SameTable_L1_par (v0 : Int) (v1 : List Conn) (v2 : List Tupl) (v3 : List Conn) (v4 : List Tupl) (γ : Type) (fail : γ) (next : s_SameTable_L1_sh.T → γ) (out : WT s_SameTable_L1_es → γ) : s_SameTable_L1_B v0 v1 v2 v3 v4 γ fail next out = optK (s_SameTable_L1_B v0 v1 v2 v3 v4 _ none (fun v' => some (.inl v')) (fun w => some (.inr w))) fail (fun r => Sum.elim next out r) := by
  unfold s_SameTable_L1_B
  exact bifT (f := (fun o => optK o fail (fun r => Sum.elim next out r))) (fun _ => bifT (f := (fun o => optK o fail (fun r => Sum.elim next out r))) (fun _ => bifT (f := (fun o => optK o fail (fun r => Sum.elim next out r))) (fun _ => bifT (f := (fun o => optK o fail (fun r => Sum.elim next out r))) (fun _ => rfl)
      (fun _ => rfl)) (fun _ => rfl)) (fun _ => rfl))
      (fun _ => rfl)
def s_SameTable_L1_r : Round s_SameTable_L1_sh.T (WT s_SameTable_L1_es) where
  B v γ fail next out := s_SameTable_L1_B v.1.2.2.1.1 v.2.1.1 v.2.1.2.1 v.2.2.1.1 v.2.2.1.2.1 γ fail next out
  par v γ fail next out := s_SameTable_L1_par v.1.2.2.1.1 v.2.1.1 v.2.1.2.1 v.2.2.1.1 v.2.2.1.2.1 γ fail next out
def s_SameTable_L1_fu (v0 : Int) (v1 : List Conn) (v2 : List Tupl) (v3 : List Conn) (v4 : List Tupl) : Nat := (Int.toNat ((v2.length : Int) - v0)) + 1
theorem s_SameTable_L1_lk (v : s_SameTable_L1_sh.T) (next : St → Option Res) (k : Ex → St → Option Res) : evalK te (orcOf (P := Try.prog) [s_SameConn_e]) (lorcOf []) Try.f133.ntmps s_SameTable_ann (nthLoop (bodyOf Try.f133) 0 1) 2 (s_SameTable_L1_sh.enc v) (endK ⟨[2, 3, 6], [], false, 0⟩ ⟨[4], [], false, 0⟩ next k) =
  s_SameTable_L1_r.B v _ none (fun v' => next (s_SameTable_L1_sh.enc v')) (fun w => outK s_SameTable_L1_es k w) := by kernel_rfl
def s_SameTable_L1_le : LE := leOf 2 s_SameTable_L1_sh s_SameTable_L1_es s_SameTable_L1_r.step (fun v => s_SameTable_L1_fu v.1.2.2.1.1 v.2.1.1 v.2.1.2.1 v.2.2.1.1 v.2.2.1.2.1)
theorem s_SameTable_L1_ls (w0 : World) (mo : Mts) (I0 : Nat → Prop) (hmo : mo.length = 0) : LSem Try.prog (Sim w0 mo Try.f133.ntmps I0) (fun b s k => match Nat.beq 2 b with | true => s_SameTable_L1_le.run s k | false => none) 2 (nthLoop (bodyOf Try.f133) 0 1) :=
  le_sem hmo (lorc := lorcOf []) (ann := s_SameTable_ann) (keep := ⟨[2, 3, 6], [], false, 0⟩) (kout := ⟨[4], [], false, 0⟩) teFact mixFact (orcOf_ok _) (by kernel_rfl) (allLoops_of (bs := []) (by kernel_rfl) trivial) s_SameTable_L1_r _ s_SameTable_L1_lk
def s_SameTable_L1_f (v1 : List Conn) (v2 : List Tupl) (v3 : List Conn) (v4 : List Tupl) (v0 : Int) (a : Unit) : Stp (Unit) ((Unit)) :=
  bif (!(((v2.getD v0.toNat (Ty.zero .tupl)).ip == (v4.getD v0.toNat (Ty.zero .tupl)).ip) && (((v2.getD v0.toNat (Ty.zero .tupl)).port == (v4.getD v0.toNat (Ty.zero .tupl)).port) && (((v2.getD v0.toNat (Ty.zero .tupl)).my == (v4.getD v0.toNat (Ty.zero .tupl)).my) && true)))) then
    .out (())
  else
  .next ()
theorem s_SameTable_L1_st (v0 : Int) (v1 : List Conn) (v2 : List Tupl) (v3 : List Conn) (v4 : List Tupl) (hlo : 0 ≤ v0) (hhi : v0 < (v2.length : Int)) (hN : (v2.length : Int) ≤ 4611686018427387904) (hi0 : (v2.length : Int) ≤ (v4.length : Int)) : s_SameTable_L1_r.step (s_SameTable_L1_mk v0 v1 v2 v3 v4) = Stp.elim (fun a' : Unit => some (Sum.inl (s_SameTable_L1_mk (v0 + 1) v1 v2 v3 v4))) (fun w => some (Sum.inr ((fun p : Unit => Sum.inl (s_SameTable_L1_mx0 false)) w))) (s_SameTable_L1_f v1 v2 v3 v4 v0 ()) := by
  have hw : (IntKind.wrap .i64 (v0 + 1)) = v0 + 1 := wrap64 (by omega) (by omega)
  show s_SameTable_L1_B v0 v1 v2 v3 v4 (Option (s_SameTable_L1_sh.T ⊕ WT s_SameTable_L1_es)) none (fun v' => some (Sum.inl v')) (fun w => some (Sum.inr w)) = _
  unfold s_SameTable_L1_B s_SameTable_L1_f
  exact bifG (by simp only [decide_eq_true_eq]; omega) (bifG (by (try simp only [Nat.ble_eq, Bool.and_eq_true, decide_eq_true_eq]); grind [maxSl, maxStr, toBytes_length, toInts_length, List.length_set, wrap64]) (bifG (by (try simp only [Nat.ble_eq, Bool.and_eq_true, decide_eq_true_eq]); grind [maxSl, maxStr, toBytes_length, toInts_length, List.length_set, wrap64]) (bifT (f := (Stp.elim (fun a' : Unit => some (Sum.inl (s_SameTable_L1_mk (v0 + 1) v1 v2 v3 v4))) (fun w => some (Sum.inr ((fun p : Unit => Sum.inl (s_SameTable_L1_mx0 false)) w))))) (fun b0 => rfl)
      (fun b0 => (by exact congrArg (fun z => some (Sum.inl (s_SameTable_L1_mk z v1 v2 v3 v4))) hw)))))
theorem s_SameTable_L1_cl (v0 : Int) (v1 : List Conn) (v2 : List Tupl) (v3 : List Conn) (v4 : List Tupl) (h0 : 0 ≤ v0) (h1 : (v2.length : Int) ≤ 4611686018427387904) (h2 : (v2.length : Int) ≤ (v4.length : Int)) : loopF s_SameTable_L1_r.step (s_SameTable_L1_fu v0 v1 v2 v3 v4) (s_SameTable_L1_mk v0 v1 v2 v3 v4) = some (Stp.elim (fun a => (fun i a => Sum.inr (s_SameTable_L1_mx1 )) (v0 + 1 * (((Int.toNat ((v2.length : Int) - v0)) : Nat) : Int)) a) (fun p : Unit => Sum.inl (s_SameTable_L1_mx0 false)) (forN (s_SameTable_L1_f v1 v2 v3 v4) 1 (Int.toNat ((v2.length : Int) - v0)) v0 ())) :=
  forN_loop (step := s_SameTable_L1_r.step) (mk := fun v0 a => s_SameTable_L1_mk v0 v1 v2 v3 v4) (f := s_SameTable_L1_f v1 v2 v3 v4) (e := (fun i a => Sum.inr (s_SameTable_L1_mx1 ))) (emb := (fun p : Unit => Sum.inl (s_SameTable_L1_mx0 false))) (st := 1) (Inv := fun v0 a => True) (Int.toNat ((v2.length : Int) - v0)) v0 () _ (Nat.lt_succ_self _) trivial
    (fun j a hj hv => ⟨s_SameTable_L1_st (v0 + 1 * (j : Int)) v1 v2 v3 v4 (by omega) (by omega) (by omega) h2, fun _ _ => trivial⟩)
    (fun a hv => by
      show s_SameTable_L1_B (v0 + 1 * (((Int.toNat ((v2.length : Int) - v0)) : Nat) : Int)) v1 v2 v3 v4 (Option (s_SameTable_L1_sh.T ⊕ WT s_SameTable_L1_es)) none (fun v' => some (Sum.inl v')) (fun w => some (Sum.inr w)) = _
      unfold s_SameTable_L1_B
      exact bifN (by simp only [decide_eq_false_iff_not]; omega) rfl)
def s_SameTable_N (x0 : Tabl) (x1 : Tabl) (γ : Type) (fail : γ) (k : Bool → γ) : γ :=
  bif ((x0.conns.length : Int) != (x1.conns.length : Int)) then
    k false
  else
  bif ((x0.waiting.length : Int) != (x1.waiting.length : Int)) then
    k false
  else
  optK (loopF s_SameTable_L0_r.step (s_SameTable_L0_fu 0 x0.conns x0.waiting x1.conns x1.waiting) (s_SameTable_L0_mk 0 x0.conns x0.waiting x1.conns x1.waiting)) fail fun w2 =>
    Sum.elim (fun w2 =>
      k w2.1.2.2.1.1)
    (fun w2 =>
      optK (loopF s_SameTable_L1_r.step (s_SameTable_L1_fu 0 w2.2.1.1 w2.2.1.2.1 w2.2.2.1.1 w2.2.2.1.2.1) (s_SameTable_L1_mk 0 w2.2.1.1 w2.2.1.2.1 w2.2.2.1.1 w2.2.2.1.2.1)) fail fun w3 =>
        Sum.elim (fun w3 =>
          k w3.1.1.1)
        (fun w3 =>
          k true) w3) w2
def s_SameTable (x0 : Tabl) (x1 : Tabl) : Bool :=
  bif ((x0.conns.length : Int) != (x1.conns.length : Int)) then
    false
  else
  bif ((x0.waiting.length : Int) != (x1.waiting.length : Int)) then
    false
  else
  Stp.elim (fun a5 =>
    Stp.elim (fun a7 =>
      true)
      (fun p7 =>
        false)
      (forN (s_SameTable_L1_f x0.conns x0.waiting x1.conns x1.waiting) 1 (Int.toNat ((x0.waiting.length : Int) - 0)) 0 ()))
    (fun p5 =>
      false)
    (forN (s_SameTable_L0_f x0.conns x0.waiting x1.conns x1.waiting) 1 (Int.toNat ((x0.conns.length : Int) - 0)) 0 ())
theorem s_SameTable_lk (x0 : Tabl) (x1 : Tabl) : evalFn te (orcOf (P := Try.prog) [s_SameConn_e]) (lorcOf [s_SameTable_L0_le, s_SameTable_L1_le]) s_SameTable_ann Try.f133 (pvs [.st .tabl, .st .tabl] (x0, x1, ())) =
  s_SameTable_N x0 x1 _ none (fun v => some [(false, [RC.c (.bool v)])]) := by kernel_rfl
theorem s_SameTable_p (x0 : Tabl) (x1 : Tabl) (hx0_conns : x0.conns.length ≤ 140737488355328) (hx0_conns_e : ∀ y ∈ x0.conns, ∀ c ∈ Ty.cells .conn y, FactC c) (hx0_waiting : x0.waiting.length ≤ 140737488355328) (hx1_conns : x1.conns.length ≤ 140737488355328) (hx1_conns_e : ∀ y ∈ x1.conns, ∀ c ∈ Ty.cells .conn y, FactC c) (hx1_waiting : x1.waiting.length ≤ 140737488355328)  (γ : Type) (fail : γ) (k : Bool → γ) : s_SameTable_N x0 x1 γ fail k = k (s_SameTable x0 x1) := by
  unfold s_SameTable_N s_SameTable
  exact bifT (f := k) (fun b0 => rfl)
      (fun b0 => bifT (f := k) (fun b1 => rfl)
      (fun b1 => loopT (f := k) (s_SameTable_L0_cl 0 x0.conns x0.waiting x1.conns x1.waiting (by (try simp only [Nat.ble_eq, Bool.and_eq_true, decide_eq_true_eq, s_SameTable_L0_mx0, s_SameTable_L0_mx1, s_SameTable_L1_mx0, s_SameTable_L1_mx1]); grind [maxSl, maxStr, toBytes_length, toInts_length, List.length_set, wrap64]) (by (try simp only [Nat.ble_eq, Bool.and_eq_true, decide_eq_true_eq, s_SameTable_L0_mx0, s_SameTable_L0_mx1, s_SameTable_L1_mx0, s_SameTable_L1_mx1]); grind [maxSl, maxStr, toBytes_length, toInts_length, List.length_set, wrap64]) (by (try simp only [Nat.ble_eq, Bool.and_eq_true, decide_eq_true_eq, s_SameTable_L0_mx0, s_SameTable_L0_mx1, s_SameTable_L1_mx0, s_SameTable_L1_mx1]); grind [maxSl, maxStr, toBytes_length, toInts_length, List.length_set, wrap64])) (fun a5 => loopT (f := k) (s_SameTable_L1_cl 0 x0.conns x0.waiting x1.conns x1.waiting (by (try simp only [Nat.ble_eq, Bool.and_eq_true, decide_eq_true_eq, s_SameTable_L0_mx0, s_SameTable_L0_mx1, s_SameTable_L1_mx0, s_SameTable_L1_mx1]); grind [maxSl, maxStr, toBytes_length, toInts_length, List.length_set, wrap64]) (by (try simp only [Nat.ble_eq, Bool.and_eq_true, decide_eq_true_eq, s_SameTable_L0_mx0, s_SameTable_L0_mx1, s_SameTable_L1_mx0, s_SameTable_L1_mx1]); grind [maxSl, maxStr, toBytes_length, toInts_length, List.length_set, wrap64]) (by (try simp only [Nat.ble_eq, Bool.and_eq_true, decide_eq_true_eq, s_SameTable_L0_mx0, s_SameTable_L0_mx1, s_SameTable_L1_mx0, s_SameTable_L1_mx1]); grind [maxSl, maxStr, toBytes_length, toInts_length, List.length_set, wrap64])) (fun a7 => rfl)
      (fun p7 => rfl))
      (fun p5 => rfl)))
theorem s_SameTable_c (x0 : Tabl) (x1 : Tabl)  : Con Try.prog 133 (pvs [.st .tabl, .st .tabl] (x0, x1, ())) [rv (.sc .bool) [] (s_SameTable x0 x1)] := by
  refine Con.of_facts (enters_of Try.func133 rfl (by kernel_rfl)) fun hf => ?_
  replace hf := factAt hf
  exact evalFn_conL teFact mixFact (orcOf_ok _) Try.func133 (by kernel_rfl) (bs := [0, 2]) (by kernel_rfl) (by kernel_rfl) (fun w0 mo I0 hmo => ⟨lsem_of_lorc (s_SameTable_L0_ls w0 mo I0 hmo) (by kernel_rfl), lsem_of_lorc (s_SameTable_L1_ls w0 mo I0 hmo) (by kernel_rfl), trivial⟩) ((s_SameTable_lk x0 x1).trans (s_SameTable_p x0 x1 ((hf 0 0 rfl rfl).len) (fun y hy => (hf 0 0 rfl rfl).elem hy) ((hf 0 1 rfl rfl).len) ((hf 1 0 rfl rfl).len) (fun y hy => (hf 1 0 rfl rfl).elem hy) ((hf 1 1 rfl rfl).len) _ _ _))
noncomputable def s_SameTable_e : Ent1 Try.prog := entA 133 [.st .tabl, .st .tabl] (fun x => (s_SameTable x.1 x.2.1)) (fun v => [rv (.sc .bool) [] v]) (fun x => s_SameTable_c x.1 x.2.1)


/-- impl.SameKeys -/
def i_SameKeys_N (x0 : Keys) (x1 : Keys) (γ : Type) (fail : γ) (k : Bool → γ) : γ :=
  bif (x0.epoch == x1.epoch) then
    bif (x0.two == x1.two) then
      letK (α := Bool) (i_SameMac x0.now x1.now) fun c1 =>
      bif c1 then
        letK (α := Bool) (i_SameMac x0.before x1.before) fun c2 =>
        k c2
      else
      k false
    else
    k false
  else
  k false
def i_SameKeys (x0 : Keys) (x1 : Keys) : Bool :=
  bif (x0.epoch == x1.epoch) then
    bif (x0.two == x1.two) then
      letK (α := Bool) (i_SameMac x0.now x1.now) fun c1 =>
      bif c1 then
        letK (α := Bool) (i_SameMac x0.before x1.before) fun c2 =>
        c2
      else
      false
    else
    false
  else
  false
theorem i_SameKeys_lk (x0 : Keys) (x1 : Keys) : evalFn te (orcOf (P := Try.prog) [i_SameMac_e]) lorc0 [] Try.f136 (pvs [.st .keys, .st .keys] (x0, x1, ())) =
  i_SameKeys_N x0 x1 _ none (fun v => some [(false, [RC.c (.bool v)])]) := by kernel_rfl
theorem i_SameKeys_p (x0 : Keys) (x1 : Keys)   (γ : Type) (fail : γ) (k : Bool → γ) : i_SameKeys_N x0 x1 γ fail k = k (i_SameKeys x0 x1) := by
  unfold i_SameKeys_N i_SameKeys
  exact bifT (f := k) (fun b0 => bifT (f := k) (fun b1 => letT (f := k) (fun c1 hc1 => bifT (f := k) (fun b2 => letT (f := k) (fun c2 hc2 => rfl))
      (fun b2 => rfl)))
      (fun b1 => rfl))
      (fun b0 => rfl)
theorem i_SameKeys_c (x0 : Keys) (x1 : Keys)  : Con Try.prog 136 (pvs [.st .keys, .st .keys] (x0, x1, ())) [rv (.sc .bool) [] (i_SameKeys x0 x1)] := by
  exact evalFn_con0 teFact mixFact (orcOf_ok _) Try.func136 (by kernel_rfl) ((i_SameKeys_lk x0 x1).trans (i_SameKeys_p x0 x1  _ _ _))
noncomputable def i_SameKeys_e : Ent1 Try.prog := entA 136 [.st .keys, .st .keys] (fun x => (i_SameKeys x.1 x.2.1)) (fun v => [rv (.sc .bool) [] v]) (fun x => i_SameKeys_c x.1 x.2.1)


/-- impl.SameConn -/
def i_SameConn_N (x0 : Conn) (x1 : Conn) (γ : Type) (fail : γ) (k : Bool → γ) : γ :=
  bif ((x0.tuple.ip == x1.tuple.ip) && ((x0.tuple.port == x1.tuple.port) && ((x0.tuple.my == x1.tuple.my) && true))) then
    bif (x0.state == x1.state) then
      bif ((x0.s.una == x1.s.una) && ((x0.s.data == x1.s.data) && ((x0.s.sent == x1.s.sent) && ((x0.s.fin == x1.s.fin) && ((x0.s.finSent == x1.s.finSent) && ((x0.s.done == x1.s.done) && true)))))) then
        letK (α := Bool) (i_SameReceiver x0.r x1.r) fun c1 =>
        bif c1 then
          bif (x0.window == x1.window) then
            bif (x0.most == x1.most) then
              bif ((x0.opts.mss == x1.opts.mss) && ((x0.opts.scale == x1.opts.scale) && ((x0.opts.sack == x1.opts.sack) && ((x0.opts.stamp == x1.opts.stamp) && ((x0.opts.val == x1.opts.val) && ((x0.opts.echo == x1.opts.echo) && true)))))) then
                bif (x0.timer == x1.timer) then
                  k (x0.tries == x1.tries)
                else
                k false
              else
              k false
            else
            k false
          else
          k false
        else
        k false
      else
      k false
    else
    k false
  else
  k false
def i_SameConn (x0 : Conn) (x1 : Conn) : Bool :=
  bif ((x0.tuple.ip == x1.tuple.ip) && ((x0.tuple.port == x1.tuple.port) && ((x0.tuple.my == x1.tuple.my) && true))) then
    bif (x0.state == x1.state) then
      bif ((x0.s.una == x1.s.una) && ((x0.s.data == x1.s.data) && ((x0.s.sent == x1.s.sent) && ((x0.s.fin == x1.s.fin) && ((x0.s.finSent == x1.s.finSent) && ((x0.s.done == x1.s.done) && true)))))) then
        letK (α := Bool) (i_SameReceiver x0.r x1.r) fun c1 =>
        bif c1 then
          bif (x0.window == x1.window) then
            bif (x0.most == x1.most) then
              bif ((x0.opts.mss == x1.opts.mss) && ((x0.opts.scale == x1.opts.scale) && ((x0.opts.sack == x1.opts.sack) && ((x0.opts.stamp == x1.opts.stamp) && ((x0.opts.val == x1.opts.val) && ((x0.opts.echo == x1.opts.echo) && true)))))) then
                bif (x0.timer == x1.timer) then
                  (x0.tries == x1.tries)
                else
                false
              else
              false
            else
            false
          else
          false
        else
        false
      else
      false
    else
    false
  else
  false
theorem i_SameConn_lk (x0 : Conn) (x1 : Conn) : evalFn te (orcOf (P := Try.prog) [i_SameReceiver_e]) lorc0 [] Try.f169 (pvs [.st .conn, .st .conn] (x0, x1, ())) =
  i_SameConn_N x0 x1 _ none (fun v => some [(false, [RC.c (.bool v)])]) := by kernel_rfl
theorem i_SameConn_p (x0 : Conn) (x1 : Conn)   (γ : Type) (fail : γ) (k : Bool → γ) : i_SameConn_N x0 x1 γ fail k = k (i_SameConn x0 x1) := by
  unfold i_SameConn_N i_SameConn
  exact bifT (f := k) (fun b0 => bifT (f := k) (fun b1 => bifT (f := k) (fun b2 => letT (f := k) (fun c1 hc1 => bifT (f := k) (fun b3 => bifT (f := k) (fun b4 => bifT (f := k) (fun b5 => bifT (f := k) (fun b6 => bifT (f := k) (fun b7 => rfl)
      (fun b7 => rfl))
      (fun b6 => rfl))
      (fun b5 => rfl))
      (fun b4 => rfl))
      (fun b3 => rfl)))
      (fun b2 => rfl))
      (fun b1 => rfl))
      (fun b0 => rfl)
theorem i_SameConn_c (x0 : Conn) (x1 : Conn)  : Con Try.prog 169 (pvs [.st .conn, .st .conn] (x0, x1, ())) [rv (.sc .bool) [] (i_SameConn x0 x1)] := by
  exact evalFn_con0 teFact mixFact (orcOf_ok _) Try.func169 (by kernel_rfl) ((i_SameConn_lk x0 x1).trans (i_SameConn_p x0 x1  _ _ _))
noncomputable def i_SameConn_e : Ent1 Try.prog := entA 169 [.st .conn, .st .conn] (fun x => (i_SameConn x.1 x.2.1)) (fun v => [rv (.sc .bool) [] v]) (fun x => i_SameConn_c x.1 x.2.1)


/-- laws.toReceiver -/
def w_toReceiver_N (x0 : Recv) (γ : Type) (fail : γ) (k : Recv → γ) : γ :=
  bif (decide (x0.held.length ≤ 4294967296)) then
  letK (α := List Piec) (w_toPieceS x0.held) fun c1 =>
  k ({ x0 with held := c1 } : Recv)
  else fail
def w_toReceiver (x0 : Recv) : Recv :=
  letK (α := List Piec) (w_toPieceS x0.held) fun c1 =>
  ({ x0 with held := c1 } : Recv)
theorem w_toReceiver_lk (x0 : Recv) : evalFn te (orcOf (P := Try.prog) [w_toPieceS_e]) lorc0 [] Try.f186 (pvs [.st .recv] (x0, ())) =
  w_toReceiver_N x0 _ none (fun v => some [(true, [RC.c (.int .i64 v.next), RC.c (.str v.data), RC.own true .piec v.held, RC.c (.int .i64 v.fin), RC.c (.bool v.done)])]) := by kernel_rfl
theorem w_toReceiver_p (x0 : Recv) (hx0_next : inK .i64 x0.next) (hx0_data : List.length x0.data ≤ 4611686018427387904) (hx0_held : x0.held.length ≤ 140737488355328) (hx0_held_e : ∀ y ∈ x0.held, ∀ c ∈ Ty.cells .piec y, FactC c) (hx0_fin : inK .i64 x0.fin) (hp : x0.data.length ≤ 4294967296 ∧ x0.held.length ≤ 4294967296) (γ : Type) (fail : γ) (k : Recv → γ) : w_toReceiver_N x0 γ fail k = k (w_toReceiver x0) := by
  unfold w_toReceiver_N w_toReceiver
  exact bifG (by (try simp only [Nat.ble_eq, Bool.and_eq_true, decide_eq_true_eq]); grind [maxSl, maxStr, toBytes_length, toInts_length, List.length_set, wrap64]) (letT (f := k) (fun c1 hc1 => rfl))
theorem w_toReceiver_c (x0 : Recv) (hp : x0.data.length ≤ 4294967296 ∧ x0.held.length ≤ 4294967296) : Con Try.prog 186 (pvs [.st .recv] (x0, ())) [rv (.st .recv) [.c, .c, .o true, .c, .c] (w_toReceiver x0)] := by
  refine Con.of_facts (enters_of Try.func186 rfl (by kernel_rfl)) fun hf => ?_
  replace hf := factAt hf
  exact evalFn_con0 teFact mixFact (orcOf_ok _) Try.func186 (by kernel_rfl) ((w_toReceiver_lk x0).trans (w_toReceiver_p x0 ((hf 0 0 rfl rfl).rng) ((hf 0 1 rfl rfl).slen) ((hf 0 2 rfl rfl).len) (fun y hy => (hf 0 2 rfl rfl).elem hy) ((hf 0 3 rfl rfl).rng) hp _ _ _))
noncomputable def w_toReceiver_e : Ent1 Try.prog := entP 186 [.st .recv] (fun x => (decide (x.1.data.length ≤ 4294967296 ∧ x.1.held.length ≤ 4294967296))) (fun x => (w_toReceiver x.1)) (fun v => [rv (.st .recv) [.c, .c, .o true, .c, .c] v]) (fun x hx => w_toReceiver_c x.1 (of_decide_eq_true hx))


/-- laws.eqReceiver -/
def w_eqReceiver_N (x0 : Recv) (x1 : Recv) (γ : Type) (fail : γ) (k : Bool → γ) : γ :=
  bif (x0.next != x1.next) then
    k false
  else
  bif (!(x0.data == x1.data)) then
    k false
  else
  letK (α := Bool) (w_eqPieceS x0.held x1.held) fun c1 =>
  bif (!c1) then
    k false
  else
  bif (x0.fin != x1.fin) then
    k false
  else
  bif (!(x0.done == x1.done)) then
    k false
  else
  k true
def w_eqReceiver (x0 : Recv) (x1 : Recv) : Bool :=
  bif (x0.next != x1.next) then
    false
  else
  bif (!(x0.data == x1.data)) then
    false
  else
  letK (α := Bool) (w_eqPieceS x0.held x1.held) fun c1 =>
  bif (!c1) then
    false
  else
  bif (x0.fin != x1.fin) then
    false
  else
  bif (!(x0.done == x1.done)) then
    false
  else
  true
theorem w_eqReceiver_lk (x0 : Recv) (x1 : Recv) : evalFn te (orcOf (P := Try.prog) [w_eqPieceS_e]) lorc0 [] Try.f189 (pvs [.st .recv, .st .recv] (x0, x1, ())) =
  w_eqReceiver_N x0 x1 _ none (fun v => some [(false, [RC.c (.bool v)])]) := by kernel_rfl
theorem w_eqReceiver_p (x0 : Recv) (x1 : Recv)   (γ : Type) (fail : γ) (k : Bool → γ) : w_eqReceiver_N x0 x1 γ fail k = k (w_eqReceiver x0 x1) := by
  unfold w_eqReceiver_N w_eqReceiver
  exact bifT (f := k) (fun b0 => rfl)
      (fun b0 => bifT (f := k) (fun b1 => rfl)
      (fun b1 => letT (f := k) (fun c1 hc1 => bifT (f := k) (fun b2 => rfl)
      (fun b2 => bifT (f := k) (fun b3 => rfl)
      (fun b3 => bifT (f := k) (fun b4 => rfl)
      (fun b4 => rfl))))))
theorem w_eqReceiver_c (x0 : Recv) (x1 : Recv)  : Con Try.prog 189 (pvs [.st .recv, .st .recv] (x0, x1, ())) [rv (.sc .bool) [] (w_eqReceiver x0 x1)] := by
  exact evalFn_con0 teFact mixFact (orcOf_ok _) Try.func189 (by kernel_rfl) ((w_eqReceiver_lk x0 x1).trans (w_eqReceiver_p x0 x1  _ _ _))
noncomputable def w_eqReceiver_e : Ent1 Try.prog := entA 189 [.st .recv, .st .recv] (fun x => (w_eqReceiver x.1 x.2.1)) (fun v => [rv (.sc .bool) [] v]) (fun x => w_eqReceiver_c x.1 x.2.1)


/-- slices.EqualFunc[[]impl.Conn,[]impl.Conn,impl.Conn,impl.Conn] -/
def g_EqualFunc_Conn_i_SameConn_ann : List (Nat × Keep) := [(0, ⟨[1, 2, 15, 16, 17], [], false, 0⟩)]
def g_EqualFunc_Conn_i_SameConn_L0_sh : Sh := ⟨[(1, false, [.sl .arg .conn]), (2, false, [.fn 169 []]), (15, false, [.sl .arg .conn]), (16, false, [.int .i64]), (17, false, [.int .i64])], []⟩
def g_EqualFunc_Conn_i_SameConn_L0_es : List (Ex × Sh) := [(.ret, ⟨[(6, false, [.bool])], []⟩), (.exit 0, ⟨[(6, false, [.undef])], []⟩)]
def g_EqualFunc_Conn_i_SameConn_L0_mk (v0 : List Conn) (v1 : List Conn) (v2 : Int) (v3 : Int) : g_EqualFunc_Conn_i_SameConn_L0_sh.T := (((v0, ()), (((), ()), ((v1, ()), ((v2, ()), ((v3, ()), ()))))), ())
def g_EqualFunc_Conn_i_SameConn_L0_mx0 (y0 : Bool) : Sh.T ⟨[(6, false, [.bool])], []⟩ := (((y0, ()), ()), ())
def g_EqualFunc_Conn_i_SameConn_L0_mx1  : Sh.T ⟨[(6, false, [.undef])], []⟩ := ((((), ()), ()), ())
def g_EqualFunc_Conn_i_SameConn_L0_B (v0 : List Conn) (v1 : List Conn) (v2 : Int) (v3 : Int) (γ : Type) (fail : γ) (next : g_EqualFunc_Conn_i_SameConn_L0_sh.T → γ) (out : WT g_EqualFunc_Conn_i_SameConn_L0_es → γ) : γ :=
  bif (decide (v3 < v2)) then
    bif ((decide (0 ≤ v3)) && (decide (v3 < (v1.length : Int)))) then
    bif ((decide (0 ≤ v3)) && (decide (v3 < (v0.length : Int)))) then
    letK (α := Bool) (i_SameConn (v1.getD v3.toNat (Ty.zero .conn)) (v0.getD v3.toNat (Ty.zero .conn))) fun c1 =>
    bif (!c1) then
      out (Sum.inl (g_EqualFunc_Conn_i_SameConn_L0_mx0 false))
    else
    next (g_EqualFunc_Conn_i_SameConn_L0_mk v0 v1 v2 (IntKind.wrap .i64 (v3 + 1)))
    else fail
    else fail
  else
  out (Sum.inr (g_EqualFunc_Conn_i_SameConn_L0_mx1 ))
theorem g_EqualFunc_Conn_i_SameConn_L0_par (v0 : List Conn) (v1 : List Conn) (v2 : Int) (v3 : Int) (γ : Type) (fail : γ) (next : g_EqualFunc_Conn_i_SameConn_L0_sh.T → γ) (out : WT g_EqualFunc_Conn_i_SameConn_L0_es → γ) : g_EqualFunc_Conn_i_SameConn_L0_B v0 v1 v2 v3 γ fail next out = optK (g_EqualFunc_Conn_i_SameConn_L0_B v0 v1 v2 v3 _ none (fun v' => some (.inl v')) (fun w => some (.inr w))) fail (fun r => Sum.elim next out r) := by
  unfold g_EqualFunc_Conn_i_SameConn_L0_B
  exact bifT (f := (fun o => optK o fail (fun r => Sum.elim next out r))) (fun _ => bifT (f := (fun o => optK o fail (fun r => Sum.elim next out r))) (fun _ => bifT (f := (fun o => optK o fail (fun r => Sum.elim next out r))) (fun _ => letT (f := (fun o => optK o fail (fun r => Sum.elim next out r))) (fun c1 _ => bifT (f := (fun o => optK o fail (fun r => Sum.elim next out r))) (fun _ => rfl)
      (fun _ => rfl))) (fun _ => rfl)) (fun _ => rfl))
      (fun _ => rfl)
def g_EqualFunc_Conn_i_SameConn_L0_r : Round g_EqualFunc_Conn_i_SameConn_L0_sh.T (WT g_EqualFunc_Conn_i_SameConn_L0_es) where
  B v γ fail next out := g_EqualFunc_Conn_i_SameConn_L0_B v.1.1.1 v.1.2.2.1.1 v.1.2.2.2.1.1 v.1.2.2.2.2.1.1 γ fail next out
  par v γ fail next out := g_EqualFunc_Conn_i_SameConn_L0_par v.1.1.1 v.1.2.2.1.1 v.1.2.2.2.1.1 v.1.2.2.2.2.1.1 γ fail next out
def g_EqualFunc_Conn_i_SameConn_L0_fu (v0 : List Conn) (v1 : List Conn) (v2 : Int) (v3 : Int) : Nat := (Int.toNat (v2 - v3)) + 1
theorem g_EqualFunc_Conn_i_SameConn_L0_lk (v : g_EqualFunc_Conn_i_SameConn_L0_sh.T) (next : St → Option Res) (k : Ex → St → Option Res) : evalK te (orcOf (P := Try.prog) [i_SameConn_e]) (lorcOf []) Try.f168.ntmps g_EqualFunc_Conn_i_SameConn_ann (nthLoop (bodyOf Try.f168) 0 0) 0 (g_EqualFunc_Conn_i_SameConn_L0_sh.enc v) (endK ⟨[1, 2, 15, 16, 17], [], false, 0⟩ ⟨[6], [], false, 0⟩ next k) =
  g_EqualFunc_Conn_i_SameConn_L0_r.B v _ none (fun v' => next (g_EqualFunc_Conn_i_SameConn_L0_sh.enc v')) (fun w => outK g_EqualFunc_Conn_i_SameConn_L0_es k w) := by kernel_rfl
def g_EqualFunc_Conn_i_SameConn_L0_le : LE := leOf 0 g_EqualFunc_Conn_i_SameConn_L0_sh g_EqualFunc_Conn_i_SameConn_L0_es g_EqualFunc_Conn_i_SameConn_L0_r.step (fun v => g_EqualFunc_Conn_i_SameConn_L0_fu v.1.1.1 v.1.2.2.1.1 v.1.2.2.2.1.1 v.1.2.2.2.2.1.1)
theorem g_EqualFunc_Conn_i_SameConn_L0_ls (w0 : World) (mo : Mts) (I0 : Nat → Prop) (hmo : mo.length = 0) : LSem Try.prog (Sim w0 mo Try.f168.ntmps I0) (fun b s k => match Nat.beq 0 b with | true => g_EqualFunc_Conn_i_SameConn_L0_le.run s k | false => none) 0 (nthLoop (bodyOf Try.f168) 0 0) :=
  le_sem hmo (lorc := lorcOf []) (ann := g_EqualFunc_Conn_i_SameConn_ann) (keep := ⟨[1, 2, 15, 16, 17], [], false, 0⟩) (kout := ⟨[6], [], false, 0⟩) teFact mixFact (orcOf_ok _) (by kernel_rfl) (allLoops_of (bs := []) (by kernel_rfl) trivial) g_EqualFunc_Conn_i_SameConn_L0_r _ g_EqualFunc_Conn_i_SameConn_L0_lk
def g_EqualFunc_Conn_i_SameConn_L0_f (v0 : List Conn) (v1 : List Conn) (v2 : Int) (v3 : Int) (a : Unit) : Stp (Unit) ((Unit)) :=
  letK (α := Bool) (i_SameConn (v1.getD v3.toNat (Ty.zero .conn)) (v0.getD v3.toNat (Ty.zero .conn))) fun c1 =>
  bif (!c1) then
    .out (())
  else
  .next ()
theorem g_EqualFunc_Conn_i_SameConn_L0_st (v0 : List Conn) (v1 : List Conn) (v2 : Int) (v3 : Int) (hlo : 0 ≤ v3) (hhi : v3 < v2) (hN : v2 ≤ 4611686018427387904) (hi0 : v2 ≤ (v1.length : Int)) (hi1 : v2 ≤ (v0.length : Int)) : g_EqualFunc_Conn_i_SameConn_L0_r.step (g_EqualFunc_Conn_i_SameConn_L0_mk v0 v1 v2 v3) = Stp.elim (fun a' : Unit => some (Sum.inl (g_EqualFunc_Conn_i_SameConn_L0_mk v0 v1 v2 (v3 + 1)))) (fun w => some (Sum.inr ((fun p : Unit => Sum.inl (g_EqualFunc_Conn_i_SameConn_L0_mx0 false)) w))) (g_EqualFunc_Conn_i_SameConn_L0_f v0 v1 v2 v3 ()) := by
  have hw : (IntKind.wrap .i64 (v3 + 1)) = v3 + 1 := wrap64 (by omega) (by omega)
  show g_EqualFunc_Conn_i_SameConn_L0_B v0 v1 v2 v3 (Option (g_EqualFunc_Conn_i_SameConn_L0_sh.T ⊕ WT g_EqualFunc_Conn_i_SameConn_L0_es)) none (fun v' => some (Sum.inl v')) (fun w => some (Sum.inr w)) = _
  unfold g_EqualFunc_Conn_i_SameConn_L0_B g_EqualFunc_Conn_i_SameConn_L0_f
  exact bifG (by simp only [decide_eq_true_eq]; omega) (bifG (by (try simp only [Nat.ble_eq, Bool.and_eq_true, decide_eq_true_eq]); grind [maxSl, maxStr, toBytes_length, toInts_length, List.length_set, wrap64]) (bifG (by (try simp only [Nat.ble_eq, Bool.and_eq_true, decide_eq_true_eq]); grind [maxSl, maxStr, toBytes_length, toInts_length, List.length_set, wrap64]) (letT (f := (Stp.elim (fun a' : Unit => some (Sum.inl (g_EqualFunc_Conn_i_SameConn_L0_mk v0 v1 v2 (v3 + 1)))) (fun w => some (Sum.inr ((fun p : Unit => Sum.inl (g_EqualFunc_Conn_i_SameConn_L0_mx0 false)) w))))) (fun c1 hc1 => bifT (f := (Stp.elim (fun a' : Unit => some (Sum.inl (g_EqualFunc_Conn_i_SameConn_L0_mk v0 v1 v2 (v3 + 1)))) (fun w => some (Sum.inr ((fun p : Unit => Sum.inl (g_EqualFunc_Conn_i_SameConn_L0_mx0 false)) w))))) (fun b0 => rfl)
      (fun b0 => (by exact congrArg (fun z => some (Sum.inl (g_EqualFunc_Conn_i_SameConn_L0_mk v0 v1 v2 z))) hw))))))
theorem g_EqualFunc_Conn_i_SameConn_L0_cl (v0 : List Conn) (v1 : List Conn) (v2 : Int) (v3 : Int) (h0 : 0 ≤ v3) (h1 : v2 ≤ 4611686018427387904) (h2 : v2 ≤ (v1.length : Int)) (h3 : v2 ≤ (v0.length : Int)) : loopF g_EqualFunc_Conn_i_SameConn_L0_r.step (g_EqualFunc_Conn_i_SameConn_L0_fu v0 v1 v2 v3) (g_EqualFunc_Conn_i_SameConn_L0_mk v0 v1 v2 v3) = some (Stp.elim (fun a => (fun i a => Sum.inr (g_EqualFunc_Conn_i_SameConn_L0_mx1 )) (v3 + 1 * (((Int.toNat (v2 - v3)) : Nat) : Int)) a) (fun p : Unit => Sum.inl (g_EqualFunc_Conn_i_SameConn_L0_mx0 false)) (forN (g_EqualFunc_Conn_i_SameConn_L0_f v0 v1 v2) 1 (Int.toNat (v2 - v3)) v3 ())) :=
  forN_loop (step := g_EqualFunc_Conn_i_SameConn_L0_r.step) (mk := fun v3 a => g_EqualFunc_Conn_i_SameConn_L0_mk v0 v1 v2 v3) (f := g_EqualFunc_Conn_i_SameConn_L0_f v0 v1 v2) (e := (fun i a => Sum.inr (g_EqualFunc_Conn_i_SameConn_L0_mx1 ))) (emb := (fun p : Unit => Sum.inl (g_EqualFunc_Conn_i_SameConn_L0_mx0 false))) (st := 1) (Inv := fun v3 a => True) (Int.toNat (v2 - v3)) v3 () _ (Nat.lt_succ_self _) trivial
    (fun j a hj hv => ⟨g_EqualFunc_Conn_i_SameConn_L0_st v0 v1 v2 (v3 + 1 * (j : Int)) (by omega) (by omega) (by omega) h2 h3, fun _ _ => trivial⟩)
    (fun a hv => by
      show g_EqualFunc_Conn_i_SameConn_L0_B v0 v1 v2 (v3 + 1 * (((Int.toNat (v2 - v3)) : Nat) : Int)) (Option (g_EqualFunc_Conn_i_SameConn_L0_sh.T ⊕ WT g_EqualFunc_Conn_i_SameConn_L0_es)) none (fun v' => some (Sum.inl v')) (fun w => some (Sum.inr w)) = _
      unfold g_EqualFunc_Conn_i_SameConn_L0_B
      exact bifN (by simp only [decide_eq_false_iff_not]; omega) rfl)
def g_EqualFunc_Conn_i_SameConn_N (x0 : List Conn) (x1 : List Conn) (γ : Type) (fail : γ) (k : Bool → γ) : γ :=
  bif ((x0.length : Int) != (x1.length : Int)) then
    k false
  else
  optK (loopF g_EqualFunc_Conn_i_SameConn_L0_r.step (g_EqualFunc_Conn_i_SameConn_L0_fu x1 x0 (x0.length : Int) 0) (g_EqualFunc_Conn_i_SameConn_L0_mk x1 x0 (x0.length : Int) 0)) fail fun w2 =>
    Sum.elim (fun w2 =>
      k w2.1.1.1)
    (fun w2 =>
      k true) w2
def g_EqualFunc_Conn_i_SameConn (x0 : List Conn) (x1 : List Conn) : Bool :=
  bif ((x0.length : Int) != (x1.length : Int)) then
    false
  else
  Stp.elim (fun a3 =>
    true)
    (fun p3 =>
      false)
    (forN (g_EqualFunc_Conn_i_SameConn_L0_f x1 x0 (x0.length : Int)) 1 (Int.toNat ((x0.length : Int) - 0)) 0 ())
theorem g_EqualFunc_Conn_i_SameConn_lk (x0 : List Conn) (x1 : List Conn) : evalFn te (orcOf (P := Try.prog) [i_SameConn_e]) (lorcOf [g_EqualFunc_Conn_i_SameConn_L0_le]) g_EqualFunc_Conn_i_SameConn_ann Try.f168 (pvs [.sc (.sl .conn), .sc (.sl .conn), .fn 169 []] (x0, x1, (), ())) =
  g_EqualFunc_Conn_i_SameConn_N x0 x1 _ none (fun v => some [(false, [RC.c (.bool v)])]) := by kernel_rfl
theorem g_EqualFunc_Conn_i_SameConn_p (x0 : List Conn) (x1 : List Conn) (hx0 : x0.length ≤ 140737488355328) (hx0_e : ∀ y ∈ x0, ∀ c ∈ Ty.cells .conn y, FactC c) (hx1 : x1.length ≤ 140737488355328) (hx1_e : ∀ y ∈ x1, ∀ c ∈ Ty.cells .conn y, FactC c)  (γ : Type) (fail : γ) (k : Bool → γ) : g_EqualFunc_Conn_i_SameConn_N x0 x1 γ fail k = k (g_EqualFunc_Conn_i_SameConn x0 x1) := by
  unfold g_EqualFunc_Conn_i_SameConn_N g_EqualFunc_Conn_i_SameConn
  exact bifT (f := k) (fun b0 => rfl)
      (fun b0 => loopT (f := k) (g_EqualFunc_Conn_i_SameConn_L0_cl x1 x0 (x0.length : Int) 0 (by (try simp only [Nat.ble_eq, Bool.and_eq_true, decide_eq_true_eq, g_EqualFunc_Conn_i_SameConn_L0_mx0, g_EqualFunc_Conn_i_SameConn_L0_mx1]); grind [maxSl, maxStr, toBytes_length, toInts_length, List.length_set, wrap64]) (by (try simp only [Nat.ble_eq, Bool.and_eq_true, decide_eq_true_eq, g_EqualFunc_Conn_i_SameConn_L0_mx0, g_EqualFunc_Conn_i_SameConn_L0_mx1]); grind [maxSl, maxStr, toBytes_length, toInts_length, List.length_set, wrap64]) (by (try simp only [Nat.ble_eq, Bool.and_eq_true, decide_eq_true_eq, g_EqualFunc_Conn_i_SameConn_L0_mx0, g_EqualFunc_Conn_i_SameConn_L0_mx1]); grind [maxSl, maxStr, toBytes_length, toInts_length, List.length_set, wrap64]) (by (try simp only [Nat.ble_eq, Bool.and_eq_true, decide_eq_true_eq, g_EqualFunc_Conn_i_SameConn_L0_mx0, g_EqualFunc_Conn_i_SameConn_L0_mx1]); grind [maxSl, maxStr, toBytes_length, toInts_length, List.length_set, wrap64])) (fun a3 => rfl)
      (fun p3 => rfl))
theorem g_EqualFunc_Conn_i_SameConn_c (x0 : List Conn) (x1 : List Conn)  : Con Try.prog 168 (pvs [.sc (.sl .conn), .sc (.sl .conn), .fn 169 []] (x0, x1, (), ())) [rv (.sc .bool) [] (g_EqualFunc_Conn_i_SameConn x0 x1)] := by
  refine Con.of_facts (enters_of Try.func168 rfl (by kernel_rfl)) fun hf => ?_
  replace hf := factAt hf
  exact evalFn_conL teFact mixFact (orcOf_ok _) Try.func168 (by kernel_rfl) (bs := [0]) (by kernel_rfl) (by kernel_rfl) (fun w0 mo I0 hmo => ⟨lsem_of_lorc (g_EqualFunc_Conn_i_SameConn_L0_ls w0 mo I0 hmo) (by kernel_rfl), trivial⟩) ((g_EqualFunc_Conn_i_SameConn_lk x0 x1).trans (g_EqualFunc_Conn_i_SameConn_p x0 x1 ((hf 0 0 rfl rfl).len) (fun y hy => (hf 0 0 rfl rfl).elem hy) ((hf 1 0 rfl rfl).len) (fun y hy => (hf 1 0 rfl rfl).elem hy) _ _ _))
noncomputable def g_EqualFunc_Conn_i_SameConn_e : Ent1 Try.prog := entA 168 [.sc (.sl .conn), .sc (.sl .conn), .fn 169 []] (fun x => (g_EqualFunc_Conn_i_SameConn x.1 x.2.1)) (fun v => [rv (.sc .bool) [] v]) (fun x => g_EqualFunc_Conn_i_SameConn_c x.1 x.2.1)


/-- laws.toKeys -/
def w_toKeys_N (x0 : Keys) (γ : Type) (fail : γ) (k : Keys → γ) : γ :=
  bif (decide (x0.now.rows.length ≤ 4294967296)) then
  letK (α := Mac) (w_toMac x0.now) fun c1 =>
  bif (decide (x0.before.rows.length ≤ 4294967296)) then
  letK (α := Mac) (w_toMac x0.before) fun c2 =>
  k (⟨x0.epoch, c1, c2, x0.two⟩ : Keys)
  else fail
  else fail
def w_toKeys (x0 : Keys) : Keys :=
  letK (α := Mac) (w_toMac x0.now) fun c1 =>
  letK (α := Mac) (w_toMac x0.before) fun c2 =>
  (⟨x0.epoch, c1, c2, x0.two⟩ : Keys)
theorem w_toKeys_lk (x0 : Keys) : evalFn te (orcOf (P := Try.prog) [w_toMac_e]) lorc0 [] Try.f72 (pvs [.st .keys] (x0, ())) =
  w_toKeys_N x0 _ none (fun v => some [(true, [RC.c (.int .i64 v.epoch), RC.c (.bool v.now.use), RC.c (.int .u64 v.now.k), RC.c (.int .u64 v.now.l), RC.own true .macRow v.now.rows, RC.c (.bool v.before.use), RC.c (.int .u64 v.before.k), RC.c (.int .u64 v.before.l), RC.own true .macRow v.before.rows, RC.c (.bool v.two)])]) := by kernel_rfl
theorem w_toKeys_p (x0 : Keys) (hx0_epoch : inK .i64 x0.epoch) (hx0_now_k : inK .u64 x0.now.k) (hx0_now_l : inK .u64 x0.now.l) (hx0_now_rows : x0.now.rows.length ≤ 140737488355328) (hx0_now_rows_e : ∀ y ∈ x0.now.rows, ∀ c ∈ Ty.cells .macRow y, FactC c) (hx0_before_k : inK .u64 x0.before.k) (hx0_before_l : inK .u64 x0.before.l) (hx0_before_rows : x0.before.rows.length ≤ 140737488355328) (hx0_before_rows_e : ∀ y ∈ x0.before.rows, ∀ c ∈ Ty.cells .macRow y, FactC c) (hp : x0.now.rows.length ≤ 4294967296 ∧ x0.before.rows.length ≤ 4294967296) (γ : Type) (fail : γ) (k : Keys → γ) : w_toKeys_N x0 γ fail k = k (w_toKeys x0) := by
  unfold w_toKeys_N w_toKeys
  exact bifG (by (try simp only [Nat.ble_eq, Bool.and_eq_true, decide_eq_true_eq]); grind [maxSl, maxStr, toBytes_length, toInts_length, List.length_set, wrap64]) (letT (f := k) (fun c1 hc1 => bifG (by (try simp only [Nat.ble_eq, Bool.and_eq_true, decide_eq_true_eq]); grind [maxSl, maxStr, toBytes_length, toInts_length, List.length_set, wrap64]) (letT (f := k) (fun c2 hc2 => rfl))))
theorem w_toKeys_c (x0 : Keys) (hp : x0.now.rows.length ≤ 4294967296 ∧ x0.before.rows.length ≤ 4294967296) : Con Try.prog 72 (pvs [.st .keys] (x0, ())) [rv (.st .keys) [.c, .c, .c, .c, .o true, .c, .c, .c, .o true, .c] (w_toKeys x0)] := by
  refine Con.of_facts (enters_of Try.func72 rfl (by kernel_rfl)) fun hf => ?_
  replace hf := factAt hf
  exact evalFn_con0 teFact mixFact (orcOf_ok _) Try.func72 (by kernel_rfl) ((w_toKeys_lk x0).trans (w_toKeys_p x0 ((hf 0 0 rfl rfl).rng) ((hf 0 2 rfl rfl).rng) ((hf 0 3 rfl rfl).rng) ((hf 0 4 rfl rfl).len) (fun y hy => (hf 0 4 rfl rfl).elem hy) ((hf 0 6 rfl rfl).rng) ((hf 0 7 rfl rfl).rng) ((hf 0 8 rfl rfl).len) (fun y hy => (hf 0 8 rfl rfl).elem hy) hp _ _ _))
noncomputable def w_toKeys_e : Ent1 Try.prog := entP 72 [.st .keys] (fun x => (decide (x.1.now.rows.length ≤ 4294967296 ∧ x.1.before.rows.length ≤ 4294967296))) (fun x => (w_toKeys x.1)) (fun v => [rv (.st .keys) [.c, .c, .c, .c, .o true, .c, .c, .c, .o true, .c] v]) (fun x hx => w_toKeys_c x.1 (of_decide_eq_true hx))


/-- laws.eqKeys -/
def w_eqKeys_N (x0 : Keys) (x1 : Keys) (γ : Type) (fail : γ) (k : Bool → γ) : γ :=
  bif (x0.epoch != x1.epoch) then
    k false
  else
  letK (α := Bool) (w_eqMac x0.now x1.now) fun c1 =>
  bif (!c1) then
    k false
  else
  letK (α := Bool) (w_eqMac x0.before x1.before) fun c2 =>
  bif (!c2) then
    k false
  else
  bif (!(x0.two == x1.two)) then
    k false
  else
  k true
def w_eqKeys (x0 : Keys) (x1 : Keys) : Bool :=
  bif (x0.epoch != x1.epoch) then
    false
  else
  letK (α := Bool) (w_eqMac x0.now x1.now) fun c1 =>
  bif (!c1) then
    false
  else
  letK (α := Bool) (w_eqMac x0.before x1.before) fun c2 =>
  bif (!c2) then
    false
  else
  bif (!(x0.two == x1.two)) then
    false
  else
  true
theorem w_eqKeys_lk (x0 : Keys) (x1 : Keys) : evalFn te (orcOf (P := Try.prog) [w_eqMac_e]) lorc0 [] Try.f76 (pvs [.st .keys, .st .keys] (x0, x1, ())) =
  w_eqKeys_N x0 x1 _ none (fun v => some [(false, [RC.c (.bool v)])]) := by kernel_rfl
theorem w_eqKeys_p (x0 : Keys) (x1 : Keys)   (γ : Type) (fail : γ) (k : Bool → γ) : w_eqKeys_N x0 x1 γ fail k = k (w_eqKeys x0 x1) := by
  unfold w_eqKeys_N w_eqKeys
  exact bifT (f := k) (fun b0 => rfl)
      (fun b0 => letT (f := k) (fun c1 hc1 => bifT (f := k) (fun b1 => rfl)
      (fun b1 => letT (f := k) (fun c2 hc2 => bifT (f := k) (fun b2 => rfl)
      (fun b2 => bifT (f := k) (fun b3 => rfl)
      (fun b3 => rfl))))))
theorem w_eqKeys_c (x0 : Keys) (x1 : Keys)  : Con Try.prog 76 (pvs [.st .keys, .st .keys] (x0, x1, ())) [rv (.sc .bool) [] (w_eqKeys x0 x1)] := by
  exact evalFn_con0 teFact mixFact (orcOf_ok _) Try.func76 (by kernel_rfl) ((w_eqKeys_lk x0 x1).trans (w_eqKeys_p x0 x1  _ _ _))
noncomputable def w_eqKeys_e : Ent1 Try.prog := entA 76 [.st .keys, .st .keys] (fun x => (w_eqKeys x.1 x.2.1)) (fun v => [rv (.sc .bool) [] v]) (fun x => w_eqKeys_c x.1 x.2.1)


/-- spec.SameDoor -/
def s_SameDoor_N (x0 : Door) (x1 : Door) (γ : Type) (fail : γ) (k : Bool → γ) : γ :=
  bif (x0.port == x1.port) then
    bif (x0.clock == x1.clock) then
      letK (α := Bool) (s_SameKeys x0.keys x1.keys) fun c1 =>
      bif c1 then
        bif ((x0.limits.halves == x1.limits.halves) && ((x0.limits.waiting == x1.limits.waiting) && ((x0.limits.conns == x1.limits.conns) && ((x0.limits.chal == x1.limits.chal) && true)))) then
          letK (α := Bool) (s_SameHalves x0.halves x1.halves) fun c2 =>
          bif c2 then
            letK (α := Bool) (s_SameTable x0.table x1.table) fun c3 =>
            bif c3 then
              k (x0.chal == x1.chal)
            else
            k false
          else
          k false
        else
        k false
      else
      k false
    else
    k false
  else
  k false
def s_SameDoor (x0 : Door) (x1 : Door) : Bool :=
  bif (x0.port == x1.port) then
    bif (x0.clock == x1.clock) then
      letK (α := Bool) (s_SameKeys x0.keys x1.keys) fun c1 =>
      bif c1 then
        bif ((x0.limits.halves == x1.limits.halves) && ((x0.limits.waiting == x1.limits.waiting) && ((x0.limits.conns == x1.limits.conns) && ((x0.limits.chal == x1.limits.chal) && true)))) then
          letK (α := Bool) (s_SameHalves x0.halves x1.halves) fun c2 =>
          bif c2 then
            letK (α := Bool) (s_SameTable x0.table x1.table) fun c3 =>
            bif c3 then
              (x0.chal == x1.chal)
            else
            false
          else
          false
        else
        false
      else
      false
    else
    false
  else
  false
theorem s_SameDoor_lk (x0 : Door) (x1 : Door) : evalFn te (orcOf (P := Try.prog) [s_SameKeys_e, s_SameHalves_e, s_SameTable_e]) lorc0 [] Try.f82 (pvs [.st .door, .st .door] (x0, x1, ())) =
  s_SameDoor_N x0 x1 _ none (fun v => some [(false, [RC.c (.bool v)])]) := by kernel_rfl
theorem s_SameDoor_p (x0 : Door) (x1 : Door)   (γ : Type) (fail : γ) (k : Bool → γ) : s_SameDoor_N x0 x1 γ fail k = k (s_SameDoor x0 x1) := by
  unfold s_SameDoor_N s_SameDoor
  exact bifT (f := k) (fun b0 => bifT (f := k) (fun b1 => letT (f := k) (fun c1 hc1 => bifT (f := k) (fun b2 => bifT (f := k) (fun b3 => letT (f := k) (fun c2 hc2 => bifT (f := k) (fun b4 => letT (f := k) (fun c3 hc3 => bifT (f := k) (fun b5 => rfl)
      (fun b5 => rfl)))
      (fun b4 => rfl)))
      (fun b3 => rfl))
      (fun b2 => rfl)))
      (fun b1 => rfl))
      (fun b0 => rfl)
theorem s_SameDoor_c (x0 : Door) (x1 : Door)  : Con Try.prog 82 (pvs [.st .door, .st .door] (x0, x1, ())) [rv (.sc .bool) [] (s_SameDoor x0 x1)] := by
  exact evalFn_con0 teFact mixFact (orcOf_ok _) Try.func82 (by kernel_rfl) ((s_SameDoor_lk x0 x1).trans (s_SameDoor_p x0 x1  _ _ _))
noncomputable def s_SameDoor_e : Ent1 Try.prog := entA 82 [.st .door, .st .door] (fun x => (s_SameDoor x.1 x.2.1)) (fun v => [rv (.sc .bool) [] v]) (fun x => s_SameDoor_c x.1 x.2.1)


/-- impl.SameTable -/
def i_SameTable_N (x0 : Tabl) (x1 : Tabl) (γ : Type) (fail : γ) (k : Bool → γ) : γ :=
  letK (α := Bool) (g_EqualFunc_Conn_i_SameConn x0.conns x1.conns) fun c1 =>
  bif c1 then
    letK (α := Bool) (g_Equal_Tuple x0.waiting x1.waiting) fun c2 =>
    k c2
  else
  k false
def i_SameTable (x0 : Tabl) (x1 : Tabl) : Bool :=
  letK (α := Bool) (g_EqualFunc_Conn_i_SameConn x0.conns x1.conns) fun c1 =>
  bif c1 then
    letK (α := Bool) (g_Equal_Tuple x0.waiting x1.waiting) fun c2 =>
    c2
  else
  false
theorem i_SameTable_lk (x0 : Tabl) (x1 : Tabl) : evalFn te (orcOf (P := Try.prog) [g_EqualFunc_Conn_i_SameConn_e, g_Equal_Tuple_e]) lorc0 [] Try.f138 (pvs [.st .tabl, .st .tabl] (x0, x1, ())) =
  i_SameTable_N x0 x1 _ none (fun v => some [(false, [RC.c (.bool v)])]) := by kernel_rfl
theorem i_SameTable_p (x0 : Tabl) (x1 : Tabl)   (γ : Type) (fail : γ) (k : Bool → γ) : i_SameTable_N x0 x1 γ fail k = k (i_SameTable x0 x1) := by
  unfold i_SameTable_N i_SameTable
  exact letT (f := k) (fun c1 hc1 => bifT (f := k) (fun b0 => letT (f := k) (fun c2 hc2 => rfl))
      (fun b0 => rfl))
theorem i_SameTable_c (x0 : Tabl) (x1 : Tabl)  : Con Try.prog 138 (pvs [.st .tabl, .st .tabl] (x0, x1, ())) [rv (.sc .bool) [] (i_SameTable x0 x1)] := by
  exact evalFn_con0 teFact mixFact (orcOf_ok _) Try.func138 (by kernel_rfl) ((i_SameTable_lk x0 x1).trans (i_SameTable_p x0 x1  _ _ _))
noncomputable def i_SameTable_e : Ent1 Try.prog := entA 138 [.st .tabl, .st .tabl] (fun x => (i_SameTable x.1 x.2.1)) (fun v => [rv (.sc .bool) [] v]) (fun x => i_SameTable_c x.1 x.2.1)


/-- laws.toConn -/
def w_toConn_N (x0 : Conn) (γ : Type) (fail : γ) (k : Conn → γ) : γ :=
  letK (α := Tupl) (w_toTuple x0.tuple) fun c1 =>
  letK (α := Sndr) (w_toSender x0.s) fun c2 =>
  bif (decide (x0.r.data.length ≤ 4294967296 ∧ x0.r.held.length ≤ 4294967296)) then
  letK (α := Recv) (w_toReceiver x0.r) fun c3 =>
  letK (α := Opti) (w_toOptions x0.opts) fun c4 =>
  k (⟨c1, x0.state, c2, c3, x0.window, x0.most, c4, x0.timer, x0.tries⟩ : Conn)
  else fail
def w_toConn (x0 : Conn) : Conn :=
  letK (α := Tupl) (w_toTuple x0.tuple) fun c1 =>
  letK (α := Sndr) (w_toSender x0.s) fun c2 =>
  letK (α := Recv) (w_toReceiver x0.r) fun c3 =>
  letK (α := Opti) (w_toOptions x0.opts) fun c4 =>
  (⟨c1, x0.state, c2, c3, x0.window, x0.most, c4, x0.timer, x0.tries⟩ : Conn)
theorem w_toConn_lk (x0 : Conn) : evalFn te (orcOf (P := Try.prog) [w_toTuple_e, w_toSender_e, w_toReceiver_e, w_toOptions_e]) lorc0 [] Try.f161 (pvs [.st .conn] (x0, ())) =
  w_toConn_N x0 _ none (fun v => some [(true, [RC.c (.int .i64 v.tuple.ip), RC.c (.int .i64 v.tuple.port), RC.c (.int .i64 v.tuple.my), RC.c (.int .i64 v.state), RC.c (.int .i64 v.s.una), RC.c (.str v.s.data), RC.c (.int .i64 v.s.sent), RC.c (.bool v.s.fin), RC.c (.bool v.s.finSent), RC.c (.bool v.s.done), RC.c (.int .i64 v.r.next), RC.c (.str v.r.data), RC.own true .piec v.r.held, RC.c (.int .i64 v.r.fin), RC.c (.bool v.r.done), RC.c (.int .i64 v.window), RC.c (.int .i64 v.most), RC.c (.int .i64 v.opts.mss), RC.c (.int .i64 v.opts.scale), RC.c (.bool v.opts.sack), RC.c (.bool v.opts.stamp), RC.c (.int .i64 v.opts.val), RC.c (.int .i64 v.opts.echo), RC.c (.int .i64 v.timer), RC.c (.int .i64 v.tries)])]) := by kernel_rfl
theorem w_toConn_p (x0 : Conn) (hx0_tuple_ip : inK .i64 x0.tuple.ip) (hx0_tuple_port : inK .i64 x0.tuple.port) (hx0_tuple_my : inK .i64 x0.tuple.my) (hx0_state : inK .i64 x0.state) (hx0_s_una : inK .i64 x0.s.una) (hx0_s_data : List.length x0.s.data ≤ 4611686018427387904) (hx0_s_sent : inK .i64 x0.s.sent) (hx0_r_next : inK .i64 x0.r.next) (hx0_r_data : List.length x0.r.data ≤ 4611686018427387904) (hx0_r_held : x0.r.held.length ≤ 140737488355328) (hx0_r_held_e : ∀ y ∈ x0.r.held, ∀ c ∈ Ty.cells .piec y, FactC c) (hx0_r_fin : inK .i64 x0.r.fin) (hx0_window : inK .i64 x0.window) (hx0_most : inK .i64 x0.most) (hx0_opts_mss : inK .i64 x0.opts.mss) (hx0_opts_scale : inK .i64 x0.opts.scale) (hx0_opts_val : inK .i64 x0.opts.val) (hx0_opts_echo : inK .i64 x0.opts.echo) (hx0_timer : inK .i64 x0.timer) (hx0_tries : inK .i64 x0.tries) (hp : x0.s.data.length ≤ 4294967296 ∧ x0.r.data.length ≤ 4294967296 ∧ x0.r.held.length ≤ 4294967296) (γ : Type) (fail : γ) (k : Conn → γ) : w_toConn_N x0 γ fail k = k (w_toConn x0) := by
  unfold w_toConn_N w_toConn
  exact letT (f := k) (fun c1 hc1 => letT (f := k) (fun c2 hc2 => bifG (by (try simp only [Nat.ble_eq, Bool.and_eq_true, decide_eq_true_eq]); grind [maxSl, maxStr, toBytes_length, toInts_length, List.length_set, wrap64]) (letT (f := k) (fun c3 hc3 => letT (f := k) (fun c4 hc4 => rfl)))))
theorem w_toConn_c (x0 : Conn) (hp : x0.s.data.length ≤ 4294967296 ∧ x0.r.data.length ≤ 4294967296 ∧ x0.r.held.length ≤ 4294967296) : Con Try.prog 161 (pvs [.st .conn] (x0, ())) [rv (.st .conn) [.c, .c, .c, .c, .c, .c, .c, .c, .c, .c, .c, .c, .o true, .c, .c, .c, .c, .c, .c, .c, .c, .c, .c, .c, .c] (w_toConn x0)] := by
  refine Con.of_facts (enters_of Try.func161 rfl (by kernel_rfl)) fun hf => ?_
  replace hf := factAt hf
  exact evalFn_con0 teFact mixFact (orcOf_ok _) Try.func161 (by kernel_rfl) ((w_toConn_lk x0).trans (w_toConn_p x0 ((hf 0 0 rfl rfl).rng) ((hf 0 1 rfl rfl).rng) ((hf 0 2 rfl rfl).rng) ((hf 0 3 rfl rfl).rng) ((hf 0 4 rfl rfl).rng) ((hf 0 5 rfl rfl).slen) ((hf 0 6 rfl rfl).rng) ((hf 0 10 rfl rfl).rng) ((hf 0 11 rfl rfl).slen) ((hf 0 12 rfl rfl).len) (fun y hy => (hf 0 12 rfl rfl).elem hy) ((hf 0 13 rfl rfl).rng) ((hf 0 15 rfl rfl).rng) ((hf 0 16 rfl rfl).rng) ((hf 0 17 rfl rfl).rng) ((hf 0 18 rfl rfl).rng) ((hf 0 21 rfl rfl).rng) ((hf 0 22 rfl rfl).rng) ((hf 0 23 rfl rfl).rng) ((hf 0 24 rfl rfl).rng) hp _ _ _))
noncomputable def w_toConn_e : Ent1 Try.prog := entP 161 [.st .conn] (fun x => (decide (x.1.s.data.length ≤ 4294967296 ∧ x.1.r.data.length ≤ 4294967296 ∧ x.1.r.held.length ≤ 4294967296))) (fun x => (w_toConn x.1)) (fun v => [rv (.st .conn) [.c, .c, .c, .c, .c, .c, .c, .c, .c, .c, .c, .c, .o true, .c, .c, .c, .c, .c, .c, .c, .c, .c, .c, .c, .c] v]) (fun x hx => w_toConn_c x.1 (of_decide_eq_true hx))


/-- laws.eqConn -/
def w_eqConn_N (x0 : Conn) (x1 : Conn) (γ : Type) (fail : γ) (k : Bool → γ) : γ :=
  letK (α := Bool) (w_eqTuple x0.tuple x1.tuple) fun c1 =>
  bif (!c1) then
    k false
  else
  bif (x0.state != x1.state) then
    k false
  else
  letK (α := Bool) (w_eqSender x0.s x1.s) fun c2 =>
  bif (!c2) then
    k false
  else
  letK (α := Bool) (w_eqReceiver x0.r x1.r) fun c3 =>
  bif (!c3) then
    k false
  else
  bif (x0.window != x1.window) then
    k false
  else
  bif (x0.most != x1.most) then
    k false
  else
  letK (α := Bool) (w_eqOptions x0.opts x1.opts) fun c4 =>
  bif (!c4) then
    k false
  else
  bif (x0.timer != x1.timer) then
    k false
  else
  bif (x0.tries != x1.tries) then
    k false
  else
  k true
def w_eqConn (x0 : Conn) (x1 : Conn) : Bool :=
  letK (α := Bool) (w_eqTuple x0.tuple x1.tuple) fun c1 =>
  bif (!c1) then
    false
  else
  bif (x0.state != x1.state) then
    false
  else
  letK (α := Bool) (w_eqSender x0.s x1.s) fun c2 =>
  bif (!c2) then
    false
  else
  letK (α := Bool) (w_eqReceiver x0.r x1.r) fun c3 =>
  bif (!c3) then
    false
  else
  bif (x0.window != x1.window) then
    false
  else
  bif (x0.most != x1.most) then
    false
  else
  letK (α := Bool) (w_eqOptions x0.opts x1.opts) fun c4 =>
  bif (!c4) then
    false
  else
  bif (x0.timer != x1.timer) then
    false
  else
  bif (x0.tries != x1.tries) then
    false
  else
  true
theorem w_eqConn_lk (x0 : Conn) (x1 : Conn) : evalFn te (orcOf (P := Try.prog) [w_eqTuple_e, w_eqSender_e, w_eqReceiver_e, w_eqOptions_e]) lorc0 [] Try.f164 (pvs [.st .conn, .st .conn] (x0, x1, ())) =
  w_eqConn_N x0 x1 _ none (fun v => some [(false, [RC.c (.bool v)])]) := by kernel_rfl
theorem w_eqConn_p (x0 : Conn) (x1 : Conn)   (γ : Type) (fail : γ) (k : Bool → γ) : w_eqConn_N x0 x1 γ fail k = k (w_eqConn x0 x1) := by
  unfold w_eqConn_N w_eqConn
  exact letT (f := k) (fun c1 hc1 => bifT (f := k) (fun b0 => rfl)
      (fun b0 => bifT (f := k) (fun b1 => rfl)
      (fun b1 => letT (f := k) (fun c2 hc2 => bifT (f := k) (fun b2 => rfl)
      (fun b2 => letT (f := k) (fun c3 hc3 => bifT (f := k) (fun b3 => rfl)
      (fun b3 => bifT (f := k) (fun b4 => rfl)
      (fun b4 => bifT (f := k) (fun b5 => rfl)
      (fun b5 => letT (f := k) (fun c4 hc4 => bifT (f := k) (fun b6 => rfl)
      (fun b6 => bifT (f := k) (fun b7 => rfl)
      (fun b7 => bifT (f := k) (fun b8 => rfl)
      (fun b8 => rfl)))))))))))))
theorem w_eqConn_c (x0 : Conn) (x1 : Conn)  : Con Try.prog 164 (pvs [.st .conn, .st .conn] (x0, x1, ())) [rv (.sc .bool) [] (w_eqConn x0 x1)] := by
  exact evalFn_con0 teFact mixFact (orcOf_ok _) Try.func164 (by kernel_rfl) ((w_eqConn_lk x0 x1).trans (w_eqConn_p x0 x1  _ _ _))
noncomputable def w_eqConn_e : Ent1 Try.prog := entA 164 [.st .conn, .st .conn] (fun x => (w_eqConn x.1 x.2.1)) (fun v => [rv (.sc .bool) [] v]) (fun x => w_eqConn_c x.1 x.2.1)


/-- spec.SameStack -/
def s_SameStack_N (x0 : Stac) (x1 : Stac) (γ : Type) (fail : γ) (k : Bool → γ) : γ :=
  letK (α := Bool) (s_SameLink x0.link x1.link) fun c1 =>
  bif c1 then
    letK (α := Bool) (s_SameDoor x0.door x1.door) fun c2 =>
    k c2
  else
  k false
def s_SameStack (x0 : Stac) (x1 : Stac) : Bool :=
  letK (α := Bool) (s_SameLink x0.link x1.link) fun c1 =>
  bif c1 then
    letK (α := Bool) (s_SameDoor x0.door x1.door) fun c2 =>
    c2
  else
  false
theorem s_SameStack_lk (x0 : Stac) (x1 : Stac) : evalFn te (orcOf (P := Try.prog) [s_SameLink_e, s_SameDoor_e]) lorc0 [] Try.f29 (pvs [.st .stac, .st .stac] (x0, x1, ())) =
  s_SameStack_N x0 x1 _ none (fun v => some [(false, [RC.c (.bool v)])]) := by kernel_rfl
theorem s_SameStack_p (x0 : Stac) (x1 : Stac)   (γ : Type) (fail : γ) (k : Bool → γ) : s_SameStack_N x0 x1 γ fail k = k (s_SameStack x0 x1) := by
  unfold s_SameStack_N s_SameStack
  exact letT (f := k) (fun c1 hc1 => bifT (f := k) (fun b0 => letT (f := k) (fun c2 hc2 => rfl))
      (fun b0 => rfl))
theorem s_SameStack_c (x0 : Stac) (x1 : Stac)  : Con Try.prog 29 (pvs [.st .stac, .st .stac] (x0, x1, ())) [rv (.sc .bool) [] (s_SameStack x0 x1)] := by
  exact evalFn_con0 teFact mixFact (orcOf_ok _) Try.func29 (by kernel_rfl) ((s_SameStack_lk x0 x1).trans (s_SameStack_p x0 x1  _ _ _))
noncomputable def s_SameStack_e : Ent1 Try.prog := entA 29 [.st .stac, .st .stac] (fun x => (s_SameStack x.1 x.2.1)) (fun v => [rv (.sc .bool) [] v]) (fun x => s_SameStack_c x.1 x.2.1)


/-- impl.SameDoor -/
def i_SameDoor_N (x0 : Door) (x1 : Door) (γ : Type) (fail : γ) (k : Bool → γ) : γ :=
  bif (x0.port == x1.port) then
    bif (x0.clock == x1.clock) then
      letK (α := Bool) (i_SameKeys x0.keys x1.keys) fun c1 =>
      bif c1 then
        bif ((x0.limits.halves == x1.limits.halves) && ((x0.limits.waiting == x1.limits.waiting) && ((x0.limits.conns == x1.limits.conns) && ((x0.limits.chal == x1.limits.chal) && true)))) then
          letK (α := Bool) (i_SameHalves x0.halves x1.halves) fun c2 =>
          bif c2 then
            letK (α := Bool) (i_SameTable x0.table x1.table) fun c3 =>
            bif c3 then
              k (x0.chal == x1.chal)
            else
            k false
          else
          k false
        else
        k false
      else
      k false
    else
    k false
  else
  k false
def i_SameDoor (x0 : Door) (x1 : Door) : Bool :=
  bif (x0.port == x1.port) then
    bif (x0.clock == x1.clock) then
      letK (α := Bool) (i_SameKeys x0.keys x1.keys) fun c1 =>
      bif c1 then
        bif ((x0.limits.halves == x1.limits.halves) && ((x0.limits.waiting == x1.limits.waiting) && ((x0.limits.conns == x1.limits.conns) && ((x0.limits.chal == x1.limits.chal) && true)))) then
          letK (α := Bool) (i_SameHalves x0.halves x1.halves) fun c2 =>
          bif c2 then
            letK (α := Bool) (i_SameTable x0.table x1.table) fun c3 =>
            bif c3 then
              (x0.chal == x1.chal)
            else
            false
          else
          false
        else
        false
      else
      false
    else
    false
  else
  false
theorem i_SameDoor_lk (x0 : Door) (x1 : Door) : evalFn te (orcOf (P := Try.prog) [i_SameKeys_e, i_SameHalves_e, i_SameTable_e]) lorc0 [] Try.f85 (pvs [.st .door, .st .door] (x0, x1, ())) =
  i_SameDoor_N x0 x1 _ none (fun v => some [(false, [RC.c (.bool v)])]) := by kernel_rfl
theorem i_SameDoor_p (x0 : Door) (x1 : Door)   (γ : Type) (fail : γ) (k : Bool → γ) : i_SameDoor_N x0 x1 γ fail k = k (i_SameDoor x0 x1) := by
  unfold i_SameDoor_N i_SameDoor
  exact bifT (f := k) (fun b0 => bifT (f := k) (fun b1 => letT (f := k) (fun c1 hc1 => bifT (f := k) (fun b2 => bifT (f := k) (fun b3 => letT (f := k) (fun c2 hc2 => bifT (f := k) (fun b4 => letT (f := k) (fun c3 hc3 => bifT (f := k) (fun b5 => rfl)
      (fun b5 => rfl)))
      (fun b4 => rfl)))
      (fun b3 => rfl))
      (fun b2 => rfl)))
      (fun b1 => rfl))
      (fun b0 => rfl)
theorem i_SameDoor_c (x0 : Door) (x1 : Door)  : Con Try.prog 85 (pvs [.st .door, .st .door] (x0, x1, ())) [rv (.sc .bool) [] (i_SameDoor x0 x1)] := by
  exact evalFn_con0 teFact mixFact (orcOf_ok _) Try.func85 (by kernel_rfl) ((i_SameDoor_lk x0 x1).trans (i_SameDoor_p x0 x1  _ _ _))
noncomputable def i_SameDoor_e : Ent1 Try.prog := entA 85 [.st .door, .st .door] (fun x => (i_SameDoor x.1 x.2.1)) (fun v => [rv (.sc .bool) [] v]) (fun x => i_SameDoor_c x.1 x.2.1)


/-- laws.toConnS -/
def w_toConnS_ann : List (Nat × Keep) := [(0, ⟨[0, 3, 4], [], false, 0⟩)]
def w_toConnS_L0_sh : Sh := ⟨[(0, false, [.sl .arg .conn]), (3, false, [.own 0]), (4, false, [.int .i64])], [.arr .conn false true]⟩
def w_toConnS_L0_es : List (Ex × Sh) := [(.exit 0, ⟨[(2, false, [.undef]), (3, false, [.own 0])], [.arr .conn false true]⟩)]
def w_toConnS_L0_mk (v0 : List Conn) (v1 : Int) (v2 : List Conn) : w_toConnS_L0_sh.T := (((v0, ()), (((), ()), ((v1, ()), ()))), (v2, ()))
def w_toConnS_L0_mx0 (y0 : List Conn) : Sh.T ⟨[(2, false, [.undef]), (3, false, [.own 0])], [.arr .conn false true]⟩ := ((((), ()), (((), ()), ())), (y0, ()))
def w_toConnS_L0_B (v0 : List Conn) (v1 : Int) (v2 : List Conn) (γ : Type) (fail : γ) (next : w_toConnS_L0_sh.T → γ) (out : WT w_toConnS_L0_es → γ) : γ :=
  bif (decide (v1 < (v0.length : Int))) then
    bif ((decide (0 ≤ v1)) && (decide (v1 < (v0.length : Int)))) then
    bif (decide ((v0.getD v1.toNat (Ty.zero .conn)).s.data.length ≤ 4294967296 ∧ (v0.getD v1.toNat (Ty.zero .conn)).r.data.length ≤ 4294967296 ∧ (v0.getD v1.toNat (Ty.zero .conn)).r.held.length ≤ 4294967296)) then
    letK (α := Conn) (w_toConn (v0.getD v1.toNat (Ty.zero .conn))) fun c2 =>
    bif ((decide (0 ≤ v1)) && (decide (v1 < (v2.length : Int)))) then
    next (w_toConnS_L0_mk v0 (IntKind.wrap .i64 (v1 + 1)) (v2.set v1.toNat c2))
    else fail
    else fail
    else fail
  else
  out (w_toConnS_L0_mx0 v2)
theorem w_toConnS_L0_par (v0 : List Conn) (v1 : Int) (v2 : List Conn) (γ : Type) (fail : γ) (next : w_toConnS_L0_sh.T → γ) (out : WT w_toConnS_L0_es → γ) : w_toConnS_L0_B v0 v1 v2 γ fail next out = optK (w_toConnS_L0_B v0 v1 v2 _ none (fun v' => some (.inl v')) (fun w => some (.inr w))) fail (fun r => Sum.elim next out r) := by
  unfold w_toConnS_L0_B
  exact bifT (f := (fun o => optK o fail (fun r => Sum.elim next out r))) (fun _ => bifT (f := (fun o => optK o fail (fun r => Sum.elim next out r))) (fun _ => bifT (f := (fun o => optK o fail (fun r => Sum.elim next out r))) (fun _ => letT (f := (fun o => optK o fail (fun r => Sum.elim next out r))) (fun c2 _ => bifT (f := (fun o => optK o fail (fun r => Sum.elim next out r))) (fun _ => rfl) (fun _ => rfl))) (fun _ => rfl)) (fun _ => rfl))
      (fun _ => rfl)
def w_toConnS_L0_r : Round w_toConnS_L0_sh.T (WT w_toConnS_L0_es) where
  B v γ fail next out := w_toConnS_L0_B v.1.1.1 v.1.2.2.1.1 v.2.1 γ fail next out
  par v γ fail next out := w_toConnS_L0_par v.1.1.1 v.1.2.2.1.1 v.2.1 γ fail next out
def w_toConnS_L0_fu (v0 : List Conn) (v1 : Int) (v2 : List Conn) : Nat := (Int.toNat ((v0.length : Int) - v1)) + 1
theorem w_toConnS_L0_lk (v : w_toConnS_L0_sh.T) (next : St → Option Res) (k : Ex → St → Option Res) : evalK te (orcOf (P := Try.prog) [w_toConn_e]) (lorcOf []) Try.f124.ntmps w_toConnS_ann (nthLoop (bodyOf Try.f124) 0 0) 0 (w_toConnS_L0_sh.enc v) (endK ⟨[0, 3, 4], [], false, 0⟩ ⟨[2, 3], [], false, 0⟩ next k) =
  w_toConnS_L0_r.B v _ none (fun v' => next (w_toConnS_L0_sh.enc v')) (fun w => outK w_toConnS_L0_es k w) := by kernel_rfl
def w_toConnS_L0_le : LE := leOf 0 w_toConnS_L0_sh w_toConnS_L0_es w_toConnS_L0_r.step (fun v => w_toConnS_L0_fu v.1.1.1 v.1.2.2.1.1 v.2.1)
theorem w_toConnS_L0_ls (w0 : World) (mo : Mts) (I0 : Nat → Prop) (hmo : mo.length = 0) : LSem Try.prog (Sim w0 mo Try.f124.ntmps I0) (fun b s k => match Nat.beq 0 b with | true => w_toConnS_L0_le.run s k | false => none) 0 (nthLoop (bodyOf Try.f124) 0 0) :=
  le_sem hmo (lorc := lorcOf []) (ann := w_toConnS_ann) (keep := ⟨[0, 3, 4], [], false, 0⟩) (kout := ⟨[2, 3], [], false, 0⟩) teFact mixFact (orcOf_ok _) (by kernel_rfl) (allLoops_of (bs := []) (by kernel_rfl) trivial) w_toConnS_L0_r _ w_toConnS_L0_lk
def w_toConnS_L0_f (v0 : List Conn) (v1 : Int) (a : List Conn) : Stp (List Conn) (Empty) :=
  letK (α := Conn) (w_toConn (v0.getD v1.toNat (Ty.zero .conn))) fun c2 =>
  .next (a.set v1.toNat c2)
theorem w_toConnS_L0_st (v0 : List Conn) (v1 : Int) (v2 : List Conn) (hlo : 0 ≤ v1) (hhi : v1 < (v0.length : Int)) (hN : (v0.length : Int) ≤ 4611686018427387904) (hi0 : sm_conn v0 = true) (hinv : (v0.length : Int) ≤ (v2.length : Int)) : w_toConnS_L0_r.step (w_toConnS_L0_mk v0 v1 v2) = Stp.elim (fun a' : List Conn => some (Sum.inl (w_toConnS_L0_mk v0 (v1 + 1) a'))) (fun w => some (Sum.inr ((fun p : Empty => nomatch p) w))) (w_toConnS_L0_f v0 v1 v2) := by
  have hw : (IntKind.wrap .i64 (v1 + 1)) = v1 + 1 := wrap64 (by omega) (by omega)
  show w_toConnS_L0_B v0 v1 v2 (Option (w_toConnS_L0_sh.T ⊕ WT w_toConnS_L0_es)) none (fun v' => some (Sum.inl v')) (fun w => some (Sum.inr w)) = _
  unfold w_toConnS_L0_B w_toConnS_L0_f
  exact bifG (by simp only [decide_eq_true_eq]; omega) (bifG (by (try simp only [Nat.ble_eq, Bool.and_eq_true, decide_eq_true_eq]); grind [maxSl, maxStr, toBytes_length, toInts_length, List.length_set, wrap64, sm_conn_at]) (bifG (by (try simp only [Nat.ble_eq, Bool.and_eq_true, decide_eq_true_eq]); grind [maxSl, maxStr, toBytes_length, toInts_length, List.length_set, wrap64, sm_conn_at]) (letT (f := (Stp.elim (fun a' : List Conn => some (Sum.inl (w_toConnS_L0_mk v0 (v1 + 1) a'))) (fun w => some (Sum.inr ((fun p : Empty => nomatch p) w))))) (fun c2 hc2 => bifG (by (try simp only [Nat.ble_eq, Bool.and_eq_true, decide_eq_true_eq]); grind [maxSl, maxStr, toBytes_length, toInts_length, List.length_set, wrap64, sm_conn_at]) ((by exact congrArg (fun z => some (Sum.inl (w_toConnS_L0_mk v0 z (v2.set v1.toNat c2)))) hw))))))
theorem w_toConnS_L0_cl (v0 : List Conn) (v1 : Int) (v2 : List Conn) (h0 : 0 ≤ v1) (h1 : (v0.length : Int) ≤ 4611686018427387904) (h2 : sm_conn v0 = true) (h3 : (v0.length : Int) ≤ (v2.length : Int)) : loopF w_toConnS_L0_r.step (w_toConnS_L0_fu v0 v1 v2) (w_toConnS_L0_mk v0 v1 v2) = some (Stp.elim (fun a => (fun i a => w_toConnS_L0_mx0 a) (v1 + 1 * (((Int.toNat ((v0.length : Int) - v1)) : Nat) : Int)) a) (fun p : Empty => nomatch p) (forN (w_toConnS_L0_f v0) 1 (Int.toNat ((v0.length : Int) - v1)) v1 v2)) :=
  forN_loop (step := w_toConnS_L0_r.step) (mk := fun v1 a => w_toConnS_L0_mk v0 v1 a) (f := w_toConnS_L0_f v0) (e := (fun i a => w_toConnS_L0_mx0 a)) (emb := (fun p : Empty => nomatch p)) (st := 1) (Inv := fun v1 a => (v0.length : Int) ≤ (a.length : Int)) (Int.toNat ((v0.length : Int) - v1)) v1 v2 _ (Nat.lt_succ_self _) h3
    (fun j a hj hv => ⟨w_toConnS_L0_st v0 (v1 + 1 * (j : Int)) a (by omega) (by omega) (by omega) h2 hv, by
      intro a' he
      grind [w_toConnS_L0_f, letK, Stp.elim, wrap64, List.length_set]⟩)
    (fun a hv => by
      show w_toConnS_L0_B v0 (v1 + 1 * (((Int.toNat ((v0.length : Int) - v1)) : Nat) : Int)) a (Option (w_toConnS_L0_sh.T ⊕ WT w_toConnS_L0_es)) none (fun v' => some (Sum.inl v')) (fun w => some (Sum.inr w)) = _
      unfold w_toConnS_L0_B
      exact bifN (by simp only [decide_eq_false_iff_not]; omega) rfl)
theorem w_toConnS_L0_nx (v0 : List Conn) (v1 : Int) (v2 : List Conn) (h0 : 0 ≤ v1) (h1 : (v0.length : Int) ≤ 4611686018427387904) (h2 : sm_conn v0 = true) (h3 : (v0.length : Int) ≤ (v2.length : Int)) : ∀ a', forN (w_toConnS_L0_f v0) 1 (Int.toNat ((v0.length : Int) - v1)) v1 v2 = .next a' → (v0.length : Int) ≤ (a'.length : Int) :=
  forN_inv (f := w_toConnS_L0_f v0) (st := 1) (Inv := fun v1 a => (v0.length : Int) ≤ (a.length : Int)) (Int.toNat ((v0.length : Int) - v1)) v1 v2 h3
    (fun j a hj hv => by
      intro a' he
      grind [w_toConnS_L0_f, letK, Stp.elim, wrap64, List.length_set])
def w_toConnS_N (x0 : List Conn) (γ : Type) (fail : γ) (k : List Conn → γ) : γ :=
  bif ((((decide (0 ≤ (x0.length : Int))) && (decide ((x0.length : Int) = (x0.length : Int)))) && (decide ((x0.length : Int) * 208 ≤ (maxSl : Int)))) && (decide ((x0.length : Int) ≤ (maxSl : Int)))) then
  letK (α := List Conn) (List.replicate ((x0.length : Int).toNat) (⟨⟨0, 0, 0⟩, 0, ⟨0, [], 0, false, false, false⟩, ⟨0, [], [], 0, false⟩, 0, 0, ⟨0, 0, false, false, 0, 0⟩, 0, 0⟩ : Conn)) fun l1 =>
  optK (loopF w_toConnS_L0_r.step (w_toConnS_L0_fu x0 0 l1) (w_toConnS_L0_mk x0 0 l1)) fail fun w3 =>
    k w3.2.1
  else fail
def w_toConnS (x0 : List Conn) : List Conn :=
  letK (α := List Conn) (List.replicate ((x0.length : Int).toNat) (⟨⟨0, 0, 0⟩, 0, ⟨0, [], 0, false, false, false⟩, ⟨0, [], [], 0, false⟩, 0, 0, ⟨0, 0, false, false, 0, 0⟩, 0, 0⟩ : Conn)) fun l1 =>
  Stp.elim (fun a4 =>
    a4)
    (fun p : Empty => nomatch p)
    (forN (w_toConnS_L0_f x0) 1 (Int.toNat ((x0.length : Int) - 0)) 0 l1)
theorem w_toConnS_lk (x0 : List Conn) : evalFn te (orcOf (P := Try.prog) [w_toConn_e]) (lorcOf [w_toConnS_L0_le]) w_toConnS_ann Try.f124 (pvs [.sc (.sl .conn)] (x0, ())) =
  w_toConnS_N x0 _ none (fun v => some [(false, [RC.own true .conn v])]) := by kernel_rfl
theorem w_toConnS_p (x0 : List Conn) (hx0 : x0.length ≤ 140737488355328) (hx0_e : ∀ y ∈ x0, ∀ c ∈ Ty.cells .conn y, FactC c) (hp : x0.length ≤ 4294967296 ∧ sm_conn x0 = true) (γ : Type) (fail : γ) (k : List Conn → γ) : w_toConnS_N x0 γ fail k = k (w_toConnS x0) := by
  unfold w_toConnS_N w_toConnS
  exact bifG (by (try simp only [Nat.ble_eq, Bool.and_eq_true, decide_eq_true_eq, w_toConnS_L0_mx0]); grind [maxSl, maxStr, toBytes_length, toInts_length, List.length_set, wrap64]) (letT (f := k) (fun l1 hl1 => loopX (f := k) (w_toConnS_L0_cl x0 0 l1 (by (try simp only [Nat.ble_eq, Bool.and_eq_true, decide_eq_true_eq, w_toConnS_L0_mx0]); grind [maxSl, maxStr, toBytes_length, toInts_length, List.length_set, wrap64]) (by (try simp only [Nat.ble_eq, Bool.and_eq_true, decide_eq_true_eq, w_toConnS_L0_mx0]); grind [maxSl, maxStr, toBytes_length, toInts_length, List.length_set, wrap64]) (by (try simp only [Nat.ble_eq, Bool.and_eq_true, decide_eq_true_eq, w_toConnS_L0_mx0]); grind [maxSl, maxStr, toBytes_length, toInts_length, List.length_set, wrap64]) (by (try simp only [Nat.ble_eq, Bool.and_eq_true, decide_eq_true_eq, w_toConnS_L0_mx0]); grind [maxSl, maxStr, toBytes_length, toInts_length, List.length_set, wrap64])) (fun a4 ha4 => have ia4 := w_toConnS_L0_nx x0 0 l1 (by (try simp only [Nat.ble_eq, Bool.and_eq_true, decide_eq_true_eq, w_toConnS_L0_mx0]); grind [maxSl, maxStr, toBytes_length, toInts_length, List.length_set, wrap64]) (by (try simp only [Nat.ble_eq, Bool.and_eq_true, decide_eq_true_eq, w_toConnS_L0_mx0]); grind [maxSl, maxStr, toBytes_length, toInts_length, List.length_set, wrap64]) (by (try simp only [Nat.ble_eq, Bool.and_eq_true, decide_eq_true_eq, w_toConnS_L0_mx0]); grind [maxSl, maxStr, toBytes_length, toInts_length, List.length_set, wrap64]) (by (try simp only [Nat.ble_eq, Bool.and_eq_true, decide_eq_true_eq, w_toConnS_L0_mx0]); grind [maxSl, maxStr, toBytes_length, toInts_length, List.length_set, wrap64]) _ ha4; rfl)
      (fun p : Empty => nomatch p)))
theorem w_toConnS_c (x0 : List Conn) (hp : x0.length ≤ 4294967296 ∧ sm_conn x0 = true) : Con Try.prog 124 (pvs [.sc (.sl .conn)] (x0, ())) [rv (.sc (.sl .conn)) [.o true] (w_toConnS x0)] := by
  refine Con.of_facts (enters_of Try.func124 rfl (by kernel_rfl)) fun hf => ?_
  replace hf := factAt hf
  exact evalFn_conL teFact mixFact (orcOf_ok _) Try.func124 (by kernel_rfl) (bs := [0]) (by kernel_rfl) (by kernel_rfl) (fun w0 mo I0 hmo => ⟨lsem_of_lorc (w_toConnS_L0_ls w0 mo I0 hmo) (by kernel_rfl), trivial⟩) ((w_toConnS_lk x0).trans (w_toConnS_p x0 ((hf 0 0 rfl rfl).len) (fun y hy => (hf 0 0 rfl rfl).elem hy) hp _ _ _))
noncomputable def w_toConnS_e : Ent1 Try.prog := entP 124 [.sc (.sl .conn)] (fun x => (decide (x.1.length ≤ 4294967296 ∧ sm_conn x.1 = true))) (fun x => (w_toConnS x.1)) (fun v => [rv (.sc (.sl .conn)) [.o true] v]) (fun x hx => w_toConnS_c x.1 (of_decide_eq_true hx))


/-- laws.eqConnS -/
def w_eqConnS_ann : List (Nat × Keep) := [(0, ⟨[0, 1, 5], [], false, 0⟩)]
def w_eqConnS_L0_sh : Sh := ⟨[(0, false, [.sl .arg .conn]), (1, false, [.sl .arg .conn]), (5, false, [.int .i64])], []⟩
def w_eqConnS_L0_es : List (Ex × Sh) := [(.ret, ⟨[(4, false, [.bool])], []⟩), (.exit 0, ⟨[(4, false, [.undef])], []⟩)]
def w_eqConnS_L0_mk (v0 : List Conn) (v1 : List Conn) (v2 : Int) : w_eqConnS_L0_sh.T := (((v0, ()), ((v1, ()), ((v2, ()), ()))), ())
def w_eqConnS_L0_mx0 (y0 : Bool) : Sh.T ⟨[(4, false, [.bool])], []⟩ := (((y0, ()), ()), ())
def w_eqConnS_L0_mx1  : Sh.T ⟨[(4, false, [.undef])], []⟩ := ((((), ()), ()), ())
def w_eqConnS_L0_B (v0 : List Conn) (v1 : List Conn) (v2 : Int) (γ : Type) (fail : γ) (next : w_eqConnS_L0_sh.T → γ) (out : WT w_eqConnS_L0_es → γ) : γ :=
  bif (decide (v2 < (v0.length : Int))) then
    bif ((decide (0 ≤ v2)) && (decide (v2 < (v0.length : Int)))) then
    bif ((decide (0 ≤ v2)) && (decide (v2 < (v1.length : Int)))) then
    letK (α := Bool) (w_eqConn (v0.getD v2.toNat (Ty.zero .conn)) (v1.getD v2.toNat (Ty.zero .conn))) fun c1 =>
    bif (!c1) then
      out (Sum.inl (w_eqConnS_L0_mx0 false))
    else
    next (w_eqConnS_L0_mk v0 v1 (IntKind.wrap .i64 (v2 + 1)))
    else fail
    else fail
  else
  out (Sum.inr (w_eqConnS_L0_mx1 ))
theorem w_eqConnS_L0_par (v0 : List Conn) (v1 : List Conn) (v2 : Int) (γ : Type) (fail : γ) (next : w_eqConnS_L0_sh.T → γ) (out : WT w_eqConnS_L0_es → γ) : w_eqConnS_L0_B v0 v1 v2 γ fail next out = optK (w_eqConnS_L0_B v0 v1 v2 _ none (fun v' => some (.inl v')) (fun w => some (.inr w))) fail (fun r => Sum.elim next out r) := by
  unfold w_eqConnS_L0_B
  exact bifT (f := (fun o => optK o fail (fun r => Sum.elim next out r))) (fun _ => bifT (f := (fun o => optK o fail (fun r => Sum.elim next out r))) (fun _ => bifT (f := (fun o => optK o fail (fun r => Sum.elim next out r))) (fun _ => letT (f := (fun o => optK o fail (fun r => Sum.elim next out r))) (fun c1 _ => bifT (f := (fun o => optK o fail (fun r => Sum.elim next out r))) (fun _ => rfl)
      (fun _ => rfl))) (fun _ => rfl)) (fun _ => rfl))
      (fun _ => rfl)
def w_eqConnS_L0_r : Round w_eqConnS_L0_sh.T (WT w_eqConnS_L0_es) where
  B v γ fail next out := w_eqConnS_L0_B v.1.1.1 v.1.2.1.1 v.1.2.2.1.1 γ fail next out
  par v γ fail next out := w_eqConnS_L0_par v.1.1.1 v.1.2.1.1 v.1.2.2.1.1 γ fail next out
def w_eqConnS_L0_fu (v0 : List Conn) (v1 : List Conn) (v2 : Int) : Nat := (Int.toNat ((v0.length : Int) - v2)) + 1
theorem w_eqConnS_L0_lk (v : w_eqConnS_L0_sh.T) (next : St → Option Res) (k : Ex → St → Option Res) : evalK te (orcOf (P := Try.prog) [w_eqConn_e]) (lorcOf []) Try.f128.ntmps w_eqConnS_ann (nthLoop (bodyOf Try.f128) 0 0) 0 (w_eqConnS_L0_sh.enc v) (endK ⟨[0, 1, 5], [], false, 0⟩ ⟨[4], [], false, 0⟩ next k) =
  w_eqConnS_L0_r.B v _ none (fun v' => next (w_eqConnS_L0_sh.enc v')) (fun w => outK w_eqConnS_L0_es k w) := by kernel_rfl
def w_eqConnS_L0_le : LE := leOf 0 w_eqConnS_L0_sh w_eqConnS_L0_es w_eqConnS_L0_r.step (fun v => w_eqConnS_L0_fu v.1.1.1 v.1.2.1.1 v.1.2.2.1.1)
theorem w_eqConnS_L0_ls (w0 : World) (mo : Mts) (I0 : Nat → Prop) (hmo : mo.length = 0) : LSem Try.prog (Sim w0 mo Try.f128.ntmps I0) (fun b s k => match Nat.beq 0 b with | true => w_eqConnS_L0_le.run s k | false => none) 0 (nthLoop (bodyOf Try.f128) 0 0) :=
  le_sem hmo (lorc := lorcOf []) (ann := w_eqConnS_ann) (keep := ⟨[0, 1, 5], [], false, 0⟩) (kout := ⟨[4], [], false, 0⟩) teFact mixFact (orcOf_ok _) (by kernel_rfl) (allLoops_of (bs := []) (by kernel_rfl) trivial) w_eqConnS_L0_r _ w_eqConnS_L0_lk
def w_eqConnS_L0_f (v0 : List Conn) (v1 : List Conn) (v2 : Int) (a : Unit) : Stp (Unit) ((Unit)) :=
  letK (α := Bool) (w_eqConn (v0.getD v2.toNat (Ty.zero .conn)) (v1.getD v2.toNat (Ty.zero .conn))) fun c1 =>
  bif (!c1) then
    .out (())
  else
  .next ()
theorem w_eqConnS_L0_st (v0 : List Conn) (v1 : List Conn) (v2 : Int) (hlo : 0 ≤ v2) (hhi : v2 < (v0.length : Int)) (hN : (v0.length : Int) ≤ 4611686018427387904) (hi0 : (v0.length : Int) ≤ (v1.length : Int)) : w_eqConnS_L0_r.step (w_eqConnS_L0_mk v0 v1 v2) = Stp.elim (fun a' : Unit => some (Sum.inl (w_eqConnS_L0_mk v0 v1 (v2 + 1)))) (fun w => some (Sum.inr ((fun p : Unit => Sum.inl (w_eqConnS_L0_mx0 false)) w))) (w_eqConnS_L0_f v0 v1 v2 ()) := by
  have hw : (IntKind.wrap .i64 (v2 + 1)) = v2 + 1 := wrap64 (by omega) (by omega)
  show w_eqConnS_L0_B v0 v1 v2 (Option (w_eqConnS_L0_sh.T ⊕ WT w_eqConnS_L0_es)) none (fun v' => some (Sum.inl v')) (fun w => some (Sum.inr w)) = _
  unfold w_eqConnS_L0_B w_eqConnS_L0_f
  exact bifG (by simp only [decide_eq_true_eq]; omega) (bifG (by (try simp only [Nat.ble_eq, Bool.and_eq_true, decide_eq_true_eq]); grind [maxSl, maxStr, toBytes_length, toInts_length, List.length_set, wrap64]) (bifG (by (try simp only [Nat.ble_eq, Bool.and_eq_true, decide_eq_true_eq]); grind [maxSl, maxStr, toBytes_length, toInts_length, List.length_set, wrap64]) (letT (f := (Stp.elim (fun a' : Unit => some (Sum.inl (w_eqConnS_L0_mk v0 v1 (v2 + 1)))) (fun w => some (Sum.inr ((fun p : Unit => Sum.inl (w_eqConnS_L0_mx0 false)) w))))) (fun c1 hc1 => bifT (f := (Stp.elim (fun a' : Unit => some (Sum.inl (w_eqConnS_L0_mk v0 v1 (v2 + 1)))) (fun w => some (Sum.inr ((fun p : Unit => Sum.inl (w_eqConnS_L0_mx0 false)) w))))) (fun b0 => rfl)
      (fun b0 => (by exact congrArg (fun z => some (Sum.inl (w_eqConnS_L0_mk v0 v1 z))) hw))))))
theorem w_eqConnS_L0_cl (v0 : List Conn) (v1 : List Conn) (v2 : Int) (h0 : 0 ≤ v2) (h1 : (v0.length : Int) ≤ 4611686018427387904) (h2 : (v0.length : Int) ≤ (v1.length : Int)) : loopF w_eqConnS_L0_r.step (w_eqConnS_L0_fu v0 v1 v2) (w_eqConnS_L0_mk v0 v1 v2) = some (Stp.elim (fun a => (fun i a => Sum.inr (w_eqConnS_L0_mx1 )) (v2 + 1 * (((Int.toNat ((v0.length : Int) - v2)) : Nat) : Int)) a) (fun p : Unit => Sum.inl (w_eqConnS_L0_mx0 false)) (forN (w_eqConnS_L0_f v0 v1) 1 (Int.toNat ((v0.length : Int) - v2)) v2 ())) :=
  forN_loop (step := w_eqConnS_L0_r.step) (mk := fun v2 a => w_eqConnS_L0_mk v0 v1 v2) (f := w_eqConnS_L0_f v0 v1) (e := (fun i a => Sum.inr (w_eqConnS_L0_mx1 ))) (emb := (fun p : Unit => Sum.inl (w_eqConnS_L0_mx0 false))) (st := 1) (Inv := fun v2 a => True) (Int.toNat ((v0.length : Int) - v2)) v2 () _ (Nat.lt_succ_self _) trivial
    (fun j a hj hv => ⟨w_eqConnS_L0_st v0 v1 (v2 + 1 * (j : Int)) (by omega) (by omega) (by omega) h2, fun _ _ => trivial⟩)
    (fun a hv => by
      show w_eqConnS_L0_B v0 v1 (v2 + 1 * (((Int.toNat ((v0.length : Int) - v2)) : Nat) : Int)) (Option (w_eqConnS_L0_sh.T ⊕ WT w_eqConnS_L0_es)) none (fun v' => some (Sum.inl v')) (fun w => some (Sum.inr w)) = _
      unfold w_eqConnS_L0_B
      exact bifN (by simp only [decide_eq_false_iff_not]; omega) rfl)
def w_eqConnS_N (x0 : List Conn) (x1 : List Conn) (γ : Type) (fail : γ) (k : Bool → γ) : γ :=
  bif ((x0.length : Int) != (x1.length : Int)) then
    k false
  else
  optK (loopF w_eqConnS_L0_r.step (w_eqConnS_L0_fu x0 x1 0) (w_eqConnS_L0_mk x0 x1 0)) fail fun w2 =>
    Sum.elim (fun w2 =>
      k w2.1.1.1)
    (fun w2 =>
      k true) w2
def w_eqConnS (x0 : List Conn) (x1 : List Conn) : Bool :=
  bif ((x0.length : Int) != (x1.length : Int)) then
    false
  else
  Stp.elim (fun a3 =>
    true)
    (fun p3 =>
      false)
    (forN (w_eqConnS_L0_f x0 x1) 1 (Int.toNat ((x0.length : Int) - 0)) 0 ())
theorem w_eqConnS_lk (x0 : List Conn) (x1 : List Conn) : evalFn te (orcOf (P := Try.prog) [w_eqConn_e]) (lorcOf [w_eqConnS_L0_le]) w_eqConnS_ann Try.f128 (pvs [.sc (.sl .conn), .sc (.sl .conn)] (x0, x1, ())) =
  w_eqConnS_N x0 x1 _ none (fun v => some [(false, [RC.c (.bool v)])]) := by kernel_rfl
theorem w_eqConnS_p (x0 : List Conn) (x1 : List Conn) (hx0 : x0.length ≤ 140737488355328) (hx0_e : ∀ y ∈ x0, ∀ c ∈ Ty.cells .conn y, FactC c) (hx1 : x1.length ≤ 140737488355328) (hx1_e : ∀ y ∈ x1, ∀ c ∈ Ty.cells .conn y, FactC c)  (γ : Type) (fail : γ) (k : Bool → γ) : w_eqConnS_N x0 x1 γ fail k = k (w_eqConnS x0 x1) := by
  unfold w_eqConnS_N w_eqConnS
  exact bifT (f := k) (fun b0 => rfl)
      (fun b0 => loopT (f := k) (w_eqConnS_L0_cl x0 x1 0 (by (try simp only [Nat.ble_eq, Bool.and_eq_true, decide_eq_true_eq, w_eqConnS_L0_mx0, w_eqConnS_L0_mx1]); grind [maxSl, maxStr, toBytes_length, toInts_length, List.length_set, wrap64]) (by (try simp only [Nat.ble_eq, Bool.and_eq_true, decide_eq_true_eq, w_eqConnS_L0_mx0, w_eqConnS_L0_mx1]); grind [maxSl, maxStr, toBytes_length, toInts_length, List.length_set, wrap64]) (by (try simp only [Nat.ble_eq, Bool.and_eq_true, decide_eq_true_eq, w_eqConnS_L0_mx0, w_eqConnS_L0_mx1]); grind [maxSl, maxStr, toBytes_length, toInts_length, List.length_set, wrap64])) (fun a3 => rfl)
      (fun p3 => rfl))
theorem w_eqConnS_c (x0 : List Conn) (x1 : List Conn)  : Con Try.prog 128 (pvs [.sc (.sl .conn), .sc (.sl .conn)] (x0, x1, ())) [rv (.sc .bool) [] (w_eqConnS x0 x1)] := by
  refine Con.of_facts (enters_of Try.func128 rfl (by kernel_rfl)) fun hf => ?_
  replace hf := factAt hf
  exact evalFn_conL teFact mixFact (orcOf_ok _) Try.func128 (by kernel_rfl) (bs := [0]) (by kernel_rfl) (by kernel_rfl) (fun w0 mo I0 hmo => ⟨lsem_of_lorc (w_eqConnS_L0_ls w0 mo I0 hmo) (by kernel_rfl), trivial⟩) ((w_eqConnS_lk x0 x1).trans (w_eqConnS_p x0 x1 ((hf 0 0 rfl rfl).len) (fun y hy => (hf 0 0 rfl rfl).elem hy) ((hf 1 0 rfl rfl).len) (fun y hy => (hf 1 0 rfl rfl).elem hy) _ _ _))
noncomputable def w_eqConnS_e : Ent1 Try.prog := entA 128 [.sc (.sl .conn), .sc (.sl .conn)] (fun x => (w_eqConnS x.1 x.2.1)) (fun v => [rv (.sc .bool) [] v]) (fun x => w_eqConnS_c x.1 x.2.1)


/-- impl.SameStack -/
def i_SameStack_N (x0 : Stac) (x1 : Stac) (γ : Type) (fail : γ) (k : Bool → γ) : γ :=
  letK (α := Bool) (i_SameLink x0.link x1.link) fun c1 =>
  bif c1 then
    letK (α := Bool) (i_SameDoor x0.door x1.door) fun c2 =>
    k c2
  else
  k false
def i_SameStack (x0 : Stac) (x1 : Stac) : Bool :=
  letK (α := Bool) (i_SameLink x0.link x1.link) fun c1 =>
  bif c1 then
    letK (α := Bool) (i_SameDoor x0.door x1.door) fun c2 =>
    c2
  else
  false
theorem i_SameStack_lk (x0 : Stac) (x1 : Stac) : evalFn te (orcOf (P := Try.prog) [i_SameLink_e, i_SameDoor_e]) lorc0 [] Try.f31 (pvs [.st .stac, .st .stac] (x0, x1, ())) =
  i_SameStack_N x0 x1 _ none (fun v => some [(false, [RC.c (.bool v)])]) := by kernel_rfl
theorem i_SameStack_p (x0 : Stac) (x1 : Stac)   (γ : Type) (fail : γ) (k : Bool → γ) : i_SameStack_N x0 x1 γ fail k = k (i_SameStack x0 x1) := by
  unfold i_SameStack_N i_SameStack
  exact letT (f := k) (fun c1 hc1 => bifT (f := k) (fun b0 => letT (f := k) (fun c2 hc2 => rfl))
      (fun b0 => rfl))
theorem i_SameStack_c (x0 : Stac) (x1 : Stac)  : Con Try.prog 31 (pvs [.st .stac, .st .stac] (x0, x1, ())) [rv (.sc .bool) [] (i_SameStack x0 x1)] := by
  exact evalFn_con0 teFact mixFact (orcOf_ok _) Try.func31 (by kernel_rfl) ((i_SameStack_lk x0 x1).trans (i_SameStack_p x0 x1  _ _ _))
noncomputable def i_SameStack_e : Ent1 Try.prog := entA 31 [.st .stac, .st .stac] (fun x => (i_SameStack x.1 x.2.1)) (fun v => [rv (.sc .bool) [] v]) (fun x => i_SameStack_c x.1 x.2.1)


/-- laws.toTable -/
def w_toTable_N (x0 : Tabl) (γ : Type) (fail : γ) (k : Tabl → γ) : γ :=
  bif (decide (x0.conns.length ≤ 4294967296 ∧ sm_conn x0.conns = true)) then
  letK (α := List Conn) (w_toConnS x0.conns) fun c1 =>
  bif (decide (x0.waiting.length ≤ 4294967296)) then
  letK (α := List Tupl) (w_toTupleS x0.waiting) fun c2 =>
  k (⟨c1, c2⟩ : Tabl)
  else fail
  else fail
def w_toTable (x0 : Tabl) : Tabl :=
  letK (α := List Conn) (w_toConnS x0.conns) fun c1 =>
  letK (α := List Tupl) (w_toTupleS x0.waiting) fun c2 =>
  (⟨c1, c2⟩ : Tabl)
theorem w_toTable_lk (x0 : Tabl) : evalFn te (orcOf (P := Try.prog) [w_toConnS_e, w_toTupleS_e]) lorc0 [] Try.f75 (pvs [.st .tabl] (x0, ())) =
  w_toTable_N x0 _ none (fun v => some [(true, [RC.own true .conn v.conns, RC.own true .tupl v.waiting])]) := by kernel_rfl
theorem w_toTable_p (x0 : Tabl) (hx0_conns : x0.conns.length ≤ 140737488355328) (hx0_conns_e : ∀ y ∈ x0.conns, ∀ c ∈ Ty.cells .conn y, FactC c) (hx0_waiting : x0.waiting.length ≤ 140737488355328) (hp : x0.conns.length ≤ 4294967296 ∧ sm_conn x0.conns = true ∧ x0.waiting.length ≤ 4294967296) (γ : Type) (fail : γ) (k : Tabl → γ) : w_toTable_N x0 γ fail k = k (w_toTable x0) := by
  unfold w_toTable_N w_toTable
  exact bifG (by (try simp only [Nat.ble_eq, Bool.and_eq_true, decide_eq_true_eq]); grind [maxSl, maxStr, toBytes_length, toInts_length, List.length_set, wrap64]) (letT (f := k) (fun c1 hc1 => bifG (by (try simp only [Nat.ble_eq, Bool.and_eq_true, decide_eq_true_eq]); grind [maxSl, maxStr, toBytes_length, toInts_length, List.length_set, wrap64]) (letT (f := k) (fun c2 hc2 => rfl))))
theorem w_toTable_c (x0 : Tabl) (hp : x0.conns.length ≤ 4294967296 ∧ sm_conn x0.conns = true ∧ x0.waiting.length ≤ 4294967296) : Con Try.prog 75 (pvs [.st .tabl] (x0, ())) [rv (.st .tabl) [.o true, .o true] (w_toTable x0)] := by
  refine Con.of_facts (enters_of Try.func75 rfl (by kernel_rfl)) fun hf => ?_
  replace hf := factAt hf
  exact evalFn_con0 teFact mixFact (orcOf_ok _) Try.func75 (by kernel_rfl) ((w_toTable_lk x0).trans (w_toTable_p x0 ((hf 0 0 rfl rfl).len) (fun y hy => (hf 0 0 rfl rfl).elem hy) ((hf 0 1 rfl rfl).len) hp _ _ _))
noncomputable def w_toTable_e : Ent1 Try.prog := entP 75 [.st .tabl] (fun x => (decide (x.1.conns.length ≤ 4294967296 ∧ sm_conn x.1.conns = true ∧ x.1.waiting.length ≤ 4294967296))) (fun x => (w_toTable x.1)) (fun v => [rv (.st .tabl) [.o true, .o true] v]) (fun x hx => w_toTable_c x.1 (of_decide_eq_true hx))


/-- laws.eqTable -/
def w_eqTable_N (x0 : Tabl) (x1 : Tabl) (γ : Type) (fail : γ) (k : Bool → γ) : γ :=
  letK (α := Bool) (w_eqConnS x0.conns x1.conns) fun c1 =>
  bif (!c1) then
    k false
  else
  letK (α := Bool) (w_eqTupleS x0.waiting x1.waiting) fun c2 =>
  bif (!c2) then
    k false
  else
  k true
def w_eqTable (x0 : Tabl) (x1 : Tabl) : Bool :=
  letK (α := Bool) (w_eqConnS x0.conns x1.conns) fun c1 =>
  bif (!c1) then
    false
  else
  letK (α := Bool) (w_eqTupleS x0.waiting x1.waiting) fun c2 =>
  bif (!c2) then
    false
  else
  true
theorem w_eqTable_lk (x0 : Tabl) (x1 : Tabl) : evalFn te (orcOf (P := Try.prog) [w_eqConnS_e, w_eqTupleS_e]) lorc0 [] Try.f79 (pvs [.st .tabl, .st .tabl] (x0, x1, ())) =
  w_eqTable_N x0 x1 _ none (fun v => some [(false, [RC.c (.bool v)])]) := by kernel_rfl
theorem w_eqTable_p (x0 : Tabl) (x1 : Tabl)   (γ : Type) (fail : γ) (k : Bool → γ) : w_eqTable_N x0 x1 γ fail k = k (w_eqTable x0 x1) := by
  unfold w_eqTable_N w_eqTable
  exact letT (f := k) (fun c1 hc1 => bifT (f := k) (fun b0 => rfl)
      (fun b0 => letT (f := k) (fun c2 hc2 => bifT (f := k) (fun b1 => rfl)
      (fun b1 => rfl))))
theorem w_eqTable_c (x0 : Tabl) (x1 : Tabl)  : Con Try.prog 79 (pvs [.st .tabl, .st .tabl] (x0, x1, ())) [rv (.sc .bool) [] (w_eqTable x0 x1)] := by
  exact evalFn_con0 teFact mixFact (orcOf_ok _) Try.func79 (by kernel_rfl) ((w_eqTable_lk x0 x1).trans (w_eqTable_p x0 x1  _ _ _))
noncomputable def w_eqTable_e : Ent1 Try.prog := entA 79 [.st .tabl, .st .tabl] (fun x => (w_eqTable x.1 x.2.1)) (fun v => [rv (.sc .bool) [] v]) (fun x => w_eqTable_c x.1 x.2.1)


/-- laws.toDoor -/
def w_toDoor_N (x0 : Door) (γ : Type) (fail : γ) (k : Door → γ) : γ :=
  bif (decide (x0.keys.now.rows.length ≤ 4294967296 ∧ x0.keys.before.rows.length ≤ 4294967296)) then
  letK (α := Keys) (w_toKeys x0.keys) fun c1 =>
  letK (α := Limi) (w_toLimits x0.limits) fun c2 =>
  bif (decide (x0.halves.length ≤ 4294967296)) then
  letK (α := List Half) (w_toHalfS x0.halves) fun c3 =>
  bif (decide (x0.table.conns.length ≤ 4294967296 ∧ sm_conn x0.table.conns = true ∧ x0.table.waiting.length ≤ 4294967296)) then
  letK (α := Tabl) (w_toTable x0.table) fun c4 =>
  k (⟨x0.port, x0.clock, c1, c2, c3, c4, x0.chal⟩ : Door)
  else fail
  else fail
  else fail
def w_toDoor (x0 : Door) : Door :=
  letK (α := Keys) (w_toKeys x0.keys) fun c1 =>
  letK (α := Limi) (w_toLimits x0.limits) fun c2 =>
  letK (α := List Half) (w_toHalfS x0.halves) fun c3 =>
  letK (α := Tabl) (w_toTable x0.table) fun c4 =>
  (⟨x0.port, x0.clock, c1, c2, c3, c4, x0.chal⟩ : Door)
theorem w_toDoor_lk (x0 : Door) : evalFn te (orcOf (P := Try.prog) [w_toKeys_e, w_toLimits_e, w_toHalfS_e, w_toTable_e]) lorc0 [] Try.f25 (pvs [.st .door] (x0, ())) =
  w_toDoor_N x0 _ none (fun v => some [(true, [RC.c (.int .i64 v.port), RC.c (.int .i64 v.clock), RC.c (.int .i64 v.keys.epoch), RC.c (.bool v.keys.now.use), RC.c (.int .u64 v.keys.now.k), RC.c (.int .u64 v.keys.now.l), RC.own true .macRow v.keys.now.rows, RC.c (.bool v.keys.before.use), RC.c (.int .u64 v.keys.before.k), RC.c (.int .u64 v.keys.before.l), RC.own true .macRow v.keys.before.rows, RC.c (.bool v.keys.two), RC.c (.int .i64 v.limits.halves), RC.c (.int .i64 v.limits.waiting), RC.c (.int .i64 v.limits.conns), RC.c (.int .i64 v.limits.chal), RC.own true .half v.halves, RC.own true .conn v.table.conns, RC.own true .tupl v.table.waiting, RC.c (.int .i64 v.chal)])]) := by kernel_rfl
theorem w_toDoor_p (x0 : Door) (hx0_port : inK .i64 x0.port) (hx0_clock : inK .i64 x0.clock) (hx0_keys_epoch : inK .i64 x0.keys.epoch) (hx0_keys_now_k : inK .u64 x0.keys.now.k) (hx0_keys_now_l : inK .u64 x0.keys.now.l) (hx0_keys_now_rows : x0.keys.now.rows.length ≤ 140737488355328) (hx0_keys_now_rows_e : ∀ y ∈ x0.keys.now.rows, ∀ c ∈ Ty.cells .macRow y, FactC c) (hx0_keys_before_k : inK .u64 x0.keys.before.k) (hx0_keys_before_l : inK .u64 x0.keys.before.l) (hx0_keys_before_rows : x0.keys.before.rows.length ≤ 140737488355328) (hx0_keys_before_rows_e : ∀ y ∈ x0.keys.before.rows, ∀ c ∈ Ty.cells .macRow y, FactC c) (hx0_limits_halves : inK .i64 x0.limits.halves) (hx0_limits_waiting : inK .i64 x0.limits.waiting) (hx0_limits_conns : inK .i64 x0.limits.conns) (hx0_limits_chal : inK .i64 x0.limits.chal) (hx0_halves : x0.halves.length ≤ 140737488355328) (hx0_table_conns : x0.table.conns.length ≤ 140737488355328) (hx0_table_conns_e : ∀ y ∈ x0.table.conns, ∀ c ∈ Ty.cells .conn y, FactC c) (hx0_table_waiting : x0.table.waiting.length ≤ 140737488355328) (hx0_chal : inK .i64 x0.chal) (hp : x0.keys.now.rows.length ≤ 4294967296 ∧ x0.keys.before.rows.length ≤ 4294967296 ∧ x0.halves.length ≤ 4294967296 ∧ x0.table.conns.length ≤ 4294967296 ∧ sm_conn x0.table.conns = true ∧ x0.table.waiting.length ≤ 4294967296) (γ : Type) (fail : γ) (k : Door → γ) : w_toDoor_N x0 γ fail k = k (w_toDoor x0) := by
  unfold w_toDoor_N w_toDoor
  exact bifG (by (try simp only [Nat.ble_eq, Bool.and_eq_true, decide_eq_true_eq]); grind [maxSl, maxStr, toBytes_length, toInts_length, List.length_set, wrap64]) (letT (f := k) (fun c1 hc1 => letT (f := k) (fun c2 hc2 => bifG (by (try simp only [Nat.ble_eq, Bool.and_eq_true, decide_eq_true_eq]); grind [maxSl, maxStr, toBytes_length, toInts_length, List.length_set, wrap64]) (letT (f := k) (fun c3 hc3 => bifG (by (try simp only [Nat.ble_eq, Bool.and_eq_true, decide_eq_true_eq]); grind [maxSl, maxStr, toBytes_length, toInts_length, List.length_set, wrap64]) (letT (f := k) (fun c4 hc4 => rfl)))))))
theorem w_toDoor_c (x0 : Door) (hp : x0.keys.now.rows.length ≤ 4294967296 ∧ x0.keys.before.rows.length ≤ 4294967296 ∧ x0.halves.length ≤ 4294967296 ∧ x0.table.conns.length ≤ 4294967296 ∧ sm_conn x0.table.conns = true ∧ x0.table.waiting.length ≤ 4294967296) : Con Try.prog 25 (pvs [.st .door] (x0, ())) [rv (.st .door) [.c, .c, .c, .c, .c, .c, .o true, .c, .c, .c, .o true, .c, .c, .c, .c, .c, .o true, .o true, .o true, .c] (w_toDoor x0)] := by
  refine Con.of_facts (enters_of Try.func25 rfl (by kernel_rfl)) fun hf => ?_
  replace hf := factAt hf
  exact evalFn_con0 teFact mixFact (orcOf_ok _) Try.func25 (by kernel_rfl) ((w_toDoor_lk x0).trans (w_toDoor_p x0 ((hf 0 0 rfl rfl).rng) ((hf 0 1 rfl rfl).rng) ((hf 0 2 rfl rfl).rng) ((hf 0 4 rfl rfl).rng) ((hf 0 5 rfl rfl).rng) ((hf 0 6 rfl rfl).len) (fun y hy => (hf 0 6 rfl rfl).elem hy) ((hf 0 8 rfl rfl).rng) ((hf 0 9 rfl rfl).rng) ((hf 0 10 rfl rfl).len) (fun y hy => (hf 0 10 rfl rfl).elem hy) ((hf 0 12 rfl rfl).rng) ((hf 0 13 rfl rfl).rng) ((hf 0 14 rfl rfl).rng) ((hf 0 15 rfl rfl).rng) ((hf 0 16 rfl rfl).len) ((hf 0 17 rfl rfl).len) (fun y hy => (hf 0 17 rfl rfl).elem hy) ((hf 0 18 rfl rfl).len) ((hf 0 19 rfl rfl).rng) hp _ _ _))
noncomputable def w_toDoor_e : Ent1 Try.prog := entP 25 [.st .door] (fun x => (decide (x.1.keys.now.rows.length ≤ 4294967296 ∧ x.1.keys.before.rows.length ≤ 4294967296 ∧ x.1.halves.length ≤ 4294967296 ∧ x.1.table.conns.length ≤ 4294967296 ∧ sm_conn x.1.table.conns = true ∧ x.1.table.waiting.length ≤ 4294967296))) (fun x => (w_toDoor x.1)) (fun v => [rv (.st .door) [.c, .c, .c, .c, .c, .c, .o true, .c, .c, .c, .o true, .c, .c, .c, .c, .c, .o true, .o true, .o true, .c] v]) (fun x hx => w_toDoor_c x.1 (of_decide_eq_true hx))


/-- laws.eqDoor -/
def w_eqDoor_N (x0 : Door) (x1 : Door) (γ : Type) (fail : γ) (k : Bool → γ) : γ :=
  bif (x0.port != x1.port) then
    k false
  else
  bif (x0.clock != x1.clock) then
    k false
  else
  letK (α := Bool) (w_eqKeys x0.keys x1.keys) fun c1 =>
  bif (!c1) then
    k false
  else
  letK (α := Bool) (w_eqLimits x0.limits x1.limits) fun c2 =>
  bif (!c2) then
    k false
  else
  letK (α := Bool) (w_eqHalfS x0.halves x1.halves) fun c3 =>
  bif (!c3) then
    k false
  else
  letK (α := Bool) (w_eqTable x0.table x1.table) fun c4 =>
  bif (!c4) then
    k false
  else
  bif (x0.chal != x1.chal) then
    k false
  else
  k true
def w_eqDoor (x0 : Door) (x1 : Door) : Bool :=
  bif (x0.port != x1.port) then
    false
  else
  bif (x0.clock != x1.clock) then
    false
  else
  letK (α := Bool) (w_eqKeys x0.keys x1.keys) fun c1 =>
  bif (!c1) then
    false
  else
  letK (α := Bool) (w_eqLimits x0.limits x1.limits) fun c2 =>
  bif (!c2) then
    false
  else
  letK (α := Bool) (w_eqHalfS x0.halves x1.halves) fun c3 =>
  bif (!c3) then
    false
  else
  letK (α := Bool) (w_eqTable x0.table x1.table) fun c4 =>
  bif (!c4) then
    false
  else
  bif (x0.chal != x1.chal) then
    false
  else
  true
theorem w_eqDoor_lk (x0 : Door) (x1 : Door) : evalFn te (orcOf (P := Try.prog) [w_eqKeys_e, w_eqLimits_e, w_eqHalfS_e, w_eqTable_e]) lorc0 [] Try.f27 (pvs [.st .door, .st .door] (x0, x1, ())) =
  w_eqDoor_N x0 x1 _ none (fun v => some [(false, [RC.c (.bool v)])]) := by kernel_rfl
theorem w_eqDoor_p (x0 : Door) (x1 : Door)   (γ : Type) (fail : γ) (k : Bool → γ) : w_eqDoor_N x0 x1 γ fail k = k (w_eqDoor x0 x1) := by
  unfold w_eqDoor_N w_eqDoor
  exact bifT (f := k) (fun b0 => rfl)
      (fun b0 => bifT (f := k) (fun b1 => rfl)
      (fun b1 => letT (f := k) (fun c1 hc1 => bifT (f := k) (fun b2 => rfl)
      (fun b2 => letT (f := k) (fun c2 hc2 => bifT (f := k) (fun b3 => rfl)
      (fun b3 => letT (f := k) (fun c3 hc3 => bifT (f := k) (fun b4 => rfl)
      (fun b4 => letT (f := k) (fun c4 hc4 => bifT (f := k) (fun b5 => rfl)
      (fun b5 => bifT (f := k) (fun b6 => rfl)
      (fun b6 => rfl)))))))))))
theorem w_eqDoor_c (x0 : Door) (x1 : Door)  : Con Try.prog 27 (pvs [.st .door, .st .door] (x0, x1, ())) [rv (.sc .bool) [] (w_eqDoor x0 x1)] := by
  exact evalFn_con0 teFact mixFact (orcOf_ok _) Try.func27 (by kernel_rfl) ((w_eqDoor_lk x0 x1).trans (w_eqDoor_p x0 x1  _ _ _))
noncomputable def w_eqDoor_e : Ent1 Try.prog := entA 27 [.st .door, .st .door] (fun x => (w_eqDoor x.1 x.2.1)) (fun v => [rv (.sc .bool) [] v]) (fun x => w_eqDoor_c x.1 x.2.1)


/-- laws.toStack -/
def w_toStack_N (x0 : Stac) (γ : Type) (fail : γ) (k : Stac → γ) : γ :=
  bif (decide (x0.link.cache.length ≤ 4294967296)) then
  letK (α := Link) (w_toLink x0.link) fun c1 =>
  bif (decide (x0.door.keys.now.rows.length ≤ 4294967296 ∧ x0.door.keys.before.rows.length ≤ 4294967296 ∧ x0.door.halves.length ≤ 4294967296 ∧ x0.door.table.conns.length ≤ 4294967296 ∧ sm_conn x0.door.table.conns = true ∧ x0.door.table.waiting.length ≤ 4294967296)) then
  letK (α := Door) (w_toDoor x0.door) fun c2 =>
  k (⟨c1, c2⟩ : Stac)
  else fail
  else fail
def w_toStack (x0 : Stac) : Stac :=
  letK (α := Link) (w_toLink x0.link) fun c1 =>
  letK (α := Door) (w_toDoor x0.door) fun c2 =>
  (⟨c1, c2⟩ : Stac)
theorem w_toStack_lk (x0 : Stac) : evalFn te (orcOf (P := Try.prog) [w_toLink_e, w_toDoor_e]) lorc0 [] Try.f30 (pvs [.st .stac] (x0, ())) =
  w_toStack_N x0 _ none (fun v => some [(true, [RC.c (.int .i64 v.link.mac), RC.c (.int .i64 v.link.ip), RC.own true .entr v.link.cache, RC.c (.int .i64 v.door.port), RC.c (.int .i64 v.door.clock), RC.c (.int .i64 v.door.keys.epoch), RC.c (.bool v.door.keys.now.use), RC.c (.int .u64 v.door.keys.now.k), RC.c (.int .u64 v.door.keys.now.l), RC.own true .macRow v.door.keys.now.rows, RC.c (.bool v.door.keys.before.use), RC.c (.int .u64 v.door.keys.before.k), RC.c (.int .u64 v.door.keys.before.l), RC.own true .macRow v.door.keys.before.rows, RC.c (.bool v.door.keys.two), RC.c (.int .i64 v.door.limits.halves), RC.c (.int .i64 v.door.limits.waiting), RC.c (.int .i64 v.door.limits.conns), RC.c (.int .i64 v.door.limits.chal), RC.own true .half v.door.halves, RC.own true .conn v.door.table.conns, RC.own true .tupl v.door.table.waiting, RC.c (.int .i64 v.door.chal)])]) := by kernel_rfl
theorem w_toStack_p (x0 : Stac) (hx0_link_mac : inK .i64 x0.link.mac) (hx0_link_ip : inK .i64 x0.link.ip) (hx0_link_cache : x0.link.cache.length ≤ 140737488355328) (hx0_door_port : inK .i64 x0.door.port) (hx0_door_clock : inK .i64 x0.door.clock) (hx0_door_keys_epoch : inK .i64 x0.door.keys.epoch) (hx0_door_keys_now_k : inK .u64 x0.door.keys.now.k) (hx0_door_keys_now_l : inK .u64 x0.door.keys.now.l) (hx0_door_keys_now_rows : x0.door.keys.now.rows.length ≤ 140737488355328) (hx0_door_keys_now_rows_e : ∀ y ∈ x0.door.keys.now.rows, ∀ c ∈ Ty.cells .macRow y, FactC c) (hx0_door_keys_before_k : inK .u64 x0.door.keys.before.k) (hx0_door_keys_before_l : inK .u64 x0.door.keys.before.l) (hx0_door_keys_before_rows : x0.door.keys.before.rows.length ≤ 140737488355328) (hx0_door_keys_before_rows_e : ∀ y ∈ x0.door.keys.before.rows, ∀ c ∈ Ty.cells .macRow y, FactC c) (hx0_door_limits_halves : inK .i64 x0.door.limits.halves) (hx0_door_limits_waiting : inK .i64 x0.door.limits.waiting) (hx0_door_limits_conns : inK .i64 x0.door.limits.conns) (hx0_door_limits_chal : inK .i64 x0.door.limits.chal) (hx0_door_halves : x0.door.halves.length ≤ 140737488355328) (hx0_door_table_conns : x0.door.table.conns.length ≤ 140737488355328) (hx0_door_table_conns_e : ∀ y ∈ x0.door.table.conns, ∀ c ∈ Ty.cells .conn y, FactC c) (hx0_door_table_waiting : x0.door.table.waiting.length ≤ 140737488355328) (hx0_door_chal : inK .i64 x0.door.chal) (hp : x0.link.cache.length ≤ 4294967296 ∧ x0.door.keys.now.rows.length ≤ 4294967296 ∧ x0.door.keys.before.rows.length ≤ 4294967296 ∧ x0.door.halves.length ≤ 4294967296 ∧ x0.door.table.conns.length ≤ 4294967296 ∧ sm_conn x0.door.table.conns = true ∧ x0.door.table.waiting.length ≤ 4294967296) (γ : Type) (fail : γ) (k : Stac → γ) : w_toStack_N x0 γ fail k = k (w_toStack x0) := by
  unfold w_toStack_N w_toStack
  exact bifG (by (try simp only [Nat.ble_eq, Bool.and_eq_true, decide_eq_true_eq]); grind [maxSl, maxStr, toBytes_length, toInts_length, List.length_set, wrap64]) (letT (f := k) (fun c1 hc1 => bifG (by (try simp only [Nat.ble_eq, Bool.and_eq_true, decide_eq_true_eq]); grind [maxSl, maxStr, toBytes_length, toInts_length, List.length_set, wrap64]) (letT (f := k) (fun c2 hc2 => rfl))))
theorem w_toStack_c (x0 : Stac) (hp : x0.link.cache.length ≤ 4294967296 ∧ x0.door.keys.now.rows.length ≤ 4294967296 ∧ x0.door.keys.before.rows.length ≤ 4294967296 ∧ x0.door.halves.length ≤ 4294967296 ∧ x0.door.table.conns.length ≤ 4294967296 ∧ sm_conn x0.door.table.conns = true ∧ x0.door.table.waiting.length ≤ 4294967296) : Con Try.prog 30 (pvs [.st .stac] (x0, ())) [rv (.st .stac) [.c, .c, .o true, .c, .c, .c, .c, .c, .c, .o true, .c, .c, .c, .o true, .c, .c, .c, .c, .c, .o true, .o true, .o true, .c] (w_toStack x0)] := by
  refine Con.of_facts (enters_of Try.func30 rfl (by kernel_rfl)) fun hf => ?_
  replace hf := factAt hf
  exact evalFn_con0 teFact mixFact (orcOf_ok _) Try.func30 (by kernel_rfl) ((w_toStack_lk x0).trans (w_toStack_p x0 ((hf 0 0 rfl rfl).rng) ((hf 0 1 rfl rfl).rng) ((hf 0 2 rfl rfl).len) ((hf 0 3 rfl rfl).rng) ((hf 0 4 rfl rfl).rng) ((hf 0 5 rfl rfl).rng) ((hf 0 7 rfl rfl).rng) ((hf 0 8 rfl rfl).rng) ((hf 0 9 rfl rfl).len) (fun y hy => (hf 0 9 rfl rfl).elem hy) ((hf 0 11 rfl rfl).rng) ((hf 0 12 rfl rfl).rng) ((hf 0 13 rfl rfl).len) (fun y hy => (hf 0 13 rfl rfl).elem hy) ((hf 0 15 rfl rfl).rng) ((hf 0 16 rfl rfl).rng) ((hf 0 17 rfl rfl).rng) ((hf 0 18 rfl rfl).rng) ((hf 0 19 rfl rfl).len) ((hf 0 20 rfl rfl).len) (fun y hy => (hf 0 20 rfl rfl).elem hy) ((hf 0 21 rfl rfl).len) ((hf 0 22 rfl rfl).rng) hp _ _ _))
noncomputable def w_toStack_e : Ent1 Try.prog := entP 30 [.st .stac] (fun x => (decide (x.1.link.cache.length ≤ 4294967296 ∧ x.1.door.keys.now.rows.length ≤ 4294967296 ∧ x.1.door.keys.before.rows.length ≤ 4294967296 ∧ x.1.door.halves.length ≤ 4294967296 ∧ x.1.door.table.conns.length ≤ 4294967296 ∧ sm_conn x.1.door.table.conns = true ∧ x.1.door.table.waiting.length ≤ 4294967296))) (fun x => (w_toStack x.1)) (fun v => [rv (.st .stac) [.c, .c, .o true, .c, .c, .c, .c, .c, .c, .o true, .c, .c, .c, .o true, .c, .c, .c, .c, .c, .o true, .o true, .o true, .c] v]) (fun x hx => w_toStack_c x.1 (of_decide_eq_true hx))


/-- laws.eqStack -/
def w_eqStack_N (x0 : Stac) (x1 : Stac) (γ : Type) (fail : γ) (k : Bool → γ) : γ :=
  letK (α := Bool) (w_eqLink x0.link x1.link) fun c1 =>
  bif (!c1) then
    k false
  else
  letK (α := Bool) (w_eqDoor x0.door x1.door) fun c2 =>
  bif (!c2) then
    k false
  else
  k true
def w_eqStack (x0 : Stac) (x1 : Stac) : Bool :=
  letK (α := Bool) (w_eqLink x0.link x1.link) fun c1 =>
  bif (!c1) then
    false
  else
  letK (α := Bool) (w_eqDoor x0.door x1.door) fun c2 =>
  bif (!c2) then
    false
  else
  true
theorem w_eqStack_lk (x0 : Stac) (x1 : Stac) : evalFn te (orcOf (P := Try.prog) [w_eqLink_e, w_eqDoor_e]) lorc0 [] Try.f32 (pvs [.st .stac, .st .stac] (x0, x1, ())) =
  w_eqStack_N x0 x1 _ none (fun v => some [(false, [RC.c (.bool v)])]) := by kernel_rfl
theorem w_eqStack_p (x0 : Stac) (x1 : Stac)   (γ : Type) (fail : γ) (k : Bool → γ) : w_eqStack_N x0 x1 γ fail k = k (w_eqStack x0 x1) := by
  unfold w_eqStack_N w_eqStack
  exact letT (f := k) (fun c1 hc1 => bifT (f := k) (fun b0 => rfl)
      (fun b0 => letT (f := k) (fun c2 hc2 => bifT (f := k) (fun b1 => rfl)
      (fun b1 => rfl))))
theorem w_eqStack_c (x0 : Stac) (x1 : Stac)  : Con Try.prog 32 (pvs [.st .stac, .st .stac] (x0, x1, ())) [rv (.sc .bool) [] (w_eqStack x0 x1)] := by
  exact evalFn_con0 teFact mixFact (orcOf_ok _) Try.func32 (by kernel_rfl) ((w_eqStack_lk x0 x1).trans (w_eqStack_p x0 x1  _ _ _))
noncomputable def w_eqStack_e : Ent1 Try.prog := entA 32 [.st .stac, .st .stac] (fun x => (w_eqStack x.1 x.2.1)) (fun v => [rv (.sc .bool) [] v]) (fun x => w_eqStack_c x.1 x.2.1)



theorem q_SameMac (x y : Mac) : s_SameMac x y = i_SameMac x y := by
  unfold s_SameMac i_SameMac g_Equal_MacRow letK
  rw [show forN (s_SameMac_L0_f x.use x.k x.l x.rows y.use y.k y.l y.rows) 1 (Int.toNat ((x.rows.length : Int) - 0)) 0 () = forN (g_Equal_MacRow_L0_f x.rows y.rows (x.rows.length : Int)) 1 (Int.toNat ((x.rows.length : Int) - 0)) 0 () from forN_congr (fun _ _ => rfl) _ _ _]
  have e1 : (x.k != y.k) = !(x.k == y.k) := rfl
  have e2 : (x.l != y.l) = !(x.l == y.l) := rfl
  rw [e1, e2]
  cases (x.use == y.use) <;> cases (x.k == y.k) <;> cases (x.l == y.l) <;> rfl
theorem SameMac_refl (x : Mac) : i_SameMac x x = true := by
  unfold i_SameMac g_Equal_MacRow letK
  rw [toNat_sub0, forN_list x.rows _ rfl (F := fun j y a => bif (fun _ => false) y then .out () else .next ()) (by
    intro j y a h
    simp [g_Equal_MacRow_L0_f])]
  rw [listN_all x.rows 0 (by simp)]
  simp [Stp.elim]
theorem SameMac_none (x : Mac) (h : i_SameMac x ⟨false, 0, 0, []⟩ = true) : x = ⟨false, 0, 0, []⟩ := by
  unfold i_SameMac g_Equal_MacRow letK at h
  obtain ⟨u, k, l, r⟩ := x
  cases r with
  | nil => simp [forN, Stp.elim] at h; obtain ⟨h1, h2, h3⟩ := h; subst h1; subst h2; subst h3; rfl
  | cons a b =>
    have : (((a :: b).length : Int) != (([] : List MacRow).length : Int)) = true := by simp; omega
    simp only [this, cond_true] at h
    revert h
    cases (u == false) <;> cases (k == 0) <;> cases (l == 0) <;> simp


theorem factFl (f : Fl) : FactC (f.cell f.zero) := by
  cases f with
  | int k => exact .int _ _ (by cases k <;> exact ⟨by decide, by decide⟩)
  | bool => exact .bool _
  | str => exact .str _ (Nat.zero_le _)
  | sl t => exact .sl _ _ (Nat.zero_le _) (fun x hx => nomatch hx)
theorem factZeroH : ∀ (fs : List Fl), ∀ c ∈ cellsH fs (zeroH fs), FactC c
  | [], c, hc => nomatch hc
  | f :: fs, c, hc => by
    rcases List.mem_cons.1 hc with rfl | h
    · exact factFl f
    · exact factZeroH fs c h
theorem factZero (t : Ty) : ∀ c ∈ Ty.cells t (Ty.zero t), FactC c := by
  have : Ty.cells t (Ty.zero t) = cellsH t.fl (zeroH t.fl) := by simp only [Ty.cells, Ty.zero, Ty.toH_ofH]
  rw [this]
  exact factZeroH _

theorem toTuple_eq (x : Tupl) : w_toTuple x = x := by
  first | rfl | simp only [w_toTuple, letK] | (simp [w_toTuple, letK])

theorem w_szHalfS_sm (x0 : List Half) (x1 : Int) (hn : 0 ≤ x1 ∧ x1 ≤ 1048576) (hx0 : x0.length ≤ 140737488355328) : 0 ≤ w_szHalfS x0 x1 → w_szHalfS x0 x1 ≤ 1048576 ∧ x0.length ≤ 1048576 := by
  unfold w_szHalfS
  rw [wrap64 (by omega) (by omega)]
  cases hd : decide (x1 - (x0.length : Int) < 0) with
  | true => intro h; simp only [cond_true] at h; omega
  | false =>
    simp only [decide_eq_false_iff_not] at hd
    simp only [cond_false]
    intro h; omega

theorem toLimits_eq (x : Limi) : w_toLimits x = x := by
  first | rfl | simp only [w_toLimits, letK] | (simp [w_toLimits, letK])

theorem eqLimits_refl (x : Limi) : w_eqLimits x x = true := by simp [w_eqLimits, letK]

theorem toOptions_eq (x : Opti) : w_toOptions x = x := by
  first | rfl | simp only [w_toOptions, letK] | (simp [w_toOptions, letK])

theorem eqOptions_refl (x : Opti) : w_eqOptions x x = true := by simp [w_eqOptions, letK]

theorem w_szTupleS_sm (x0 : List Tupl) (x1 : Int) (hn : 0 ≤ x1 ∧ x1 ≤ 1048576) (hx0 : x0.length ≤ 140737488355328) : 0 ≤ w_szTupleS x0 x1 → w_szTupleS x0 x1 ≤ 1048576 ∧ x0.length ≤ 1048576 := by
  unfold w_szTupleS
  rw [wrap64 (by omega) (by omega)]
  cases hd : decide (x1 - (x0.length : Int) < 0) with
  | true => intro h; simp only [cond_true] at h; omega
  | false =>
    simp only [decide_eq_false_iff_not] at hd
    simp only [cond_false]
    intro h; omega

theorem toHalf_eq (x : Half) : w_toHalf x = x := by
  first | rfl | simp only [w_toHalf, letK, toTuple_eq, toOptions_eq] | (simp [w_toHalf, letK, toTuple_eq, toOptions_eq])

theorem toTupleS_eq (xs : List Tupl) : w_toTupleS xs = xs := by
  unfold w_toTupleS
  try simp only [letK_eq]
  rw [toNat_sub0, forN_list xs _ rfl (F := fun j x a => .next (a.set j x)) (by
    intro j x a h
    simp only [w_toTupleS_L0_f, letK_eq, toNat_cast, getD_some h, toTuple_eq])]
  have := fun r hr => listN_fill (W := Empty) (fun x => x) xs 0 r hr
  rw [this _ (by simp)]
  simp [Stp.elim]

theorem w_szEntryS_sm (x0 : List Entr) (x1 : Int) (hn : 0 ≤ x1 ∧ x1 ≤ 1048576) (hx0 : x0.length ≤ 140737488355328) : 0 ≤ w_szEntryS x0 x1 → w_szEntryS x0 x1 ≤ 1048576 ∧ x0.length ≤ 1048576 := by
  unfold w_szEntryS
  rw [wrap64 (by omega) (by omega)]
  cases hd : decide (x1 - (x0.length : Int) < 0) with
  | true => intro h; simp only [cond_true] at h; omega
  | false =>
    simp only [decide_eq_false_iff_not] at hd
    simp only [cond_false]
    intro h; omega

theorem w_szMacRowS_sm (x0 : List MacRow) (x1 : Int) (hn : 0 ≤ x1 ∧ x1 ≤ 1048576) (hx0 : x0.length ≤ 140737488355328) (hx0_e : ∀ y ∈ x0, ∀ c ∈ Ty.cells .macRow y, FactC c) : 0 ≤ w_szMacRowS x0 x1 → w_szMacRowS x0 x1 ≤ 1048576 ∧ x0.length ≤ 1048576 := by
  unfold w_szMacRowS
  rw [wrap64 (by omega) (by omega)]
  cases hd : decide (x1 - (x0.length : Int) < 0) with
  | true => intro h; simp only [cond_true] at h; omega
  | false =>
    simp only [decide_eq_false_iff_not] at hd
    simp only [cond_false]
    cases hf : forN (w_szMacRowS_L0_f x0) 1 (Int.toNat ((x0.length : Int) - 0)) 0 (x1 - (x0.length : Int)) with
    | out p => intro h; simp only [Stp.elim] at h; omega
    | next a =>
      have h5 : 0 ≤ a ∧ a ≤ 1048576 := by
        refine forN_inv (Inv := fun _ a => 0 ≤ a ∧ a ≤ 1048576) _ _ _ (by omega) (fun j a _ h a2 he => ?_) a hf
        have hq : ∀ y : MacRow, (∀ c ∈ Ty.cells .macRow y, FactC c) → 0 ≤ w_szMacRow y a → w_szMacRow y a ≤ 1048576 := fun y hy h0 => (w_szMacRow_sm y a h (hy (.str y.input) List.mem_cons_self).slen h0).1
        have hz : ∀ c ∈ Ty.cells .macRow (x0.getD (0 + 1 * (j : Int)).toNat (Ty.zero .macRow)), FactC c := getD_all (p := fun y => ∀ c ∈ Ty.cells .macRow y, FactC c) (factZero _) hx0_e _
        unfold w_szMacRowS_L0_f at he
        simp only [letK] at he
        cases hc : decide (w_szMacRow (x0.getD (0 + 1 * (j : Int)).toNat (Ty.zero .macRow)) a < 0) <;> rw [hc] at he <;> cases he
        simp only [decide_eq_false_iff_not] at hc
        exact ⟨by omega, hq _ hz (by omega)⟩
      intro _; simp only [Stp.elim]; omega

theorem eqTuple_refl (x : Tupl) : w_eqTuple x x = true := by simp [w_eqTuple, letK]

theorem toEntry_eq (x : Entr) : w_toEntry x = x := by
  first | rfl | simp only [w_toEntry, letK] | (simp [w_toEntry, letK])

theorem eqEntry_refl (x : Entr) : w_eqEntry x x = true := by simp [w_eqEntry, letK]

theorem toMacRow_eq (x : MacRow) : w_toMacRow x = x := by
  first | rfl | simp only [w_toMacRow, letK] | (simp [w_toMacRow, letK])

theorem toSender_eq (x : Sndr) : w_toSender x = x := by
  first | rfl | simp only [w_toSender, letK] | (simp [w_toSender, letK])

theorem eqMacRow_refl (x : MacRow) : w_eqMacRow x x = true := by simp [w_eqMacRow, letK]

theorem eqSender_refl (x : Sndr) : w_eqSender x x = true := by simp [w_eqSender, letK]

theorem w_szPieceS_sm (x0 : List Piec) (x1 : Int) (hn : 0 ≤ x1 ∧ x1 ≤ 1048576) (hx0 : x0.length ≤ 140737488355328) (hx0_e : ∀ y ∈ x0, ∀ c ∈ Ty.cells .piec y, FactC c) : 0 ≤ w_szPieceS x0 x1 → w_szPieceS x0 x1 ≤ 1048576 ∧ x0.length ≤ 1048576 := by
  unfold w_szPieceS
  rw [wrap64 (by omega) (by omega)]
  cases hd : decide (x1 - (x0.length : Int) < 0) with
  | true => intro h; simp only [cond_true] at h; omega
  | false =>
    simp only [decide_eq_false_iff_not] at hd
    simp only [cond_false]
    cases hf : forN (w_szPieceS_L0_f x0) 1 (Int.toNat ((x0.length : Int) - 0)) 0 (x1 - (x0.length : Int)) with
    | out p => intro h; simp only [Stp.elim] at h; omega
    | next a =>
      have h5 : 0 ≤ a ∧ a ≤ 1048576 := by
        refine forN_inv (Inv := fun _ a => 0 ≤ a ∧ a ≤ 1048576) _ _ _ (by omega) (fun j a _ h a2 he => ?_) a hf
        have hq : ∀ y : Piec, (∀ c ∈ Ty.cells .piec y, FactC c) → 0 ≤ w_szPiece y a → w_szPiece y a ≤ 1048576 := fun y hy h0 => (w_szPiece_sm y a h (hy (.str y.text) (List.mem_cons_of_mem _ List.mem_cons_self)).slen h0).1
        have hz : ∀ c ∈ Ty.cells .piec (x0.getD (0 + 1 * (j : Int)).toNat (Ty.zero .piec)), FactC c := getD_all (p := fun y => ∀ c ∈ Ty.cells .piec y, FactC c) (factZero _) hx0_e _
        unfold w_szPieceS_L0_f at he
        simp only [letK] at he
        cases hc : decide (w_szPiece (x0.getD (0 + 1 * (j : Int)).toNat (Ty.zero .piec)) a < 0) <;> rw [hc] at he <;> cases he
        simp only [decide_eq_false_iff_not] at hc
        exact ⟨by omega, hq _ hz (by omega)⟩
      intro _; simp only [Stp.elim]; omega

theorem toPiece_eq (x : Piec) : w_toPiece x = x := by
  first | rfl | simp only [w_toPiece, letK] | (simp [w_toPiece, letK])

theorem eqPiece_refl (x : Piec) : w_eqPiece x x = true := by simp [w_eqPiece, letK]

theorem q_SameLink (x y : Link) : s_SameLink x y = i_SameLink x y := by
  unfold s_SameLink i_SameLink g_Equal_Entry
  simp only [letK_eq]
  rw [show forN (s_SameLink_L0_f x.mac x.ip x.cache y.mac y.ip y.cache) 1 (Int.toNat ((x.cache.length : Int) - 0)) 0 () = forN (g_Equal_Entry_L0_f x.cache y.cache (x.cache.length : Int)) 1 (Int.toNat ((x.cache.length : Int) - 0)) 0 () from forN_congr (fun _ _ => rfl) _ _ _]
  have e1 : (x.mac != y.mac) = !(x.mac == y.mac) := rfl
  have e2 : (x.ip != y.ip) = !(x.ip == y.ip) := rfl
  rw [e1, e2]
  cases (x.mac == y.mac) <;> cases (x.ip == y.ip) <;> rfl
theorem q_SameKeys (x y : Keys) : s_SameKeys x y = i_SameKeys x y := by
  unfold s_SameKeys i_SameKeys
  simp only [letK_eq, q_SameMac]
theorem q_SameHalves (x y : List Half) : s_SameHalves x y = i_SameHalves x y := by
  unfold s_SameHalves i_SameHalves g_Equal_Half
  simp only [letK_eq]
  rw [show forN (s_SameHalves_L0_f x y) 1 (Int.toNat ((x.length : Int) - 0)) 0 () = forN (g_Equal_Half_L0_f x y (x.length : Int)) 1 (Int.toNat ((x.length : Int) - 0)) 0 () from forN_congr (fun _ _ => rfl) _ _ _]
theorem q_SameReceiver (x y : Recv) : s_SameReceiver x y = i_SameReceiver x y := by
  unfold s_SameReceiver i_SameReceiver g_Equal_Piece
  simp only [letK_eq]
  rw [show forN (s_SameReceiver_L0_f x.next x.data x.held x.fin x.done y.next y.data y.held y.fin y.done) 1 (Int.toNat ((x.held.length : Int) - 0)) 0 () = forN (g_Equal_Piece_L0_f x.held y.held (x.held.length : Int)) 1 (Int.toNat ((x.held.length : Int) - 0)) 0 () from forN_congr (fun _ _ => rfl) _ _ _]
  have e1 : (x.next != y.next) = !(x.next == y.next) := rfl
  have e2 : (x.fin != y.fin) = !(x.fin == y.fin) := rfl
  rw [e1, e2]
  generalize Stp.elim _ _ _ = z
  cases (x.next == y.next) <;> cases (x.data == y.data) <;> cases (x.fin == y.fin) <;> cases (x.done == y.done) <;> cases ((x.held.length : Int) != (y.held.length : Int)) <;> cases z <;> rfl
theorem q_SameConn (x y : Conn) : s_SameConn x y = i_SameConn x y := by
  unfold s_SameConn i_SameConn
  simp only [letK_eq, q_SameReceiver]
theorem q_SameTable (x y : Tabl) : s_SameTable x y = i_SameTable x y := by
  unfold s_SameTable i_SameTable g_EqualFunc_Conn_i_SameConn g_Equal_Tuple
  simp only [letK_eq]
  rw [show forN (s_SameTable_L1_f x.conns x.waiting y.conns y.waiting) 1 (Int.toNat ((x.waiting.length : Int) - 0)) 0 () = forN (g_Equal_Tuple_L0_f x.waiting y.waiting (x.waiting.length : Int)) 1 (Int.toNat ((x.waiting.length : Int) - 0)) 0 () from forN_congr (fun _ _ => rfl) _ _ _]
  rw [show forN (s_SameTable_L0_f x.conns x.waiting y.conns y.waiting) 1 (Int.toNat ((x.conns.length : Int) - 0)) 0 () = forN (g_EqualFunc_Conn_i_SameConn_L0_f y.conns x.conns (x.conns.length : Int)) 1 (Int.toNat ((x.conns.length : Int) - 0)) 0 () from forN_congr (fun _ _ => by
    unfold s_SameTable_L0_f g_EqualFunc_Conn_i_SameConn_L0_f
    simp only [letK_eq, q_SameConn]) _ _ _]
  generalize forN (g_EqualFunc_Conn_i_SameConn_L0_f _ _ _) _ _ _ _ = z
  generalize forN (g_Equal_Tuple_L0_f _ _ _) _ _ _ _ = w
  cases ((x.conns.length : Int) != (y.conns.length : Int)) <;> cases ((x.waiting.length : Int) != (y.waiting.length : Int)) <;> cases z <;> cases w <;> rfl
theorem q_SameDoor (x y : Door) : s_SameDoor x y = i_SameDoor x y := by
  unfold s_SameDoor i_SameDoor
  simp only [letK_eq, q_SameKeys, q_SameHalves, q_SameTable]
theorem q_SameStack (x y : Stac) : s_SameStack x y = i_SameStack x y := by
  unfold s_SameStack i_SameStack
  simp only [letK_eq, q_SameLink, q_SameDoor]

/-- laws.szLink -/
def w_szLink_N (x0 : Link) (x1 : Int) (γ : Type) (fail : γ) (k : Int → γ) : γ :=
  letK (α := Int) (w_szEntryS x0.cache x1) fun c1 =>
  bif (decide (c1 < 0)) then
    k (-1)
  else
  k c1
def w_szLink (x0 : Link) (x1 : Int) : Int :=
  letK (α := Int) (w_szEntryS x0.cache x1) fun c1 =>
  bif (decide (c1 < 0)) then
    (-1)
  else
  c1
theorem w_szLink_lk (x0 : Link) (x1 : Int) : evalFn te (orcOf (P := Try.prog) [w_szEntryS_e]) lorc0 [] Try.f80 (pvs [.st .link, .sc (.int .i64)] (x0, x1, ())) =
  w_szLink_N x0 x1 _ none (fun v => some [(false, [RC.c (.int .i64 v)])]) := by kernel_rfl
theorem w_szLink_p (x0 : Link) (x1 : Int)   (γ : Type) (fail : γ) (k : Int → γ) : w_szLink_N x0 x1 γ fail k = k (w_szLink x0 x1) := by
  unfold w_szLink_N w_szLink
  exact letT (f := k) (fun c1 hc1 => bifT (f := k) (fun b0 => rfl)
      (fun b0 => rfl))
theorem w_szLink_c (x0 : Link) (x1 : Int)  : Con Try.prog 80 (pvs [.st .link, .sc (.int .i64)] (x0, x1, ())) [rv (.sc (.int .i64)) [] (w_szLink x0 x1)] := by
  exact evalFn_con0 teFact mixFact (orcOf_ok _) Try.func80 (by kernel_rfl) ((w_szLink_lk x0 x1).trans (w_szLink_p x0 x1  _ _ _))
noncomputable def w_szLink_e : Ent1 Try.prog := entA 80 [.st .link, .sc (.int .i64)] (fun x => (w_szLink x.1 x.2.1)) (fun v => [rv (.sc (.int .i64)) [] v]) (fun x => w_szLink_c x.1 x.2.1)

theorem w_szLink_sm (x0 : Link) (x1 : Int)  (hn : 0 ≤ x1 ∧ x1 ≤ 1048576) (hx0_cache : x0.cache.length ≤ 140737488355328) : (fun v : Int => 0 ≤ v → v ≤ 1048576 ∧ x0.cache.length ≤ 1048576) (w_szLink x0 x1) := by
  unfold w_szLink
  exact letP (P := (fun v : Int => 0 ≤ v → v ≤ 1048576 ∧ x0.cache.length ≤ 1048576)) (fun c1 hc1 => have kc1 := w_szEntryS_sm x0.cache x1 (by grind [wrap64]) (by assumption); bifP (P := (fun v : Int => 0 ≤ v → v ≤ 1048576 ∧ x0.cache.length ≤ 1048576)) (fun b0 => (by (try simp only [Nat.ble_eq, Bool.and_eq_true, decide_eq_true_eq]); grind [maxSl, maxStr, toBytes_length, toInts_length, List.length_set, wrap64, w_szEntryS_sm]))
      (fun b0 => (by (try simp only [Nat.ble_eq, Bool.and_eq_true, decide_eq_true_eq]); grind [maxSl, maxStr, toBytes_length, toInts_length, List.length_set, wrap64, w_szEntryS_sm])))

/-- laws.szMac -/
def w_szMac_N (x0 : Mac) (x1 : Int) (γ : Type) (fail : γ) (k : Int → γ) : γ :=
  letK (α := Int) (w_szMacRowS x0.rows x1) fun c1 =>
  bif (decide (c1 < 0)) then
    k (-1)
  else
  k c1
def w_szMac (x0 : Mac) (x1 : Int) : Int :=
  letK (α := Int) (w_szMacRowS x0.rows x1) fun c1 =>
  bif (decide (c1 < 0)) then
    (-1)
  else
  c1
theorem w_szMac_lk (x0 : Mac) (x1 : Int) : evalFn te (orcOf (P := Try.prog) [w_szMacRowS_e]) lorc0 [] Try.f119 (pvs [.st .mac, .sc (.int .i64)] (x0, x1, ())) =
  w_szMac_N x0 x1 _ none (fun v => some [(false, [RC.c (.int .i64 v)])]) := by kernel_rfl
theorem w_szMac_p (x0 : Mac) (x1 : Int)   (γ : Type) (fail : γ) (k : Int → γ) : w_szMac_N x0 x1 γ fail k = k (w_szMac x0 x1) := by
  unfold w_szMac_N w_szMac
  exact letT (f := k) (fun c1 hc1 => bifT (f := k) (fun b0 => rfl)
      (fun b0 => rfl))
theorem w_szMac_c (x0 : Mac) (x1 : Int)  : Con Try.prog 119 (pvs [.st .mac, .sc (.int .i64)] (x0, x1, ())) [rv (.sc (.int .i64)) [] (w_szMac x0 x1)] := by
  exact evalFn_con0 teFact mixFact (orcOf_ok _) Try.func119 (by kernel_rfl) ((w_szMac_lk x0 x1).trans (w_szMac_p x0 x1  _ _ _))
noncomputable def w_szMac_e : Ent1 Try.prog := entA 119 [.st .mac, .sc (.int .i64)] (fun x => (w_szMac x.1 x.2.1)) (fun v => [rv (.sc (.int .i64)) [] v]) (fun x => w_szMac_c x.1 x.2.1)

theorem w_szMac_sm (x0 : Mac) (x1 : Int)  (hn : 0 ≤ x1 ∧ x1 ≤ 1048576) (hx0_rows : x0.rows.length ≤ 140737488355328) (hx0_rows_e : ∀ y ∈ x0.rows, ∀ c ∈ Ty.cells .macRow y, FactC c) : (fun v : Int => 0 ≤ v → v ≤ 1048576 ∧ x0.rows.length ≤ 1048576) (w_szMac x0 x1) := by
  unfold w_szMac
  exact letP (P := (fun v : Int => 0 ≤ v → v ≤ 1048576 ∧ x0.rows.length ≤ 1048576)) (fun c1 hc1 => have kc1 := w_szMacRowS_sm x0.rows x1 (by grind [wrap64]) (by assumption) (by assumption); bifP (P := (fun v : Int => 0 ≤ v → v ≤ 1048576 ∧ x0.rows.length ≤ 1048576)) (fun b0 => (by (try simp only [Nat.ble_eq, Bool.and_eq_true, decide_eq_true_eq]); grind [maxSl, maxStr, toBytes_length, toInts_length, List.length_set, wrap64, w_szMacRowS_sm]))
      (fun b0 => (by (try simp only [Nat.ble_eq, Bool.and_eq_true, decide_eq_true_eq]); grind [maxSl, maxStr, toBytes_length, toInts_length, List.length_set, wrap64, w_szMacRowS_sm])))

/-- laws.szReceiver -/
def w_szReceiver_N (x0 : Recv) (x1 : Int) (γ : Type) (fail : γ) (k : Int → γ) : γ :=
  bif (decide ((IntKind.wrap .i64 (x1 - (x0.data.length : Int))) < 0)) then
    k (-1)
  else
  letK (α := Int) (w_szPieceS x0.held (IntKind.wrap .i64 (x1 - (x0.data.length : Int)))) fun c1 =>
  bif (decide (c1 < 0)) then
    k (-1)
  else
  k c1
def w_szReceiver (x0 : Recv) (x1 : Int) : Int :=
  bif (decide ((IntKind.wrap .i64 (x1 - (x0.data.length : Int))) < 0)) then
    (-1)
  else
  letK (α := Int) (w_szPieceS x0.held (IntKind.wrap .i64 (x1 - (x0.data.length : Int)))) fun c1 =>
  bif (decide (c1 < 0)) then
    (-1)
  else
  c1
theorem w_szReceiver_lk (x0 : Recv) (x1 : Int) : evalFn te (orcOf (P := Try.prog) [w_szPieceS_e]) lorc0 [] Try.f183 (pvs [.st .recv, .sc (.int .i64)] (x0, x1, ())) =
  w_szReceiver_N x0 x1 _ none (fun v => some [(false, [RC.c (.int .i64 v)])]) := by kernel_rfl
theorem w_szReceiver_p (x0 : Recv) (x1 : Int)   (γ : Type) (fail : γ) (k : Int → γ) : w_szReceiver_N x0 x1 γ fail k = k (w_szReceiver x0 x1) := by
  unfold w_szReceiver_N w_szReceiver
  exact bifT (f := k) (fun b0 => rfl)
      (fun b0 => letT (f := k) (fun c1 hc1 => bifT (f := k) (fun b1 => rfl)
      (fun b1 => rfl)))
theorem w_szReceiver_c (x0 : Recv) (x1 : Int)  : Con Try.prog 183 (pvs [.st .recv, .sc (.int .i64)] (x0, x1, ())) [rv (.sc (.int .i64)) [] (w_szReceiver x0 x1)] := by
  exact evalFn_con0 teFact mixFact (orcOf_ok _) Try.func183 (by kernel_rfl) ((w_szReceiver_lk x0 x1).trans (w_szReceiver_p x0 x1  _ _ _))
noncomputable def w_szReceiver_e : Ent1 Try.prog := entA 183 [.st .recv, .sc (.int .i64)] (fun x => (w_szReceiver x.1 x.2.1)) (fun v => [rv (.sc (.int .i64)) [] v]) (fun x => w_szReceiver_c x.1 x.2.1)

theorem w_szReceiver_sm (x0 : Recv) (x1 : Int)  (hn : 0 ≤ x1 ∧ x1 ≤ 1048576) (hx0_data : List.length x0.data ≤ 4611686018427387904) (hx0_held : x0.held.length ≤ 140737488355328) (hx0_held_e : ∀ y ∈ x0.held, ∀ c ∈ Ty.cells .piec y, FactC c) : (fun v : Int => 0 ≤ v → v ≤ 1048576 ∧ List.length x0.data ≤ 1048576 ∧ x0.held.length ≤ 1048576) (w_szReceiver x0 x1) := by
  unfold w_szReceiver
  exact bifP (P := (fun v : Int => 0 ≤ v → v ≤ 1048576 ∧ List.length x0.data ≤ 1048576 ∧ x0.held.length ≤ 1048576)) (fun b0 => (by (try simp only [Nat.ble_eq, Bool.and_eq_true, decide_eq_true_eq]); grind [maxSl, maxStr, toBytes_length, toInts_length, List.length_set, wrap64, w_szPieceS_sm]))
      (fun b0 => letP (P := (fun v : Int => 0 ≤ v → v ≤ 1048576 ∧ List.length x0.data ≤ 1048576 ∧ x0.held.length ≤ 1048576)) (fun c1 hc1 => have kc1 := w_szPieceS_sm x0.held (IntKind.wrap .i64 (x1 - (x0.data.length : Int))) (by grind [wrap64]) (by assumption) (by assumption); bifP (P := (fun v : Int => 0 ≤ v → v ≤ 1048576 ∧ List.length x0.data ≤ 1048576 ∧ x0.held.length ≤ 1048576)) (fun b1 => (by (try simp only [Nat.ble_eq, Bool.and_eq_true, decide_eq_true_eq]); grind [maxSl, maxStr, toBytes_length, toInts_length, List.length_set, wrap64, w_szPieceS_sm]))
      (fun b1 => (by (try simp only [Nat.ble_eq, Bool.and_eq_true, decide_eq_true_eq]); grind [maxSl, maxStr, toBytes_length, toInts_length, List.length_set, wrap64, w_szPieceS_sm]))))

/-- laws.szKeys -/
def w_szKeys_N (x0 : Keys) (x1 : Int) (γ : Type) (fail : γ) (k : Int → γ) : γ :=
  letK (α := Int) (w_szMac x0.now x1) fun c1 =>
  bif (decide (c1 < 0)) then
    k (-1)
  else
  letK (α := Int) (w_szMac x0.before c1) fun c2 =>
  bif (decide (c2 < 0)) then
    k (-1)
  else
  k c2
def w_szKeys (x0 : Keys) (x1 : Int) : Int :=
  letK (α := Int) (w_szMac x0.now x1) fun c1 =>
  bif (decide (c1 < 0)) then
    (-1)
  else
  letK (α := Int) (w_szMac x0.before c1) fun c2 =>
  bif (decide (c2 < 0)) then
    (-1)
  else
  c2
theorem w_szKeys_lk (x0 : Keys) (x1 : Int) : evalFn te (orcOf (P := Try.prog) [w_szMac_e]) lorc0 [] Try.f69 (pvs [.st .keys, .sc (.int .i64)] (x0, x1, ())) =
  w_szKeys_N x0 x1 _ none (fun v => some [(false, [RC.c (.int .i64 v)])]) := by kernel_rfl
theorem w_szKeys_p (x0 : Keys) (x1 : Int)   (γ : Type) (fail : γ) (k : Int → γ) : w_szKeys_N x0 x1 γ fail k = k (w_szKeys x0 x1) := by
  unfold w_szKeys_N w_szKeys
  exact letT (f := k) (fun c1 hc1 => bifT (f := k) (fun b0 => rfl)
      (fun b0 => letT (f := k) (fun c2 hc2 => bifT (f := k) (fun b1 => rfl)
      (fun b1 => rfl))))
theorem w_szKeys_c (x0 : Keys) (x1 : Int)  : Con Try.prog 69 (pvs [.st .keys, .sc (.int .i64)] (x0, x1, ())) [rv (.sc (.int .i64)) [] (w_szKeys x0 x1)] := by
  exact evalFn_con0 teFact mixFact (orcOf_ok _) Try.func69 (by kernel_rfl) ((w_szKeys_lk x0 x1).trans (w_szKeys_p x0 x1  _ _ _))
noncomputable def w_szKeys_e : Ent1 Try.prog := entA 69 [.st .keys, .sc (.int .i64)] (fun x => (w_szKeys x.1 x.2.1)) (fun v => [rv (.sc (.int .i64)) [] v]) (fun x => w_szKeys_c x.1 x.2.1)

theorem w_szKeys_sm (x0 : Keys) (x1 : Int)  (hn : 0 ≤ x1 ∧ x1 ≤ 1048576) (hx0_now_rows : x0.now.rows.length ≤ 140737488355328) (hx0_now_rows_e : ∀ y ∈ x0.now.rows, ∀ c ∈ Ty.cells .macRow y, FactC c) (hx0_before_rows : x0.before.rows.length ≤ 140737488355328) (hx0_before_rows_e : ∀ y ∈ x0.before.rows, ∀ c ∈ Ty.cells .macRow y, FactC c) : (fun v : Int => 0 ≤ v → v ≤ 1048576 ∧ x0.now.rows.length ≤ 1048576 ∧ x0.before.rows.length ≤ 1048576) (w_szKeys x0 x1) := by
  unfold w_szKeys
  exact letP (P := (fun v : Int => 0 ≤ v → v ≤ 1048576 ∧ x0.now.rows.length ≤ 1048576 ∧ x0.before.rows.length ≤ 1048576)) (fun c1 hc1 => have kc1 := w_szMac_sm x0.now x1 (by grind [wrap64]) (by assumption) (by assumption); bifP (P := (fun v : Int => 0 ≤ v → v ≤ 1048576 ∧ x0.now.rows.length ≤ 1048576 ∧ x0.before.rows.length ≤ 1048576)) (fun b0 => (by (try simp only [Nat.ble_eq, Bool.and_eq_true, decide_eq_true_eq]); grind [maxSl, maxStr, toBytes_length, toInts_length, List.length_set, wrap64, w_szMac_sm]))
      (fun b0 => letP (P := (fun v : Int => 0 ≤ v → v ≤ 1048576 ∧ x0.now.rows.length ≤ 1048576 ∧ x0.before.rows.length ≤ 1048576)) (fun c2 hc2 => have kc2 := w_szMac_sm x0.before c1 (by grind [wrap64]) (by assumption) (by assumption); bifP (P := (fun v : Int => 0 ≤ v → v ≤ 1048576 ∧ x0.now.rows.length ≤ 1048576 ∧ x0.before.rows.length ≤ 1048576)) (fun b1 => (by (try simp only [Nat.ble_eq, Bool.and_eq_true, decide_eq_true_eq]); grind [maxSl, maxStr, toBytes_length, toInts_length, List.length_set, wrap64, w_szMac_sm]))
      (fun b1 => (by (try simp only [Nat.ble_eq, Bool.and_eq_true, decide_eq_true_eq]); grind [maxSl, maxStr, toBytes_length, toInts_length, List.length_set, wrap64, w_szMac_sm])))))

/-- laws.szConn -/
def w_szConn_N (x0 : Conn) (x1 : Int) (γ : Type) (fail : γ) (k : Int → γ) : γ :=
  letK (α := Int) (w_szSender x0.s x1) fun c1 =>
  bif (decide (c1 < 0)) then
    k (-1)
  else
  letK (α := Int) (w_szReceiver x0.r c1) fun c2 =>
  bif (decide (c2 < 0)) then
    k (-1)
  else
  k c2
def w_szConn (x0 : Conn) (x1 : Int) : Int :=
  letK (α := Int) (w_szSender x0.s x1) fun c1 =>
  bif (decide (c1 < 0)) then
    (-1)
  else
  letK (α := Int) (w_szReceiver x0.r c1) fun c2 =>
  bif (decide (c2 < 0)) then
    (-1)
  else
  c2
theorem w_szConn_lk (x0 : Conn) (x1 : Int) : evalFn te (orcOf (P := Try.prog) [w_szSender_e, w_szReceiver_e]) lorc0 [] Try.f159 (pvs [.st .conn, .sc (.int .i64)] (x0, x1, ())) =
  w_szConn_N x0 x1 _ none (fun v => some [(false, [RC.c (.int .i64 v)])]) := by kernel_rfl
theorem w_szConn_p (x0 : Conn) (x1 : Int)   (γ : Type) (fail : γ) (k : Int → γ) : w_szConn_N x0 x1 γ fail k = k (w_szConn x0 x1) := by
  unfold w_szConn_N w_szConn
  exact letT (f := k) (fun c1 hc1 => bifT (f := k) (fun b0 => rfl)
      (fun b0 => letT (f := k) (fun c2 hc2 => bifT (f := k) (fun b1 => rfl)
      (fun b1 => rfl))))
theorem w_szConn_c (x0 : Conn) (x1 : Int)  : Con Try.prog 159 (pvs [.st .conn, .sc (.int .i64)] (x0, x1, ())) [rv (.sc (.int .i64)) [] (w_szConn x0 x1)] := by
  exact evalFn_con0 teFact mixFact (orcOf_ok _) Try.func159 (by kernel_rfl) ((w_szConn_lk x0 x1).trans (w_szConn_p x0 x1  _ _ _))
noncomputable def w_szConn_e : Ent1 Try.prog := entA 159 [.st .conn, .sc (.int .i64)] (fun x => (w_szConn x.1 x.2.1)) (fun v => [rv (.sc (.int .i64)) [] v]) (fun x => w_szConn_c x.1 x.2.1)

theorem w_szConn_sm (x0 : Conn) (x1 : Int)  (hn : 0 ≤ x1 ∧ x1 ≤ 1048576) (hx0_s_data : List.length x0.s.data ≤ 4611686018427387904) (hx0_r_data : List.length x0.r.data ≤ 4611686018427387904) (hx0_r_held : x0.r.held.length ≤ 140737488355328) (hx0_r_held_e : ∀ y ∈ x0.r.held, ∀ c ∈ Ty.cells .piec y, FactC c) : (fun v : Int => 0 ≤ v → v ≤ 1048576 ∧ List.length x0.s.data ≤ 1048576 ∧ List.length x0.r.data ≤ 1048576 ∧ x0.r.held.length ≤ 1048576) (w_szConn x0 x1) := by
  unfold w_szConn
  exact letP (P := (fun v : Int => 0 ≤ v → v ≤ 1048576 ∧ List.length x0.s.data ≤ 1048576 ∧ List.length x0.r.data ≤ 1048576 ∧ x0.r.held.length ≤ 1048576)) (fun c1 hc1 => have kc1 := w_szSender_sm x0.s x1 (by grind [wrap64]) (by assumption); bifP (P := (fun v : Int => 0 ≤ v → v ≤ 1048576 ∧ List.length x0.s.data ≤ 1048576 ∧ List.length x0.r.data ≤ 1048576 ∧ x0.r.held.length ≤ 1048576)) (fun b0 => (by (try simp only [Nat.ble_eq, Bool.and_eq_true, decide_eq_true_eq]); grind [maxSl, maxStr, toBytes_length, toInts_length, List.length_set, wrap64, w_szSender_sm, w_szReceiver_sm]))
      (fun b0 => letP (P := (fun v : Int => 0 ≤ v → v ≤ 1048576 ∧ List.length x0.s.data ≤ 1048576 ∧ List.length x0.r.data ≤ 1048576 ∧ x0.r.held.length ≤ 1048576)) (fun c2 hc2 => have kc2 := w_szReceiver_sm x0.r c1 (by grind [wrap64]) (by assumption) (by assumption) (by assumption); bifP (P := (fun v : Int => 0 ≤ v → v ≤ 1048576 ∧ List.length x0.s.data ≤ 1048576 ∧ List.length x0.r.data ≤ 1048576 ∧ x0.r.held.length ≤ 1048576)) (fun b1 => (by (try simp only [Nat.ble_eq, Bool.and_eq_true, decide_eq_true_eq]); grind [maxSl, maxStr, toBytes_length, toInts_length, List.length_set, wrap64, w_szSender_sm, w_szReceiver_sm]))
      (fun b1 => (by (try simp only [Nat.ble_eq, Bool.and_eq_true, decide_eq_true_eq]); grind [maxSl, maxStr, toBytes_length, toInts_length, List.length_set, wrap64, w_szSender_sm, w_szReceiver_sm])))))

/-- laws.szConnS -/
def w_szConnS_ann : List (Nat × Keep) := [(0, ⟨[0, 1, 5], [], false, 0⟩)]
def w_szConnS_L0_sh : Sh := ⟨[(0, false, [.sl .arg .conn]), (1, false, [.int .i64]), (5, false, [.int .i64])], []⟩
def w_szConnS_L0_es : List (Ex × Sh) := [(.ret, ⟨[(1, false, [.int .i64]), (4, false, [.int .i64])], []⟩), (.exit 0, ⟨[(1, false, [.int .i64]), (4, false, [.undef])], []⟩)]
def w_szConnS_L0_mk (v0 : List Conn) (v1 : Int) (v2 : Int) : w_szConnS_L0_sh.T := (((v0, ()), ((v1, ()), ((v2, ()), ()))), ())
def w_szConnS_L0_mx0 (y0 : Int) (y1 : Int) : Sh.T ⟨[(1, false, [.int .i64]), (4, false, [.int .i64])], []⟩ := (((y0, ()), ((y1, ()), ())), ())
def w_szConnS_L0_mx1 (y0 : Int) : Sh.T ⟨[(1, false, [.int .i64]), (4, false, [.undef])], []⟩ := (((y0, ()), (((), ()), ())), ())
def w_szConnS_L0_B (v0 : List Conn) (v1 : Int) (v2 : Int) (γ : Type) (fail : γ) (next : w_szConnS_L0_sh.T → γ) (out : WT w_szConnS_L0_es → γ) : γ :=
  bif (decide (v2 < (v0.length : Int))) then
    bif ((decide (0 ≤ v2)) && (decide (v2 < (v0.length : Int)))) then
    letK (α := Int) (w_szConn (v0.getD v2.toNat (Ty.zero .conn)) v1) fun c1 =>
    bif (decide (c1 < 0)) then
      out (Sum.inl (w_szConnS_L0_mx0 c1 (-1)))
    else
    next (w_szConnS_L0_mk v0 c1 (IntKind.wrap .i64 (v2 + 1)))
    else fail
  else
  out (Sum.inr (w_szConnS_L0_mx1 v1))
theorem w_szConnS_L0_par (v0 : List Conn) (v1 : Int) (v2 : Int) (γ : Type) (fail : γ) (next : w_szConnS_L0_sh.T → γ) (out : WT w_szConnS_L0_es → γ) : w_szConnS_L0_B v0 v1 v2 γ fail next out = optK (w_szConnS_L0_B v0 v1 v2 _ none (fun v' => some (.inl v')) (fun w => some (.inr w))) fail (fun r => Sum.elim next out r) := by
  unfold w_szConnS_L0_B
  exact bifT (f := (fun o => optK o fail (fun r => Sum.elim next out r))) (fun _ => bifT (f := (fun o => optK o fail (fun r => Sum.elim next out r))) (fun _ => letT (f := (fun o => optK o fail (fun r => Sum.elim next out r))) (fun c1 _ => bifT (f := (fun o => optK o fail (fun r => Sum.elim next out r))) (fun _ => rfl)
      (fun _ => rfl))) (fun _ => rfl))
      (fun _ => rfl)
def w_szConnS_L0_r : Round w_szConnS_L0_sh.T (WT w_szConnS_L0_es) where
  B v γ fail next out := w_szConnS_L0_B v.1.1.1 v.1.2.1.1 v.1.2.2.1.1 γ fail next out
  par v γ fail next out := w_szConnS_L0_par v.1.1.1 v.1.2.1.1 v.1.2.2.1.1 γ fail next out
def w_szConnS_L0_fu (v0 : List Conn) (v1 : Int) (v2 : Int) : Nat := (Int.toNat ((v0.length : Int) - v2)) + 1
theorem w_szConnS_L0_lk (v : w_szConnS_L0_sh.T) (next : St → Option Res) (k : Ex → St → Option Res) : evalK te (orcOf (P := Try.prog) [w_szConn_e]) (lorcOf []) Try.f120.ntmps w_szConnS_ann (nthLoop (bodyOf Try.f120) 0 0) 0 (w_szConnS_L0_sh.enc v) (endK ⟨[0, 1, 5], [], false, 0⟩ ⟨[1, 4], [], false, 0⟩ next k) =
  w_szConnS_L0_r.B v _ none (fun v' => next (w_szConnS_L0_sh.enc v')) (fun w => outK w_szConnS_L0_es k w) := by kernel_rfl
def w_szConnS_L0_le : LE := leOf 0 w_szConnS_L0_sh w_szConnS_L0_es w_szConnS_L0_r.step (fun v => w_szConnS_L0_fu v.1.1.1 v.1.2.1.1 v.1.2.2.1.1)
theorem w_szConnS_L0_ls (w0 : World) (mo : Mts) (I0 : Nat → Prop) (hmo : mo.length = 0) : LSem Try.prog (Sim w0 mo Try.f120.ntmps I0) (fun b s k => match Nat.beq 0 b with | true => w_szConnS_L0_le.run s k | false => none) 0 (nthLoop (bodyOf Try.f120) 0 0) :=
  le_sem hmo (lorc := lorcOf []) (ann := w_szConnS_ann) (keep := ⟨[0, 1, 5], [], false, 0⟩) (kout := ⟨[1, 4], [], false, 0⟩) teFact mixFact (orcOf_ok _) (by kernel_rfl) (allLoops_of (bs := []) (by kernel_rfl) trivial) w_szConnS_L0_r _ w_szConnS_L0_lk
def w_szConnS_L0_f (v0 : List Conn) (v2 : Int) (a : Int) : Stp (Int) ((Int)) :=
  letK (α := Int) (w_szConn (v0.getD v2.toNat (Ty.zero .conn)) a) fun c1 =>
  bif (decide (c1 < 0)) then
    .out (c1)
  else
  .next c1
theorem w_szConnS_L0_st (v0 : List Conn) (v1 : Int) (v2 : Int) (hlo : 0 ≤ v2) (hhi : v2 < (v0.length : Int)) (hN : (v0.length : Int) ≤ 4611686018427387904) : w_szConnS_L0_r.step (w_szConnS_L0_mk v0 v1 v2) = Stp.elim (fun a' : Int => some (Sum.inl (w_szConnS_L0_mk v0 a' (v2 + 1)))) (fun w => some (Sum.inr ((fun p : Int => Sum.inl (w_szConnS_L0_mx0 p (-1))) w))) (w_szConnS_L0_f v0 v2 v1) := by
  have hw : (IntKind.wrap .i64 (v2 + 1)) = v2 + 1 := wrap64 (by omega) (by omega)
  show w_szConnS_L0_B v0 v1 v2 (Option (w_szConnS_L0_sh.T ⊕ WT w_szConnS_L0_es)) none (fun v' => some (Sum.inl v')) (fun w => some (Sum.inr w)) = _
  unfold w_szConnS_L0_B w_szConnS_L0_f
  exact bifG (by simp only [decide_eq_true_eq]; omega) (bifG (by (try simp only [Nat.ble_eq, Bool.and_eq_true, decide_eq_true_eq]); grind [maxSl, maxStr, toBytes_length, toInts_length, List.length_set, wrap64, w_szConn_sm]) (letT (f := (Stp.elim (fun a' : Int => some (Sum.inl (w_szConnS_L0_mk v0 a' (v2 + 1)))) (fun w => some (Sum.inr ((fun p : Int => Sum.inl (w_szConnS_L0_mx0 p (-1))) w))))) (fun c1 hc1 => bifT (f := (Stp.elim (fun a' : Int => some (Sum.inl (w_szConnS_L0_mk v0 a' (v2 + 1)))) (fun w => some (Sum.inr ((fun p : Int => Sum.inl (w_szConnS_L0_mx0 p (-1))) w))))) (fun b0 => rfl)
      (fun b0 => (by exact congrArg (fun z => some (Sum.inl (w_szConnS_L0_mk v0 c1 z))) hw)))))
theorem w_szConnS_L0_cl (v0 : List Conn) (v1 : Int) (v2 : Int) (h0 : 0 ≤ v2) (h1 : (v0.length : Int) ≤ 4611686018427387904) : loopF w_szConnS_L0_r.step (w_szConnS_L0_fu v0 v1 v2) (w_szConnS_L0_mk v0 v1 v2) = some (Stp.elim (fun a => (fun i a => Sum.inr (w_szConnS_L0_mx1 a)) (v2 + 1 * (((Int.toNat ((v0.length : Int) - v2)) : Nat) : Int)) a) (fun p : Int => Sum.inl (w_szConnS_L0_mx0 p (-1))) (forN (w_szConnS_L0_f v0) 1 (Int.toNat ((v0.length : Int) - v2)) v2 v1)) :=
  forN_loop (step := w_szConnS_L0_r.step) (mk := fun v2 a => w_szConnS_L0_mk v0 a v2) (f := w_szConnS_L0_f v0) (e := (fun i a => Sum.inr (w_szConnS_L0_mx1 a))) (emb := (fun p : Int => Sum.inl (w_szConnS_L0_mx0 p (-1)))) (st := 1) (Inv := fun v2 a => True) (Int.toNat ((v0.length : Int) - v2)) v2 v1 _ (Nat.lt_succ_self _) trivial
    (fun j a hj hv => ⟨w_szConnS_L0_st v0 a (v2 + 1 * (j : Int)) (by omega) (by omega) (by omega), fun _ _ => trivial⟩)
    (fun a hv => by
      show w_szConnS_L0_B v0 a (v2 + 1 * (((Int.toNat ((v0.length : Int) - v2)) : Nat) : Int)) (Option (w_szConnS_L0_sh.T ⊕ WT w_szConnS_L0_es)) none (fun v' => some (Sum.inl v')) (fun w => some (Sum.inr w)) = _
      unfold w_szConnS_L0_B
      exact bifN (by simp only [decide_eq_false_iff_not]; omega) rfl)
def w_szConnS_N (x0 : List Conn) (x1 : Int) (γ : Type) (fail : γ) (k : Int → γ) : γ :=
  bif (decide ((IntKind.wrap .i64 (x1 - (x0.length : Int))) < 0)) then
    k (-1)
  else
  optK (loopF w_szConnS_L0_r.step (w_szConnS_L0_fu x0 (IntKind.wrap .i64 (x1 - (x0.length : Int))) 0) (w_szConnS_L0_mk x0 (IntKind.wrap .i64 (x1 - (x0.length : Int))) 0)) fail fun w2 =>
    Sum.elim (fun w2 =>
      k w2.1.2.1.1)
    (fun w2 =>
      k w2.1.1.1) w2
def w_szConnS (x0 : List Conn) (x1 : Int) : Int :=
  bif (decide ((IntKind.wrap .i64 (x1 - (x0.length : Int))) < 0)) then
    (-1)
  else
  Stp.elim (fun a3 =>
    a3)
    (fun p3 =>
      (-1))
    (forN (w_szConnS_L0_f x0) 1 (Int.toNat ((x0.length : Int) - 0)) 0 (IntKind.wrap .i64 (x1 - (x0.length : Int))))
theorem w_szConnS_lk (x0 : List Conn) (x1 : Int) : evalFn te (orcOf (P := Try.prog) [w_szConn_e]) (lorcOf [w_szConnS_L0_le]) w_szConnS_ann Try.f120 (pvs [.sc (.sl .conn), .sc (.int .i64)] (x0, x1, ())) =
  w_szConnS_N x0 x1 _ none (fun v => some [(false, [RC.c (.int .i64 v)])]) := by kernel_rfl
theorem w_szConnS_p (x0 : List Conn) (x1 : Int) (hx0 : x0.length ≤ 140737488355328) (hx0_e : ∀ y ∈ x0, ∀ c ∈ Ty.cells .conn y, FactC c) (hx1 : inK .i64 x1)  (γ : Type) (fail : γ) (k : Int → γ) : w_szConnS_N x0 x1 γ fail k = k (w_szConnS x0 x1) := by
  unfold w_szConnS_N w_szConnS
  exact bifT (f := k) (fun b0 => rfl)
      (fun b0 => loopT (f := k) (w_szConnS_L0_cl x0 (IntKind.wrap .i64 (x1 - (x0.length : Int))) 0 (by (try simp only [Nat.ble_eq, Bool.and_eq_true, decide_eq_true_eq, w_szConnS_L0_mx0, w_szConnS_L0_mx1]); grind [maxSl, maxStr, toBytes_length, toInts_length, List.length_set, wrap64, w_szConn_sm]) (by (try simp only [Nat.ble_eq, Bool.and_eq_true, decide_eq_true_eq, w_szConnS_L0_mx0, w_szConnS_L0_mx1]); grind [maxSl, maxStr, toBytes_length, toInts_length, List.length_set, wrap64, w_szConn_sm])) (fun a3 => rfl)
      (fun p3 => rfl))
theorem w_szConnS_c (x0 : List Conn) (x1 : Int)  : Con Try.prog 120 (pvs [.sc (.sl .conn), .sc (.int .i64)] (x0, x1, ())) [rv (.sc (.int .i64)) [] (w_szConnS x0 x1)] := by
  refine Con.of_facts (enters_of Try.func120 rfl (by kernel_rfl)) fun hf => ?_
  replace hf := factAt hf
  exact evalFn_conL teFact mixFact (orcOf_ok _) Try.func120 (by kernel_rfl) (bs := [0]) (by kernel_rfl) (by kernel_rfl) (fun w0 mo I0 hmo => ⟨lsem_of_lorc (w_szConnS_L0_ls w0 mo I0 hmo) (by kernel_rfl), trivial⟩) ((w_szConnS_lk x0 x1).trans (w_szConnS_p x0 x1 ((hf 0 0 rfl rfl).len) (fun y hy => (hf 0 0 rfl rfl).elem hy) ((hf 1 0 rfl rfl).rng) _ _ _))
noncomputable def w_szConnS_e : Ent1 Try.prog := entA 120 [.sc (.sl .conn), .sc (.int .i64)] (fun x => (w_szConnS x.1 x.2.1)) (fun v => [rv (.sc (.int .i64)) [] v]) (fun x => w_szConnS_c x.1 x.2.1)


theorem toHalfS_eq (xs : List Half) : w_toHalfS xs = xs := by
  unfold w_toHalfS
  try simp only [letK_eq]
  rw [toNat_sub0, forN_list xs _ rfl (F := fun j x a => .next (a.set j x)) (by
    intro j x a h
    simp only [w_toHalfS_L0_f, letK_eq, toNat_cast, getD_some h, toHalf_eq])]
  have := fun r hr => listN_fill (W := Empty) (fun x => x) xs 0 r hr
  rw [this _ (by simp)]
  simp [Stp.elim]

theorem w_szConnS_sm (x0 : List Conn) (x1 : Int) (hn : 0 ≤ x1 ∧ x1 ≤ 1048576) (hx0 : x0.length ≤ 140737488355328) (hx0_e : ∀ y ∈ x0, ∀ c ∈ Ty.cells .conn y, FactC c) : 0 ≤ w_szConnS x0 x1 → w_szConnS x0 x1 ≤ 1048576 ∧ x0.length ≤ 1048576 ∧ sm_conn x0 = true := by
  unfold w_szConnS
  rw [wrap64 (by omega) (by omega)]
  cases hd : decide (x1 - (x0.length : Int) < 0) with
  | true => intro h; simp only [cond_true] at h; omega
  | false =>
    simp only [decide_eq_false_iff_not] at hd
    simp only [cond_false]
    cases hf : forN (w_szConnS_L0_f x0) 1 (Int.toNat ((x0.length : Int) - 0)) 0 (x1 - (x0.length : Int)) with
    | out p => intro h; simp only [Stp.elim] at h; omega
    | next a =>
      have h5 : (0 ≤ a ∧ a ≤ 1048576) ∧ ∀ t : Nat, (t : Int) < 0 + 1 * ((Int.toNat ((x0.length : Int) - 0) : Nat) : Int) → ((x0.getD t (Ty.zero .conn)).s.data).length ≤ 1048576 ∧ ((x0.getD t (Ty.zero .conn)).r.data).length ≤ 1048576 ∧ ((x0.getD t (Ty.zero .conn)).r.held).length ≤ 1048576 := by
        refine forN_inv (Inv := fun j a => (0 ≤ a ∧ a ≤ 1048576) ∧ ∀ t : Nat, (t : Int) < j → ((x0.getD t (Ty.zero .conn)).s.data).length ≤ 1048576 ∧ ((x0.getD t (Ty.zero .conn)).r.data).length ≤ 1048576 ∧ ((x0.getD t (Ty.zero .conn)).r.held).length ≤ 1048576) _ _ _ ⟨by omega, fun t h => by omega⟩ (fun j a hjj h a2 he => ?_) a hf
        have hz : ∀ c ∈ Ty.cells .conn (x0.getD (0 + 1 * (j : Int)).toNat (Ty.zero .conn)), FactC c := getD_all (p := fun y => ∀ c ∈ Ty.cells .conn y, FactC c) (factZero _) hx0_e _
        have hq : ∀ y : Conn, (∀ c ∈ Ty.cells .conn y, FactC c) → 0 ≤ w_szConn y a → w_szConn y a ≤ 1048576 ∧ (y.s.data).length ≤ 1048576 ∧ (y.r.data).length ≤ 1048576 ∧ (y.r.held).length ≤ 1048576 := fun y hy h0 => w_szConn_sm y a h.1 (hy (.str y.s.data) (List.mem_cons_of_mem _ (List.mem_cons_of_mem _ (List.mem_cons_of_mem _ (List.mem_cons_of_mem _ (List.mem_cons_of_mem _ List.mem_cons_self)))))).slen (hy (.str y.r.data) (List.mem_cons_of_mem _ (List.mem_cons_of_mem _ (List.mem_cons_of_mem _ (List.mem_cons_of_mem _ (List.mem_cons_of_mem _ (List.mem_cons_of_mem _ (List.mem_cons_of_mem _ (List.mem_cons_of_mem _ (List.mem_cons_of_mem _ (List.mem_cons_of_mem _ (List.mem_cons_of_mem _ List.mem_cons_self)))))))))))).slen (hy (.sl .piec y.r.held) (List.mem_cons_of_mem _ (List.mem_cons_of_mem _ (List.mem_cons_of_mem _ (List.mem_cons_of_mem _ (List.mem_cons_of_mem _ (List.mem_cons_of_mem _ (List.mem_cons_of_mem _ (List.mem_cons_of_mem _ (List.mem_cons_of_mem _ (List.mem_cons_of_mem _ (List.mem_cons_of_mem _ (List.mem_cons_of_mem _ List.mem_cons_self))))))))))))).len (fun z hz => (hy (.sl .piec y.r.held) (List.mem_cons_of_mem _ (List.mem_cons_of_mem _ (List.mem_cons_of_mem _ (List.mem_cons_of_mem _ (List.mem_cons_of_mem _ (List.mem_cons_of_mem _ (List.mem_cons_of_mem _ (List.mem_cons_of_mem _ (List.mem_cons_of_mem _ (List.mem_cons_of_mem _ (List.mem_cons_of_mem _ (List.mem_cons_of_mem _ List.mem_cons_self))))))))))))).elem hz) h0
        unfold w_szConnS_L0_f at he
        simp only [letK_eq] at he
        cases hc : decide (w_szConn (x0.getD (0 + 1 * (j : Int)).toNat (Ty.zero .conn)) a < 0) <;> rw [hc] at he <;> cases he
        simp only [decide_eq_false_iff_not] at hc
        have h6 := hq _ hz (by omega)
        refine ⟨⟨by omega, h6.1⟩, fun t ht => ?_⟩
        rcases (show (t : Int) < 0 + 1 * (j : Int) ∨ t = j by omega) with h7 | h7
        · exact h.2 t h7
        · subst h7
          have h8 := h6.2
          rw [show (0 + 1 * (t : Int)).toNat = t by omega] at h8
          exact h8
      rw [toNat_sub0] at h5
      intro _; simp only [Stp.elim]; exact ⟨h5.1.2, by omega, sm_conn_of fun t ht => h5.2 t (by omega)⟩

theorem eqHalf_refl (x : Half) : w_eqHalf x x = true := by simp [w_eqHalf, letK, eqTuple_refl, eqOptions_refl]

theorem eqTupleS_refl (xs : List Tupl) : w_eqTupleS xs xs = true := by
  unfold w_eqTupleS
  rw [toNat_sub0, forN_list xs _ rfl (F := fun j x a => bif (fun _ => false) x then .out () else .next ()) (by
    intro j x a h
    simp [w_eqTupleS_L0_f, letK, toNat_cast, eqTuple_refl])]
  rw [listN_all xs 0 (by simp)]
  simp [Stp.elim]

theorem toEntryS_eq (xs : List Entr) : w_toEntryS xs = xs := by
  unfold w_toEntryS
  try simp only [letK_eq]
  rw [toNat_sub0, forN_list xs _ rfl (F := fun j x a => .next (a.set j x)) (by
    intro j x a h
    simp only [w_toEntryS_L0_f, letK_eq, toNat_cast, getD_some h, toEntry_eq])]
  have := fun r hr => listN_fill (W := Empty) (fun x => x) xs 0 r hr
  rw [this _ (by simp)]
  simp [Stp.elim]

theorem eqEntryS_refl (xs : List Entr) : w_eqEntryS xs xs = true := by
  unfold w_eqEntryS
  rw [toNat_sub0, forN_list xs _ rfl (F := fun j x a => bif (fun _ => false) x then .out () else .next ()) (by
    intro j x a h
    simp [w_eqEntryS_L0_f, letK, toNat_cast, eqEntry_refl])]
  rw [listN_all xs 0 (by simp)]
  simp [Stp.elim]

theorem toMacRowS_eq (xs : List MacRow) : w_toMacRowS xs = xs := by
  unfold w_toMacRowS
  try simp only [letK_eq]
  rw [toNat_sub0, forN_list xs _ rfl (F := fun j x a => .next (a.set j x)) (by
    intro j x a h
    simp only [w_toMacRowS_L0_f, letK_eq, toNat_cast, getD_some h, toMacRow_eq])]
  have := fun r hr => listN_fill (W := Empty) (fun x => x) xs 0 r hr
  rw [this _ (by simp)]
  simp [Stp.elim]

theorem eqMacRowS_refl (xs : List MacRow) : w_eqMacRowS xs xs = true := by
  unfold w_eqMacRowS
  rw [toNat_sub0, forN_list xs _ rfl (F := fun j x a => bif (fun _ => false) x then .out () else .next ()) (by
    intro j x a h
    simp [w_eqMacRowS_L0_f, letK, toNat_cast, eqMacRow_refl])]
  rw [listN_all xs 0 (by simp)]
  simp [Stp.elim]

theorem toPieceS_eq (xs : List Piec) : w_toPieceS xs = xs := by
  unfold w_toPieceS
  try simp only [letK_eq]
  rw [toNat_sub0, forN_list xs _ rfl (F := fun j x a => .next (a.set j x)) (by
    intro j x a h
    simp only [w_toPieceS_L0_f, letK_eq, toNat_cast, getD_some h, toPiece_eq])]
  have := fun r hr => listN_fill (W := Empty) (fun x => x) xs 0 r hr
  rw [this _ (by simp)]
  simp [Stp.elim]

theorem eqPieceS_refl (xs : List Piec) : w_eqPieceS xs xs = true := by
  unfold w_eqPieceS
  rw [toNat_sub0, forN_list xs _ rfl (F := fun j x a => bif (fun _ => false) x then .out () else .next ()) (by
    intro j x a h
    simp [w_eqPieceS_L0_f, letK, toNat_cast, eqPiece_refl])]
  rw [listN_all xs 0 (by simp)]
  simp [Stp.elim]

/-- laws.szTable -/
def w_szTable_N (x0 : Tabl) (x1 : Int) (γ : Type) (fail : γ) (k : Int → γ) : γ :=
  letK (α := Int) (w_szConnS x0.conns x1) fun c1 =>
  bif (decide (c1 < 0)) then
    k (-1)
  else
  letK (α := Int) (w_szTupleS x0.waiting c1) fun c2 =>
  bif (decide (c2 < 0)) then
    k (-1)
  else
  k c2
def w_szTable (x0 : Tabl) (x1 : Int) : Int :=
  letK (α := Int) (w_szConnS x0.conns x1) fun c1 =>
  bif (decide (c1 < 0)) then
    (-1)
  else
  letK (α := Int) (w_szTupleS x0.waiting c1) fun c2 =>
  bif (decide (c2 < 0)) then
    (-1)
  else
  c2
theorem w_szTable_lk (x0 : Tabl) (x1 : Int) : evalFn te (orcOf (P := Try.prog) [w_szConnS_e, w_szTupleS_e]) lorc0 [] Try.f71 (pvs [.st .tabl, .sc (.int .i64)] (x0, x1, ())) =
  w_szTable_N x0 x1 _ none (fun v => some [(false, [RC.c (.int .i64 v)])]) := by kernel_rfl
theorem w_szTable_p (x0 : Tabl) (x1 : Int)   (γ : Type) (fail : γ) (k : Int → γ) : w_szTable_N x0 x1 γ fail k = k (w_szTable x0 x1) := by
  unfold w_szTable_N w_szTable
  exact letT (f := k) (fun c1 hc1 => bifT (f := k) (fun b0 => rfl)
      (fun b0 => letT (f := k) (fun c2 hc2 => bifT (f := k) (fun b1 => rfl)
      (fun b1 => rfl))))
theorem w_szTable_c (x0 : Tabl) (x1 : Int)  : Con Try.prog 71 (pvs [.st .tabl, .sc (.int .i64)] (x0, x1, ())) [rv (.sc (.int .i64)) [] (w_szTable x0 x1)] := by
  exact evalFn_con0 teFact mixFact (orcOf_ok _) Try.func71 (by kernel_rfl) ((w_szTable_lk x0 x1).trans (w_szTable_p x0 x1  _ _ _))
noncomputable def w_szTable_e : Ent1 Try.prog := entA 71 [.st .tabl, .sc (.int .i64)] (fun x => (w_szTable x.1 x.2.1)) (fun v => [rv (.sc (.int .i64)) [] v]) (fun x => w_szTable_c x.1 x.2.1)

theorem w_szTable_sm (x0 : Tabl) (x1 : Int)  (hn : 0 ≤ x1 ∧ x1 ≤ 1048576) (hx0_conns : x0.conns.length ≤ 140737488355328) (hx0_conns_e : ∀ y ∈ x0.conns, ∀ c ∈ Ty.cells .conn y, FactC c) (hx0_waiting : x0.waiting.length ≤ 140737488355328) : (fun v : Int => 0 ≤ v → v ≤ 1048576 ∧ x0.conns.length ≤ 1048576 ∧ x0.waiting.length ≤ 1048576 ∧ sm_conn x0.conns = true) (w_szTable x0 x1) := by
  unfold w_szTable
  exact letP (P := (fun v : Int => 0 ≤ v → v ≤ 1048576 ∧ x0.conns.length ≤ 1048576 ∧ x0.waiting.length ≤ 1048576 ∧ sm_conn x0.conns = true)) (fun c1 hc1 => have kc1 := w_szConnS_sm x0.conns x1 (by grind [wrap64]) (by assumption) (by assumption); bifP (P := (fun v : Int => 0 ≤ v → v ≤ 1048576 ∧ x0.conns.length ≤ 1048576 ∧ x0.waiting.length ≤ 1048576 ∧ sm_conn x0.conns = true)) (fun b0 => (by (try simp only [Nat.ble_eq, Bool.and_eq_true, decide_eq_true_eq]); grind [maxSl, maxStr, toBytes_length, toInts_length, List.length_set, wrap64, w_szConnS_sm, w_szTupleS_sm]))
      (fun b0 => letP (P := (fun v : Int => 0 ≤ v → v ≤ 1048576 ∧ x0.conns.length ≤ 1048576 ∧ x0.waiting.length ≤ 1048576 ∧ sm_conn x0.conns = true)) (fun c2 hc2 => have kc2 := w_szTupleS_sm x0.waiting c1 (by grind [wrap64]) (by assumption); bifP (P := (fun v : Int => 0 ≤ v → v ≤ 1048576 ∧ x0.conns.length ≤ 1048576 ∧ x0.waiting.length ≤ 1048576 ∧ sm_conn x0.conns = true)) (fun b1 => (by (try simp only [Nat.ble_eq, Bool.and_eq_true, decide_eq_true_eq]); grind [maxSl, maxStr, toBytes_length, toInts_length, List.length_set, wrap64, w_szConnS_sm, w_szTupleS_sm]))
      (fun b1 => (by (try simp only [Nat.ble_eq, Bool.and_eq_true, decide_eq_true_eq]); grind [maxSl, maxStr, toBytes_length, toInts_length, List.length_set, wrap64, w_szConnS_sm, w_szTupleS_sm])))))

/-- laws.szDoor -/
def w_szDoor_N (x0 : Door) (x1 : Int) (γ : Type) (fail : γ) (k : Int → γ) : γ :=
  letK (α := Int) (w_szKeys x0.keys x1) fun c1 =>
  bif (decide (c1 < 0)) then
    k (-1)
  else
  letK (α := Int) (w_szHalfS x0.halves c1) fun c2 =>
  bif (decide (c2 < 0)) then
    k (-1)
  else
  letK (α := Int) (w_szTable x0.table c2) fun c3 =>
  bif (decide (c3 < 0)) then
    k (-1)
  else
  k c3
def w_szDoor (x0 : Door) (x1 : Int) : Int :=
  letK (α := Int) (w_szKeys x0.keys x1) fun c1 =>
  bif (decide (c1 < 0)) then
    (-1)
  else
  letK (α := Int) (w_szHalfS x0.halves c1) fun c2 =>
  bif (decide (c2 < 0)) then
    (-1)
  else
  letK (α := Int) (w_szTable x0.table c2) fun c3 =>
  bif (decide (c3 < 0)) then
    (-1)
  else
  c3
theorem w_szDoor_lk (x0 : Door) (x1 : Int) : evalFn te (orcOf (P := Try.prog) [w_szKeys_e, w_szHalfS_e, w_szTable_e]) lorc0 [] Try.f23 (pvs [.st .door, .sc (.int .i64)] (x0, x1, ())) =
  w_szDoor_N x0 x1 _ none (fun v => some [(false, [RC.c (.int .i64 v)])]) := by kernel_rfl
theorem w_szDoor_p (x0 : Door) (x1 : Int)   (γ : Type) (fail : γ) (k : Int → γ) : w_szDoor_N x0 x1 γ fail k = k (w_szDoor x0 x1) := by
  unfold w_szDoor_N w_szDoor
  exact letT (f := k) (fun c1 hc1 => bifT (f := k) (fun b0 => rfl)
      (fun b0 => letT (f := k) (fun c2 hc2 => bifT (f := k) (fun b1 => rfl)
      (fun b1 => letT (f := k) (fun c3 hc3 => bifT (f := k) (fun b2 => rfl)
      (fun b2 => rfl))))))
theorem w_szDoor_c (x0 : Door) (x1 : Int)  : Con Try.prog 23 (pvs [.st .door, .sc (.int .i64)] (x0, x1, ())) [rv (.sc (.int .i64)) [] (w_szDoor x0 x1)] := by
  exact evalFn_con0 teFact mixFact (orcOf_ok _) Try.func23 (by kernel_rfl) ((w_szDoor_lk x0 x1).trans (w_szDoor_p x0 x1  _ _ _))
noncomputable def w_szDoor_e : Ent1 Try.prog := entA 23 [.st .door, .sc (.int .i64)] (fun x => (w_szDoor x.1 x.2.1)) (fun v => [rv (.sc (.int .i64)) [] v]) (fun x => w_szDoor_c x.1 x.2.1)

theorem w_szDoor_sm (x0 : Door) (x1 : Int)  (hn : 0 ≤ x1 ∧ x1 ≤ 1048576) (hx0_keys_now_rows : x0.keys.now.rows.length ≤ 140737488355328) (hx0_keys_now_rows_e : ∀ y ∈ x0.keys.now.rows, ∀ c ∈ Ty.cells .macRow y, FactC c) (hx0_keys_before_rows : x0.keys.before.rows.length ≤ 140737488355328) (hx0_keys_before_rows_e : ∀ y ∈ x0.keys.before.rows, ∀ c ∈ Ty.cells .macRow y, FactC c) (hx0_halves : x0.halves.length ≤ 140737488355328) (hx0_table_conns : x0.table.conns.length ≤ 140737488355328) (hx0_table_conns_e : ∀ y ∈ x0.table.conns, ∀ c ∈ Ty.cells .conn y, FactC c) (hx0_table_waiting : x0.table.waiting.length ≤ 140737488355328) : (fun v : Int => 0 ≤ v → v ≤ 1048576 ∧ x0.keys.now.rows.length ≤ 1048576 ∧ x0.keys.before.rows.length ≤ 1048576 ∧ x0.halves.length ≤ 1048576 ∧ x0.table.conns.length ≤ 1048576 ∧ x0.table.waiting.length ≤ 1048576 ∧ sm_conn x0.table.conns = true) (w_szDoor x0 x1) := by
  unfold w_szDoor
  exact letP (P := (fun v : Int => 0 ≤ v → v ≤ 1048576 ∧ x0.keys.now.rows.length ≤ 1048576 ∧ x0.keys.before.rows.length ≤ 1048576 ∧ x0.halves.length ≤ 1048576 ∧ x0.table.conns.length ≤ 1048576 ∧ x0.table.waiting.length ≤ 1048576 ∧ sm_conn x0.table.conns = true)) (fun c1 hc1 => have kc1 := w_szKeys_sm x0.keys x1 (by grind [wrap64]) (by assumption) (by assumption) (by assumption) (by assumption); bifP (P := (fun v : Int => 0 ≤ v → v ≤ 1048576 ∧ x0.keys.now.rows.length ≤ 1048576 ∧ x0.keys.before.rows.length ≤ 1048576 ∧ x0.halves.length ≤ 1048576 ∧ x0.table.conns.length ≤ 1048576 ∧ x0.table.waiting.length ≤ 1048576 ∧ sm_conn x0.table.conns = true)) (fun b0 => (by (try simp only [Nat.ble_eq, Bool.and_eq_true, decide_eq_true_eq]); grind [maxSl, maxStr, toBytes_length, toInts_length, List.length_set, wrap64, w_szKeys_sm, w_szHalfS_sm, w_szTable_sm]))
      (fun b0 => letP (P := (fun v : Int => 0 ≤ v → v ≤ 1048576 ∧ x0.keys.now.rows.length ≤ 1048576 ∧ x0.keys.before.rows.length ≤ 1048576 ∧ x0.halves.length ≤ 1048576 ∧ x0.table.conns.length ≤ 1048576 ∧ x0.table.waiting.length ≤ 1048576 ∧ sm_conn x0.table.conns = true)) (fun c2 hc2 => have kc2 := w_szHalfS_sm x0.halves c1 (by grind [wrap64]) (by assumption); bifP (P := (fun v : Int => 0 ≤ v → v ≤ 1048576 ∧ x0.keys.now.rows.length ≤ 1048576 ∧ x0.keys.before.rows.length ≤ 1048576 ∧ x0.halves.length ≤ 1048576 ∧ x0.table.conns.length ≤ 1048576 ∧ x0.table.waiting.length ≤ 1048576 ∧ sm_conn x0.table.conns = true)) (fun b1 => (by (try simp only [Nat.ble_eq, Bool.and_eq_true, decide_eq_true_eq]); grind [maxSl, maxStr, toBytes_length, toInts_length, List.length_set, wrap64, w_szKeys_sm, w_szHalfS_sm, w_szTable_sm]))
      (fun b1 => letP (P := (fun v : Int => 0 ≤ v → v ≤ 1048576 ∧ x0.keys.now.rows.length ≤ 1048576 ∧ x0.keys.before.rows.length ≤ 1048576 ∧ x0.halves.length ≤ 1048576 ∧ x0.table.conns.length ≤ 1048576 ∧ x0.table.waiting.length ≤ 1048576 ∧ sm_conn x0.table.conns = true)) (fun c3 hc3 => have kc3 := w_szTable_sm x0.table c2 (by grind [wrap64]) (by assumption) (by assumption) (by assumption); bifP (P := (fun v : Int => 0 ≤ v → v ≤ 1048576 ∧ x0.keys.now.rows.length ≤ 1048576 ∧ x0.keys.before.rows.length ≤ 1048576 ∧ x0.halves.length ≤ 1048576 ∧ x0.table.conns.length ≤ 1048576 ∧ x0.table.waiting.length ≤ 1048576 ∧ sm_conn x0.table.conns = true)) (fun b2 => (by (try simp only [Nat.ble_eq, Bool.and_eq_true, decide_eq_true_eq]); grind [maxSl, maxStr, toBytes_length, toInts_length, List.length_set, wrap64, w_szKeys_sm, w_szHalfS_sm, w_szTable_sm]))
      (fun b2 => (by (try simp only [Nat.ble_eq, Bool.and_eq_true, decide_eq_true_eq]); grind [maxSl, maxStr, toBytes_length, toInts_length, List.length_set, wrap64, w_szKeys_sm, w_szHalfS_sm, w_szTable_sm])))))))

/-- laws.szStack -/
def w_szStack_N (x0 : Stac) (x1 : Int) (γ : Type) (fail : γ) (k : Int → γ) : γ :=
  letK (α := Int) (w_szLink x0.link x1) fun c1 =>
  bif (decide (c1 < 0)) then
    k (-1)
  else
  letK (α := Int) (w_szDoor x0.door c1) fun c2 =>
  bif (decide (c2 < 0)) then
    k (-1)
  else
  k c2
def w_szStack (x0 : Stac) (x1 : Int) : Int :=
  letK (α := Int) (w_szLink x0.link x1) fun c1 =>
  bif (decide (c1 < 0)) then
    (-1)
  else
  letK (α := Int) (w_szDoor x0.door c1) fun c2 =>
  bif (decide (c2 < 0)) then
    (-1)
  else
  c2
theorem w_szStack_lk (x0 : Stac) (x1 : Int) : evalFn te (orcOf (P := Try.prog) [w_szLink_e, w_szDoor_e]) lorc0 [] Try.f28 (pvs [.st .stac, .sc (.int .i64)] (x0, x1, ())) =
  w_szStack_N x0 x1 _ none (fun v => some [(false, [RC.c (.int .i64 v)])]) := by kernel_rfl
theorem w_szStack_p (x0 : Stac) (x1 : Int)   (γ : Type) (fail : γ) (k : Int → γ) : w_szStack_N x0 x1 γ fail k = k (w_szStack x0 x1) := by
  unfold w_szStack_N w_szStack
  exact letT (f := k) (fun c1 hc1 => bifT (f := k) (fun b0 => rfl)
      (fun b0 => letT (f := k) (fun c2 hc2 => bifT (f := k) (fun b1 => rfl)
      (fun b1 => rfl))))
theorem w_szStack_c (x0 : Stac) (x1 : Int)  : Con Try.prog 28 (pvs [.st .stac, .sc (.int .i64)] (x0, x1, ())) [rv (.sc (.int .i64)) [] (w_szStack x0 x1)] := by
  exact evalFn_con0 teFact mixFact (orcOf_ok _) Try.func28 (by kernel_rfl) ((w_szStack_lk x0 x1).trans (w_szStack_p x0 x1  _ _ _))
noncomputable def w_szStack_e : Ent1 Try.prog := entA 28 [.st .stac, .sc (.int .i64)] (fun x => (w_szStack x.1 x.2.1)) (fun v => [rv (.sc (.int .i64)) [] v]) (fun x => w_szStack_c x.1 x.2.1)

theorem w_szStack_sm (x0 : Stac) (x1 : Int)  (hn : 0 ≤ x1 ∧ x1 ≤ 1048576) (hx0_link_cache : x0.link.cache.length ≤ 140737488355328) (hx0_door_keys_now_rows : x0.door.keys.now.rows.length ≤ 140737488355328) (hx0_door_keys_now_rows_e : ∀ y ∈ x0.door.keys.now.rows, ∀ c ∈ Ty.cells .macRow y, FactC c) (hx0_door_keys_before_rows : x0.door.keys.before.rows.length ≤ 140737488355328) (hx0_door_keys_before_rows_e : ∀ y ∈ x0.door.keys.before.rows, ∀ c ∈ Ty.cells .macRow y, FactC c) (hx0_door_halves : x0.door.halves.length ≤ 140737488355328) (hx0_door_table_conns : x0.door.table.conns.length ≤ 140737488355328) (hx0_door_table_conns_e : ∀ y ∈ x0.door.table.conns, ∀ c ∈ Ty.cells .conn y, FactC c) (hx0_door_table_waiting : x0.door.table.waiting.length ≤ 140737488355328) : (fun v : Int => 0 ≤ v → v ≤ 1048576 ∧ x0.link.cache.length ≤ 1048576 ∧ x0.door.keys.now.rows.length ≤ 1048576 ∧ x0.door.keys.before.rows.length ≤ 1048576 ∧ x0.door.halves.length ≤ 1048576 ∧ x0.door.table.conns.length ≤ 1048576 ∧ x0.door.table.waiting.length ≤ 1048576 ∧ sm_conn x0.door.table.conns = true) (w_szStack x0 x1) := by
  unfold w_szStack
  exact letP (P := (fun v : Int => 0 ≤ v → v ≤ 1048576 ∧ x0.link.cache.length ≤ 1048576 ∧ x0.door.keys.now.rows.length ≤ 1048576 ∧ x0.door.keys.before.rows.length ≤ 1048576 ∧ x0.door.halves.length ≤ 1048576 ∧ x0.door.table.conns.length ≤ 1048576 ∧ x0.door.table.waiting.length ≤ 1048576 ∧ sm_conn x0.door.table.conns = true)) (fun c1 hc1 => have kc1 := w_szLink_sm x0.link x1 (by grind [wrap64]) (by assumption); bifP (P := (fun v : Int => 0 ≤ v → v ≤ 1048576 ∧ x0.link.cache.length ≤ 1048576 ∧ x0.door.keys.now.rows.length ≤ 1048576 ∧ x0.door.keys.before.rows.length ≤ 1048576 ∧ x0.door.halves.length ≤ 1048576 ∧ x0.door.table.conns.length ≤ 1048576 ∧ x0.door.table.waiting.length ≤ 1048576 ∧ sm_conn x0.door.table.conns = true)) (fun b0 => (by (try simp only [Nat.ble_eq, Bool.and_eq_true, decide_eq_true_eq]); grind [maxSl, maxStr, toBytes_length, toInts_length, List.length_set, wrap64, w_szLink_sm, w_szDoor_sm]))
      (fun b0 => letP (P := (fun v : Int => 0 ≤ v → v ≤ 1048576 ∧ x0.link.cache.length ≤ 1048576 ∧ x0.door.keys.now.rows.length ≤ 1048576 ∧ x0.door.keys.before.rows.length ≤ 1048576 ∧ x0.door.halves.length ≤ 1048576 ∧ x0.door.table.conns.length ≤ 1048576 ∧ x0.door.table.waiting.length ≤ 1048576 ∧ sm_conn x0.door.table.conns = true)) (fun c2 hc2 => have kc2 := w_szDoor_sm x0.door c1 (by grind [wrap64]) (by assumption) (by assumption) (by assumption) (by assumption) (by assumption) (by assumption) (by assumption) (by assumption); bifP (P := (fun v : Int => 0 ≤ v → v ≤ 1048576 ∧ x0.link.cache.length ≤ 1048576 ∧ x0.door.keys.now.rows.length ≤ 1048576 ∧ x0.door.keys.before.rows.length ≤ 1048576 ∧ x0.door.halves.length ≤ 1048576 ∧ x0.door.table.conns.length ≤ 1048576 ∧ x0.door.table.waiting.length ≤ 1048576 ∧ sm_conn x0.door.table.conns = true)) (fun b1 => (by (try simp only [Nat.ble_eq, Bool.and_eq_true, decide_eq_true_eq]); grind [maxSl, maxStr, toBytes_length, toInts_length, List.length_set, wrap64, w_szLink_sm, w_szDoor_sm]))
      (fun b1 => (by (try simp only [Nat.ble_eq, Bool.and_eq_true, decide_eq_true_eq]); grind [maxSl, maxStr, toBytes_length, toInts_length, List.length_set, wrap64, w_szLink_sm, w_szDoor_sm])))))

theorem eqHalfS_refl (xs : List Half) : w_eqHalfS xs xs = true := by
  unfold w_eqHalfS
  rw [toNat_sub0, forN_list xs _ rfl (F := fun j x a => bif (fun _ => false) x then .out () else .next ()) (by
    intro j x a h
    simp [w_eqHalfS_L0_f, letK, toNat_cast, eqHalf_refl])]
  rw [listN_all xs 0 (by simp)]
  simp [Stp.elim]

theorem toLink_eq (x : Link) : w_toLink x = x := by
  first | rfl | simp only [w_toLink, letK, toEntryS_eq] | (simp [w_toLink, letK, toEntryS_eq])

theorem eqLink_refl (x : Link) : w_eqLink x x = true := by simp [w_eqLink, letK, eqEntryS_refl]

theorem toMac_eq (x : Mac) : w_toMac x = x := by
  first | rfl | simp only [w_toMac, letK, toMacRowS_eq] | (simp [w_toMac, letK, toMacRowS_eq])

theorem eqMac_refl (x : Mac) : w_eqMac x x = true := by simp [w_eqMac, letK, eqMacRowS_refl]

theorem toReceiver_eq (x : Recv) : w_toReceiver x = x := by
  first | rfl | simp only [w_toReceiver, letK, toPieceS_eq] | (simp [w_toReceiver, letK, toPieceS_eq])

theorem eqReceiver_refl (x : Recv) : w_eqReceiver x x = true := by simp [w_eqReceiver, letK, eqPieceS_refl]

theorem toKeys_eq (x : Keys) : w_toKeys x = x := by
  first | rfl | simp only [w_toKeys, letK, toMac_eq] | (simp [w_toKeys, letK, toMac_eq])

theorem eqKeys_refl (x : Keys) : w_eqKeys x x = true := by simp [w_eqKeys, letK, eqMac_refl]

theorem toConn_eq (x : Conn) : w_toConn x = x := by
  first | rfl | simp only [w_toConn, letK, toTuple_eq, toSender_eq, toReceiver_eq, toOptions_eq] | (simp [w_toConn, letK, toTuple_eq, toSender_eq, toReceiver_eq, toOptions_eq])

theorem eqConn_refl (x : Conn) : w_eqConn x x = true := by simp [w_eqConn, letK, eqTuple_refl, eqSender_refl, eqReceiver_refl, eqOptions_refl]

theorem toConnS_eq (xs : List Conn) : w_toConnS xs = xs := by
  unfold w_toConnS
  try simp only [letK_eq]
  rw [toNat_sub0, forN_list xs _ rfl (F := fun j x a => .next (a.set j x)) (by
    intro j x a h
    simp only [w_toConnS_L0_f, letK_eq, toNat_cast, getD_some h, toConn_eq])]
  have := fun r hr => listN_fill (W := Empty) (fun x => x) xs 0 r hr
  rw [this _ (by simp)]
  simp [Stp.elim]

theorem eqConnS_refl (xs : List Conn) : w_eqConnS xs xs = true := by
  unfold w_eqConnS
  rw [toNat_sub0, forN_list xs _ rfl (F := fun j x a => bif (fun _ => false) x then .out () else .next ()) (by
    intro j x a h
    simp [w_eqConnS_L0_f, letK, toNat_cast, eqConn_refl])]
  rw [listN_all xs 0 (by simp)]
  simp [Stp.elim]

theorem toTable_eq (x : Tabl) : w_toTable x = x := by
  first | rfl | simp only [w_toTable, letK, toConnS_eq, toTupleS_eq] | (simp [w_toTable, letK, toConnS_eq, toTupleS_eq])

theorem eqTable_refl (x : Tabl) : w_eqTable x x = true := by simp [w_eqTable, letK, eqConnS_refl, eqTupleS_refl]

theorem toDoor_eq (x : Door) : w_toDoor x = x := by
  first | rfl | simp only [w_toDoor, letK, toKeys_eq, toLimits_eq, toHalfS_eq, toTable_eq] | (simp [w_toDoor, letK, toKeys_eq, toLimits_eq, toHalfS_eq, toTable_eq])

theorem eqDoor_refl (x : Door) : w_eqDoor x x = true := by simp [w_eqDoor, letK, eqKeys_refl, eqLimits_refl, eqHalfS_refl, eqTable_refl]

theorem toStack_eq (x : Stac) : w_toStack x = x := by
  first | rfl | simp only [w_toStack, letK, toLink_eq, toDoor_eq] | (simp [w_toStack, letK, toLink_eq, toDoor_eq])

theorem eqStack_refl (x : Stac) : w_eqStack x x = true := by simp [w_eqStack, letK, eqLink_refl, eqDoor_refl]

/-- laws.FnExactSameStack -/
def w_FnExactSameStack_N (x0 : Stac) (x1 : Stac) (γ : Type) (fail : γ) (k : Bool → γ) : γ :=
  letK (α := Int) (w_szStack x0 1048576) fun c1 =>
  bif (decide (c1 < 0)) then
    k true
  else
  letK (α := Int) (w_szStack x1 c1) fun c2 =>
  bif (decide (c2 < 0)) then
    k true
  else
  bif (decide (x0.link.cache.length ≤ 4294967296 ∧ x0.door.keys.now.rows.length ≤ 4294967296 ∧ x0.door.keys.before.rows.length ≤ 4294967296 ∧ x0.door.halves.length ≤ 4294967296 ∧ x0.door.table.conns.length ≤ 4294967296 ∧ sm_conn x0.door.table.conns = true ∧ x0.door.table.waiting.length ≤ 4294967296)) then
  letK (α := Stac) (w_toStack x0) fun c3 =>
  bif (decide (x1.link.cache.length ≤ 4294967296 ∧ x1.door.keys.now.rows.length ≤ 4294967296 ∧ x1.door.keys.before.rows.length ≤ 4294967296 ∧ x1.door.halves.length ≤ 4294967296 ∧ x1.door.table.conns.length ≤ 4294967296 ∧ sm_conn x1.door.table.conns = true ∧ x1.door.table.waiting.length ≤ 4294967296)) then
  letK (α := Stac) (w_toStack x1) fun c4 =>
  letK (α := Bool) (s_SameStack c3 c4) fun c5 =>
  bif (decide (x0.link.cache.length ≤ 4294967296 ∧ x0.door.keys.now.rows.length ≤ 4294967296 ∧ x0.door.keys.before.rows.length ≤ 4294967296 ∧ x0.door.halves.length ≤ 4294967296 ∧ x0.door.table.conns.length ≤ 4294967296 ∧ sm_conn x0.door.table.conns = true ∧ x0.door.table.waiting.length ≤ 4294967296)) then
  letK (α := Stac) (w_toStack x0) fun c6 =>
  bif (decide (x1.link.cache.length ≤ 4294967296 ∧ x1.door.keys.now.rows.length ≤ 4294967296 ∧ x1.door.keys.before.rows.length ≤ 4294967296 ∧ x1.door.halves.length ≤ 4294967296 ∧ x1.door.table.conns.length ≤ 4294967296 ∧ sm_conn x1.door.table.conns = true ∧ x1.door.table.waiting.length ≤ 4294967296)) then
  letK (α := Stac) (w_toStack x1) fun c7 =>
  letK (α := Bool) (i_SameStack c6 c7) fun c8 =>
  bif (!(c8 == c5)) then
    k false
  else
  bif (decide (x0.link.cache.length ≤ 4294967296 ∧ x0.door.keys.now.rows.length ≤ 4294967296 ∧ x0.door.keys.before.rows.length ≤ 4294967296 ∧ x0.door.halves.length ≤ 4294967296 ∧ x0.door.table.conns.length ≤ 4294967296 ∧ sm_conn x0.door.table.conns = true ∧ x0.door.table.waiting.length ≤ 4294967296)) then
  letK (α := Stac) (w_toStack x0) fun c9 =>
  letK (α := Bool) (w_eqStack c6 c9) fun c10 =>
  bif (!c10) then
    k false
  else
  bif (decide (x1.link.cache.length ≤ 4294967296 ∧ x1.door.keys.now.rows.length ≤ 4294967296 ∧ x1.door.keys.before.rows.length ≤ 4294967296 ∧ x1.door.halves.length ≤ 4294967296 ∧ x1.door.table.conns.length ≤ 4294967296 ∧ sm_conn x1.door.table.conns = true ∧ x1.door.table.waiting.length ≤ 4294967296)) then
  letK (α := Stac) (w_toStack x1) fun c11 =>
  letK (α := Bool) (w_eqStack c7 c11) fun c12 =>
  bif (!c12) then
    k false
  else
  k true
  else fail
  else fail
  else fail
  else fail
  else fail
  else fail
def w_FnExactSameStack (x0 : Stac) (x1 : Stac) : Bool :=
  letK (α := Int) (w_szStack x0 1048576) fun c1 =>
  bif (decide (c1 < 0)) then
    true
  else
  letK (α := Int) (w_szStack x1 c1) fun c2 =>
  bif (decide (c2 < 0)) then
    true
  else
  letK (α := Stac) (w_toStack x0) fun c3 =>
  letK (α := Stac) (w_toStack x1) fun c4 =>
  letK (α := Bool) (s_SameStack c3 c4) fun c5 =>
  letK (α := Stac) (w_toStack x0) fun c6 =>
  letK (α := Stac) (w_toStack x1) fun c7 =>
  letK (α := Bool) (i_SameStack c6 c7) fun c8 =>
  bif (!(c8 == c5)) then
    false
  else
  letK (α := Stac) (w_toStack x0) fun c9 =>
  letK (α := Bool) (w_eqStack c6 c9) fun c10 =>
  bif (!c10) then
    false
  else
  letK (α := Stac) (w_toStack x1) fun c11 =>
  letK (α := Bool) (w_eqStack c7 c11) fun c12 =>
  bif (!c12) then
    false
  else
  true
theorem w_FnExactSameStack_lk (x0 : Stac) (x1 : Stac) : evalFn te (orcOf (P := Try.prog) [w_szStack_e, w_toStack_e, s_SameStack_e, i_SameStack_e, w_eqStack_e]) lorc0 [] Try.f6 (pvs [.st .stac, .st .stac] (x0, x1, ())) =
  w_FnExactSameStack_N x0 x1 _ none (fun v => some [(false, [RC.c (.bool v)])]) := by kernel_rfl
theorem w_FnExactSameStack_p (x0 : Stac) (x1 : Stac) (hx0_link_mac : inK .i64 x0.link.mac) (hx0_link_ip : inK .i64 x0.link.ip) (hx0_link_cache : x0.link.cache.length ≤ 140737488355328) (hx0_door_port : inK .i64 x0.door.port) (hx0_door_clock : inK .i64 x0.door.clock) (hx0_door_keys_epoch : inK .i64 x0.door.keys.epoch) (hx0_door_keys_now_k : inK .u64 x0.door.keys.now.k) (hx0_door_keys_now_l : inK .u64 x0.door.keys.now.l) (hx0_door_keys_now_rows : x0.door.keys.now.rows.length ≤ 140737488355328) (hx0_door_keys_now_rows_e : ∀ y ∈ x0.door.keys.now.rows, ∀ c ∈ Ty.cells .macRow y, FactC c) (hx0_door_keys_before_k : inK .u64 x0.door.keys.before.k) (hx0_door_keys_before_l : inK .u64 x0.door.keys.before.l) (hx0_door_keys_before_rows : x0.door.keys.before.rows.length ≤ 140737488355328) (hx0_door_keys_before_rows_e : ∀ y ∈ x0.door.keys.before.rows, ∀ c ∈ Ty.cells .macRow y, FactC c) (hx0_door_limits_halves : inK .i64 x0.door.limits.halves) (hx0_door_limits_waiting : inK .i64 x0.door.limits.waiting) (hx0_door_limits_conns : inK .i64 x0.door.limits.conns) (hx0_door_limits_chal : inK .i64 x0.door.limits.chal) (hx0_door_halves : x0.door.halves.length ≤ 140737488355328) (hx0_door_table_conns : x0.door.table.conns.length ≤ 140737488355328) (hx0_door_table_conns_e : ∀ y ∈ x0.door.table.conns, ∀ c ∈ Ty.cells .conn y, FactC c) (hx0_door_table_waiting : x0.door.table.waiting.length ≤ 140737488355328) (hx0_door_chal : inK .i64 x0.door.chal) (hx1_link_mac : inK .i64 x1.link.mac) (hx1_link_ip : inK .i64 x1.link.ip) (hx1_link_cache : x1.link.cache.length ≤ 140737488355328) (hx1_door_port : inK .i64 x1.door.port) (hx1_door_clock : inK .i64 x1.door.clock) (hx1_door_keys_epoch : inK .i64 x1.door.keys.epoch) (hx1_door_keys_now_k : inK .u64 x1.door.keys.now.k) (hx1_door_keys_now_l : inK .u64 x1.door.keys.now.l) (hx1_door_keys_now_rows : x1.door.keys.now.rows.length ≤ 140737488355328) (hx1_door_keys_now_rows_e : ∀ y ∈ x1.door.keys.now.rows, ∀ c ∈ Ty.cells .macRow y, FactC c) (hx1_door_keys_before_k : inK .u64 x1.door.keys.before.k) (hx1_door_keys_before_l : inK .u64 x1.door.keys.before.l) (hx1_door_keys_before_rows : x1.door.keys.before.rows.length ≤ 140737488355328) (hx1_door_keys_before_rows_e : ∀ y ∈ x1.door.keys.before.rows, ∀ c ∈ Ty.cells .macRow y, FactC c) (hx1_door_limits_halves : inK .i64 x1.door.limits.halves) (hx1_door_limits_waiting : inK .i64 x1.door.limits.waiting) (hx1_door_limits_conns : inK .i64 x1.door.limits.conns) (hx1_door_limits_chal : inK .i64 x1.door.limits.chal) (hx1_door_halves : x1.door.halves.length ≤ 140737488355328) (hx1_door_table_conns : x1.door.table.conns.length ≤ 140737488355328) (hx1_door_table_conns_e : ∀ y ∈ x1.door.table.conns, ∀ c ∈ Ty.cells .conn y, FactC c) (hx1_door_table_waiting : x1.door.table.waiting.length ≤ 140737488355328) (hx1_door_chal : inK .i64 x1.door.chal)  (γ : Type) (fail : γ) (k : Bool → γ) : w_FnExactSameStack_N x0 x1 γ fail k = k (w_FnExactSameStack x0 x1) := by
  unfold w_FnExactSameStack_N w_FnExactSameStack
  exact letT (f := k) (fun c1 hc1 => have kc1 := w_szStack_sm x0 1048576 (by grind [wrap64]) (by assumption) (by assumption) (by assumption) (by assumption) (by assumption) (by assumption) (by assumption) (by assumption) (by assumption); bifT (f := k) (fun b0 => rfl)
      (fun b0 => letT (f := k) (fun c2 hc2 => have kc2 := w_szStack_sm x1 c1 (by grind [wrap64]) (by assumption) (by assumption) (by assumption) (by assumption) (by assumption) (by assumption) (by assumption) (by assumption) (by assumption); bifT (f := k) (fun b1 => rfl)
      (fun b1 => bifG (by (try simp only [Nat.ble_eq, Bool.and_eq_true, decide_eq_true_eq]); grind [maxSl, maxStr, toBytes_length, toInts_length, List.length_set, wrap64, w_szStack_sm]) (letT (f := k) (fun c3 hc3 => have kc3 := toStack_eq x0; bifG (by (try simp only [Nat.ble_eq, Bool.and_eq_true, decide_eq_true_eq]); grind [maxSl, maxStr, toBytes_length, toInts_length, List.length_set, wrap64, w_szStack_sm]) (letT (f := k) (fun c4 hc4 => have kc4 := toStack_eq x1; letT (f := k) (fun c5 hc5 => bifG (by (try simp only [Nat.ble_eq, Bool.and_eq_true, decide_eq_true_eq]); grind [maxSl, maxStr, toBytes_length, toInts_length, List.length_set, wrap64, w_szStack_sm]) (letT (f := k) (fun c6 hc6 => have kc6 := toStack_eq x0; bifG (by (try simp only [Nat.ble_eq, Bool.and_eq_true, decide_eq_true_eq]); grind [maxSl, maxStr, toBytes_length, toInts_length, List.length_set, wrap64, w_szStack_sm]) (letT (f := k) (fun c7 hc7 => have kc7 := toStack_eq x1; letT (f := k) (fun c8 hc8 => bifT (f := k) (fun b2 => rfl)
      (fun b2 => bifG (by (try simp only [Nat.ble_eq, Bool.and_eq_true, decide_eq_true_eq]); grind [maxSl, maxStr, toBytes_length, toInts_length, List.length_set, wrap64, w_szStack_sm]) (letT (f := k) (fun c9 hc9 => have kc9 := toStack_eq x0; letT (f := k) (fun c10 hc10 => bifT (f := k) (fun b3 => rfl)
      (fun b3 => bifG (by (try simp only [Nat.ble_eq, Bool.and_eq_true, decide_eq_true_eq]); grind [maxSl, maxStr, toBytes_length, toInts_length, List.length_set, wrap64, w_szStack_sm]) (letT (f := k) (fun c11 hc11 => have kc11 := toStack_eq x1; letT (f := k) (fun c12 hc12 => bifT (f := k) (fun b4 => rfl)
      (fun b4 => rfl)))))))))))))))))))))))
theorem w_FnExactSameStack_c (x0 : Stac) (x1 : Stac)  : Con Try.prog 6 (pvs [.st .stac, .st .stac] (x0, x1, ())) [rv (.sc .bool) [] (w_FnExactSameStack x0 x1)] := by
  refine Con.of_facts (enters_of Try.func6 rfl (by kernel_rfl)) fun hf => ?_
  replace hf := factAt hf
  exact evalFn_con0 teFact mixFact (orcOf_ok _) Try.func6 (by kernel_rfl) ((w_FnExactSameStack_lk x0 x1).trans (w_FnExactSameStack_p x0 x1 ((hf 0 0 rfl rfl).rng) ((hf 0 1 rfl rfl).rng) ((hf 0 2 rfl rfl).len) ((hf 0 3 rfl rfl).rng) ((hf 0 4 rfl rfl).rng) ((hf 0 5 rfl rfl).rng) ((hf 0 7 rfl rfl).rng) ((hf 0 8 rfl rfl).rng) ((hf 0 9 rfl rfl).len) (fun y hy => (hf 0 9 rfl rfl).elem hy) ((hf 0 11 rfl rfl).rng) ((hf 0 12 rfl rfl).rng) ((hf 0 13 rfl rfl).len) (fun y hy => (hf 0 13 rfl rfl).elem hy) ((hf 0 15 rfl rfl).rng) ((hf 0 16 rfl rfl).rng) ((hf 0 17 rfl rfl).rng) ((hf 0 18 rfl rfl).rng) ((hf 0 19 rfl rfl).len) ((hf 0 20 rfl rfl).len) (fun y hy => (hf 0 20 rfl rfl).elem hy) ((hf 0 21 rfl rfl).len) ((hf 0 22 rfl rfl).rng) ((hf 1 0 rfl rfl).rng) ((hf 1 1 rfl rfl).rng) ((hf 1 2 rfl rfl).len) ((hf 1 3 rfl rfl).rng) ((hf 1 4 rfl rfl).rng) ((hf 1 5 rfl rfl).rng) ((hf 1 7 rfl rfl).rng) ((hf 1 8 rfl rfl).rng) ((hf 1 9 rfl rfl).len) (fun y hy => (hf 1 9 rfl rfl).elem hy) ((hf 1 11 rfl rfl).rng) ((hf 1 12 rfl rfl).rng) ((hf 1 13 rfl rfl).len) (fun y hy => (hf 1 13 rfl rfl).elem hy) ((hf 1 15 rfl rfl).rng) ((hf 1 16 rfl rfl).rng) ((hf 1 17 rfl rfl).rng) ((hf 1 18 rfl rfl).rng) ((hf 1 19 rfl rfl).len) ((hf 1 20 rfl rfl).len) (fun y hy => (hf 1 20 rfl rfl).elem hy) ((hf 1 21 rfl rfl).len) ((hf 1 22 rfl rfl).rng) _ _ _))
noncomputable def w_FnExactSameStack_e : Ent1 Try.prog := entA 6 [.st .stac, .st .stac] (fun x => (w_FnExactSameStack x.1 x.2.1)) (fun v => [rv (.sc .bool) [] v]) (fun x => w_FnExactSameStack_c x.1 x.2.1)


theorem t_FnExactSameStack (x y : Stac) : w_FnExactSameStack x y = true := by
  unfold w_FnExactSameStack
  simp only [letK_eq, q_SameStack, toStack_eq, eqStack_refl, beq_self_eq_true, Bool.not_true, cond_false]
  cases decide (w_szStack x 1048576 < 0) <;> cases decide (w_szStack y (w_szStack x 1048576) < 0) <;> rfl

end Go.Proofs.Ytbikbonhcfbmeaa
