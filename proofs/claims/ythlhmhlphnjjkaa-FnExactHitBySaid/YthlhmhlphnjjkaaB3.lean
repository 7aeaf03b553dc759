/-
  Contracts of functions and plain laws (printed by a program): each theorem says what a function of the program returns; conditions are its hypotheses.
-/
import Derived.Test.YthlhmhlphnjjkaaB2
set_option maxRecDepth 4000
set_option linter.unusedVariables false
set_option linter.unusedSimpArgs false
namespace Go.Proofs.Ythlhmhlphnjjkaa
open Go Go.RowKit

/-- slices.IndexFunc[[]impl.Issue,impl.Issue] -/
def g_IndexFunc_Issue_i_HitBy_1_ann : List (Nat × Keep) := [(0, ⟨[0, 1, 7, 8], [.softo 0 4, .softo 0 8], false, 1⟩)]
def g_IndexFunc_Issue_i_HitBy_1_L0_sh : Sh := ⟨[(0, false, [.sl .arg .issu]), (1, false, [.fn 88 [0]]), (7, false, [.int .i64]), (8, false, [.int .i64])], [.box [.int .i64, .bool, .int .u64, .int .u64, .sl .any .macRow, .bool, .int .u64, .int .u64, .sl .any .macRow, .bool]]⟩
def g_IndexFunc_Issue_i_HitBy_1_L0_es : List (Ex × Sh) := [(.ret, ⟨[(4, false, [.int .i64])], [.box [.int .i64, .bool, .int .u64, .int .u64, .sl .any .macRow, .bool, .int .u64, .int .u64, .sl .any .macRow, .bool]]⟩), (.exit 0, ⟨[(4, false, [.undef])], [.box [.int .i64, .bool, .int .u64, .int .u64, .sl .any .macRow, .bool, .int .u64, .int .u64, .sl .any .macRow, .bool]]⟩)]
def g_IndexFunc_Issue_i_HitBy_1_L0_mk (v0 : List Issu) (v1 : Int) (v2 : Int) (v3 : Int) (v4 : Bool) (v5 : Int) (v6 : Int) (v7 : List MacRow) (v8 : Bool) (v9 : Int) (v10 : Int) (v11 : List MacRow) (v12 : Bool) : g_IndexFunc_Issue_i_HitBy_1_L0_sh.T := (((v0, ()), (((), ()), ((v1, ()), ((v2, ()), ())))), ((v3, (v4, (v5, (v6, (v7, (v8, (v9, (v10, (v11, (v12, ())))))))))), ()))
def g_IndexFunc_Issue_i_HitBy_1_L0_mx0 (y0 : Int) (y1 : Int) (y2 : Bool) (y3 : Int) (y4 : Int) (y5 : List MacRow) (y6 : Bool) (y7 : Int) (y8 : Int) (y9 : List MacRow) (y10 : Bool) : Sh.T ⟨[(4, false, [.int .i64])], [.box [.int .i64, .bool, .int .u64, .int .u64, .sl .any .macRow, .bool, .int .u64, .int .u64, .sl .any .macRow, .bool]]⟩ := (((y0, ()), ()), ((y1, (y2, (y3, (y4, (y5, (y6, (y7, (y8, (y9, (y10, ())))))))))), ()))
def g_IndexFunc_Issue_i_HitBy_1_L0_mx1 (y0 : Int) (y1 : Bool) (y2 : Int) (y3 : Int) (y4 : List MacRow) (y5 : Bool) (y6 : Int) (y7 : Int) (y8 : List MacRow) (y9 : Bool) : Sh.T ⟨[(4, false, [.undef])], [.box [.int .i64, .bool, .int .u64, .int .u64, .sl .any .macRow, .bool, .int .u64, .int .u64, .sl .any .macRow, .bool]]⟩ := ((((), ()), ()), ((y0, (y1, (y2, (y3, (y4, (y5, (y6, (y7, (y8, (y9, ())))))))))), ()))
def g_IndexFunc_Issue_i_HitBy_1_L0_B (v0 : List Issu) (v1 : Int) (v2 : Int) (v3 : Int) (v4 : Bool) (v5 : Int) (v6 : Int) (v7 : List MacRow) (v8 : Bool) (v9 : Int) (v10 : Int) (v11 : List MacRow) (v12 : Bool) (γ : Type) (fail : γ) (next : g_IndexFunc_Issue_i_HitBy_1_L0_sh.T → γ) (out : WT g_IndexFunc_Issue_i_HitBy_1_L0_es → γ) : γ :=
  bif (decide (v2 < v1)) then
    bif ((decide (0 ≤ v2)) && (decide (v2 < (v0.length : Int)))) then
    bif (decide ((⟨v3, ⟨v4, v5, v6, v7⟩, ⟨v8, v9, v10, v11⟩, v12⟩ : Keys).now.rows.length ≤ 4294967296 ∧ (⟨v3, ⟨v4, v5, v6, v7⟩, ⟨v8, v9, v10, v11⟩, v12⟩ : Keys).before.rows.length ≤ 4294967296)) then
    letK (α := Bool) (i_HitBy_1 (v0.getD v2.toNat (Ty.zero .issu)) (⟨v3, ⟨v4, v5, v6, v7⟩, ⟨v8, v9, v10, v11⟩, v12⟩ : Keys)) fun c2 =>
    bif c2 then
      out (Sum.inl (g_IndexFunc_Issue_i_HitBy_1_L0_mx0 v2 v3 v4 v5 v6 v7 v8 v9 v10 v11 v12))
    else
    next (g_IndexFunc_Issue_i_HitBy_1_L0_mk v0 v1 (IntKind.wrap .i64 (v2 + 1)) v3 v4 v5 v6 v7 v8 v9 v10 v11 v12)
    else fail
    else fail
  else
  out (Sum.inr (g_IndexFunc_Issue_i_HitBy_1_L0_mx1 v3 v4 v5 v6 v7 v8 v9 v10 v11 v12))
theorem g_IndexFunc_Issue_i_HitBy_1_L0_par (v0 : List Issu) (v1 : Int) (v2 : Int) (v3 : Int) (v4 : Bool) (v5 : Int) (v6 : Int) (v7 : List MacRow) (v8 : Bool) (v9 : Int) (v10 : Int) (v11 : List MacRow) (v12 : Bool) (γ : Type) (fail : γ) (next : g_IndexFunc_Issue_i_HitBy_1_L0_sh.T → γ) (out : WT g_IndexFunc_Issue_i_HitBy_1_L0_es → γ) : g_IndexFunc_Issue_i_HitBy_1_L0_B v0 v1 v2 v3 v4 v5 v6 v7 v8 v9 v10 v11 v12 γ fail next out = optK (g_IndexFunc_Issue_i_HitBy_1_L0_B v0 v1 v2 v3 v4 v5 v6 v7 v8 v9 v10 v11 v12 _ none (fun v' => some (.inl v')) (fun w => some (.inr w))) fail (fun r => Sum.elim next out r) := by
  unfold g_IndexFunc_Issue_i_HitBy_1_L0_B
  exact bifT (f := (fun o => optK o fail (fun r => Sum.elim next out r))) (fun _ => bifT (f := (fun o => optK o fail (fun r => Sum.elim next out r))) (fun _ => bifT (f := (fun o => optK o fail (fun r => Sum.elim next out r))) (fun _ => letT (f := (fun o => optK o fail (fun r => Sum.elim next out r))) (fun c2 _ => bifT (f := (fun o => optK o fail (fun r => Sum.elim next out r))) (fun _ => rfl)
      (fun _ => rfl))) (fun _ => rfl)) (fun _ => rfl))
      (fun _ => rfl)
def g_IndexFunc_Issue_i_HitBy_1_L0_r : Round g_IndexFunc_Issue_i_HitBy_1_L0_sh.T (WT g_IndexFunc_Issue_i_HitBy_1_L0_es) where
  B v γ fail next out := g_IndexFunc_Issue_i_HitBy_1_L0_B v.1.1.1 v.1.2.2.1.1 v.1.2.2.2.1.1 v.2.1.1 v.2.1.2.1 v.2.1.2.2.1 v.2.1.2.2.2.1 v.2.1.2.2.2.2.1 v.2.1.2.2.2.2.2.1 v.2.1.2.2.2.2.2.2.1 v.2.1.2.2.2.2.2.2.2.1 v.2.1.2.2.2.2.2.2.2.2.1 v.2.1.2.2.2.2.2.2.2.2.2.1 γ fail next out
  par v γ fail next out := g_IndexFunc_Issue_i_HitBy_1_L0_par v.1.1.1 v.1.2.2.1.1 v.1.2.2.2.1.1 v.2.1.1 v.2.1.2.1 v.2.1.2.2.1 v.2.1.2.2.2.1 v.2.1.2.2.2.2.1 v.2.1.2.2.2.2.2.1 v.2.1.2.2.2.2.2.2.1 v.2.1.2.2.2.2.2.2.2.1 v.2.1.2.2.2.2.2.2.2.2.1 v.2.1.2.2.2.2.2.2.2.2.2.1 γ fail next out
def g_IndexFunc_Issue_i_HitBy_1_L0_fu (v0 : List Issu) (v1 : Int) (v2 : Int) (v3 : Int) (v4 : Bool) (v5 : Int) (v6 : Int) (v7 : List MacRow) (v8 : Bool) (v9 : Int) (v10 : Int) (v11 : List MacRow) (v12 : Bool) : Nat := (Int.toNat (v1 - v2)) + 1
theorem g_IndexFunc_Issue_i_HitBy_1_L0_lk (v : g_IndexFunc_Issue_i_HitBy_1_L0_sh.T) (next : St → Option Res) (k : Ex → St → Option Res) : evalK te (orcOf (P := Try.prog) [i_HitBy_1_e]) (lorcOf []) Try.f109.ntmps g_IndexFunc_Issue_i_HitBy_1_ann (nthLoop (bodyOf Try.f109) 0 0) 0 (g_IndexFunc_Issue_i_HitBy_1_L0_sh.enc v) (endK ⟨[0, 1, 7, 8], [.softo 0 4, .softo 0 8], false, 1⟩ ⟨[4], [], false, 1⟩ next k) =
  g_IndexFunc_Issue_i_HitBy_1_L0_r.B v _ none (fun v' => next (g_IndexFunc_Issue_i_HitBy_1_L0_sh.enc v')) (fun w => outK g_IndexFunc_Issue_i_HitBy_1_L0_es k w) := by kernel_rfl
def g_IndexFunc_Issue_i_HitBy_1_L0_le : LE := leOf 0 g_IndexFunc_Issue_i_HitBy_1_L0_sh g_IndexFunc_Issue_i_HitBy_1_L0_es g_IndexFunc_Issue_i_HitBy_1_L0_r.step (fun v => g_IndexFunc_Issue_i_HitBy_1_L0_fu v.1.1.1 v.1.2.2.1.1 v.1.2.2.2.1.1 v.2.1.1 v.2.1.2.1 v.2.1.2.2.1 v.2.1.2.2.2.1 v.2.1.2.2.2.2.1 v.2.1.2.2.2.2.2.1 v.2.1.2.2.2.2.2.2.1 v.2.1.2.2.2.2.2.2.2.1 v.2.1.2.2.2.2.2.2.2.2.1 v.2.1.2.2.2.2.2.2.2.2.2.1)
theorem g_IndexFunc_Issue_i_HitBy_1_L0_ls (w0 : World) (mo : Mts) (I0 : Nat → Prop) (hmo : mo.length = 1) : LSem Try.prog (Sim w0 mo Try.f109.ntmps I0) (fun b s k => match Nat.beq 0 b with | true => g_IndexFunc_Issue_i_HitBy_1_L0_le.run s k | false => none) 0 (nthLoop (bodyOf Try.f109) 0 0) :=
  le_sem hmo (lorc := lorcOf []) (ann := g_IndexFunc_Issue_i_HitBy_1_ann) (keep := ⟨[0, 1, 7, 8], [.softo 0 4, .softo 0 8], false, 1⟩) (kout := ⟨[4], [], false, 1⟩) teFact mixFact (orcOf_ok _) (by kernel_rfl) (allLoops_of (bs := []) (by kernel_rfl) trivial) g_IndexFunc_Issue_i_HitBy_1_L0_r _ g_IndexFunc_Issue_i_HitBy_1_L0_lk
def g_IndexFunc_Issue_i_HitBy_1_L0_f (v0 : List Issu) (v1 : Int) (v3 : Int) (v4 : Bool) (v5 : Int) (v6 : Int) (v7 : List MacRow) (v8 : Bool) (v9 : Int) (v10 : Int) (v11 : List MacRow) (v12 : Bool) (v2 : Int) (a : Unit) : Stp (Unit) ((Int)) :=
  letK (α := Bool) (i_HitBy_1 (v0.getD v2.toNat (Ty.zero .issu)) (⟨v3, ⟨v4, v5, v6, v7⟩, ⟨v8, v9, v10, v11⟩, v12⟩ : Keys)) fun c2 =>
  bif c2 then
    .out (v2)
  else
  .next ()
theorem g_IndexFunc_Issue_i_HitBy_1_L0_st (v0 : List Issu) (v1 : Int) (v2 : Int) (v3 : Int) (v4 : Bool) (v5 : Int) (v6 : Int) (v7 : List MacRow) (v8 : Bool) (v9 : Int) (v10 : Int) (v11 : List MacRow) (v12 : Bool) (hlo : 0 ≤ v2) (hhi : v2 < v1) (hN : v1 ≤ 4611686018427387904) (hi0 : v1 ≤ (v0.length : Int)) (hi1 : (⟨v3, ⟨v4, v5, v6, v7⟩, ⟨v8, v9, v10, v11⟩, v12⟩ : Keys).now.rows.length ≤ 4294967296) (hi2 : (⟨v3, ⟨v4, v5, v6, v7⟩, ⟨v8, v9, v10, v11⟩, v12⟩ : Keys).before.rows.length ≤ 4294967296) : g_IndexFunc_Issue_i_HitBy_1_L0_r.step (g_IndexFunc_Issue_i_HitBy_1_L0_mk v0 v1 v2 v3 v4 v5 v6 v7 v8 v9 v10 v11 v12) = Stp.elim (fun a' : Unit => some (Sum.inl (g_IndexFunc_Issue_i_HitBy_1_L0_mk v0 v1 (v2 + 1) v3 v4 v5 v6 v7 v8 v9 v10 v11 v12))) (fun w => some (Sum.inr ((fun p : Int => Sum.inl (g_IndexFunc_Issue_i_HitBy_1_L0_mx0 p v3 v4 v5 v6 v7 v8 v9 v10 v11 v12)) w))) (g_IndexFunc_Issue_i_HitBy_1_L0_f v0 v1 v3 v4 v5 v6 v7 v8 v9 v10 v11 v12 v2 ()) := by
  have hw : (IntKind.wrap .i64 (v2 + 1)) = v2 + 1 := wrap64 (by omega) (by omega)
  show g_IndexFunc_Issue_i_HitBy_1_L0_B v0 v1 v2 v3 v4 v5 v6 v7 v8 v9 v10 v11 v12 (Option (g_IndexFunc_Issue_i_HitBy_1_L0_sh.T ⊕ WT g_IndexFunc_Issue_i_HitBy_1_L0_es)) none (fun v' => some (Sum.inl v')) (fun w => some (Sum.inr w)) = _
  unfold g_IndexFunc_Issue_i_HitBy_1_L0_B g_IndexFunc_Issue_i_HitBy_1_L0_f
  exact bifG (by simp only [decide_eq_true_eq]; omega) (bifG (by (try simp only [Nat.ble_eq, Bool.and_eq_true, decide_eq_true_eq]); grind [maxSl, maxStr, toBytes_length, toInts_length, List.length_set, wrap64]) (bifG (by (try simp only [Nat.ble_eq, Bool.and_eq_true, decide_eq_true_eq]); grind [maxSl, maxStr, toBytes_length, toInts_length, List.length_set, wrap64]) (letT (f := (Stp.elim (fun a' : Unit => some (Sum.inl (g_IndexFunc_Issue_i_HitBy_1_L0_mk v0 v1 (v2 + 1) v3 v4 v5 v6 v7 v8 v9 v10 v11 v12))) (fun w => some (Sum.inr ((fun p : Int => Sum.inl (g_IndexFunc_Issue_i_HitBy_1_L0_mx0 p v3 v4 v5 v6 v7 v8 v9 v10 v11 v12)) w))))) (fun c2 hc2 => bifT (f := (Stp.elim (fun a' : Unit => some (Sum.inl (g_IndexFunc_Issue_i_HitBy_1_L0_mk v0 v1 (v2 + 1) v3 v4 v5 v6 v7 v8 v9 v10 v11 v12))) (fun w => some (Sum.inr ((fun p : Int => Sum.inl (g_IndexFunc_Issue_i_HitBy_1_L0_mx0 p v3 v4 v5 v6 v7 v8 v9 v10 v11 v12)) w))))) (fun b0 => rfl)
      (fun b0 => (by exact congrArg (fun z => some (Sum.inl (g_IndexFunc_Issue_i_HitBy_1_L0_mk v0 v1 z v3 v4 v5 v6 v7 v8 v9 v10 v11 v12))) hw))))))
theorem g_IndexFunc_Issue_i_HitBy_1_L0_cl (v0 : List Issu) (v1 : Int) (v2 : Int) (v3 : Int) (v4 : Bool) (v5 : Int) (v6 : Int) (v7 : List MacRow) (v8 : Bool) (v9 : Int) (v10 : Int) (v11 : List MacRow) (v12 : Bool) (h0 : 0 ≤ v2) (h1 : v1 ≤ 4611686018427387904) (h2 : v1 ≤ (v0.length : Int)) (h3 : (⟨v3, ⟨v4, v5, v6, v7⟩, ⟨v8, v9, v10, v11⟩, v12⟩ : Keys).now.rows.length ≤ 4294967296) (h4 : (⟨v3, ⟨v4, v5, v6, v7⟩, ⟨v8, v9, v10, v11⟩, v12⟩ : Keys).before.rows.length ≤ 4294967296) : loopF g_IndexFunc_Issue_i_HitBy_1_L0_r.step (g_IndexFunc_Issue_i_HitBy_1_L0_fu v0 v1 v2 v3 v4 v5 v6 v7 v8 v9 v10 v11 v12) (g_IndexFunc_Issue_i_HitBy_1_L0_mk v0 v1 v2 v3 v4 v5 v6 v7 v8 v9 v10 v11 v12) = some (Stp.elim (fun a => (fun i a => Sum.inr (g_IndexFunc_Issue_i_HitBy_1_L0_mx1 v3 v4 v5 v6 v7 v8 v9 v10 v11 v12)) (v2 + 1 * (((Int.toNat (v1 - v2)) : Nat) : Int)) a) (fun p : Int => Sum.inl (g_IndexFunc_Issue_i_HitBy_1_L0_mx0 p v3 v4 v5 v6 v7 v8 v9 v10 v11 v12)) (forN (g_IndexFunc_Issue_i_HitBy_1_L0_f v0 v1 v3 v4 v5 v6 v7 v8 v9 v10 v11 v12) 1 (Int.toNat (v1 - v2)) v2 ())) :=
  forN_loop (step := g_IndexFunc_Issue_i_HitBy_1_L0_r.step) (mk := fun v2 a => g_IndexFunc_Issue_i_HitBy_1_L0_mk v0 v1 v2 v3 v4 v5 v6 v7 v8 v9 v10 v11 v12) (f := g_IndexFunc_Issue_i_HitBy_1_L0_f v0 v1 v3 v4 v5 v6 v7 v8 v9 v10 v11 v12) (e := (fun i a => Sum.inr (g_IndexFunc_Issue_i_HitBy_1_L0_mx1 v3 v4 v5 v6 v7 v8 v9 v10 v11 v12))) (emb := (fun p : Int => Sum.inl (g_IndexFunc_Issue_i_HitBy_1_L0_mx0 p v3 v4 v5 v6 v7 v8 v9 v10 v11 v12))) (st := 1) (Inv := fun v2 a => True) (Int.toNat (v1 - v2)) v2 () _ (Nat.lt_succ_self _) trivial
    (fun j a hj hv => ⟨g_IndexFunc_Issue_i_HitBy_1_L0_st v0 v1 (v2 + 1 * (j : Int)) v3 v4 v5 v6 v7 v8 v9 v10 v11 v12 (by omega) (by omega) (by omega) h2 h3 h4, fun _ _ => trivial⟩)
    (fun a hv => by
      show g_IndexFunc_Issue_i_HitBy_1_L0_B v0 v1 (v2 + 1 * (((Int.toNat (v1 - v2)) : Nat) : Int)) v3 v4 v5 v6 v7 v8 v9 v10 v11 v12 (Option (g_IndexFunc_Issue_i_HitBy_1_L0_sh.T ⊕ WT g_IndexFunc_Issue_i_HitBy_1_L0_es)) none (fun v' => some (Sum.inl v')) (fun w => some (Sum.inr w)) = _
      unfold g_IndexFunc_Issue_i_HitBy_1_L0_B
      exact bifN (by simp only [decide_eq_false_iff_not]; omega) rfl)
def g_IndexFunc_Issue_i_HitBy_1_N (x0 : List Issu) (y1_0 : Keys) (γ : Type) (fail : γ) (k : Int × Keys → γ) : γ :=
  optK (loopF g_IndexFunc_Issue_i_HitBy_1_L0_r.step (g_IndexFunc_Issue_i_HitBy_1_L0_fu x0 (x0.length : Int) 0 y1_0.epoch y1_0.now.use y1_0.now.k y1_0.now.l y1_0.now.rows y1_0.before.use y1_0.before.k y1_0.before.l y1_0.before.rows y1_0.two) (g_IndexFunc_Issue_i_HitBy_1_L0_mk x0 (x0.length : Int) 0 y1_0.epoch y1_0.now.use y1_0.now.k y1_0.now.l y1_0.now.rows y1_0.before.use y1_0.before.k y1_0.before.l y1_0.before.rows y1_0.two)) fail fun w3 =>
    Sum.elim (fun w3 =>
      k (w3.1.1.1, (⟨w3.2.1.1, ⟨w3.2.1.2.1, w3.2.1.2.2.1, w3.2.1.2.2.2.1, w3.2.1.2.2.2.2.1⟩, ⟨w3.2.1.2.2.2.2.2.1, w3.2.1.2.2.2.2.2.2.1, w3.2.1.2.2.2.2.2.2.2.1, w3.2.1.2.2.2.2.2.2.2.2.1⟩, w3.2.1.2.2.2.2.2.2.2.2.2.1⟩ : Keys)))
    (fun w3 =>
      k ((-1), (⟨w3.2.1.1, ⟨w3.2.1.2.1, w3.2.1.2.2.1, w3.2.1.2.2.2.1, w3.2.1.2.2.2.2.1⟩, ⟨w3.2.1.2.2.2.2.2.1, w3.2.1.2.2.2.2.2.2.1, w3.2.1.2.2.2.2.2.2.2.1, w3.2.1.2.2.2.2.2.2.2.2.1⟩, w3.2.1.2.2.2.2.2.2.2.2.2.1⟩ : Keys))) w3
def g_IndexFunc_Issue_i_HitBy_1 (x0 : List Issu) (y1_0 : Keys) : Int × Keys :=
  Stp.elim (fun a4 =>
    ((-1), y1_0))
    (fun p4 =>
      (p4, y1_0))
    (forN (g_IndexFunc_Issue_i_HitBy_1_L0_f x0 (x0.length : Int) y1_0.epoch y1_0.now.use y1_0.now.k y1_0.now.l y1_0.now.rows y1_0.before.use y1_0.before.k y1_0.before.l y1_0.before.rows y1_0.two) 1 (Int.toNat ((x0.length : Int) - 0)) 0 ())
theorem g_IndexFunc_Issue_i_HitBy_1_lk (x0 : List Issu) (y1_0 : Keys) : evalFnM te (orcOf (P := Try.prog) [i_HitBy_1_e]) (lorcOf [g_IndexFunc_Issue_i_HitBy_1_L0_le]) g_IndexFunc_Issue_i_HitBy_1_ann Try.f109 (pvs [.sc (.sl .issu), .fn 88 [0]] (x0, (), ())) (mos [.box [.c (.int .i64), .c .bool, .c (.int .u64), .c (.int .u64), .c (.sl .macRow), .c .bool, .c (.int .u64), .c (.int .u64), .c (.sl .macRow), .c .bool]] ((y1_0.epoch, y1_0.now.use, y1_0.now.k, y1_0.now.l, y1_0.now.rows, y1_0.before.use, y1_0.before.k, y1_0.before.l, y1_0.before.rows, y1_0.two, ()), ())) =
  g_IndexFunc_Issue_i_HitBy_1_N x0 y1_0 _ none (fun v => some ([(false, [RC.c (.int .i64 v.1)])] ++ (mos [.box [.c (.int .i64), .c .bool, .c (.int .u64), .c (.int .u64), .c (.sl .macRow), .c .bool, .c (.int .u64), .c (.int .u64), .c (.sl .macRow), .c .bool]] ((v.2.epoch, v.2.now.use, v.2.now.k, v.2.now.l, v.2.now.rows, v.2.before.use, v.2.before.k, v.2.before.l, v.2.before.rows, v.2.two, ()), ())).map encO)) := by kernel_rfl
theorem g_IndexFunc_Issue_i_HitBy_1_p (x0 : List Issu) (y1_0 : Keys) (hx0 : x0.length ≤ 140737488355328) (hy1_0_epoch : inK .i64 y1_0.epoch) (hy1_0_now_k : inK .u64 y1_0.now.k) (hy1_0_now_l : inK .u64 y1_0.now.l) (hy1_0_now_rows : y1_0.now.rows.length ≤ 140737488355328) (hy1_0_now_rows_e : ∀ y ∈ y1_0.now.rows, ∀ c ∈ Ty.cells .macRow y, FactC c) (hy1_0_before_k : inK .u64 y1_0.before.k) (hy1_0_before_l : inK .u64 y1_0.before.l) (hy1_0_before_rows : y1_0.before.rows.length ≤ 140737488355328) (hy1_0_before_rows_e : ∀ y ∈ y1_0.before.rows, ∀ c ∈ Ty.cells .macRow y, FactC c) (hp : x0.length ≤ 4294967296 ∧ y1_0.now.rows.length ≤ 4294967296 ∧ y1_0.before.rows.length ≤ 4294967296) (γ : Type) (fail : γ) (k : Int × Keys → γ) : g_IndexFunc_Issue_i_HitBy_1_N x0 y1_0 γ fail k = k (g_IndexFunc_Issue_i_HitBy_1 x0 y1_0) := by
  unfold g_IndexFunc_Issue_i_HitBy_1_N g_IndexFunc_Issue_i_HitBy_1
  exact loopT (f := k) (g_IndexFunc_Issue_i_HitBy_1_L0_cl x0 (x0.length : Int) 0 y1_0.epoch y1_0.now.use y1_0.now.k y1_0.now.l y1_0.now.rows y1_0.before.use y1_0.before.k y1_0.before.l y1_0.before.rows y1_0.two (by (try simp only [Nat.ble_eq, Bool.and_eq_true, decide_eq_true_eq, g_IndexFunc_Issue_i_HitBy_1_L0_mx0, g_IndexFunc_Issue_i_HitBy_1_L0_mx1]); grind [maxSl, maxStr, toBytes_length, toInts_length, List.length_set, wrap64]) (by (try simp only [Nat.ble_eq, Bool.and_eq_true, decide_eq_true_eq, g_IndexFunc_Issue_i_HitBy_1_L0_mx0, g_IndexFunc_Issue_i_HitBy_1_L0_mx1]); grind [maxSl, maxStr, toBytes_length, toInts_length, List.length_set, wrap64]) (by (try simp only [Nat.ble_eq, Bool.and_eq_true, decide_eq_true_eq, g_IndexFunc_Issue_i_HitBy_1_L0_mx0, g_IndexFunc_Issue_i_HitBy_1_L0_mx1]); grind [maxSl, maxStr, toBytes_length, toInts_length, List.length_set, wrap64]) (by (try simp only [Nat.ble_eq, Bool.and_eq_true, decide_eq_true_eq, g_IndexFunc_Issue_i_HitBy_1_L0_mx0, g_IndexFunc_Issue_i_HitBy_1_L0_mx1]); grind [maxSl, maxStr, toBytes_length, toInts_length, List.length_set, wrap64]) (by (try simp only [Nat.ble_eq, Bool.and_eq_true, decide_eq_true_eq, g_IndexFunc_Issue_i_HitBy_1_L0_mx0, g_IndexFunc_Issue_i_HitBy_1_L0_mx1]); grind [maxSl, maxStr, toBytes_length, toInts_length, List.length_set, wrap64])) (fun a4 => rfl)
      (fun p4 => rfl)
theorem g_IndexFunc_Issue_i_HitBy_1_c (x0 : List Issu) (y1_0 : Keys) (hp : x0.length ≤ 4294967296 ∧ y1_0.now.rows.length ≤ 4294967296 ∧ y1_0.before.rows.length ≤ 4294967296) : ConM Try.prog 109 (pvs [.sc (.sl .issu), .fn 88 [0]] (x0, (), ())) (mos [.box [.c (.int .i64), .c .bool, .c (.int .u64), .c (.int .u64), .c (.sl .macRow), .c .bool, .c (.int .u64), .c (.int .u64), .c (.sl .macRow), .c .bool]] ((y1_0.epoch, y1_0.now.use, y1_0.now.k, y1_0.now.l, y1_0.now.rows, y1_0.before.use, y1_0.before.k, y1_0.before.l, y1_0.before.rows, y1_0.two, ()), ())) [rv (.sc (.int .i64)) [] (g_IndexFunc_Issue_i_HitBy_1 x0 y1_0).1] (mos [.box [.c (.int .i64), .c .bool, .c (.int .u64), .c (.int .u64), .c (.sl .macRow), .c .bool, .c (.int .u64), .c (.int .u64), .c (.sl .macRow), .c .bool]] ((((g_IndexFunc_Issue_i_HitBy_1 x0 y1_0).2).epoch, ((g_IndexFunc_Issue_i_HitBy_1 x0 y1_0).2).now.use, ((g_IndexFunc_Issue_i_HitBy_1 x0 y1_0).2).now.k, ((g_IndexFunc_Issue_i_HitBy_1 x0 y1_0).2).now.l, ((g_IndexFunc_Issue_i_HitBy_1 x0 y1_0).2).now.rows, ((g_IndexFunc_Issue_i_HitBy_1 x0 y1_0).2).before.use, ((g_IndexFunc_Issue_i_HitBy_1 x0 y1_0).2).before.k, ((g_IndexFunc_Issue_i_HitBy_1 x0 y1_0).2).before.l, ((g_IndexFunc_Issue_i_HitBy_1 x0 y1_0).2).before.rows, ((g_IndexFunc_Issue_i_HitBy_1 x0 y1_0).2).two, ()), ())) := by
  refine ConM.of_facts (enters_of Try.func109 rfl (by kernel_rfl)) fun hf hg => ?_
  replace hf := factAt hf
  exact evalFn_conLM teFact mixFact (orcOf_ok _) Try.func109 (by kernel_rfl) (bs := [0]) (by kernel_rfl) (by kernel_rfl) (by kernel_rfl) rfl (fun w0 mo I0 hmo => ⟨lsem_of_lorc (g_IndexFunc_Issue_i_HitBy_1_L0_ls w0 mo I0 hmo) (by kernel_rfl), trivial⟩) ((g_IndexFunc_Issue_i_HitBy_1_lk x0 y1_0).trans (g_IndexFunc_Issue_i_HitBy_1_p x0 y1_0 ((hf 0 0 rfl rfl).len) ((mbAt hg 0 0 rfl rfl).rng) ((mbAt hg 0 2 rfl rfl).rng) ((mbAt hg 0 3 rfl rfl).rng) ((mbAt hg 0 4 rfl rfl).len) (fun y hy => (mbAt hg 0 4 rfl rfl).elem hy) ((mbAt hg 0 6 rfl rfl).rng) ((mbAt hg 0 7 rfl rfl).rng) ((mbAt hg 0 8 rfl rfl).len) (fun y hy => (mbAt hg 0 8 rfl rfl).elem hy) hp _ _ _))
noncomputable def g_IndexFunc_Issue_i_HitBy_1_e : Ent1 Try.prog := entM 109 [.sc (.sl .issu), .fn 88 [0]] [.box [.c (.int .i64), .c .bool, .c (.int .u64), .c (.int .u64), .c (.sl .macRow), .c .bool, .c (.int .u64), .c (.int .u64), .c (.sl .macRow), .c .bool]] (fun x y => (decide (x.1.length ≤ 4294967296 ∧ (⟨y.1.1, ⟨y.1.2.1, y.1.2.2.1, y.1.2.2.2.1, y.1.2.2.2.2.1⟩, ⟨y.1.2.2.2.2.2.1, y.1.2.2.2.2.2.2.1, y.1.2.2.2.2.2.2.2.1, y.1.2.2.2.2.2.2.2.2.1⟩, y.1.2.2.2.2.2.2.2.2.2.1⟩ : Keys).now.rows.length ≤ 4294967296 ∧ (⟨y.1.1, ⟨y.1.2.1, y.1.2.2.1, y.1.2.2.2.1, y.1.2.2.2.2.1⟩, ⟨y.1.2.2.2.2.2.1, y.1.2.2.2.2.2.2.1, y.1.2.2.2.2.2.2.2.1, y.1.2.2.2.2.2.2.2.2.1⟩, y.1.2.2.2.2.2.2.2.2.2.1⟩ : Keys).before.rows.length ≤ 4294967296))) (fun x y => (g_IndexFunc_Issue_i_HitBy_1 x.1 (⟨y.1.1, ⟨y.1.2.1, y.1.2.2.1, y.1.2.2.2.1, y.1.2.2.2.2.1⟩, ⟨y.1.2.2.2.2.2.1, y.1.2.2.2.2.2.2.1, y.1.2.2.2.2.2.2.2.1, y.1.2.2.2.2.2.2.2.2.1⟩, y.1.2.2.2.2.2.2.2.2.2.1⟩ : Keys))) (fun v => [rv (.sc (.int .i64)) [] v.1]) (fun x y v => (mos [.box [.c (.int .i64), .c .bool, .c (.int .u64), .c (.int .u64), .c (.sl .macRow), .c .bool, .c (.int .u64), .c (.int .u64), .c (.sl .macRow), .c .bool]] ((v.2.epoch, v.2.now.use, v.2.now.k, v.2.now.l, v.2.now.rows, v.2.before.use, v.2.before.k, v.2.before.l, v.2.before.rows, v.2.two, ()), ()))) (fun x y hx => g_IndexFunc_Issue_i_HitBy_1_c x.1 (⟨y.1.1, ⟨y.1.2.1, y.1.2.2.1, y.1.2.2.2.1, y.1.2.2.2.2.1⟩, ⟨y.1.2.2.2.2.2.1, y.1.2.2.2.2.2.2.1, y.1.2.2.2.2.2.2.2.1, y.1.2.2.2.2.2.2.2.2.1⟩, y.1.2.2.2.2.2.2.2.2.2.1⟩ : Keys) (of_decide_eq_true hx))


/-- slices.ContainsFunc[[]impl.Issue,impl.Issue] -/
def g_ContainsFunc_Issue_i_HitBy_1_N (x0 : List Issu) (y1_0 : Keys) (γ : Type) (fail : γ) (k : Bool × Keys → γ) : γ :=
  bif (decide (x0.length ≤ 4294967296 ∧ y1_0.now.rows.length ≤ 4294967296 ∧ y1_0.before.rows.length ≤ 4294967296)) then
  letK (α := Int × Keys) (g_IndexFunc_Issue_i_HitBy_1 x0 y1_0) fun c1 =>
  k ((decide (0 ≤ c1.1)), c1.2)
  else fail
def g_ContainsFunc_Issue_i_HitBy_1 (x0 : List Issu) (y1_0 : Keys) : Bool × Keys :=
  letK (α := Int × Keys) (g_IndexFunc_Issue_i_HitBy_1 x0 y1_0) fun c1 =>
  ((decide (0 ≤ c1.1)), c1.2)
theorem g_ContainsFunc_Issue_i_HitBy_1_lk (x0 : List Issu) (y1_0 : Keys) : evalFnM te (orcOf (P := Try.prog) [g_IndexFunc_Issue_i_HitBy_1_e, i_HitBy_1_e]) lorc0 [] Try.f87 (pvs [.sc (.sl .issu), .fn 88 [0]] (x0, (), ())) (mos [.box [.c (.int .i64), .c .bool, .c (.int .u64), .c (.int .u64), .c (.sl .macRow), .c .bool, .c (.int .u64), .c (.int .u64), .c (.sl .macRow), .c .bool]] ((y1_0.epoch, y1_0.now.use, y1_0.now.k, y1_0.now.l, y1_0.now.rows, y1_0.before.use, y1_0.before.k, y1_0.before.l, y1_0.before.rows, y1_0.two, ()), ())) =
  g_ContainsFunc_Issue_i_HitBy_1_N x0 y1_0 _ none (fun v => some ([(false, [RC.c (.bool v.1)])] ++ (mos [.box [.c (.int .i64), .c .bool, .c (.int .u64), .c (.int .u64), .c (.sl .macRow), .c .bool, .c (.int .u64), .c (.int .u64), .c (.sl .macRow), .c .bool]] ((v.2.epoch, v.2.now.use, v.2.now.k, v.2.now.l, v.2.now.rows, v.2.before.use, v.2.before.k, v.2.before.l, v.2.before.rows, v.2.two, ()), ())).map encO)) := by kernel_rfl
theorem g_ContainsFunc_Issue_i_HitBy_1_p (x0 : List Issu) (y1_0 : Keys) (hx0 : x0.length ≤ 140737488355328) (hy1_0_epoch : inK .i64 y1_0.epoch) (hy1_0_now_k : inK .u64 y1_0.now.k) (hy1_0_now_l : inK .u64 y1_0.now.l) (hy1_0_now_rows : y1_0.now.rows.length ≤ 140737488355328) (hy1_0_now_rows_e : ∀ y ∈ y1_0.now.rows, ∀ c ∈ Ty.cells .macRow y, FactC c) (hy1_0_before_k : inK .u64 y1_0.before.k) (hy1_0_before_l : inK .u64 y1_0.before.l) (hy1_0_before_rows : y1_0.before.rows.length ≤ 140737488355328) (hy1_0_before_rows_e : ∀ y ∈ y1_0.before.rows, ∀ c ∈ Ty.cells .macRow y, FactC c) (hp : x0.length ≤ 4294967296 ∧ y1_0.now.rows.length ≤ 4294967296 ∧ y1_0.before.rows.length ≤ 4294967296) (γ : Type) (fail : γ) (k : Bool × Keys → γ) : g_ContainsFunc_Issue_i_HitBy_1_N x0 y1_0 γ fail k = k (g_ContainsFunc_Issue_i_HitBy_1 x0 y1_0) := by
  unfold g_ContainsFunc_Issue_i_HitBy_1_N g_ContainsFunc_Issue_i_HitBy_1
  exact bifG (by (try simp only [Nat.ble_eq, Bool.and_eq_true, decide_eq_true_eq]); grind [maxSl, maxStr, toBytes_length, toInts_length, List.length_set, wrap64]) (letT (f := k) (fun c1 hc1 => rfl))
theorem g_ContainsFunc_Issue_i_HitBy_1_c (x0 : List Issu) (y1_0 : Keys) (hp : x0.length ≤ 4294967296 ∧ y1_0.now.rows.length ≤ 4294967296 ∧ y1_0.before.rows.length ≤ 4294967296) : ConM Try.prog 87 (pvs [.sc (.sl .issu), .fn 88 [0]] (x0, (), ())) (mos [.box [.c (.int .i64), .c .bool, .c (.int .u64), .c (.int .u64), .c (.sl .macRow), .c .bool, .c (.int .u64), .c (.int .u64), .c (.sl .macRow), .c .bool]] ((y1_0.epoch, y1_0.now.use, y1_0.now.k, y1_0.now.l, y1_0.now.rows, y1_0.before.use, y1_0.before.k, y1_0.before.l, y1_0.before.rows, y1_0.two, ()), ())) [rv (.sc .bool) [] (g_ContainsFunc_Issue_i_HitBy_1 x0 y1_0).1] (mos [.box [.c (.int .i64), .c .bool, .c (.int .u64), .c (.int .u64), .c (.sl .macRow), .c .bool, .c (.int .u64), .c (.int .u64), .c (.sl .macRow), .c .bool]] ((((g_ContainsFunc_Issue_i_HitBy_1 x0 y1_0).2).epoch, ((g_ContainsFunc_Issue_i_HitBy_1 x0 y1_0).2).now.use, ((g_ContainsFunc_Issue_i_HitBy_1 x0 y1_0).2).now.k, ((g_ContainsFunc_Issue_i_HitBy_1 x0 y1_0).2).now.l, ((g_ContainsFunc_Issue_i_HitBy_1 x0 y1_0).2).now.rows, ((g_ContainsFunc_Issue_i_HitBy_1 x0 y1_0).2).before.use, ((g_ContainsFunc_Issue_i_HitBy_1 x0 y1_0).2).before.k, ((g_ContainsFunc_Issue_i_HitBy_1 x0 y1_0).2).before.l, ((g_ContainsFunc_Issue_i_HitBy_1 x0 y1_0).2).before.rows, ((g_ContainsFunc_Issue_i_HitBy_1 x0 y1_0).2).two, ()), ())) := by
  refine ConM.of_facts (enters_of Try.func87 rfl (by kernel_rfl)) fun hf hg => ?_
  replace hf := factAt hf
  exact evalFn_conLM teFact mixFact (orcOf_ok _) Try.func87 (by kernel_rfl) (bs := []) (by kernel_rfl) (by kernel_rfl) (by kernel_rfl) rfl (fun w0 mo I0 hmo => trivial) ((g_ContainsFunc_Issue_i_HitBy_1_lk x0 y1_0).trans (g_ContainsFunc_Issue_i_HitBy_1_p x0 y1_0 ((hf 0 0 rfl rfl).len) ((mbAt hg 0 0 rfl rfl).rng) ((mbAt hg 0 2 rfl rfl).rng) ((mbAt hg 0 3 rfl rfl).rng) ((mbAt hg 0 4 rfl rfl).len) (fun y hy => (mbAt hg 0 4 rfl rfl).elem hy) ((mbAt hg 0 6 rfl rfl).rng) ((mbAt hg 0 7 rfl rfl).rng) ((mbAt hg 0 8 rfl rfl).len) (fun y hy => (mbAt hg 0 8 rfl rfl).elem hy) hp _ _ _))
noncomputable def g_ContainsFunc_Issue_i_HitBy_1_e : Ent1 Try.prog := entM 87 [.sc (.sl .issu), .fn 88 [0]] [.box [.c (.int .i64), .c .bool, .c (.int .u64), .c (.int .u64), .c (.sl .macRow), .c .bool, .c (.int .u64), .c (.int .u64), .c (.sl .macRow), .c .bool]] (fun x y => (decide (x.1.length ≤ 4294967296 ∧ (⟨y.1.1, ⟨y.1.2.1, y.1.2.2.1, y.1.2.2.2.1, y.1.2.2.2.2.1⟩, ⟨y.1.2.2.2.2.2.1, y.1.2.2.2.2.2.2.1, y.1.2.2.2.2.2.2.2.1, y.1.2.2.2.2.2.2.2.2.1⟩, y.1.2.2.2.2.2.2.2.2.2.1⟩ : Keys).now.rows.length ≤ 4294967296 ∧ (⟨y.1.1, ⟨y.1.2.1, y.1.2.2.1, y.1.2.2.2.1, y.1.2.2.2.2.1⟩, ⟨y.1.2.2.2.2.2.1, y.1.2.2.2.2.2.2.1, y.1.2.2.2.2.2.2.2.1, y.1.2.2.2.2.2.2.2.2.1⟩, y.1.2.2.2.2.2.2.2.2.2.1⟩ : Keys).before.rows.length ≤ 4294967296))) (fun x y => (g_ContainsFunc_Issue_i_HitBy_1 x.1 (⟨y.1.1, ⟨y.1.2.1, y.1.2.2.1, y.1.2.2.2.1, y.1.2.2.2.2.1⟩, ⟨y.1.2.2.2.2.2.1, y.1.2.2.2.2.2.2.1, y.1.2.2.2.2.2.2.2.1, y.1.2.2.2.2.2.2.2.2.1⟩, y.1.2.2.2.2.2.2.2.2.2.1⟩ : Keys))) (fun v => [rv (.sc .bool) [] v.1]) (fun x y v => (mos [.box [.c (.int .i64), .c .bool, .c (.int .u64), .c (.int .u64), .c (.sl .macRow), .c .bool, .c (.int .u64), .c (.int .u64), .c (.sl .macRow), .c .bool]] ((v.2.epoch, v.2.now.use, v.2.now.k, v.2.now.l, v.2.now.rows, v.2.before.use, v.2.before.k, v.2.before.l, v.2.before.rows, v.2.two, ()), ()))) (fun x y hx => g_ContainsFunc_Issue_i_HitBy_1_c x.1 (⟨y.1.1, ⟨y.1.2.1, y.1.2.2.1, y.1.2.2.2.1, y.1.2.2.2.2.1⟩, ⟨y.1.2.2.2.2.2.1, y.1.2.2.2.2.2.2.1, y.1.2.2.2.2.2.2.2.1, y.1.2.2.2.2.2.2.2.2.1⟩, y.1.2.2.2.2.2.2.2.2.2.1⟩ : Keys) (of_decide_eq_true hx))


/-- impl.HitBy -/
def i_HitBy_N (x0 : Keys) (x1 : List Issu) (γ : Type) (fail : γ) (k : Bool → γ) : γ :=
  bif (decide (x1.length ≤ 4294967296 ∧ x0.now.rows.length ≤ 4294967296 ∧ x0.before.rows.length ≤ 4294967296)) then
  letK (α := Bool × Keys) (g_ContainsFunc_Issue_i_HitBy_1 x1 x0) fun c1 =>
  k c1.1
  else fail
def i_HitBy (x0 : Keys) (x1 : List Issu) : Bool :=
  letK (α := Bool × Keys) (g_ContainsFunc_Issue_i_HitBy_1 x1 x0) fun c1 =>
  c1.1
theorem i_HitBy_lk (x0 : Keys) (x1 : List Issu) : evalFn te (orcOf (P := Try.prog) [g_ContainsFunc_Issue_i_HitBy_1_e, i_HitBy_1_e]) lorc0 [] Try.f46 (pvs [.st .keys, .sc (.sl .issu)] (x0, x1, ())) =
  i_HitBy_N x0 x1 _ none (fun v => some [(false, [RC.c (.bool v)])]) := by kernel_rfl
theorem i_HitBy_p (x0 : Keys) (x1 : List Issu) (hx0_epoch : inK .i64 x0.epoch) (hx0_now_k : inK .u64 x0.now.k) (hx0_now_l : inK .u64 x0.now.l) (hx0_now_rows : x0.now.rows.length ≤ 140737488355328) (hx0_now_rows_e : ∀ y ∈ x0.now.rows, ∀ c ∈ Ty.cells .macRow y, FactC c) (hx0_before_k : inK .u64 x0.before.k) (hx0_before_l : inK .u64 x0.before.l) (hx0_before_rows : x0.before.rows.length ≤ 140737488355328) (hx0_before_rows_e : ∀ y ∈ x0.before.rows, ∀ c ∈ Ty.cells .macRow y, FactC c) (hx1 : x1.length ≤ 140737488355328) (hp : x0.now.rows.length ≤ 4294967296 ∧ x0.before.rows.length ≤ 4294967296 ∧ x1.length ≤ 4294967296) (γ : Type) (fail : γ) (k : Bool → γ) : i_HitBy_N x0 x1 γ fail k = k (i_HitBy x0 x1) := by
  unfold i_HitBy_N i_HitBy
  exact bifG (by (try simp only [Nat.ble_eq, Bool.and_eq_true, decide_eq_true_eq]); grind [maxSl, maxStr, toBytes_length, toInts_length, List.length_set, wrap64]) (letT (f := k) (fun c1 hc1 => rfl))
theorem i_HitBy_c (x0 : Keys) (x1 : List Issu) (hp : x0.now.rows.length ≤ 4294967296 ∧ x0.before.rows.length ≤ 4294967296 ∧ x1.length ≤ 4294967296) : Con Try.prog 46 (pvs [.st .keys, .sc (.sl .issu)] (x0, x1, ())) [rv (.sc .bool) [] (i_HitBy x0 x1)] := by
  refine Con.of_facts (enters_of Try.func46 rfl (by kernel_rfl)) fun hf => ?_
  replace hf := factAt hf
  exact evalFn_con0 teFact mixFact (orcOf_ok _) Try.func46 (by kernel_rfl) ((i_HitBy_lk x0 x1).trans (i_HitBy_p x0 x1 ((hf 0 0 rfl rfl).rng) ((hf 0 2 rfl rfl).rng) ((hf 0 3 rfl rfl).rng) ((hf 0 4 rfl rfl).len) (fun y hy => (hf 0 4 rfl rfl).elem hy) ((hf 0 6 rfl rfl).rng) ((hf 0 7 rfl rfl).rng) ((hf 0 8 rfl rfl).len) (fun y hy => (hf 0 8 rfl rfl).elem hy) ((hf 1 0 rfl rfl).len) hp _ _ _))
noncomputable def i_HitBy_e : Ent1 Try.prog := entP 46 [.st .keys, .sc (.sl .issu)] (fun x => (decide (x.1.now.rows.length ≤ 4294967296 ∧ x.1.before.rows.length ≤ 4294967296 ∧ x.2.1.length ≤ 4294967296))) (fun x => (i_HitBy x.1 x.2.1)) (fun v => [rv (.sc .bool) [] v]) (fun x hx => i_HitBy_c x.1 x.2.1 (of_decide_eq_true hx))


/-- impl.ShareOf -/
def i_ShareOf_ann : List (Nat × Keep) := [(0, ⟨[0, 1, 2, 8, 9, 29, 30], [], false, 0⟩), (2, ⟨[0, 1, 2, 8, 9, 10, 36, 37], [], false, 0⟩)]
def i_ShareOf_L0_sh : Sh := ⟨[(0, false, [.int .i64]), (1, false, [.sl .arg .issu]), (2, false, [.int .i64]), (8, false, [.own 0]), (9, false, [.int .i64]), (29, false, [.int .i64]), (30, false, [.int .i64])], [.arr .str false true]⟩
def i_ShareOf_L0_es : List (Ex × Sh) := [(.exit 0, ⟨[(0, false, [.int .i64]), (1, false, [.sl .arg .issu]), (2, false, [.int .i64]), (6, false, [.undef]), (7, false, [.undef]), (8, false, [.own 0]), (9, false, [.int .i64])], [.arr .str false true]⟩)]
def i_ShareOf_L0_mk (v0 : Int) (v1 : List Issu) (v2 : Int) (v3 : Int) (v4 : Int) (v5 : Int) (v6 : List Bytes) : i_ShareOf_L0_sh.T := (((v0, ()), ((v1, ()), ((v2, ()), (((), ()), ((v3, ()), ((v4, ()), ((v5, ()), ()))))))), (v6, ()))
def i_ShareOf_L0_mx0 (y0 : Int) (y1 : List Issu) (y2 : Int) (y3 : Int) (y4 : List Bytes) : Sh.T ⟨[(0, false, [.int .i64]), (1, false, [.sl .arg .issu]), (2, false, [.int .i64]), (6, false, [.undef]), (7, false, [.undef]), (8, false, [.own 0]), (9, false, [.int .i64])], [.arr .str false true]⟩ := (((y0, ()), ((y1, ()), ((y2, ()), (((), ()), (((), ()), (((), ()), ((y3, ()), ()))))))), (y4, ()))
def i_ShareOf_L0_B (v0 : Int) (v1 : List Issu) (v2 : Int) (v3 : Int) (v4 : Int) (v5 : Int) (v6 : List Bytes) (γ : Type) (fail : γ) (next : i_ShareOf_L0_sh.T → γ) (out : WT i_ShareOf_L0_es → γ) : γ :=
  bif (decide (v5 < v4)) then
    next (i_ShareOf_L0_mk v0 v1 v2 (IntKind.wrap .i64 (v3 * v2)) v4 (IntKind.wrap .i64 (v5 + 1)) v6)
  else
  out (i_ShareOf_L0_mx0 v0 v1 v2 v3 v6)
theorem i_ShareOf_L0_par (v0 : Int) (v1 : List Issu) (v2 : Int) (v3 : Int) (v4 : Int) (v5 : Int) (v6 : List Bytes) (γ : Type) (fail : γ) (next : i_ShareOf_L0_sh.T → γ) (out : WT i_ShareOf_L0_es → γ) : i_ShareOf_L0_B v0 v1 v2 v3 v4 v5 v6 γ fail next out = optK (i_ShareOf_L0_B v0 v1 v2 v3 v4 v5 v6 _ none (fun v' => some (.inl v')) (fun w => some (.inr w))) fail (fun r => Sum.elim next out r) := by
  unfold i_ShareOf_L0_B
  exact bifT (f := (fun o => optK o fail (fun r => Sum.elim next out r))) (fun _ => rfl)
      (fun _ => rfl)
def i_ShareOf_L0_r : Round i_ShareOf_L0_sh.T (WT i_ShareOf_L0_es) where
  B v γ fail next out := i_ShareOf_L0_B v.1.1.1 v.1.2.1.1 v.1.2.2.1.1 v.1.2.2.2.2.1.1 v.1.2.2.2.2.2.1.1 v.1.2.2.2.2.2.2.1.1 v.2.1 γ fail next out
  par v γ fail next out := i_ShareOf_L0_par v.1.1.1 v.1.2.1.1 v.1.2.2.1.1 v.1.2.2.2.2.1.1 v.1.2.2.2.2.2.1.1 v.1.2.2.2.2.2.2.1.1 v.2.1 γ fail next out
def i_ShareOf_L0_fu (v0 : Int) (v1 : List Issu) (v2 : Int) (v3 : Int) (v4 : Int) (v5 : Int) (v6 : List Bytes) : Nat := (Int.toNat (v4 - v5)) + 1
theorem i_ShareOf_L0_lk (v : i_ShareOf_L0_sh.T) (next : St → Option Res) (k : Ex → St → Option Res) : evalK te (orcOf (P := Try.prog) [i_within_e, i_WordOk_e, i_GuessInputs_e, i_Assigned_e, i_HitBy_e]) (lorcOf []) Try.f42.ntmps i_ShareOf_ann (nthLoop (bodyOf Try.f42) 0 0) 0 (i_ShareOf_L0_sh.enc v) (endK ⟨[0, 1, 2, 8, 9, 29, 30], [], false, 0⟩ ⟨[0, 1, 2, 6, 7, 8, 9], [], false, 0⟩ next k) =
  i_ShareOf_L0_r.B v _ none (fun v' => next (i_ShareOf_L0_sh.enc v')) (fun w => outK i_ShareOf_L0_es k w) := by kernel_rfl
def i_ShareOf_L0_le : LE := leOf 0 i_ShareOf_L0_sh i_ShareOf_L0_es i_ShareOf_L0_r.step (fun v => i_ShareOf_L0_fu v.1.1.1 v.1.2.1.1 v.1.2.2.1.1 v.1.2.2.2.2.1.1 v.1.2.2.2.2.2.1.1 v.1.2.2.2.2.2.2.1.1 v.2.1)
theorem i_ShareOf_L0_ls (w0 : World) (mo : Mts) (I0 : Nat → Prop) (hmo : mo.length = 0) : LSem Try.prog (Sim w0 mo Try.f42.ntmps I0) (fun b s k => match Nat.beq 0 b with | true => i_ShareOf_L0_le.run s k | false => none) 0 (nthLoop (bodyOf Try.f42) 0 0) :=
  le_sem hmo (lorc := lorcOf []) (ann := i_ShareOf_ann) (keep := ⟨[0, 1, 2, 8, 9, 29, 30], [], false, 0⟩) (kout := ⟨[0, 1, 2, 6, 7, 8, 9], [], false, 0⟩) teFact mixFact (orcOf_ok _) (by kernel_rfl) (allLoops_of (bs := []) (by kernel_rfl) trivial) i_ShareOf_L0_r _ i_ShareOf_L0_lk
def i_ShareOf_L0_f (v0 : Int) (v1 : List Issu) (v2 : Int) (v4 : Int) (v6 : List Bytes) (v5 : Int) (a : Int) : Stp (Int) (Empty) :=
  .next (IntKind.wrap .i64 (a * v2))
theorem i_ShareOf_L0_st (v0 : Int) (v1 : List Issu) (v2 : Int) (v3 : Int) (v4 : Int) (v5 : Int) (v6 : List Bytes) (hlo : 0 ≤ v5) (hhi : v5 < v4) (hN : v4 ≤ 4611686018427387904) (hi0 : 1 ≤ v2) (hi1 : v2 ≤ 4) (hi2 : v4 ≤ 4) (hinv : (v5 = 0 ∧ v3 = 1) ∨ (v5 = 1 ∧ 1 ≤ v3 ∧ v3 ≤ 4) ∨ (v5 = 2 ∧ 1 ≤ v3 ∧ v3 ≤ 16) ∨ (v5 = 3 ∧ 1 ≤ v3 ∧ v3 ≤ 64) ∨ (v5 = 4 ∧ 1 ≤ v3 ∧ v3 ≤ 256)) : i_ShareOf_L0_r.step (i_ShareOf_L0_mk v0 v1 v2 v3 v4 v5 v6) = Stp.elim (fun a' : Int => some (Sum.inl (i_ShareOf_L0_mk v0 v1 v2 a' v4 (v5 + 1) v6))) (fun w => some (Sum.inr ((fun p : Empty => nomatch p) w))) (i_ShareOf_L0_f v0 v1 v2 v4 v6 v5 v3) := by
  have hw : (IntKind.wrap .i64 (v5 + 1)) = v5 + 1 := wrap64 (by omega) (by omega)
  show i_ShareOf_L0_B v0 v1 v2 v3 v4 v5 v6 (Option (i_ShareOf_L0_sh.T ⊕ WT i_ShareOf_L0_es)) none (fun v' => some (Sum.inl v')) (fun w => some (Sum.inr w)) = _
  unfold i_ShareOf_L0_B i_ShareOf_L0_f
  exact bifG (by simp only [decide_eq_true_eq]; omega) ((by exact congrArg (fun z => some (Sum.inl (i_ShareOf_L0_mk v0 v1 v2 (IntKind.wrap .i64 (v3 * v2)) v4 z v6))) hw))
theorem i_ShareOf_L0_cl (v0 : Int) (v1 : List Issu) (v2 : Int) (v3 : Int) (v4 : Int) (v5 : Int) (v6 : List Bytes) (h0 : 0 ≤ v5) (h1 : v4 ≤ 4611686018427387904) (h2 : 1 ≤ v2) (h3 : v2 ≤ 4) (h4 : v4 ≤ 4) (h5 : (v5 = 0 ∧ v3 = 1) ∨ (v5 = 1 ∧ 1 ≤ v3 ∧ v3 ≤ 4) ∨ (v5 = 2 ∧ 1 ≤ v3 ∧ v3 ≤ 16) ∨ (v5 = 3 ∧ 1 ≤ v3 ∧ v3 ≤ 64) ∨ (v5 = 4 ∧ 1 ≤ v3 ∧ v3 ≤ 256)) : loopF i_ShareOf_L0_r.step (i_ShareOf_L0_fu v0 v1 v2 v3 v4 v5 v6) (i_ShareOf_L0_mk v0 v1 v2 v3 v4 v5 v6) = some (Stp.elim (fun a => (fun i a => i_ShareOf_L0_mx0 v0 v1 v2 a v6) (v5 + 1 * (((Int.toNat (v4 - v5)) : Nat) : Int)) a) (fun p : Empty => nomatch p) (forN (i_ShareOf_L0_f v0 v1 v2 v4 v6) 1 (Int.toNat (v4 - v5)) v5 v3)) :=
  forN_loop (step := i_ShareOf_L0_r.step) (mk := fun v5 a => i_ShareOf_L0_mk v0 v1 v2 a v4 v5 v6) (f := i_ShareOf_L0_f v0 v1 v2 v4 v6) (e := (fun i a => i_ShareOf_L0_mx0 v0 v1 v2 a v6)) (emb := (fun p : Empty => nomatch p)) (st := 1) (Inv := fun v5 a => (v5 = 0 ∧ a = 1) ∨ (v5 = 1 ∧ 1 ≤ a ∧ a ≤ 4) ∨ (v5 = 2 ∧ 1 ≤ a ∧ a ≤ 16) ∨ (v5 = 3 ∧ 1 ≤ a ∧ a ≤ 64) ∨ (v5 = 4 ∧ 1 ≤ a ∧ a ≤ 256)) (Int.toNat (v4 - v5)) v5 v3 _ (Nat.lt_succ_self _) h5
    (fun j a hj hv => ⟨i_ShareOf_L0_st v0 v1 v2 a v4 (v5 + 1 * (j : Int)) v6 (by omega) (by omega) (by omega) h2 h3 h4 hv, by
      intro a' he
      unfold i_ShareOf_L0_f at he
      cases he
      have hb : v2 = 1 ∨ v2 = 2 ∨ v2 = 3 ∨ v2 = 4 := by omega
      rcases hb with rfl | rfl | rfl | rfl <;> rw [wrap64 (by omega) (by omega)] <;> omega⟩)
    (fun a hv => by
      show i_ShareOf_L0_B v0 v1 v2 a v4 (v5 + 1 * (((Int.toNat (v4 - v5)) : Nat) : Int)) v6 (Option (i_ShareOf_L0_sh.T ⊕ WT i_ShareOf_L0_es)) none (fun v' => some (Sum.inl v')) (fun w => some (Sum.inr w)) = _
      unfold i_ShareOf_L0_B
      exact bifN (by simp only [decide_eq_false_iff_not]; omega) rfl)
theorem i_ShareOf_L0_nx (v0 : Int) (v1 : List Issu) (v2 : Int) (v3 : Int) (v4 : Int) (v5 : Int) (v6 : List Bytes) (h0 : 0 ≤ v5) (h1 : v4 ≤ 4611686018427387904) (h2 : 1 ≤ v2) (h3 : v2 ≤ 4) (h4 : v4 ≤ 4) (h5 : (v5 = 0 ∧ v3 = 1) ∨ (v5 = 1 ∧ 1 ≤ v3 ∧ v3 ≤ 4) ∨ (v5 = 2 ∧ 1 ≤ v3 ∧ v3 ≤ 16) ∨ (v5 = 3 ∧ 1 ≤ v3 ∧ v3 ≤ 64) ∨ (v5 = 4 ∧ 1 ≤ v3 ∧ v3 ≤ 256)) : ∀ a', forN (i_ShareOf_L0_f v0 v1 v2 v4 v6) 1 (Int.toNat (v4 - v5)) v5 v3 = .next a' → ((v5 + 1 * (((Int.toNat (v4 - v5)) : Nat) : Int)) = 0 ∧ a' = 1) ∨ ((v5 + 1 * (((Int.toNat (v4 - v5)) : Nat) : Int)) = 1 ∧ 1 ≤ a' ∧ a' ≤ 4) ∨ ((v5 + 1 * (((Int.toNat (v4 - v5)) : Nat) : Int)) = 2 ∧ 1 ≤ a' ∧ a' ≤ 16) ∨ ((v5 + 1 * (((Int.toNat (v4 - v5)) : Nat) : Int)) = 3 ∧ 1 ≤ a' ∧ a' ≤ 64) ∨ ((v5 + 1 * (((Int.toNat (v4 - v5)) : Nat) : Int)) = 4 ∧ 1 ≤ a' ∧ a' ≤ 256) :=
  forN_inv (f := i_ShareOf_L0_f v0 v1 v2 v4 v6) (st := 1) (Inv := fun v5 a => (v5 = 0 ∧ a = 1) ∨ (v5 = 1 ∧ 1 ≤ a ∧ a ≤ 4) ∨ (v5 = 2 ∧ 1 ≤ a ∧ a ≤ 16) ∨ (v5 = 3 ∧ 1 ≤ a ∧ a ≤ 64) ∨ (v5 = 4 ∧ 1 ≤ a ∧ a ≤ 256)) (Int.toNat (v4 - v5)) v5 v3 h5
    (fun j a hj hv => by
      intro a' he
      unfold i_ShareOf_L0_f at he
      cases he
      have hb : v2 = 1 ∨ v2 = 2 ∨ v2 = 3 ∨ v2 = 4 := by omega
      rcases hb with rfl | rfl | rfl | rfl <;> rw [wrap64 (by omega) (by omega)] <;> omega)
def i_ShareOf_L1_sh : Sh := ⟨[(0, false, [.int .i64]), (1, false, [.sl .arg .issu]), (2, false, [.int .i64]), (8, false, [.own 0]), (9, false, [.int .i64]), (10, false, [.int .i64]), (36, false, [.int .i64]), (37, false, [.int .i64])], [.arr .str false true]⟩
def i_ShareOf_L1_es : List (Ex × Sh) := [(.exit 2, ⟨[(6, false, [.undef]), (7, false, [.undef]), (9, false, [.int .i64]), (10, false, [.int .i64])], []⟩)]
def i_ShareOf_L1_mk (v0 : Int) (v1 : List Issu) (v2 : Int) (v3 : Int) (v4 : Int) (v5 : Int) (v6 : Int) (v7 : List Bytes) : i_ShareOf_L1_sh.T := (((v0, ()), ((v1, ()), ((v2, ()), (((), ()), ((v3, ()), ((v4, ()), ((v5, ()), ((v6, ()), ())))))))), (v7, ()))
def i_ShareOf_L1_mx0 (y0 : Int) (y1 : Int) : Sh.T ⟨[(6, false, [.undef]), (7, false, [.undef]), (9, false, [.int .i64]), (10, false, [.int .i64])], []⟩ := ((((), ()), (((), ()), ((y0, ()), ((y1, ()), ())))), ())
def i_ShareOf_L1_B (v0 : Int) (v1 : List Issu) (v2 : Int) (v3 : Int) (v4 : Int) (v5 : Int) (v6 : Int) (v7 : List Bytes) (γ : Type) (fail : γ) (next : i_ShareOf_L1_sh.T → γ) (out : WT i_ShareOf_L1_es → γ) : γ :=
  bif (decide (v6 < v5)) then
    bif (decide (v7.length ≤ 4294967296)) then
    letK (α := Mac) (i_Assigned v7 v2 v6) fun c5 =>
    bif (decide ((⟨v0, c5, ⟨false, 0, 0, []⟩, false⟩ : Keys).now.rows.length ≤ 4294967296 ∧ (⟨v0, c5, ⟨false, 0, 0, []⟩, false⟩ : Keys).before.rows.length ≤ 4294967296 ∧ v1.length ≤ 4294967296)) then
    letK (α := Bool) (i_HitBy (⟨v0, c5, ⟨false, 0, 0, []⟩, false⟩ : Keys) v1) fun c6 =>
    bif c6 then
      next (i_ShareOf_L1_mk v0 v1 v2 v3 (IntKind.wrap .i64 (v4 + 1)) v5 (IntKind.wrap .i64 (v6 + 1)) v7)
    else
    next (i_ShareOf_L1_mk v0 v1 v2 v3 v4 v5 (IntKind.wrap .i64 (v6 + 1)) v7)
    else fail
    else fail
  else
  out (i_ShareOf_L1_mx0 v3 v4)
theorem i_ShareOf_L1_par (v0 : Int) (v1 : List Issu) (v2 : Int) (v3 : Int) (v4 : Int) (v5 : Int) (v6 : Int) (v7 : List Bytes) (γ : Type) (fail : γ) (next : i_ShareOf_L1_sh.T → γ) (out : WT i_ShareOf_L1_es → γ) : i_ShareOf_L1_B v0 v1 v2 v3 v4 v5 v6 v7 γ fail next out = optK (i_ShareOf_L1_B v0 v1 v2 v3 v4 v5 v6 v7 _ none (fun v' => some (.inl v')) (fun w => some (.inr w))) fail (fun r => Sum.elim next out r) := by
  unfold i_ShareOf_L1_B
  exact bifT (f := (fun o => optK o fail (fun r => Sum.elim next out r))) (fun _ => bifT (f := (fun o => optK o fail (fun r => Sum.elim next out r))) (fun _ => letT (f := (fun o => optK o fail (fun r => Sum.elim next out r))) (fun c5 _ => bifT (f := (fun o => optK o fail (fun r => Sum.elim next out r))) (fun _ => letT (f := (fun o => optK o fail (fun r => Sum.elim next out r))) (fun c6 _ => bifT (f := (fun o => optK o fail (fun r => Sum.elim next out r))) (fun _ => rfl)
      (fun _ => rfl))) (fun _ => rfl))) (fun _ => rfl))
      (fun _ => rfl)
def i_ShareOf_L1_r : Round i_ShareOf_L1_sh.T (WT i_ShareOf_L1_es) where
  B v γ fail next out := i_ShareOf_L1_B v.1.1.1 v.1.2.1.1 v.1.2.2.1.1 v.1.2.2.2.2.1.1 v.1.2.2.2.2.2.1.1 v.1.2.2.2.2.2.2.1.1 v.1.2.2.2.2.2.2.2.1.1 v.2.1 γ fail next out
  par v γ fail next out := i_ShareOf_L1_par v.1.1.1 v.1.2.1.1 v.1.2.2.1.1 v.1.2.2.2.2.1.1 v.1.2.2.2.2.2.1.1 v.1.2.2.2.2.2.2.1.1 v.1.2.2.2.2.2.2.2.1.1 v.2.1 γ fail next out
def i_ShareOf_L1_fu (v0 : Int) (v1 : List Issu) (v2 : Int) (v3 : Int) (v4 : Int) (v5 : Int) (v6 : Int) (v7 : List Bytes) : Nat := (Int.toNat (v5 - v6)) + 1
theorem i_ShareOf_L1_lk (v : i_ShareOf_L1_sh.T) (next : St → Option Res) (k : Ex → St → Option Res) : evalK te (orcOf (P := Try.prog) [i_within_e, i_WordOk_e, i_GuessInputs_e, i_Assigned_e, i_HitBy_e]) (lorcOf []) Try.f42.ntmps i_ShareOf_ann (nthLoop (bodyOf Try.f42) 0 1) 2 (i_ShareOf_L1_sh.enc v) (endK ⟨[0, 1, 2, 8, 9, 10, 36, 37], [], false, 0⟩ ⟨[6, 7, 9, 10], [], false, 0⟩ next k) =
  i_ShareOf_L1_r.B v _ none (fun v' => next (i_ShareOf_L1_sh.enc v')) (fun w => outK i_ShareOf_L1_es k w) := by kernel_rfl
def i_ShareOf_L1_le : LE := leOf 2 i_ShareOf_L1_sh i_ShareOf_L1_es i_ShareOf_L1_r.step (fun v => i_ShareOf_L1_fu v.1.1.1 v.1.2.1.1 v.1.2.2.1.1 v.1.2.2.2.2.1.1 v.1.2.2.2.2.2.1.1 v.1.2.2.2.2.2.2.1.1 v.1.2.2.2.2.2.2.2.1.1 v.2.1)
theorem i_ShareOf_L1_ls (w0 : World) (mo : Mts) (I0 : Nat → Prop) (hmo : mo.length = 0) : LSem Try.prog (Sim w0 mo Try.f42.ntmps I0) (fun b s k => match Nat.beq 2 b with | true => i_ShareOf_L1_le.run s k | false => none) 2 (nthLoop (bodyOf Try.f42) 0 1) :=
  le_sem hmo (lorc := lorcOf []) (ann := i_ShareOf_ann) (keep := ⟨[0, 1, 2, 8, 9, 10, 36, 37], [], false, 0⟩) (kout := ⟨[6, 7, 9, 10], [], false, 0⟩) teFact mixFact (orcOf_ok _) (by kernel_rfl) (allLoops_of (bs := []) (by kernel_rfl) trivial) i_ShareOf_L1_r _ i_ShareOf_L1_lk
def i_ShareOf_L1_f (v0 : Int) (v1 : List Issu) (v2 : Int) (v3 : Int) (v5 : Int) (v7 : List Bytes) (v6 : Int) (a : Int) : Stp (Int) (Empty) :=
  letK (α := Mac) (i_Assigned v7 v2 v6) fun c5 =>
  letK (α := Bool) (i_HitBy (⟨v0, c5, ⟨false, 0, 0, []⟩, false⟩ : Keys) v1) fun c6 =>
  bif c6 then
    .next (IntKind.wrap .i64 (a + 1))
  else
  .next a
theorem i_ShareOf_L1_st (v0 : Int) (v1 : List Issu) (v2 : Int) (v3 : Int) (v4 : Int) (v5 : Int) (v6 : Int) (v7 : List Bytes) (hlo : 0 ≤ v6) (hhi : v6 < v5) (hN : v5 ≤ 4611686018427387904) (hi0 : v7.length ≤ 4294967296) (hi1 : v1.length ≤ 4294967296) : i_ShareOf_L1_r.step (i_ShareOf_L1_mk v0 v1 v2 v3 v4 v5 v6 v7) = Stp.elim (fun a' : Int => some (Sum.inl (i_ShareOf_L1_mk v0 v1 v2 v3 a' v5 (v6 + 1) v7))) (fun w => some (Sum.inr ((fun p : Empty => nomatch p) w))) (i_ShareOf_L1_f v0 v1 v2 v3 v5 v7 v6 v4) := by
  have hw : (IntKind.wrap .i64 (v6 + 1)) = v6 + 1 := wrap64 (by omega) (by omega)
  show i_ShareOf_L1_B v0 v1 v2 v3 v4 v5 v6 v7 (Option (i_ShareOf_L1_sh.T ⊕ WT i_ShareOf_L1_es)) none (fun v' => some (Sum.inl v')) (fun w => some (Sum.inr w)) = _
  unfold i_ShareOf_L1_B i_ShareOf_L1_f
  exact bifG (by simp only [decide_eq_true_eq]; omega) (bifG (by (try simp only [Nat.ble_eq, Bool.and_eq_true, decide_eq_true_eq]); grind [maxSl, maxStr, toBytes_length, toInts_length, List.length_set, wrap64, i_GuessInputs_len, i_Assigned_len]) (letT (f := (Stp.elim (fun a' : Int => some (Sum.inl (i_ShareOf_L1_mk v0 v1 v2 v3 a' v5 (v6 + 1) v7))) (fun w => some (Sum.inr ((fun p : Empty => nomatch p) w))))) (fun c5 hc5 => bifG (by (try simp only [Nat.ble_eq, Bool.and_eq_true, decide_eq_true_eq]); grind [maxSl, maxStr, toBytes_length, toInts_length, List.length_set, wrap64, i_GuessInputs_len, i_Assigned_len]) (letT (f := (Stp.elim (fun a' : Int => some (Sum.inl (i_ShareOf_L1_mk v0 v1 v2 v3 a' v5 (v6 + 1) v7))) (fun w => some (Sum.inr ((fun p : Empty => nomatch p) w))))) (fun c6 hc6 => bifT (f := (Stp.elim (fun a' : Int => some (Sum.inl (i_ShareOf_L1_mk v0 v1 v2 v3 a' v5 (v6 + 1) v7))) (fun w => some (Sum.inr ((fun p : Empty => nomatch p) w))))) (fun b0 => (by exact congrArg (fun z => some (Sum.inl (i_ShareOf_L1_mk v0 v1 v2 v3 (IntKind.wrap .i64 (v4 + 1)) v5 z v7))) hw))
      (fun b0 => (by exact congrArg (fun z => some (Sum.inl (i_ShareOf_L1_mk v0 v1 v2 v3 v4 v5 z v7))) hw)))))))
theorem i_ShareOf_L1_cl (v0 : Int) (v1 : List Issu) (v2 : Int) (v3 : Int) (v4 : Int) (v5 : Int) (v6 : Int) (v7 : List Bytes) (h0 : 0 ≤ v6) (h1 : v5 ≤ 4611686018427387904) (h2 : v7.length ≤ 4294967296) (h3 : v1.length ≤ 4294967296) : loopF i_ShareOf_L1_r.step (i_ShareOf_L1_fu v0 v1 v2 v3 v4 v5 v6 v7) (i_ShareOf_L1_mk v0 v1 v2 v3 v4 v5 v6 v7) = some (Stp.elim (fun a => (fun i a => i_ShareOf_L1_mx0 v3 a) (v6 + 1 * (((Int.toNat (v5 - v6)) : Nat) : Int)) a) (fun p : Empty => nomatch p) (forN (i_ShareOf_L1_f v0 v1 v2 v3 v5 v7) 1 (Int.toNat (v5 - v6)) v6 v4)) :=
  forN_loop (step := i_ShareOf_L1_r.step) (mk := fun v6 a => i_ShareOf_L1_mk v0 v1 v2 v3 a v5 v6 v7) (f := i_ShareOf_L1_f v0 v1 v2 v3 v5 v7) (e := (fun i a => i_ShareOf_L1_mx0 v3 a)) (emb := (fun p : Empty => nomatch p)) (st := 1) (Inv := fun v6 a => True) (Int.toNat (v5 - v6)) v6 v4 _ (Nat.lt_succ_self _) trivial
    (fun j a hj hv => ⟨i_ShareOf_L1_st v0 v1 v2 v3 a v5 (v6 + 1 * (j : Int)) v7 (by omega) (by omega) (by omega) h2 h3, fun _ _ => trivial⟩)
    (fun a hv => by
      show i_ShareOf_L1_B v0 v1 v2 v3 a v5 (v6 + 1 * (((Int.toNat (v5 - v6)) : Nat) : Int)) v7 (Option (i_ShareOf_L1_sh.T ⊕ WT i_ShareOf_L1_es)) none (fun v' => some (Sum.inl v')) (fun w => some (Sum.inr w)) = _
      unfold i_ShareOf_L1_B
      exact bifN (by simp only [decide_eq_false_iff_not]; omega) rfl)
def i_ShareOf_N (x0 : Int) (x1 : List Issu) (x2 : Int) (γ : Type) (fail : γ) (k : Int × Int → γ) : γ :=
  bif (decide (4 < (x1.length : Int))) then
    k (0, 0)
  else
  letK (α := Bool) (i_within x2 1 4) fun c1 =>
  bif (!c1) then
    k (0, 0)
  else
  letK (α := Bool) (i_WordOk x0 32) fun c2 =>
  bif (!c2) then
    k (0, 0)
  else
  bif (decide (x1.length ≤ 4294967296)) then
  letK (α := List Bytes) (i_GuessInputs x0 x1) fun c3 =>
  optK (loopF i_ShareOf_L0_r.step (i_ShareOf_L0_fu x0 x1 x2 1 (c3.length : Int) 0 c3) (i_ShareOf_L0_mk x0 x1 x2 1 (c3.length : Int) 0 c3)) fail fun w4 =>
    optK (loopF i_ShareOf_L1_r.step (i_ShareOf_L1_fu w4.1.1.1 w4.1.2.1.1 w4.1.2.2.1.1 w4.1.2.2.2.2.2.2.1.1 0 w4.1.2.2.2.2.2.2.1.1 0 w4.2.1) (i_ShareOf_L1_mk w4.1.1.1 w4.1.2.1.1 w4.1.2.2.1.1 w4.1.2.2.2.2.2.2.1.1 0 w4.1.2.2.2.2.2.2.1.1 0 w4.2.1)) fail fun w7 =>
      k (w7.1.2.2.2.1.1, w7.1.2.2.1.1)
  else fail
def i_ShareOf (x0 : Int) (x1 : List Issu) (x2 : Int) : Int × Int :=
  bif (decide (4 < (x1.length : Int))) then
    (0, 0)
  else
  letK (α := Bool) (i_within x2 1 4) fun c1 =>
  bif (!c1) then
    (0, 0)
  else
  letK (α := Bool) (i_WordOk x0 32) fun c2 =>
  bif (!c2) then
    (0, 0)
  else
  letK (α := List Bytes) (i_GuessInputs x0 x1) fun c3 =>
  Stp.elim (fun a9 =>
    Stp.elim (fun a11 =>
      (a11, a9))
      (fun p : Empty => nomatch p)
      (forN (i_ShareOf_L1_f x0 x1 x2 a9 a9 c3) 1 (Int.toNat (a9 - 0)) 0 0))
    (fun p : Empty => nomatch p)
    (forN (i_ShareOf_L0_f x0 x1 x2 (c3.length : Int) c3) 1 (Int.toNat ((c3.length : Int) - 0)) 0 1)
theorem i_ShareOf_lk (x0 : Int) (x1 : List Issu) (x2 : Int) : evalFn te (orcOf (P := Try.prog) [i_within_e, i_WordOk_e, i_GuessInputs_e, i_Assigned_e, i_HitBy_e]) (lorcOf [i_ShareOf_L0_le, i_ShareOf_L1_le]) i_ShareOf_ann Try.f42 (pvs [.sc (.int .i64), .sc (.sl .issu), .sc (.int .i64)] (x0, x1, x2, ())) =
  i_ShareOf_N x0 x1 x2 _ none (fun v => some [(false, [RC.c (.int .i64 v.1)]), (false, [RC.c (.int .i64 v.2)])]) := by kernel_rfl
theorem i_ShareOf_p (x0 : Int) (x1 : List Issu) (x2 : Int) (hx0 : inK .i64 x0) (hx1 : x1.length ≤ 140737488355328) (hx2 : inK .i64 x2) (hp : x1.length ≤ 4294967296) (γ : Type) (fail : γ) (k : Int × Int → γ) : i_ShareOf_N x0 x1 x2 γ fail k = k (i_ShareOf x0 x1 x2) := by
  unfold i_ShareOf_N i_ShareOf
  exact bifT (f := k) (fun b0 => rfl)
      (fun b0 => letT (f := k) (fun c1 hc1 => bifT (f := k) (fun b1 => rfl)
      (fun b1 => letT (f := k) (fun c2 hc2 => bifT (f := k) (fun b2 => rfl)
      (fun b2 => bifG (by (try simp only [Nat.ble_eq, Bool.and_eq_true, decide_eq_true_eq, i_ShareOf_L0_mx0, i_ShareOf_L1_mx0]); grind [maxSl, maxStr, toBytes_length, toInts_length, List.length_set, wrap64, i_within_eq, i_GuessInputs_len, i_Assigned_len]) (letT (f := k) (fun c3 hc3 => loopX (f := k) (i_ShareOf_L0_cl x0 x1 x2 1 (c3.length : Int) 0 c3 (by (try simp only [Nat.ble_eq, Bool.and_eq_true, decide_eq_true_eq, i_ShareOf_L0_mx0, i_ShareOf_L1_mx0]); grind [maxSl, maxStr, toBytes_length, toInts_length, List.length_set, wrap64, i_within_eq, i_GuessInputs_len, i_Assigned_len]) (by (try simp only [Nat.ble_eq, Bool.and_eq_true, decide_eq_true_eq, i_ShareOf_L0_mx0, i_ShareOf_L1_mx0]); grind [maxSl, maxStr, toBytes_length, toInts_length, List.length_set, wrap64, i_within_eq, i_GuessInputs_len, i_Assigned_len]) (by (try simp only [Nat.ble_eq, Bool.and_eq_true, decide_eq_true_eq, i_ShareOf_L0_mx0, i_ShareOf_L1_mx0]); grind [maxSl, maxStr, toBytes_length, toInts_length, List.length_set, wrap64, i_within_eq, i_GuessInputs_len, i_Assigned_len]) (by (try simp only [Nat.ble_eq, Bool.and_eq_true, decide_eq_true_eq, i_ShareOf_L0_mx0, i_ShareOf_L1_mx0]); grind [maxSl, maxStr, toBytes_length, toInts_length, List.length_set, wrap64, i_within_eq, i_GuessInputs_len, i_Assigned_len]) (by (try simp only [Nat.ble_eq, Bool.and_eq_true, decide_eq_true_eq, i_ShareOf_L0_mx0, i_ShareOf_L1_mx0]); grind [maxSl, maxStr, toBytes_length, toInts_length, List.length_set, wrap64, i_within_eq, i_GuessInputs_len, i_Assigned_len]) (by (try simp only [Nat.ble_eq, Bool.and_eq_true, decide_eq_true_eq, i_ShareOf_L0_mx0, i_ShareOf_L1_mx0]); grind [maxSl, maxStr, toBytes_length, toInts_length, List.length_set, wrap64, i_within_eq, i_GuessInputs_len, i_Assigned_len])) (fun a9 ha9 => have ia9 := i_ShareOf_L0_nx x0 x1 x2 1 (c3.length : Int) 0 c3 (by (try simp only [Nat.ble_eq, Bool.and_eq_true, decide_eq_true_eq, i_ShareOf_L0_mx0, i_ShareOf_L1_mx0]); grind [maxSl, maxStr, toBytes_length, toInts_length, List.length_set, wrap64, i_within_eq, i_GuessInputs_len, i_Assigned_len]) (by (try simp only [Nat.ble_eq, Bool.and_eq_true, decide_eq_true_eq, i_ShareOf_L0_mx0, i_ShareOf_L1_mx0]); grind [maxSl, maxStr, toBytes_length, toInts_length, List.length_set, wrap64, i_within_eq, i_GuessInputs_len, i_Assigned_len]) (by (try simp only [Nat.ble_eq, Bool.and_eq_true, decide_eq_true_eq, i_ShareOf_L0_mx0, i_ShareOf_L1_mx0]); grind [maxSl, maxStr, toBytes_length, toInts_length, List.length_set, wrap64, i_within_eq, i_GuessInputs_len, i_Assigned_len]) (by (try simp only [Nat.ble_eq, Bool.and_eq_true, decide_eq_true_eq, i_ShareOf_L0_mx0, i_ShareOf_L1_mx0]); grind [maxSl, maxStr, toBytes_length, toInts_length, List.length_set, wrap64, i_within_eq, i_GuessInputs_len, i_Assigned_len]) (by (try simp only [Nat.ble_eq, Bool.and_eq_true, decide_eq_true_eq, i_ShareOf_L0_mx0, i_ShareOf_L1_mx0]); grind [maxSl, maxStr, toBytes_length, toInts_length, List.length_set, wrap64, i_within_eq, i_GuessInputs_len, i_Assigned_len]) (by (try simp only [Nat.ble_eq, Bool.and_eq_true, decide_eq_true_eq, i_ShareOf_L0_mx0, i_ShareOf_L1_mx0]); grind [maxSl, maxStr, toBytes_length, toInts_length, List.length_set, wrap64, i_within_eq, i_GuessInputs_len, i_Assigned_len]) _ ha9; loopT (f := k) (i_ShareOf_L1_cl x0 x1 x2 a9 0 a9 0 c3 (by (try simp only [Nat.ble_eq, Bool.and_eq_true, decide_eq_true_eq, i_ShareOf_L0_mx0, i_ShareOf_L1_mx0]); grind [maxSl, maxStr, toBytes_length, toInts_length, List.length_set, wrap64, i_within_eq, i_GuessInputs_len, i_Assigned_len]) (by (try simp only [Nat.ble_eq, Bool.and_eq_true, decide_eq_true_eq, i_ShareOf_L0_mx0, i_ShareOf_L1_mx0]); grind [maxSl, maxStr, toBytes_length, toInts_length, List.length_set, wrap64, i_within_eq, i_GuessInputs_len, i_Assigned_len]) (by (try simp only [Nat.ble_eq, Bool.and_eq_true, decide_eq_true_eq, i_ShareOf_L0_mx0, i_ShareOf_L1_mx0]); grind [maxSl, maxStr, toBytes_length, toInts_length, List.length_set, wrap64, i_within_eq, i_GuessInputs_len, i_Assigned_len]) (by (try simp only [Nat.ble_eq, Bool.and_eq_true, decide_eq_true_eq, i_ShareOf_L0_mx0, i_ShareOf_L1_mx0]); grind [maxSl, maxStr, toBytes_length, toInts_length, List.length_set, wrap64, i_within_eq, i_GuessInputs_len, i_Assigned_len])) (fun a11 => rfl)
      (fun p : Empty => nomatch p))
      (fun p : Empty => nomatch p))))))))
theorem i_ShareOf_c (x0 : Int) (x1 : List Issu) (x2 : Int) (hp : x1.length ≤ 4294967296) : Con Try.prog 42 (pvs [.sc (.int .i64), .sc (.sl .issu), .sc (.int .i64)] (x0, x1, x2, ())) [rv (.sc (.int .i64)) [] (i_ShareOf x0 x1 x2).1, rv (.sc (.int .i64)) [] (i_ShareOf x0 x1 x2).2] := by
  refine Con.of_facts (enters_of Try.func42 rfl (by kernel_rfl)) fun hf => ?_
  replace hf := factAt hf
  exact evalFn_conL teFact mixFact (orcOf_ok _) Try.func42 (by kernel_rfl) (bs := [0, 2]) (by kernel_rfl) (by kernel_rfl) (fun w0 mo I0 hmo => ⟨lsem_of_lorc (i_ShareOf_L0_ls w0 mo I0 hmo) (by kernel_rfl), lsem_of_lorc (i_ShareOf_L1_ls w0 mo I0 hmo) (by kernel_rfl), trivial⟩) ((i_ShareOf_lk x0 x1 x2).trans (i_ShareOf_p x0 x1 x2 ((hf 0 0 rfl rfl).rng) ((hf 1 0 rfl rfl).len) ((hf 2 0 rfl rfl).rng) hp _ _ _))
noncomputable def i_ShareOf_e : Ent1 Try.prog := entP 42 [.sc (.int .i64), .sc (.sl .issu), .sc (.int .i64)] (fun x => (decide (x.2.1.length ≤ 4294967296))) (fun x => (i_ShareOf x.1 x.2.1 x.2.2.1)) (fun v => [rv (.sc (.int .i64)) [] v.1, rv (.sc (.int .i64)) [] v.2]) (fun x hx => i_ShareOf_c x.1 x.2.1 x.2.2.1 (of_decide_eq_true hx))



theorem s_WordOk_eq (n b : Int) : s_WordOk n b = bif s_l1In b 1 62 then s_l1In n 0 (IntKind.wrap .i64 ((IntKind.wrap .i64 (1 * 2 ^ (min (IntKind.wrap .u64 b).toNat 64))) - 1)) else false := by
  simp only [s_WordOk, letK]
theorem i_WordOk_eq (n b : Int) : i_WordOk n b = bif i_within b 1 62 then i_within n 0 (IntKind.wrap .i64 ((IntKind.wrap .i64 (1 * 2 ^ (min b.toNat 64))) - 1)) else false := by
  simp only [i_WordOk, letK]
theorem q_WordOk (n b : Int) : s_WordOk n b = i_WordOk n b := by
  rw [s_WordOk_eq, i_WordOk_eq, s_l1In_eq, i_within_eq]
  cases h : (decide (1 ≤ b) && decide (b ≤ 62)) with
  | false => rw [cond_false, cond_false]
  | true =>
    have h1 : 1 ≤ b ∧ b ≤ 62 := by simpa using h
    have h2 : IntKind.u64.wrap b = b := by rw [wrapU_def]; exact Int.emod_eq_of_lt (by omega) (by omega)
    rw [h2, cond_true, cond_true, s_l1In_eq, i_within_eq]


theorem q_within (a b c : Int) : s_l1In a b c = i_within a b c := by rw [s_l1In_eq, i_within_eq]


theorem q_TupleOk (x : Tupl) : s_TupleOk x = i_TupleOk x := by simp only [s_TupleOk, i_TupleOk, q_WordOk]


theorem forN_congrI {A W : Type} {f g : Int → A → Stp A W} {st : Int} {P : A → Prop} (h : ∀ i a, P a → f i a = g i a) (hp : ∀ i a a', P a → f i a = .next a' → P a') : ∀ (k : Nat) (i : Int) (a : A), P a → forN f st k i a = forN g st k i a
  | 0, _, _, _ => rfl
  | k + 1, i, a, ha => by
    simp only [forN, ← h i a ha]
    cases hf : f i a with
    | out w => rfl
    | next a' => simp only [Stp.elim]; exact forN_congrI h hp k _ _ (hp i a a' ha hf)


theorem q_SameMac (x y : Mac) : s_SameMac x y = i_SameMac x y := by
  unfold s_SameMac i_SameMac g_Equal_MacRow letK
  rw [show forN (s_SameMac_L0_f x.use x.k x.l x.rows y.use y.k y.l y.rows) 1 (Int.toNat ((x.rows.length : Int) - 0)) 0 () = forN (g_Equal_MacRow_L0_f x.rows y.rows (x.rows.length : Int)) 1 (Int.toNat ((x.rows.length : Int) - 0)) 0 () from forN_congr (fun _ _ => rfl) _ _ _]
  have e1 : (x.k != y.k) = !(x.k == y.k) := rfl
  have e2 : (x.l != y.l) = !(x.l == y.l) := rfl
  rw [e1, e2]
  cases (x.use == y.use) <;> cases (x.k == y.k) <;> cases (x.l == y.l) <;> rfl
theorem SameMac_refl (x : Mac) : i_SameMac x x = true := by
  unfold i_SameMac g_Equal_MacRow letK
  rw [toNat_sub0, forN_list x.rows _ rfl (F := fun j y a => bif (fun _ => false) y then .out () else .next ()) (by
    intro j y a h
    simp [g_Equal_MacRow_L0_f])]
  rw [listN_all x.rows 0 (by simp)]
  simp [Stp.elim]
theorem SameMac_none (x : Mac) (h : i_SameMac x ⟨false, 0, 0, []⟩ = true) : x = ⟨false, 0, 0, []⟩ := by
  unfold i_SameMac g_Equal_MacRow letK at h
  obtain ⟨u, k, l, r⟩ := x
  cases r with
  | nil => simp [forN, Stp.elim] at h; obtain ⟨h1, h2, h3⟩ := h; subst h1; subst h2; subst h3; rfl
  | cons a b =>
    have : (((a :: b).length : Int) != (([] : List MacRow).length : Int)) = true := by simp; omega
    simp only [this, cond_true] at h
    revert h
    cases (u == false) <;> cases (k == 0) <;> cases (l == 0) <;> simp


theorem forN_ext {A W : Type} {f g : Int → A → Stp A W} : ∀ (k : Nat) (i : Nat) (a : A), (∀ j a, j < i + k → f (j : Int) a = g (j : Int) a) → forN f 1 k (i : Int) a = forN g 1 k (i : Int) a
  | 0, _, _, _ => rfl
  | k + 1, i, a, h => by
    simp only [forN, h i a (by omega)]
    cases g (i : Int) a with
    | out w => rfl
    | next a' => simp only [Stp.elim]; rw [show ((i : Int) + 1) = ((i + 1 : Nat) : Int) by omega]; exact forN_ext k (i + 1) a' (fun j a hj => h j a (by omega))
theorem MacOk_in (r : List MacRow) (u : Bool) (k l : Int) (j : Nat) (hj : j < r.length) :
    Stp.elim (γ := Stp Unit Unit) (fun a3 => .next ()) (fun p3 => .out ()) (forN (s_MacOk_L0_0_f (j : Int) u k l r) 1 (Int.toNat ((j : Int) - 0)) 0 ()) =
    bif (g_ContainsFunc_MacRow_i_MacOk_1 ((r.take j).drop 0) (r.getD j (Ty.zero .macRow))).1 then .out () else .next () := by
  let p : MacRow → Bool := fun y => y.input == (r.getD j (Ty.zero .macRow)).input
  unfold g_ContainsFunc_MacRow_i_MacOk_1 g_IndexFunc_MacRow_i_MacOk_1
  rw [List.drop_zero]
  have hl : (r.take j).length = j := by rw [List.length_take]; omega
  rw [forN_list (r.take j) _ (by rw [hl]; simp) (F := fun q y a => bif p y then .out () else .next ()) (by
    intro q y a h
    have hq : q < j := by
      have := (List.getElem?_eq_some_iff.1 h).1; omega
    have h2 : r[q]? = some y := by rw [List.getElem?_take] at h; simpa [hq] using h
    simp only [s_MacOk_L0_0_f, toNat_cast, getD_some h2, p])]
  rw [forN_list (r.take j) _ (by simp) (F := fun q y a => bif p y then .out (q : Int) else .next ()) (by
    intro q y a h
    simp only [g_IndexFunc_MacRow_i_MacOk_1_L0_f, letK, i_MacOk_1, toNat_cast, getD_some h, p])]
  rw [listN_find (w := fun _ _ => ()), listN_find (w := fun j _ => (j : Int))]
  simp only [letK]
  cases h : (r.take j).findIdx? p with
  | none => simp [Stp.elim]
  | some i =>
    have := (List.findIdx?_eq_some_iff_getElem.1 h).1
    simp only [List.getElem?_eq_getElem this, Stp.elim]
    simp
theorem q_MacOk (x : Mac) : s_MacOk x = i_MacOk x := by
  unfold s_MacOk i_MacOk
  have e : forN (s_MacOk_L0_f x.use x.k x.l x.rows) 1 (Int.toNat ((x.rows.length : Int) - 0)) 0 () = forN (i_MacOk_L0_f x.rows (x.rows.length : Int) x.use x.k x.l x.rows) 1 (Int.toNat ((x.rows.length : Int) - 0)) 0 () := by
    rw [toNat_sub0]
    refine forN_ext x.rows.length 0 () (fun j a hj => ?_)
    have := MacOk_in x.rows x.use x.k x.l j (by omega)
    simp only [s_MacOk_L0_f, i_MacOk_L0_f, letK, toNat_cast, q_within] at this ⊢
    rw [this]
  rw [e]
  have e1 : (x.k != 0) = !(x.k == 0) := rfl
  have e2 : (x.l != 0) = !(x.l == 0) := rfl
  have e3 : decide (64 < (x.rows.length : Int)) = !decide ((x.rows.length : Int) ≤ 64) := by
    rcases Int.lt_or_le 64 (x.rows.length : Int) with h | h
    · simp [h, show ¬ ((x.rows.length : Int) ≤ 64) by omega]
    · simp [h, show ¬ (64 < (x.rows.length : Int)) by omega]
  rw [e1, e2, e3]
  cases x.use with
  | false => rfl
  | true =>
    cases forN (i_MacOk_L0_f x.rows (x.rows.length : Int) true x.k x.l x.rows) 1 (Int.toNat ((x.rows.length : Int) - 0)) 0 () <;> cases (x.k == 0) <;> cases (x.l == 0) <;> cases decide ((x.rows.length : Int) ≤ 64) <;> rfl


theorem q_PutWord (n b : Int) : s_PutWord n b = i_PutWord n b := by
  unfold s_PutWord i_PutWord
  simp only [letK, q_within, q_WordOk]
  cases h1 : i_within b 1 6 with
  | false => rfl
  | true =>
    simp only [Bool.not_true, cond_false]
    cases h2 : i_WordOk n (IntKind.wrap .i64 (8 * b)) with
    | false => rfl
    | true =>
      simp only [Bool.not_true, cond_false]
      have hb : 0 ≤ n ∧ n ≤ 9223372036854775807 := by
        rw [i_WordOk_eq, i_within_eq, i_within_eq] at h2
        revert h2
        cases (decide (1 ≤ IntKind.wrap .i64 (8 * b)) && decide (IntKind.wrap .i64 (8 * b) ≤ 62)) with
        | false => simp
        | true =>
          simp only [cond_true, Bool.and_eq_true, decide_eq_true_eq]
          generalize (IntKind.wrap .i64 (1 * 2 ^ (min (IntKind.wrap .i64 (8 * b)).toNat 64))) = z
          rw [wrap64_def]
          omega
      have e : ∀ k i r, forN s_PutWord_L0_f (-1) k i (n, r) = forN i_PutWord_L0_f (-1) k i (n, r) := by
       intro k i r
       refine forN_congrI (P := fun a => 0 ≤ a.1 ∧ a.1 ≤ 9223372036854775807) (fun i a ha => ?_) (fun i a a' ha he => ?_) k i (n, r) hb
       · unfold s_PutWord_L0_f i_PutWord_L0_f
         rw [(tdiv_pos 256).1 ha.1, (tmod_pos 256).1 ha.1, wrap64 (by omega) (by omega), Int.fdiv_eq_ediv_of_nonneg a.1 (by omega), wrap8_def, wrap8_def, Int.emod_emod]
       · unfold s_PutWord_L0_f at he
         cases he
         show 0 ≤ IntKind.wrap .i64 (a.1.tdiv 256) ∧ _
         rw [(tdiv_pos 256).1 ha.1, wrap64 (by omega) (by omega)]
         omega
      rw [e]
      all_goals rfl


theorem q_CookieParts (x : Int) : s_CookieParts x = i_CookieParts x := by simp only [s_CookieParts, i_CookieParts, q_WordOk]


theorem q_MacInput (x : Tupl) (a b c : Int) : s_MacInput x a b c = i_MacInput x a b c := by simp only [s_MacInput, i_MacInput, q_PutWord, q_TupleOk, q_WordOk, q_within]


theorem q_l1Has (xs : List Bytes) (x : Bytes) : s_l1Has xs x = g_Contains_string xs x := by
  unfold s_l1Has g_Contains_string g_Index_string
  let p : Bytes → Bool := fun y => y == x
  rw [toNat_sub0, forN_list xs _ rfl (F := fun j y a => bif p y then .out () else .next ()) (by
    intro j y a h
    simp only [s_l1Has_L0_f, letK, toNat_cast, getD_some h, p])]
  rw [forN_list xs _ rfl (F := fun j y a => bif p y then .out (j : Int) else .next ()) (by
    intro j y a h
    have : (x == y) = (y == x) := by rw [Bool.eq_iff_iff]; simp only [beq_iff_eq]; exact eq_comm
    simp only [g_Index_string_L0_f, letK, toNat_cast, getD_some h, p, this])]
  rw [listN_find (w := fun _ _ => ()), listN_find (w := fun j _ => (j : Int))]
  simp only [letK]
  cases h : xs.findIdx? p with
  | none => simp [Stp.elim]
  | some i =>
    have := (List.findIdx?_eq_some_iff_getElem.1 h).1
    simp only [List.getElem?_eq_getElem this, Stp.elim]
    simp


theorem q_GuessInputs (e : Int) (xs : List Issu) : s_GuessInputs e xs = i_GuessInputs e xs := by
  unfold s_GuessInputs i_GuessInputs
  rw [show forN (s_GuessInputs_L0_f e xs) 1 (Int.toNat ((xs.length : Int) - 0)) 0 [] = forN (i_GuessInputs_L0_f e xs (xs.length : Int)) 1 (Int.toNat ((xs.length : Int) - 0)) 0 [] from forN_congr (fun _ _ => by simp only [s_GuessInputs_L0_f, i_GuessInputs_L0_f, q_CookieParts, q_MacInput, q_l1Has]) _ _ _]
  all_goals rfl
theorem GuessInputs_len (e : Int) (xs : List Issu) : (i_GuessInputs e xs).length ≤ xs.length := by
  unfold i_GuessInputs
  cases hf : forN (i_GuessInputs_L0_f e xs (xs.length : Int)) 1 (Int.toNat ((xs.length : Int) - 0)) 0 [] with
  | out p => nomatch p
  | next a =>
    have h5 : (a.length : Int) ≤ 0 + 1 * (Int.toNat ((xs.length : Int) - 0) : Int) := by
      refine forN_inv (Inv := fun i a => (a.length : Int) ≤ i) _ _ _ (by simp) (fun j a _ h a2 he => ?_) a hf
      unfold i_GuessInputs_L0_f at he
      simp only [letK] at he
      revert he
      generalize (i_MacInput _ _ _ _) = m
      generalize g_Contains_string a m = c
      cases hm : (m == ([] : Bytes)) <;> cases c <;> intro he <;> simp only [Bool.not_true, Bool.not_false, cond_true, cond_false] at he <;> cases he <;> (try simp only [List.length_append, List.length_singleton]) <;> omega
    simp only [Stp.elim]
    omega


theorem q_Assigned (xs : List Bytes) (n m : Int) : s_Assigned xs n m = i_Assigned xs n m := by
  unfold s_Assigned i_Assigned
  simp only [letK, q_within, s_TableMac, List.nil_append]
  rw [show forN (s_Assigned_L0_f xs n false 0 0) 1 (Int.toNat ((xs.length : Int) - 0)) 0 (m, []) = forN (i_Assigned_L0_f n xs (xs.length : Int) false 0 0 true 0 0) 1 (Int.toNat ((xs.length : Int) - 0)) 0 (m, []) from forN_congr (fun _ _ => rfl) _ _ _]
  all_goals rfl
theorem Assigned_len (xs : List Bytes) (n m : Int) : (i_Assigned xs n m).rows.length ≤ 4 := by
  unfold i_Assigned letK
  cases i_within n 1 4 with
  | false => simp
  | true =>
    cases decide (m < 0) with
    | true => simp
    | false =>
      cases hd : decide (4 < (xs.length : Int)) with
      | true => simp
      | false =>
        simp only [decide_eq_false_iff_not] at hd
        simp only [Bool.not_true, cond_false]
        cases hf : forN (i_Assigned_L0_f n xs (xs.length : Int) false 0 0 true 0 0) 1 (Int.toNat ((xs.length : Int) - 0)) 0 (m, []) with
        | out p => nomatch p
        | next a =>
          have h5 : (a.2.length : Int) ≤ 0 + 1 * (Int.toNat ((xs.length : Int) - 0) : Int) := by
            refine forN_inv (Inv := fun i (a : Int × List MacRow) => (a.2.length : Int) ≤ i) _ _ _ (by simp) (fun j a _ h a2 he => ?_) a hf
            unfold i_Assigned_L0_f at he
            cases he
            simp only [List.length_append, List.length_singleton]
            omega
          simp only [Stp.elim]
          omega


theorem factFl (f : Fl) : FactC (f.cell f.zero) := by
  cases f with
  | int k => exact .int _ _ (by cases k <;> exact ⟨by decide, by decide⟩)
  | bool => exact .bool _
  | str => exact .str _ (Nat.zero_le _)
  | sl t => exact .sl _ _ (Nat.zero_le _) (fun x hx => nomatch hx)
theorem factZeroH : ∀ (fs : List Fl), ∀ c ∈ cellsH fs (zeroH fs), FactC c
  | [], c, hc => nomatch hc
  | f :: fs, c, hc => by
    rcases List.mem_cons.1 hc with rfl | h
    · exact factFl f
    · exact factZeroH fs c h
theorem factZero (t : Ty) : ∀ c ∈ Ty.cells t (Ty.zero t), FactC c := by
  have : Ty.cells t (Ty.zero t) = cellsH t.fl (zeroH t.fl) := by simp only [Ty.cells, Ty.zero, Ty.toH_ofH]
  rw [this]
  exact factZeroH _

theorem eqTuple_refl (x : Tupl) : w_eqTuple x x = true := by simp [w_eqTuple, letK]

theorem w_szIssueS_sm (x0 : List Issu) (x1 : Int) (hn : 0 ≤ x1 ∧ x1 ≤ 1048576) (hx0 : x0.length ≤ 140737488355328) : 0 ≤ w_szIssueS x0 x1 → w_szIssueS x0 x1 ≤ 1048576 ∧ x0.length ≤ 1048576 := by
  unfold w_szIssueS
  rw [wrap64 (by omega) (by omega)]
  cases hd : decide (x1 - (x0.length : Int) < 0) with
  | true => intro h; simp only [cond_true] at h; omega
  | false =>
    simp only [decide_eq_false_iff_not] at hd
    simp only [cond_false]
    intro h; omega

theorem eqIssue_refl (x : Issu) : w_eqIssue x x = true := by simp [w_eqIssue, letK, eqTuple_refl]

theorem toTuple_eq (x : Tupl) : w_toTuple x = x := by
  first | rfl | simp only [w_toTuple, letK] | (simp [w_toTuple, letK])

theorem eqMacRow_refl (x : MacRow) : w_eqMacRow x x = true := by simp [w_eqMacRow, letK]

theorem w_szMacRowS_sm (x0 : List MacRow) (x1 : Int) (hn : 0 ≤ x1 ∧ x1 ≤ 1048576) (hx0 : x0.length ≤ 140737488355328) (hx0_e : ∀ y ∈ x0, ∀ c ∈ Ty.cells .macRow y, FactC c) : 0 ≤ w_szMacRowS x0 x1 → w_szMacRowS x0 x1 ≤ 1048576 ∧ x0.length ≤ 1048576 := by
  unfold w_szMacRowS
  rw [wrap64 (by omega) (by omega)]
  cases hd : decide (x1 - (x0.length : Int) < 0) with
  | true => intro h; simp only [cond_true] at h; omega
  | false =>
    simp only [decide_eq_false_iff_not] at hd
    simp only [cond_false]
    cases hf : forN (w_szMacRowS_L0_f x0) 1 (Int.toNat ((x0.length : Int) - 0)) 0 (x1 - (x0.length : Int)) with
    | out p => intro h; simp only [Stp.elim] at h; omega
    | next a =>
      have h5 : 0 ≤ a ∧ a ≤ 1048576 := by
        refine forN_inv (Inv := fun _ a => 0 ≤ a ∧ a ≤ 1048576) _ _ _ (by omega) (fun j a _ h a2 he => ?_) a hf
        have hq : ∀ y : MacRow, (∀ c ∈ Ty.cells .macRow y, FactC c) → 0 ≤ w_szMacRow y a → w_szMacRow y a ≤ 1048576 := fun y hy h0 => (w_szMacRow_sm y a h (hy (.str y.input) List.mem_cons_self).slen h0).1
        have hz : ∀ c ∈ Ty.cells .macRow (x0.getD (0 + 1 * (j : Int)).toNat (Ty.zero .macRow)), FactC c := getD_all (p := fun y => ∀ c ∈ Ty.cells .macRow y, FactC c) (factZero _) hx0_e _
        unfold w_szMacRowS_L0_f at he
        simp only [letK] at he
        cases hc : decide (w_szMacRow (x0.getD (0 + 1 * (j : Int)).toNat (Ty.zero .macRow)) a < 0) <;> rw [hc] at he <;> cases he
        simp only [decide_eq_false_iff_not] at hc
        exact ⟨by omega, hq _ hz (by omega)⟩
      intro _; simp only [Stp.elim]; omega

theorem toMacRow_eq (x : MacRow) : w_toMacRow x = x := by
  first | rfl | simp only [w_toMacRow, letK] | (simp [w_toMacRow, letK])

theorem rot_eq (x n : Int) (h : bits .and .u64 (IntKind.wrap .u64 n) 63 = n) : mb_RotateLeft64 x n = s_l10Turn x n := by
  simp only [mb_RotateLeft64, s_l10Turn, letK, h]
theorem q_SipRound (x : Sipr) : s_SipRound x = i_SipRound x := by
  simp only [s_SipRound, i_SipRound, rot_eq _ 13 (by decide +kernel), rot_eq _ 16 (by decide +kernel), rot_eq _ 17 (by decide +kernel), rot_eq _ 21 (by decide +kernel), rot_eq _ 32 (by decide +kernel)]

theorem wraps_u64 (n : Int) (h0 : 0 ≤ n) (h1 : n < 2 ^ 64) : IntKind.u64.wrap n = n := by rw [wrapU_def]; omega
theorem or8 (a b : Int) (ha : 0 ≤ a) (ha1 : a < 72057594037927936) (hb : 0 ≤ b) (hb1 : b < 256) : bits .or .u64 (IntKind.wrap .u64 (a * 256)) (IntKind.wrap .u64 b) = a * 256 + b := by
  rw [wraps_u64 _ (by omega) (by omega), wraps_u64 _ (by omega) (by omega)]
  exact bits_join .u64 64 (by decide) wraps_u64 8 _ _ (by omega) (by omega) (by omega) (by omega) (by omega) (by omega)
/-- bytes from the k-th down, as digits -/
def Rd8 (g : Nat → Int) : Nat → Int → Int
  | 0, a => a
  | k + 1, a => Rd8 g k (a * 256 + g k)
theorem Rd8_congr {g h : Nat → Int} : ∀ (k : Nat) (a : Int), (∀ j, j < k → g j = h j) → Rd8 g k a = Rd8 h k a
  | 0, _, _ => rfl
  | k + 1, a, e => by simp only [Rd8, e k (Nat.lt_succ_self _)]; exact Rd8_congr k _ fun j hj => e j (by omega)
theorem Rd8_lin {g : Nat → Int} : ∀ (k : Nat) (a : Int), Rd8 g k a = a * 256 ^ k + Rd8 g k 0
  | 0, a => by simp [Rd8]
  | k + 1, a => by
    simp only [Rd8]
    rw [Rd8_lin k (a * 256 + g k), Rd8_lin k (0 * 256 + g k), Int.pow_succ, Int.add_mul, Int.zero_mul, Int.zero_add, Int.mul_assoc, Int.mul_comm 256 (256 ^ k), Int.add_assoc]
theorem pow256 (k : Nat) : (1 : Int) ≤ 256 ^ k := by
  have := Int.pow_pos (n := 256) (m := k) (by decide)
  omega
theorem Rd8_bd {g : Nat → Int} (hg : ∀ k, 0 ≤ g k ∧ g k ≤ 255) : ∀ (k : Nat), 0 ≤ Rd8 g k 0 ∧ Rd8 g k 0 < 256 ^ k
  | 0 => by simp [Rd8]
  | k + 1 => by
    have h := Rd8_bd hg k
    simp only [Rd8]
    rw [Rd8_lin, Int.zero_mul, Int.zero_add, Int.pow_succ]
    have h1 := hg k
    have h2 := pow256 k
    have h3 : 0 ≤ g k * 256 ^ k := Int.mul_nonneg h1.1 (by omega)
    have h4 : g k * 256 ^ k ≤ 255 * 256 ^ k := Int.mul_le_mul_of_nonneg_right h1.2 (by omega)
    omega
theorem low_forN {f : Int → Int → Stp Int Empty} {g : Nat → Int} (hg : ∀ k, 0 ≤ g k ∧ g k ≤ 255) (hf : ∀ (k : Nat) a, f (k : Int) a = .next (bits .or .u64 (IntKind.wrap .u64 (a * 256)) (IntKind.wrap .u64 (g k)))) :
    ∀ (k : Nat) (a : Int), 0 ≤ a → (a + 1) * 256 ^ k ≤ 18446744073709551616 → forN f (-1) k ((k : Int) - 1) a = .next (Rd8 g k a)
  | 0, a, _, _ => rfl
  | k + 1, a, h0, h1 => by
    have hp := pow256 k
    rw [Int.pow_succ, Int.mul_comm (256 ^ k) 256, ← Int.mul_assoc] at h1
    have h2 : (a + 1) * 256 * 1 ≤ (a + 1) * 256 * 256 ^ k := Int.mul_le_mul_of_nonneg_left hp (by omega)
    have h3 := hg k
    simp only [forN, Rd8]
    rw [show ((k + 1 : Nat) : Int) - 1 = (k : Int) by omega, hf, or8 a (g k) h0 (by omega) h3.1 (by omega)]
    simp only [Stp.elim]
    rw [show (k : Int) + -1 = (k : Int) - 1 by omega]
    refine low_forN hg hf k _ (by omega) ?_
    have h4 : (a * 256 + g k + 1) * 256 ^ k ≤ (a + 1) * 256 * 256 ^ k := Int.mul_le_mul_of_nonneg_right (by omega) (by omega)
    omega
theorem byteAt_le (s : Bytes) (k : Nat) : 0 ≤ byteAt s k ∧ byteAt s k ≤ 255 := byteAt_rng s k
theorem l10Low_eq (s : Bytes) (h : s.length ≤ 8) : s_l10Low s = Rd8 (byteAt s) s.length 0 := by
  unfold s_l10Low
  rw [wrap64 (by omega) (by omega)]
  rw [show Int.toNat ((s.length : Int) - 1 - 0 + 1) = s.length by omega]
  rw [low_forN (g := byteAt s) (byteAt_le s) (fun k a => rfl) s.length 0 (by omega) ?_]
  · rfl
  · have : ∀ k : Nat, k ≤ 8 → (0 + 1 : Int) * 256 ^ k ≤ 18446744073709551616 := by decide
    exact this _ h
theorem little_eq (l : List Int) (h : ∀ k, 0 ≤ l.getD k 0 ∧ l.getD k 0 ≤ 255) : i_little l = Rd8 (fun k => l.getD k 0) 8 0 := by
  unfold i_little
  rw [show Int.toNat (7 - 0 + 1) = 8 from rfl, show (7 : Int) = ((8 : Nat) : Int) - 1 from rfl]
  rw [low_forN (g := fun k => l.getD k 0) h (fun k a => rfl) 8 0 (by omega) (by decide)]
  rfl

/-- laws.szMac -/
def w_szMac_N (x0 : Mac) (x1 : Int) (γ : Type) (fail : γ) (k : Int → γ) : γ :=
  letK (α := Int) (w_szMacRowS x0.rows x1) fun c1 =>
  bif (decide (c1 < 0)) then
    k (-1)
  else
  k c1
def w_szMac (x0 : Mac) (x1 : Int) : Int :=
  letK (α := Int) (w_szMacRowS x0.rows x1) fun c1 =>
  bif (decide (c1 < 0)) then
    (-1)
  else
  c1
theorem w_szMac_lk (x0 : Mac) (x1 : Int) : evalFn te (orcOf (P := Try.prog) [w_szMacRowS_e]) lorc0 [] Try.f79 (pvs [.st .mac, .sc (.int .i64)] (x0, x1, ())) =
  w_szMac_N x0 x1 _ none (fun v => some [(false, [RC.c (.int .i64 v)])]) := by kernel_rfl
theorem w_szMac_p (x0 : Mac) (x1 : Int)   (γ : Type) (fail : γ) (k : Int → γ) : w_szMac_N x0 x1 γ fail k = k (w_szMac x0 x1) := by
  unfold w_szMac_N w_szMac
  exact letT (f := k) (fun c1 hc1 => bifT (f := k) (fun b0 => rfl)
      (fun b0 => rfl))
theorem w_szMac_c (x0 : Mac) (x1 : Int)  : Con Try.prog 79 (pvs [.st .mac, .sc (.int .i64)] (x0, x1, ())) [rv (.sc (.int .i64)) [] (w_szMac x0 x1)] := by
  exact evalFn_con0 teFact mixFact (orcOf_ok _) Try.func79 (by kernel_rfl) ((w_szMac_lk x0 x1).trans (w_szMac_p x0 x1  _ _ _))
noncomputable def w_szMac_e : Ent1 Try.prog := entA 79 [.st .mac, .sc (.int .i64)] (fun x => (w_szMac x.1 x.2.1)) (fun v => [rv (.sc (.int .i64)) [] v]) (fun x => w_szMac_c x.1 x.2.1)

theorem w_szMac_sm (x0 : Mac) (x1 : Int)  (hn : 0 ≤ x1 ∧ x1 ≤ 1048576) (hx0_rows : x0.rows.length ≤ 140737488355328) (hx0_rows_e : ∀ y ∈ x0.rows, ∀ c ∈ Ty.cells .macRow y, FactC c) : (fun v : Int => 0 ≤ v → v ≤ 1048576 ∧ x0.rows.length ≤ 1048576) (w_szMac x0 x1) := by
  unfold w_szMac
  exact letP (P := (fun v : Int => 0 ≤ v → v ≤ 1048576 ∧ x0.rows.length ≤ 1048576)) (fun c1 hc1 => have kc1 := w_szMacRowS_sm x0.rows x1 (by grind [wrap64]) (by assumption) (by assumption); bifP (P := (fun v : Int => 0 ≤ v → v ≤ 1048576 ∧ x0.rows.length ≤ 1048576)) (fun b0 => (by (try simp only [Nat.ble_eq, Bool.and_eq_true, decide_eq_true_eq]); grind [maxSl, maxStr, toBytes_length, toInts_length, List.length_set, wrap64, w_szMacRowS_sm]))
      (fun b0 => (by (try simp only [Nat.ble_eq, Bool.and_eq_true, decide_eq_true_eq]); grind [maxSl, maxStr, toBytes_length, toInts_length, List.length_set, wrap64, w_szMacRowS_sm])))

/-- laws.szKeys -/
def w_szKeys_N (x0 : Keys) (x1 : Int) (γ : Type) (fail : γ) (k : Int → γ) : γ :=
  letK (α := Int) (w_szMac x0.now x1) fun c1 =>
  bif (decide (c1 < 0)) then
    k (-1)
  else
  letK (α := Int) (w_szMac x0.before c1) fun c2 =>
  bif (decide (c2 < 0)) then
    k (-1)
  else
  k c2
def w_szKeys (x0 : Keys) (x1 : Int) : Int :=
  letK (α := Int) (w_szMac x0.now x1) fun c1 =>
  bif (decide (c1 < 0)) then
    (-1)
  else
  letK (α := Int) (w_szMac x0.before c1) fun c2 =>
  bif (decide (c2 < 0)) then
    (-1)
  else
  c2
theorem w_szKeys_lk (x0 : Keys) (x1 : Int) : evalFn te (orcOf (P := Try.prog) [w_szMac_e]) lorc0 [] Try.f43 (pvs [.st .keys, .sc (.int .i64)] (x0, x1, ())) =
  w_szKeys_N x0 x1 _ none (fun v => some [(false, [RC.c (.int .i64 v)])]) := by kernel_rfl
theorem w_szKeys_p (x0 : Keys) (x1 : Int)   (γ : Type) (fail : γ) (k : Int → γ) : w_szKeys_N x0 x1 γ fail k = k (w_szKeys x0 x1) := by
  unfold w_szKeys_N w_szKeys
  exact letT (f := k) (fun c1 hc1 => bifT (f := k) (fun b0 => rfl)
      (fun b0 => letT (f := k) (fun c2 hc2 => bifT (f := k) (fun b1 => rfl)
      (fun b1 => rfl))))
theorem w_szKeys_c (x0 : Keys) (x1 : Int)  : Con Try.prog 43 (pvs [.st .keys, .sc (.int .i64)] (x0, x1, ())) [rv (.sc (.int .i64)) [] (w_szKeys x0 x1)] := by
  exact evalFn_con0 teFact mixFact (orcOf_ok _) Try.func43 (by kernel_rfl) ((w_szKeys_lk x0 x1).trans (w_szKeys_p x0 x1  _ _ _))
noncomputable def w_szKeys_e : Ent1 Try.prog := entA 43 [.st .keys, .sc (.int .i64)] (fun x => (w_szKeys x.1 x.2.1)) (fun v => [rv (.sc (.int .i64)) [] v]) (fun x => w_szKeys_c x.1 x.2.1)

theorem w_szKeys_sm (x0 : Keys) (x1 : Int)  (hn : 0 ≤ x1 ∧ x1 ≤ 1048576) (hx0_now_rows : x0.now.rows.length ≤ 140737488355328) (hx0_now_rows_e : ∀ y ∈ x0.now.rows, ∀ c ∈ Ty.cells .macRow y, FactC c) (hx0_before_rows : x0.before.rows.length ≤ 140737488355328) (hx0_before_rows_e : ∀ y ∈ x0.before.rows, ∀ c ∈ Ty.cells .macRow y, FactC c) : (fun v : Int => 0 ≤ v → v ≤ 1048576 ∧ x0.now.rows.length ≤ 1048576 ∧ x0.before.rows.length ≤ 1048576) (w_szKeys x0 x1) := by
  unfold w_szKeys
  exact letP (P := (fun v : Int => 0 ≤ v → v ≤ 1048576 ∧ x0.now.rows.length ≤ 1048576 ∧ x0.before.rows.length ≤ 1048576)) (fun c1 hc1 => have kc1 := w_szMac_sm x0.now x1 (by grind [wrap64]) (by assumption) (by assumption); bifP (P := (fun v : Int => 0 ≤ v → v ≤ 1048576 ∧ x0.now.rows.length ≤ 1048576 ∧ x0.before.rows.length ≤ 1048576)) (fun b0 => (by (try simp only [Nat.ble_eq, Bool.and_eq_true, decide_eq_true_eq]); grind [maxSl, maxStr, toBytes_length, toInts_length, List.length_set, wrap64, w_szMac_sm]))
      (fun b0 => letP (P := (fun v : Int => 0 ≤ v → v ≤ 1048576 ∧ x0.now.rows.length ≤ 1048576 ∧ x0.before.rows.length ≤ 1048576)) (fun c2 hc2 => have kc2 := w_szMac_sm x0.before c1 (by grind [wrap64]) (by assumption) (by assumption); bifP (P := (fun v : Int => 0 ≤ v → v ≤ 1048576 ∧ x0.now.rows.length ≤ 1048576 ∧ x0.before.rows.length ≤ 1048576)) (fun b1 => (by (try simp only [Nat.ble_eq, Bool.and_eq_true, decide_eq_true_eq]); grind [maxSl, maxStr, toBytes_length, toInts_length, List.length_set, wrap64, w_szMac_sm]))
      (fun b1 => (by (try simp only [Nat.ble_eq, Bool.and_eq_true, decide_eq_true_eq]); grind [maxSl, maxStr, toBytes_length, toInts_length, List.length_set, wrap64, w_szMac_sm])))))

theorem eqIssueS_refl (xs : List Issu) : w_eqIssueS xs xs = true := by
  unfold w_eqIssueS
  rw [toNat_sub0, forN_list xs _ rfl (F := fun j x a => bif (fun _ => false) x then .out () else .next ()) (by
    intro j x a h
    simp [w_eqIssueS_L0_f, letK, toNat_cast, eqIssue_refl])]
  rw [listN_all xs 0 (by simp)]
  simp [Stp.elim]

theorem eqMacRowS_refl (xs : List MacRow) : w_eqMacRowS xs xs = true := by
  unfold w_eqMacRowS
  rw [toNat_sub0, forN_list xs _ rfl (F := fun j x a => bif (fun _ => false) x then .out () else .next ()) (by
    intro j x a h
    simp [w_eqMacRowS_L0_f, letK, toNat_cast, eqMacRow_refl])]
  rw [listN_all xs 0 (by simp)]
  simp [Stp.elim]

theorem toIssue_eq (x : Issu) : w_toIssue x = x := by
  first | rfl | simp only [w_toIssue, letK, toTuple_eq] | (simp [w_toIssue, letK, toTuple_eq])

theorem toMacRowS_eq (xs : List MacRow) : w_toMacRowS xs = xs := by
  unfold w_toMacRowS
  rw [toNat_sub0, forN_list xs _ rfl (F := fun j x a => .next (a.set j x)) (by
    intro j x a h
    simp only [w_toMacRowS_L0_f, letK, toNat_cast, getD_some h, toMacRow_eq])]
  have := fun r hr => listN_fill (W := Empty) (fun x => x) xs 0 r hr
  rw [this _ (by simp)]
  simp [Stp.elim]

theorem WordOk32 (n : Int) : i_WordOk n 32 = (decide (0 ≤ n) && decide (n ≤ 4294967295)) := by
  rw [i_WordOk_eq, i_within_eq, i_within_eq]
  rfl
theorem q_KeysOk (k : Keys) : s_KeysOk k = i_KeysOk k := by
  unfold s_KeysOk i_KeysOk
  simp only [q_WordOk, q_MacOk, q_SameMac, WordOk32, i_within_eq, letK_eq]
  obtain ⟨e, n, b, t⟩ := k
  simp only []
  cases t <;> cases i_MacOk n <;> cases i_MacOk b <;> simp
  rw [Bool.eq_iff_iff]
  simp
  omega

theorem q_SipWord (x : Sipr) (m : Int) : s_SipWord x m = i_SipWord x m := by
  simp only [s_SipWord, i_SipWord, q_SipRound]
theorem q_SipStart (k l : Int) : s_SipStart k l = i_SipStart k l := by simp only [s_SipStart, i_SipStart]
theorem q_SipEnd (x : Sipr) : s_SipEnd x = i_SipEnd x := by
  simp only [s_SipEnd, i_SipEnd, q_SipRound, show Int.toNat (4 - 0) = 4 from rfl, forN, i_SipEnd_L0_f, letK, Stp.elim]

theorem whileN_sim {A B W W' : Type} [Inhabited W] [Inhabited W'] {f : A → Stp A W} {g : B → Stp B W'} {R : A → B → Prop} {Q : W → W' → Prop} {ma : A → Nat} {mb : B → Nat}
    (h : ∀ a b, R a b → (∃ a' b', f a = .next a' ∧ g b = .next b' ∧ R a' b' ∧ ma a' < ma a ∧ mb b' < mb b) ∨ (∃ w w', f a = .out w ∧ g b = .out w' ∧ Q w w')) :
    ∀ (m m' : Nat) (a : A) (b : B), ma a < m → mb b < m' → R a b → Q (whileN f m a) (whileN g m' b)
  | 0, _, _, _, h1, _, _ => absurd h1 (Nat.not_lt_zero _)
  | _ + 1, 0, _, _, _, h2, _ => absurd h2 (Nat.not_lt_zero _)
  | m + 1, m' + 1, a, b, h1, h2, hr => by
    rcases h a b hr with ⟨a', b', e1, e2, hr', l1, l2⟩ | ⟨w, w', e1, e2, hq⟩
    · simp only [whileN, e1, e2, Stp.elim]
      exact whileN_sim h m m' a' b' (by omega) (by omega) hr'
    · simp only [whileN, e1, e2, Stp.elim]
      exact hq
theorem Rd8_succ {g : Nat → Int} (k : Nat) (a : Int) : Rd8 g (k + 1) a = Rd8 g k (a * 256 + g k) := rfl
theorem gset_len {α : Type} {xs : List α} {j : Nat} (h : j < xs.length) (v z : α) : (xs.set j v).getD j z = v := by
  simp [List.getD, List.getElem?_set, h]
theorem toInts_getD (s : Bytes) (k : Nat) : (toInts s).getD k 0 = byteAt s k := by
  simp only [toInts, byteAt, List.getD, List.getElem?_map]
  cases s[k]? <;> rfl
theorem byteAt_drop (s : Bytes) (n k : Nat) : byteAt (s.drop n) k = byteAt s (n + k) := by
  simp only [byteAt, List.getD, List.getElem?_drop]
theorem byteAt_take (s : Bytes) (n k : Nat) (h : k < n) : byteAt (s.take n) k = byteAt s k := by
  simp only [byteAt, List.getD, List.getElem?_take, if_pos h]
theorem byteAt_over (s : Bytes) (k : Nat) (h : s.length ≤ k) : byteAt s k = 0 := by
  simp [byteAt, List.getD, h]
theorem Rd8_pad {g : Nat → Int} (r : Nat) : ∀ (m : Nat), (∀ j, r ≤ j → j < r + m → g j = 0) → Rd8 g (r + m) 0 = Rd8 g r 0
  | 0, _ => rfl
  | m + 1, h => by
    rw [show r + (m + 1) = (r + m) + 1 from rfl]
    simp only [Rd8]
    rw [h (r + m) (by omega) (by omega)]
    exact Rd8_pad r m fun j h1 h2 => h j h1 (by omega)
theorem bits_or_comm (k : IntKind) (a b : Int) : bits .or k a b = bits .or k b a := by
  simp only [bits, BitVec.or_comm]
def SipR (x : Bytes) (a : Int × Int × Int × Int × Int) (b : List Int × Int × Int × Int × Int) : Prop := 0 ≤ a.1 ∧ a.1 ≤ x.length ∧ b.1 = toInts (x.drop a.1.toNat) ∧ a.2 = b.2
theorem toInts_drop (s : Bytes) (n : Nat) : (toInts s).drop n = toInts (s.drop n) := by simp [toInts]
theorem Sip_loops (x : Bytes) (hx : x.length ≤ 4294967296) (z : Sipr) : SipR x (s_SipHash_L0_w x (x.length : Int) 0 z.a z.b z.c z.d) (i_SipHash_L0_w x (toInts x) z.a z.b z.c z.d) ∧ (x.length : Int) < (s_SipHash_L0_w x (x.length : Int) 0 z.a z.b z.c z.d).1 + 8 := by
    unfold s_SipHash_L0_w i_SipHash_L0_w
    refine whileN_sim (R := SipR x) (Q := fun w w' => SipR x w w' ∧ (x.length : Int) < w.1 + 8) (ma := fun a => Int.toNat ((x.length : Int) - a.1)) (mb := fun b => b.1.length) ?_ _ _ _ _ ?_ ?_ ?_
    · intro a b hr
      obtain ⟨h1, h2, h3, h4⟩ := hr
      have hb : (b.1.length : Int) = (x.length : Int) - a.1 := by rw [h3, toInts_length, List.length_drop]; omega
      unfold s_SipHash_L0_f i_SipHash_L0_f
      rw [wrap64 (by omega) (by omega)]
      cases hd : decide (a.1 + 8 ≤ (x.length : Int)) with
      | true =>
        simp only [decide_eq_true_eq] at hd
        rw [show decide (8 ≤ (b.1.length : Int)) = true by simp only [decide_eq_true_eq]; omega]
        refine .inl ⟨_, _, rfl, rfl, ⟨?_, ?_, ?_, ?_⟩, ?_, ?_⟩
        · simp only []; omega
        · simp only []; omega
        · simp only []
          rw [toNat_cast, List.take_length, h3, toInts_drop, List.drop_drop, show (a.1 + 8).toNat = a.1.toNat + 8 by omega]
        · have e : s_l10Low ((x.take (a.1 + 8).toNat).drop a.1.toNat) = i_little b.1 := by
            have hl : ((x.take (a.1 + 8).toNat).drop a.1.toNat).length = 8 := by rw [List.length_drop, List.length_take]; omega
            rw [l10Low_eq _ (by omega), hl, little_eq _ (fun k => by rw [h3, toInts_getD]; exact byteAt_le _ _)]
            refine Rd8_congr 8 0 fun j hj => ?_
            rw [h3, toInts_getD, byteAt_drop, byteAt_drop, byteAt_take _ _ _ (by omega)]
          simp only [letK, e, h4]
          rw [q_SipWord]
        · simp only []; omega
        · simp only [toNat_cast, List.take_length, List.length_drop]; omega
      | false =>
        simp only [decide_eq_false_iff_not] at hd
        rw [show decide (8 ≤ (b.1.length : Int)) = false by simp only [decide_eq_false_iff_not]; omega]
        exact .inr ⟨_, _, rfl, rfl, ⟨h1, h2, h3, h4⟩, by show (x.length : Int) < a.1 + 8; omega⟩
    · exact Nat.lt_succ_self _
    · exact Nat.lt_succ_self _
    · exact ⟨by simp, by simp, by simp, rfl⟩
theorem Sip_last (x : Bytes) (hx : x.length ≤ 4294967296) (p : Int) (q : List Int) (h1 : 0 ≤ p) (h2 : p ≤ x.length) (h3 : q = toInts (x.drop p.toNat)) (h5 : (x.length : Int) < p + 8) :
    bits .or .u64 (s_l10Low (x.drop p.toNat)) (IntKind.wrap .u64 ((IntKind.wrap .u64 ((x.length : Int).tmod 256)) * 72057594037927936)) = i_little ((q ++ (List.replicate 8 0).drop q.length).set 7 (IntKind.wrap .u8 (x.length : Int))) := by
  have hl : (x.drop p.toNat).length = x.length - p.toNat := by simp
  have hq : q.length = x.length - p.toNat := by rw [h3, toInts_length, hl]
  generalize hy : x.drop p.toNat = y at h3 hl
  have hy8 : y.length ≤ 7 := by omega
  rw [l10Low_eq y (by omega)]
  have hb7 : IntKind.u8.wrap (x.length : Int) = (x.length : Int) % 256 := wrap8_def _
  have hm : IntKind.u64.wrap ((x.length : Int).tmod 256) = (x.length : Int) % 256 := by
    rw [(tmod_pos 256).1 (by omega), wraps_u64 _ (by omega) (by omega)]
  rw [hb7, hm]
  have hg : ∀ k, ((q ++ (List.replicate 8 (0 : Int)).drop q.length).set 7 ((x.length : Int) % 256)).getD k 0 = if k = 7 then (x.length : Int) % 256 else byteAt y k := by
    intro k
    by_cases e : k = 7
    · subst e
      rw [if_pos rfl]
      exact gset_len (by simp; omega) _ _
    · rw [if_neg e, List.getD, List.getElem?_set_ne (by omega)]
      by_cases hk : k < q.length
      · rw [List.getElem?_append_left hk, h3, ← List.getD_eq_getElem?_getD, toInts_getD]
      · rw [List.getElem?_append_right (by omega), List.getElem?_drop, List.getElem?_replicate, byteAt_over y k (by omega)]
        split <;> rfl
  rw [little_eq _ (fun k => by
    rw [hg]
    split
    · omega
    · exact byteAt_le _ _)]
  have hbd := Rd8_bd (g := byteAt y) (byteAt_le y) y.length
  have hp7 : (256 : Int) ^ y.length ≤ 72057594037927936 := by
    have : ∀ k : Nat, k ≤ 7 → (256 : Int) ^ k ≤ 72057594037927936 := by decide
    exact this _ hy8
  have e1 : Rd8 (fun k => ((q ++ (List.replicate 8 (0 : Int)).drop q.length).set 7 ((x.length : Int) % 256)).getD k 0) 8 0 = ((x.length : Int) % 256) * 72057594037927936 + Rd8 (byteAt y) y.length 0 := by
    refine (Rd8_succ 7 0).trans ?_
    rw [hg 7, if_pos rfl, Rd8_lin, Int.zero_mul, Int.zero_add, show (256 : Int) ^ 7 = 72057594037927936 from rfl]
    congr 1
    rw [Rd8_congr 7 0 (h := byteAt y) fun j hj => by rw [hg, if_neg (by omega)]]
    have := Rd8_pad (g := byteAt y) y.length (7 - y.length) fun j h1 _ => byteAt_over y j h1
    rw [show y.length + (7 - y.length) = 7 by omega] at this
    exact this
  rw [e1, bits_or_comm, wraps_u64 ((x.length : Int) % 256 * 72057594037927936) (by omega) (by omega)]
  exact bits_join .u64 64 (by decide) wraps_u64 56 _ _ (by omega) (by omega) (by omega) (by omega) (by omega) (by omega)
theorem s_SipHash_eq (k l : Int) (x : Bytes) : s_SipHash k l x = (fun p : Int × Int × Int × Int × Int => s_SipEnd (s_SipWord ⟨p.2.1, p.2.2.1, p.2.2.2.1, p.2.2.2.2⟩ (bits .or .u64 (s_l10Low ((x.take ((x.length : Int).toNat)).drop p.1.toNat)) (IntKind.wrap .u64 ((IntKind.wrap .u64 ((x.length : Int).tmod 256)) * 72057594037927936))))) (s_SipHash_L0_w x (x.length : Int) 0 (s_SipStart k l).a (s_SipStart k l).b (s_SipStart k l).c (s_SipStart k l).d) := by
  unfold s_SipHash
  simp only [letK_eq]
theorem i_SipHash_eq (k l : Int) (x : Bytes) : i_SipHash k l x = (fun p : List Int × Int × Int × Int × Int => i_SipEnd (i_SipWord ⟨p.2.1, p.2.2.1, p.2.2.2.1, p.2.2.2.2⟩ (i_little (((p.1.take 8) ++ (List.replicate 8 0).drop (p.1.take 8).length).set 7 (IntKind.wrap .u8 (x.length : Int)))))) (i_SipHash_L0_w x (toInts x) (i_SipStart k l).a (i_SipStart k l).b (i_SipStart k l).c (i_SipStart k l).d) := by
  unfold i_SipHash
  simp only [letK_eq, List.length_replicate]
theorem q_SipHash (k l : Int) (x : Bytes) (hx : x.length ≤ 4294967296) : s_SipHash k l x = i_SipHash k l x := by
  rw [s_SipHash_eq, i_SipHash_eq, q_SipStart]
  generalize i_SipStart k l = z
  have key := Sip_loops x hx z
  generalize s_SipHash_L0_w x (x.length : Int) 0 z.a z.b z.c z.d = p at key
  generalize i_SipHash_L0_w x (toInts x) z.a z.b z.c z.d = q at key
  obtain ⟨⟨h1, h2, h3, h4⟩, h5⟩ := key
  have hq : q.1.length = x.length - p.1.toNat := by rw [h3, toInts_length, List.length_drop]
  have ht : q.1.take 8 = q.1 := List.take_of_length_le (by omega)
  simp only [ht, h4]
  rw [q_SipEnd, q_SipWord, show ((x.take (x.length : Int).toNat).drop p.1.toNat) = x.drop p.1.toNat by rw [toNat_cast, List.take_length]]
  rw [Sip_last x hx p.1 q.1 h1 h2 h3 h5]

theorem eqMac_refl (x : Mac) : w_eqMac x x = true := by simp [w_eqMac, letK, eqMacRowS_refl]

theorem toIssueS_eq (xs : List Issu) : w_toIssueS xs = xs := by
  unfold w_toIssueS
  rw [toNat_sub0, forN_list xs _ rfl (F := fun j x a => .next (a.set j x)) (by
    intro j x a h
    simp only [w_toIssueS_L0_f, letK, toNat_cast, getD_some h, toIssue_eq])]
  have := fun r hr => listN_fill (W := Empty) (fun x => x) xs 0 r hr
  rw [this _ (by simp)]
  simp [Stp.elim]

theorem eqKeys_refl (x : Keys) : w_eqKeys x x = true := by simp [w_eqKeys, letK, eqMac_refl]

theorem toMac_eq (x : Mac) : w_toMac x = x := by
  first | rfl | simp only [w_toMac, letK, toMacRowS_eq] | (simp [w_toMac, letK, toMacRowS_eq])

theorem q_MacOf (m : Mac) (x : Bytes) (hx : x.length ≤ 4294967296) : s_MacOf m x = i_MacOf m x := by
  unfold s_MacOf i_MacOf
  rw [q_SipHash _ _ _ hx]
  rw [show forN (s_MacOf_L0_f x m.use m.k m.l m.rows) 1 (Int.toNat ((m.rows.length : Int) - 0)) 0 () = forN (i_MacOf_L0_f x m.rows (m.rows.length : Int)) 1 (Int.toNat ((m.rows.length : Int) - 0)) 0 () from forN_congr (fun i a => by
    unfold s_MacOf_L0_f i_MacOf_L0_f
    generalize (m.rows.getD i.toNat (Ty.zero .macRow)) = r
    cases (r.input == x) with
    | false => rfl
    | true =>
      simp only [cond_true, letK_eq]
      have h1 := tmod_pos (a := r.value) 16777216
      rcases Int.lt_or_le r.value 0 with h | h
      · have e := h1.2 h
        generalize r.value.tmod 16777216 = t at e
        rw [wrap64 (by omega) (by omega)]
        cases hd : decide (t < 0) with
        | true => simp only [decide_eq_true_eq] at hd; simp only [cond_true]; rw [(tmod_pos 16777216).1 (by omega), Int.emod_eq_of_lt (by omega) (by omega)]
        | false => simp only [decide_eq_false_iff_not] at hd; simp only [cond_false]; rw [(tmod_pos 16777216).1 (by omega), show t = 0 by omega]; rfl
      · have e := h1.1 h
        generalize r.value.tmod 16777216 = t at e
        rw [wrap64 (by omega) (by omega)]
        cases hd : decide (t < 0) with
        | true => simp only [decide_eq_true_eq] at hd; omega
        | false => simp only [cond_false]; rw [(tmod_pos 16777216).1 (by omega)]; congr 1; omega) _ _ _]

/-- laws.FnExactShareOf -/
def w_FnExactShareOf_N (x0 : Int) (x1 : List Issu) (x2 : Int) (γ : Type) (fail : γ) (k : Bool → γ) : γ :=
  letK (α := Int) (w_szIssueS x1 1048576) fun c1 =>
  bif (decide (c1 < 0)) then
    k true
  else
  bif (decide (x1.length ≤ 4294967296)) then
  letK (α := List Issu) (w_toIssueS x1) fun c2 =>
  bif (decide (c2.length ≤ 4294967296)) then
  letK (α := Int × Int) (s_ShareOf x0 c2 x2) fun c3 =>
  bif (decide (x1.length ≤ 4294967296)) then
  letK (α := List Issu) (w_toIssueS x1) fun c4 =>
  bif (decide (c4.length ≤ 4294967296)) then
  letK (α := Int × Int) (i_ShareOf x0 c4 x2) fun c5 =>
  bif (c5.1 != c3.1) then
    k false
  else
  bif (c5.2 != c3.2) then
    k false
  else
  bif (decide (x1.length ≤ 4294967296)) then
  letK (α := List Issu) (w_toIssueS x1) fun c6 =>
  letK (α := Bool) (w_eqIssueS c4 c6) fun c7 =>
  bif (!c7) then
    k false
  else
  k true
  else fail
  else fail
  else fail
  else fail
  else fail
def w_FnExactShareOf (x0 : Int) (x1 : List Issu) (x2 : Int) : Bool :=
  letK (α := Int) (w_szIssueS x1 1048576) fun c1 =>
  bif (decide (c1 < 0)) then
    true
  else
  letK (α := List Issu) (w_toIssueS x1) fun c2 =>
  letK (α := Int × Int) (s_ShareOf x0 c2 x2) fun c3 =>
  letK (α := List Issu) (w_toIssueS x1) fun c4 =>
  letK (α := Int × Int) (i_ShareOf x0 c4 x2) fun c5 =>
  bif (c5.1 != c3.1) then
    false
  else
  bif (c5.2 != c3.2) then
    false
  else
  letK (α := List Issu) (w_toIssueS x1) fun c6 =>
  letK (α := Bool) (w_eqIssueS c4 c6) fun c7 =>
  bif (!c7) then
    false
  else
  true
theorem w_FnExactShareOf_lk (x0 : Int) (x1 : List Issu) (x2 : Int) : evalFn te (orcOf (P := Try.prog) [w_szIssueS_e, w_toIssueS_e, s_ShareOf_e, i_ShareOf_e, w_eqIssueS_e]) lorc0 [] Try.f8 (pvs [.sc (.int .i64), .sc (.sl .issu), .sc (.int .i64)] (x0, x1, x2, ())) =
  w_FnExactShareOf_N x0 x1 x2 _ none (fun v => some [(false, [RC.c (.bool v)])]) := by kernel_rfl
theorem w_FnExactShareOf_p (x0 : Int) (x1 : List Issu) (x2 : Int) (hx0 : inK .i64 x0) (hx1 : x1.length ≤ 140737488355328) (hx2 : inK .i64 x2)  (γ : Type) (fail : γ) (k : Bool → γ) : w_FnExactShareOf_N x0 x1 x2 γ fail k = k (w_FnExactShareOf x0 x1 x2) := by
  unfold w_FnExactShareOf_N w_FnExactShareOf
  exact letT (f := k) (fun c1 hc1 => have kc1 := w_szIssueS_sm x1 1048576 (by grind [wrap64]) (by assumption); bifT (f := k) (fun b0 => rfl)
      (fun b0 => bifG (by (try simp only [Nat.ble_eq, Bool.and_eq_true, decide_eq_true_eq]); grind [maxSl, maxStr, toBytes_length, toInts_length, List.length_set, wrap64, w_szIssueS_sm]) (letT (f := k) (fun c2 hc2 => have kc2 := toIssueS_eq x1; bifG (by (try simp only [Nat.ble_eq, Bool.and_eq_true, decide_eq_true_eq]); grind [maxSl, maxStr, toBytes_length, toInts_length, List.length_set, wrap64, w_szIssueS_sm]) (letT (f := k) (fun c3 hc3 => bifG (by (try simp only [Nat.ble_eq, Bool.and_eq_true, decide_eq_true_eq]); grind [maxSl, maxStr, toBytes_length, toInts_length, List.length_set, wrap64, w_szIssueS_sm]) (letT (f := k) (fun c4 hc4 => have kc4 := toIssueS_eq x1; bifG (by (try simp only [Nat.ble_eq, Bool.and_eq_true, decide_eq_true_eq]); grind [maxSl, maxStr, toBytes_length, toInts_length, List.length_set, wrap64, w_szIssueS_sm]) (letT (f := k) (fun c5 hc5 => bifT (f := k) (fun b1 => rfl)
      (fun b1 => bifT (f := k) (fun b2 => rfl)
      (fun b2 => bifG (by (try simp only [Nat.ble_eq, Bool.and_eq_true, decide_eq_true_eq]); grind [maxSl, maxStr, toBytes_length, toInts_length, List.length_set, wrap64, w_szIssueS_sm]) (letT (f := k) (fun c6 hc6 => have kc6 := toIssueS_eq x1; letT (f := k) (fun c7 hc7 => bifT (f := k) (fun b3 => rfl)
      (fun b3 => rfl))))))))))))))))
theorem w_FnExactShareOf_c (x0 : Int) (x1 : List Issu) (x2 : Int)  : Con Try.prog 8 (pvs [.sc (.int .i64), .sc (.sl .issu), .sc (.int .i64)] (x0, x1, x2, ())) [rv (.sc .bool) [] (w_FnExactShareOf x0 x1 x2)] := by
  refine Con.of_facts (enters_of Try.func8 rfl (by kernel_rfl)) fun hf => ?_
  replace hf := factAt hf
  exact evalFn_con0 teFact mixFact (orcOf_ok _) Try.func8 (by kernel_rfl) ((w_FnExactShareOf_lk x0 x1 x2).trans (w_FnExactShareOf_p x0 x1 x2 ((hf 0 0 rfl rfl).rng) ((hf 1 0 rfl rfl).len) ((hf 2 0 rfl rfl).rng) _ _ _))
noncomputable def w_FnExactShareOf_e : Ent1 Try.prog := entA 8 [.sc (.int .i64), .sc (.sl .issu), .sc (.int .i64)] (fun x => (w_FnExactShareOf x.1 x.2.1 x.2.2.1)) (fun v => [rv (.sc .bool) [] v]) (fun x => w_FnExactShareOf_c x.1 x.2.1 x.2.2.1)


theorem toKeys_eq (x : Keys) : w_toKeys x = x := by
  first | rfl | simp only [w_toKeys, letK, toMac_eq] | (simp [w_toKeys, letK, toMac_eq])

theorem PutWord_len (n b : Int) : (i_PutWord n b).length ≤ 6 := i_PutWord_len n b
theorem MacInput_len (t : Tupl) (a b c : Int) : (i_MacInput t a b c).length ≤ 36 := by
  have h : ∀ n b, (i_PutWord n b).length ≤ 6 := PutWord_len
  unfold i_MacInput
  simp only [letK_eq]
  cases i_TupleOk t <;> cases i_WordOk a 32 <;> cases i_WordOk b 32 <;> cases i_within c 0 7 <;> simp only [Bool.not_true, Bool.not_false, cond_true, cond_false, List.length_nil] <;> try omega
  have h1 := h t.ip 4
  have h2 := h t.port 2
  have h3 := h t.my 2
  have h4 := h a 4
  have h5 := h b 4
  have h6 := h c 1
  simp only [List.length_append]
  omega
theorem q_CookieOf (m : Mac) (t : Tupl) (a b c : Int) : s_CookieOf m t a b c = i_CookieOf m t a b c := by
  unfold s_CookieOf i_CookieOf
  rw [q_MacInput]
  have := MacInput_len t a b c
  generalize i_MacInput t a b c = x at *
  simp only [letK_eq, q_MacOf m x (by omega)]
theorem q_SecretOf (k : Keys) (e : Int) : s_SecretOf k e = i_SecretOf k e := by
  unfold s_SecretOf i_SecretOf
  simp only [s_l11Copy, i_cloneMac, g_Clone_MacRow, letK_eq, List.nil_append]

/-- laws.FnExactHitBy -/
def w_FnExactHitBy_N (x0 : Keys) (x1 : List Issu) (γ : Type) (fail : γ) (k : Bool → γ) : γ :=
  letK (α := Int) (w_szKeys x0 1048576) fun c1 =>
  bif (decide (c1 < 0)) then
    k true
  else
  letK (α := Int) (w_szIssueS x1 c1) fun c2 =>
  bif (decide (c2 < 0)) then
    k true
  else
  bif (decide (x0.now.rows.length ≤ 4294967296 ∧ x0.before.rows.length ≤ 4294967296)) then
  letK (α := Keys) (w_toKeys x0) fun c3 =>
  bif (decide (x1.length ≤ 4294967296)) then
  letK (α := List Issu) (w_toIssueS x1) fun c4 =>
  bif (decide (c3.now.rows.length ≤ 4294967296 ∧ c3.before.rows.length ≤ 4294967296 ∧ c4.length ≤ 4294967296)) then
  letK (α := Bool) (s_HitBy c3 c4) fun c5 =>
  bif (decide (x0.now.rows.length ≤ 4294967296 ∧ x0.before.rows.length ≤ 4294967296)) then
  letK (α := Keys) (w_toKeys x0) fun c6 =>
  bif (decide (x1.length ≤ 4294967296)) then
  letK (α := List Issu) (w_toIssueS x1) fun c7 =>
  bif (decide (c6.now.rows.length ≤ 4294967296 ∧ c6.before.rows.length ≤ 4294967296 ∧ c7.length ≤ 4294967296)) then
  letK (α := Bool) (i_HitBy c6 c7) fun c8 =>
  bif (!(c8 == c5)) then
    k false
  else
  bif (decide (x0.now.rows.length ≤ 4294967296 ∧ x0.before.rows.length ≤ 4294967296)) then
  letK (α := Keys) (w_toKeys x0) fun c9 =>
  letK (α := Bool) (w_eqKeys c6 c9) fun c10 =>
  bif (!c10) then
    k false
  else
  bif (decide (x1.length ≤ 4294967296)) then
  letK (α := List Issu) (w_toIssueS x1) fun c11 =>
  letK (α := Bool) (w_eqIssueS c7 c11) fun c12 =>
  bif (!c12) then
    k false
  else
  k true
  else fail
  else fail
  else fail
  else fail
  else fail
  else fail
  else fail
  else fail
def w_FnExactHitBy (x0 : Keys) (x1 : List Issu) : Bool :=
  letK (α := Int) (w_szKeys x0 1048576) fun c1 =>
  bif (decide (c1 < 0)) then
    true
  else
  letK (α := Int) (w_szIssueS x1 c1) fun c2 =>
  bif (decide (c2 < 0)) then
    true
  else
  letK (α := Keys) (w_toKeys x0) fun c3 =>
  letK (α := List Issu) (w_toIssueS x1) fun c4 =>
  letK (α := Bool) (s_HitBy c3 c4) fun c5 =>
  letK (α := Keys) (w_toKeys x0) fun c6 =>
  letK (α := List Issu) (w_toIssueS x1) fun c7 =>
  letK (α := Bool) (i_HitBy c6 c7) fun c8 =>
  bif (!(c8 == c5)) then
    false
  else
  letK (α := Keys) (w_toKeys x0) fun c9 =>
  letK (α := Bool) (w_eqKeys c6 c9) fun c10 =>
  bif (!c10) then
    false
  else
  letK (α := List Issu) (w_toIssueS x1) fun c11 =>
  letK (α := Bool) (w_eqIssueS c7 c11) fun c12 =>
  bif (!c12) then
    false
  else
  true
theorem w_FnExactHitBy_lk (x0 : Keys) (x1 : List Issu) : evalFn te (orcOf (P := Try.prog) [w_szKeys_e, w_szIssueS_e, w_toKeys_e, w_toIssueS_e, s_HitBy_e, i_HitBy_e, w_eqKeys_e, w_eqIssueS_e]) lorc0 [] Try.f9 (pvs [.st .keys, .sc (.sl .issu)] (x0, x1, ())) =
  w_FnExactHitBy_N x0 x1 _ none (fun v => some [(false, [RC.c (.bool v)])]) := by kernel_rfl
theorem w_FnExactHitBy_p (x0 : Keys) (x1 : List Issu) (hx0_epoch : inK .i64 x0.epoch) (hx0_now_k : inK .u64 x0.now.k) (hx0_now_l : inK .u64 x0.now.l) (hx0_now_rows : x0.now.rows.length ≤ 140737488355328) (hx0_now_rows_e : ∀ y ∈ x0.now.rows, ∀ c ∈ Ty.cells .macRow y, FactC c) (hx0_before_k : inK .u64 x0.before.k) (hx0_before_l : inK .u64 x0.before.l) (hx0_before_rows : x0.before.rows.length ≤ 140737488355328) (hx0_before_rows_e : ∀ y ∈ x0.before.rows, ∀ c ∈ Ty.cells .macRow y, FactC c) (hx1 : x1.length ≤ 140737488355328)  (γ : Type) (fail : γ) (k : Bool → γ) : w_FnExactHitBy_N x0 x1 γ fail k = k (w_FnExactHitBy x0 x1) := by
  unfold w_FnExactHitBy_N w_FnExactHitBy
  exact letT (f := k) (fun c1 hc1 => have kc1 := w_szKeys_sm x0 1048576 (by grind [wrap64]) (by assumption) (by assumption) (by assumption) (by assumption); bifT (f := k) (fun b0 => rfl)
      (fun b0 => letT (f := k) (fun c2 hc2 => have kc2 := w_szIssueS_sm x1 c1 (by grind [wrap64]) (by assumption); bifT (f := k) (fun b1 => rfl)
      (fun b1 => bifG (by (try simp only [Nat.ble_eq, Bool.and_eq_true, decide_eq_true_eq]); grind [maxSl, maxStr, toBytes_length, toInts_length, List.length_set, wrap64, w_szKeys_sm, w_szIssueS_sm]) (letT (f := k) (fun c3 hc3 => have kc3 := toKeys_eq x0; bifG (by (try simp only [Nat.ble_eq, Bool.and_eq_true, decide_eq_true_eq]); grind [maxSl, maxStr, toBytes_length, toInts_length, List.length_set, wrap64, w_szKeys_sm, w_szIssueS_sm]) (letT (f := k) (fun c4 hc4 => have kc4 := toIssueS_eq x1; bifG (by (try simp only [Nat.ble_eq, Bool.and_eq_true, decide_eq_true_eq]); grind [maxSl, maxStr, toBytes_length, toInts_length, List.length_set, wrap64, w_szKeys_sm, w_szIssueS_sm]) (letT (f := k) (fun c5 hc5 => bifG (by (try simp only [Nat.ble_eq, Bool.and_eq_true, decide_eq_true_eq]); grind [maxSl, maxStr, toBytes_length, toInts_length, List.length_set, wrap64, w_szKeys_sm, w_szIssueS_sm]) (letT (f := k) (fun c6 hc6 => have kc6 := toKeys_eq x0; bifG (by (try simp only [Nat.ble_eq, Bool.and_eq_true, decide_eq_true_eq]); grind [maxSl, maxStr, toBytes_length, toInts_length, List.length_set, wrap64, w_szKeys_sm, w_szIssueS_sm]) (letT (f := k) (fun c7 hc7 => have kc7 := toIssueS_eq x1; bifG (by (try simp only [Nat.ble_eq, Bool.and_eq_true, decide_eq_true_eq]); grind [maxSl, maxStr, toBytes_length, toInts_length, List.length_set, wrap64, w_szKeys_sm, w_szIssueS_sm]) (letT (f := k) (fun c8 hc8 => bifT (f := k) (fun b2 => rfl)
      (fun b2 => bifG (by (try simp only [Nat.ble_eq, Bool.and_eq_true, decide_eq_true_eq]); grind [maxSl, maxStr, toBytes_length, toInts_length, List.length_set, wrap64, w_szKeys_sm, w_szIssueS_sm]) (letT (f := k) (fun c9 hc9 => have kc9 := toKeys_eq x0; letT (f := k) (fun c10 hc10 => bifT (f := k) (fun b3 => rfl)
      (fun b3 => bifG (by (try simp only [Nat.ble_eq, Bool.and_eq_true, decide_eq_true_eq]); grind [maxSl, maxStr, toBytes_length, toInts_length, List.length_set, wrap64, w_szKeys_sm, w_szIssueS_sm]) (letT (f := k) (fun c11 hc11 => have kc11 := toIssueS_eq x1; letT (f := k) (fun c12 hc12 => bifT (f := k) (fun b4 => rfl)
      (fun b4 => rfl)))))))))))))))))))))))))
theorem w_FnExactHitBy_c (x0 : Keys) (x1 : List Issu)  : Con Try.prog 9 (pvs [.st .keys, .sc (.sl .issu)] (x0, x1, ())) [rv (.sc .bool) [] (w_FnExactHitBy x0 x1)] := by
  refine Con.of_facts (enters_of Try.func9 rfl (by kernel_rfl)) fun hf => ?_
  replace hf := factAt hf
  exact evalFn_con0 teFact mixFact (orcOf_ok _) Try.func9 (by kernel_rfl) ((w_FnExactHitBy_lk x0 x1).trans (w_FnExactHitBy_p x0 x1 ((hf 0 0 rfl rfl).rng) ((hf 0 2 rfl rfl).rng) ((hf 0 3 rfl rfl).rng) ((hf 0 4 rfl rfl).len) (fun y hy => (hf 0 4 rfl rfl).elem hy) ((hf 0 6 rfl rfl).rng) ((hf 0 7 rfl rfl).rng) ((hf 0 8 rfl rfl).len) (fun y hy => (hf 0 8 rfl rfl).elem hy) ((hf 1 0 rfl rfl).len) _ _ _))
noncomputable def w_FnExactHitBy_e : Ent1 Try.prog := entA 9 [.st .keys, .sc (.sl .issu)] (fun x => (w_FnExactHitBy x.1 x.2.1)) (fun v => [rv (.sc .bool) [] v]) (fun x => w_FnExactHitBy_c x.1 x.2.1)


theorem cc_loop (f : Int → Unit → Stp Unit (Int ⊕ Unit)) (g : Int → Unit → Stp Unit Int) (E : Int) (h0 : 0 ≤ E) (h1 : E ≤ 4294967295)
    (hfg : ∀ e, E - 1 ≤ e → f e () = Stp.elim (fun _ => .next ()) (fun w => .out (.inl w)) (g e ())) (hend : ∀ e, e < E - 1 → f e () = .out (.inr ())) (i : Int) :
    Stp.elim (fun _ => ((0 : Int), (0 : Int), false)) (Sum.elim (fun p => (p, i, true)) (fun _ => (0, 0, false))) (forN f (-1) (Int.toNat (E - 0 + 1)) E ()) =
    Stp.elim (fun _ => (0, 0, false)) (fun p => (p, i, true)) (forN g (-1) (Int.toNat (E - (if 0 < (IntKind.wrap .i64 (E - 1)) then (IntKind.wrap .i64 (E - 1)) else 0) + 1)) E ()) := by
  rw [wrap64 (by omega) (by omega)]
  rcases (show E = 0 ∨ E = 1 ∨ 2 ≤ E by omega) with rfl | rfl | h
  · rw [if_neg (by omega), show Int.toNat (0 - 0 + 1) = 1 from rfl]
    simp only [forN, hfg 0 (by omega)]
    cases g 0 () <;> rfl
  · rw [if_neg (by omega), show Int.toNat (1 - 0 + 1) = 2 from rfl]
    simp only [forN, hfg 1 (by omega), show (1 : Int) + -1 = 0 from rfl, hfg 0 (by omega)]
    cases g 1 () with
    | out w => rfl
    | next a => simp only [Stp.elim]; cases g 0 () <;> rfl
  · rw [if_pos (by omega), show Int.toNat (E - (E - 1) + 1) = 2 by omega]
    obtain ⟨m, hm⟩ : ∃ m : Nat, Int.toNat (E - 0 + 1) = m + 3 := ⟨Int.toNat (E - 2), by omega⟩
    rw [hm]
    simp only [forN, hfg E (by omega), hfg (E + -1) (by omega), hend (E + -1 + -1) (by omega)]
    cases g E () with
    | out w => rfl
    | next a => simp only [Stp.elim]; cases g (E + -1) () <;> rfl
theorem CookieParts_neg (x : Int) : decide ((i_CookieParts x).2.1 < 0) = !i_WordOk x 32 := by
  unfold i_CookieParts
  simp only [letK_eq, WordOk32]
  cases hd : (decide (0 ≤ x) && decide (x ≤ 4294967295)) with
  | false => rfl
  | true =>
    simp only [Bool.and_eq_true, decide_eq_true_eq] at hd
    simp only [Bool.not_true, cond_false]
    rw [(tdiv_pos 16777216).1 hd.1, wrap64 (by omega) (by omega), (tmod_pos 8).1 (by omega)]
    simp only [decide_eq_false_iff_not]
    omega
theorem KeysOk_epoch (k : Keys) (h : i_KeysOk k = true) : 0 ≤ k.epoch ∧ k.epoch ≤ 4294967295 := by
  rw [← q_KeysOk] at h
  unfold s_KeysOk at h
  simp only [q_WordOk, WordOk32, letK_eq] at h
  revert h
  cases hd : (decide (0 ≤ k.epoch) && decide (k.epoch ≤ 4294967295)) with
  | false => intro h; cases h
  | true => intro _; simpa using hd
theorem q_CheckCookie (k : Keys) (t : Tupl) (a b : Int) : s_CheckCookie k t a b = i_CheckCookie k t a b := by
  unfold s_CheckCookie i_CheckCookie
  simp only [letK_eq, q_KeysOk, q_CookieParts, CookieParts_neg]
  cases hk : i_KeysOk k with
  | false => rfl
  | true =>
    simp only [Bool.not_true, cond_false]
    cases i_WordOk b 32 with
    | false => rfl
    | true =>
      simp only [Bool.not_true, cond_false]
      have he := KeysOk_epoch k hk
      refine cc_loop _ _ k.epoch he.1 he.2 (fun e h => ?_) (fun e h => ?_) _
      · unfold s_CheckCookie_L0_f i_CheckCookie_L0_f
        rw [wrap64 (by omega) (by omega)]
        simp only [letK_eq, q_SecretOf, q_CookieOf, decide_eq_true h, cond_true]
        cases (i_SecretOf k e).2 with
        | false => rfl
        | true =>
          simp only [cond_true]
          cases (i_CookieOf (i_SecretOf k e).1 t a e (i_CookieParts b).2.1 == b) <;> rfl
      · unfold s_CheckCookie_L0_f
        rw [wrap64 (by omega) (by omega)]
        simp only [decide_eq_false (show ¬ (k.epoch - 1 ≤ e) by omega), cond_false]

def hitP (k : Keys) (x : Issu) : Bool := (i_CheckCookie k x.tuple x.seq x.cookie).2.2
theorem i_HitBy_any (k : Keys) (xs : List Issu) : i_HitBy k xs = xs.any (hitP k) := by
  unfold i_HitBy g_ContainsFunc_Issue_i_HitBy_1 g_IndexFunc_Issue_i_HitBy_1
  rw [toNat_sub0, forN_list xs _ rfl (F := fun j y a => bif hitP k y then .out (j : Int) else .next ()) (by
    intro j y a h
    simp only [g_IndexFunc_Issue_i_HitBy_1_L0_f, letK_eq, i_HitBy_1, toNat_cast, getD_some h, hitP])]
  rw [listN_find (w := fun j _ => (j : Int))]
  simp only [letK_eq]
  cases h : xs.findIdx? (hitP k) with
  | none =>
    rw [List.findIdx?_eq_none_iff] at h
    simp only [Stp.elim]
    symm
    show xs.any (hitP k) = false
    rw [List.any_eq_false]
    intro x hx
    simp [h x hx]
  | some i =>
    obtain ⟨h1, h2, _⟩ := List.findIdx?_eq_some_iff_getElem.1 h
    simp only [List.getElem?_eq_getElem h1, Stp.elim]
    symm
    have : xs.any (hitP k) = true := by rw [List.any_eq_true]; exact ⟨xs[i], List.getElem_mem h1, h2⟩
    rw [this]
    simp
theorem s_HitBy_any (k : Keys) (xs : List Issu) : s_HitBy k xs = xs.any (hitP k) := by
  unfold s_HitBy
  rw [toNat_sub0, forN_list xs _ rfl (F := fun j y a => bif hitP k y then .out () else .next ()) (by
    intro j y a h
    simp only [s_HitBy_L0_f, letK_eq, q_CheckCookie, toNat_cast, getD_some h, hitP])]
  rw [listN_find (w := fun j _ => ())]
  cases h : xs.findIdx? (hitP k) with
  | none =>
    rw [List.findIdx?_eq_none_iff] at h
    simp only [Stp.elim]
    symm
    rw [List.any_eq_false]
    intro x hx
    simp [h x hx]
  | some i =>
    obtain ⟨h1, h2, _⟩ := List.findIdx?_eq_some_iff_getElem.1 h
    simp only [List.getElem?_eq_getElem h1, Stp.elim]
    symm
    rw [List.any_eq_true]; exact ⟨xs[i], List.getElem_mem h1, h2⟩
theorem q_HitBy (k : Keys) (xs : List Issu) : s_HitBy k xs = i_HitBy k xs := by rw [s_HitBy_any, i_HitBy_any]

theorem q_ShareOf (e : Int) (xs : List Issu) (b : Int) : s_ShareOf e xs b = i_ShareOf e xs b := by
  unfold s_ShareOf i_ShareOf
  simp only [letK_eq, q_within, q_WordOk, q_GuessInputs]
  have h1 : ∀ (c : List Bytes) n i a, forN (s_ShareOf_L0_f e xs b c) 1 n i a = forN (i_ShareOf_L0_f e xs b (c.length : Int) c) 1 n i a := fun c => forN_congr fun i a => rfl
  have h2 : ∀ (c : List Bytes) (t : Int) n i a, forN (s_ShareOf_L1_f e xs b t c) 1 n i a = forN (i_ShareOf_L1_f e xs b t t c) 1 n i a := fun c t => forN_congr fun i a => by
    simp only [s_ShareOf_L1_f, i_ShareOf_L1_f, q_Assigned, q_HitBy]
  simp only [h1, h2]
  all_goals rfl

theorem t_FnExactHitBy (x : Keys) (y : List Issu) : w_FnExactHitBy x y = true := by
  simp [w_FnExactHitBy, letK, q_HitBy, toKeys_eq, toIssueS_eq, eqKeys_refl, eqIssueS_refl]

theorem t_FnExactShareOf (a : Int) (x : List Issu) (b : Int) : w_FnExactShareOf a x b = true := by
  simp [w_FnExactShareOf, letK, q_ShareOf, toIssueS_eq, eqIssueS_refl]

end Go.Proofs.Ythlhmhlphnjjkaa
