/-
  Contracts of functions and plain laws (printed by a program): each theorem says what a function of the program returns; conditions are its hypotheses.
-/
import Derived.Test.YtnpmemmhiifbgaaGreatA2
set_option maxRecDepth 4000
set_option linter.unusedVariables false
set_option linter.unusedSimpArgs false
namespace Go.Proofs.YtnpmemmhiifbgaaGreat
open Go Go.RowKit

/-- spec.DoorOk -/
def s_DoorOk_ann : List (Nat × Keep) := [(0, ⟨[1, 3], [], false, 0⟩)]
def s_DoorOk_L0_sh : Sh := ⟨[(1, false, [.ptr 0 0]), (3, false, [.int .i64])], [.box [.int .i64, .int .i64, .int .i64, .bool, .int .u64, .int .u64, .sl .arg .macRow, .bool, .int .u64, .int .u64, .sl .arg .macRow, .bool, .int .i64, .int .i64, .int .i64, .int .i64, .sl .arg .half, .sl .arg .conn, .sl .arg .tupl, .int .i64]]⟩
def s_DoorOk_L0_es : List (Ex × Sh) := [(.ret, ⟨[(2, false, [.bool])], []⟩), (.exit 0, ⟨[(2, false, [.undef])], []⟩)]
def s_DoorOk_L0_mk (v0 : Int) (v1 : Int) (v2 : Int) (v3 : Int) (v4 : Bool) (v5 : Int) (v6 : Int) (v7 : List MacRow) (v8 : Bool) (v9 : Int) (v10 : Int) (v11 : List MacRow) (v12 : Bool) (v13 : Int) (v14 : Int) (v15 : Int) (v16 : Int) (v17 : List Half) (v18 : List Conn) (v19 : List Tupl) (v20 : Int) : s_DoorOk_L0_sh.T := ((((), ()), ((v0, ()), ())), ((v1, (v2, (v3, (v4, (v5, (v6, (v7, (v8, (v9, (v10, (v11, (v12, (v13, (v14, (v15, (v16, (v17, (v18, (v19, (v20, ())))))))))))))))))))), ()))
def s_DoorOk_L0_mx0 (y0 : Bool) : Sh.T ⟨[(2, false, [.bool])], []⟩ := (((y0, ()), ()), ())
def s_DoorOk_L0_mx1  : Sh.T ⟨[(2, false, [.undef])], []⟩ := ((((), ()), ()), ())
def s_DoorOk_L0_B (v0 : Int) (v1 : Int) (v2 : Int) (v3 : Int) (v4 : Bool) (v5 : Int) (v6 : Int) (v7 : List MacRow) (v8 : Bool) (v9 : Int) (v10 : Int) (v11 : List MacRow) (v12 : Bool) (v13 : Int) (v14 : Int) (v15 : Int) (v16 : Int) (v17 : List Half) (v18 : List Conn) (v19 : List Tupl) (v20 : Int) (γ : Type) (fail : γ) (next : s_DoorOk_L0_sh.T → γ) (out : WT s_DoorOk_L0_es → γ) : γ :=
  bif (decide (v0 < (v17.length : Int))) then
    bif ((decide (0 ≤ v0)) && (decide (v0 < (v17.length : Int)))) then
    letK (α := Int) (s_FindConn (⟨v18, v19⟩ : Tabl) ((v17.getD v0.toNat (Ty.zero .half)).tuple)) fun c7 =>
    bif (decide (0 ≤ c7)) then
      out (Sum.inl (s_DoorOk_L0_mx0 false))
    else
    next (s_DoorOk_L0_mk (IntKind.wrap .i64 (v0 + 1)) v1 v2 v3 v4 v5 v6 v7 v8 v9 v10 v11 v12 v13 v14 v15 v16 v17 v18 v19 v20)
    else fail
  else
  out (Sum.inr (s_DoorOk_L0_mx1 ))
theorem s_DoorOk_L0_par (v0 : Int) (v1 : Int) (v2 : Int) (v3 : Int) (v4 : Bool) (v5 : Int) (v6 : Int) (v7 : List MacRow) (v8 : Bool) (v9 : Int) (v10 : Int) (v11 : List MacRow) (v12 : Bool) (v13 : Int) (v14 : Int) (v15 : Int) (v16 : Int) (v17 : List Half) (v18 : List Conn) (v19 : List Tupl) (v20 : Int) (γ : Type) (fail : γ) (next : s_DoorOk_L0_sh.T → γ) (out : WT s_DoorOk_L0_es → γ) : s_DoorOk_L0_B v0 v1 v2 v3 v4 v5 v6 v7 v8 v9 v10 v11 v12 v13 v14 v15 v16 v17 v18 v19 v20 γ fail next out = optK (s_DoorOk_L0_B v0 v1 v2 v3 v4 v5 v6 v7 v8 v9 v10 v11 v12 v13 v14 v15 v16 v17 v18 v19 v20 _ none (fun v' => some (.inl v')) (fun w => some (.inr w))) fail (fun r => Sum.elim next out r) := by
  unfold s_DoorOk_L0_B
  exact bifT (f := (fun o => optK o fail (fun r => Sum.elim next out r))) (fun _ => bifT (f := (fun o => optK o fail (fun r => Sum.elim next out r))) (fun _ => letT (f := (fun o => optK o fail (fun r => Sum.elim next out r))) (fun c7 _ => bifT (f := (fun o => optK o fail (fun r => Sum.elim next out r))) (fun _ => rfl)
      (fun _ => rfl))) (fun _ => rfl))
      (fun _ => rfl)
def s_DoorOk_L0_r : Round s_DoorOk_L0_sh.T (WT s_DoorOk_L0_es) where
  B v γ fail next out := s_DoorOk_L0_B v.1.2.1.1 v.2.1.1 v.2.1.2.1 v.2.1.2.2.1 v.2.1.2.2.2.1 v.2.1.2.2.2.2.1 v.2.1.2.2.2.2.2.1 v.2.1.2.2.2.2.2.2.1 v.2.1.2.2.2.2.2.2.2.1 v.2.1.2.2.2.2.2.2.2.2.1 v.2.1.2.2.2.2.2.2.2.2.2.1 v.2.1.2.2.2.2.2.2.2.2.2.2.1 v.2.1.2.2.2.2.2.2.2.2.2.2.2.1 v.2.1.2.2.2.2.2.2.2.2.2.2.2.2.1 v.2.1.2.2.2.2.2.2.2.2.2.2.2.2.2.1 v.2.1.2.2.2.2.2.2.2.2.2.2.2.2.2.2.1 v.2.1.2.2.2.2.2.2.2.2.2.2.2.2.2.2.2.1 v.2.1.2.2.2.2.2.2.2.2.2.2.2.2.2.2.2.2.1 v.2.1.2.2.2.2.2.2.2.2.2.2.2.2.2.2.2.2.2.1 v.2.1.2.2.2.2.2.2.2.2.2.2.2.2.2.2.2.2.2.2.1 v.2.1.2.2.2.2.2.2.2.2.2.2.2.2.2.2.2.2.2.2.2.1 γ fail next out
  par v γ fail next out := s_DoorOk_L0_par v.1.2.1.1 v.2.1.1 v.2.1.2.1 v.2.1.2.2.1 v.2.1.2.2.2.1 v.2.1.2.2.2.2.1 v.2.1.2.2.2.2.2.1 v.2.1.2.2.2.2.2.2.1 v.2.1.2.2.2.2.2.2.2.1 v.2.1.2.2.2.2.2.2.2.2.1 v.2.1.2.2.2.2.2.2.2.2.2.1 v.2.1.2.2.2.2.2.2.2.2.2.2.1 v.2.1.2.2.2.2.2.2.2.2.2.2.2.1 v.2.1.2.2.2.2.2.2.2.2.2.2.2.2.1 v.2.1.2.2.2.2.2.2.2.2.2.2.2.2.2.1 v.2.1.2.2.2.2.2.2.2.2.2.2.2.2.2.2.1 v.2.1.2.2.2.2.2.2.2.2.2.2.2.2.2.2.2.1 v.2.1.2.2.2.2.2.2.2.2.2.2.2.2.2.2.2.2.1 v.2.1.2.2.2.2.2.2.2.2.2.2.2.2.2.2.2.2.2.1 v.2.1.2.2.2.2.2.2.2.2.2.2.2.2.2.2.2.2.2.2.1 v.2.1.2.2.2.2.2.2.2.2.2.2.2.2.2.2.2.2.2.2.2.1 γ fail next out
def s_DoorOk_L0_fu (v0 : Int) (v1 : Int) (v2 : Int) (v3 : Int) (v4 : Bool) (v5 : Int) (v6 : Int) (v7 : List MacRow) (v8 : Bool) (v9 : Int) (v10 : Int) (v11 : List MacRow) (v12 : Bool) (v13 : Int) (v14 : Int) (v15 : Int) (v16 : Int) (v17 : List Half) (v18 : List Conn) (v19 : List Tupl) (v20 : Int) : Nat := (Int.toNat ((v17.length : Int) - v0)) + 1
theorem s_DoorOk_L0_lk (v : s_DoorOk_L0_sh.T) (next : St → Option Res) (k : Ex → St → Option Res) : evalK te (orcOf (P := Tryz.prog) [s_WordOk_e, s_KeysOk_e, s_TableOk_e, s_HalvesOk_e, s_l1In_e, s_FindConn_e]) (lorcOf []) Tryz.f12.ntmps s_DoorOk_ann (nthLoop (bodyOf Tryz.f12) 0 0) 0 (s_DoorOk_L0_sh.enc v) (endK ⟨[1, 3], [], false, 0⟩ ⟨[2], [], false, 0⟩ next k) =
  s_DoorOk_L0_r.B v _ none (fun v' => next (s_DoorOk_L0_sh.enc v')) (fun w => outK s_DoorOk_L0_es k w) := by kernel_rfl
def s_DoorOk_L0_le : LE := leOf 0 s_DoorOk_L0_sh s_DoorOk_L0_es s_DoorOk_L0_r.step (fun v => s_DoorOk_L0_fu v.1.2.1.1 v.2.1.1 v.2.1.2.1 v.2.1.2.2.1 v.2.1.2.2.2.1 v.2.1.2.2.2.2.1 v.2.1.2.2.2.2.2.1 v.2.1.2.2.2.2.2.2.1 v.2.1.2.2.2.2.2.2.2.1 v.2.1.2.2.2.2.2.2.2.2.1 v.2.1.2.2.2.2.2.2.2.2.2.1 v.2.1.2.2.2.2.2.2.2.2.2.2.1 v.2.1.2.2.2.2.2.2.2.2.2.2.2.1 v.2.1.2.2.2.2.2.2.2.2.2.2.2.2.1 v.2.1.2.2.2.2.2.2.2.2.2.2.2.2.2.1 v.2.1.2.2.2.2.2.2.2.2.2.2.2.2.2.2.1 v.2.1.2.2.2.2.2.2.2.2.2.2.2.2.2.2.2.1 v.2.1.2.2.2.2.2.2.2.2.2.2.2.2.2.2.2.2.1 v.2.1.2.2.2.2.2.2.2.2.2.2.2.2.2.2.2.2.2.1 v.2.1.2.2.2.2.2.2.2.2.2.2.2.2.2.2.2.2.2.2.1 v.2.1.2.2.2.2.2.2.2.2.2.2.2.2.2.2.2.2.2.2.2.1)
theorem s_DoorOk_L0_ls (w0 : World) (mo : Mts) (I0 : Nat → Prop) (hmo : mo.length = 0) : LSem Tryz.prog (Sim w0 mo Tryz.f12.ntmps I0) (fun b s k => match Nat.beq 0 b with | true => s_DoorOk_L0_le.run s k | false => none) 0 (nthLoop (bodyOf Tryz.f12) 0 0) :=
  le_sem hmo (lorc := lorcOf []) (ann := s_DoorOk_ann) (keep := ⟨[1, 3], [], false, 0⟩) (kout := ⟨[2], [], false, 0⟩) teFact mixFact (orcOf_ok _) (by kernel_rfl) (allLoops_of (bs := []) (by kernel_rfl) trivial) s_DoorOk_L0_r _ s_DoorOk_L0_lk
def s_DoorOk_L0_f (v1 : Int) (v2 : Int) (v3 : Int) (v4 : Bool) (v5 : Int) (v6 : Int) (v7 : List MacRow) (v8 : Bool) (v9 : Int) (v10 : Int) (v11 : List MacRow) (v12 : Bool) (v13 : Int) (v14 : Int) (v15 : Int) (v16 : Int) (v17 : List Half) (v18 : List Conn) (v19 : List Tupl) (v20 : Int) (v0 : Int) (a : Unit) : Stp (Unit) ((Unit)) :=
  letK (α := Int) (s_FindConn (⟨v18, v19⟩ : Tabl) ((v17.getD v0.toNat (Ty.zero .half)).tuple)) fun c7 =>
  bif (decide (0 ≤ c7)) then
    .out (())
  else
  .next ()
theorem s_DoorOk_L0_st (v0 : Int) (v1 : Int) (v2 : Int) (v3 : Int) (v4 : Bool) (v5 : Int) (v6 : Int) (v7 : List MacRow) (v8 : Bool) (v9 : Int) (v10 : Int) (v11 : List MacRow) (v12 : Bool) (v13 : Int) (v14 : Int) (v15 : Int) (v16 : Int) (v17 : List Half) (v18 : List Conn) (v19 : List Tupl) (v20 : Int) (hlo : 0 ≤ v0) (hhi : v0 < (v17.length : Int)) (hN : (v17.length : Int) ≤ 4611686018427387904) : s_DoorOk_L0_r.step (s_DoorOk_L0_mk v0 v1 v2 v3 v4 v5 v6 v7 v8 v9 v10 v11 v12 v13 v14 v15 v16 v17 v18 v19 v20) = Stp.elim (fun a' : Unit => some (Sum.inl (s_DoorOk_L0_mk (v0 + 1) v1 v2 v3 v4 v5 v6 v7 v8 v9 v10 v11 v12 v13 v14 v15 v16 v17 v18 v19 v20))) (fun w => some (Sum.inr ((fun p : Unit => Sum.inl (s_DoorOk_L0_mx0 false)) w))) (s_DoorOk_L0_f v1 v2 v3 v4 v5 v6 v7 v8 v9 v10 v11 v12 v13 v14 v15 v16 v17 v18 v19 v20 v0 ()) := by
  have hw : (IntKind.wrap .i64 (v0 + 1)) = v0 + 1 := wrap64 (by omega) (by omega)
  show s_DoorOk_L0_B v0 v1 v2 v3 v4 v5 v6 v7 v8 v9 v10 v11 v12 v13 v14 v15 v16 v17 v18 v19 v20 (Option (s_DoorOk_L0_sh.T ⊕ WT s_DoorOk_L0_es)) none (fun v' => some (Sum.inl v')) (fun w => some (Sum.inr w)) = _
  unfold s_DoorOk_L0_B s_DoorOk_L0_f
  exact bifG (by simp only [decide_eq_true_eq]; omega) (bifG (by (try simp only [Nat.ble_eq, Bool.and_eq_true, decide_eq_true_eq]); grind [maxSl, maxStr, toBytes_length, toInts_length, List.length_set, wrap64]) (letT (f := (Stp.elim (fun a' : Unit => some (Sum.inl (s_DoorOk_L0_mk (v0 + 1) v1 v2 v3 v4 v5 v6 v7 v8 v9 v10 v11 v12 v13 v14 v15 v16 v17 v18 v19 v20))) (fun w => some (Sum.inr ((fun p : Unit => Sum.inl (s_DoorOk_L0_mx0 false)) w))))) (fun c7 hc7 => bifT (f := (Stp.elim (fun a' : Unit => some (Sum.inl (s_DoorOk_L0_mk (v0 + 1) v1 v2 v3 v4 v5 v6 v7 v8 v9 v10 v11 v12 v13 v14 v15 v16 v17 v18 v19 v20))) (fun w => some (Sum.inr ((fun p : Unit => Sum.inl (s_DoorOk_L0_mx0 false)) w))))) (fun b0 => rfl)
      (fun b0 => (by exact congrArg (fun z => some (Sum.inl (s_DoorOk_L0_mk z v1 v2 v3 v4 v5 v6 v7 v8 v9 v10 v11 v12 v13 v14 v15 v16 v17 v18 v19 v20))) hw)))))
theorem s_DoorOk_L0_cl (v0 : Int) (v1 : Int) (v2 : Int) (v3 : Int) (v4 : Bool) (v5 : Int) (v6 : Int) (v7 : List MacRow) (v8 : Bool) (v9 : Int) (v10 : Int) (v11 : List MacRow) (v12 : Bool) (v13 : Int) (v14 : Int) (v15 : Int) (v16 : Int) (v17 : List Half) (v18 : List Conn) (v19 : List Tupl) (v20 : Int) (h0 : 0 ≤ v0) (h1 : (v17.length : Int) ≤ 4611686018427387904) : loopF s_DoorOk_L0_r.step (s_DoorOk_L0_fu v0 v1 v2 v3 v4 v5 v6 v7 v8 v9 v10 v11 v12 v13 v14 v15 v16 v17 v18 v19 v20) (s_DoorOk_L0_mk v0 v1 v2 v3 v4 v5 v6 v7 v8 v9 v10 v11 v12 v13 v14 v15 v16 v17 v18 v19 v20) = some (Stp.elim (fun a => (fun i a => Sum.inr (s_DoorOk_L0_mx1 )) (v0 + 1 * (((Int.toNat ((v17.length : Int) - v0)) : Nat) : Int)) a) (fun p : Unit => Sum.inl (s_DoorOk_L0_mx0 false)) (forN (s_DoorOk_L0_f v1 v2 v3 v4 v5 v6 v7 v8 v9 v10 v11 v12 v13 v14 v15 v16 v17 v18 v19 v20) 1 (Int.toNat ((v17.length : Int) - v0)) v0 ())) :=
  forN_loop (step := s_DoorOk_L0_r.step) (mk := fun v0 a => s_DoorOk_L0_mk v0 v1 v2 v3 v4 v5 v6 v7 v8 v9 v10 v11 v12 v13 v14 v15 v16 v17 v18 v19 v20) (f := s_DoorOk_L0_f v1 v2 v3 v4 v5 v6 v7 v8 v9 v10 v11 v12 v13 v14 v15 v16 v17 v18 v19 v20) (e := (fun i a => Sum.inr (s_DoorOk_L0_mx1 ))) (emb := (fun p : Unit => Sum.inl (s_DoorOk_L0_mx0 false))) (st := 1) (Inv := fun v0 a => True) (Int.toNat ((v17.length : Int) - v0)) v0 () _ (Nat.lt_succ_self _) trivial
    (fun j a hj hv => ⟨s_DoorOk_L0_st (v0 + 1 * (j : Int)) v1 v2 v3 v4 v5 v6 v7 v8 v9 v10 v11 v12 v13 v14 v15 v16 v17 v18 v19 v20 (by omega) (by omega) (by omega), fun _ _ => trivial⟩)
    (fun a hv => by
      show s_DoorOk_L0_B (v0 + 1 * (((Int.toNat ((v17.length : Int) - v0)) : Nat) : Int)) v1 v2 v3 v4 v5 v6 v7 v8 v9 v10 v11 v12 v13 v14 v15 v16 v17 v18 v19 v20 (Option (s_DoorOk_L0_sh.T ⊕ WT s_DoorOk_L0_es)) none (fun v' => some (Sum.inl v')) (fun w => some (Sum.inr w)) = _
      unfold s_DoorOk_L0_B
      exact bifN (by simp only [decide_eq_false_iff_not]; omega) rfl)
def s_DoorOk_N (x0 : Door) (γ : Type) (fail : γ) (k : Bool → γ) : γ :=
  letK (α := Bool) (s_WordOk x0.port 16) fun c1 =>
  bif (!c1) then
    k false
  else
  letK (α := Bool) (s_WordOk x0.clock 32) fun c2 =>
  bif (!c2) then
    k false
  else
  letK (α := Bool) (s_KeysOk x0.keys) fun c3 =>
  bif (!c3) then
    k false
  else
  letK (α := Bool) (s_TableOk x0.table x0.limits) fun c4 =>
  bif (!c4) then
    k false
  else
  letK (α := Bool) (s_HalvesOk x0.halves) fun c5 =>
  bif (!c5) then
    k false
  else
  bif (decide (x0.limits.halves < (x0.halves.length : Int))) then
    k false
  else
  letK (α := Bool) (s_l1In x0.chal 0 x0.limits.chal) fun c6 =>
  bif (!c6) then
    k false
  else
  optK (loopF s_DoorOk_L0_r.step (s_DoorOk_L0_fu 0 x0.port x0.clock x0.keys.epoch x0.keys.now.use x0.keys.now.k x0.keys.now.l x0.keys.now.rows x0.keys.before.use x0.keys.before.k x0.keys.before.l x0.keys.before.rows x0.keys.two x0.limits.halves x0.limits.waiting x0.limits.conns x0.limits.chal x0.halves x0.table.conns x0.table.waiting x0.chal) (s_DoorOk_L0_mk 0 x0.port x0.clock x0.keys.epoch x0.keys.now.use x0.keys.now.k x0.keys.now.l x0.keys.now.rows x0.keys.before.use x0.keys.before.k x0.keys.before.l x0.keys.before.rows x0.keys.two x0.limits.halves x0.limits.waiting x0.limits.conns x0.limits.chal x0.halves x0.table.conns x0.table.waiting x0.chal)) fail fun w8 =>
    Sum.elim (fun w8 =>
      k w8.1.1.1)
    (fun w8 =>
      k true) w8
def s_DoorOk (x0 : Door) : Bool :=
  letK (α := Bool) (s_WordOk x0.port 16) fun c1 =>
  bif (!c1) then
    false
  else
  letK (α := Bool) (s_WordOk x0.clock 32) fun c2 =>
  bif (!c2) then
    false
  else
  letK (α := Bool) (s_KeysOk x0.keys) fun c3 =>
  bif (!c3) then
    false
  else
  letK (α := Bool) (s_TableOk x0.table x0.limits) fun c4 =>
  bif (!c4) then
    false
  else
  letK (α := Bool) (s_HalvesOk x0.halves) fun c5 =>
  bif (!c5) then
    false
  else
  bif (decide (x0.limits.halves < (x0.halves.length : Int))) then
    false
  else
  letK (α := Bool) (s_l1In x0.chal 0 x0.limits.chal) fun c6 =>
  bif (!c6) then
    false
  else
  Stp.elim (fun a9 =>
    true)
    (fun p9 =>
      false)
    (forN (s_DoorOk_L0_f x0.port x0.clock x0.keys.epoch x0.keys.now.use x0.keys.now.k x0.keys.now.l x0.keys.now.rows x0.keys.before.use x0.keys.before.k x0.keys.before.l x0.keys.before.rows x0.keys.two x0.limits.halves x0.limits.waiting x0.limits.conns x0.limits.chal x0.halves x0.table.conns x0.table.waiting x0.chal) 1 (Int.toNat ((x0.halves.length : Int) - 0)) 0 ())
theorem s_DoorOk_lk (x0 : Door) : evalFn te (orcOf (P := Tryz.prog) [s_WordOk_e, s_KeysOk_e, s_TableOk_e, s_HalvesOk_e, s_l1In_e, s_FindConn_e]) (lorcOf [s_DoorOk_L0_le]) s_DoorOk_ann Tryz.f12 (pvs [.st .door] (x0, ())) =
  s_DoorOk_N x0 _ none (fun v => some [(false, [RC.c (.bool v)])]) := by kernel_rfl
theorem s_DoorOk_p (x0 : Door) (hx0_port : inK .i64 x0.port) (hx0_clock : inK .i64 x0.clock) (hx0_keys_epoch : inK .i64 x0.keys.epoch) (hx0_keys_now_k : inK .u64 x0.keys.now.k) (hx0_keys_now_l : inK .u64 x0.keys.now.l) (hx0_keys_now_rows : x0.keys.now.rows.length ≤ 140737488355328) (hx0_keys_now_rows_e : ∀ y ∈ x0.keys.now.rows, ∀ c ∈ Ty.cells .macRow y, FactC c) (hx0_keys_before_k : inK .u64 x0.keys.before.k) (hx0_keys_before_l : inK .u64 x0.keys.before.l) (hx0_keys_before_rows : x0.keys.before.rows.length ≤ 140737488355328) (hx0_keys_before_rows_e : ∀ y ∈ x0.keys.before.rows, ∀ c ∈ Ty.cells .macRow y, FactC c) (hx0_limits_halves : inK .i64 x0.limits.halves) (hx0_limits_waiting : inK .i64 x0.limits.waiting) (hx0_limits_conns : inK .i64 x0.limits.conns) (hx0_limits_chal : inK .i64 x0.limits.chal) (hx0_halves : x0.halves.length ≤ 140737488355328) (hx0_table_conns : x0.table.conns.length ≤ 140737488355328) (hx0_table_conns_e : ∀ y ∈ x0.table.conns, ∀ c ∈ Ty.cells .conn y, FactC c) (hx0_table_waiting : x0.table.waiting.length ≤ 140737488355328) (hx0_chal : inK .i64 x0.chal)  (γ : Type) (fail : γ) (k : Bool → γ) : s_DoorOk_N x0 γ fail k = k (s_DoorOk x0) := by
  unfold s_DoorOk_N s_DoorOk
  exact letT (f := k) (fun c1 hc1 => bifT (f := k) (fun b0 => rfl)
      (fun b0 => letT (f := k) (fun c2 hc2 => bifT (f := k) (fun b1 => rfl)
      (fun b1 => letT (f := k) (fun c3 hc3 => bifT (f := k) (fun b2 => rfl)
      (fun b2 => letT (f := k) (fun c4 hc4 => bifT (f := k) (fun b3 => rfl)
      (fun b3 => letT (f := k) (fun c5 hc5 => bifT (f := k) (fun b4 => rfl)
      (fun b4 => bifT (f := k) (fun b5 => rfl)
      (fun b5 => letT (f := k) (fun c6 hc6 => bifT (f := k) (fun b6 => rfl)
      (fun b6 => loopT (f := k) (s_DoorOk_L0_cl 0 x0.port x0.clock x0.keys.epoch x0.keys.now.use x0.keys.now.k x0.keys.now.l x0.keys.now.rows x0.keys.before.use x0.keys.before.k x0.keys.before.l x0.keys.before.rows x0.keys.two x0.limits.halves x0.limits.waiting x0.limits.conns x0.limits.chal x0.halves x0.table.conns x0.table.waiting x0.chal (by (try simp only [Nat.ble_eq, Bool.and_eq_true, decide_eq_true_eq, s_DoorOk_L0_mx0, s_DoorOk_L0_mx1]); grind [maxSl, maxStr, toBytes_length, toInts_length, List.length_set, wrap64]) (by (try simp only [Nat.ble_eq, Bool.and_eq_true, decide_eq_true_eq, s_DoorOk_L0_mx0, s_DoorOk_L0_mx1]); grind [maxSl, maxStr, toBytes_length, toInts_length, List.length_set, wrap64])) (fun a9 => rfl)
      (fun p9 => rfl))))))))))))))
theorem s_DoorOk_c (x0 : Door)  : Con Tryz.prog 12 (pvs [.st .door] (x0, ())) [rv (.sc .bool) [] (s_DoorOk x0)] := by
  refine Con.of_facts (enters_of Tryz.func12 rfl (by kernel_rfl)) fun hf => ?_
  replace hf := factAt hf
  exact evalFn_conL teFact mixFact (orcOf_ok _) Tryz.func12 (by kernel_rfl) (bs := [0]) (by kernel_rfl) (by kernel_rfl) (fun w0 mo I0 hmo => ⟨lsem_of_lorc (s_DoorOk_L0_ls w0 mo I0 hmo) (by kernel_rfl), trivial⟩) ((s_DoorOk_lk x0).trans (s_DoorOk_p x0 ((hf 0 0 rfl rfl).rng) ((hf 0 1 rfl rfl).rng) ((hf 0 2 rfl rfl).rng) ((hf 0 4 rfl rfl).rng) ((hf 0 5 rfl rfl).rng) ((hf 0 6 rfl rfl).len) (fun y hy => (hf 0 6 rfl rfl).elem hy) ((hf 0 8 rfl rfl).rng) ((hf 0 9 rfl rfl).rng) ((hf 0 10 rfl rfl).len) (fun y hy => (hf 0 10 rfl rfl).elem hy) ((hf 0 12 rfl rfl).rng) ((hf 0 13 rfl rfl).rng) ((hf 0 14 rfl rfl).rng) ((hf 0 15 rfl rfl).rng) ((hf 0 16 rfl rfl).len) ((hf 0 17 rfl rfl).len) (fun y hy => (hf 0 17 rfl rfl).elem hy) ((hf 0 18 rfl rfl).len) ((hf 0 19 rfl rfl).rng) _ _ _))
noncomputable def s_DoorOk_e : Ent1 Tryz.prog := entA 12 [.st .door] (fun x => (s_DoorOk x.1)) (fun v => [rv (.sc .bool) [] v]) (fun x => s_DoorOk_c x.1)


/-- laws.toTable -/
def w_toTable_N (x0 : Tabl) (γ : Type) (fail : γ) (k : Tabl → γ) : γ :=
  bif (decide (x0.conns.length ≤ 4294967296 ∧ sm_conn x0.conns = true)) then
  letK (α := List Conn) (w_toConnS x0.conns) fun c1 =>
  bif (decide (x0.waiting.length ≤ 4294967296)) then
  letK (α := List Tupl) (w_toTupleS x0.waiting) fun c2 =>
  k (⟨c1, c2⟩ : Tabl)
  else fail
  else fail
def w_toTable (x0 : Tabl) : Tabl :=
  letK (α := List Conn) (w_toConnS x0.conns) fun c1 =>
  letK (α := List Tupl) (w_toTupleS x0.waiting) fun c2 =>
  (⟨c1, c2⟩ : Tabl)
theorem w_toTable_lk (x0 : Tabl) : evalFn te (orcOf (P := Tryz.prog) [w_toConnS_e, w_toTupleS_e]) lorc0 [] Tryz.f34 (pvs [.st .tabl] (x0, ())) =
  w_toTable_N x0 _ none (fun v => some [(true, [RC.own true .conn v.conns, RC.own true .tupl v.waiting])]) := by kernel_rfl
theorem w_toTable_p (x0 : Tabl) (hx0_conns : x0.conns.length ≤ 140737488355328) (hx0_conns_e : ∀ y ∈ x0.conns, ∀ c ∈ Ty.cells .conn y, FactC c) (hx0_waiting : x0.waiting.length ≤ 140737488355328) (hp : x0.conns.length ≤ 4294967296 ∧ sm_conn x0.conns = true ∧ x0.waiting.length ≤ 4294967296) (γ : Type) (fail : γ) (k : Tabl → γ) : w_toTable_N x0 γ fail k = k (w_toTable x0) := by
  unfold w_toTable_N w_toTable
  exact bifG (by (try simp only [Nat.ble_eq, Bool.and_eq_true, decide_eq_true_eq]); grind [maxSl, maxStr, toBytes_length, toInts_length, List.length_set, wrap64]) (letT (f := k) (fun c1 hc1 => bifG (by (try simp only [Nat.ble_eq, Bool.and_eq_true, decide_eq_true_eq]); grind [maxSl, maxStr, toBytes_length, toInts_length, List.length_set, wrap64]) (letT (f := k) (fun c2 hc2 => rfl))))
theorem w_toTable_c (x0 : Tabl) (hp : x0.conns.length ≤ 4294967296 ∧ sm_conn x0.conns = true ∧ x0.waiting.length ≤ 4294967296) : Con Tryz.prog 34 (pvs [.st .tabl] (x0, ())) [rv (.st .tabl) [.o true, .o true] (w_toTable x0)] := by
  refine Con.of_facts (enters_of Tryz.func34 rfl (by kernel_rfl)) fun hf => ?_
  replace hf := factAt hf
  exact evalFn_con0 teFact mixFact (orcOf_ok _) Tryz.func34 (by kernel_rfl) ((w_toTable_lk x0).trans (w_toTable_p x0 ((hf 0 0 rfl rfl).len) (fun y hy => (hf 0 0 rfl rfl).elem hy) ((hf 0 1 rfl rfl).len) hp _ _ _))
noncomputable def w_toTable_e : Ent1 Tryz.prog := entP 34 [.st .tabl] (fun x => (decide (x.1.conns.length ≤ 4294967296 ∧ sm_conn x.1.conns = true ∧ x.1.waiting.length ≤ 4294967296))) (fun x => (w_toTable x.1)) (fun v => [rv (.st .tabl) [.o true, .o true] v]) (fun x hx => w_toTable_c x.1 (of_decide_eq_true hx))


/-- impl.TableOk -/
def i_TableOk_ann : List (Nat × Keep) := [(0, ⟨[2, 29, 30, 31], [], false, 0⟩), (2, ⟨[2, 49, 50, 51], [], false, 0⟩)]
def i_TableOk_L0_sh : Sh := ⟨[(2, false, [.ptr 0 0]), (29, false, [.sl .arg .conn]), (30, false, [.int .i64]), (31, false, [.int .i64])], [.box [.sl .arg .conn, .sl .arg .tupl]]⟩
def i_TableOk_L0_es : List (Ex × Sh) := [(.ret, ⟨[(2, false, [.ptr 0 0]), (4, false, [.bool])], [.box [.sl .arg .conn, .sl .arg .tupl]]⟩), (.exit 0, ⟨[(2, false, [.ptr 0 0]), (4, false, [.undef])], [.box [.sl .arg .conn, .sl .arg .tupl]]⟩)]
def i_TableOk_L0_mk (v0 : List Conn) (v1 : Int) (v2 : Int) (v3 : List Conn) (v4 : List Tupl) : i_TableOk_L0_sh.T := ((((), ()), ((v0, ()), ((v1, ()), ((v2, ()), ())))), ((v3, (v4, ())), ()))
def i_TableOk_L0_mx0 (y0 : Bool) (y1 : List Conn) (y2 : List Tupl) : Sh.T ⟨[(2, false, [.ptr 0 0]), (4, false, [.bool])], [.box [.sl .arg .conn, .sl .arg .tupl]]⟩ := ((((), ()), ((y0, ()), ())), ((y1, (y2, ())), ()))
def i_TableOk_L0_mx1 (y0 : List Conn) (y1 : List Tupl) : Sh.T ⟨[(2, false, [.ptr 0 0]), (4, false, [.undef])], [.box [.sl .arg .conn, .sl .arg .tupl]]⟩ := ((((), ()), (((), ()), ())), ((y0, (y1, ())), ()))
def i_TableOk_L0_B (v0 : List Conn) (v1 : Int) (v2 : Int) (v3 : List Conn) (v4 : List Tupl) (γ : Type) (fail : γ) (next : i_TableOk_L0_sh.T → γ) (out : WT i_TableOk_L0_es → γ) : γ :=
  bif (decide (v2 < v1)) then
    bif ((decide (0 ≤ v2)) && (decide (v2 < (v0.length : Int)))) then
    letK (α := Bool) (i_ConnOk (v0.getD v2.toNat (Ty.zero .conn))) fun c2 =>
    bif (!c2) then
      out (Sum.inl (i_TableOk_L0_mx0 false v3 v4))
    else
    letK (α := Int) (i_FindConn (⟨v3, v4⟩ : Tabl) ((v0.getD v2.toNat (Ty.zero .conn)).tuple)) fun c3 =>
    bif (c3 != v2) then
      out (Sum.inl (i_TableOk_L0_mx0 false v3 v4))
    else
    next (i_TableOk_L0_mk v0 v1 (IntKind.wrap .i64 (v2 + 1)) v3 v4)
    else fail
  else
  out (Sum.inr (i_TableOk_L0_mx1 v3 v4))
theorem i_TableOk_L0_par (v0 : List Conn) (v1 : Int) (v2 : Int) (v3 : List Conn) (v4 : List Tupl) (γ : Type) (fail : γ) (next : i_TableOk_L0_sh.T → γ) (out : WT i_TableOk_L0_es → γ) : i_TableOk_L0_B v0 v1 v2 v3 v4 γ fail next out = optK (i_TableOk_L0_B v0 v1 v2 v3 v4 _ none (fun v' => some (.inl v')) (fun w => some (.inr w))) fail (fun r => Sum.elim next out r) := by
  unfold i_TableOk_L0_B
  exact bifT (f := (fun o => optK o fail (fun r => Sum.elim next out r))) (fun _ => bifT (f := (fun o => optK o fail (fun r => Sum.elim next out r))) (fun _ => letT (f := (fun o => optK o fail (fun r => Sum.elim next out r))) (fun c2 _ => bifT (f := (fun o => optK o fail (fun r => Sum.elim next out r))) (fun _ => rfl)
      (fun _ => letT (f := (fun o => optK o fail (fun r => Sum.elim next out r))) (fun c3 _ => bifT (f := (fun o => optK o fail (fun r => Sum.elim next out r))) (fun _ => rfl)
      (fun _ => rfl))))) (fun _ => rfl))
      (fun _ => rfl)
def i_TableOk_L0_r : Round i_TableOk_L0_sh.T (WT i_TableOk_L0_es) where
  B v γ fail next out := i_TableOk_L0_B v.1.2.1.1 v.1.2.2.1.1 v.1.2.2.2.1.1 v.2.1.1 v.2.1.2.1 γ fail next out
  par v γ fail next out := i_TableOk_L0_par v.1.2.1.1 v.1.2.2.1.1 v.1.2.2.2.1.1 v.2.1.1 v.2.1.2.1 γ fail next out
def i_TableOk_L0_fu (v0 : List Conn) (v1 : Int) (v2 : Int) (v3 : List Conn) (v4 : List Tupl) : Nat := (Int.toNat (v1 - v2)) + 1
theorem i_TableOk_L0_lk (v : i_TableOk_L0_sh.T) (next : St → Option Res) (k : Ex → St → Option Res) : evalK te (orcOf (P := Tryz.prog) [i_LimitsOk_e, i_ConnOk_e, i_FindConn_e, g_Index_Tuple_e]) (lorcOf []) Tryz.f38.ntmps i_TableOk_ann (nthLoop (bodyOf Tryz.f38) 0 0) 0 (i_TableOk_L0_sh.enc v) (endK ⟨[2, 29, 30, 31], [], false, 0⟩ ⟨[2, 4], [], false, 0⟩ next k) =
  i_TableOk_L0_r.B v _ none (fun v' => next (i_TableOk_L0_sh.enc v')) (fun w => outK i_TableOk_L0_es k w) := by kernel_rfl
def i_TableOk_L0_le : LE := leOf 0 i_TableOk_L0_sh i_TableOk_L0_es i_TableOk_L0_r.step (fun v => i_TableOk_L0_fu v.1.2.1.1 v.1.2.2.1.1 v.1.2.2.2.1.1 v.2.1.1 v.2.1.2.1)
theorem i_TableOk_L0_ls (w0 : World) (mo : Mts) (I0 : Nat → Prop) (hmo : mo.length = 0) : LSem Tryz.prog (Sim w0 mo Tryz.f38.ntmps I0) (fun b s k => match Nat.beq 0 b with | true => i_TableOk_L0_le.run s k | false => none) 0 (nthLoop (bodyOf Tryz.f38) 0 0) :=
  le_sem hmo (lorc := lorcOf []) (ann := i_TableOk_ann) (keep := ⟨[2, 29, 30, 31], [], false, 0⟩) (kout := ⟨[2, 4], [], false, 0⟩) teFact mixFact (orcOf_ok _) (by kernel_rfl) (allLoops_of (bs := []) (by kernel_rfl) trivial) i_TableOk_L0_r _ i_TableOk_L0_lk
def i_TableOk_L0_f (v0 : List Conn) (v1 : Int) (v3 : List Conn) (v4 : List Tupl) (v2 : Int) (a : Unit) : Stp (Unit) ((Unit)) :=
  letK (α := Bool) (i_ConnOk (v0.getD v2.toNat (Ty.zero .conn))) fun c2 =>
  bif (!c2) then
    .out (())
  else
  letK (α := Int) (i_FindConn (⟨v3, v4⟩ : Tabl) ((v0.getD v2.toNat (Ty.zero .conn)).tuple)) fun c3 =>
  bif (c3 != v2) then
    .out (())
  else
  .next ()
theorem i_TableOk_L0_st (v0 : List Conn) (v1 : Int) (v2 : Int) (v3 : List Conn) (v4 : List Tupl) (hlo : 0 ≤ v2) (hhi : v2 < v1) (hN : v1 ≤ 4611686018427387904) (hi0 : v1 ≤ (v0.length : Int)) : i_TableOk_L0_r.step (i_TableOk_L0_mk v0 v1 v2 v3 v4) = Stp.elim (fun a' : Unit => some (Sum.inl (i_TableOk_L0_mk v0 v1 (v2 + 1) v3 v4))) (fun w => some (Sum.inr ((fun p : Unit => Sum.inl (i_TableOk_L0_mx0 false v3 v4)) w))) (i_TableOk_L0_f v0 v1 v3 v4 v2 ()) := by
  have hw : (IntKind.wrap .i64 (v2 + 1)) = v2 + 1 := wrap64 (by omega) (by omega)
  show i_TableOk_L0_B v0 v1 v2 v3 v4 (Option (i_TableOk_L0_sh.T ⊕ WT i_TableOk_L0_es)) none (fun v' => some (Sum.inl v')) (fun w => some (Sum.inr w)) = _
  unfold i_TableOk_L0_B i_TableOk_L0_f
  exact bifG (by simp only [decide_eq_true_eq]; omega) (bifG (by (try simp only [Nat.ble_eq, Bool.and_eq_true, decide_eq_true_eq]); grind [maxSl, maxStr, toBytes_length, toInts_length, List.length_set, wrap64]) (letT (f := (Stp.elim (fun a' : Unit => some (Sum.inl (i_TableOk_L0_mk v0 v1 (v2 + 1) v3 v4))) (fun w => some (Sum.inr ((fun p : Unit => Sum.inl (i_TableOk_L0_mx0 false v3 v4)) w))))) (fun c2 hc2 => bifT (f := (Stp.elim (fun a' : Unit => some (Sum.inl (i_TableOk_L0_mk v0 v1 (v2 + 1) v3 v4))) (fun w => some (Sum.inr ((fun p : Unit => Sum.inl (i_TableOk_L0_mx0 false v3 v4)) w))))) (fun b0 => rfl)
      (fun b0 => letT (f := (Stp.elim (fun a' : Unit => some (Sum.inl (i_TableOk_L0_mk v0 v1 (v2 + 1) v3 v4))) (fun w => some (Sum.inr ((fun p : Unit => Sum.inl (i_TableOk_L0_mx0 false v3 v4)) w))))) (fun c3 hc3 => bifT (f := (Stp.elim (fun a' : Unit => some (Sum.inl (i_TableOk_L0_mk v0 v1 (v2 + 1) v3 v4))) (fun w => some (Sum.inr ((fun p : Unit => Sum.inl (i_TableOk_L0_mx0 false v3 v4)) w))))) (fun b1 => rfl)
      (fun b1 => (by exact congrArg (fun z => some (Sum.inl (i_TableOk_L0_mk v0 v1 z v3 v4))) hw)))))))
theorem i_TableOk_L0_cl (v0 : List Conn) (v1 : Int) (v2 : Int) (v3 : List Conn) (v4 : List Tupl) (h0 : 0 ≤ v2) (h1 : v1 ≤ 4611686018427387904) (h2 : v1 ≤ (v0.length : Int)) : loopF i_TableOk_L0_r.step (i_TableOk_L0_fu v0 v1 v2 v3 v4) (i_TableOk_L0_mk v0 v1 v2 v3 v4) = some (Stp.elim (fun a => (fun i a => Sum.inr (i_TableOk_L0_mx1 v3 v4)) (v2 + 1 * (((Int.toNat (v1 - v2)) : Nat) : Int)) a) (fun p : Unit => Sum.inl (i_TableOk_L0_mx0 false v3 v4)) (forN (i_TableOk_L0_f v0 v1 v3 v4) 1 (Int.toNat (v1 - v2)) v2 ())) :=
  forN_loop (step := i_TableOk_L0_r.step) (mk := fun v2 a => i_TableOk_L0_mk v0 v1 v2 v3 v4) (f := i_TableOk_L0_f v0 v1 v3 v4) (e := (fun i a => Sum.inr (i_TableOk_L0_mx1 v3 v4))) (emb := (fun p : Unit => Sum.inl (i_TableOk_L0_mx0 false v3 v4))) (st := 1) (Inv := fun v2 a => True) (Int.toNat (v1 - v2)) v2 () _ (Nat.lt_succ_self _) trivial
    (fun j a hj hv => ⟨i_TableOk_L0_st v0 v1 (v2 + 1 * (j : Int)) v3 v4 (by omega) (by omega) (by omega) h2, fun _ _ => trivial⟩)
    (fun a hv => by
      show i_TableOk_L0_B v0 v1 (v2 + 1 * (((Int.toNat (v1 - v2)) : Nat) : Int)) v3 v4 (Option (i_TableOk_L0_sh.T ⊕ WT i_TableOk_L0_es)) none (fun v' => some (Sum.inl v')) (fun w => some (Sum.inr w)) = _
      unfold i_TableOk_L0_B
      exact bifN (by simp only [decide_eq_false_iff_not]; omega) rfl)
def i_TableOk_L1_sh : Sh := ⟨[(2, false, [.ptr 0 0]), (49, false, [.sl .arg .tupl]), (50, false, [.int .i64]), (51, false, [.int .i64])], [.box [.sl .arg .conn, .sl .arg .tupl]]⟩
def i_TableOk_L1_es : List (Ex × Sh) := [(.ret, ⟨[(4, false, [.bool])], []⟩), (.exit 2, ⟨[(4, false, [.undef])], []⟩)]
def i_TableOk_L1_mk (v0 : List Tupl) (v1 : Int) (v2 : Int) (v3 : List Conn) (v4 : List Tupl) : i_TableOk_L1_sh.T := ((((), ()), ((v0, ()), ((v1, ()), ((v2, ()), ())))), ((v3, (v4, ())), ()))
def i_TableOk_L1_mx0 (y0 : Bool) : Sh.T ⟨[(4, false, [.bool])], []⟩ := (((y0, ()), ()), ())
def i_TableOk_L1_mx1  : Sh.T ⟨[(4, false, [.undef])], []⟩ := ((((), ()), ()), ())
def i_TableOk_L1_B (v0 : List Tupl) (v1 : Int) (v2 : Int) (v3 : List Conn) (v4 : List Tupl) (γ : Type) (fail : γ) (next : i_TableOk_L1_sh.T → γ) (out : WT i_TableOk_L1_es → γ) : γ :=
  bif (decide (v2 < v1)) then
    bif ((decide (0 ≤ v2)) && (decide (v2 < (v0.length : Int)))) then
    letK (α := Int) (i_FindConn (⟨v3, v4⟩ : Tabl) (v0.getD v2.toNat (Ty.zero .tupl))) fun c5 =>
    bif (decide (c5 < 0)) then
      out (Sum.inl (i_TableOk_L1_mx0 false))
    else
    letK (α := Int) (g_Index_Tuple v4 (v0.getD v2.toNat (Ty.zero .tupl))) fun c6 =>
    bif (c6 != v2) then
      out (Sum.inl (i_TableOk_L1_mx0 false))
    else
    next (i_TableOk_L1_mk v0 v1 (IntKind.wrap .i64 (v2 + 1)) v3 v4)
    else fail
  else
  out (Sum.inr (i_TableOk_L1_mx1 ))
theorem i_TableOk_L1_par (v0 : List Tupl) (v1 : Int) (v2 : Int) (v3 : List Conn) (v4 : List Tupl) (γ : Type) (fail : γ) (next : i_TableOk_L1_sh.T → γ) (out : WT i_TableOk_L1_es → γ) : i_TableOk_L1_B v0 v1 v2 v3 v4 γ fail next out = optK (i_TableOk_L1_B v0 v1 v2 v3 v4 _ none (fun v' => some (.inl v')) (fun w => some (.inr w))) fail (fun r => Sum.elim next out r) := by
  unfold i_TableOk_L1_B
  exact bifT (f := (fun o => optK o fail (fun r => Sum.elim next out r))) (fun _ => bifT (f := (fun o => optK o fail (fun r => Sum.elim next out r))) (fun _ => letT (f := (fun o => optK o fail (fun r => Sum.elim next out r))) (fun c5 _ => bifT (f := (fun o => optK o fail (fun r => Sum.elim next out r))) (fun _ => rfl)
      (fun _ => letT (f := (fun o => optK o fail (fun r => Sum.elim next out r))) (fun c6 _ => bifT (f := (fun o => optK o fail (fun r => Sum.elim next out r))) (fun _ => rfl)
      (fun _ => rfl))))) (fun _ => rfl))
      (fun _ => rfl)
def i_TableOk_L1_r : Round i_TableOk_L1_sh.T (WT i_TableOk_L1_es) where
  B v γ fail next out := i_TableOk_L1_B v.1.2.1.1 v.1.2.2.1.1 v.1.2.2.2.1.1 v.2.1.1 v.2.1.2.1 γ fail next out
  par v γ fail next out := i_TableOk_L1_par v.1.2.1.1 v.1.2.2.1.1 v.1.2.2.2.1.1 v.2.1.1 v.2.1.2.1 γ fail next out
def i_TableOk_L1_fu (v0 : List Tupl) (v1 : Int) (v2 : Int) (v3 : List Conn) (v4 : List Tupl) : Nat := (Int.toNat (v1 - v2)) + 1
theorem i_TableOk_L1_lk (v : i_TableOk_L1_sh.T) (next : St → Option Res) (k : Ex → St → Option Res) : evalK te (orcOf (P := Tryz.prog) [i_LimitsOk_e, i_ConnOk_e, i_FindConn_e, g_Index_Tuple_e]) (lorcOf []) Tryz.f38.ntmps i_TableOk_ann (nthLoop (bodyOf Tryz.f38) 0 1) 2 (i_TableOk_L1_sh.enc v) (endK ⟨[2, 49, 50, 51], [], false, 0⟩ ⟨[4], [], false, 0⟩ next k) =
  i_TableOk_L1_r.B v _ none (fun v' => next (i_TableOk_L1_sh.enc v')) (fun w => outK i_TableOk_L1_es k w) := by kernel_rfl
def i_TableOk_L1_le : LE := leOf 2 i_TableOk_L1_sh i_TableOk_L1_es i_TableOk_L1_r.step (fun v => i_TableOk_L1_fu v.1.2.1.1 v.1.2.2.1.1 v.1.2.2.2.1.1 v.2.1.1 v.2.1.2.1)
theorem i_TableOk_L1_ls (w0 : World) (mo : Mts) (I0 : Nat → Prop) (hmo : mo.length = 0) : LSem Tryz.prog (Sim w0 mo Tryz.f38.ntmps I0) (fun b s k => match Nat.beq 2 b with | true => i_TableOk_L1_le.run s k | false => none) 2 (nthLoop (bodyOf Tryz.f38) 0 1) :=
  le_sem hmo (lorc := lorcOf []) (ann := i_TableOk_ann) (keep := ⟨[2, 49, 50, 51], [], false, 0⟩) (kout := ⟨[4], [], false, 0⟩) teFact mixFact (orcOf_ok _) (by kernel_rfl) (allLoops_of (bs := []) (by kernel_rfl) trivial) i_TableOk_L1_r _ i_TableOk_L1_lk
def i_TableOk_L1_f (v0 : List Tupl) (v1 : Int) (v3 : List Conn) (v4 : List Tupl) (v2 : Int) (a : Unit) : Stp (Unit) ((Unit)) :=
  letK (α := Int) (i_FindConn (⟨v3, v4⟩ : Tabl) (v0.getD v2.toNat (Ty.zero .tupl))) fun c5 =>
  bif (decide (c5 < 0)) then
    .out (())
  else
  letK (α := Int) (g_Index_Tuple v4 (v0.getD v2.toNat (Ty.zero .tupl))) fun c6 =>
  bif (c6 != v2) then
    .out (())
  else
  .next ()
theorem i_TableOk_L1_st (v0 : List Tupl) (v1 : Int) (v2 : Int) (v3 : List Conn) (v4 : List Tupl) (hlo : 0 ≤ v2) (hhi : v2 < v1) (hN : v1 ≤ 4611686018427387904) (hi0 : v1 ≤ (v0.length : Int)) : i_TableOk_L1_r.step (i_TableOk_L1_mk v0 v1 v2 v3 v4) = Stp.elim (fun a' : Unit => some (Sum.inl (i_TableOk_L1_mk v0 v1 (v2 + 1) v3 v4))) (fun w => some (Sum.inr ((fun p : Unit => Sum.inl (i_TableOk_L1_mx0 false)) w))) (i_TableOk_L1_f v0 v1 v3 v4 v2 ()) := by
  have hw : (IntKind.wrap .i64 (v2 + 1)) = v2 + 1 := wrap64 (by omega) (by omega)
  show i_TableOk_L1_B v0 v1 v2 v3 v4 (Option (i_TableOk_L1_sh.T ⊕ WT i_TableOk_L1_es)) none (fun v' => some (Sum.inl v')) (fun w => some (Sum.inr w)) = _
  unfold i_TableOk_L1_B i_TableOk_L1_f
  exact bifG (by simp only [decide_eq_true_eq]; omega) (bifG (by (try simp only [Nat.ble_eq, Bool.and_eq_true, decide_eq_true_eq]); grind [maxSl, maxStr, toBytes_length, toInts_length, List.length_set, wrap64]) (letT (f := (Stp.elim (fun a' : Unit => some (Sum.inl (i_TableOk_L1_mk v0 v1 (v2 + 1) v3 v4))) (fun w => some (Sum.inr ((fun p : Unit => Sum.inl (i_TableOk_L1_mx0 false)) w))))) (fun c5 hc5 => bifT (f := (Stp.elim (fun a' : Unit => some (Sum.inl (i_TableOk_L1_mk v0 v1 (v2 + 1) v3 v4))) (fun w => some (Sum.inr ((fun p : Unit => Sum.inl (i_TableOk_L1_mx0 false)) w))))) (fun b0 => rfl)
      (fun b0 => letT (f := (Stp.elim (fun a' : Unit => some (Sum.inl (i_TableOk_L1_mk v0 v1 (v2 + 1) v3 v4))) (fun w => some (Sum.inr ((fun p : Unit => Sum.inl (i_TableOk_L1_mx0 false)) w))))) (fun c6 hc6 => bifT (f := (Stp.elim (fun a' : Unit => some (Sum.inl (i_TableOk_L1_mk v0 v1 (v2 + 1) v3 v4))) (fun w => some (Sum.inr ((fun p : Unit => Sum.inl (i_TableOk_L1_mx0 false)) w))))) (fun b1 => rfl)
      (fun b1 => (by exact congrArg (fun z => some (Sum.inl (i_TableOk_L1_mk v0 v1 z v3 v4))) hw)))))))
theorem i_TableOk_L1_cl (v0 : List Tupl) (v1 : Int) (v2 : Int) (v3 : List Conn) (v4 : List Tupl) (h0 : 0 ≤ v2) (h1 : v1 ≤ 4611686018427387904) (h2 : v1 ≤ (v0.length : Int)) : loopF i_TableOk_L1_r.step (i_TableOk_L1_fu v0 v1 v2 v3 v4) (i_TableOk_L1_mk v0 v1 v2 v3 v4) = some (Stp.elim (fun a => (fun i a => Sum.inr (i_TableOk_L1_mx1 )) (v2 + 1 * (((Int.toNat (v1 - v2)) : Nat) : Int)) a) (fun p : Unit => Sum.inl (i_TableOk_L1_mx0 false)) (forN (i_TableOk_L1_f v0 v1 v3 v4) 1 (Int.toNat (v1 - v2)) v2 ())) :=
  forN_loop (step := i_TableOk_L1_r.step) (mk := fun v2 a => i_TableOk_L1_mk v0 v1 v2 v3 v4) (f := i_TableOk_L1_f v0 v1 v3 v4) (e := (fun i a => Sum.inr (i_TableOk_L1_mx1 ))) (emb := (fun p : Unit => Sum.inl (i_TableOk_L1_mx0 false))) (st := 1) (Inv := fun v2 a => True) (Int.toNat (v1 - v2)) v2 () _ (Nat.lt_succ_self _) trivial
    (fun j a hj hv => ⟨i_TableOk_L1_st v0 v1 (v2 + 1 * (j : Int)) v3 v4 (by omega) (by omega) (by omega) h2, fun _ _ => trivial⟩)
    (fun a hv => by
      show i_TableOk_L1_B v0 v1 (v2 + 1 * (((Int.toNat (v1 - v2)) : Nat) : Int)) v3 v4 (Option (i_TableOk_L1_sh.T ⊕ WT i_TableOk_L1_es)) none (fun v' => some (Sum.inl v')) (fun w => some (Sum.inr w)) = _
      unfold i_TableOk_L1_B
      exact bifN (by simp only [decide_eq_false_iff_not]; omega) rfl)
def i_TableOk_N (x0 : Tabl) (x1 : Limi) (γ : Type) (fail : γ) (k : Bool → γ) : γ :=
  letK (α := Bool) (i_LimitsOk x1) fun c1 =>
  bif (!c1) then
    k false
  else
  bif (decide (x1.conns < (x0.conns.length : Int))) then
    k false
  else
  bif (decide (x1.waiting < (x0.waiting.length : Int))) then
    k false
  else
  optK (loopF i_TableOk_L0_r.step (i_TableOk_L0_fu x0.conns (x0.conns.length : Int) 0 x0.conns x0.waiting) (i_TableOk_L0_mk x0.conns (x0.conns.length : Int) 0 x0.conns x0.waiting)) fail fun w4 =>
    Sum.elim (fun w4 =>
      k w4.1.2.1.1)
    (fun w4 =>
      optK (loopF i_TableOk_L1_r.step (i_TableOk_L1_fu w4.2.1.2.1 (w4.2.1.2.1.length : Int) 0 w4.2.1.1 w4.2.1.2.1) (i_TableOk_L1_mk w4.2.1.2.1 (w4.2.1.2.1.length : Int) 0 w4.2.1.1 w4.2.1.2.1)) fail fun w7 =>
        Sum.elim (fun w7 =>
          k w7.1.1.1)
        (fun w7 =>
          k true) w7) w4
def i_TableOk (x0 : Tabl) (x1 : Limi) : Bool :=
  letK (α := Bool) (i_LimitsOk x1) fun c1 =>
  bif (!c1) then
    false
  else
  bif (decide (x1.conns < (x0.conns.length : Int))) then
    false
  else
  bif (decide (x1.waiting < (x0.waiting.length : Int))) then
    false
  else
  Stp.elim (fun a9 =>
    Stp.elim (fun a11 =>
      true)
      (fun p11 =>
        false)
      (forN (i_TableOk_L1_f x0.waiting (x0.waiting.length : Int) x0.conns x0.waiting) 1 (Int.toNat ((x0.waiting.length : Int) - 0)) 0 ()))
    (fun p9 =>
      false)
    (forN (i_TableOk_L0_f x0.conns (x0.conns.length : Int) x0.conns x0.waiting) 1 (Int.toNat ((x0.conns.length : Int) - 0)) 0 ())
theorem i_TableOk_lk (x0 : Tabl) (x1 : Limi) : evalFn te (orcOf (P := Tryz.prog) [i_LimitsOk_e, i_ConnOk_e, i_FindConn_e, g_Index_Tuple_e]) (lorcOf [i_TableOk_L0_le, i_TableOk_L1_le]) i_TableOk_ann Tryz.f38 (pvs [.st .tabl, .st .limi] (x0, x1, ())) =
  i_TableOk_N x0 x1 _ none (fun v => some [(false, [RC.c (.bool v)])]) := by kernel_rfl
theorem i_TableOk_p (x0 : Tabl) (x1 : Limi) (hx0_conns : x0.conns.length ≤ 140737488355328) (hx0_conns_e : ∀ y ∈ x0.conns, ∀ c ∈ Ty.cells .conn y, FactC c) (hx0_waiting : x0.waiting.length ≤ 140737488355328) (hx1_halves : inK .i64 x1.halves) (hx1_waiting : inK .i64 x1.waiting) (hx1_conns : inK .i64 x1.conns) (hx1_chal : inK .i64 x1.chal)  (γ : Type) (fail : γ) (k : Bool → γ) : i_TableOk_N x0 x1 γ fail k = k (i_TableOk x0 x1) := by
  unfold i_TableOk_N i_TableOk
  exact letT (f := k) (fun c1 hc1 => bifT (f := k) (fun b0 => rfl)
      (fun b0 => bifT (f := k) (fun b1 => rfl)
      (fun b1 => bifT (f := k) (fun b2 => rfl)
      (fun b2 => loopT (f := k) (i_TableOk_L0_cl x0.conns (x0.conns.length : Int) 0 x0.conns x0.waiting (by (try simp only [Nat.ble_eq, Bool.and_eq_true, decide_eq_true_eq, i_TableOk_L0_mx0, i_TableOk_L0_mx1, i_TableOk_L1_mx0, i_TableOk_L1_mx1]); grind [maxSl, maxStr, toBytes_length, toInts_length, List.length_set, wrap64]) (by (try simp only [Nat.ble_eq, Bool.and_eq_true, decide_eq_true_eq, i_TableOk_L0_mx0, i_TableOk_L0_mx1, i_TableOk_L1_mx0, i_TableOk_L1_mx1]); grind [maxSl, maxStr, toBytes_length, toInts_length, List.length_set, wrap64]) (by (try simp only [Nat.ble_eq, Bool.and_eq_true, decide_eq_true_eq, i_TableOk_L0_mx0, i_TableOk_L0_mx1, i_TableOk_L1_mx0, i_TableOk_L1_mx1]); grind [maxSl, maxStr, toBytes_length, toInts_length, List.length_set, wrap64])) (fun a9 => loopT (f := k) (i_TableOk_L1_cl x0.waiting (x0.waiting.length : Int) 0 x0.conns x0.waiting (by (try simp only [Nat.ble_eq, Bool.and_eq_true, decide_eq_true_eq, i_TableOk_L0_mx0, i_TableOk_L0_mx1, i_TableOk_L1_mx0, i_TableOk_L1_mx1]); grind [maxSl, maxStr, toBytes_length, toInts_length, List.length_set, wrap64]) (by (try simp only [Nat.ble_eq, Bool.and_eq_true, decide_eq_true_eq, i_TableOk_L0_mx0, i_TableOk_L0_mx1, i_TableOk_L1_mx0, i_TableOk_L1_mx1]); grind [maxSl, maxStr, toBytes_length, toInts_length, List.length_set, wrap64]) (by (try simp only [Nat.ble_eq, Bool.and_eq_true, decide_eq_true_eq, i_TableOk_L0_mx0, i_TableOk_L0_mx1, i_TableOk_L1_mx0, i_TableOk_L1_mx1]); grind [maxSl, maxStr, toBytes_length, toInts_length, List.length_set, wrap64])) (fun a11 => rfl)
      (fun p11 => rfl))
      (fun p9 => rfl)))))
theorem i_TableOk_c (x0 : Tabl) (x1 : Limi)  : Con Tryz.prog 38 (pvs [.st .tabl, .st .limi] (x0, x1, ())) [rv (.sc .bool) [] (i_TableOk x0 x1)] := by
  refine Con.of_facts (enters_of Tryz.func38 rfl (by kernel_rfl)) fun hf => ?_
  replace hf := factAt hf
  exact evalFn_conL teFact mixFact (orcOf_ok _) Tryz.func38 (by kernel_rfl) (bs := [0, 2]) (by kernel_rfl) (by kernel_rfl) (fun w0 mo I0 hmo => ⟨lsem_of_lorc (i_TableOk_L0_ls w0 mo I0 hmo) (by kernel_rfl), lsem_of_lorc (i_TableOk_L1_ls w0 mo I0 hmo) (by kernel_rfl), trivial⟩) ((i_TableOk_lk x0 x1).trans (i_TableOk_p x0 x1 ((hf 0 0 rfl rfl).len) (fun y hy => (hf 0 0 rfl rfl).elem hy) ((hf 0 1 rfl rfl).len) ((hf 1 0 rfl rfl).rng) ((hf 1 1 rfl rfl).rng) ((hf 1 2 rfl rfl).rng) ((hf 1 3 rfl rfl).rng) _ _ _))
noncomputable def i_TableOk_e : Ent1 Tryz.prog := entA 38 [.st .tabl, .st .limi] (fun x => (i_TableOk x.1 x.2.1)) (fun v => [rv (.sc .bool) [] v]) (fun x => i_TableOk_c x.1 x.2.1)


/-- impl.HalvesOk -/
def i_HalvesOk_ann : List (Nat × Keep) := [(0, ⟨[0, 8, 9, 10], [], false, 0⟩)]
def i_HalvesOk_L0_sh : Sh := ⟨[(0, false, [.sl .arg .half]), (8, false, [.sl .arg .half]), (9, false, [.int .i64]), (10, false, [.int .i64])], []⟩
def i_HalvesOk_L0_es : List (Ex × Sh) := [(.ret, ⟨[(2, false, [.bool])], []⟩), (.exit 0, ⟨[(2, false, [.undef])], []⟩)]
def i_HalvesOk_L0_mk (v0 : List Half) (v1 : List Half) (v2 : Int) (v3 : Int) : i_HalvesOk_L0_sh.T := (((v0, ()), ((v1, ()), ((v2, ()), ((v3, ()), ())))), ())
def i_HalvesOk_L0_mx0 (y0 : Bool) : Sh.T ⟨[(2, false, [.bool])], []⟩ := (((y0, ()), ()), ())
def i_HalvesOk_L0_mx1  : Sh.T ⟨[(2, false, [.undef])], []⟩ := ((((), ()), ()), ())
def i_HalvesOk_L0_B (v0 : List Half) (v1 : List Half) (v2 : Int) (v3 : Int) (γ : Type) (fail : γ) (next : i_HalvesOk_L0_sh.T → γ) (out : WT i_HalvesOk_L0_es → γ) : γ :=
  bif (decide (v3 < v2)) then
    bif ((decide (0 ≤ v3)) && (decide (v3 < (v1.length : Int)))) then
    letK (α := Bool) (i_TupleOk ((v1.getD v3.toNat (Ty.zero .half)).tuple)) fun c1 =>
    bif (!c1) then
      out (Sum.inl (i_HalvesOk_L0_mx0 false))
    else
    letK (α := Bool) (i_WordOk ((v1.getD v3.toNat (Ty.zero .half)).iss) 32) fun c2 =>
    bif (!c2) then
      out (Sum.inl (i_HalvesOk_L0_mx0 false))
    else
    letK (α := Bool) (i_WordOk ((v1.getD v3.toNat (Ty.zero .half)).irs) 32) fun c3 =>
    bif (!c3) then
      out (Sum.inl (i_HalvesOk_L0_mx0 false))
    else
    letK (α := Bool) (i_WordOk ((v1.getD v3.toNat (Ty.zero .half)).window) 16) fun c4 =>
    bif (!c4) then
      out (Sum.inl (i_HalvesOk_L0_mx0 false))
    else
    letK (α := Bool) (i_OptionsOk ((v1.getD v3.toNat (Ty.zero .half)).opts)) fun c5 =>
    bif (!c5) then
      out (Sum.inl (i_HalvesOk_L0_mx0 false))
    else
    letK (α := Bool) (i_within ((v1.getD v3.toNat (Ty.zero .half)).age) 0 6) fun c6 =>
    bif (!c6) then
      out (Sum.inl (i_HalvesOk_L0_mx0 false))
    else
    letK (α := Int) (i_FindHalf v0 ((v1.getD v3.toNat (Ty.zero .half)).tuple)) fun c7 =>
    bif (c7 != v3) then
      out (Sum.inl (i_HalvesOk_L0_mx0 false))
    else
    next (i_HalvesOk_L0_mk v0 v1 v2 (IntKind.wrap .i64 (v3 + 1)))
    else fail
  else
  out (Sum.inr (i_HalvesOk_L0_mx1 ))
theorem i_HalvesOk_L0_par (v0 : List Half) (v1 : List Half) (v2 : Int) (v3 : Int) (γ : Type) (fail : γ) (next : i_HalvesOk_L0_sh.T → γ) (out : WT i_HalvesOk_L0_es → γ) : i_HalvesOk_L0_B v0 v1 v2 v3 γ fail next out = optK (i_HalvesOk_L0_B v0 v1 v2 v3 _ none (fun v' => some (.inl v')) (fun w => some (.inr w))) fail (fun r => Sum.elim next out r) := by
  unfold i_HalvesOk_L0_B
  exact bifT (f := (fun o => optK o fail (fun r => Sum.elim next out r))) (fun _ => bifT (f := (fun o => optK o fail (fun r => Sum.elim next out r))) (fun _ => letT (f := (fun o => optK o fail (fun r => Sum.elim next out r))) (fun c1 _ => bifT (f := (fun o => optK o fail (fun r => Sum.elim next out r))) (fun _ => rfl)
      (fun _ => letT (f := (fun o => optK o fail (fun r => Sum.elim next out r))) (fun c2 _ => bifT (f := (fun o => optK o fail (fun r => Sum.elim next out r))) (fun _ => rfl)
      (fun _ => letT (f := (fun o => optK o fail (fun r => Sum.elim next out r))) (fun c3 _ => bifT (f := (fun o => optK o fail (fun r => Sum.elim next out r))) (fun _ => rfl)
      (fun _ => letT (f := (fun o => optK o fail (fun r => Sum.elim next out r))) (fun c4 _ => bifT (f := (fun o => optK o fail (fun r => Sum.elim next out r))) (fun _ => rfl)
      (fun _ => letT (f := (fun o => optK o fail (fun r => Sum.elim next out r))) (fun c5 _ => bifT (f := (fun o => optK o fail (fun r => Sum.elim next out r))) (fun _ => rfl)
      (fun _ => letT (f := (fun o => optK o fail (fun r => Sum.elim next out r))) (fun c6 _ => bifT (f := (fun o => optK o fail (fun r => Sum.elim next out r))) (fun _ => rfl)
      (fun _ => letT (f := (fun o => optK o fail (fun r => Sum.elim next out r))) (fun c7 _ => bifT (f := (fun o => optK o fail (fun r => Sum.elim next out r))) (fun _ => rfl)
      (fun _ => rfl))))))))))))))) (fun _ => rfl))
      (fun _ => rfl)
def i_HalvesOk_L0_r : Round i_HalvesOk_L0_sh.T (WT i_HalvesOk_L0_es) where
  B v γ fail next out := i_HalvesOk_L0_B v.1.1.1 v.1.2.1.1 v.1.2.2.1.1 v.1.2.2.2.1.1 γ fail next out
  par v γ fail next out := i_HalvesOk_L0_par v.1.1.1 v.1.2.1.1 v.1.2.2.1.1 v.1.2.2.2.1.1 γ fail next out
def i_HalvesOk_L0_fu (v0 : List Half) (v1 : List Half) (v2 : Int) (v3 : Int) : Nat := (Int.toNat (v2 - v3)) + 1
theorem i_HalvesOk_L0_lk (v : i_HalvesOk_L0_sh.T) (next : St → Option Res) (k : Ex → St → Option Res) : evalK te (orcOf (P := Tryz.prog) [i_TupleOk_e, i_WordOk_e, i_OptionsOk_e, i_within_e, i_FindHalf_e]) (lorcOf []) Tryz.f39.ntmps i_HalvesOk_ann (nthLoop (bodyOf Tryz.f39) 0 0) 0 (i_HalvesOk_L0_sh.enc v) (endK ⟨[0, 8, 9, 10], [], false, 0⟩ ⟨[2], [], false, 0⟩ next k) =
  i_HalvesOk_L0_r.B v _ none (fun v' => next (i_HalvesOk_L0_sh.enc v')) (fun w => outK i_HalvesOk_L0_es k w) := by kernel_rfl
def i_HalvesOk_L0_le : LE := leOf 0 i_HalvesOk_L0_sh i_HalvesOk_L0_es i_HalvesOk_L0_r.step (fun v => i_HalvesOk_L0_fu v.1.1.1 v.1.2.1.1 v.1.2.2.1.1 v.1.2.2.2.1.1)
theorem i_HalvesOk_L0_ls (w0 : World) (mo : Mts) (I0 : Nat → Prop) (hmo : mo.length = 0) : LSem Tryz.prog (Sim w0 mo Tryz.f39.ntmps I0) (fun b s k => match Nat.beq 0 b with | true => i_HalvesOk_L0_le.run s k | false => none) 0 (nthLoop (bodyOf Tryz.f39) 0 0) :=
  le_sem hmo (lorc := lorcOf []) (ann := i_HalvesOk_ann) (keep := ⟨[0, 8, 9, 10], [], false, 0⟩) (kout := ⟨[2], [], false, 0⟩) teFact mixFact (orcOf_ok _) (by kernel_rfl) (allLoops_of (bs := []) (by kernel_rfl) trivial) i_HalvesOk_L0_r _ i_HalvesOk_L0_lk
def i_HalvesOk_L0_f (v0 : List Half) (v1 : List Half) (v2 : Int) (v3 : Int) (a : Unit) : Stp (Unit) ((Unit)) :=
  letK (α := Bool) (i_TupleOk ((v1.getD v3.toNat (Ty.zero .half)).tuple)) fun c1 =>
  bif (!c1) then
    .out (())
  else
  letK (α := Bool) (i_WordOk ((v1.getD v3.toNat (Ty.zero .half)).iss) 32) fun c2 =>
  bif (!c2) then
    .out (())
  else
  letK (α := Bool) (i_WordOk ((v1.getD v3.toNat (Ty.zero .half)).irs) 32) fun c3 =>
  bif (!c3) then
    .out (())
  else
  letK (α := Bool) (i_WordOk ((v1.getD v3.toNat (Ty.zero .half)).window) 16) fun c4 =>
  bif (!c4) then
    .out (())
  else
  letK (α := Bool) (i_OptionsOk ((v1.getD v3.toNat (Ty.zero .half)).opts)) fun c5 =>
  bif (!c5) then
    .out (())
  else
  letK (α := Bool) (i_within ((v1.getD v3.toNat (Ty.zero .half)).age) 0 6) fun c6 =>
  bif (!c6) then
    .out (())
  else
  letK (α := Int) (i_FindHalf v0 ((v1.getD v3.toNat (Ty.zero .half)).tuple)) fun c7 =>
  bif (c7 != v3) then
    .out (())
  else
  .next ()
theorem i_HalvesOk_L0_st (v0 : List Half) (v1 : List Half) (v2 : Int) (v3 : Int) (hlo : 0 ≤ v3) (hhi : v3 < v2) (hN : v2 ≤ 4611686018427387904) (hi0 : v2 ≤ (v1.length : Int)) : i_HalvesOk_L0_r.step (i_HalvesOk_L0_mk v0 v1 v2 v3) = Stp.elim (fun a' : Unit => some (Sum.inl (i_HalvesOk_L0_mk v0 v1 v2 (v3 + 1)))) (fun w => some (Sum.inr ((fun p : Unit => Sum.inl (i_HalvesOk_L0_mx0 false)) w))) (i_HalvesOk_L0_f v0 v1 v2 v3 ()) := by
  have hw : (IntKind.wrap .i64 (v3 + 1)) = v3 + 1 := wrap64 (by omega) (by omega)
  show i_HalvesOk_L0_B v0 v1 v2 v3 (Option (i_HalvesOk_L0_sh.T ⊕ WT i_HalvesOk_L0_es)) none (fun v' => some (Sum.inl v')) (fun w => some (Sum.inr w)) = _
  unfold i_HalvesOk_L0_B i_HalvesOk_L0_f
  exact bifG (by simp only [decide_eq_true_eq]; omega) (bifG (by (try simp only [Nat.ble_eq, Bool.and_eq_true, decide_eq_true_eq]); grind [maxSl, maxStr, toBytes_length, toInts_length, List.length_set, wrap64]) (letT (f := (Stp.elim (fun a' : Unit => some (Sum.inl (i_HalvesOk_L0_mk v0 v1 v2 (v3 + 1)))) (fun w => some (Sum.inr ((fun p : Unit => Sum.inl (i_HalvesOk_L0_mx0 false)) w))))) (fun c1 hc1 => bifT (f := (Stp.elim (fun a' : Unit => some (Sum.inl (i_HalvesOk_L0_mk v0 v1 v2 (v3 + 1)))) (fun w => some (Sum.inr ((fun p : Unit => Sum.inl (i_HalvesOk_L0_mx0 false)) w))))) (fun b0 => rfl)
      (fun b0 => letT (f := (Stp.elim (fun a' : Unit => some (Sum.inl (i_HalvesOk_L0_mk v0 v1 v2 (v3 + 1)))) (fun w => some (Sum.inr ((fun p : Unit => Sum.inl (i_HalvesOk_L0_mx0 false)) w))))) (fun c2 hc2 => bifT (f := (Stp.elim (fun a' : Unit => some (Sum.inl (i_HalvesOk_L0_mk v0 v1 v2 (v3 + 1)))) (fun w => some (Sum.inr ((fun p : Unit => Sum.inl (i_HalvesOk_L0_mx0 false)) w))))) (fun b1 => rfl)
      (fun b1 => letT (f := (Stp.elim (fun a' : Unit => some (Sum.inl (i_HalvesOk_L0_mk v0 v1 v2 (v3 + 1)))) (fun w => some (Sum.inr ((fun p : Unit => Sum.inl (i_HalvesOk_L0_mx0 false)) w))))) (fun c3 hc3 => bifT (f := (Stp.elim (fun a' : Unit => some (Sum.inl (i_HalvesOk_L0_mk v0 v1 v2 (v3 + 1)))) (fun w => some (Sum.inr ((fun p : Unit => Sum.inl (i_HalvesOk_L0_mx0 false)) w))))) (fun b2 => rfl)
      (fun b2 => letT (f := (Stp.elim (fun a' : Unit => some (Sum.inl (i_HalvesOk_L0_mk v0 v1 v2 (v3 + 1)))) (fun w => some (Sum.inr ((fun p : Unit => Sum.inl (i_HalvesOk_L0_mx0 false)) w))))) (fun c4 hc4 => bifT (f := (Stp.elim (fun a' : Unit => some (Sum.inl (i_HalvesOk_L0_mk v0 v1 v2 (v3 + 1)))) (fun w => some (Sum.inr ((fun p : Unit => Sum.inl (i_HalvesOk_L0_mx0 false)) w))))) (fun b3 => rfl)
      (fun b3 => letT (f := (Stp.elim (fun a' : Unit => some (Sum.inl (i_HalvesOk_L0_mk v0 v1 v2 (v3 + 1)))) (fun w => some (Sum.inr ((fun p : Unit => Sum.inl (i_HalvesOk_L0_mx0 false)) w))))) (fun c5 hc5 => bifT (f := (Stp.elim (fun a' : Unit => some (Sum.inl (i_HalvesOk_L0_mk v0 v1 v2 (v3 + 1)))) (fun w => some (Sum.inr ((fun p : Unit => Sum.inl (i_HalvesOk_L0_mx0 false)) w))))) (fun b4 => rfl)
      (fun b4 => letT (f := (Stp.elim (fun a' : Unit => some (Sum.inl (i_HalvesOk_L0_mk v0 v1 v2 (v3 + 1)))) (fun w => some (Sum.inr ((fun p : Unit => Sum.inl (i_HalvesOk_L0_mx0 false)) w))))) (fun c6 hc6 => bifT (f := (Stp.elim (fun a' : Unit => some (Sum.inl (i_HalvesOk_L0_mk v0 v1 v2 (v3 + 1)))) (fun w => some (Sum.inr ((fun p : Unit => Sum.inl (i_HalvesOk_L0_mx0 false)) w))))) (fun b5 => rfl)
      (fun b5 => letT (f := (Stp.elim (fun a' : Unit => some (Sum.inl (i_HalvesOk_L0_mk v0 v1 v2 (v3 + 1)))) (fun w => some (Sum.inr ((fun p : Unit => Sum.inl (i_HalvesOk_L0_mx0 false)) w))))) (fun c7 hc7 => bifT (f := (Stp.elim (fun a' : Unit => some (Sum.inl (i_HalvesOk_L0_mk v0 v1 v2 (v3 + 1)))) (fun w => some (Sum.inr ((fun p : Unit => Sum.inl (i_HalvesOk_L0_mx0 false)) w))))) (fun b6 => rfl)
      (fun b6 => (by exact congrArg (fun z => some (Sum.inl (i_HalvesOk_L0_mk v0 v1 v2 z))) hw)))))))))))))))))
theorem i_HalvesOk_L0_cl (v0 : List Half) (v1 : List Half) (v2 : Int) (v3 : Int) (h0 : 0 ≤ v3) (h1 : v2 ≤ 4611686018427387904) (h2 : v2 ≤ (v1.length : Int)) : loopF i_HalvesOk_L0_r.step (i_HalvesOk_L0_fu v0 v1 v2 v3) (i_HalvesOk_L0_mk v0 v1 v2 v3) = some (Stp.elim (fun a => (fun i a => Sum.inr (i_HalvesOk_L0_mx1 )) (v3 + 1 * (((Int.toNat (v2 - v3)) : Nat) : Int)) a) (fun p : Unit => Sum.inl (i_HalvesOk_L0_mx0 false)) (forN (i_HalvesOk_L0_f v0 v1 v2) 1 (Int.toNat (v2 - v3)) v3 ())) :=
  forN_loop (step := i_HalvesOk_L0_r.step) (mk := fun v3 a => i_HalvesOk_L0_mk v0 v1 v2 v3) (f := i_HalvesOk_L0_f v0 v1 v2) (e := (fun i a => Sum.inr (i_HalvesOk_L0_mx1 ))) (emb := (fun p : Unit => Sum.inl (i_HalvesOk_L0_mx0 false))) (st := 1) (Inv := fun v3 a => True) (Int.toNat (v2 - v3)) v3 () _ (Nat.lt_succ_self _) trivial
    (fun j a hj hv => ⟨i_HalvesOk_L0_st v0 v1 v2 (v3 + 1 * (j : Int)) (by omega) (by omega) (by omega) h2, fun _ _ => trivial⟩)
    (fun a hv => by
      show i_HalvesOk_L0_B v0 v1 v2 (v3 + 1 * (((Int.toNat (v2 - v3)) : Nat) : Int)) (Option (i_HalvesOk_L0_sh.T ⊕ WT i_HalvesOk_L0_es)) none (fun v' => some (Sum.inl v')) (fun w => some (Sum.inr w)) = _
      unfold i_HalvesOk_L0_B
      exact bifN (by simp only [decide_eq_false_iff_not]; omega) rfl)
def i_HalvesOk_N (x0 : List Half) (γ : Type) (fail : γ) (k : Bool → γ) : γ :=
  bif (decide (64 < (x0.length : Int))) then
    k false
  else
  optK (loopF i_HalvesOk_L0_r.step (i_HalvesOk_L0_fu x0 x0 (x0.length : Int) 0) (i_HalvesOk_L0_mk x0 x0 (x0.length : Int) 0)) fail fun w8 =>
    Sum.elim (fun w8 =>
      k w8.1.1.1)
    (fun w8 =>
      k true) w8
def i_HalvesOk (x0 : List Half) : Bool :=
  bif (decide (64 < (x0.length : Int))) then
    false
  else
  Stp.elim (fun a9 =>
    true)
    (fun p9 =>
      false)
    (forN (i_HalvesOk_L0_f x0 x0 (x0.length : Int)) 1 (Int.toNat ((x0.length : Int) - 0)) 0 ())
theorem i_HalvesOk_lk (x0 : List Half) : evalFn te (orcOf (P := Tryz.prog) [i_TupleOk_e, i_WordOk_e, i_OptionsOk_e, i_within_e, i_FindHalf_e]) (lorcOf [i_HalvesOk_L0_le]) i_HalvesOk_ann Tryz.f39 (pvs [.sc (.sl .half)] (x0, ())) =
  i_HalvesOk_N x0 _ none (fun v => some [(false, [RC.c (.bool v)])]) := by kernel_rfl
theorem i_HalvesOk_p (x0 : List Half) (hx0 : x0.length ≤ 140737488355328)  (γ : Type) (fail : γ) (k : Bool → γ) : i_HalvesOk_N x0 γ fail k = k (i_HalvesOk x0) := by
  unfold i_HalvesOk_N i_HalvesOk
  exact bifT (f := k) (fun b0 => rfl)
      (fun b0 => loopT (f := k) (i_HalvesOk_L0_cl x0 x0 (x0.length : Int) 0 (by (try simp only [Nat.ble_eq, Bool.and_eq_true, decide_eq_true_eq, i_HalvesOk_L0_mx0, i_HalvesOk_L0_mx1]); grind [maxSl, maxStr, toBytes_length, toInts_length, List.length_set, wrap64]) (by (try simp only [Nat.ble_eq, Bool.and_eq_true, decide_eq_true_eq, i_HalvesOk_L0_mx0, i_HalvesOk_L0_mx1]); grind [maxSl, maxStr, toBytes_length, toInts_length, List.length_set, wrap64]) (by (try simp only [Nat.ble_eq, Bool.and_eq_true, decide_eq_true_eq, i_HalvesOk_L0_mx0, i_HalvesOk_L0_mx1]); grind [maxSl, maxStr, toBytes_length, toInts_length, List.length_set, wrap64])) (fun a9 => rfl)
      (fun p9 => rfl))
theorem i_HalvesOk_c (x0 : List Half)  : Con Tryz.prog 39 (pvs [.sc (.sl .half)] (x0, ())) [rv (.sc .bool) [] (i_HalvesOk x0)] := by
  refine Con.of_facts (enters_of Tryz.func39 rfl (by kernel_rfl)) fun hf => ?_
  replace hf := factAt hf
  exact evalFn_conL teFact mixFact (orcOf_ok _) Tryz.func39 (by kernel_rfl) (bs := [0]) (by kernel_rfl) (by kernel_rfl) (fun w0 mo I0 hmo => ⟨lsem_of_lorc (i_HalvesOk_L0_ls w0 mo I0 hmo) (by kernel_rfl), trivial⟩) ((i_HalvesOk_lk x0).trans (i_HalvesOk_p x0 ((hf 0 0 rfl rfl).len) _ _ _))
noncomputable def i_HalvesOk_e : Ent1 Tryz.prog := entA 39 [.sc (.sl .half)] (fun x => (i_HalvesOk x.1)) (fun v => [rv (.sc .bool) [] v]) (fun x => i_HalvesOk_c x.1)


/-- laws.eqTable -/
def w_eqTable_N (x0 : Tabl) (x1 : Tabl) (γ : Type) (fail : γ) (k : Bool → γ) : γ :=
  letK (α := Bool) (w_eqConnS x0.conns x1.conns) fun c1 =>
  bif (!c1) then
    k false
  else
  letK (α := Bool) (w_eqTupleS x0.waiting x1.waiting) fun c2 =>
  bif (!c2) then
    k false
  else
  k true
def w_eqTable (x0 : Tabl) (x1 : Tabl) : Bool :=
  letK (α := Bool) (w_eqConnS x0.conns x1.conns) fun c1 =>
  bif (!c1) then
    false
  else
  letK (α := Bool) (w_eqTupleS x0.waiting x1.waiting) fun c2 =>
  bif (!c2) then
    false
  else
  true
theorem w_eqTable_lk (x0 : Tabl) (x1 : Tabl) : evalFn te (orcOf (P := Tryz.prog) [w_eqConnS_e, w_eqTupleS_e]) lorc0 [] Tryz.f48 (pvs [.st .tabl, .st .tabl] (x0, x1, ())) =
  w_eqTable_N x0 x1 _ none (fun v => some [(false, [RC.c (.bool v)])]) := by kernel_rfl
theorem w_eqTable_p (x0 : Tabl) (x1 : Tabl)   (γ : Type) (fail : γ) (k : Bool → γ) : w_eqTable_N x0 x1 γ fail k = k (w_eqTable x0 x1) := by
  unfold w_eqTable_N w_eqTable
  exact letT (f := k) (fun c1 hc1 => bifT (f := k) (fun b0 => rfl)
      (fun b0 => letT (f := k) (fun c2 hc2 => bifT (f := k) (fun b1 => rfl)
      (fun b1 => rfl))))
theorem w_eqTable_c (x0 : Tabl) (x1 : Tabl)  : Con Tryz.prog 48 (pvs [.st .tabl, .st .tabl] (x0, x1, ())) [rv (.sc .bool) [] (w_eqTable x0 x1)] := by
  exact evalFn_con0 teFact mixFact (orcOf_ok _) Tryz.func48 (by kernel_rfl) ((w_eqTable_lk x0 x1).trans (w_eqTable_p x0 x1  _ _ _))
noncomputable def w_eqTable_e : Ent1 Tryz.prog := entA 48 [.st .tabl, .st .tabl] (fun x => (w_eqTable x.1 x.2.1)) (fun v => [rv (.sc .bool) [] v]) (fun x => w_eqTable_c x.1 x.2.1)


/-- slices.IndexFunc[[]impl.MacRow,impl.MacRow] -/
def g_IndexFunc_MacRow_i_MacOk_1_ann : List (Nat × Keep) := [(0, ⟨[0, 1, 7, 8], [], false, 1⟩)]
def g_IndexFunc_MacRow_i_MacOk_1_L0_sh : Sh := ⟨[(0, false, [.sl .arg .macRow]), (1, false, [.fn 93 [0]]), (7, false, [.int .i64]), (8, false, [.int .i64])], [.box [.str, .int .i64]]⟩
def g_IndexFunc_MacRow_i_MacOk_1_L0_es : List (Ex × Sh) := [(.ret, ⟨[(4, false, [.int .i64])], [.box [.str, .int .i64]]⟩), (.exit 0, ⟨[(4, false, [.undef])], [.box [.str, .int .i64]]⟩)]
def g_IndexFunc_MacRow_i_MacOk_1_L0_mk (v0 : List MacRow) (v1 : Int) (v2 : Int) (v3 : Bytes) (v4 : Int) : g_IndexFunc_MacRow_i_MacOk_1_L0_sh.T := (((v0, ()), (((), ()), ((v1, ()), ((v2, ()), ())))), ((v3, (v4, ())), ()))
def g_IndexFunc_MacRow_i_MacOk_1_L0_mx0 (y0 : Int) (y1 : Bytes) (y2 : Int) : Sh.T ⟨[(4, false, [.int .i64])], [.box [.str, .int .i64]]⟩ := (((y0, ()), ()), ((y1, (y2, ())), ()))
def g_IndexFunc_MacRow_i_MacOk_1_L0_mx1 (y0 : Bytes) (y1 : Int) : Sh.T ⟨[(4, false, [.undef])], [.box [.str, .int .i64]]⟩ := ((((), ()), ()), ((y0, (y1, ())), ()))
def g_IndexFunc_MacRow_i_MacOk_1_L0_B (v0 : List MacRow) (v1 : Int) (v2 : Int) (v3 : Bytes) (v4 : Int) (γ : Type) (fail : γ) (next : g_IndexFunc_MacRow_i_MacOk_1_L0_sh.T → γ) (out : WT g_IndexFunc_MacRow_i_MacOk_1_L0_es → γ) : γ :=
  bif (decide (v2 < v1)) then
    bif ((decide (0 ≤ v2)) && (decide (v2 < (v0.length : Int)))) then
    letK (α := Bool) (i_MacOk_1 (v0.getD v2.toNat (Ty.zero .macRow)) (⟨v3, v4⟩ : MacRow)) fun c1 =>
    bif c1 then
      out (Sum.inl (g_IndexFunc_MacRow_i_MacOk_1_L0_mx0 v2 v3 v4))
    else
    next (g_IndexFunc_MacRow_i_MacOk_1_L0_mk v0 v1 (IntKind.wrap .i64 (v2 + 1)) v3 v4)
    else fail
  else
  out (Sum.inr (g_IndexFunc_MacRow_i_MacOk_1_L0_mx1 v3 v4))
theorem g_IndexFunc_MacRow_i_MacOk_1_L0_par (v0 : List MacRow) (v1 : Int) (v2 : Int) (v3 : Bytes) (v4 : Int) (γ : Type) (fail : γ) (next : g_IndexFunc_MacRow_i_MacOk_1_L0_sh.T → γ) (out : WT g_IndexFunc_MacRow_i_MacOk_1_L0_es → γ) : g_IndexFunc_MacRow_i_MacOk_1_L0_B v0 v1 v2 v3 v4 γ fail next out = optK (g_IndexFunc_MacRow_i_MacOk_1_L0_B v0 v1 v2 v3 v4 _ none (fun v' => some (.inl v')) (fun w => some (.inr w))) fail (fun r => Sum.elim next out r) := by
  unfold g_IndexFunc_MacRow_i_MacOk_1_L0_B
  exact bifT (f := (fun o => optK o fail (fun r => Sum.elim next out r))) (fun _ => bifT (f := (fun o => optK o fail (fun r => Sum.elim next out r))) (fun _ => letT (f := (fun o => optK o fail (fun r => Sum.elim next out r))) (fun c1 _ => bifT (f := (fun o => optK o fail (fun r => Sum.elim next out r))) (fun _ => rfl)
      (fun _ => rfl))) (fun _ => rfl))
      (fun _ => rfl)
def g_IndexFunc_MacRow_i_MacOk_1_L0_r : Round g_IndexFunc_MacRow_i_MacOk_1_L0_sh.T (WT g_IndexFunc_MacRow_i_MacOk_1_L0_es) where
  B v γ fail next out := g_IndexFunc_MacRow_i_MacOk_1_L0_B v.1.1.1 v.1.2.2.1.1 v.1.2.2.2.1.1 v.2.1.1 v.2.1.2.1 γ fail next out
  par v γ fail next out := g_IndexFunc_MacRow_i_MacOk_1_L0_par v.1.1.1 v.1.2.2.1.1 v.1.2.2.2.1.1 v.2.1.1 v.2.1.2.1 γ fail next out
def g_IndexFunc_MacRow_i_MacOk_1_L0_fu (v0 : List MacRow) (v1 : Int) (v2 : Int) (v3 : Bytes) (v4 : Int) : Nat := (Int.toNat (v1 - v2)) + 1
theorem g_IndexFunc_MacRow_i_MacOk_1_L0_lk (v : g_IndexFunc_MacRow_i_MacOk_1_L0_sh.T) (next : St → Option Res) (k : Ex → St → Option Res) : evalK te (orcOf (P := Tryz.prog) [i_MacOk_1_e]) (lorcOf []) Tryz.f109.ntmps g_IndexFunc_MacRow_i_MacOk_1_ann (nthLoop (bodyOf Tryz.f109) 0 0) 0 (g_IndexFunc_MacRow_i_MacOk_1_L0_sh.enc v) (endK ⟨[0, 1, 7, 8], [], false, 1⟩ ⟨[4], [], false, 1⟩ next k) =
  g_IndexFunc_MacRow_i_MacOk_1_L0_r.B v _ none (fun v' => next (g_IndexFunc_MacRow_i_MacOk_1_L0_sh.enc v')) (fun w => outK g_IndexFunc_MacRow_i_MacOk_1_L0_es k w) := by kernel_rfl
def g_IndexFunc_MacRow_i_MacOk_1_L0_le : LE := leOf 0 g_IndexFunc_MacRow_i_MacOk_1_L0_sh g_IndexFunc_MacRow_i_MacOk_1_L0_es g_IndexFunc_MacRow_i_MacOk_1_L0_r.step (fun v => g_IndexFunc_MacRow_i_MacOk_1_L0_fu v.1.1.1 v.1.2.2.1.1 v.1.2.2.2.1.1 v.2.1.1 v.2.1.2.1)
theorem g_IndexFunc_MacRow_i_MacOk_1_L0_ls (w0 : World) (mo : Mts) (I0 : Nat → Prop) (hmo : mo.length = 1) : LSem Tryz.prog (Sim w0 mo Tryz.f109.ntmps I0) (fun b s k => match Nat.beq 0 b with | true => g_IndexFunc_MacRow_i_MacOk_1_L0_le.run s k | false => none) 0 (nthLoop (bodyOf Tryz.f109) 0 0) :=
  le_sem hmo (lorc := lorcOf []) (ann := g_IndexFunc_MacRow_i_MacOk_1_ann) (keep := ⟨[0, 1, 7, 8], [], false, 1⟩) (kout := ⟨[4], [], false, 1⟩) teFact mixFact (orcOf_ok _) (by kernel_rfl) (allLoops_of (bs := []) (by kernel_rfl) trivial) g_IndexFunc_MacRow_i_MacOk_1_L0_r _ g_IndexFunc_MacRow_i_MacOk_1_L0_lk
def g_IndexFunc_MacRow_i_MacOk_1_L0_f (v0 : List MacRow) (v1 : Int) (v3 : Bytes) (v4 : Int) (v2 : Int) (a : Unit) : Stp (Unit) ((Int)) :=
  letK (α := Bool) (i_MacOk_1 (v0.getD v2.toNat (Ty.zero .macRow)) (⟨v3, v4⟩ : MacRow)) fun c1 =>
  bif c1 then
    .out (v2)
  else
  .next ()
theorem g_IndexFunc_MacRow_i_MacOk_1_L0_st (v0 : List MacRow) (v1 : Int) (v2 : Int) (v3 : Bytes) (v4 : Int) (hlo : 0 ≤ v2) (hhi : v2 < v1) (hN : v1 ≤ 4611686018427387904) (hi0 : v1 ≤ (v0.length : Int)) : g_IndexFunc_MacRow_i_MacOk_1_L0_r.step (g_IndexFunc_MacRow_i_MacOk_1_L0_mk v0 v1 v2 v3 v4) = Stp.elim (fun a' : Unit => some (Sum.inl (g_IndexFunc_MacRow_i_MacOk_1_L0_mk v0 v1 (v2 + 1) v3 v4))) (fun w => some (Sum.inr ((fun p : Int => Sum.inl (g_IndexFunc_MacRow_i_MacOk_1_L0_mx0 p v3 v4)) w))) (g_IndexFunc_MacRow_i_MacOk_1_L0_f v0 v1 v3 v4 v2 ()) := by
  have hw : (IntKind.wrap .i64 (v2 + 1)) = v2 + 1 := wrap64 (by omega) (by omega)
  show g_IndexFunc_MacRow_i_MacOk_1_L0_B v0 v1 v2 v3 v4 (Option (g_IndexFunc_MacRow_i_MacOk_1_L0_sh.T ⊕ WT g_IndexFunc_MacRow_i_MacOk_1_L0_es)) none (fun v' => some (Sum.inl v')) (fun w => some (Sum.inr w)) = _
  unfold g_IndexFunc_MacRow_i_MacOk_1_L0_B g_IndexFunc_MacRow_i_MacOk_1_L0_f
  exact bifG (by simp only [decide_eq_true_eq]; omega) (bifG (by (try simp only [Nat.ble_eq, Bool.and_eq_true, decide_eq_true_eq]); grind [maxSl, maxStr, toBytes_length, toInts_length, List.length_set, wrap64]) (letT (f := (Stp.elim (fun a' : Unit => some (Sum.inl (g_IndexFunc_MacRow_i_MacOk_1_L0_mk v0 v1 (v2 + 1) v3 v4))) (fun w => some (Sum.inr ((fun p : Int => Sum.inl (g_IndexFunc_MacRow_i_MacOk_1_L0_mx0 p v3 v4)) w))))) (fun c1 hc1 => bifT (f := (Stp.elim (fun a' : Unit => some (Sum.inl (g_IndexFunc_MacRow_i_MacOk_1_L0_mk v0 v1 (v2 + 1) v3 v4))) (fun w => some (Sum.inr ((fun p : Int => Sum.inl (g_IndexFunc_MacRow_i_MacOk_1_L0_mx0 p v3 v4)) w))))) (fun b0 => rfl)
      (fun b0 => (by exact congrArg (fun z => some (Sum.inl (g_IndexFunc_MacRow_i_MacOk_1_L0_mk v0 v1 z v3 v4))) hw)))))
theorem g_IndexFunc_MacRow_i_MacOk_1_L0_cl (v0 : List MacRow) (v1 : Int) (v2 : Int) (v3 : Bytes) (v4 : Int) (h0 : 0 ≤ v2) (h1 : v1 ≤ 4611686018427387904) (h2 : v1 ≤ (v0.length : Int)) : loopF g_IndexFunc_MacRow_i_MacOk_1_L0_r.step (g_IndexFunc_MacRow_i_MacOk_1_L0_fu v0 v1 v2 v3 v4) (g_IndexFunc_MacRow_i_MacOk_1_L0_mk v0 v1 v2 v3 v4) = some (Stp.elim (fun a => (fun i a => Sum.inr (g_IndexFunc_MacRow_i_MacOk_1_L0_mx1 v3 v4)) (v2 + 1 * (((Int.toNat (v1 - v2)) : Nat) : Int)) a) (fun p : Int => Sum.inl (g_IndexFunc_MacRow_i_MacOk_1_L0_mx0 p v3 v4)) (forN (g_IndexFunc_MacRow_i_MacOk_1_L0_f v0 v1 v3 v4) 1 (Int.toNat (v1 - v2)) v2 ())) :=
  forN_loop (step := g_IndexFunc_MacRow_i_MacOk_1_L0_r.step) (mk := fun v2 a => g_IndexFunc_MacRow_i_MacOk_1_L0_mk v0 v1 v2 v3 v4) (f := g_IndexFunc_MacRow_i_MacOk_1_L0_f v0 v1 v3 v4) (e := (fun i a => Sum.inr (g_IndexFunc_MacRow_i_MacOk_1_L0_mx1 v3 v4))) (emb := (fun p : Int => Sum.inl (g_IndexFunc_MacRow_i_MacOk_1_L0_mx0 p v3 v4))) (st := 1) (Inv := fun v2 a => True) (Int.toNat (v1 - v2)) v2 () _ (Nat.lt_succ_self _) trivial
    (fun j a hj hv => ⟨g_IndexFunc_MacRow_i_MacOk_1_L0_st v0 v1 (v2 + 1 * (j : Int)) v3 v4 (by omega) (by omega) (by omega) h2, fun _ _ => trivial⟩)
    (fun a hv => by
      show g_IndexFunc_MacRow_i_MacOk_1_L0_B v0 v1 (v2 + 1 * (((Int.toNat (v1 - v2)) : Nat) : Int)) v3 v4 (Option (g_IndexFunc_MacRow_i_MacOk_1_L0_sh.T ⊕ WT g_IndexFunc_MacRow_i_MacOk_1_L0_es)) none (fun v' => some (Sum.inl v')) (fun w => some (Sum.inr w)) = _
      unfold g_IndexFunc_MacRow_i_MacOk_1_L0_B
      exact bifN (by simp only [decide_eq_false_iff_not]; omega) rfl)
def g_IndexFunc_MacRow_i_MacOk_1_N (x0 : List MacRow) (y1_0 : MacRow) (γ : Type) (fail : γ) (k : Int × MacRow → γ) : γ :=
  optK (loopF g_IndexFunc_MacRow_i_MacOk_1_L0_r.step (g_IndexFunc_MacRow_i_MacOk_1_L0_fu x0 (x0.length : Int) 0 y1_0.input y1_0.value) (g_IndexFunc_MacRow_i_MacOk_1_L0_mk x0 (x0.length : Int) 0 y1_0.input y1_0.value)) fail fun w2 =>
    Sum.elim (fun w2 =>
      k (w2.1.1.1, (⟨w2.2.1.1, w2.2.1.2.1⟩ : MacRow)))
    (fun w2 =>
      k ((-1), (⟨w2.2.1.1, w2.2.1.2.1⟩ : MacRow))) w2
def g_IndexFunc_MacRow_i_MacOk_1 (x0 : List MacRow) (y1_0 : MacRow) : Int × MacRow :=
  Stp.elim (fun a3 =>
    ((-1), y1_0))
    (fun p3 =>
      (p3, y1_0))
    (forN (g_IndexFunc_MacRow_i_MacOk_1_L0_f x0 (x0.length : Int) y1_0.input y1_0.value) 1 (Int.toNat ((x0.length : Int) - 0)) 0 ())
theorem g_IndexFunc_MacRow_i_MacOk_1_lk (x0 : List MacRow) (y1_0 : MacRow) : evalFnM te (orcOf (P := Tryz.prog) [i_MacOk_1_e]) (lorcOf [g_IndexFunc_MacRow_i_MacOk_1_L0_le]) g_IndexFunc_MacRow_i_MacOk_1_ann Tryz.f109 (pvs [.sc (.sl .macRow), .fn 93 [0]] (x0, (), ())) (mos [.box [.c .str, .c (.int .i64)]] ((y1_0.input, y1_0.value, ()), ())) =
  g_IndexFunc_MacRow_i_MacOk_1_N x0 y1_0 _ none (fun v => some ([(false, [RC.c (.int .i64 v.1)])] ++ (mos [.box [.c .str, .c (.int .i64)]] ((v.2.input, v.2.value, ()), ())).map encO)) := by kernel_rfl
theorem g_IndexFunc_MacRow_i_MacOk_1_p (x0 : List MacRow) (y1_0 : MacRow) (hx0 : x0.length ≤ 140737488355328) (hx0_e : ∀ y ∈ x0, ∀ c ∈ Ty.cells .macRow y, FactC c) (hy1_0_input : List.length y1_0.input ≤ 4611686018427387904) (hy1_0_value : inK .i64 y1_0.value)  (γ : Type) (fail : γ) (k : Int × MacRow → γ) : g_IndexFunc_MacRow_i_MacOk_1_N x0 y1_0 γ fail k = k (g_IndexFunc_MacRow_i_MacOk_1 x0 y1_0) := by
  unfold g_IndexFunc_MacRow_i_MacOk_1_N g_IndexFunc_MacRow_i_MacOk_1
  exact loopT (f := k) (g_IndexFunc_MacRow_i_MacOk_1_L0_cl x0 (x0.length : Int) 0 y1_0.input y1_0.value (by (try simp only [Nat.ble_eq, Bool.and_eq_true, decide_eq_true_eq, g_IndexFunc_MacRow_i_MacOk_1_L0_mx0, g_IndexFunc_MacRow_i_MacOk_1_L0_mx1]); grind [maxSl, maxStr, toBytes_length, toInts_length, List.length_set, wrap64]) (by (try simp only [Nat.ble_eq, Bool.and_eq_true, decide_eq_true_eq, g_IndexFunc_MacRow_i_MacOk_1_L0_mx0, g_IndexFunc_MacRow_i_MacOk_1_L0_mx1]); grind [maxSl, maxStr, toBytes_length, toInts_length, List.length_set, wrap64]) (by (try simp only [Nat.ble_eq, Bool.and_eq_true, decide_eq_true_eq, g_IndexFunc_MacRow_i_MacOk_1_L0_mx0, g_IndexFunc_MacRow_i_MacOk_1_L0_mx1]); grind [maxSl, maxStr, toBytes_length, toInts_length, List.length_set, wrap64])) (fun a3 => rfl)
      (fun p3 => rfl)
theorem g_IndexFunc_MacRow_i_MacOk_1_c (x0 : List MacRow) (y1_0 : MacRow)  : ConM Tryz.prog 109 (pvs [.sc (.sl .macRow), .fn 93 [0]] (x0, (), ())) (mos [.box [.c .str, .c (.int .i64)]] ((y1_0.input, y1_0.value, ()), ())) [rv (.sc (.int .i64)) [] (g_IndexFunc_MacRow_i_MacOk_1 x0 y1_0).1] (mos [.box [.c .str, .c (.int .i64)]] ((((g_IndexFunc_MacRow_i_MacOk_1 x0 y1_0).2).input, ((g_IndexFunc_MacRow_i_MacOk_1 x0 y1_0).2).value, ()), ())) := by
  refine ConM.of_facts (enters_of Tryz.func109 rfl (by kernel_rfl)) fun hf hg => ?_
  replace hf := factAt hf
  exact evalFn_conLM teFact mixFact (orcOf_ok _) Tryz.func109 (by kernel_rfl) (bs := [0]) (by kernel_rfl) (by kernel_rfl) (by kernel_rfl) rfl (fun w0 mo I0 hmo => ⟨lsem_of_lorc (g_IndexFunc_MacRow_i_MacOk_1_L0_ls w0 mo I0 hmo) (by kernel_rfl), trivial⟩) ((g_IndexFunc_MacRow_i_MacOk_1_lk x0 y1_0).trans (g_IndexFunc_MacRow_i_MacOk_1_p x0 y1_0 ((hf 0 0 rfl rfl).len) (fun y hy => (hf 0 0 rfl rfl).elem hy) ((mbAt hg 0 0 rfl rfl).slen) ((mbAt hg 0 1 rfl rfl).rng) _ _ _))
noncomputable def g_IndexFunc_MacRow_i_MacOk_1_e : Ent1 Tryz.prog := entM 109 [.sc (.sl .macRow), .fn 93 [0]] [.box [.c .str, .c (.int .i64)]] (fun x y => true) (fun x y => (g_IndexFunc_MacRow_i_MacOk_1 x.1 (⟨y.1.1, y.1.2.1⟩ : MacRow))) (fun v => [rv (.sc (.int .i64)) [] v.1]) (fun x y v => (mos [.box [.c .str, .c (.int .i64)]] ((v.2.input, v.2.value, ()), ()))) (fun x y hx => g_IndexFunc_MacRow_i_MacOk_1_c x.1 (⟨y.1.1, y.1.2.1⟩ : MacRow))


/-- slices.ContainsFunc[[]impl.MacRow,impl.MacRow] -/
def g_ContainsFunc_MacRow_i_MacOk_1_N (x0 : List MacRow) (y1_0 : MacRow) (γ : Type) (fail : γ) (k : Bool × MacRow → γ) : γ :=
  letK (α := Int × MacRow) (g_IndexFunc_MacRow_i_MacOk_1 x0 y1_0) fun c1 =>
  k ((decide (0 ≤ c1.1)), c1.2)
def g_ContainsFunc_MacRow_i_MacOk_1 (x0 : List MacRow) (y1_0 : MacRow) : Bool × MacRow :=
  letK (α := Int × MacRow) (g_IndexFunc_MacRow_i_MacOk_1 x0 y1_0) fun c1 =>
  ((decide (0 ≤ c1.1)), c1.2)
theorem g_ContainsFunc_MacRow_i_MacOk_1_lk (x0 : List MacRow) (y1_0 : MacRow) : evalFnM te (orcOf (P := Tryz.prog) [g_IndexFunc_MacRow_i_MacOk_1_e]) lorc0 [] Tryz.f92 (pvs [.sc (.sl .macRow), .fn 93 [0]] (x0, (), ())) (mos [.box [.c .str, .c (.int .i64)]] ((y1_0.input, y1_0.value, ()), ())) =
  g_ContainsFunc_MacRow_i_MacOk_1_N x0 y1_0 _ none (fun v => some ([(false, [RC.c (.bool v.1)])] ++ (mos [.box [.c .str, .c (.int .i64)]] ((v.2.input, v.2.value, ()), ())).map encO)) := by kernel_rfl
theorem g_ContainsFunc_MacRow_i_MacOk_1_p (x0 : List MacRow) (y1_0 : MacRow)   (γ : Type) (fail : γ) (k : Bool × MacRow → γ) : g_ContainsFunc_MacRow_i_MacOk_1_N x0 y1_0 γ fail k = k (g_ContainsFunc_MacRow_i_MacOk_1 x0 y1_0) := by
  unfold g_ContainsFunc_MacRow_i_MacOk_1_N g_ContainsFunc_MacRow_i_MacOk_1
  exact letT (f := k) (fun c1 hc1 => rfl)
theorem g_ContainsFunc_MacRow_i_MacOk_1_c (x0 : List MacRow) (y1_0 : MacRow)  : ConM Tryz.prog 92 (pvs [.sc (.sl .macRow), .fn 93 [0]] (x0, (), ())) (mos [.box [.c .str, .c (.int .i64)]] ((y1_0.input, y1_0.value, ()), ())) [rv (.sc .bool) [] (g_ContainsFunc_MacRow_i_MacOk_1 x0 y1_0).1] (mos [.box [.c .str, .c (.int .i64)]] ((((g_ContainsFunc_MacRow_i_MacOk_1 x0 y1_0).2).input, ((g_ContainsFunc_MacRow_i_MacOk_1 x0 y1_0).2).value, ()), ())) := by
  exact evalFn_conLM teFact mixFact (orcOf_ok _) Tryz.func92 (by kernel_rfl) (bs := []) (by kernel_rfl) (by kernel_rfl) (by kernel_rfl) rfl (fun w0 mo I0 hmo => trivial) ((g_ContainsFunc_MacRow_i_MacOk_1_lk x0 y1_0).trans (g_ContainsFunc_MacRow_i_MacOk_1_p x0 y1_0  _ _ _))
noncomputable def g_ContainsFunc_MacRow_i_MacOk_1_e : Ent1 Tryz.prog := entM 92 [.sc (.sl .macRow), .fn 93 [0]] [.box [.c .str, .c (.int .i64)]] (fun x y => true) (fun x y => (g_ContainsFunc_MacRow_i_MacOk_1 x.1 (⟨y.1.1, y.1.2.1⟩ : MacRow))) (fun v => [rv (.sc .bool) [] v.1]) (fun x y v => (mos [.box [.c .str, .c (.int .i64)]] ((v.2.input, v.2.value, ()), ()))) (fun x y hx => g_ContainsFunc_MacRow_i_MacOk_1_c x.1 (⟨y.1.1, y.1.2.1⟩ : MacRow))


/-- spec.StackOk -/
def s_StackOk_N (x0 : Stac) (γ : Type) (fail : γ) (k : Bool → γ) : γ :=
  letK (α := Bool) (s_LinkOk x0.link) fun c1 =>
  bif c1 then
    letK (α := Bool) (s_DoorOk x0.door) fun c2 =>
    k c2
  else
  k false
def s_StackOk (x0 : Stac) : Bool :=
  letK (α := Bool) (s_LinkOk x0.link) fun c1 =>
  bif c1 then
    letK (α := Bool) (s_DoorOk x0.door) fun c2 =>
    c2
  else
  false
theorem s_StackOk_lk (x0 : Stac) : evalFn te (orcOf (P := Tryz.prog) [s_LinkOk_e, s_DoorOk_e]) lorc0 [] Tryz.f5 (pvs [.st .stac] (x0, ())) =
  s_StackOk_N x0 _ none (fun v => some [(false, [RC.c (.bool v)])]) := by kernel_rfl
theorem s_StackOk_p (x0 : Stac)   (γ : Type) (fail : γ) (k : Bool → γ) : s_StackOk_N x0 γ fail k = k (s_StackOk x0) := by
  unfold s_StackOk_N s_StackOk
  exact letT (f := k) (fun c1 hc1 => bifT (f := k) (fun b0 => letT (f := k) (fun c2 hc2 => rfl))
      (fun b0 => rfl))
theorem s_StackOk_c (x0 : Stac)  : Con Tryz.prog 5 (pvs [.st .stac] (x0, ())) [rv (.sc .bool) [] (s_StackOk x0)] := by
  exact evalFn_con0 teFact mixFact (orcOf_ok _) Tryz.func5 (by kernel_rfl) ((s_StackOk_lk x0).trans (s_StackOk_p x0  _ _ _))
noncomputable def s_StackOk_e : Ent1 Tryz.prog := entA 5 [.st .stac] (fun x => (s_StackOk x.1)) (fun v => [rv (.sc .bool) [] v]) (fun x => s_StackOk_c x.1)


/-- laws.toDoor -/
def w_toDoor_N (x0 : Door) (γ : Type) (fail : γ) (k : Door → γ) : γ :=
  bif (decide (x0.keys.now.rows.length ≤ 4294967296 ∧ x0.keys.before.rows.length ≤ 4294967296)) then
  letK (α := Keys) (w_toKeys x0.keys) fun c1 =>
  letK (α := Limi) (w_toLimits x0.limits) fun c2 =>
  bif (decide (x0.halves.length ≤ 4294967296)) then
  letK (α := List Half) (w_toHalfS x0.halves) fun c3 =>
  bif (decide (x0.table.conns.length ≤ 4294967296 ∧ sm_conn x0.table.conns = true ∧ x0.table.waiting.length ≤ 4294967296)) then
  letK (α := Tabl) (w_toTable x0.table) fun c4 =>
  k (⟨x0.port, x0.clock, c1, c2, c3, c4, x0.chal⟩ : Door)
  else fail
  else fail
  else fail
def w_toDoor (x0 : Door) : Door :=
  letK (α := Keys) (w_toKeys x0.keys) fun c1 =>
  letK (α := Limi) (w_toLimits x0.limits) fun c2 =>
  letK (α := List Half) (w_toHalfS x0.halves) fun c3 =>
  letK (α := Tabl) (w_toTable x0.table) fun c4 =>
  (⟨x0.port, x0.clock, c1, c2, c3, c4, x0.chal⟩ : Door)
theorem w_toDoor_lk (x0 : Door) : evalFn te (orcOf (P := Tryz.prog) [w_toKeys_e, w_toLimits_e, w_toHalfS_e, w_toTable_e]) lorc0 [] Tryz.f14 (pvs [.st .door] (x0, ())) =
  w_toDoor_N x0 _ none (fun v => some [(true, [RC.c (.int .i64 v.port), RC.c (.int .i64 v.clock), RC.c (.int .i64 v.keys.epoch), RC.c (.bool v.keys.now.use), RC.c (.int .u64 v.keys.now.k), RC.c (.int .u64 v.keys.now.l), RC.own true .macRow v.keys.now.rows, RC.c (.bool v.keys.before.use), RC.c (.int .u64 v.keys.before.k), RC.c (.int .u64 v.keys.before.l), RC.own true .macRow v.keys.before.rows, RC.c (.bool v.keys.two), RC.c (.int .i64 v.limits.halves), RC.c (.int .i64 v.limits.waiting), RC.c (.int .i64 v.limits.conns), RC.c (.int .i64 v.limits.chal), RC.own true .half v.halves, RC.own true .conn v.table.conns, RC.own true .tupl v.table.waiting, RC.c (.int .i64 v.chal)])]) := by kernel_rfl
theorem w_toDoor_p (x0 : Door) (hx0_port : inK .i64 x0.port) (hx0_clock : inK .i64 x0.clock) (hx0_keys_epoch : inK .i64 x0.keys.epoch) (hx0_keys_now_k : inK .u64 x0.keys.now.k) (hx0_keys_now_l : inK .u64 x0.keys.now.l) (hx0_keys_now_rows : x0.keys.now.rows.length ≤ 140737488355328) (hx0_keys_now_rows_e : ∀ y ∈ x0.keys.now.rows, ∀ c ∈ Ty.cells .macRow y, FactC c) (hx0_keys_before_k : inK .u64 x0.keys.before.k) (hx0_keys_before_l : inK .u64 x0.keys.before.l) (hx0_keys_before_rows : x0.keys.before.rows.length ≤ 140737488355328) (hx0_keys_before_rows_e : ∀ y ∈ x0.keys.before.rows, ∀ c ∈ Ty.cells .macRow y, FactC c) (hx0_limits_halves : inK .i64 x0.limits.halves) (hx0_limits_waiting : inK .i64 x0.limits.waiting) (hx0_limits_conns : inK .i64 x0.limits.conns) (hx0_limits_chal : inK .i64 x0.limits.chal) (hx0_halves : x0.halves.length ≤ 140737488355328) (hx0_table_conns : x0.table.conns.length ≤ 140737488355328) (hx0_table_conns_e : ∀ y ∈ x0.table.conns, ∀ c ∈ Ty.cells .conn y, FactC c) (hx0_table_waiting : x0.table.waiting.length ≤ 140737488355328) (hx0_chal : inK .i64 x0.chal) (hp : x0.keys.now.rows.length ≤ 4294967296 ∧ x0.keys.before.rows.length ≤ 4294967296 ∧ x0.halves.length ≤ 4294967296 ∧ x0.table.conns.length ≤ 4294967296 ∧ sm_conn x0.table.conns = true ∧ x0.table.waiting.length ≤ 4294967296) (γ : Type) (fail : γ) (k : Door → γ) : w_toDoor_N x0 γ fail k = k (w_toDoor x0) := by
  unfold w_toDoor_N w_toDoor
  exact bifG (by (try simp only [Nat.ble_eq, Bool.and_eq_true, decide_eq_true_eq]); grind [maxSl, maxStr, toBytes_length, toInts_length, List.length_set, wrap64]) (letT (f := k) (fun c1 hc1 => letT (f := k) (fun c2 hc2 => bifG (by (try simp only [Nat.ble_eq, Bool.and_eq_true, decide_eq_true_eq]); grind [maxSl, maxStr, toBytes_length, toInts_length, List.length_set, wrap64]) (letT (f := k) (fun c3 hc3 => bifG (by (try simp only [Nat.ble_eq, Bool.and_eq_true, decide_eq_true_eq]); grind [maxSl, maxStr, toBytes_length, toInts_length, List.length_set, wrap64]) (letT (f := k) (fun c4 hc4 => rfl)))))))
theorem w_toDoor_c (x0 : Door) (hp : x0.keys.now.rows.length ≤ 4294967296 ∧ x0.keys.before.rows.length ≤ 4294967296 ∧ x0.halves.length ≤ 4294967296 ∧ x0.table.conns.length ≤ 4294967296 ∧ sm_conn x0.table.conns = true ∧ x0.table.waiting.length ≤ 4294967296) : Con Tryz.prog 14 (pvs [.st .door] (x0, ())) [rv (.st .door) [.c, .c, .c, .c, .c, .c, .o true, .c, .c, .c, .o true, .c, .c, .c, .c, .c, .o true, .o true, .o true, .c] (w_toDoor x0)] := by
  refine Con.of_facts (enters_of Tryz.func14 rfl (by kernel_rfl)) fun hf => ?_
  replace hf := factAt hf
  exact evalFn_con0 teFact mixFact (orcOf_ok _) Tryz.func14 (by kernel_rfl) ((w_toDoor_lk x0).trans (w_toDoor_p x0 ((hf 0 0 rfl rfl).rng) ((hf 0 1 rfl rfl).rng) ((hf 0 2 rfl rfl).rng) ((hf 0 4 rfl rfl).rng) ((hf 0 5 rfl rfl).rng) ((hf 0 6 rfl rfl).len) (fun y hy => (hf 0 6 rfl rfl).elem hy) ((hf 0 8 rfl rfl).rng) ((hf 0 9 rfl rfl).rng) ((hf 0 10 rfl rfl).len) (fun y hy => (hf 0 10 rfl rfl).elem hy) ((hf 0 12 rfl rfl).rng) ((hf 0 13 rfl rfl).rng) ((hf 0 14 rfl rfl).rng) ((hf 0 15 rfl rfl).rng) ((hf 0 16 rfl rfl).len) ((hf 0 17 rfl rfl).len) (fun y hy => (hf 0 17 rfl rfl).elem hy) ((hf 0 18 rfl rfl).len) ((hf 0 19 rfl rfl).rng) hp _ _ _))
noncomputable def w_toDoor_e : Ent1 Tryz.prog := entP 14 [.st .door] (fun x => (decide (x.1.keys.now.rows.length ≤ 4294967296 ∧ x.1.keys.before.rows.length ≤ 4294967296 ∧ x.1.halves.length ≤ 4294967296 ∧ x.1.table.conns.length ≤ 4294967296 ∧ sm_conn x.1.table.conns = true ∧ x.1.table.waiting.length ≤ 4294967296))) (fun x => (w_toDoor x.1)) (fun v => [rv (.st .door) [.c, .c, .c, .c, .c, .c, .o true, .c, .c, .c, .o true, .c, .c, .c, .c, .c, .o true, .o true, .o true, .c] v]) (fun x hx => w_toDoor_c x.1 (of_decide_eq_true hx))


/-- laws.eqDoor -/
def w_eqDoor_N (x0 : Door) (x1 : Door) (γ : Type) (fail : γ) (k : Bool → γ) : γ :=
  bif (x0.port != x1.port) then
    k false
  else
  bif (x0.clock != x1.clock) then
    k false
  else
  letK (α := Bool) (w_eqKeys x0.keys x1.keys) fun c1 =>
  bif (!c1) then
    k false
  else
  letK (α := Bool) (w_eqLimits x0.limits x1.limits) fun c2 =>
  bif (!c2) then
    k false
  else
  letK (α := Bool) (w_eqHalfS x0.halves x1.halves) fun c3 =>
  bif (!c3) then
    k false
  else
  letK (α := Bool) (w_eqTable x0.table x1.table) fun c4 =>
  bif (!c4) then
    k false
  else
  bif (x0.chal != x1.chal) then
    k false
  else
  k true
def w_eqDoor (x0 : Door) (x1 : Door) : Bool :=
  bif (x0.port != x1.port) then
    false
  else
  bif (x0.clock != x1.clock) then
    false
  else
  letK (α := Bool) (w_eqKeys x0.keys x1.keys) fun c1 =>
  bif (!c1) then
    false
  else
  letK (α := Bool) (w_eqLimits x0.limits x1.limits) fun c2 =>
  bif (!c2) then
    false
  else
  letK (α := Bool) (w_eqHalfS x0.halves x1.halves) fun c3 =>
  bif (!c3) then
    false
  else
  letK (α := Bool) (w_eqTable x0.table x1.table) fun c4 =>
  bif (!c4) then
    false
  else
  bif (x0.chal != x1.chal) then
    false
  else
  true
theorem w_eqDoor_lk (x0 : Door) (x1 : Door) : evalFn te (orcOf (P := Tryz.prog) [w_eqKeys_e, w_eqLimits_e, w_eqHalfS_e, w_eqTable_e]) lorc0 [] Tryz.f18 (pvs [.st .door, .st .door] (x0, x1, ())) =
  w_eqDoor_N x0 x1 _ none (fun v => some [(false, [RC.c (.bool v)])]) := by kernel_rfl
theorem w_eqDoor_p (x0 : Door) (x1 : Door)   (γ : Type) (fail : γ) (k : Bool → γ) : w_eqDoor_N x0 x1 γ fail k = k (w_eqDoor x0 x1) := by
  unfold w_eqDoor_N w_eqDoor
  exact bifT (f := k) (fun b0 => rfl)
      (fun b0 => bifT (f := k) (fun b1 => rfl)
      (fun b1 => letT (f := k) (fun c1 hc1 => bifT (f := k) (fun b2 => rfl)
      (fun b2 => letT (f := k) (fun c2 hc2 => bifT (f := k) (fun b3 => rfl)
      (fun b3 => letT (f := k) (fun c3 hc3 => bifT (f := k) (fun b4 => rfl)
      (fun b4 => letT (f := k) (fun c4 hc4 => bifT (f := k) (fun b5 => rfl)
      (fun b5 => bifT (f := k) (fun b6 => rfl)
      (fun b6 => rfl)))))))))))
theorem w_eqDoor_c (x0 : Door) (x1 : Door)  : Con Tryz.prog 18 (pvs [.st .door, .st .door] (x0, x1, ())) [rv (.sc .bool) [] (w_eqDoor x0 x1)] := by
  exact evalFn_con0 teFact mixFact (orcOf_ok _) Tryz.func18 (by kernel_rfl) ((w_eqDoor_lk x0 x1).trans (w_eqDoor_p x0 x1  _ _ _))
noncomputable def w_eqDoor_e : Ent1 Tryz.prog := entA 18 [.st .door, .st .door] (fun x => (w_eqDoor x.1 x.2.1)) (fun v => [rv (.sc .bool) [] v]) (fun x => w_eqDoor_c x.1 x.2.1)


/-- impl.MacOk -/
def i_MacOk_ann : List (Nat × Keep) := [(0, ⟨[1, 27, 28, 29], [], false, 0⟩)]
def i_MacOk_L0_sh : Sh := ⟨[(1, false, [.ptr 0 0]), (27, false, [.sl .arg .macRow]), (28, false, [.int .i64]), (29, false, [.int .i64])], [.box [.bool, .int .u64, .int .u64, .sl .arg .macRow]]⟩
def i_MacOk_L0_es : List (Ex × Sh) := [(.ret, ⟨[(2, false, [.bool])], []⟩), (.exit 0, ⟨[(2, false, [.undef])], []⟩)]
def i_MacOk_L0_mk (v0 : List MacRow) (v1 : Int) (v2 : Int) (v3 : Bool) (v4 : Int) (v5 : Int) (v6 : List MacRow) : i_MacOk_L0_sh.T := ((((), ()), ((v0, ()), ((v1, ()), ((v2, ()), ())))), ((v3, (v4, (v5, (v6, ())))), ()))
def i_MacOk_L0_mx0 (y0 : Bool) : Sh.T ⟨[(2, false, [.bool])], []⟩ := (((y0, ()), ()), ())
def i_MacOk_L0_mx1  : Sh.T ⟨[(2, false, [.undef])], []⟩ := ((((), ()), ()), ())
def i_MacOk_L0_B (v0 : List MacRow) (v1 : Int) (v2 : Int) (v3 : Bool) (v4 : Int) (v5 : Int) (v6 : List MacRow) (γ : Type) (fail : γ) (next : i_MacOk_L0_sh.T → γ) (out : WT i_MacOk_L0_es → γ) : γ :=
  bif (decide (v2 < v1)) then
    bif ((decide (0 ≤ v2)) && (decide (v2 < (v0.length : Int)))) then
    letK (α := Bool) (i_within ((v0.getD v2.toNat (Ty.zero .macRow)).value) 0 16777215) fun c1 =>
    bif (!c1) then
      out (Sum.inl (i_MacOk_L0_mx0 false))
    else
    bif ((decide (0 ≤ v2)) && (decide (v2 ≤ (v6.length : Int)))) then
    letK (α := Bool × MacRow) (g_ContainsFunc_MacRow_i_MacOk_1 ((v6.take v2.toNat).drop 0) (v0.getD v2.toNat (Ty.zero .macRow))) fun c2 =>
    bif c2.1 then
      out (Sum.inl (i_MacOk_L0_mx0 false))
    else
    next (i_MacOk_L0_mk v0 v1 (IntKind.wrap .i64 (v2 + 1)) v3 v4 v5 v6)
    else fail
    else fail
  else
  out (Sum.inr (i_MacOk_L0_mx1 ))
theorem i_MacOk_L0_par (v0 : List MacRow) (v1 : Int) (v2 : Int) (v3 : Bool) (v4 : Int) (v5 : Int) (v6 : List MacRow) (γ : Type) (fail : γ) (next : i_MacOk_L0_sh.T → γ) (out : WT i_MacOk_L0_es → γ) : i_MacOk_L0_B v0 v1 v2 v3 v4 v5 v6 γ fail next out = optK (i_MacOk_L0_B v0 v1 v2 v3 v4 v5 v6 _ none (fun v' => some (.inl v')) (fun w => some (.inr w))) fail (fun r => Sum.elim next out r) := by
  unfold i_MacOk_L0_B
  exact bifT (f := (fun o => optK o fail (fun r => Sum.elim next out r))) (fun _ => bifT (f := (fun o => optK o fail (fun r => Sum.elim next out r))) (fun _ => letT (f := (fun o => optK o fail (fun r => Sum.elim next out r))) (fun c1 _ => bifT (f := (fun o => optK o fail (fun r => Sum.elim next out r))) (fun _ => rfl)
      (fun _ => bifT (f := (fun o => optK o fail (fun r => Sum.elim next out r))) (fun _ => letT (f := (fun o => optK o fail (fun r => Sum.elim next out r))) (fun c2 _ => bifT (f := (fun o => optK o fail (fun r => Sum.elim next out r))) (fun _ => rfl)
      (fun _ => rfl))) (fun _ => rfl)))) (fun _ => rfl))
      (fun _ => rfl)
def i_MacOk_L0_r : Round i_MacOk_L0_sh.T (WT i_MacOk_L0_es) where
  B v γ fail next out := i_MacOk_L0_B v.1.2.1.1 v.1.2.2.1.1 v.1.2.2.2.1.1 v.2.1.1 v.2.1.2.1 v.2.1.2.2.1 v.2.1.2.2.2.1 γ fail next out
  par v γ fail next out := i_MacOk_L0_par v.1.2.1.1 v.1.2.2.1.1 v.1.2.2.2.1.1 v.2.1.1 v.2.1.2.1 v.2.1.2.2.1 v.2.1.2.2.2.1 γ fail next out
def i_MacOk_L0_fu (v0 : List MacRow) (v1 : Int) (v2 : Int) (v3 : Bool) (v4 : Int) (v5 : Int) (v6 : List MacRow) : Nat := (Int.toNat (v1 - v2)) + 1
theorem i_MacOk_L0_lk (v : i_MacOk_L0_sh.T) (next : St → Option Res) (k : Ex → St → Option Res) : evalK te (orcOf (P := Tryz.prog) [i_within_e, g_ContainsFunc_MacRow_i_MacOk_1_e]) (lorcOf []) Tryz.f67.ntmps i_MacOk_ann (nthLoop (bodyOf Tryz.f67) 0 0) 0 (i_MacOk_L0_sh.enc v) (endK ⟨[1, 27, 28, 29], [], false, 0⟩ ⟨[2], [], false, 0⟩ next k) =
  i_MacOk_L0_r.B v _ none (fun v' => next (i_MacOk_L0_sh.enc v')) (fun w => outK i_MacOk_L0_es k w) := by kernel_rfl
def i_MacOk_L0_le : LE := leOf 0 i_MacOk_L0_sh i_MacOk_L0_es i_MacOk_L0_r.step (fun v => i_MacOk_L0_fu v.1.2.1.1 v.1.2.2.1.1 v.1.2.2.2.1.1 v.2.1.1 v.2.1.2.1 v.2.1.2.2.1 v.2.1.2.2.2.1)
theorem i_MacOk_L0_ls (w0 : World) (mo : Mts) (I0 : Nat → Prop) (hmo : mo.length = 0) : LSem Tryz.prog (Sim w0 mo Tryz.f67.ntmps I0) (fun b s k => match Nat.beq 0 b with | true => i_MacOk_L0_le.run s k | false => none) 0 (nthLoop (bodyOf Tryz.f67) 0 0) :=
  le_sem hmo (lorc := lorcOf []) (ann := i_MacOk_ann) (keep := ⟨[1, 27, 28, 29], [], false, 0⟩) (kout := ⟨[2], [], false, 0⟩) teFact mixFact (orcOf_ok _) (by kernel_rfl) (allLoops_of (bs := []) (by kernel_rfl) trivial) i_MacOk_L0_r _ i_MacOk_L0_lk
def i_MacOk_L0_f (v0 : List MacRow) (v1 : Int) (v3 : Bool) (v4 : Int) (v5 : Int) (v6 : List MacRow) (v2 : Int) (a : Unit) : Stp (Unit) ((Unit)) :=
  letK (α := Bool) (i_within ((v0.getD v2.toNat (Ty.zero .macRow)).value) 0 16777215) fun c1 =>
  bif (!c1) then
    .out (())
  else
  letK (α := Bool × MacRow) (g_ContainsFunc_MacRow_i_MacOk_1 ((v6.take v2.toNat).drop 0) (v0.getD v2.toNat (Ty.zero .macRow))) fun c2 =>
  bif c2.1 then
    .out (())
  else
  .next ()
theorem i_MacOk_L0_st (v0 : List MacRow) (v1 : Int) (v2 : Int) (v3 : Bool) (v4 : Int) (v5 : Int) (v6 : List MacRow) (hlo : 0 ≤ v2) (hhi : v2 < v1) (hN : v1 ≤ 4611686018427387904) (hi0 : v1 ≤ (v0.length : Int)) (hi1 : v1 ≤ (v6.length : Int)) : i_MacOk_L0_r.step (i_MacOk_L0_mk v0 v1 v2 v3 v4 v5 v6) = Stp.elim (fun a' : Unit => some (Sum.inl (i_MacOk_L0_mk v0 v1 (v2 + 1) v3 v4 v5 v6))) (fun w => some (Sum.inr ((fun p : Unit => Sum.inl (i_MacOk_L0_mx0 false)) w))) (i_MacOk_L0_f v0 v1 v3 v4 v5 v6 v2 ()) := by
  have hw : (IntKind.wrap .i64 (v2 + 1)) = v2 + 1 := wrap64 (by omega) (by omega)
  show i_MacOk_L0_B v0 v1 v2 v3 v4 v5 v6 (Option (i_MacOk_L0_sh.T ⊕ WT i_MacOk_L0_es)) none (fun v' => some (Sum.inl v')) (fun w => some (Sum.inr w)) = _
  unfold i_MacOk_L0_B i_MacOk_L0_f
  exact bifG (by simp only [decide_eq_true_eq]; omega) (bifG (by (try simp only [Nat.ble_eq, Bool.and_eq_true, decide_eq_true_eq]); grind [maxSl, maxStr, toBytes_length, toInts_length, List.length_set, wrap64]) (letT (f := (Stp.elim (fun a' : Unit => some (Sum.inl (i_MacOk_L0_mk v0 v1 (v2 + 1) v3 v4 v5 v6))) (fun w => some (Sum.inr ((fun p : Unit => Sum.inl (i_MacOk_L0_mx0 false)) w))))) (fun c1 hc1 => bifT (f := (Stp.elim (fun a' : Unit => some (Sum.inl (i_MacOk_L0_mk v0 v1 (v2 + 1) v3 v4 v5 v6))) (fun w => some (Sum.inr ((fun p : Unit => Sum.inl (i_MacOk_L0_mx0 false)) w))))) (fun b0 => rfl)
      (fun b0 => bifG (by (try simp only [Nat.ble_eq, Bool.and_eq_true, decide_eq_true_eq]); grind [maxSl, maxStr, toBytes_length, toInts_length, List.length_set, wrap64]) (letT (f := (Stp.elim (fun a' : Unit => some (Sum.inl (i_MacOk_L0_mk v0 v1 (v2 + 1) v3 v4 v5 v6))) (fun w => some (Sum.inr ((fun p : Unit => Sum.inl (i_MacOk_L0_mx0 false)) w))))) (fun c2 hc2 => bifT (f := (Stp.elim (fun a' : Unit => some (Sum.inl (i_MacOk_L0_mk v0 v1 (v2 + 1) v3 v4 v5 v6))) (fun w => some (Sum.inr ((fun p : Unit => Sum.inl (i_MacOk_L0_mx0 false)) w))))) (fun b1 => rfl)
      (fun b1 => (by exact congrArg (fun z => some (Sum.inl (i_MacOk_L0_mk v0 v1 z v3 v4 v5 v6))) hw))))))))
theorem i_MacOk_L0_cl (v0 : List MacRow) (v1 : Int) (v2 : Int) (v3 : Bool) (v4 : Int) (v5 : Int) (v6 : List MacRow) (h0 : 0 ≤ v2) (h1 : v1 ≤ 4611686018427387904) (h2 : v1 ≤ (v0.length : Int)) (h3 : v1 ≤ (v6.length : Int)) : loopF i_MacOk_L0_r.step (i_MacOk_L0_fu v0 v1 v2 v3 v4 v5 v6) (i_MacOk_L0_mk v0 v1 v2 v3 v4 v5 v6) = some (Stp.elim (fun a => (fun i a => Sum.inr (i_MacOk_L0_mx1 )) (v2 + 1 * (((Int.toNat (v1 - v2)) : Nat) : Int)) a) (fun p : Unit => Sum.inl (i_MacOk_L0_mx0 false)) (forN (i_MacOk_L0_f v0 v1 v3 v4 v5 v6) 1 (Int.toNat (v1 - v2)) v2 ())) :=
  forN_loop (step := i_MacOk_L0_r.step) (mk := fun v2 a => i_MacOk_L0_mk v0 v1 v2 v3 v4 v5 v6) (f := i_MacOk_L0_f v0 v1 v3 v4 v5 v6) (e := (fun i a => Sum.inr (i_MacOk_L0_mx1 ))) (emb := (fun p : Unit => Sum.inl (i_MacOk_L0_mx0 false))) (st := 1) (Inv := fun v2 a => True) (Int.toNat (v1 - v2)) v2 () _ (Nat.lt_succ_self _) trivial
    (fun j a hj hv => ⟨i_MacOk_L0_st v0 v1 (v2 + 1 * (j : Int)) v3 v4 v5 v6 (by omega) (by omega) (by omega) h2 h3, fun _ _ => trivial⟩)
    (fun a hv => by
      show i_MacOk_L0_B v0 v1 (v2 + 1 * (((Int.toNat (v1 - v2)) : Nat) : Int)) v3 v4 v5 v6 (Option (i_MacOk_L0_sh.T ⊕ WT i_MacOk_L0_es)) none (fun v' => some (Sum.inl v')) (fun w => some (Sum.inr w)) = _
      unfold i_MacOk_L0_B
      exact bifN (by simp only [decide_eq_false_iff_not]; omega) rfl)
def i_MacOk_N (x0 : Mac) (γ : Type) (fail : γ) (k : Bool → γ) : γ :=
  bif (!x0.use) then
    k ((x0.rows.length : Int) == 0)
  else
  bif (x0.k != 0) then
    k false
  else
  bif (x0.l != 0) then
    k false
  else
  bif (decide (64 < (x0.rows.length : Int))) then
    k false
  else
  optK (loopF i_MacOk_L0_r.step (i_MacOk_L0_fu x0.rows (x0.rows.length : Int) 0 x0.use x0.k x0.l x0.rows) (i_MacOk_L0_mk x0.rows (x0.rows.length : Int) 0 x0.use x0.k x0.l x0.rows)) fail fun w3 =>
    Sum.elim (fun w3 =>
      k w3.1.1.1)
    (fun w3 =>
      k true) w3
def i_MacOk (x0 : Mac) : Bool :=
  bif (!x0.use) then
    ((x0.rows.length : Int) == 0)
  else
  bif (x0.k != 0) then
    false
  else
  bif (x0.l != 0) then
    false
  else
  bif (decide (64 < (x0.rows.length : Int))) then
    false
  else
  Stp.elim (fun a4 =>
    true)
    (fun p4 =>
      false)
    (forN (i_MacOk_L0_f x0.rows (x0.rows.length : Int) x0.use x0.k x0.l x0.rows) 1 (Int.toNat ((x0.rows.length : Int) - 0)) 0 ())
theorem i_MacOk_lk (x0 : Mac) : evalFn te (orcOf (P := Tryz.prog) [i_within_e, g_ContainsFunc_MacRow_i_MacOk_1_e]) (lorcOf [i_MacOk_L0_le]) i_MacOk_ann Tryz.f67 (pvs [.st .mac] (x0, ())) =
  i_MacOk_N x0 _ none (fun v => some [(false, [RC.c (.bool v)])]) := by kernel_rfl
theorem i_MacOk_p (x0 : Mac) (hx0_k : inK .u64 x0.k) (hx0_l : inK .u64 x0.l) (hx0_rows : x0.rows.length ≤ 140737488355328) (hx0_rows_e : ∀ y ∈ x0.rows, ∀ c ∈ Ty.cells .macRow y, FactC c)  (γ : Type) (fail : γ) (k : Bool → γ) : i_MacOk_N x0 γ fail k = k (i_MacOk x0) := by
  unfold i_MacOk_N i_MacOk
  exact bifT (f := k) (fun b0 => rfl)
      (fun b0 => bifT (f := k) (fun b1 => rfl)
      (fun b1 => bifT (f := k) (fun b2 => rfl)
      (fun b2 => bifT (f := k) (fun b3 => rfl)
      (fun b3 => loopT (f := k) (i_MacOk_L0_cl x0.rows (x0.rows.length : Int) 0 x0.use x0.k x0.l x0.rows (by (try simp only [Nat.ble_eq, Bool.and_eq_true, decide_eq_true_eq, i_MacOk_L0_mx0, i_MacOk_L0_mx1]); grind [maxSl, maxStr, toBytes_length, toInts_length, List.length_set, wrap64]) (by (try simp only [Nat.ble_eq, Bool.and_eq_true, decide_eq_true_eq, i_MacOk_L0_mx0, i_MacOk_L0_mx1]); grind [maxSl, maxStr, toBytes_length, toInts_length, List.length_set, wrap64]) (by (try simp only [Nat.ble_eq, Bool.and_eq_true, decide_eq_true_eq, i_MacOk_L0_mx0, i_MacOk_L0_mx1]); grind [maxSl, maxStr, toBytes_length, toInts_length, List.length_set, wrap64]) (by (try simp only [Nat.ble_eq, Bool.and_eq_true, decide_eq_true_eq, i_MacOk_L0_mx0, i_MacOk_L0_mx1]); grind [maxSl, maxStr, toBytes_length, toInts_length, List.length_set, wrap64])) (fun a4 => rfl)
      (fun p4 => rfl)))))
theorem i_MacOk_c (x0 : Mac)  : Con Tryz.prog 67 (pvs [.st .mac] (x0, ())) [rv (.sc .bool) [] (i_MacOk x0)] := by
  refine Con.of_facts (enters_of Tryz.func67 rfl (by kernel_rfl)) fun hf => ?_
  replace hf := factAt hf
  exact evalFn_conL teFact mixFact (orcOf_ok _) Tryz.func67 (by kernel_rfl) (bs := [0]) (by kernel_rfl) (by kernel_rfl) (fun w0 mo I0 hmo => ⟨lsem_of_lorc (i_MacOk_L0_ls w0 mo I0 hmo) (by kernel_rfl), trivial⟩) ((i_MacOk_lk x0).trans (i_MacOk_p x0 ((hf 0 1 rfl rfl).rng) ((hf 0 2 rfl rfl).rng) ((hf 0 3 rfl rfl).len) (fun y hy => (hf 0 3 rfl rfl).elem hy) _ _ _))
noncomputable def i_MacOk_e : Ent1 Tryz.prog := entA 67 [.st .mac] (fun x => (i_MacOk x.1)) (fun v => [rv (.sc .bool) [] v]) (fun x => i_MacOk_c x.1)


/-- laws.toStack -/
def w_toStack_N (x0 : Stac) (γ : Type) (fail : γ) (k : Stac → γ) : γ :=
  bif (decide (x0.link.cache.length ≤ 4294967296)) then
  letK (α := Link) (w_toLink x0.link) fun c1 =>
  bif (decide (x0.door.keys.now.rows.length ≤ 4294967296 ∧ x0.door.keys.before.rows.length ≤ 4294967296 ∧ x0.door.halves.length ≤ 4294967296 ∧ x0.door.table.conns.length ≤ 4294967296 ∧ sm_conn x0.door.table.conns = true ∧ x0.door.table.waiting.length ≤ 4294967296)) then
  letK (α := Door) (w_toDoor x0.door) fun c2 =>
  k (⟨c1, c2⟩ : Stac)
  else fail
  else fail
def w_toStack (x0 : Stac) : Stac :=
  letK (α := Link) (w_toLink x0.link) fun c1 =>
  letK (α := Door) (w_toDoor x0.door) fun c2 =>
  (⟨c1, c2⟩ : Stac)
theorem w_toStack_lk (x0 : Stac) : evalFn te (orcOf (P := Tryz.prog) [w_toLink_e, w_toDoor_e]) lorc0 [] Tryz.f6 (pvs [.st .stac] (x0, ())) =
  w_toStack_N x0 _ none (fun v => some [(true, [RC.c (.int .i64 v.link.mac), RC.c (.int .i64 v.link.ip), RC.own true .entr v.link.cache, RC.c (.int .i64 v.door.port), RC.c (.int .i64 v.door.clock), RC.c (.int .i64 v.door.keys.epoch), RC.c (.bool v.door.keys.now.use), RC.c (.int .u64 v.door.keys.now.k), RC.c (.int .u64 v.door.keys.now.l), RC.own true .macRow v.door.keys.now.rows, RC.c (.bool v.door.keys.before.use), RC.c (.int .u64 v.door.keys.before.k), RC.c (.int .u64 v.door.keys.before.l), RC.own true .macRow v.door.keys.before.rows, RC.c (.bool v.door.keys.two), RC.c (.int .i64 v.door.limits.halves), RC.c (.int .i64 v.door.limits.waiting), RC.c (.int .i64 v.door.limits.conns), RC.c (.int .i64 v.door.limits.chal), RC.own true .half v.door.halves, RC.own true .conn v.door.table.conns, RC.own true .tupl v.door.table.waiting, RC.c (.int .i64 v.door.chal)])]) := by kernel_rfl
theorem w_toStack_p (x0 : Stac) (hx0_link_mac : inK .i64 x0.link.mac) (hx0_link_ip : inK .i64 x0.link.ip) (hx0_link_cache : x0.link.cache.length ≤ 140737488355328) (hx0_door_port : inK .i64 x0.door.port) (hx0_door_clock : inK .i64 x0.door.clock) (hx0_door_keys_epoch : inK .i64 x0.door.keys.epoch) (hx0_door_keys_now_k : inK .u64 x0.door.keys.now.k) (hx0_door_keys_now_l : inK .u64 x0.door.keys.now.l) (hx0_door_keys_now_rows : x0.door.keys.now.rows.length ≤ 140737488355328) (hx0_door_keys_now_rows_e : ∀ y ∈ x0.door.keys.now.rows, ∀ c ∈ Ty.cells .macRow y, FactC c) (hx0_door_keys_before_k : inK .u64 x0.door.keys.before.k) (hx0_door_keys_before_l : inK .u64 x0.door.keys.before.l) (hx0_door_keys_before_rows : x0.door.keys.before.rows.length ≤ 140737488355328) (hx0_door_keys_before_rows_e : ∀ y ∈ x0.door.keys.before.rows, ∀ c ∈ Ty.cells .macRow y, FactC c) (hx0_door_limits_halves : inK .i64 x0.door.limits.halves) (hx0_door_limits_waiting : inK .i64 x0.door.limits.waiting) (hx0_door_limits_conns : inK .i64 x0.door.limits.conns) (hx0_door_limits_chal : inK .i64 x0.door.limits.chal) (hx0_door_halves : x0.door.halves.length ≤ 140737488355328) (hx0_door_table_conns : x0.door.table.conns.length ≤ 140737488355328) (hx0_door_table_conns_e : ∀ y ∈ x0.door.table.conns, ∀ c ∈ Ty.cells .conn y, FactC c) (hx0_door_table_waiting : x0.door.table.waiting.length ≤ 140737488355328) (hx0_door_chal : inK .i64 x0.door.chal) (hp : x0.link.cache.length ≤ 4294967296 ∧ x0.door.keys.now.rows.length ≤ 4294967296 ∧ x0.door.keys.before.rows.length ≤ 4294967296 ∧ x0.door.halves.length ≤ 4294967296 ∧ x0.door.table.conns.length ≤ 4294967296 ∧ sm_conn x0.door.table.conns = true ∧ x0.door.table.waiting.length ≤ 4294967296) (γ : Type) (fail : γ) (k : Stac → γ) : w_toStack_N x0 γ fail k = k (w_toStack x0) := by
  unfold w_toStack_N w_toStack
  exact bifG (by (try simp only [Nat.ble_eq, Bool.and_eq_true, decide_eq_true_eq]); grind [maxSl, maxStr, toBytes_length, toInts_length, List.length_set, wrap64]) (letT (f := k) (fun c1 hc1 => bifG (by (try simp only [Nat.ble_eq, Bool.and_eq_true, decide_eq_true_eq]); grind [maxSl, maxStr, toBytes_length, toInts_length, List.length_set, wrap64]) (letT (f := k) (fun c2 hc2 => rfl))))
theorem w_toStack_c (x0 : Stac) (hp : x0.link.cache.length ≤ 4294967296 ∧ x0.door.keys.now.rows.length ≤ 4294967296 ∧ x0.door.keys.before.rows.length ≤ 4294967296 ∧ x0.door.halves.length ≤ 4294967296 ∧ x0.door.table.conns.length ≤ 4294967296 ∧ sm_conn x0.door.table.conns = true ∧ x0.door.table.waiting.length ≤ 4294967296) : Con Tryz.prog 6 (pvs [.st .stac] (x0, ())) [rv (.st .stac) [.c, .c, .o true, .c, .c, .c, .c, .c, .c, .o true, .c, .c, .c, .o true, .c, .c, .c, .c, .c, .o true, .o true, .o true, .c] (w_toStack x0)] := by
  refine Con.of_facts (enters_of Tryz.func6 rfl (by kernel_rfl)) fun hf => ?_
  replace hf := factAt hf
  exact evalFn_con0 teFact mixFact (orcOf_ok _) Tryz.func6 (by kernel_rfl) ((w_toStack_lk x0).trans (w_toStack_p x0 ((hf 0 0 rfl rfl).rng) ((hf 0 1 rfl rfl).rng) ((hf 0 2 rfl rfl).len) ((hf 0 3 rfl rfl).rng) ((hf 0 4 rfl rfl).rng) ((hf 0 5 rfl rfl).rng) ((hf 0 7 rfl rfl).rng) ((hf 0 8 rfl rfl).rng) ((hf 0 9 rfl rfl).len) (fun y hy => (hf 0 9 rfl rfl).elem hy) ((hf 0 11 rfl rfl).rng) ((hf 0 12 rfl rfl).rng) ((hf 0 13 rfl rfl).len) (fun y hy => (hf 0 13 rfl rfl).elem hy) ((hf 0 15 rfl rfl).rng) ((hf 0 16 rfl rfl).rng) ((hf 0 17 rfl rfl).rng) ((hf 0 18 rfl rfl).rng) ((hf 0 19 rfl rfl).len) ((hf 0 20 rfl rfl).len) (fun y hy => (hf 0 20 rfl rfl).elem hy) ((hf 0 21 rfl rfl).len) ((hf 0 22 rfl rfl).rng) hp _ _ _))
noncomputable def w_toStack_e : Ent1 Tryz.prog := entP 6 [.st .stac] (fun x => (decide (x.1.link.cache.length ≤ 4294967296 ∧ x.1.door.keys.now.rows.length ≤ 4294967296 ∧ x.1.door.keys.before.rows.length ≤ 4294967296 ∧ x.1.door.halves.length ≤ 4294967296 ∧ x.1.door.table.conns.length ≤ 4294967296 ∧ sm_conn x.1.door.table.conns = true ∧ x.1.door.table.waiting.length ≤ 4294967296))) (fun x => (w_toStack x.1)) (fun v => [rv (.st .stac) [.c, .c, .o true, .c, .c, .c, .c, .c, .c, .o true, .c, .c, .c, .o true, .c, .c, .c, .c, .c, .o true, .o true, .o true, .c] v]) (fun x hx => w_toStack_c x.1 (of_decide_eq_true hx))


/-- laws.eqStack -/
def w_eqStack_N (x0 : Stac) (x1 : Stac) (γ : Type) (fail : γ) (k : Bool → γ) : γ :=
  letK (α := Bool) (w_eqLink x0.link x1.link) fun c1 =>
  bif (!c1) then
    k false
  else
  letK (α := Bool) (w_eqDoor x0.door x1.door) fun c2 =>
  bif (!c2) then
    k false
  else
  k true
def w_eqStack (x0 : Stac) (x1 : Stac) : Bool :=
  letK (α := Bool) (w_eqLink x0.link x1.link) fun c1 =>
  bif (!c1) then
    false
  else
  letK (α := Bool) (w_eqDoor x0.door x1.door) fun c2 =>
  bif (!c2) then
    false
  else
  true
theorem w_eqStack_lk (x0 : Stac) (x1 : Stac) : evalFn te (orcOf (P := Tryz.prog) [w_eqLink_e, w_eqDoor_e]) lorc0 [] Tryz.f8 (pvs [.st .stac, .st .stac] (x0, x1, ())) =
  w_eqStack_N x0 x1 _ none (fun v => some [(false, [RC.c (.bool v)])]) := by kernel_rfl
theorem w_eqStack_p (x0 : Stac) (x1 : Stac)   (γ : Type) (fail : γ) (k : Bool → γ) : w_eqStack_N x0 x1 γ fail k = k (w_eqStack x0 x1) := by
  unfold w_eqStack_N w_eqStack
  exact letT (f := k) (fun c1 hc1 => bifT (f := k) (fun b0 => rfl)
      (fun b0 => letT (f := k) (fun c2 hc2 => bifT (f := k) (fun b1 => rfl)
      (fun b1 => rfl))))
theorem w_eqStack_c (x0 : Stac) (x1 : Stac)  : Con Tryz.prog 8 (pvs [.st .stac, .st .stac] (x0, x1, ())) [rv (.sc .bool) [] (w_eqStack x0 x1)] := by
  exact evalFn_con0 teFact mixFact (orcOf_ok _) Tryz.func8 (by kernel_rfl) ((w_eqStack_lk x0 x1).trans (w_eqStack_p x0 x1  _ _ _))
noncomputable def w_eqStack_e : Ent1 Tryz.prog := entA 8 [.st .stac, .st .stac] (fun x => (w_eqStack x.1 x.2.1)) (fun v => [rv (.sc .bool) [] v]) (fun x => w_eqStack_c x.1 x.2.1)


/-- impl.KeysOk -/
def i_KeysOk_N (x0 : Keys) (γ : Type) (fail : γ) (k : Bool → γ) : γ :=
  bif x0.two then
    letK (α := Bool) (i_within x0.epoch 1 4294967295) fun c1 =>
    bif c1 then
      letK (α := Bool) (i_MacOk x0.now) fun c2 =>
      bif c2 then
        letK (α := Bool) (i_MacOk x0.before) fun c3 =>
        bif c3 then
          bif x0.two then
            k true
          else
          letK (α := Bool) (i_SameMac x0.before (⟨false, 0, 0, []⟩ : Mac)) fun c4 =>
          k c4
        else
        k false
      else
      k false
    else
    k false
  else
  letK (α := Bool) (i_within x0.epoch 0 4294967295) fun c5 =>
  bif c5 then
    letK (α := Bool) (i_MacOk x0.now) fun c6 =>
    bif c6 then
      letK (α := Bool) (i_MacOk x0.before) fun c7 =>
      bif c7 then
        bif x0.two then
          k true
        else
        letK (α := Bool) (i_SameMac x0.before (⟨false, 0, 0, []⟩ : Mac)) fun c8 =>
        k c8
      else
      k false
    else
    k false
  else
  k false
def i_KeysOk (x0 : Keys) : Bool :=
  bif x0.two then
    letK (α := Bool) (i_within x0.epoch 1 4294967295) fun c1 =>
    bif c1 then
      letK (α := Bool) (i_MacOk x0.now) fun c2 =>
      bif c2 then
        letK (α := Bool) (i_MacOk x0.before) fun c3 =>
        bif c3 then
          bif x0.two then
            true
          else
          letK (α := Bool) (i_SameMac x0.before (⟨false, 0, 0, []⟩ : Mac)) fun c4 =>
          c4
        else
        false
      else
      false
    else
    false
  else
  letK (α := Bool) (i_within x0.epoch 0 4294967295) fun c5 =>
  bif c5 then
    letK (α := Bool) (i_MacOk x0.now) fun c6 =>
    bif c6 then
      letK (α := Bool) (i_MacOk x0.before) fun c7 =>
      bif c7 then
        bif x0.two then
          true
        else
        letK (α := Bool) (i_SameMac x0.before (⟨false, 0, 0, []⟩ : Mac)) fun c8 =>
        c8
      else
      false
    else
    false
  else
  false
theorem i_KeysOk_lk (x0 : Keys) : evalFn te (orcOf (P := Tryz.prog) [i_within_e, i_MacOk_e, i_SameMac_e]) lorc0 [] Tryz.f37 (pvs [.st .keys] (x0, ())) =
  i_KeysOk_N x0 _ none (fun v => some [(false, [RC.c (.bool v)])]) := by kernel_rfl
theorem i_KeysOk_p (x0 : Keys)   (γ : Type) (fail : γ) (k : Bool → γ) : i_KeysOk_N x0 γ fail k = k (i_KeysOk x0) := by
  unfold i_KeysOk_N i_KeysOk
  exact bifT (f := k) (fun b0 => letT (f := k) (fun c1 hc1 => bifT (f := k) (fun b1 => letT (f := k) (fun c2 hc2 => bifT (f := k) (fun b2 => letT (f := k) (fun c3 hc3 => bifT (f := k) (fun b3 => bifT (f := k) (fun b4 => rfl)
      (fun b4 => letT (f := k) (fun c4 hc4 => rfl)))
      (fun b3 => rfl)))
      (fun b2 => rfl)))
      (fun b1 => rfl)))
      (fun b0 => letT (f := k) (fun c5 hc5 => bifT (f := k) (fun b1 => letT (f := k) (fun c6 hc6 => bifT (f := k) (fun b2 => letT (f := k) (fun c7 hc7 => bifT (f := k) (fun b3 => bifT (f := k) (fun b4 => rfl)
      (fun b4 => letT (f := k) (fun c8 hc8 => rfl)))
      (fun b3 => rfl)))
      (fun b2 => rfl)))
      (fun b1 => rfl)))
theorem i_KeysOk_c (x0 : Keys)  : Con Tryz.prog 37 (pvs [.st .keys] (x0, ())) [rv (.sc .bool) [] (i_KeysOk x0)] := by
  exact evalFn_con0 teFact mixFact (orcOf_ok _) Tryz.func37 (by kernel_rfl) ((i_KeysOk_lk x0).trans (i_KeysOk_p x0  _ _ _))
noncomputable def i_KeysOk_e : Ent1 Tryz.prog := entA 37 [.st .keys] (fun x => (i_KeysOk x.1)) (fun v => [rv (.sc .bool) [] v]) (fun x => i_KeysOk_c x.1)


/-- impl.DoorOk$1 -/
def i_DoorOk_1_N (x0 : Half) (y1 : Door) (γ : Type) (fail : γ) (k : Bool → γ) : γ :=
  letK (α := Int) (i_FindConn y1.table x0.tuple) fun c1 =>
  k (decide (0 ≤ c1))
def i_DoorOk_1 (x0 : Half) (y1 : Door) : Bool :=
  letK (α := Int) (i_FindConn y1.table x0.tuple) fun c1 =>
  (decide (0 ≤ c1))
theorem i_DoorOk_1_lk (x0 : Half) (y1 : Door) : evalFnM te (orcOf (P := Tryz.prog) [i_FindConn_e]) lorc0 [] Tryz.f42 (pvs [.st .half, .wr false [.ptr 0]] (x0, (), ())) (mos [.box [.c (.int .i64), .c (.int .i64), .c (.int .i64), .c .bool, .c (.int .u64), .c (.int .u64), .c (.sl .macRow), .c .bool, .c (.int .u64), .c (.int .u64), .c (.sl .macRow), .c .bool, .c (.int .i64), .c (.int .i64), .c (.int .i64), .c (.int .i64), .c (.sl .half), .c (.sl .conn), .c (.sl .tupl), .c (.int .i64)]] ((y1.port, y1.clock, y1.keys.epoch, y1.keys.now.use, y1.keys.now.k, y1.keys.now.l, y1.keys.now.rows, y1.keys.before.use, y1.keys.before.k, y1.keys.before.l, y1.keys.before.rows, y1.keys.two, y1.limits.halves, y1.limits.waiting, y1.limits.conns, y1.limits.chal, y1.halves, y1.table.conns, y1.table.waiting, y1.chal, ()), ())) =
  i_DoorOk_1_N x0 y1 _ none (fun v => some ([(false, [RC.c (.bool v)])] ++ (mos [.box [.c (.int .i64), .c (.int .i64), .c (.int .i64), .c .bool, .c (.int .u64), .c (.int .u64), .c (.sl .macRow), .c .bool, .c (.int .u64), .c (.int .u64), .c (.sl .macRow), .c .bool, .c (.int .i64), .c (.int .i64), .c (.int .i64), .c (.int .i64), .c (.sl .half), .c (.sl .conn), .c (.sl .tupl), .c (.int .i64)]] ((y1.port, y1.clock, y1.keys.epoch, y1.keys.now.use, y1.keys.now.k, y1.keys.now.l, y1.keys.now.rows, y1.keys.before.use, y1.keys.before.k, y1.keys.before.l, y1.keys.before.rows, y1.keys.two, y1.limits.halves, y1.limits.waiting, y1.limits.conns, y1.limits.chal, y1.halves, y1.table.conns, y1.table.waiting, y1.chal, ()), ())).map encO)) := by kernel_rfl
theorem i_DoorOk_1_p (x0 : Half) (y1 : Door)   (γ : Type) (fail : γ) (k : Bool → γ) : i_DoorOk_1_N x0 y1 γ fail k = k (i_DoorOk_1 x0 y1) := by
  unfold i_DoorOk_1_N i_DoorOk_1
  exact letT (f := k) (fun c1 hc1 => rfl)
theorem i_DoorOk_1_c (x0 : Half) (y1 : Door)  : ConM Tryz.prog 42 (pvs [.st .half, .wr false [.ptr 0]] (x0, (), ())) (mos [.box [.c (.int .i64), .c (.int .i64), .c (.int .i64), .c .bool, .c (.int .u64), .c (.int .u64), .c (.sl .macRow), .c .bool, .c (.int .u64), .c (.int .u64), .c (.sl .macRow), .c .bool, .c (.int .i64), .c (.int .i64), .c (.int .i64), .c (.int .i64), .c (.sl .half), .c (.sl .conn), .c (.sl .tupl), .c (.int .i64)]] ((y1.port, y1.clock, y1.keys.epoch, y1.keys.now.use, y1.keys.now.k, y1.keys.now.l, y1.keys.now.rows, y1.keys.before.use, y1.keys.before.k, y1.keys.before.l, y1.keys.before.rows, y1.keys.two, y1.limits.halves, y1.limits.waiting, y1.limits.conns, y1.limits.chal, y1.halves, y1.table.conns, y1.table.waiting, y1.chal, ()), ())) [rv (.sc .bool) [] (i_DoorOk_1 x0 y1)] (mos [.box [.c (.int .i64), .c (.int .i64), .c (.int .i64), .c .bool, .c (.int .u64), .c (.int .u64), .c (.sl .macRow), .c .bool, .c (.int .u64), .c (.int .u64), .c (.sl .macRow), .c .bool, .c (.int .i64), .c (.int .i64), .c (.int .i64), .c (.int .i64), .c (.sl .half), .c (.sl .conn), .c (.sl .tupl), .c (.int .i64)]] ((y1.port, y1.clock, y1.keys.epoch, y1.keys.now.use, y1.keys.now.k, y1.keys.now.l, y1.keys.now.rows, y1.keys.before.use, y1.keys.before.k, y1.keys.before.l, y1.keys.before.rows, y1.keys.two, y1.limits.halves, y1.limits.waiting, y1.limits.conns, y1.limits.chal, y1.halves, y1.table.conns, y1.table.waiting, y1.chal, ()), ())) := by
  exact evalFn_conLM teFact mixFact (orcOf_ok _) Tryz.func42 (by kernel_rfl) (bs := []) (by kernel_rfl) (by kernel_rfl) (by kernel_rfl) rfl (fun w0 mo I0 hmo => trivial) ((i_DoorOk_1_lk x0 y1).trans (i_DoorOk_1_p x0 y1  _ _ _))
noncomputable def i_DoorOk_1_e : Ent1 Tryz.prog := entM 42 [.st .half, .wr false [.ptr 0]] [.box [.c (.int .i64), .c (.int .i64), .c (.int .i64), .c .bool, .c (.int .u64), .c (.int .u64), .c (.sl .macRow), .c .bool, .c (.int .u64), .c (.int .u64), .c (.sl .macRow), .c .bool, .c (.int .i64), .c (.int .i64), .c (.int .i64), .c (.int .i64), .c (.sl .half), .c (.sl .conn), .c (.sl .tupl), .c (.int .i64)]] (fun x y => true) (fun x y => (i_DoorOk_1 x.1 (⟨y.1.1, y.1.2.1, ⟨y.1.2.2.1, ⟨y.1.2.2.2.1, y.1.2.2.2.2.1, y.1.2.2.2.2.2.1, y.1.2.2.2.2.2.2.1⟩, ⟨y.1.2.2.2.2.2.2.2.1, y.1.2.2.2.2.2.2.2.2.1, y.1.2.2.2.2.2.2.2.2.2.1, y.1.2.2.2.2.2.2.2.2.2.2.1⟩, y.1.2.2.2.2.2.2.2.2.2.2.2.1⟩, ⟨y.1.2.2.2.2.2.2.2.2.2.2.2.2.1, y.1.2.2.2.2.2.2.2.2.2.2.2.2.2.1, y.1.2.2.2.2.2.2.2.2.2.2.2.2.2.2.1, y.1.2.2.2.2.2.2.2.2.2.2.2.2.2.2.2.1⟩, y.1.2.2.2.2.2.2.2.2.2.2.2.2.2.2.2.2.1, ⟨y.1.2.2.2.2.2.2.2.2.2.2.2.2.2.2.2.2.2.1, y.1.2.2.2.2.2.2.2.2.2.2.2.2.2.2.2.2.2.2.1⟩, y.1.2.2.2.2.2.2.2.2.2.2.2.2.2.2.2.2.2.2.2.1⟩ : Door))) (fun v => [rv (.sc .bool) [] v]) (fun x y v => (mos [.box [.c (.int .i64), .c (.int .i64), .c (.int .i64), .c .bool, .c (.int .u64), .c (.int .u64), .c (.sl .macRow), .c .bool, .c (.int .u64), .c (.int .u64), .c (.sl .macRow), .c .bool, .c (.int .i64), .c (.int .i64), .c (.int .i64), .c (.int .i64), .c (.sl .half), .c (.sl .conn), .c (.sl .tupl), .c (.int .i64)]] (((⟨y.1.1, y.1.2.1, ⟨y.1.2.2.1, ⟨y.1.2.2.2.1, y.1.2.2.2.2.1, y.1.2.2.2.2.2.1, y.1.2.2.2.2.2.2.1⟩, ⟨y.1.2.2.2.2.2.2.2.1, y.1.2.2.2.2.2.2.2.2.1, y.1.2.2.2.2.2.2.2.2.2.1, y.1.2.2.2.2.2.2.2.2.2.2.1⟩, y.1.2.2.2.2.2.2.2.2.2.2.2.1⟩, ⟨y.1.2.2.2.2.2.2.2.2.2.2.2.2.1, y.1.2.2.2.2.2.2.2.2.2.2.2.2.2.1, y.1.2.2.2.2.2.2.2.2.2.2.2.2.2.2.1, y.1.2.2.2.2.2.2.2.2.2.2.2.2.2.2.2.1⟩, y.1.2.2.2.2.2.2.2.2.2.2.2.2.2.2.2.2.1, ⟨y.1.2.2.2.2.2.2.2.2.2.2.2.2.2.2.2.2.2.1, y.1.2.2.2.2.2.2.2.2.2.2.2.2.2.2.2.2.2.2.1⟩, y.1.2.2.2.2.2.2.2.2.2.2.2.2.2.2.2.2.2.2.2.1⟩ : Door).port, (⟨y.1.1, y.1.2.1, ⟨y.1.2.2.1, ⟨y.1.2.2.2.1, y.1.2.2.2.2.1, y.1.2.2.2.2.2.1, y.1.2.2.2.2.2.2.1⟩, ⟨y.1.2.2.2.2.2.2.2.1, y.1.2.2.2.2.2.2.2.2.1, y.1.2.2.2.2.2.2.2.2.2.1, y.1.2.2.2.2.2.2.2.2.2.2.1⟩, y.1.2.2.2.2.2.2.2.2.2.2.2.1⟩, ⟨y.1.2.2.2.2.2.2.2.2.2.2.2.2.1, y.1.2.2.2.2.2.2.2.2.2.2.2.2.2.1, y.1.2.2.2.2.2.2.2.2.2.2.2.2.2.2.1, y.1.2.2.2.2.2.2.2.2.2.2.2.2.2.2.2.1⟩, y.1.2.2.2.2.2.2.2.2.2.2.2.2.2.2.2.2.1, ⟨y.1.2.2.2.2.2.2.2.2.2.2.2.2.2.2.2.2.2.1, y.1.2.2.2.2.2.2.2.2.2.2.2.2.2.2.2.2.2.2.1⟩, y.1.2.2.2.2.2.2.2.2.2.2.2.2.2.2.2.2.2.2.2.1⟩ : Door).clock, (⟨y.1.1, y.1.2.1, ⟨y.1.2.2.1, ⟨y.1.2.2.2.1, y.1.2.2.2.2.1, y.1.2.2.2.2.2.1, y.1.2.2.2.2.2.2.1⟩, ⟨y.1.2.2.2.2.2.2.2.1, y.1.2.2.2.2.2.2.2.2.1, y.1.2.2.2.2.2.2.2.2.2.1, y.1.2.2.2.2.2.2.2.2.2.2.1⟩, y.1.2.2.2.2.2.2.2.2.2.2.2.1⟩, ⟨y.1.2.2.2.2.2.2.2.2.2.2.2.2.1, y.1.2.2.2.2.2.2.2.2.2.2.2.2.2.1, y.1.2.2.2.2.2.2.2.2.2.2.2.2.2.2.1, y.1.2.2.2.2.2.2.2.2.2.2.2.2.2.2.2.1⟩, y.1.2.2.2.2.2.2.2.2.2.2.2.2.2.2.2.2.1, ⟨y.1.2.2.2.2.2.2.2.2.2.2.2.2.2.2.2.2.2.1, y.1.2.2.2.2.2.2.2.2.2.2.2.2.2.2.2.2.2.2.1⟩, y.1.2.2.2.2.2.2.2.2.2.2.2.2.2.2.2.2.2.2.2.1⟩ : Door).keys.epoch, (⟨y.1.1, y.1.2.1, ⟨y.1.2.2.1, ⟨y.1.2.2.2.1, y.1.2.2.2.2.1, y.1.2.2.2.2.2.1, y.1.2.2.2.2.2.2.1⟩, ⟨y.1.2.2.2.2.2.2.2.1, y.1.2.2.2.2.2.2.2.2.1, y.1.2.2.2.2.2.2.2.2.2.1, y.1.2.2.2.2.2.2.2.2.2.2.1⟩, y.1.2.2.2.2.2.2.2.2.2.2.2.1⟩, ⟨y.1.2.2.2.2.2.2.2.2.2.2.2.2.1, y.1.2.2.2.2.2.2.2.2.2.2.2.2.2.1, y.1.2.2.2.2.2.2.2.2.2.2.2.2.2.2.1, y.1.2.2.2.2.2.2.2.2.2.2.2.2.2.2.2.1⟩, y.1.2.2.2.2.2.2.2.2.2.2.2.2.2.2.2.2.1, ⟨y.1.2.2.2.2.2.2.2.2.2.2.2.2.2.2.2.2.2.1, y.1.2.2.2.2.2.2.2.2.2.2.2.2.2.2.2.2.2.2.1⟩, y.1.2.2.2.2.2.2.2.2.2.2.2.2.2.2.2.2.2.2.2.1⟩ : Door).keys.now.use, (⟨y.1.1, y.1.2.1, ⟨y.1.2.2.1, ⟨y.1.2.2.2.1, y.1.2.2.2.2.1, y.1.2.2.2.2.2.1, y.1.2.2.2.2.2.2.1⟩, ⟨y.1.2.2.2.2.2.2.2.1, y.1.2.2.2.2.2.2.2.2.1, y.1.2.2.2.2.2.2.2.2.2.1, y.1.2.2.2.2.2.2.2.2.2.2.1⟩, y.1.2.2.2.2.2.2.2.2.2.2.2.1⟩, ⟨y.1.2.2.2.2.2.2.2.2.2.2.2.2.1, y.1.2.2.2.2.2.2.2.2.2.2.2.2.2.1, y.1.2.2.2.2.2.2.2.2.2.2.2.2.2.2.1, y.1.2.2.2.2.2.2.2.2.2.2.2.2.2.2.2.1⟩, y.1.2.2.2.2.2.2.2.2.2.2.2.2.2.2.2.2.1, ⟨y.1.2.2.2.2.2.2.2.2.2.2.2.2.2.2.2.2.2.1, y.1.2.2.2.2.2.2.2.2.2.2.2.2.2.2.2.2.2.2.1⟩, y.1.2.2.2.2.2.2.2.2.2.2.2.2.2.2.2.2.2.2.2.1⟩ : Door).keys.now.k, (⟨y.1.1, y.1.2.1, ⟨y.1.2.2.1, ⟨y.1.2.2.2.1, y.1.2.2.2.2.1, y.1.2.2.2.2.2.1, y.1.2.2.2.2.2.2.1⟩, ⟨y.1.2.2.2.2.2.2.2.1, y.1.2.2.2.2.2.2.2.2.1, y.1.2.2.2.2.2.2.2.2.2.1, y.1.2.2.2.2.2.2.2.2.2.2.1⟩, y.1.2.2.2.2.2.2.2.2.2.2.2.1⟩, ⟨y.1.2.2.2.2.2.2.2.2.2.2.2.2.1, y.1.2.2.2.2.2.2.2.2.2.2.2.2.2.1, y.1.2.2.2.2.2.2.2.2.2.2.2.2.2.2.1, y.1.2.2.2.2.2.2.2.2.2.2.2.2.2.2.2.1⟩, y.1.2.2.2.2.2.2.2.2.2.2.2.2.2.2.2.2.1, ⟨y.1.2.2.2.2.2.2.2.2.2.2.2.2.2.2.2.2.2.1, y.1.2.2.2.2.2.2.2.2.2.2.2.2.2.2.2.2.2.2.1⟩, y.1.2.2.2.2.2.2.2.2.2.2.2.2.2.2.2.2.2.2.2.1⟩ : Door).keys.now.l, (⟨y.1.1, y.1.2.1, ⟨y.1.2.2.1, ⟨y.1.2.2.2.1, y.1.2.2.2.2.1, y.1.2.2.2.2.2.1, y.1.2.2.2.2.2.2.1⟩, ⟨y.1.2.2.2.2.2.2.2.1, y.1.2.2.2.2.2.2.2.2.1, y.1.2.2.2.2.2.2.2.2.2.1, y.1.2.2.2.2.2.2.2.2.2.2.1⟩, y.1.2.2.2.2.2.2.2.2.2.2.2.1⟩, ⟨y.1.2.2.2.2.2.2.2.2.2.2.2.2.1, y.1.2.2.2.2.2.2.2.2.2.2.2.2.2.1, y.1.2.2.2.2.2.2.2.2.2.2.2.2.2.2.1, y.1.2.2.2.2.2.2.2.2.2.2.2.2.2.2.2.1⟩, y.1.2.2.2.2.2.2.2.2.2.2.2.2.2.2.2.2.1, ⟨y.1.2.2.2.2.2.2.2.2.2.2.2.2.2.2.2.2.2.1, y.1.2.2.2.2.2.2.2.2.2.2.2.2.2.2.2.2.2.2.1⟩, y.1.2.2.2.2.2.2.2.2.2.2.2.2.2.2.2.2.2.2.2.1⟩ : Door).keys.now.rows, (⟨y.1.1, y.1.2.1, ⟨y.1.2.2.1, ⟨y.1.2.2.2.1, y.1.2.2.2.2.1, y.1.2.2.2.2.2.1, y.1.2.2.2.2.2.2.1⟩, ⟨y.1.2.2.2.2.2.2.2.1, y.1.2.2.2.2.2.2.2.2.1, y.1.2.2.2.2.2.2.2.2.2.1, y.1.2.2.2.2.2.2.2.2.2.2.1⟩, y.1.2.2.2.2.2.2.2.2.2.2.2.1⟩, ⟨y.1.2.2.2.2.2.2.2.2.2.2.2.2.1, y.1.2.2.2.2.2.2.2.2.2.2.2.2.2.1, y.1.2.2.2.2.2.2.2.2.2.2.2.2.2.2.1, y.1.2.2.2.2.2.2.2.2.2.2.2.2.2.2.2.1⟩, y.1.2.2.2.2.2.2.2.2.2.2.2.2.2.2.2.2.1, ⟨y.1.2.2.2.2.2.2.2.2.2.2.2.2.2.2.2.2.2.1, y.1.2.2.2.2.2.2.2.2.2.2.2.2.2.2.2.2.2.2.1⟩, y.1.2.2.2.2.2.2.2.2.2.2.2.2.2.2.2.2.2.2.2.1⟩ : Door).keys.before.use, (⟨y.1.1, y.1.2.1, ⟨y.1.2.2.1, ⟨y.1.2.2.2.1, y.1.2.2.2.2.1, y.1.2.2.2.2.2.1, y.1.2.2.2.2.2.2.1⟩, ⟨y.1.2.2.2.2.2.2.2.1, y.1.2.2.2.2.2.2.2.2.1, y.1.2.2.2.2.2.2.2.2.2.1, y.1.2.2.2.2.2.2.2.2.2.2.1⟩, y.1.2.2.2.2.2.2.2.2.2.2.2.1⟩, ⟨y.1.2.2.2.2.2.2.2.2.2.2.2.2.1, y.1.2.2.2.2.2.2.2.2.2.2.2.2.2.1, y.1.2.2.2.2.2.2.2.2.2.2.2.2.2.2.1, y.1.2.2.2.2.2.2.2.2.2.2.2.2.2.2.2.1⟩, y.1.2.2.2.2.2.2.2.2.2.2.2.2.2.2.2.2.1, ⟨y.1.2.2.2.2.2.2.2.2.2.2.2.2.2.2.2.2.2.1, y.1.2.2.2.2.2.2.2.2.2.2.2.2.2.2.2.2.2.2.1⟩, y.1.2.2.2.2.2.2.2.2.2.2.2.2.2.2.2.2.2.2.2.1⟩ : Door).keys.before.k, (⟨y.1.1, y.1.2.1, ⟨y.1.2.2.1, ⟨y.1.2.2.2.1, y.1.2.2.2.2.1, y.1.2.2.2.2.2.1, y.1.2.2.2.2.2.2.1⟩, ⟨y.1.2.2.2.2.2.2.2.1, y.1.2.2.2.2.2.2.2.2.1, y.1.2.2.2.2.2.2.2.2.2.1, y.1.2.2.2.2.2.2.2.2.2.2.1⟩, y.1.2.2.2.2.2.2.2.2.2.2.2.1⟩, ⟨y.1.2.2.2.2.2.2.2.2.2.2.2.2.1, y.1.2.2.2.2.2.2.2.2.2.2.2.2.2.1, y.1.2.2.2.2.2.2.2.2.2.2.2.2.2.2.1, y.1.2.2.2.2.2.2.2.2.2.2.2.2.2.2.2.1⟩, y.1.2.2.2.2.2.2.2.2.2.2.2.2.2.2.2.2.1, ⟨y.1.2.2.2.2.2.2.2.2.2.2.2.2.2.2.2.2.2.1, y.1.2.2.2.2.2.2.2.2.2.2.2.2.2.2.2.2.2.2.1⟩, y.1.2.2.2.2.2.2.2.2.2.2.2.2.2.2.2.2.2.2.2.1⟩ : Door).keys.before.l, (⟨y.1.1, y.1.2.1, ⟨y.1.2.2.1, ⟨y.1.2.2.2.1, y.1.2.2.2.2.1, y.1.2.2.2.2.2.1, y.1.2.2.2.2.2.2.1⟩, ⟨y.1.2.2.2.2.2.2.2.1, y.1.2.2.2.2.2.2.2.2.1, y.1.2.2.2.2.2.2.2.2.2.1, y.1.2.2.2.2.2.2.2.2.2.2.1⟩, y.1.2.2.2.2.2.2.2.2.2.2.2.1⟩, ⟨y.1.2.2.2.2.2.2.2.2.2.2.2.2.1, y.1.2.2.2.2.2.2.2.2.2.2.2.2.2.1, y.1.2.2.2.2.2.2.2.2.2.2.2.2.2.2.1, y.1.2.2.2.2.2.2.2.2.2.2.2.2.2.2.2.1⟩, y.1.2.2.2.2.2.2.2.2.2.2.2.2.2.2.2.2.1, ⟨y.1.2.2.2.2.2.2.2.2.2.2.2.2.2.2.2.2.2.1, y.1.2.2.2.2.2.2.2.2.2.2.2.2.2.2.2.2.2.2.1⟩, y.1.2.2.2.2.2.2.2.2.2.2.2.2.2.2.2.2.2.2.2.1⟩ : Door).keys.before.rows, (⟨y.1.1, y.1.2.1, ⟨y.1.2.2.1, ⟨y.1.2.2.2.1, y.1.2.2.2.2.1, y.1.2.2.2.2.2.1, y.1.2.2.2.2.2.2.1⟩, ⟨y.1.2.2.2.2.2.2.2.1, y.1.2.2.2.2.2.2.2.2.1, y.1.2.2.2.2.2.2.2.2.2.1, y.1.2.2.2.2.2.2.2.2.2.2.1⟩, y.1.2.2.2.2.2.2.2.2.2.2.2.1⟩, ⟨y.1.2.2.2.2.2.2.2.2.2.2.2.2.1, y.1.2.2.2.2.2.2.2.2.2.2.2.2.2.1, y.1.2.2.2.2.2.2.2.2.2.2.2.2.2.2.1, y.1.2.2.2.2.2.2.2.2.2.2.2.2.2.2.2.1⟩, y.1.2.2.2.2.2.2.2.2.2.2.2.2.2.2.2.2.1, ⟨y.1.2.2.2.2.2.2.2.2.2.2.2.2.2.2.2.2.2.1, y.1.2.2.2.2.2.2.2.2.2.2.2.2.2.2.2.2.2.2.1⟩, y.1.2.2.2.2.2.2.2.2.2.2.2.2.2.2.2.2.2.2.2.1⟩ : Door).keys.two, (⟨y.1.1, y.1.2.1, ⟨y.1.2.2.1, ⟨y.1.2.2.2.1, y.1.2.2.2.2.1, y.1.2.2.2.2.2.1, y.1.2.2.2.2.2.2.1⟩, ⟨y.1.2.2.2.2.2.2.2.1, y.1.2.2.2.2.2.2.2.2.1, y.1.2.2.2.2.2.2.2.2.2.1, y.1.2.2.2.2.2.2.2.2.2.2.1⟩, y.1.2.2.2.2.2.2.2.2.2.2.2.1⟩, ⟨y.1.2.2.2.2.2.2.2.2.2.2.2.2.1, y.1.2.2.2.2.2.2.2.2.2.2.2.2.2.1, y.1.2.2.2.2.2.2.2.2.2.2.2.2.2.2.1, y.1.2.2.2.2.2.2.2.2.2.2.2.2.2.2.2.1⟩, y.1.2.2.2.2.2.2.2.2.2.2.2.2.2.2.2.2.1, ⟨y.1.2.2.2.2.2.2.2.2.2.2.2.2.2.2.2.2.2.1, y.1.2.2.2.2.2.2.2.2.2.2.2.2.2.2.2.2.2.2.1⟩, y.1.2.2.2.2.2.2.2.2.2.2.2.2.2.2.2.2.2.2.2.1⟩ : Door).limits.halves, (⟨y.1.1, y.1.2.1, ⟨y.1.2.2.1, ⟨y.1.2.2.2.1, y.1.2.2.2.2.1, y.1.2.2.2.2.2.1, y.1.2.2.2.2.2.2.1⟩, ⟨y.1.2.2.2.2.2.2.2.1, y.1.2.2.2.2.2.2.2.2.1, y.1.2.2.2.2.2.2.2.2.2.1, y.1.2.2.2.2.2.2.2.2.2.2.1⟩, y.1.2.2.2.2.2.2.2.2.2.2.2.1⟩, ⟨y.1.2.2.2.2.2.2.2.2.2.2.2.2.1, y.1.2.2.2.2.2.2.2.2.2.2.2.2.2.1, y.1.2.2.2.2.2.2.2.2.2.2.2.2.2.2.1, y.1.2.2.2.2.2.2.2.2.2.2.2.2.2.2.2.1⟩, y.1.2.2.2.2.2.2.2.2.2.2.2.2.2.2.2.2.1, ⟨y.1.2.2.2.2.2.2.2.2.2.2.2.2.2.2.2.2.2.1, y.1.2.2.2.2.2.2.2.2.2.2.2.2.2.2.2.2.2.2.1⟩, y.1.2.2.2.2.2.2.2.2.2.2.2.2.2.2.2.2.2.2.2.1⟩ : Door).limits.waiting, (⟨y.1.1, y.1.2.1, ⟨y.1.2.2.1, ⟨y.1.2.2.2.1, y.1.2.2.2.2.1, y.1.2.2.2.2.2.1, y.1.2.2.2.2.2.2.1⟩, ⟨y.1.2.2.2.2.2.2.2.1, y.1.2.2.2.2.2.2.2.2.1, y.1.2.2.2.2.2.2.2.2.2.1, y.1.2.2.2.2.2.2.2.2.2.2.1⟩, y.1.2.2.2.2.2.2.2.2.2.2.2.1⟩, ⟨y.1.2.2.2.2.2.2.2.2.2.2.2.2.1, y.1.2.2.2.2.2.2.2.2.2.2.2.2.2.1, y.1.2.2.2.2.2.2.2.2.2.2.2.2.2.2.1, y.1.2.2.2.2.2.2.2.2.2.2.2.2.2.2.2.1⟩, y.1.2.2.2.2.2.2.2.2.2.2.2.2.2.2.2.2.1, ⟨y.1.2.2.2.2.2.2.2.2.2.2.2.2.2.2.2.2.2.1, y.1.2.2.2.2.2.2.2.2.2.2.2.2.2.2.2.2.2.2.1⟩, y.1.2.2.2.2.2.2.2.2.2.2.2.2.2.2.2.2.2.2.2.1⟩ : Door).limits.conns, (⟨y.1.1, y.1.2.1, ⟨y.1.2.2.1, ⟨y.1.2.2.2.1, y.1.2.2.2.2.1, y.1.2.2.2.2.2.1, y.1.2.2.2.2.2.2.1⟩, ⟨y.1.2.2.2.2.2.2.2.1, y.1.2.2.2.2.2.2.2.2.1, y.1.2.2.2.2.2.2.2.2.2.1, y.1.2.2.2.2.2.2.2.2.2.2.1⟩, y.1.2.2.2.2.2.2.2.2.2.2.2.1⟩, ⟨y.1.2.2.2.2.2.2.2.2.2.2.2.2.1, y.1.2.2.2.2.2.2.2.2.2.2.2.2.2.1, y.1.2.2.2.2.2.2.2.2.2.2.2.2.2.2.1, y.1.2.2.2.2.2.2.2.2.2.2.2.2.2.2.2.1⟩, y.1.2.2.2.2.2.2.2.2.2.2.2.2.2.2.2.2.1, ⟨y.1.2.2.2.2.2.2.2.2.2.2.2.2.2.2.2.2.2.1, y.1.2.2.2.2.2.2.2.2.2.2.2.2.2.2.2.2.2.2.1⟩, y.1.2.2.2.2.2.2.2.2.2.2.2.2.2.2.2.2.2.2.2.1⟩ : Door).limits.chal, (⟨y.1.1, y.1.2.1, ⟨y.1.2.2.1, ⟨y.1.2.2.2.1, y.1.2.2.2.2.1, y.1.2.2.2.2.2.1, y.1.2.2.2.2.2.2.1⟩, ⟨y.1.2.2.2.2.2.2.2.1, y.1.2.2.2.2.2.2.2.2.1, y.1.2.2.2.2.2.2.2.2.2.1, y.1.2.2.2.2.2.2.2.2.2.2.1⟩, y.1.2.2.2.2.2.2.2.2.2.2.2.1⟩, ⟨y.1.2.2.2.2.2.2.2.2.2.2.2.2.1, y.1.2.2.2.2.2.2.2.2.2.2.2.2.2.1, y.1.2.2.2.2.2.2.2.2.2.2.2.2.2.2.1, y.1.2.2.2.2.2.2.2.2.2.2.2.2.2.2.2.1⟩, y.1.2.2.2.2.2.2.2.2.2.2.2.2.2.2.2.2.1, ⟨y.1.2.2.2.2.2.2.2.2.2.2.2.2.2.2.2.2.2.1, y.1.2.2.2.2.2.2.2.2.2.2.2.2.2.2.2.2.2.2.1⟩, y.1.2.2.2.2.2.2.2.2.2.2.2.2.2.2.2.2.2.2.2.1⟩ : Door).halves, (⟨y.1.1, y.1.2.1, ⟨y.1.2.2.1, ⟨y.1.2.2.2.1, y.1.2.2.2.2.1, y.1.2.2.2.2.2.1, y.1.2.2.2.2.2.2.1⟩, ⟨y.1.2.2.2.2.2.2.2.1, y.1.2.2.2.2.2.2.2.2.1, y.1.2.2.2.2.2.2.2.2.2.1, y.1.2.2.2.2.2.2.2.2.2.2.1⟩, y.1.2.2.2.2.2.2.2.2.2.2.2.1⟩, ⟨y.1.2.2.2.2.2.2.2.2.2.2.2.2.1, y.1.2.2.2.2.2.2.2.2.2.2.2.2.2.1, y.1.2.2.2.2.2.2.2.2.2.2.2.2.2.2.1, y.1.2.2.2.2.2.2.2.2.2.2.2.2.2.2.2.1⟩, y.1.2.2.2.2.2.2.2.2.2.2.2.2.2.2.2.2.1, ⟨y.1.2.2.2.2.2.2.2.2.2.2.2.2.2.2.2.2.2.1, y.1.2.2.2.2.2.2.2.2.2.2.2.2.2.2.2.2.2.2.1⟩, y.1.2.2.2.2.2.2.2.2.2.2.2.2.2.2.2.2.2.2.2.1⟩ : Door).table.conns, (⟨y.1.1, y.1.2.1, ⟨y.1.2.2.1, ⟨y.1.2.2.2.1, y.1.2.2.2.2.1, y.1.2.2.2.2.2.1, y.1.2.2.2.2.2.2.1⟩, ⟨y.1.2.2.2.2.2.2.2.1, y.1.2.2.2.2.2.2.2.2.1, y.1.2.2.2.2.2.2.2.2.2.1, y.1.2.2.2.2.2.2.2.2.2.2.1⟩, y.1.2.2.2.2.2.2.2.2.2.2.2.1⟩, ⟨y.1.2.2.2.2.2.2.2.2.2.2.2.2.1, y.1.2.2.2.2.2.2.2.2.2.2.2.2.2.1, y.1.2.2.2.2.2.2.2.2.2.2.2.2.2.2.1, y.1.2.2.2.2.2.2.2.2.2.2.2.2.2.2.2.1⟩, y.1.2.2.2.2.2.2.2.2.2.2.2.2.2.2.2.2.1, ⟨y.1.2.2.2.2.2.2.2.2.2.2.2.2.2.2.2.2.2.1, y.1.2.2.2.2.2.2.2.2.2.2.2.2.2.2.2.2.2.2.1⟩, y.1.2.2.2.2.2.2.2.2.2.2.2.2.2.2.2.2.2.2.2.1⟩ : Door).table.waiting, (⟨y.1.1, y.1.2.1, ⟨y.1.2.2.1, ⟨y.1.2.2.2.1, y.1.2.2.2.2.1, y.1.2.2.2.2.2.1, y.1.2.2.2.2.2.2.1⟩, ⟨y.1.2.2.2.2.2.2.2.1, y.1.2.2.2.2.2.2.2.2.1, y.1.2.2.2.2.2.2.2.2.2.1, y.1.2.2.2.2.2.2.2.2.2.2.1⟩, y.1.2.2.2.2.2.2.2.2.2.2.2.1⟩, ⟨y.1.2.2.2.2.2.2.2.2.2.2.2.2.1, y.1.2.2.2.2.2.2.2.2.2.2.2.2.2.1, y.1.2.2.2.2.2.2.2.2.2.2.2.2.2.2.1, y.1.2.2.2.2.2.2.2.2.2.2.2.2.2.2.2.1⟩, y.1.2.2.2.2.2.2.2.2.2.2.2.2.2.2.2.2.1, ⟨y.1.2.2.2.2.2.2.2.2.2.2.2.2.2.2.2.2.2.1, y.1.2.2.2.2.2.2.2.2.2.2.2.2.2.2.2.2.2.2.1⟩, y.1.2.2.2.2.2.2.2.2.2.2.2.2.2.2.2.2.2.2.2.1⟩ : Door).chal, ()), ()))) (fun x y hx => i_DoorOk_1_c x.1 (⟨y.1.1, y.1.2.1, ⟨y.1.2.2.1, ⟨y.1.2.2.2.1, y.1.2.2.2.2.1, y.1.2.2.2.2.2.1, y.1.2.2.2.2.2.2.1⟩, ⟨y.1.2.2.2.2.2.2.2.1, y.1.2.2.2.2.2.2.2.2.1, y.1.2.2.2.2.2.2.2.2.2.1, y.1.2.2.2.2.2.2.2.2.2.2.1⟩, y.1.2.2.2.2.2.2.2.2.2.2.2.1⟩, ⟨y.1.2.2.2.2.2.2.2.2.2.2.2.2.1, y.1.2.2.2.2.2.2.2.2.2.2.2.2.2.1, y.1.2.2.2.2.2.2.2.2.2.2.2.2.2.2.1, y.1.2.2.2.2.2.2.2.2.2.2.2.2.2.2.2.1⟩, y.1.2.2.2.2.2.2.2.2.2.2.2.2.2.2.2.2.1, ⟨y.1.2.2.2.2.2.2.2.2.2.2.2.2.2.2.2.2.2.1, y.1.2.2.2.2.2.2.2.2.2.2.2.2.2.2.2.2.2.2.1⟩, y.1.2.2.2.2.2.2.2.2.2.2.2.2.2.2.2.2.2.2.2.1⟩ : Door))


/-- slices.IndexFunc[[]impl.Half,impl.Half] -/
def g_IndexFunc_Half_i_DoorOk_1_ann : List (Nat × Keep) := [(0, ⟨[0, 1, 7, 8], [.softo 0 6, .softo 0 10, .softo 0 16, .softo 0 17, .softo 0 18], false, 1⟩)]
def g_IndexFunc_Half_i_DoorOk_1_L0_sh : Sh := ⟨[(0, false, [.sl .arg .half]), (1, false, [.fn 42 [0]]), (7, false, [.int .i64]), (8, false, [.int .i64])], [.box [.int .i64, .int .i64, .int .i64, .bool, .int .u64, .int .u64, .sl .any .macRow, .bool, .int .u64, .int .u64, .sl .any .macRow, .bool, .int .i64, .int .i64, .int .i64, .int .i64, .sl .any .half, .sl .any .conn, .sl .any .tupl, .int .i64]]⟩
def g_IndexFunc_Half_i_DoorOk_1_L0_es : List (Ex × Sh) := [(.ret, ⟨[(4, false, [.int .i64])], [.box [.int .i64, .int .i64, .int .i64, .bool, .int .u64, .int .u64, .sl .any .macRow, .bool, .int .u64, .int .u64, .sl .any .macRow, .bool, .int .i64, .int .i64, .int .i64, .int .i64, .sl .any .half, .sl .any .conn, .sl .any .tupl, .int .i64]]⟩), (.exit 0, ⟨[(4, false, [.undef])], [.box [.int .i64, .int .i64, .int .i64, .bool, .int .u64, .int .u64, .sl .any .macRow, .bool, .int .u64, .int .u64, .sl .any .macRow, .bool, .int .i64, .int .i64, .int .i64, .int .i64, .sl .any .half, .sl .any .conn, .sl .any .tupl, .int .i64]]⟩)]
def g_IndexFunc_Half_i_DoorOk_1_L0_mk (v0 : List Half) (v1 : Int) (v2 : Int) (v3 : Int) (v4 : Int) (v5 : Int) (v6 : Bool) (v7 : Int) (v8 : Int) (v9 : List MacRow) (v10 : Bool) (v11 : Int) (v12 : Int) (v13 : List MacRow) (v14 : Bool) (v15 : Int) (v16 : Int) (v17 : Int) (v18 : Int) (v19 : List Half) (v20 : List Conn) (v21 : List Tupl) (v22 : Int) : g_IndexFunc_Half_i_DoorOk_1_L0_sh.T := (((v0, ()), (((), ()), ((v1, ()), ((v2, ()), ())))), ((v3, (v4, (v5, (v6, (v7, (v8, (v9, (v10, (v11, (v12, (v13, (v14, (v15, (v16, (v17, (v18, (v19, (v20, (v21, (v22, ())))))))))))))))))))), ()))
def g_IndexFunc_Half_i_DoorOk_1_L0_mx0 (y0 : Int) (y1 : Int) (y2 : Int) (y3 : Int) (y4 : Bool) (y5 : Int) (y6 : Int) (y7 : List MacRow) (y8 : Bool) (y9 : Int) (y10 : Int) (y11 : List MacRow) (y12 : Bool) (y13 : Int) (y14 : Int) (y15 : Int) (y16 : Int) (y17 : List Half) (y18 : List Conn) (y19 : List Tupl) (y20 : Int) : Sh.T ⟨[(4, false, [.int .i64])], [.box [.int .i64, .int .i64, .int .i64, .bool, .int .u64, .int .u64, .sl .any .macRow, .bool, .int .u64, .int .u64, .sl .any .macRow, .bool, .int .i64, .int .i64, .int .i64, .int .i64, .sl .any .half, .sl .any .conn, .sl .any .tupl, .int .i64]]⟩ := (((y0, ()), ()), ((y1, (y2, (y3, (y4, (y5, (y6, (y7, (y8, (y9, (y10, (y11, (y12, (y13, (y14, (y15, (y16, (y17, (y18, (y19, (y20, ())))))))))))))))))))), ()))
def g_IndexFunc_Half_i_DoorOk_1_L0_mx1 (y0 : Int) (y1 : Int) (y2 : Int) (y3 : Bool) (y4 : Int) (y5 : Int) (y6 : List MacRow) (y7 : Bool) (y8 : Int) (y9 : Int) (y10 : List MacRow) (y11 : Bool) (y12 : Int) (y13 : Int) (y14 : Int) (y15 : Int) (y16 : List Half) (y17 : List Conn) (y18 : List Tupl) (y19 : Int) : Sh.T ⟨[(4, false, [.undef])], [.box [.int .i64, .int .i64, .int .i64, .bool, .int .u64, .int .u64, .sl .any .macRow, .bool, .int .u64, .int .u64, .sl .any .macRow, .bool, .int .i64, .int .i64, .int .i64, .int .i64, .sl .any .half, .sl .any .conn, .sl .any .tupl, .int .i64]]⟩ := ((((), ()), ()), ((y0, (y1, (y2, (y3, (y4, (y5, (y6, (y7, (y8, (y9, (y10, (y11, (y12, (y13, (y14, (y15, (y16, (y17, (y18, (y19, ())))))))))))))))))))), ()))
def g_IndexFunc_Half_i_DoorOk_1_L0_B (v0 : List Half) (v1 : Int) (v2 : Int) (v3 : Int) (v4 : Int) (v5 : Int) (v6 : Bool) (v7 : Int) (v8 : Int) (v9 : List MacRow) (v10 : Bool) (v11 : Int) (v12 : Int) (v13 : List MacRow) (v14 : Bool) (v15 : Int) (v16 : Int) (v17 : Int) (v18 : Int) (v19 : List Half) (v20 : List Conn) (v21 : List Tupl) (v22 : Int) (γ : Type) (fail : γ) (next : g_IndexFunc_Half_i_DoorOk_1_L0_sh.T → γ) (out : WT g_IndexFunc_Half_i_DoorOk_1_L0_es → γ) : γ :=
  bif (decide (v2 < v1)) then
    bif ((decide (0 ≤ v2)) && (decide (v2 < (v0.length : Int)))) then
    letK (α := Bool) (i_DoorOk_1 (v0.getD v2.toNat (Ty.zero .half)) (⟨v3, v4, ⟨v5, ⟨v6, v7, v8, v9⟩, ⟨v10, v11, v12, v13⟩, v14⟩, ⟨v15, v16, v17, v18⟩, v19, ⟨v20, v21⟩, v22⟩ : Door)) fun c2 =>
    bif c2 then
      out (Sum.inl (g_IndexFunc_Half_i_DoorOk_1_L0_mx0 v2 v3 v4 v5 v6 v7 v8 v9 v10 v11 v12 v13 v14 v15 v16 v17 v18 v19 v20 v21 v22))
    else
    next (g_IndexFunc_Half_i_DoorOk_1_L0_mk v0 v1 (IntKind.wrap .i64 (v2 + 1)) v3 v4 v5 v6 v7 v8 v9 v10 v11 v12 v13 v14 v15 v16 v17 v18 v19 v20 v21 v22)
    else fail
  else
  out (Sum.inr (g_IndexFunc_Half_i_DoorOk_1_L0_mx1 v3 v4 v5 v6 v7 v8 v9 v10 v11 v12 v13 v14 v15 v16 v17 v18 v19 v20 v21 v22))
theorem g_IndexFunc_Half_i_DoorOk_1_L0_par (v0 : List Half) (v1 : Int) (v2 : Int) (v3 : Int) (v4 : Int) (v5 : Int) (v6 : Bool) (v7 : Int) (v8 : Int) (v9 : List MacRow) (v10 : Bool) (v11 : Int) (v12 : Int) (v13 : List MacRow) (v14 : Bool) (v15 : Int) (v16 : Int) (v17 : Int) (v18 : Int) (v19 : List Half) (v20 : List Conn) (v21 : List Tupl) (v22 : Int) (γ : Type) (fail : γ) (next : g_IndexFunc_Half_i_DoorOk_1_L0_sh.T → γ) (out : WT g_IndexFunc_Half_i_DoorOk_1_L0_es → γ) : g_IndexFunc_Half_i_DoorOk_1_L0_B v0 v1 v2 v3 v4 v5 v6 v7 v8 v9 v10 v11 v12 v13 v14 v15 v16 v17 v18 v19 v20 v21 v22 γ fail next out = optK (g_IndexFunc_Half_i_DoorOk_1_L0_B v0 v1 v2 v3 v4 v5 v6 v7 v8 v9 v10 v11 v12 v13 v14 v15 v16 v17 v18 v19 v20 v21 v22 _ none (fun v' => some (.inl v')) (fun w => some (.inr w))) fail (fun r => Sum.elim next out r) := by
  unfold g_IndexFunc_Half_i_DoorOk_1_L0_B
  exact bifT (f := (fun o => optK o fail (fun r => Sum.elim next out r))) (fun _ => bifT (f := (fun o => optK o fail (fun r => Sum.elim next out r))) (fun _ => letT (f := (fun o => optK o fail (fun r => Sum.elim next out r))) (fun c2 _ => bifT (f := (fun o => optK o fail (fun r => Sum.elim next out r))) (fun _ => rfl)
      (fun _ => rfl))) (fun _ => rfl))
      (fun _ => rfl)
def g_IndexFunc_Half_i_DoorOk_1_L0_r : Round g_IndexFunc_Half_i_DoorOk_1_L0_sh.T (WT g_IndexFunc_Half_i_DoorOk_1_L0_es) where
  B v γ fail next out := g_IndexFunc_Half_i_DoorOk_1_L0_B v.1.1.1 v.1.2.2.1.1 v.1.2.2.2.1.1 v.2.1.1 v.2.1.2.1 v.2.1.2.2.1 v.2.1.2.2.2.1 v.2.1.2.2.2.2.1 v.2.1.2.2.2.2.2.1 v.2.1.2.2.2.2.2.2.1 v.2.1.2.2.2.2.2.2.2.1 v.2.1.2.2.2.2.2.2.2.2.1 v.2.1.2.2.2.2.2.2.2.2.2.1 v.2.1.2.2.2.2.2.2.2.2.2.2.1 v.2.1.2.2.2.2.2.2.2.2.2.2.2.1 v.2.1.2.2.2.2.2.2.2.2.2.2.2.2.1 v.2.1.2.2.2.2.2.2.2.2.2.2.2.2.2.1 v.2.1.2.2.2.2.2.2.2.2.2.2.2.2.2.2.1 v.2.1.2.2.2.2.2.2.2.2.2.2.2.2.2.2.2.1 v.2.1.2.2.2.2.2.2.2.2.2.2.2.2.2.2.2.2.1 v.2.1.2.2.2.2.2.2.2.2.2.2.2.2.2.2.2.2.2.1 v.2.1.2.2.2.2.2.2.2.2.2.2.2.2.2.2.2.2.2.2.1 v.2.1.2.2.2.2.2.2.2.2.2.2.2.2.2.2.2.2.2.2.2.1 γ fail next out
  par v γ fail next out := g_IndexFunc_Half_i_DoorOk_1_L0_par v.1.1.1 v.1.2.2.1.1 v.1.2.2.2.1.1 v.2.1.1 v.2.1.2.1 v.2.1.2.2.1 v.2.1.2.2.2.1 v.2.1.2.2.2.2.1 v.2.1.2.2.2.2.2.1 v.2.1.2.2.2.2.2.2.1 v.2.1.2.2.2.2.2.2.2.1 v.2.1.2.2.2.2.2.2.2.2.1 v.2.1.2.2.2.2.2.2.2.2.2.1 v.2.1.2.2.2.2.2.2.2.2.2.2.1 v.2.1.2.2.2.2.2.2.2.2.2.2.2.1 v.2.1.2.2.2.2.2.2.2.2.2.2.2.2.1 v.2.1.2.2.2.2.2.2.2.2.2.2.2.2.2.1 v.2.1.2.2.2.2.2.2.2.2.2.2.2.2.2.2.1 v.2.1.2.2.2.2.2.2.2.2.2.2.2.2.2.2.2.1 v.2.1.2.2.2.2.2.2.2.2.2.2.2.2.2.2.2.2.1 v.2.1.2.2.2.2.2.2.2.2.2.2.2.2.2.2.2.2.2.1 v.2.1.2.2.2.2.2.2.2.2.2.2.2.2.2.2.2.2.2.2.1 v.2.1.2.2.2.2.2.2.2.2.2.2.2.2.2.2.2.2.2.2.2.1 γ fail next out
def g_IndexFunc_Half_i_DoorOk_1_L0_fu (v0 : List Half) (v1 : Int) (v2 : Int) (v3 : Int) (v4 : Int) (v5 : Int) (v6 : Bool) (v7 : Int) (v8 : Int) (v9 : List MacRow) (v10 : Bool) (v11 : Int) (v12 : Int) (v13 : List MacRow) (v14 : Bool) (v15 : Int) (v16 : Int) (v17 : Int) (v18 : Int) (v19 : List Half) (v20 : List Conn) (v21 : List Tupl) (v22 : Int) : Nat := (Int.toNat (v1 - v2)) + 1
theorem g_IndexFunc_Half_i_DoorOk_1_L0_lk (v : g_IndexFunc_Half_i_DoorOk_1_L0_sh.T) (next : St → Option Res) (k : Ex → St → Option Res) : evalK te (orcOf (P := Tryz.prog) [i_DoorOk_1_e]) (lorcOf []) Tryz.f75.ntmps g_IndexFunc_Half_i_DoorOk_1_ann (nthLoop (bodyOf Tryz.f75) 0 0) 0 (g_IndexFunc_Half_i_DoorOk_1_L0_sh.enc v) (endK ⟨[0, 1, 7, 8], [.softo 0 6, .softo 0 10, .softo 0 16, .softo 0 17, .softo 0 18], false, 1⟩ ⟨[4], [], false, 1⟩ next k) =
  g_IndexFunc_Half_i_DoorOk_1_L0_r.B v _ none (fun v' => next (g_IndexFunc_Half_i_DoorOk_1_L0_sh.enc v')) (fun w => outK g_IndexFunc_Half_i_DoorOk_1_L0_es k w) := by kernel_rfl
def g_IndexFunc_Half_i_DoorOk_1_L0_le : LE := leOf 0 g_IndexFunc_Half_i_DoorOk_1_L0_sh g_IndexFunc_Half_i_DoorOk_1_L0_es g_IndexFunc_Half_i_DoorOk_1_L0_r.step (fun v => g_IndexFunc_Half_i_DoorOk_1_L0_fu v.1.1.1 v.1.2.2.1.1 v.1.2.2.2.1.1 v.2.1.1 v.2.1.2.1 v.2.1.2.2.1 v.2.1.2.2.2.1 v.2.1.2.2.2.2.1 v.2.1.2.2.2.2.2.1 v.2.1.2.2.2.2.2.2.1 v.2.1.2.2.2.2.2.2.2.1 v.2.1.2.2.2.2.2.2.2.2.1 v.2.1.2.2.2.2.2.2.2.2.2.1 v.2.1.2.2.2.2.2.2.2.2.2.2.1 v.2.1.2.2.2.2.2.2.2.2.2.2.2.1 v.2.1.2.2.2.2.2.2.2.2.2.2.2.2.1 v.2.1.2.2.2.2.2.2.2.2.2.2.2.2.2.1 v.2.1.2.2.2.2.2.2.2.2.2.2.2.2.2.2.1 v.2.1.2.2.2.2.2.2.2.2.2.2.2.2.2.2.2.1 v.2.1.2.2.2.2.2.2.2.2.2.2.2.2.2.2.2.2.1 v.2.1.2.2.2.2.2.2.2.2.2.2.2.2.2.2.2.2.2.1 v.2.1.2.2.2.2.2.2.2.2.2.2.2.2.2.2.2.2.2.2.1 v.2.1.2.2.2.2.2.2.2.2.2.2.2.2.2.2.2.2.2.2.2.1)
theorem g_IndexFunc_Half_i_DoorOk_1_L0_ls (w0 : World) (mo : Mts) (I0 : Nat → Prop) (hmo : mo.length = 1) : LSem Tryz.prog (Sim w0 mo Tryz.f75.ntmps I0) (fun b s k => match Nat.beq 0 b with | true => g_IndexFunc_Half_i_DoorOk_1_L0_le.run s k | false => none) 0 (nthLoop (bodyOf Tryz.f75) 0 0) :=
  le_sem hmo (lorc := lorcOf []) (ann := g_IndexFunc_Half_i_DoorOk_1_ann) (keep := ⟨[0, 1, 7, 8], [.softo 0 6, .softo 0 10, .softo 0 16, .softo 0 17, .softo 0 18], false, 1⟩) (kout := ⟨[4], [], false, 1⟩) teFact mixFact (orcOf_ok _) (by kernel_rfl) (allLoops_of (bs := []) (by kernel_rfl) trivial) g_IndexFunc_Half_i_DoorOk_1_L0_r _ g_IndexFunc_Half_i_DoorOk_1_L0_lk
def g_IndexFunc_Half_i_DoorOk_1_L0_f (v0 : List Half) (v1 : Int) (v3 : Int) (v4 : Int) (v5 : Int) (v6 : Bool) (v7 : Int) (v8 : Int) (v9 : List MacRow) (v10 : Bool) (v11 : Int) (v12 : Int) (v13 : List MacRow) (v14 : Bool) (v15 : Int) (v16 : Int) (v17 : Int) (v18 : Int) (v19 : List Half) (v20 : List Conn) (v21 : List Tupl) (v22 : Int) (v2 : Int) (a : Unit) : Stp (Unit) ((Int)) :=
  letK (α := Bool) (i_DoorOk_1 (v0.getD v2.toNat (Ty.zero .half)) (⟨v3, v4, ⟨v5, ⟨v6, v7, v8, v9⟩, ⟨v10, v11, v12, v13⟩, v14⟩, ⟨v15, v16, v17, v18⟩, v19, ⟨v20, v21⟩, v22⟩ : Door)) fun c2 =>
  bif c2 then
    .out (v2)
  else
  .next ()
theorem g_IndexFunc_Half_i_DoorOk_1_L0_st (v0 : List Half) (v1 : Int) (v2 : Int) (v3 : Int) (v4 : Int) (v5 : Int) (v6 : Bool) (v7 : Int) (v8 : Int) (v9 : List MacRow) (v10 : Bool) (v11 : Int) (v12 : Int) (v13 : List MacRow) (v14 : Bool) (v15 : Int) (v16 : Int) (v17 : Int) (v18 : Int) (v19 : List Half) (v20 : List Conn) (v21 : List Tupl) (v22 : Int) (hlo : 0 ≤ v2) (hhi : v2 < v1) (hN : v1 ≤ 4611686018427387904) (hi0 : v1 ≤ (v0.length : Int)) : g_IndexFunc_Half_i_DoorOk_1_L0_r.step (g_IndexFunc_Half_i_DoorOk_1_L0_mk v0 v1 v2 v3 v4 v5 v6 v7 v8 v9 v10 v11 v12 v13 v14 v15 v16 v17 v18 v19 v20 v21 v22) = Stp.elim (fun a' : Unit => some (Sum.inl (g_IndexFunc_Half_i_DoorOk_1_L0_mk v0 v1 (v2 + 1) v3 v4 v5 v6 v7 v8 v9 v10 v11 v12 v13 v14 v15 v16 v17 v18 v19 v20 v21 v22))) (fun w => some (Sum.inr ((fun p : Int => Sum.inl (g_IndexFunc_Half_i_DoorOk_1_L0_mx0 p v3 v4 v5 v6 v7 v8 v9 v10 v11 v12 v13 v14 v15 v16 v17 v18 v19 v20 v21 v22)) w))) (g_IndexFunc_Half_i_DoorOk_1_L0_f v0 v1 v3 v4 v5 v6 v7 v8 v9 v10 v11 v12 v13 v14 v15 v16 v17 v18 v19 v20 v21 v22 v2 ()) := by
  have hw : (IntKind.wrap .i64 (v2 + 1)) = v2 + 1 := wrap64 (by omega) (by omega)
  show g_IndexFunc_Half_i_DoorOk_1_L0_B v0 v1 v2 v3 v4 v5 v6 v7 v8 v9 v10 v11 v12 v13 v14 v15 v16 v17 v18 v19 v20 v21 v22 (Option (g_IndexFunc_Half_i_DoorOk_1_L0_sh.T ⊕ WT g_IndexFunc_Half_i_DoorOk_1_L0_es)) none (fun v' => some (Sum.inl v')) (fun w => some (Sum.inr w)) = _
  unfold g_IndexFunc_Half_i_DoorOk_1_L0_B g_IndexFunc_Half_i_DoorOk_1_L0_f
  exact bifG (by simp only [decide_eq_true_eq]; omega) (bifG (by (try simp only [Nat.ble_eq, Bool.and_eq_true, decide_eq_true_eq]); grind [maxSl, maxStr, toBytes_length, toInts_length, List.length_set, wrap64]) (letT (f := (Stp.elim (fun a' : Unit => some (Sum.inl (g_IndexFunc_Half_i_DoorOk_1_L0_mk v0 v1 (v2 + 1) v3 v4 v5 v6 v7 v8 v9 v10 v11 v12 v13 v14 v15 v16 v17 v18 v19 v20 v21 v22))) (fun w => some (Sum.inr ((fun p : Int => Sum.inl (g_IndexFunc_Half_i_DoorOk_1_L0_mx0 p v3 v4 v5 v6 v7 v8 v9 v10 v11 v12 v13 v14 v15 v16 v17 v18 v19 v20 v21 v22)) w))))) (fun c2 hc2 => bifT (f := (Stp.elim (fun a' : Unit => some (Sum.inl (g_IndexFunc_Half_i_DoorOk_1_L0_mk v0 v1 (v2 + 1) v3 v4 v5 v6 v7 v8 v9 v10 v11 v12 v13 v14 v15 v16 v17 v18 v19 v20 v21 v22))) (fun w => some (Sum.inr ((fun p : Int => Sum.inl (g_IndexFunc_Half_i_DoorOk_1_L0_mx0 p v3 v4 v5 v6 v7 v8 v9 v10 v11 v12 v13 v14 v15 v16 v17 v18 v19 v20 v21 v22)) w))))) (fun b0 => rfl)
      (fun b0 => (by exact congrArg (fun z => some (Sum.inl (g_IndexFunc_Half_i_DoorOk_1_L0_mk v0 v1 z v3 v4 v5 v6 v7 v8 v9 v10 v11 v12 v13 v14 v15 v16 v17 v18 v19 v20 v21 v22))) hw)))))
theorem g_IndexFunc_Half_i_DoorOk_1_L0_cl (v0 : List Half) (v1 : Int) (v2 : Int) (v3 : Int) (v4 : Int) (v5 : Int) (v6 : Bool) (v7 : Int) (v8 : Int) (v9 : List MacRow) (v10 : Bool) (v11 : Int) (v12 : Int) (v13 : List MacRow) (v14 : Bool) (v15 : Int) (v16 : Int) (v17 : Int) (v18 : Int) (v19 : List Half) (v20 : List Conn) (v21 : List Tupl) (v22 : Int) (h0 : 0 ≤ v2) (h1 : v1 ≤ 4611686018427387904) (h2 : v1 ≤ (v0.length : Int)) : loopF g_IndexFunc_Half_i_DoorOk_1_L0_r.step (g_IndexFunc_Half_i_DoorOk_1_L0_fu v0 v1 v2 v3 v4 v5 v6 v7 v8 v9 v10 v11 v12 v13 v14 v15 v16 v17 v18 v19 v20 v21 v22) (g_IndexFunc_Half_i_DoorOk_1_L0_mk v0 v1 v2 v3 v4 v5 v6 v7 v8 v9 v10 v11 v12 v13 v14 v15 v16 v17 v18 v19 v20 v21 v22) = some (Stp.elim (fun a => (fun i a => Sum.inr (g_IndexFunc_Half_i_DoorOk_1_L0_mx1 v3 v4 v5 v6 v7 v8 v9 v10 v11 v12 v13 v14 v15 v16 v17 v18 v19 v20 v21 v22)) (v2 + 1 * (((Int.toNat (v1 - v2)) : Nat) : Int)) a) (fun p : Int => Sum.inl (g_IndexFunc_Half_i_DoorOk_1_L0_mx0 p v3 v4 v5 v6 v7 v8 v9 v10 v11 v12 v13 v14 v15 v16 v17 v18 v19 v20 v21 v22)) (forN (g_IndexFunc_Half_i_DoorOk_1_L0_f v0 v1 v3 v4 v5 v6 v7 v8 v9 v10 v11 v12 v13 v14 v15 v16 v17 v18 v19 v20 v21 v22) 1 (Int.toNat (v1 - v2)) v2 ())) :=
  forN_loop (step := g_IndexFunc_Half_i_DoorOk_1_L0_r.step) (mk := fun v2 a => g_IndexFunc_Half_i_DoorOk_1_L0_mk v0 v1 v2 v3 v4 v5 v6 v7 v8 v9 v10 v11 v12 v13 v14 v15 v16 v17 v18 v19 v20 v21 v22) (f := g_IndexFunc_Half_i_DoorOk_1_L0_f v0 v1 v3 v4 v5 v6 v7 v8 v9 v10 v11 v12 v13 v14 v15 v16 v17 v18 v19 v20 v21 v22) (e := (fun i a => Sum.inr (g_IndexFunc_Half_i_DoorOk_1_L0_mx1 v3 v4 v5 v6 v7 v8 v9 v10 v11 v12 v13 v14 v15 v16 v17 v18 v19 v20 v21 v22))) (emb := (fun p : Int => Sum.inl (g_IndexFunc_Half_i_DoorOk_1_L0_mx0 p v3 v4 v5 v6 v7 v8 v9 v10 v11 v12 v13 v14 v15 v16 v17 v18 v19 v20 v21 v22))) (st := 1) (Inv := fun v2 a => True) (Int.toNat (v1 - v2)) v2 () _ (Nat.lt_succ_self _) trivial
    (fun j a hj hv => ⟨g_IndexFunc_Half_i_DoorOk_1_L0_st v0 v1 (v2 + 1 * (j : Int)) v3 v4 v5 v6 v7 v8 v9 v10 v11 v12 v13 v14 v15 v16 v17 v18 v19 v20 v21 v22 (by omega) (by omega) (by omega) h2, fun _ _ => trivial⟩)
    (fun a hv => by
      show g_IndexFunc_Half_i_DoorOk_1_L0_B v0 v1 (v2 + 1 * (((Int.toNat (v1 - v2)) : Nat) : Int)) v3 v4 v5 v6 v7 v8 v9 v10 v11 v12 v13 v14 v15 v16 v17 v18 v19 v20 v21 v22 (Option (g_IndexFunc_Half_i_DoorOk_1_L0_sh.T ⊕ WT g_IndexFunc_Half_i_DoorOk_1_L0_es)) none (fun v' => some (Sum.inl v')) (fun w => some (Sum.inr w)) = _
      unfold g_IndexFunc_Half_i_DoorOk_1_L0_B
      exact bifN (by simp only [decide_eq_false_iff_not]; omega) rfl)
def g_IndexFunc_Half_i_DoorOk_1_N (x0 : List Half) (y1_0 : Door) (γ : Type) (fail : γ) (k : Int × Door → γ) : γ :=
  optK (loopF g_IndexFunc_Half_i_DoorOk_1_L0_r.step (g_IndexFunc_Half_i_DoorOk_1_L0_fu x0 (x0.length : Int) 0 y1_0.port y1_0.clock y1_0.keys.epoch y1_0.keys.now.use y1_0.keys.now.k y1_0.keys.now.l y1_0.keys.now.rows y1_0.keys.before.use y1_0.keys.before.k y1_0.keys.before.l y1_0.keys.before.rows y1_0.keys.two y1_0.limits.halves y1_0.limits.waiting y1_0.limits.conns y1_0.limits.chal y1_0.halves y1_0.table.conns y1_0.table.waiting y1_0.chal) (g_IndexFunc_Half_i_DoorOk_1_L0_mk x0 (x0.length : Int) 0 y1_0.port y1_0.clock y1_0.keys.epoch y1_0.keys.now.use y1_0.keys.now.k y1_0.keys.now.l y1_0.keys.now.rows y1_0.keys.before.use y1_0.keys.before.k y1_0.keys.before.l y1_0.keys.before.rows y1_0.keys.two y1_0.limits.halves y1_0.limits.waiting y1_0.limits.conns y1_0.limits.chal y1_0.halves y1_0.table.conns y1_0.table.waiting y1_0.chal)) fail fun w3 =>
    Sum.elim (fun w3 =>
      k (w3.1.1.1, (⟨w3.2.1.1, w3.2.1.2.1, ⟨w3.2.1.2.2.1, ⟨w3.2.1.2.2.2.1, w3.2.1.2.2.2.2.1, w3.2.1.2.2.2.2.2.1, w3.2.1.2.2.2.2.2.2.1⟩, ⟨w3.2.1.2.2.2.2.2.2.2.1, w3.2.1.2.2.2.2.2.2.2.2.1, w3.2.1.2.2.2.2.2.2.2.2.2.1, w3.2.1.2.2.2.2.2.2.2.2.2.2.1⟩, w3.2.1.2.2.2.2.2.2.2.2.2.2.2.1⟩, ⟨w3.2.1.2.2.2.2.2.2.2.2.2.2.2.2.1, w3.2.1.2.2.2.2.2.2.2.2.2.2.2.2.2.1, w3.2.1.2.2.2.2.2.2.2.2.2.2.2.2.2.2.1, w3.2.1.2.2.2.2.2.2.2.2.2.2.2.2.2.2.2.1⟩, w3.2.1.2.2.2.2.2.2.2.2.2.2.2.2.2.2.2.2.1, ⟨w3.2.1.2.2.2.2.2.2.2.2.2.2.2.2.2.2.2.2.2.1, w3.2.1.2.2.2.2.2.2.2.2.2.2.2.2.2.2.2.2.2.2.1⟩, w3.2.1.2.2.2.2.2.2.2.2.2.2.2.2.2.2.2.2.2.2.2.1⟩ : Door)))
    (fun w3 =>
      k ((-1), (⟨w3.2.1.1, w3.2.1.2.1, ⟨w3.2.1.2.2.1, ⟨w3.2.1.2.2.2.1, w3.2.1.2.2.2.2.1, w3.2.1.2.2.2.2.2.1, w3.2.1.2.2.2.2.2.2.1⟩, ⟨w3.2.1.2.2.2.2.2.2.2.1, w3.2.1.2.2.2.2.2.2.2.2.1, w3.2.1.2.2.2.2.2.2.2.2.2.1, w3.2.1.2.2.2.2.2.2.2.2.2.2.1⟩, w3.2.1.2.2.2.2.2.2.2.2.2.2.2.1⟩, ⟨w3.2.1.2.2.2.2.2.2.2.2.2.2.2.2.1, w3.2.1.2.2.2.2.2.2.2.2.2.2.2.2.2.1, w3.2.1.2.2.2.2.2.2.2.2.2.2.2.2.2.2.1, w3.2.1.2.2.2.2.2.2.2.2.2.2.2.2.2.2.2.1⟩, w3.2.1.2.2.2.2.2.2.2.2.2.2.2.2.2.2.2.2.1, ⟨w3.2.1.2.2.2.2.2.2.2.2.2.2.2.2.2.2.2.2.2.1, w3.2.1.2.2.2.2.2.2.2.2.2.2.2.2.2.2.2.2.2.2.1⟩, w3.2.1.2.2.2.2.2.2.2.2.2.2.2.2.2.2.2.2.2.2.2.1⟩ : Door))) w3
def g_IndexFunc_Half_i_DoorOk_1 (x0 : List Half) (y1_0 : Door) : Int × Door :=
  Stp.elim (fun a4 =>
    ((-1), y1_0))
    (fun p4 =>
      (p4, y1_0))
    (forN (g_IndexFunc_Half_i_DoorOk_1_L0_f x0 (x0.length : Int) y1_0.port y1_0.clock y1_0.keys.epoch y1_0.keys.now.use y1_0.keys.now.k y1_0.keys.now.l y1_0.keys.now.rows y1_0.keys.before.use y1_0.keys.before.k y1_0.keys.before.l y1_0.keys.before.rows y1_0.keys.two y1_0.limits.halves y1_0.limits.waiting y1_0.limits.conns y1_0.limits.chal y1_0.halves y1_0.table.conns y1_0.table.waiting y1_0.chal) 1 (Int.toNat ((x0.length : Int) - 0)) 0 ())
theorem g_IndexFunc_Half_i_DoorOk_1_lk (x0 : List Half) (y1_0 : Door) : evalFnM te (orcOf (P := Tryz.prog) [i_DoorOk_1_e]) (lorcOf [g_IndexFunc_Half_i_DoorOk_1_L0_le]) g_IndexFunc_Half_i_DoorOk_1_ann Tryz.f75 (pvs [.sc (.sl .half), .fn 42 [0]] (x0, (), ())) (mos [.box [.c (.int .i64), .c (.int .i64), .c (.int .i64), .c .bool, .c (.int .u64), .c (.int .u64), .c (.sl .macRow), .c .bool, .c (.int .u64), .c (.int .u64), .c (.sl .macRow), .c .bool, .c (.int .i64), .c (.int .i64), .c (.int .i64), .c (.int .i64), .c (.sl .half), .c (.sl .conn), .c (.sl .tupl), .c (.int .i64)]] ((y1_0.port, y1_0.clock, y1_0.keys.epoch, y1_0.keys.now.use, y1_0.keys.now.k, y1_0.keys.now.l, y1_0.keys.now.rows, y1_0.keys.before.use, y1_0.keys.before.k, y1_0.keys.before.l, y1_0.keys.before.rows, y1_0.keys.two, y1_0.limits.halves, y1_0.limits.waiting, y1_0.limits.conns, y1_0.limits.chal, y1_0.halves, y1_0.table.conns, y1_0.table.waiting, y1_0.chal, ()), ())) =
  g_IndexFunc_Half_i_DoorOk_1_N x0 y1_0 _ none (fun v => some ([(false, [RC.c (.int .i64 v.1)])] ++ (mos [.box [.c (.int .i64), .c (.int .i64), .c (.int .i64), .c .bool, .c (.int .u64), .c (.int .u64), .c (.sl .macRow), .c .bool, .c (.int .u64), .c (.int .u64), .c (.sl .macRow), .c .bool, .c (.int .i64), .c (.int .i64), .c (.int .i64), .c (.int .i64), .c (.sl .half), .c (.sl .conn), .c (.sl .tupl), .c (.int .i64)]] ((v.2.port, v.2.clock, v.2.keys.epoch, v.2.keys.now.use, v.2.keys.now.k, v.2.keys.now.l, v.2.keys.now.rows, v.2.keys.before.use, v.2.keys.before.k, v.2.keys.before.l, v.2.keys.before.rows, v.2.keys.two, v.2.limits.halves, v.2.limits.waiting, v.2.limits.conns, v.2.limits.chal, v.2.halves, v.2.table.conns, v.2.table.waiting, v.2.chal, ()), ())).map encO)) := by kernel_rfl
theorem g_IndexFunc_Half_i_DoorOk_1_p (x0 : List Half) (y1_0 : Door) (hx0 : x0.length ≤ 140737488355328) (hy1_0_port : inK .i64 y1_0.port) (hy1_0_clock : inK .i64 y1_0.clock) (hy1_0_keys_epoch : inK .i64 y1_0.keys.epoch) (hy1_0_keys_now_k : inK .u64 y1_0.keys.now.k) (hy1_0_keys_now_l : inK .u64 y1_0.keys.now.l) (hy1_0_keys_now_rows : y1_0.keys.now.rows.length ≤ 140737488355328) (hy1_0_keys_now_rows_e : ∀ y ∈ y1_0.keys.now.rows, ∀ c ∈ Ty.cells .macRow y, FactC c) (hy1_0_keys_before_k : inK .u64 y1_0.keys.before.k) (hy1_0_keys_before_l : inK .u64 y1_0.keys.before.l) (hy1_0_keys_before_rows : y1_0.keys.before.rows.length ≤ 140737488355328) (hy1_0_keys_before_rows_e : ∀ y ∈ y1_0.keys.before.rows, ∀ c ∈ Ty.cells .macRow y, FactC c) (hy1_0_limits_halves : inK .i64 y1_0.limits.halves) (hy1_0_limits_waiting : inK .i64 y1_0.limits.waiting) (hy1_0_limits_conns : inK .i64 y1_0.limits.conns) (hy1_0_limits_chal : inK .i64 y1_0.limits.chal) (hy1_0_halves : y1_0.halves.length ≤ 140737488355328) (hy1_0_table_conns : y1_0.table.conns.length ≤ 140737488355328) (hy1_0_table_conns_e : ∀ y ∈ y1_0.table.conns, ∀ c ∈ Ty.cells .conn y, FactC c) (hy1_0_table_waiting : y1_0.table.waiting.length ≤ 140737488355328) (hy1_0_chal : inK .i64 y1_0.chal)  (γ : Type) (fail : γ) (k : Int × Door → γ) : g_IndexFunc_Half_i_DoorOk_1_N x0 y1_0 γ fail k = k (g_IndexFunc_Half_i_DoorOk_1 x0 y1_0) := by
  unfold g_IndexFunc_Half_i_DoorOk_1_N g_IndexFunc_Half_i_DoorOk_1
  exact loopT (f := k) (g_IndexFunc_Half_i_DoorOk_1_L0_cl x0 (x0.length : Int) 0 y1_0.port y1_0.clock y1_0.keys.epoch y1_0.keys.now.use y1_0.keys.now.k y1_0.keys.now.l y1_0.keys.now.rows y1_0.keys.before.use y1_0.keys.before.k y1_0.keys.before.l y1_0.keys.before.rows y1_0.keys.two y1_0.limits.halves y1_0.limits.waiting y1_0.limits.conns y1_0.limits.chal y1_0.halves y1_0.table.conns y1_0.table.waiting y1_0.chal (by (try simp only [Nat.ble_eq, Bool.and_eq_true, decide_eq_true_eq, g_IndexFunc_Half_i_DoorOk_1_L0_mx0, g_IndexFunc_Half_i_DoorOk_1_L0_mx1]); grind [maxSl, maxStr, toBytes_length, toInts_length, List.length_set, wrap64]) (by (try simp only [Nat.ble_eq, Bool.and_eq_true, decide_eq_true_eq, g_IndexFunc_Half_i_DoorOk_1_L0_mx0, g_IndexFunc_Half_i_DoorOk_1_L0_mx1]); grind [maxSl, maxStr, toBytes_length, toInts_length, List.length_set, wrap64]) (by (try simp only [Nat.ble_eq, Bool.and_eq_true, decide_eq_true_eq, g_IndexFunc_Half_i_DoorOk_1_L0_mx0, g_IndexFunc_Half_i_DoorOk_1_L0_mx1]); grind [maxSl, maxStr, toBytes_length, toInts_length, List.length_set, wrap64])) (fun a4 => rfl)
      (fun p4 => rfl)
theorem g_IndexFunc_Half_i_DoorOk_1_c (x0 : List Half) (y1_0 : Door)  : ConM Tryz.prog 75 (pvs [.sc (.sl .half), .fn 42 [0]] (x0, (), ())) (mos [.box [.c (.int .i64), .c (.int .i64), .c (.int .i64), .c .bool, .c (.int .u64), .c (.int .u64), .c (.sl .macRow), .c .bool, .c (.int .u64), .c (.int .u64), .c (.sl .macRow), .c .bool, .c (.int .i64), .c (.int .i64), .c (.int .i64), .c (.int .i64), .c (.sl .half), .c (.sl .conn), .c (.sl .tupl), .c (.int .i64)]] ((y1_0.port, y1_0.clock, y1_0.keys.epoch, y1_0.keys.now.use, y1_0.keys.now.k, y1_0.keys.now.l, y1_0.keys.now.rows, y1_0.keys.before.use, y1_0.keys.before.k, y1_0.keys.before.l, y1_0.keys.before.rows, y1_0.keys.two, y1_0.limits.halves, y1_0.limits.waiting, y1_0.limits.conns, y1_0.limits.chal, y1_0.halves, y1_0.table.conns, y1_0.table.waiting, y1_0.chal, ()), ())) [rv (.sc (.int .i64)) [] (g_IndexFunc_Half_i_DoorOk_1 x0 y1_0).1] (mos [.box [.c (.int .i64), .c (.int .i64), .c (.int .i64), .c .bool, .c (.int .u64), .c (.int .u64), .c (.sl .macRow), .c .bool, .c (.int .u64), .c (.int .u64), .c (.sl .macRow), .c .bool, .c (.int .i64), .c (.int .i64), .c (.int .i64), .c (.int .i64), .c (.sl .half), .c (.sl .conn), .c (.sl .tupl), .c (.int .i64)]] ((((g_IndexFunc_Half_i_DoorOk_1 x0 y1_0).2).port, ((g_IndexFunc_Half_i_DoorOk_1 x0 y1_0).2).clock, ((g_IndexFunc_Half_i_DoorOk_1 x0 y1_0).2).keys.epoch, ((g_IndexFunc_Half_i_DoorOk_1 x0 y1_0).2).keys.now.use, ((g_IndexFunc_Half_i_DoorOk_1 x0 y1_0).2).keys.now.k, ((g_IndexFunc_Half_i_DoorOk_1 x0 y1_0).2).keys.now.l, ((g_IndexFunc_Half_i_DoorOk_1 x0 y1_0).2).keys.now.rows, ((g_IndexFunc_Half_i_DoorOk_1 x0 y1_0).2).keys.before.use, ((g_IndexFunc_Half_i_DoorOk_1 x0 y1_0).2).keys.before.k, ((g_IndexFunc_Half_i_DoorOk_1 x0 y1_0).2).keys.before.l, ((g_IndexFunc_Half_i_DoorOk_1 x0 y1_0).2).keys.before.rows, ((g_IndexFunc_Half_i_DoorOk_1 x0 y1_0).2).keys.two, ((g_IndexFunc_Half_i_DoorOk_1 x0 y1_0).2).limits.halves, ((g_IndexFunc_Half_i_DoorOk_1 x0 y1_0).2).limits.waiting, ((g_IndexFunc_Half_i_DoorOk_1 x0 y1_0).2).limits.conns, ((g_IndexFunc_Half_i_DoorOk_1 x0 y1_0).2).limits.chal, ((g_IndexFunc_Half_i_DoorOk_1 x0 y1_0).2).halves, ((g_IndexFunc_Half_i_DoorOk_1 x0 y1_0).2).table.conns, ((g_IndexFunc_Half_i_DoorOk_1 x0 y1_0).2).table.waiting, ((g_IndexFunc_Half_i_DoorOk_1 x0 y1_0).2).chal, ()), ())) := by
  refine ConM.of_facts (enters_of Tryz.func75 rfl (by kernel_rfl)) fun hf hg => ?_
  replace hf := factAt hf
  exact evalFn_conLM teFact mixFact (orcOf_ok _) Tryz.func75 (by kernel_rfl) (bs := [0]) (by kernel_rfl) (by kernel_rfl) (by kernel_rfl) rfl (fun w0 mo I0 hmo => ⟨lsem_of_lorc (g_IndexFunc_Half_i_DoorOk_1_L0_ls w0 mo I0 hmo) (by kernel_rfl), trivial⟩) ((g_IndexFunc_Half_i_DoorOk_1_lk x0 y1_0).trans (g_IndexFunc_Half_i_DoorOk_1_p x0 y1_0 ((hf 0 0 rfl rfl).len) ((mbAt hg 0 0 rfl rfl).rng) ((mbAt hg 0 1 rfl rfl).rng) ((mbAt hg 0 2 rfl rfl).rng) ((mbAt hg 0 4 rfl rfl).rng) ((mbAt hg 0 5 rfl rfl).rng) ((mbAt hg 0 6 rfl rfl).len) (fun y hy => (mbAt hg 0 6 rfl rfl).elem hy) ((mbAt hg 0 8 rfl rfl).rng) ((mbAt hg 0 9 rfl rfl).rng) ((mbAt hg 0 10 rfl rfl).len) (fun y hy => (mbAt hg 0 10 rfl rfl).elem hy) ((mbAt hg 0 12 rfl rfl).rng) ((mbAt hg 0 13 rfl rfl).rng) ((mbAt hg 0 14 rfl rfl).rng) ((mbAt hg 0 15 rfl rfl).rng) ((mbAt hg 0 16 rfl rfl).len) ((mbAt hg 0 17 rfl rfl).len) (fun y hy => (mbAt hg 0 17 rfl rfl).elem hy) ((mbAt hg 0 18 rfl rfl).len) ((mbAt hg 0 19 rfl rfl).rng) _ _ _))
noncomputable def g_IndexFunc_Half_i_DoorOk_1_e : Ent1 Tryz.prog := entM 75 [.sc (.sl .half), .fn 42 [0]] [.box [.c (.int .i64), .c (.int .i64), .c (.int .i64), .c .bool, .c (.int .u64), .c (.int .u64), .c (.sl .macRow), .c .bool, .c (.int .u64), .c (.int .u64), .c (.sl .macRow), .c .bool, .c (.int .i64), .c (.int .i64), .c (.int .i64), .c (.int .i64), .c (.sl .half), .c (.sl .conn), .c (.sl .tupl), .c (.int .i64)]] (fun x y => true) (fun x y => (g_IndexFunc_Half_i_DoorOk_1 x.1 (⟨y.1.1, y.1.2.1, ⟨y.1.2.2.1, ⟨y.1.2.2.2.1, y.1.2.2.2.2.1, y.1.2.2.2.2.2.1, y.1.2.2.2.2.2.2.1⟩, ⟨y.1.2.2.2.2.2.2.2.1, y.1.2.2.2.2.2.2.2.2.1, y.1.2.2.2.2.2.2.2.2.2.1, y.1.2.2.2.2.2.2.2.2.2.2.1⟩, y.1.2.2.2.2.2.2.2.2.2.2.2.1⟩, ⟨y.1.2.2.2.2.2.2.2.2.2.2.2.2.1, y.1.2.2.2.2.2.2.2.2.2.2.2.2.2.1, y.1.2.2.2.2.2.2.2.2.2.2.2.2.2.2.1, y.1.2.2.2.2.2.2.2.2.2.2.2.2.2.2.2.1⟩, y.1.2.2.2.2.2.2.2.2.2.2.2.2.2.2.2.2.1, ⟨y.1.2.2.2.2.2.2.2.2.2.2.2.2.2.2.2.2.2.1, y.1.2.2.2.2.2.2.2.2.2.2.2.2.2.2.2.2.2.2.1⟩, y.1.2.2.2.2.2.2.2.2.2.2.2.2.2.2.2.2.2.2.2.1⟩ : Door))) (fun v => [rv (.sc (.int .i64)) [] v.1]) (fun x y v => (mos [.box [.c (.int .i64), .c (.int .i64), .c (.int .i64), .c .bool, .c (.int .u64), .c (.int .u64), .c (.sl .macRow), .c .bool, .c (.int .u64), .c (.int .u64), .c (.sl .macRow), .c .bool, .c (.int .i64), .c (.int .i64), .c (.int .i64), .c (.int .i64), .c (.sl .half), .c (.sl .conn), .c (.sl .tupl), .c (.int .i64)]] ((v.2.port, v.2.clock, v.2.keys.epoch, v.2.keys.now.use, v.2.keys.now.k, v.2.keys.now.l, v.2.keys.now.rows, v.2.keys.before.use, v.2.keys.before.k, v.2.keys.before.l, v.2.keys.before.rows, v.2.keys.two, v.2.limits.halves, v.2.limits.waiting, v.2.limits.conns, v.2.limits.chal, v.2.halves, v.2.table.conns, v.2.table.waiting, v.2.chal, ()), ()))) (fun x y hx => g_IndexFunc_Half_i_DoorOk_1_c x.1 (⟨y.1.1, y.1.2.1, ⟨y.1.2.2.1, ⟨y.1.2.2.2.1, y.1.2.2.2.2.1, y.1.2.2.2.2.2.1, y.1.2.2.2.2.2.2.1⟩, ⟨y.1.2.2.2.2.2.2.2.1, y.1.2.2.2.2.2.2.2.2.1, y.1.2.2.2.2.2.2.2.2.2.1, y.1.2.2.2.2.2.2.2.2.2.2.1⟩, y.1.2.2.2.2.2.2.2.2.2.2.2.1⟩, ⟨y.1.2.2.2.2.2.2.2.2.2.2.2.2.1, y.1.2.2.2.2.2.2.2.2.2.2.2.2.2.1, y.1.2.2.2.2.2.2.2.2.2.2.2.2.2.2.1, y.1.2.2.2.2.2.2.2.2.2.2.2.2.2.2.2.1⟩, y.1.2.2.2.2.2.2.2.2.2.2.2.2.2.2.2.2.1, ⟨y.1.2.2.2.2.2.2.2.2.2.2.2.2.2.2.2.2.2.1, y.1.2.2.2.2.2.2.2.2.2.2.2.2.2.2.2.2.2.2.1⟩, y.1.2.2.2.2.2.2.2.2.2.2.2.2.2.2.2.2.2.2.2.1⟩ : Door))


/-- slices.ContainsFunc[[]impl.Half,impl.Half] -/
def g_ContainsFunc_Half_i_DoorOk_1_N (x0 : List Half) (y1_0 : Door) (γ : Type) (fail : γ) (k : Bool × Door → γ) : γ :=
  letK (α := Int × Door) (g_IndexFunc_Half_i_DoorOk_1 x0 y1_0) fun c1 =>
  k ((decide (0 ≤ c1.1)), c1.2)
def g_ContainsFunc_Half_i_DoorOk_1 (x0 : List Half) (y1_0 : Door) : Bool × Door :=
  letK (α := Int × Door) (g_IndexFunc_Half_i_DoorOk_1 x0 y1_0) fun c1 =>
  ((decide (0 ≤ c1.1)), c1.2)
theorem g_ContainsFunc_Half_i_DoorOk_1_lk (x0 : List Half) (y1_0 : Door) : evalFnM te (orcOf (P := Tryz.prog) [g_IndexFunc_Half_i_DoorOk_1_e]) lorc0 [] Tryz.f41 (pvs [.sc (.sl .half), .fn 42 [0]] (x0, (), ())) (mos [.box [.c (.int .i64), .c (.int .i64), .c (.int .i64), .c .bool, .c (.int .u64), .c (.int .u64), .c (.sl .macRow), .c .bool, .c (.int .u64), .c (.int .u64), .c (.sl .macRow), .c .bool, .c (.int .i64), .c (.int .i64), .c (.int .i64), .c (.int .i64), .c (.sl .half), .c (.sl .conn), .c (.sl .tupl), .c (.int .i64)]] ((y1_0.port, y1_0.clock, y1_0.keys.epoch, y1_0.keys.now.use, y1_0.keys.now.k, y1_0.keys.now.l, y1_0.keys.now.rows, y1_0.keys.before.use, y1_0.keys.before.k, y1_0.keys.before.l, y1_0.keys.before.rows, y1_0.keys.two, y1_0.limits.halves, y1_0.limits.waiting, y1_0.limits.conns, y1_0.limits.chal, y1_0.halves, y1_0.table.conns, y1_0.table.waiting, y1_0.chal, ()), ())) =
  g_ContainsFunc_Half_i_DoorOk_1_N x0 y1_0 _ none (fun v => some ([(false, [RC.c (.bool v.1)])] ++ (mos [.box [.c (.int .i64), .c (.int .i64), .c (.int .i64), .c .bool, .c (.int .u64), .c (.int .u64), .c (.sl .macRow), .c .bool, .c (.int .u64), .c (.int .u64), .c (.sl .macRow), .c .bool, .c (.int .i64), .c (.int .i64), .c (.int .i64), .c (.int .i64), .c (.sl .half), .c (.sl .conn), .c (.sl .tupl), .c (.int .i64)]] ((v.2.port, v.2.clock, v.2.keys.epoch, v.2.keys.now.use, v.2.keys.now.k, v.2.keys.now.l, v.2.keys.now.rows, v.2.keys.before.use, v.2.keys.before.k, v.2.keys.before.l, v.2.keys.before.rows, v.2.keys.two, v.2.limits.halves, v.2.limits.waiting, v.2.limits.conns, v.2.limits.chal, v.2.halves, v.2.table.conns, v.2.table.waiting, v.2.chal, ()), ())).map encO)) := by kernel_rfl
theorem g_ContainsFunc_Half_i_DoorOk_1_p (x0 : List Half) (y1_0 : Door)   (γ : Type) (fail : γ) (k : Bool × Door → γ) : g_ContainsFunc_Half_i_DoorOk_1_N x0 y1_0 γ fail k = k (g_ContainsFunc_Half_i_DoorOk_1 x0 y1_0) := by
  unfold g_ContainsFunc_Half_i_DoorOk_1_N g_ContainsFunc_Half_i_DoorOk_1
  exact letT (f := k) (fun c1 hc1 => rfl)
theorem g_ContainsFunc_Half_i_DoorOk_1_c (x0 : List Half) (y1_0 : Door)  : ConM Tryz.prog 41 (pvs [.sc (.sl .half), .fn 42 [0]] (x0, (), ())) (mos [.box [.c (.int .i64), .c (.int .i64), .c (.int .i64), .c .bool, .c (.int .u64), .c (.int .u64), .c (.sl .macRow), .c .bool, .c (.int .u64), .c (.int .u64), .c (.sl .macRow), .c .bool, .c (.int .i64), .c (.int .i64), .c (.int .i64), .c (.int .i64), .c (.sl .half), .c (.sl .conn), .c (.sl .tupl), .c (.int .i64)]] ((y1_0.port, y1_0.clock, y1_0.keys.epoch, y1_0.keys.now.use, y1_0.keys.now.k, y1_0.keys.now.l, y1_0.keys.now.rows, y1_0.keys.before.use, y1_0.keys.before.k, y1_0.keys.before.l, y1_0.keys.before.rows, y1_0.keys.two, y1_0.limits.halves, y1_0.limits.waiting, y1_0.limits.conns, y1_0.limits.chal, y1_0.halves, y1_0.table.conns, y1_0.table.waiting, y1_0.chal, ()), ())) [rv (.sc .bool) [] (g_ContainsFunc_Half_i_DoorOk_1 x0 y1_0).1] (mos [.box [.c (.int .i64), .c (.int .i64), .c (.int .i64), .c .bool, .c (.int .u64), .c (.int .u64), .c (.sl .macRow), .c .bool, .c (.int .u64), .c (.int .u64), .c (.sl .macRow), .c .bool, .c (.int .i64), .c (.int .i64), .c (.int .i64), .c (.int .i64), .c (.sl .half), .c (.sl .conn), .c (.sl .tupl), .c (.int .i64)]] ((((g_ContainsFunc_Half_i_DoorOk_1 x0 y1_0).2).port, ((g_ContainsFunc_Half_i_DoorOk_1 x0 y1_0).2).clock, ((g_ContainsFunc_Half_i_DoorOk_1 x0 y1_0).2).keys.epoch, ((g_ContainsFunc_Half_i_DoorOk_1 x0 y1_0).2).keys.now.use, ((g_ContainsFunc_Half_i_DoorOk_1 x0 y1_0).2).keys.now.k, ((g_ContainsFunc_Half_i_DoorOk_1 x0 y1_0).2).keys.now.l, ((g_ContainsFunc_Half_i_DoorOk_1 x0 y1_0).2).keys.now.rows, ((g_ContainsFunc_Half_i_DoorOk_1 x0 y1_0).2).keys.before.use, ((g_ContainsFunc_Half_i_DoorOk_1 x0 y1_0).2).keys.before.k, ((g_ContainsFunc_Half_i_DoorOk_1 x0 y1_0).2).keys.before.l, ((g_ContainsFunc_Half_i_DoorOk_1 x0 y1_0).2).keys.before.rows, ((g_ContainsFunc_Half_i_DoorOk_1 x0 y1_0).2).keys.two, ((g_ContainsFunc_Half_i_DoorOk_1 x0 y1_0).2).limits.halves, ((g_ContainsFunc_Half_i_DoorOk_1 x0 y1_0).2).limits.waiting, ((g_ContainsFunc_Half_i_DoorOk_1 x0 y1_0).2).limits.conns, ((g_ContainsFunc_Half_i_DoorOk_1 x0 y1_0).2).limits.chal, ((g_ContainsFunc_Half_i_DoorOk_1 x0 y1_0).2).halves, ((g_ContainsFunc_Half_i_DoorOk_1 x0 y1_0).2).table.conns, ((g_ContainsFunc_Half_i_DoorOk_1 x0 y1_0).2).table.waiting, ((g_ContainsFunc_Half_i_DoorOk_1 x0 y1_0).2).chal, ()), ())) := by
  exact evalFn_conLM teFact mixFact (orcOf_ok _) Tryz.func41 (by kernel_rfl) (bs := []) (by kernel_rfl) (by kernel_rfl) (by kernel_rfl) rfl (fun w0 mo I0 hmo => trivial) ((g_ContainsFunc_Half_i_DoorOk_1_lk x0 y1_0).trans (g_ContainsFunc_Half_i_DoorOk_1_p x0 y1_0  _ _ _))
noncomputable def g_ContainsFunc_Half_i_DoorOk_1_e : Ent1 Tryz.prog := entM 41 [.sc (.sl .half), .fn 42 [0]] [.box [.c (.int .i64), .c (.int .i64), .c (.int .i64), .c .bool, .c (.int .u64), .c (.int .u64), .c (.sl .macRow), .c .bool, .c (.int .u64), .c (.int .u64), .c (.sl .macRow), .c .bool, .c (.int .i64), .c (.int .i64), .c (.int .i64), .c (.int .i64), .c (.sl .half), .c (.sl .conn), .c (.sl .tupl), .c (.int .i64)]] (fun x y => true) (fun x y => (g_ContainsFunc_Half_i_DoorOk_1 x.1 (⟨y.1.1, y.1.2.1, ⟨y.1.2.2.1, ⟨y.1.2.2.2.1, y.1.2.2.2.2.1, y.1.2.2.2.2.2.1, y.1.2.2.2.2.2.2.1⟩, ⟨y.1.2.2.2.2.2.2.2.1, y.1.2.2.2.2.2.2.2.2.1, y.1.2.2.2.2.2.2.2.2.2.1, y.1.2.2.2.2.2.2.2.2.2.2.1⟩, y.1.2.2.2.2.2.2.2.2.2.2.2.1⟩, ⟨y.1.2.2.2.2.2.2.2.2.2.2.2.2.1, y.1.2.2.2.2.2.2.2.2.2.2.2.2.2.1, y.1.2.2.2.2.2.2.2.2.2.2.2.2.2.2.1, y.1.2.2.2.2.2.2.2.2.2.2.2.2.2.2.2.1⟩, y.1.2.2.2.2.2.2.2.2.2.2.2.2.2.2.2.2.1, ⟨y.1.2.2.2.2.2.2.2.2.2.2.2.2.2.2.2.2.2.1, y.1.2.2.2.2.2.2.2.2.2.2.2.2.2.2.2.2.2.2.1⟩, y.1.2.2.2.2.2.2.2.2.2.2.2.2.2.2.2.2.2.2.2.1⟩ : Door))) (fun v => [rv (.sc .bool) [] v.1]) (fun x y v => (mos [.box [.c (.int .i64), .c (.int .i64), .c (.int .i64), .c .bool, .c (.int .u64), .c (.int .u64), .c (.sl .macRow), .c .bool, .c (.int .u64), .c (.int .u64), .c (.sl .macRow), .c .bool, .c (.int .i64), .c (.int .i64), .c (.int .i64), .c (.int .i64), .c (.sl .half), .c (.sl .conn), .c (.sl .tupl), .c (.int .i64)]] ((v.2.port, v.2.clock, v.2.keys.epoch, v.2.keys.now.use, v.2.keys.now.k, v.2.keys.now.l, v.2.keys.now.rows, v.2.keys.before.use, v.2.keys.before.k, v.2.keys.before.l, v.2.keys.before.rows, v.2.keys.two, v.2.limits.halves, v.2.limits.waiting, v.2.limits.conns, v.2.limits.chal, v.2.halves, v.2.table.conns, v.2.table.waiting, v.2.chal, ()), ()))) (fun x y hx => g_ContainsFunc_Half_i_DoorOk_1_c x.1 (⟨y.1.1, y.1.2.1, ⟨y.1.2.2.1, ⟨y.1.2.2.2.1, y.1.2.2.2.2.1, y.1.2.2.2.2.2.1, y.1.2.2.2.2.2.2.1⟩, ⟨y.1.2.2.2.2.2.2.2.1, y.1.2.2.2.2.2.2.2.2.1, y.1.2.2.2.2.2.2.2.2.2.1, y.1.2.2.2.2.2.2.2.2.2.2.1⟩, y.1.2.2.2.2.2.2.2.2.2.2.2.1⟩, ⟨y.1.2.2.2.2.2.2.2.2.2.2.2.2.1, y.1.2.2.2.2.2.2.2.2.2.2.2.2.2.1, y.1.2.2.2.2.2.2.2.2.2.2.2.2.2.2.1, y.1.2.2.2.2.2.2.2.2.2.2.2.2.2.2.2.1⟩, y.1.2.2.2.2.2.2.2.2.2.2.2.2.2.2.2.2.1, ⟨y.1.2.2.2.2.2.2.2.2.2.2.2.2.2.2.2.2.2.1, y.1.2.2.2.2.2.2.2.2.2.2.2.2.2.2.2.2.2.2.1⟩, y.1.2.2.2.2.2.2.2.2.2.2.2.2.2.2.2.2.2.2.2.1⟩ : Door))


/-- impl.DoorOk -/
def i_DoorOk_N (x0 : Door) (γ : Type) (fail : γ) (k : Bool → γ) : γ :=
  letK (α := Bool) (i_WordOk x0.port 16) fun c1 =>
  bif (!c1) then
    k false
  else
  letK (α := Bool) (i_WordOk x0.clock 32) fun c2 =>
  bif (!c2) then
    k false
  else
  letK (α := Bool) (i_KeysOk x0.keys) fun c3 =>
  bif (!c3) then
    k false
  else
  letK (α := Bool) (i_TableOk x0.table x0.limits) fun c4 =>
  bif (!c4) then
    k false
  else
  letK (α := Bool) (i_HalvesOk x0.halves) fun c5 =>
  bif (!c5) then
    k false
  else
  bif (decide (x0.limits.halves < (x0.halves.length : Int))) then
    k false
  else
  letK (α := Bool) (i_within x0.chal 0 x0.limits.chal) fun c6 =>
  bif (!c6) then
    k false
  else
  letK (α := Bool × Door) (g_ContainsFunc_Half_i_DoorOk_1 x0.halves x0) fun c7 =>
  k (!c7.1)
def i_DoorOk (x0 : Door) : Bool :=
  letK (α := Bool) (i_WordOk x0.port 16) fun c1 =>
  bif (!c1) then
    false
  else
  letK (α := Bool) (i_WordOk x0.clock 32) fun c2 =>
  bif (!c2) then
    false
  else
  letK (α := Bool) (i_KeysOk x0.keys) fun c3 =>
  bif (!c3) then
    false
  else
  letK (α := Bool) (i_TableOk x0.table x0.limits) fun c4 =>
  bif (!c4) then
    false
  else
  letK (α := Bool) (i_HalvesOk x0.halves) fun c5 =>
  bif (!c5) then
    false
  else
  bif (decide (x0.limits.halves < (x0.halves.length : Int))) then
    false
  else
  letK (α := Bool) (i_within x0.chal 0 x0.limits.chal) fun c6 =>
  bif (!c6) then
    false
  else
  letK (α := Bool × Door) (g_ContainsFunc_Half_i_DoorOk_1 x0.halves x0) fun c7 =>
  (!c7.1)
theorem i_DoorOk_lk (x0 : Door) : evalFn te (orcOf (P := Tryz.prog) [i_WordOk_e, i_KeysOk_e, i_TableOk_e, i_HalvesOk_e, i_within_e, g_ContainsFunc_Half_i_DoorOk_1_e]) lorc0 [] Tryz.f16 (pvs [.st .door] (x0, ())) =
  i_DoorOk_N x0 _ none (fun v => some [(false, [RC.c (.bool v)])]) := by kernel_rfl
theorem i_DoorOk_p (x0 : Door)   (γ : Type) (fail : γ) (k : Bool → γ) : i_DoorOk_N x0 γ fail k = k (i_DoorOk x0) := by
  unfold i_DoorOk_N i_DoorOk
  exact letT (f := k) (fun c1 hc1 => bifT (f := k) (fun b0 => rfl)
      (fun b0 => letT (f := k) (fun c2 hc2 => bifT (f := k) (fun b1 => rfl)
      (fun b1 => letT (f := k) (fun c3 hc3 => bifT (f := k) (fun b2 => rfl)
      (fun b2 => letT (f := k) (fun c4 hc4 => bifT (f := k) (fun b3 => rfl)
      (fun b3 => letT (f := k) (fun c5 hc5 => bifT (f := k) (fun b4 => rfl)
      (fun b4 => bifT (f := k) (fun b5 => rfl)
      (fun b5 => letT (f := k) (fun c6 hc6 => bifT (f := k) (fun b6 => rfl)
      (fun b6 => letT (f := k) (fun c7 hc7 => rfl))))))))))))))
theorem i_DoorOk_c (x0 : Door)  : Con Tryz.prog 16 (pvs [.st .door] (x0, ())) [rv (.sc .bool) [] (i_DoorOk x0)] := by
  exact evalFn_con0 teFact mixFact (orcOf_ok _) Tryz.func16 (by kernel_rfl) ((i_DoorOk_lk x0).trans (i_DoorOk_p x0  _ _ _))
noncomputable def i_DoorOk_e : Ent1 Tryz.prog := entA 16 [.st .door] (fun x => (i_DoorOk x.1)) (fun v => [rv (.sc .bool) [] v]) (fun x => i_DoorOk_c x.1)


/-- impl.StackOk -/
def i_StackOk_N (x0 : Stac) (γ : Type) (fail : γ) (k : Bool → γ) : γ :=
  letK (α := Bool) (i_LinkOk x0.link) fun c1 =>
  bif c1 then
    letK (α := Bool) (i_DoorOk x0.door) fun c2 =>
    k c2
  else
  k false
def i_StackOk (x0 : Stac) : Bool :=
  letK (α := Bool) (i_LinkOk x0.link) fun c1 =>
  bif c1 then
    letK (α := Bool) (i_DoorOk x0.door) fun c2 =>
    c2
  else
  false
theorem i_StackOk_lk (x0 : Stac) : evalFn te (orcOf (P := Tryz.prog) [i_LinkOk_e, i_DoorOk_e]) lorc0 [] Tryz.f7 (pvs [.st .stac] (x0, ())) =
  i_StackOk_N x0 _ none (fun v => some [(false, [RC.c (.bool v)])]) := by kernel_rfl
theorem i_StackOk_p (x0 : Stac)   (γ : Type) (fail : γ) (k : Bool → γ) : i_StackOk_N x0 γ fail k = k (i_StackOk x0) := by
  unfold i_StackOk_N i_StackOk
  exact letT (f := k) (fun c1 hc1 => bifT (f := k) (fun b0 => letT (f := k) (fun c2 hc2 => rfl))
      (fun b0 => rfl))
theorem i_StackOk_c (x0 : Stac)  : Con Tryz.prog 7 (pvs [.st .stac] (x0, ())) [rv (.sc .bool) [] (i_StackOk x0)] := by
  exact evalFn_con0 teFact mixFact (orcOf_ok _) Tryz.func7 (by kernel_rfl) ((i_StackOk_lk x0).trans (i_StackOk_p x0  _ _ _))
noncomputable def i_StackOk_e : Ent1 Tryz.prog := entA 7 [.st .stac] (fun x => (i_StackOk x.1)) (fun v => [rv (.sc .bool) [] v]) (fun x => i_StackOk_c x.1)



theorem s_WordOk_eq (n b : Int) : s_WordOk n b = bif s_l1In b 1 62 then s_l1In n 0 (IntKind.wrap .i64 ((IntKind.wrap .i64 (1 * 2 ^ (min (IntKind.wrap .u64 b).toNat 64))) - 1)) else false := by
  simp only [s_WordOk, letK]
theorem i_WordOk_eq (n b : Int) : i_WordOk n b = bif i_within b 1 62 then i_within n 0 (IntKind.wrap .i64 ((IntKind.wrap .i64 (1 * 2 ^ (min b.toNat 64))) - 1)) else false := by
  simp only [i_WordOk, letK]
theorem q_WordOk (n b : Int) : s_WordOk n b = i_WordOk n b := by
  rw [s_WordOk_eq, i_WordOk_eq, s_l1In_eq, i_within_eq]
  cases h : (decide (1 ≤ b) && decide (b ≤ 62)) with
  | false => rw [cond_false, cond_false]
  | true =>
    have h1 : 1 ≤ b ∧ b ≤ 62 := by simpa using h
    have h2 : IntKind.u64.wrap b = b := by rw [wrapU_def]; exact Int.emod_eq_of_lt (by omega) (by omega)
    rw [h2, cond_true, cond_true, s_l1In_eq, i_within_eq]


theorem q_within (a b c : Int) : s_l1In a b c = i_within a b c := by rw [s_l1In_eq, i_within_eq]


theorem q_TupleOk (x : Tupl) : s_TupleOk x = i_TupleOk x := by simp only [s_TupleOk, i_TupleOk, q_WordOk]


theorem q_OptionsOk (x : Opti) : s_OptionsOk x = i_OptionsOk x := by simp only [s_OptionsOk, i_OptionsOk, q_WordOk, q_within]


theorem q_SameMac (x y : Mac) : s_SameMac x y = i_SameMac x y := by
  unfold s_SameMac i_SameMac g_Equal_MacRow letK
  rw [show forN (s_SameMac_L0_f x.use x.k x.l x.rows y.use y.k y.l y.rows) 1 (Int.toNat ((x.rows.length : Int) - 0)) 0 () = forN (g_Equal_MacRow_L0_f x.rows y.rows (x.rows.length : Int)) 1 (Int.toNat ((x.rows.length : Int) - 0)) 0 () from forN_congr (fun _ _ => rfl) _ _ _]
  have e1 : (x.k != y.k) = !(x.k == y.k) := rfl
  have e2 : (x.l != y.l) = !(x.l == y.l) := rfl
  rw [e1, e2]
  cases (x.use == y.use) <;> cases (x.k == y.k) <;> cases (x.l == y.l) <;> rfl
theorem SameMac_refl (x : Mac) : i_SameMac x x = true := by
  unfold i_SameMac g_Equal_MacRow letK
  rw [toNat_sub0, forN_list x.rows _ rfl (F := fun j y a => bif (fun _ => false) y then .out () else .next ()) (by
    intro j y a h
    simp [g_Equal_MacRow_L0_f])]
  rw [listN_all x.rows 0 (by simp)]
  simp [Stp.elim]
theorem SameMac_none (x : Mac) (h : i_SameMac x ⟨false, 0, 0, []⟩ = true) : x = ⟨false, 0, 0, []⟩ := by
  unfold i_SameMac g_Equal_MacRow letK at h
  obtain ⟨u, k, l, r⟩ := x
  cases r with
  | nil => simp [forN, Stp.elim] at h; obtain ⟨h1, h2, h3⟩ := h; subst h1; subst h2; subst h3; rfl
  | cons a b =>
    have : (((a :: b).length : Int) != (([] : List MacRow).length : Int)) = true := by simp; omega
    simp only [this, cond_true] at h
    revert h
    cases (u == false) <;> cases (k == 0) <;> cases (l == 0) <;> simp


theorem forN_ext {A W : Type} {f g : Int → A → Stp A W} : ∀ (k : Nat) (i : Nat) (a : A), (∀ j a, j < i + k → f (j : Int) a = g (j : Int) a) → forN f 1 k (i : Int) a = forN g 1 k (i : Int) a
  | 0, _, _, _ => rfl
  | k + 1, i, a, h => by
    simp only [forN, h i a (by omega)]
    cases g (i : Int) a with
    | out w => rfl
    | next a' => simp only [Stp.elim]; rw [show ((i : Int) + 1) = ((i + 1 : Nat) : Int) by omega]; exact forN_ext k (i + 1) a' (fun j a hj => h j a (by omega))
theorem MacOk_in (r : List MacRow) (u : Bool) (k l : Int) (j : Nat) (hj : j < r.length) :
    Stp.elim (γ := Stp Unit Unit) (fun a3 => .next ()) (fun p3 => .out ()) (forN (s_MacOk_L0_0_f (j : Int) u k l r) 1 (Int.toNat ((j : Int) - 0)) 0 ()) =
    bif (g_ContainsFunc_MacRow_i_MacOk_1 ((r.take j).drop 0) (r.getD j (Ty.zero .macRow))).1 then .out () else .next () := by
  let p : MacRow → Bool := fun y => y.input == (r.getD j (Ty.zero .macRow)).input
  unfold g_ContainsFunc_MacRow_i_MacOk_1 g_IndexFunc_MacRow_i_MacOk_1
  rw [List.drop_zero]
  have hl : (r.take j).length = j := by rw [List.length_take]; omega
  rw [forN_list (r.take j) _ (by rw [hl]; simp) (F := fun q y a => bif p y then .out () else .next ()) (by
    intro q y a h
    have hq : q < j := by
      have := (List.getElem?_eq_some_iff.1 h).1; omega
    have h2 : r[q]? = some y := by rw [List.getElem?_take] at h; simpa [hq] using h
    simp only [s_MacOk_L0_0_f, toNat_cast, getD_some h2, p])]
  rw [forN_list (r.take j) _ (by simp) (F := fun q y a => bif p y then .out (q : Int) else .next ()) (by
    intro q y a h
    simp only [g_IndexFunc_MacRow_i_MacOk_1_L0_f, letK, i_MacOk_1, toNat_cast, getD_some h, p])]
  rw [listN_find (w := fun _ _ => ()), listN_find (w := fun j _ => (j : Int))]
  simp only [letK]
  cases h : (r.take j).findIdx? p with
  | none => simp [Stp.elim]
  | some i =>
    have := (List.findIdx?_eq_some_iff_getElem.1 h).1
    simp only [List.getElem?_eq_getElem this, Stp.elim]
    simp
theorem q_MacOk (x : Mac) : s_MacOk x = i_MacOk x := by
  unfold s_MacOk i_MacOk
  have e : forN (s_MacOk_L0_f x.use x.k x.l x.rows) 1 (Int.toNat ((x.rows.length : Int) - 0)) 0 () = forN (i_MacOk_L0_f x.rows (x.rows.length : Int) x.use x.k x.l x.rows) 1 (Int.toNat ((x.rows.length : Int) - 0)) 0 () := by
    rw [toNat_sub0]
    refine forN_ext x.rows.length 0 () (fun j a hj => ?_)
    have := MacOk_in x.rows x.use x.k x.l j (by omega)
    simp only [s_MacOk_L0_f, i_MacOk_L0_f, letK, toNat_cast, q_within] at this ⊢
    rw [this]
  rw [e]
  have e1 : (x.k != 0) = !(x.k == 0) := rfl
  have e2 : (x.l != 0) = !(x.l == 0) := rfl
  have e3 : decide (64 < (x.rows.length : Int)) = !decide ((x.rows.length : Int) ≤ 64) := by
    rcases Int.lt_or_le 64 (x.rows.length : Int) with h | h
    · simp [h, show ¬ ((x.rows.length : Int) ≤ 64) by omega]
    · simp [h, show ¬ (64 < (x.rows.length : Int)) by omega]
  rw [e1, e2, e3]
  cases x.use with
  | false => rfl
  | true =>
    cases forN (i_MacOk_L0_f x.rows (x.rows.length : Int) true x.k x.l x.rows) 1 (Int.toNat ((x.rows.length : Int) - 0)) 0 () <;> cases (x.k == 0) <;> cases (x.l == 0) <;> cases decide ((x.rows.length : Int) ≤ 64) <;> rfl


theorem factFl (f : Fl) : FactC (f.cell f.zero) := by
  cases f with
  | int k => exact .int _ _ (by cases k <;> exact ⟨by decide, by decide⟩)
  | bool => exact .bool _
  | str => exact .str _ (Nat.zero_le _)
  | sl t => exact .sl _ _ (Nat.zero_le _) (fun x hx => nomatch hx)
theorem factZeroH : ∀ (fs : List Fl), ∀ c ∈ cellsH fs (zeroH fs), FactC c
  | [], c, hc => nomatch hc
  | f :: fs, c, hc => by
    rcases List.mem_cons.1 hc with rfl | h
    · exact factFl f
    · exact factZeroH fs c h
theorem factZero (t : Ty) : ∀ c ∈ Ty.cells t (Ty.zero t), FactC c := by
  have : Ty.cells t (Ty.zero t) = cellsH t.fl (zeroH t.fl) := by simp only [Ty.cells, Ty.zero, Ty.toH_ofH]
  rw [this]
  exact factZeroH _

theorem w_szEntryS_sm (x0 : List Entr) (x1 : Int) (hn : 0 ≤ x1 ∧ x1 ≤ 1048576) (hx0 : x0.length ≤ 140737488355328) : 0 ≤ w_szEntryS x0 x1 → w_szEntryS x0 x1 ≤ 1048576 ∧ x0.length ≤ 1048576 := by
  unfold w_szEntryS
  rw [wrap64 (by omega) (by omega)]
  cases hd : decide (x1 - (x0.length : Int) < 0) with
  | true => intro h; simp only [cond_true] at h; omega
  | false =>
    simp only [decide_eq_false_iff_not] at hd
    simp only [cond_false]
    intro h; omega

theorem w_szHalfS_sm (x0 : List Half) (x1 : Int) (hn : 0 ≤ x1 ∧ x1 ≤ 1048576) (hx0 : x0.length ≤ 140737488355328) : 0 ≤ w_szHalfS x0 x1 → w_szHalfS x0 x1 ≤ 1048576 ∧ x0.length ≤ 1048576 := by
  unfold w_szHalfS
  rw [wrap64 (by omega) (by omega)]
  cases hd : decide (x1 - (x0.length : Int) < 0) with
  | true => intro h; simp only [cond_true] at h; omega
  | false =>
    simp only [decide_eq_false_iff_not] at hd
    simp only [cond_false]
    intro h; omega

theorem toLimits_eq (x : Limi) : w_toLimits x = x := by
  first | rfl | simp only [w_toLimits, letK] | (simp [w_toLimits, letK])

theorem eqLimits_refl (x : Limi) : w_eqLimits x x = true := by simp [w_eqLimits, letK]

theorem w_szTupleS_sm (x0 : List Tupl) (x1 : Int) (hn : 0 ≤ x1 ∧ x1 ≤ 1048576) (hx0 : x0.length ≤ 140737488355328) : 0 ≤ w_szTupleS x0 x1 → w_szTupleS x0 x1 ≤ 1048576 ∧ x0.length ≤ 1048576 := by
  unfold w_szTupleS
  rw [wrap64 (by omega) (by omega)]
  cases hd : decide (x1 - (x0.length : Int) < 0) with
  | true => intro h; simp only [cond_true] at h; omega
  | false =>
    simp only [decide_eq_false_iff_not] at hd
    simp only [cond_false]
    intro h; omega

theorem toEntry_eq (x : Entr) : w_toEntry x = x := by
  first | rfl | simp only [w_toEntry, letK] | (simp [w_toEntry, letK])

theorem eqEntry_refl (x : Entr) : w_eqEntry x x = true := by simp [w_eqEntry, letK]

theorem w_szMacRowS_sm (x0 : List MacRow) (x1 : Int) (hn : 0 ≤ x1 ∧ x1 ≤ 1048576) (hx0 : x0.length ≤ 140737488355328) (hx0_e : ∀ y ∈ x0, ∀ c ∈ Ty.cells .macRow y, FactC c) : 0 ≤ w_szMacRowS x0 x1 → w_szMacRowS x0 x1 ≤ 1048576 ∧ x0.length ≤ 1048576 := by
  unfold w_szMacRowS
  rw [wrap64 (by omega) (by omega)]
  cases hd : decide (x1 - (x0.length : Int) < 0) with
  | true => intro h; simp only [cond_true] at h; omega
  | false =>
    simp only [decide_eq_false_iff_not] at hd
    simp only [cond_false]
    cases hf : forN (w_szMacRowS_L0_f x0) 1 (Int.toNat ((x0.length : Int) - 0)) 0 (x1 - (x0.length : Int)) with
    | out p => intro h; simp only [Stp.elim] at h; omega
    | next a =>
      have h5 : 0 ≤ a ∧ a ≤ 1048576 := by
        refine forN_inv (Inv := fun _ a => 0 ≤ a ∧ a ≤ 1048576) _ _ _ (by omega) (fun j a _ h a2 he => ?_) a hf
        have hq : ∀ y : MacRow, (∀ c ∈ Ty.cells .macRow y, FactC c) → 0 ≤ w_szMacRow y a → w_szMacRow y a ≤ 1048576 := fun y hy h0 => (w_szMacRow_sm y a h (hy (.str y.input) List.mem_cons_self).slen h0).1
        have hz : ∀ c ∈ Ty.cells .macRow (x0.getD (0 + 1 * (j : Int)).toNat (Ty.zero .macRow)), FactC c := getD_all (p := fun y => ∀ c ∈ Ty.cells .macRow y, FactC c) (factZero _) hx0_e _
        unfold w_szMacRowS_L0_f at he
        simp only [letK] at he
        cases hc : decide (w_szMacRow (x0.getD (0 + 1 * (j : Int)).toNat (Ty.zero .macRow)) a < 0) <;> rw [hc] at he <;> cases he
        simp only [decide_eq_false_iff_not] at hc
        exact ⟨by omega, hq _ hz (by omega)⟩
      intro _; simp only [Stp.elim]; omega

theorem toTuple_eq (x : Tupl) : w_toTuple x = x := by
  first | rfl | simp only [w_toTuple, letK] | (simp [w_toTuple, letK])

theorem toOptions_eq (x : Opti) : w_toOptions x = x := by
  first | rfl | simp only [w_toOptions, letK] | (simp [w_toOptions, letK])

theorem eqTuple_refl (x : Tupl) : w_eqTuple x x = true := by simp [w_eqTuple, letK]

theorem eqOptions_refl (x : Opti) : w_eqOptions x x = true := by simp [w_eqOptions, letK]

theorem toMacRow_eq (x : MacRow) : w_toMacRow x = x := by
  first | rfl | simp only [w_toMacRow, letK] | (simp [w_toMacRow, letK])

theorem toSender_eq (x : Sndr) : w_toSender x = x := by
  first | rfl | simp only [w_toSender, letK] | (simp [w_toSender, letK])

theorem eqMacRow_refl (x : MacRow) : w_eqMacRow x x = true := by simp [w_eqMacRow, letK]

theorem eqSender_refl (x : Sndr) : w_eqSender x x = true := by simp [w_eqSender, letK]

theorem w_szPieceS_sm (x0 : List Piec) (x1 : Int) (hn : 0 ≤ x1 ∧ x1 ≤ 1048576) (hx0 : x0.length ≤ 140737488355328) (hx0_e : ∀ y ∈ x0, ∀ c ∈ Ty.cells .piec y, FactC c) : 0 ≤ w_szPieceS x0 x1 → w_szPieceS x0 x1 ≤ 1048576 ∧ x0.length ≤ 1048576 := by
  unfold w_szPieceS
  rw [wrap64 (by omega) (by omega)]
  cases hd : decide (x1 - (x0.length : Int) < 0) with
  | true => intro h; simp only [cond_true] at h; omega
  | false =>
    simp only [decide_eq_false_iff_not] at hd
    simp only [cond_false]
    cases hf : forN (w_szPieceS_L0_f x0) 1 (Int.toNat ((x0.length : Int) - 0)) 0 (x1 - (x0.length : Int)) with
    | out p => intro h; simp only [Stp.elim] at h; omega
    | next a =>
      have h5 : 0 ≤ a ∧ a ≤ 1048576 := by
        refine forN_inv (Inv := fun _ a => 0 ≤ a ∧ a ≤ 1048576) _ _ _ (by omega) (fun j a _ h a2 he => ?_) a hf
        have hq : ∀ y : Piec, (∀ c ∈ Ty.cells .piec y, FactC c) → 0 ≤ w_szPiece y a → w_szPiece y a ≤ 1048576 := fun y hy h0 => (w_szPiece_sm y a h (hy (.str y.text) (List.mem_cons_of_mem _ List.mem_cons_self)).slen h0).1
        have hz : ∀ c ∈ Ty.cells .piec (x0.getD (0 + 1 * (j : Int)).toNat (Ty.zero .piec)), FactC c := getD_all (p := fun y => ∀ c ∈ Ty.cells .piec y, FactC c) (factZero _) hx0_e _
        unfold w_szPieceS_L0_f at he
        simp only [letK] at he
        cases hc : decide (w_szPiece (x0.getD (0 + 1 * (j : Int)).toNat (Ty.zero .piec)) a < 0) <;> rw [hc] at he <;> cases he
        simp only [decide_eq_false_iff_not] at hc
        exact ⟨by omega, hq _ hz (by omega)⟩
      intro _; simp only [Stp.elim]; omega

theorem toPiece_eq (x : Piec) : w_toPiece x = x := by
  first | rfl | simp only [w_toPiece, letK] | (simp [w_toPiece, letK])

theorem eqPiece_refl (x : Piec) : w_eqPiece x x = true := by simp [w_eqPiece, letK]

theorem q_WindowOf (x : Recv) : s_WindowOf x = i_WindowOf x := by
  unfold s_WindowOf i_WindowOf s_l1Max
  simp only [letK_eq]
  cases x.done with
  | true => rfl
  | false =>
    simp only [cond_false]
    generalize IntKind.wrap .i64 (32 - (x.data.length : Int)) = z
    by_cases h : 0 < z
    · simp only [h, if_true, decide_eq_false (show ¬ z < 0 by omega), cond_false]
    · simp only [h, if_false]
      by_cases h2 : z < 0
      · simp only [decide_eq_true h2, cond_true]
      · simp only [decide_eq_false h2, cond_false]; omega
theorem WindowOf_le (x : Recv) (h : (x.data.length : Int) ≤ 32) : i_WindowOf x ≤ 32 := by
  unfold i_WindowOf
  simp only [letK_eq]
  cases x.done with
  | true => simp only [cond_true]; omega
  | false =>
    simp only [cond_false]
    rw [wrap64 (by omega) (by omega)]
    split <;> omega
theorem q_SenderOk (x : Sndr) : s_SenderOk x = i_SenderOk x := by
  unfold s_SenderOk i_SenderOk
  simp only [letK_eq, q_WordOk, q_within]
/-- a walk over the pieces: each begins behind the last and ends within L -/
def walkP (L : Int) : Int → List Piec → Option Int
  | a, [] => some a
  | a, p :: r => bif (p.text == []) || decide (p.off ≤ a) || decide (L < p.off + (p.text.length : Int)) then none else walkP L (p.off + (p.text.length : Int)) r
theorem walkP_le (L : Int) : ∀ (r : List Piec) (a b : Int), walkP L a r = some b → a ≤ b ∧ (a ≤ L → b ≤ L)
  | [], a, b, h => by cases h; exact ⟨Int.le_refl _, fun h => h⟩
  | p :: r, a, b, h => by
    simp only [walkP] at h
    cases hc : ((p.text == []) || decide (p.off ≤ a) || decide (L < p.off + (p.text.length : Int))) with
    | true => rw [hc] at h; cases h
    | false =>
      rw [hc] at h
      simp only [Bool.or_eq_false_iff, decide_eq_false_iff_not] at hc
      have := walkP_le L r _ b h
      omega
theorem walkP_sub (L M : Int) (hLM : L ≤ M) : ∀ (r : List Piec) (a : Int), a ≤ L → walkP L a r = (match walkP M a r with | some b => bif decide (b ≤ L) then some b else none | none => none)
  | [], a, h => by simp only [walkP, decide_eq_true h, cond_true]
  | p :: r, a, h => by
    simp only [walkP]
    cases h1 : ((p.text == []) || decide (p.off ≤ a)) with
    | true => simp only [Bool.true_or, cond_true]
    | false =>
      simp only [Bool.false_or]
      by_cases h2 : L < p.off + (p.text.length : Int)
      · rw [decide_eq_true h2]
        simp only [cond_true]
        by_cases h3 : M < p.off + (p.text.length : Int)
        · rw [decide_eq_true h3]; rfl
        · rw [decide_eq_false h3]
          simp only [cond_false]
          cases hw : walkP M (p.off + (p.text.length : Int)) r with
          | none => rfl
          | some b =>
            have := (walkP_le M r _ b hw).1
            simp only []
            rw [decide_eq_false (by omega)]
            rfl
      · rw [decide_eq_false h2, decide_eq_false (show ¬ M < p.off + (p.text.length : Int) by omega)]
        simp only [cond_false]
        exact walkP_sub L M hLM r _ (by omega)
def SmallP (xs : List Piec) : Prop := ∀ y ∈ xs, y.text.length ≤ 4611686018427387904
theorem SmallP.getD {xs : List Piec} (h : SmallP xs) (i : Nat) : (xs.getD i (Ty.zero .piec)).text.length ≤ 4611686018427387904 := getD_all (p := fun y : Piec => y.text.length ≤ 4611686018427387904) (by decide +kernel) h i
theorem text_pos {s : Bytes} (h : (s == []) = false) : 0 < s.length := by
  cases s with
  | nil => cases h
  | cons => simp
theorem listN_walk {W : Type} {F : Nat → Piec → Int → Stp Int W} {L : Int} {w : W} : ∀ (r : List Piec) (j : Nat) (a : Int), 0 ≤ a → a ≤ 32 → L ≤ 32 → (∀ p ∈ r, ∀ j a, 0 ≤ a → a ≤ 32 → (∃ w, (p.text == [] || decide (p.off ≤ a) || decide (L < p.off + (p.text.length : Int))) = true ∧ F j p a = .out w) ∨ ((p.text == [] || decide (p.off ≤ a) || decide (L < p.off + (p.text.length : Int))) = false ∧ F j p a = .next (p.off + (p.text.length : Int)))) →
    (match walkP L a r with | some b => listN F j r a = .next b | none => ∃ w, listN F j r a = .out w)
  | [], j, a, _, _, _, _ => rfl
  | p :: r, j, a, h0, h1, hL, hF => by
    rcases hF p List.mem_cons_self j a h0 h1 with ⟨w, hc, hf⟩ | ⟨hc, hf⟩
    · simp only [walkP, hc, cond_true, listN, hf, Stp.elim]
      exact ⟨w, rfl⟩
    · simp only [walkP, hc, cond_false, listN, hf, Stp.elim]
      simp only [Bool.or_eq_false_iff, decide_eq_false_iff_not] at hc
      exact listN_walk (w := w) r (j + 1) _ (by omega) (by omega) hL fun q hq => hF q (List.mem_cons_of_mem _ hq)
theorem s_walk (x : Recv) (L : Int) (hL : L ≤ 32) (hs : SmallP x.held) : match walkP L 0 x.held with | some b => forN (s_ReceiverOk_L0_f L x.next x.data x.held x.fin x.done) 1 (Int.toNat ((x.held.length : Int) - 0)) 0 0 = .next b | none => ∃ w, forN (s_ReceiverOk_L0_f L x.next x.data x.held x.fin x.done) 1 (Int.toNat ((x.held.length : Int) - 0)) 0 0 = .out w := by
  rw [toNat_sub0, forN_list x.held _ rfl (F := fun j p a => s_ReceiverOk_L0_f L x.next x.data [p] x.fin x.done 0 a) (by
    intro j p a h
    simp only [s_ReceiverOk_L0_f, toNat_cast, getD_some h]
    rfl)]
  refine listN_walk (w := (0 : Int)) _ _ _ (by omega) (by omega) hL fun p hp j a h0 h1 => ?_
  have hl := hs p hp
  unfold s_ReceiverOk_L0_f
  simp only [letK_eq, show Int.toNat 0 = 0 from rfl, List.getD_cons_zero]
  cases h2 : (p.text == []) with
  | true => exact .inl ⟨_, rfl, rfl⟩
  | false =>
    have hp := text_pos h2
    cases h3 : decide (p.off ≤ a) with
    | true => exact .inl ⟨_, rfl, rfl⟩
    | false =>
      simp only [decide_eq_false_iff_not] at h3
      simp only [cond_false, Bool.false_or]
      by_cases h4 : L < p.off
      · refine .inl ⟨a, decide_eq_true (by omega), ?_⟩
        rw [decide_eq_true h4]; rfl
      · rw [decide_eq_false h4, wrap64 (by omega) (by omega)]
        simp only [cond_false]
        by_cases h5 : L < p.off + (p.text.length : Int)
        · rw [decide_eq_true h5]; exact .inl ⟨_, rfl, rfl⟩
        · rw [decide_eq_false h5]; exact .inr ⟨rfl, rfl⟩
theorem i_walk (x : Recv) (L : Int) (hL0 : -9223372036854775808 ≤ L - 4611686018427387904) (hL : L ≤ 32) (hs : SmallP x.held) : match walkP L 0 x.held with | some b => forN (i_ReceiverOk_L0_f L x.held (x.held.length : Int) x.next x.data x.held x.fin x.done) 1 (Int.toNat ((x.held.length : Int) - 0)) 0 0 = .next b | none => ∃ w, forN (i_ReceiverOk_L0_f L x.held (x.held.length : Int) x.next x.data x.held x.fin x.done) 1 (Int.toNat ((x.held.length : Int) - 0)) 0 0 = .out w := by
  rw [toNat_sub0, forN_list x.held _ rfl (F := fun j p a => i_ReceiverOk_L0_f L [p] (x.held.length : Int) x.next x.data x.held x.fin x.done 0 a) (by
    intro j p a h
    simp only [i_ReceiverOk_L0_f, toNat_cast, getD_some h]
    rfl)]
  refine listN_walk (w := ()) _ _ _ (by omega) (by omega) hL fun p hp j a h0 h1 => ?_
  have hl := hs p hp
  unfold i_ReceiverOk_L0_f
  simp only [letK_eq, show Int.toNat 0 = 0 from rfl, List.getD_cons_zero]
  cases h2 : (p.text == []) with
  | true => exact .inl ⟨_, rfl, rfl⟩
  | false =>
    have hp := text_pos h2
    cases h3 : decide (p.off ≤ a) with
    | true => exact .inl ⟨_, rfl, rfl⟩
    | false =>
      simp only [decide_eq_false_iff_not] at h3
      simp only [cond_false, Bool.false_or]
      rw [wrap64 (m := L - (p.text.length : Int)) (by omega) (by omega)]
      by_cases h5 : L < p.off + (p.text.length : Int)
      · rw [decide_eq_true h5, decide_eq_true (by omega)]; exact .inl ⟨_, rfl, rfl⟩
      · rw [decide_eq_false h5, decide_eq_false (by omega), wrap64 (by omega) (by omega)]; exact .inr ⟨rfl, rfl⟩
theorem q_ReceiverOk (x : Recv) (hs : SmallP x.held) : s_ReceiverOk x = i_ReceiverOk x := by
  unfold s_ReceiverOk i_ReceiverOk
  simp only [letK_eq, q_WordOk, q_within, q_WindowOf]
  cases i_WordOk x.next 32 with
  | false => rfl
  | true =>
    by_cases hd : 32 < (x.data.length : Int)
    · rw [decide_eq_true hd]; rfl
    · rw [decide_eq_false hd]
      have hw := WindowOf_le x (by omega)
      simp only [Bool.not_true, cond_false]
      cases decide (3 < (x.held.length : Int)) with
      | true => rfl
      | false =>
        simp only [cond_false]
        rw [i_within_eq]
        by_cases hf : -1 ≤ x.fin ∧ x.fin ≤ i_WindowOf x
        · rw [decide_eq_true hf.1, decide_eq_true hf.2]
          simp only [Bool.and_self, Bool.not_true, cond_false]
          cases h0 : (x.fin == 0) with
          | true => rfl
          | false =>
            simp only [cond_false]
            have h0 : x.fin ≠ 0 := by simpa using h0
            have k1 := s_walk x (i_WindowOf x) hw hs
            by_cases h1 : x.fin = -1
            · have k2 := i_walk x (i_WindowOf x) (by omega) hw hs
              rw [show (x.fin != -1) = false by simp [h1], show decide (x.fin < 0) = true from decide_eq_true (by omega)]
              simp only [cond_true, cond_false]
              cases hp : walkP (i_WindowOf x) 0 x.held with
              | some b => rw [hp] at k1 k2; simp only [] at k1 k2; rw [k1, k2]; rfl
              | none => rw [hp] at k1 k2; obtain ⟨w1, k1⟩ := k1; obtain ⟨w2, k2⟩ := k2; rw [k1, k2]; rfl
            · have k2 := i_walk x x.fin (by omega) (by omega) hs
              rw [show (x.fin != -1) = true by simp [h1], show decide (x.fin < 0) = false from decide_eq_false (by omega)]
              simp only [cond_true, cond_false]
              rw [walkP_sub x.fin (i_WindowOf x) (by omega) x.held 0 (by omega)] at k2
              cases hp : walkP (i_WindowOf x) 0 x.held with
              | none => rw [hp] at k1 k2; obtain ⟨w1, k1⟩ := k1; obtain ⟨w2, k2⟩ := k2; rw [k1, k2]; rfl
              | some b =>
                rw [hp] at k1 k2
                simp only [] at k1 k2
                rw [k1]
                by_cases hb : b ≤ x.fin
                · rw [decide_eq_true hb] at k2
                  simp only [cond_true] at k2
                  rw [k2]; simp only [Stp.elim, decide_eq_true hb, cond_true]
                · rw [decide_eq_false hb] at k2
                  obtain ⟨w2, k2⟩ := k2
                  rw [k2]; simp only [Stp.elim, decide_eq_false hb, cond_false]
        · have : (decide (-1 ≤ x.fin) && decide (x.fin ≤ i_WindowOf x)) = false := by
            rw [Bool.and_eq_false_iff]; simp only [decide_eq_false_iff_not]; omega
          rw [this]; rfl
theorem q_ConnOk (x : Conn) (hs : SmallP x.r.held) : s_ConnOk x = i_ConnOk x := by
  unfold s_ConnOk i_ConnOk s_l19Fin
  simp only [letK_eq, q_TupleOk, q_SenderOk, q_ReceiverOk x.r hs, q_OptionsOk, q_within, i_within_eq]
  cases i_TupleOk x.tuple with
  | false => rfl
  | true =>
  cases i_SenderOk x.s with
  | false => rfl
  | true =>
  cases i_ReceiverOk x.r with
  | false => rfl
  | true =>
  cases i_OptionsOk x.opts with
  | false => rfl
  | true =>
  simp only [Bool.not_true, cond_false]
  have hm : (bif !(decide (0 ≤ x.window) && decide (x.window ≤ x.most)) then true else decide (1073725440 < x.most)) = (bif !(decide (0 ≤ x.most) && decide (x.most ≤ 1073725440)) then true else !(decide (0 ≤ x.window) && decide (x.window ≤ x.most))) := by
    rw [Bool.eq_iff_iff]
    by_cases h1 : 0 ≤ x.window <;> by_cases h2 : x.window ≤ x.most <;> by_cases h3 : 1073725440 < x.most <;> by_cases h4 : 0 ≤ x.most <;> by_cases h5 : x.most ≤ 1073725440 <;> simp [h1, h2, h3, h4, h5] <;> omega
  revert hm
  generalize (decide (0 ≤ x.window) && decide (x.window ≤ x.most)) = W
  generalize decide (1073725440 < x.most) = M
  generalize (decide (0 ≤ x.most) && decide (x.most ≤ 1073725440)) = N
  generalize (decide (0 ≤ x.tries) && decide (x.tries ≤ 3)) = T
  generalize (decide (0 ≤ x.timer) && decide (x.timer ≤ 4)) = T4
  generalize (decide (0 ≤ x.timer) && decide (x.timer ≤ 3)) = T3
  generalize x.s.fin = sf
  generalize x.s.done = sd
  generalize x.r.done = rd
  generalize x.state = k
  have hk : k = 1 ∨ k = 2 ∨ k = 3 ∨ k = 4 ∨ k = 5 ∨ k = 6 ∨ k = 7 ∨ k = 8 ∨ (decide (1 ≤ k) && decide (k ≤ 8)) = false := by
    simp only [Bool.and_eq_false_iff, decide_eq_false_iff_not]; omega
  rcases hk with rfl | rfl | rfl | rfl | rfl | rfl | rfl | rfl | hk
  iterate 8 (revert W M N T T4 T3 sf sd rd; decide +kernel)
  intro _; simp only [hk]; rfl

theorem WordOk32 (n : Int) : i_WordOk n 32 = (decide (0 ≤ n) && decide (n ≤ 4294967295)) := by
  rw [i_WordOk_eq, i_within_eq, i_within_eq]
  rfl
theorem q_KeysOk (k : Keys) : s_KeysOk k = i_KeysOk k := by
  unfold s_KeysOk i_KeysOk
  simp only [q_WordOk, q_MacOk, q_SameMac, WordOk32, i_within_eq, letK_eq]
  obtain ⟨e, n, b, t⟩ := k
  simp only []
  cases t <;> cases i_MacOk n <;> cases i_MacOk b <;> simp
  rw [Bool.eq_iff_iff]
  simp
  omega

def fidx {T : Type} (p : T → Bool) (xs : List T) : Int := match xs.findIdx? p with | none => -1 | some i => (i : Int)
theorem forN_fidx {T : Type} (p : T → Bool) (xs : List T) {f : Int → Unit → Stp Unit Int} (h : ∀ (j : Nat) x a, xs[j]? = some x → f j a = bif p x then .out (j : Int) else .next ()) :
    forN f 1 (Int.toNat ((xs.length : Int) - 0)) 0 () = match xs.findIdx? p with | none => .next () | some i => .out (i : Int) := by
  rw [toNat_sub0, forN_list xs _ rfl h, listN_find (w := fun j _ => (j : Int))]
  cases hf : xs.findIdx? p with
  | none => rfl
  | some i =>
    obtain ⟨h1, _, _⟩ := List.findIdx?_eq_some_iff_getElem.1 hf
    simp only [List.getElem?_eq_getElem h1, Nat.zero_add]
theorem fidx_elim {T : Type} (p : T → Bool) (xs : List T) {f : Int → Unit → Stp Unit Int} (h : ∀ (j : Nat) x a, xs[j]? = some x → f j a = bif p x then .out (j : Int) else .next ()) :
    Stp.elim (fun _ => (-1 : Int)) (fun q => q) (forN f 1 (Int.toNat ((xs.length : Int) - 0)) 0 ()) = fidx p xs := by
  rw [forN_fidx p xs h]
  unfold fidx
  cases xs.findIdx? p <;> rfl
theorem fidx_nn {T : Type} (p : T → Bool) (xs : List T) : decide (0 ≤ fidx p xs) = xs.any p := by
  unfold fidx
  cases h : xs.findIdx? p with
  | none =>
    rw [List.findIdx?_eq_none_iff] at h
    symm
    show xs.any p = false
    rw [List.any_eq_false]
    intro x hx; simp [h x hx]
  | some i =>
    obtain ⟨h1, h2, _⟩ := List.findIdx?_eq_some_iff_getElem.1 h
    have : xs.any p = true := by rw [List.any_eq_true]; exact ⟨xs[i], List.getElem_mem h1, h2⟩
    rw [this]; simp
theorem fidx_lt {T : Type} (p : T → Bool) (xs : List T) : decide (fidx p xs < 0) = !xs.any p := by
  rw [← fidx_nn]
  by_cases h : 0 ≤ fidx p xs
  · rw [decide_eq_true h, decide_eq_false (by omega)]; rfl
  · rw [decide_eq_false h, decide_eq_true (by omega)]; rfl
/-- the first that is met stands at j, unless one before it is met -/
theorem fidx_at {T : Type} (p : T → Bool) (xs : List T) (j : Nat) (x : T) (hx : xs[j]? = some x) (hp : p x = true) : (fidx p xs != (j : Int)) = (xs.take j).any p := by
  obtain ⟨hj, rfl⟩ := List.getElem?_eq_some_iff.1 hx
  unfold fidx
  cases h : xs.findIdx? p with
  | none =>
    rw [List.findIdx?_eq_none_iff] at h
    have := h _ (List.getElem_mem hj)
    rw [hp] at this; cases this
  | some i =>
    obtain ⟨h1, h2, h3⟩ := List.findIdx?_eq_some_iff_getElem.1 h
    simp only []
    rw [Bool.eq_iff_iff]
    simp only [bne_iff_ne, ne_eq, List.any_eq_true]
    constructor
    · intro hne
      have hij : i < j := by
        rcases Nat.lt_or_ge i j with h4 | h4
        · exact h4
        · have h5 : j < i := by omega
          have := h3 j h5
          simp [hp] at this
      refine ⟨xs[i], ?_, h2⟩
      rw [List.mem_take_iff_getElem]
      exact ⟨i, by omega, rfl⟩
    · rintro ⟨y, hy, hpy⟩ he
      rw [List.mem_take_iff_getElem] at hy
      obtain ⟨k, hk, rfl⟩ := hy
      have : k < i := by omega
      have := h3 k this
      simp [hpy] at this

/-- laws.szLink -/
def w_szLink_N (x0 : Link) (x1 : Int) (γ : Type) (fail : γ) (k : Int → γ) : γ :=
  letK (α := Int) (w_szEntryS x0.cache x1) fun c1 =>
  bif (decide (c1 < 0)) then
    k (-1)
  else
  k c1
def w_szLink (x0 : Link) (x1 : Int) : Int :=
  letK (α := Int) (w_szEntryS x0.cache x1) fun c1 =>
  bif (decide (c1 < 0)) then
    (-1)
  else
  c1
theorem w_szLink_lk (x0 : Link) (x1 : Int) : evalFn te (orcOf (P := Tryz.prog) [w_szEntryS_e]) lorc0 [] Tryz.f9 (pvs [.st .link, .sc (.int .i64)] (x0, x1, ())) =
  w_szLink_N x0 x1 _ none (fun v => some [(false, [RC.c (.int .i64 v)])]) := by kernel_rfl
theorem w_szLink_p (x0 : Link) (x1 : Int)   (γ : Type) (fail : γ) (k : Int → γ) : w_szLink_N x0 x1 γ fail k = k (w_szLink x0 x1) := by
  unfold w_szLink_N w_szLink
  exact letT (f := k) (fun c1 hc1 => bifT (f := k) (fun b0 => rfl)
      (fun b0 => rfl))
theorem w_szLink_c (x0 : Link) (x1 : Int)  : Con Tryz.prog 9 (pvs [.st .link, .sc (.int .i64)] (x0, x1, ())) [rv (.sc (.int .i64)) [] (w_szLink x0 x1)] := by
  exact evalFn_con0 teFact mixFact (orcOf_ok _) Tryz.func9 (by kernel_rfl) ((w_szLink_lk x0 x1).trans (w_szLink_p x0 x1  _ _ _))
noncomputable def w_szLink_e : Ent1 Tryz.prog := entA 9 [.st .link, .sc (.int .i64)] (fun x => (w_szLink x.1 x.2.1)) (fun v => [rv (.sc (.int .i64)) [] v]) (fun x => w_szLink_c x.1 x.2.1)

theorem w_szLink_sm (x0 : Link) (x1 : Int)  (hn : 0 ≤ x1 ∧ x1 ≤ 1048576) (hx0_cache : x0.cache.length ≤ 140737488355328) : (fun v : Int => 0 ≤ v → v ≤ 1048576 ∧ x0.cache.length ≤ 1048576) (w_szLink x0 x1) := by
  unfold w_szLink
  exact letP (P := (fun v : Int => 0 ≤ v → v ≤ 1048576 ∧ x0.cache.length ≤ 1048576)) (fun c1 hc1 => have kc1 := w_szEntryS_sm x0.cache x1 (by grind [wrap64]) (by assumption); bifP (P := (fun v : Int => 0 ≤ v → v ≤ 1048576 ∧ x0.cache.length ≤ 1048576)) (fun b0 => (by (try simp only [Nat.ble_eq, Bool.and_eq_true, decide_eq_true_eq]); grind [maxSl, maxStr, toBytes_length, toInts_length, List.length_set, wrap64, w_szEntryS_sm]))
      (fun b0 => (by (try simp only [Nat.ble_eq, Bool.and_eq_true, decide_eq_true_eq]); grind [maxSl, maxStr, toBytes_length, toInts_length, List.length_set, wrap64, w_szEntryS_sm])))

/-- laws.szMac -/
def w_szMac_N (x0 : Mac) (x1 : Int) (γ : Type) (fail : γ) (k : Int → γ) : γ :=
  letK (α := Int) (w_szMacRowS x0.rows x1) fun c1 =>
  bif (decide (c1 < 0)) then
    k (-1)
  else
  k c1
def w_szMac (x0 : Mac) (x1 : Int) : Int :=
  letK (α := Int) (w_szMacRowS x0.rows x1) fun c1 =>
  bif (decide (c1 < 0)) then
    (-1)
  else
  c1
theorem w_szMac_lk (x0 : Mac) (x1 : Int) : evalFn te (orcOf (P := Tryz.prog) [w_szMacRowS_e]) lorc0 [] Tryz.f49 (pvs [.st .mac, .sc (.int .i64)] (x0, x1, ())) =
  w_szMac_N x0 x1 _ none (fun v => some [(false, [RC.c (.int .i64 v)])]) := by kernel_rfl
theorem w_szMac_p (x0 : Mac) (x1 : Int)   (γ : Type) (fail : γ) (k : Int → γ) : w_szMac_N x0 x1 γ fail k = k (w_szMac x0 x1) := by
  unfold w_szMac_N w_szMac
  exact letT (f := k) (fun c1 hc1 => bifT (f := k) (fun b0 => rfl)
      (fun b0 => rfl))
theorem w_szMac_c (x0 : Mac) (x1 : Int)  : Con Tryz.prog 49 (pvs [.st .mac, .sc (.int .i64)] (x0, x1, ())) [rv (.sc (.int .i64)) [] (w_szMac x0 x1)] := by
  exact evalFn_con0 teFact mixFact (orcOf_ok _) Tryz.func49 (by kernel_rfl) ((w_szMac_lk x0 x1).trans (w_szMac_p x0 x1  _ _ _))
noncomputable def w_szMac_e : Ent1 Tryz.prog := entA 49 [.st .mac, .sc (.int .i64)] (fun x => (w_szMac x.1 x.2.1)) (fun v => [rv (.sc (.int .i64)) [] v]) (fun x => w_szMac_c x.1 x.2.1)

theorem w_szMac_sm (x0 : Mac) (x1 : Int)  (hn : 0 ≤ x1 ∧ x1 ≤ 1048576) (hx0_rows : x0.rows.length ≤ 140737488355328) (hx0_rows_e : ∀ y ∈ x0.rows, ∀ c ∈ Ty.cells .macRow y, FactC c) : (fun v : Int => 0 ≤ v → v ≤ 1048576 ∧ x0.rows.length ≤ 1048576) (w_szMac x0 x1) := by
  unfold w_szMac
  exact letP (P := (fun v : Int => 0 ≤ v → v ≤ 1048576 ∧ x0.rows.length ≤ 1048576)) (fun c1 hc1 => have kc1 := w_szMacRowS_sm x0.rows x1 (by grind [wrap64]) (by assumption) (by assumption); bifP (P := (fun v : Int => 0 ≤ v → v ≤ 1048576 ∧ x0.rows.length ≤ 1048576)) (fun b0 => (by (try simp only [Nat.ble_eq, Bool.and_eq_true, decide_eq_true_eq]); grind [maxSl, maxStr, toBytes_length, toInts_length, List.length_set, wrap64, w_szMacRowS_sm]))
      (fun b0 => (by (try simp only [Nat.ble_eq, Bool.and_eq_true, decide_eq_true_eq]); grind [maxSl, maxStr, toBytes_length, toInts_length, List.length_set, wrap64, w_szMacRowS_sm])))

/-- laws.szReceiver -/
def w_szReceiver_N (x0 : Recv) (x1 : Int) (γ : Type) (fail : γ) (k : Int → γ) : γ :=
  bif (decide ((IntKind.wrap .i64 (x1 - (x0.data.length : Int))) < 0)) then
    k (-1)
  else
  letK (α := Int) (w_szPieceS x0.held (IntKind.wrap .i64 (x1 - (x0.data.length : Int)))) fun c1 =>
  bif (decide (c1 < 0)) then
    k (-1)
  else
  k c1
def w_szReceiver (x0 : Recv) (x1 : Int) : Int :=
  bif (decide ((IntKind.wrap .i64 (x1 - (x0.data.length : Int))) < 0)) then
    (-1)
  else
  letK (α := Int) (w_szPieceS x0.held (IntKind.wrap .i64 (x1 - (x0.data.length : Int)))) fun c1 =>
  bif (decide (c1 < 0)) then
    (-1)
  else
  c1
theorem w_szReceiver_lk (x0 : Recv) (x1 : Int) : evalFn te (orcOf (P := Tryz.prog) [w_szPieceS_e]) lorc0 [] Tryz.f104 (pvs [.st .recv, .sc (.int .i64)] (x0, x1, ())) =
  w_szReceiver_N x0 x1 _ none (fun v => some [(false, [RC.c (.int .i64 v)])]) := by kernel_rfl
theorem w_szReceiver_p (x0 : Recv) (x1 : Int)   (γ : Type) (fail : γ) (k : Int → γ) : w_szReceiver_N x0 x1 γ fail k = k (w_szReceiver x0 x1) := by
  unfold w_szReceiver_N w_szReceiver
  exact bifT (f := k) (fun b0 => rfl)
      (fun b0 => letT (f := k) (fun c1 hc1 => bifT (f := k) (fun b1 => rfl)
      (fun b1 => rfl)))
theorem w_szReceiver_c (x0 : Recv) (x1 : Int)  : Con Tryz.prog 104 (pvs [.st .recv, .sc (.int .i64)] (x0, x1, ())) [rv (.sc (.int .i64)) [] (w_szReceiver x0 x1)] := by
  exact evalFn_con0 teFact mixFact (orcOf_ok _) Tryz.func104 (by kernel_rfl) ((w_szReceiver_lk x0 x1).trans (w_szReceiver_p x0 x1  _ _ _))
noncomputable def w_szReceiver_e : Ent1 Tryz.prog := entA 104 [.st .recv, .sc (.int .i64)] (fun x => (w_szReceiver x.1 x.2.1)) (fun v => [rv (.sc (.int .i64)) [] v]) (fun x => w_szReceiver_c x.1 x.2.1)

theorem w_szReceiver_sm (x0 : Recv) (x1 : Int)  (hn : 0 ≤ x1 ∧ x1 ≤ 1048576) (hx0_data : List.length x0.data ≤ 4611686018427387904) (hx0_held : x0.held.length ≤ 140737488355328) (hx0_held_e : ∀ y ∈ x0.held, ∀ c ∈ Ty.cells .piec y, FactC c) : (fun v : Int => 0 ≤ v → v ≤ 1048576 ∧ List.length x0.data ≤ 1048576 ∧ x0.held.length ≤ 1048576) (w_szReceiver x0 x1) := by
  unfold w_szReceiver
  exact bifP (P := (fun v : Int => 0 ≤ v → v ≤ 1048576 ∧ List.length x0.data ≤ 1048576 ∧ x0.held.length ≤ 1048576)) (fun b0 => (by (try simp only [Nat.ble_eq, Bool.and_eq_true, decide_eq_true_eq]); grind [maxSl, maxStr, toBytes_length, toInts_length, List.length_set, wrap64, w_szPieceS_sm]))
      (fun b0 => letP (P := (fun v : Int => 0 ≤ v → v ≤ 1048576 ∧ List.length x0.data ≤ 1048576 ∧ x0.held.length ≤ 1048576)) (fun c1 hc1 => have kc1 := w_szPieceS_sm x0.held (IntKind.wrap .i64 (x1 - (x0.data.length : Int))) (by grind [wrap64]) (by assumption) (by assumption); bifP (P := (fun v : Int => 0 ≤ v → v ≤ 1048576 ∧ List.length x0.data ≤ 1048576 ∧ x0.held.length ≤ 1048576)) (fun b1 => (by (try simp only [Nat.ble_eq, Bool.and_eq_true, decide_eq_true_eq]); grind [maxSl, maxStr, toBytes_length, toInts_length, List.length_set, wrap64, w_szPieceS_sm]))
      (fun b1 => (by (try simp only [Nat.ble_eq, Bool.and_eq_true, decide_eq_true_eq]); grind [maxSl, maxStr, toBytes_length, toInts_length, List.length_set, wrap64, w_szPieceS_sm]))))

/-- laws.szKeys -/
def w_szKeys_N (x0 : Keys) (x1 : Int) (γ : Type) (fail : γ) (k : Int → γ) : γ :=
  letK (α := Int) (w_szMac x0.now x1) fun c1 =>
  bif (decide (c1 < 0)) then
    k (-1)
  else
  letK (α := Int) (w_szMac x0.before c1) fun c2 =>
  bif (decide (c2 < 0)) then
    k (-1)
  else
  k c2
def w_szKeys (x0 : Keys) (x1 : Int) : Int :=
  letK (α := Int) (w_szMac x0.now x1) fun c1 =>
  bif (decide (c1 < 0)) then
    (-1)
  else
  letK (α := Int) (w_szMac x0.before c1) fun c2 =>
  bif (decide (c2 < 0)) then
    (-1)
  else
  c2
theorem w_szKeys_lk (x0 : Keys) (x1 : Int) : evalFn te (orcOf (P := Tryz.prog) [w_szMac_e]) lorc0 [] Tryz.f20 (pvs [.st .keys, .sc (.int .i64)] (x0, x1, ())) =
  w_szKeys_N x0 x1 _ none (fun v => some [(false, [RC.c (.int .i64 v)])]) := by kernel_rfl
theorem w_szKeys_p (x0 : Keys) (x1 : Int)   (γ : Type) (fail : γ) (k : Int → γ) : w_szKeys_N x0 x1 γ fail k = k (w_szKeys x0 x1) := by
  unfold w_szKeys_N w_szKeys
  exact letT (f := k) (fun c1 hc1 => bifT (f := k) (fun b0 => rfl)
      (fun b0 => letT (f := k) (fun c2 hc2 => bifT (f := k) (fun b1 => rfl)
      (fun b1 => rfl))))
theorem w_szKeys_c (x0 : Keys) (x1 : Int)  : Con Tryz.prog 20 (pvs [.st .keys, .sc (.int .i64)] (x0, x1, ())) [rv (.sc (.int .i64)) [] (w_szKeys x0 x1)] := by
  exact evalFn_con0 teFact mixFact (orcOf_ok _) Tryz.func20 (by kernel_rfl) ((w_szKeys_lk x0 x1).trans (w_szKeys_p x0 x1  _ _ _))
noncomputable def w_szKeys_e : Ent1 Tryz.prog := entA 20 [.st .keys, .sc (.int .i64)] (fun x => (w_szKeys x.1 x.2.1)) (fun v => [rv (.sc (.int .i64)) [] v]) (fun x => w_szKeys_c x.1 x.2.1)

theorem w_szKeys_sm (x0 : Keys) (x1 : Int)  (hn : 0 ≤ x1 ∧ x1 ≤ 1048576) (hx0_now_rows : x0.now.rows.length ≤ 140737488355328) (hx0_now_rows_e : ∀ y ∈ x0.now.rows, ∀ c ∈ Ty.cells .macRow y, FactC c) (hx0_before_rows : x0.before.rows.length ≤ 140737488355328) (hx0_before_rows_e : ∀ y ∈ x0.before.rows, ∀ c ∈ Ty.cells .macRow y, FactC c) : (fun v : Int => 0 ≤ v → v ≤ 1048576 ∧ x0.now.rows.length ≤ 1048576 ∧ x0.before.rows.length ≤ 1048576) (w_szKeys x0 x1) := by
  unfold w_szKeys
  exact letP (P := (fun v : Int => 0 ≤ v → v ≤ 1048576 ∧ x0.now.rows.length ≤ 1048576 ∧ x0.before.rows.length ≤ 1048576)) (fun c1 hc1 => have kc1 := w_szMac_sm x0.now x1 (by grind [wrap64]) (by assumption) (by assumption); bifP (P := (fun v : Int => 0 ≤ v → v ≤ 1048576 ∧ x0.now.rows.length ≤ 1048576 ∧ x0.before.rows.length ≤ 1048576)) (fun b0 => (by (try simp only [Nat.ble_eq, Bool.and_eq_true, decide_eq_true_eq]); grind [maxSl, maxStr, toBytes_length, toInts_length, List.length_set, wrap64, w_szMac_sm]))
      (fun b0 => letP (P := (fun v : Int => 0 ≤ v → v ≤ 1048576 ∧ x0.now.rows.length ≤ 1048576 ∧ x0.before.rows.length ≤ 1048576)) (fun c2 hc2 => have kc2 := w_szMac_sm x0.before c1 (by grind [wrap64]) (by assumption) (by assumption); bifP (P := (fun v : Int => 0 ≤ v → v ≤ 1048576 ∧ x0.now.rows.length ≤ 1048576 ∧ x0.before.rows.length ≤ 1048576)) (fun b1 => (by (try simp only [Nat.ble_eq, Bool.and_eq_true, decide_eq_true_eq]); grind [maxSl, maxStr, toBytes_length, toInts_length, List.length_set, wrap64, w_szMac_sm]))
      (fun b1 => (by (try simp only [Nat.ble_eq, Bool.and_eq_true, decide_eq_true_eq]); grind [maxSl, maxStr, toBytes_length, toInts_length, List.length_set, wrap64, w_szMac_sm])))))

/-- laws.szConn -/
def w_szConn_N (x0 : Conn) (x1 : Int) (γ : Type) (fail : γ) (k : Int → γ) : γ :=
  letK (α := Int) (w_szSender x0.s x1) fun c1 =>
  bif (decide (c1 < 0)) then
    k (-1)
  else
  letK (α := Int) (w_szReceiver x0.r c1) fun c2 =>
  bif (decide (c2 < 0)) then
    k (-1)
  else
  k c2
def w_szConn (x0 : Conn) (x1 : Int) : Int :=
  letK (α := Int) (w_szSender x0.s x1) fun c1 =>
  bif (decide (c1 < 0)) then
    (-1)
  else
  letK (α := Int) (w_szReceiver x0.r c1) fun c2 =>
  bif (decide (c2 < 0)) then
    (-1)
  else
  c2
theorem w_szConn_lk (x0 : Conn) (x1 : Int) : evalFn te (orcOf (P := Tryz.prog) [w_szSender_e, w_szReceiver_e]) lorc0 [] Tryz.f84 (pvs [.st .conn, .sc (.int .i64)] (x0, x1, ())) =
  w_szConn_N x0 x1 _ none (fun v => some [(false, [RC.c (.int .i64 v)])]) := by kernel_rfl
theorem w_szConn_p (x0 : Conn) (x1 : Int)   (γ : Type) (fail : γ) (k : Int → γ) : w_szConn_N x0 x1 γ fail k = k (w_szConn x0 x1) := by
  unfold w_szConn_N w_szConn
  exact letT (f := k) (fun c1 hc1 => bifT (f := k) (fun b0 => rfl)
      (fun b0 => letT (f := k) (fun c2 hc2 => bifT (f := k) (fun b1 => rfl)
      (fun b1 => rfl))))
theorem w_szConn_c (x0 : Conn) (x1 : Int)  : Con Tryz.prog 84 (pvs [.st .conn, .sc (.int .i64)] (x0, x1, ())) [rv (.sc (.int .i64)) [] (w_szConn x0 x1)] := by
  exact evalFn_con0 teFact mixFact (orcOf_ok _) Tryz.func84 (by kernel_rfl) ((w_szConn_lk x0 x1).trans (w_szConn_p x0 x1  _ _ _))
noncomputable def w_szConn_e : Ent1 Tryz.prog := entA 84 [.st .conn, .sc (.int .i64)] (fun x => (w_szConn x.1 x.2.1)) (fun v => [rv (.sc (.int .i64)) [] v]) (fun x => w_szConn_c x.1 x.2.1)

theorem w_szConn_sm (x0 : Conn) (x1 : Int)  (hn : 0 ≤ x1 ∧ x1 ≤ 1048576) (hx0_s_data : List.length x0.s.data ≤ 4611686018427387904) (hx0_r_data : List.length x0.r.data ≤ 4611686018427387904) (hx0_r_held : x0.r.held.length ≤ 140737488355328) (hx0_r_held_e : ∀ y ∈ x0.r.held, ∀ c ∈ Ty.cells .piec y, FactC c) : (fun v : Int => 0 ≤ v → v ≤ 1048576 ∧ List.length x0.s.data ≤ 1048576 ∧ List.length x0.r.data ≤ 1048576 ∧ x0.r.held.length ≤ 1048576) (w_szConn x0 x1) := by
  unfold w_szConn
  exact letP (P := (fun v : Int => 0 ≤ v → v ≤ 1048576 ∧ List.length x0.s.data ≤ 1048576 ∧ List.length x0.r.data ≤ 1048576 ∧ x0.r.held.length ≤ 1048576)) (fun c1 hc1 => have kc1 := w_szSender_sm x0.s x1 (by grind [wrap64]) (by assumption); bifP (P := (fun v : Int => 0 ≤ v → v ≤ 1048576 ∧ List.length x0.s.data ≤ 1048576 ∧ List.length x0.r.data ≤ 1048576 ∧ x0.r.held.length ≤ 1048576)) (fun b0 => (by (try simp only [Nat.ble_eq, Bool.and_eq_true, decide_eq_true_eq]); grind [maxSl, maxStr, toBytes_length, toInts_length, List.length_set, wrap64, w_szSender_sm, w_szReceiver_sm]))
      (fun b0 => letP (P := (fun v : Int => 0 ≤ v → v ≤ 1048576 ∧ List.length x0.s.data ≤ 1048576 ∧ List.length x0.r.data ≤ 1048576 ∧ x0.r.held.length ≤ 1048576)) (fun c2 hc2 => have kc2 := w_szReceiver_sm x0.r c1 (by grind [wrap64]) (by assumption) (by assumption) (by assumption); bifP (P := (fun v : Int => 0 ≤ v → v ≤ 1048576 ∧ List.length x0.s.data ≤ 1048576 ∧ List.length x0.r.data ≤ 1048576 ∧ x0.r.held.length ≤ 1048576)) (fun b1 => (by (try simp only [Nat.ble_eq, Bool.and_eq_true, decide_eq_true_eq]); grind [maxSl, maxStr, toBytes_length, toInts_length, List.length_set, wrap64, w_szSender_sm, w_szReceiver_sm]))
      (fun b1 => (by (try simp only [Nat.ble_eq, Bool.and_eq_true, decide_eq_true_eq]); grind [maxSl, maxStr, toBytes_length, toInts_length, List.length_set, wrap64, w_szSender_sm, w_szReceiver_sm])))))

/-- laws.szConnS -/
def w_szConnS_ann : List (Nat × Keep) := [(0, ⟨[0, 1, 5], [], false, 0⟩)]
def w_szConnS_L0_sh : Sh := ⟨[(0, false, [.sl .arg .conn]), (1, false, [.int .i64]), (5, false, [.int .i64])], []⟩
def w_szConnS_L0_es : List (Ex × Sh) := [(.ret, ⟨[(1, false, [.int .i64]), (4, false, [.int .i64])], []⟩), (.exit 0, ⟨[(1, false, [.int .i64]), (4, false, [.undef])], []⟩)]
def w_szConnS_L0_mk (v0 : List Conn) (v1 : Int) (v2 : Int) : w_szConnS_L0_sh.T := (((v0, ()), ((v1, ()), ((v2, ()), ()))), ())
def w_szConnS_L0_mx0 (y0 : Int) (y1 : Int) : Sh.T ⟨[(1, false, [.int .i64]), (4, false, [.int .i64])], []⟩ := (((y0, ()), ((y1, ()), ())), ())
def w_szConnS_L0_mx1 (y0 : Int) : Sh.T ⟨[(1, false, [.int .i64]), (4, false, [.undef])], []⟩ := (((y0, ()), (((), ()), ())), ())
def w_szConnS_L0_B (v0 : List Conn) (v1 : Int) (v2 : Int) (γ : Type) (fail : γ) (next : w_szConnS_L0_sh.T → γ) (out : WT w_szConnS_L0_es → γ) : γ :=
  bif (decide (v2 < (v0.length : Int))) then
    bif ((decide (0 ≤ v2)) && (decide (v2 < (v0.length : Int)))) then
    letK (α := Int) (w_szConn (v0.getD v2.toNat (Ty.zero .conn)) v1) fun c1 =>
    bif (decide (c1 < 0)) then
      out (Sum.inl (w_szConnS_L0_mx0 c1 (-1)))
    else
    next (w_szConnS_L0_mk v0 c1 (IntKind.wrap .i64 (v2 + 1)))
    else fail
  else
  out (Sum.inr (w_szConnS_L0_mx1 v1))
theorem w_szConnS_L0_par (v0 : List Conn) (v1 : Int) (v2 : Int) (γ : Type) (fail : γ) (next : w_szConnS_L0_sh.T → γ) (out : WT w_szConnS_L0_es → γ) : w_szConnS_L0_B v0 v1 v2 γ fail next out = optK (w_szConnS_L0_B v0 v1 v2 _ none (fun v' => some (.inl v')) (fun w => some (.inr w))) fail (fun r => Sum.elim next out r) := by
  unfold w_szConnS_L0_B
  exact bifT (f := (fun o => optK o fail (fun r => Sum.elim next out r))) (fun _ => bifT (f := (fun o => optK o fail (fun r => Sum.elim next out r))) (fun _ => letT (f := (fun o => optK o fail (fun r => Sum.elim next out r))) (fun c1 _ => bifT (f := (fun o => optK o fail (fun r => Sum.elim next out r))) (fun _ => rfl)
      (fun _ => rfl))) (fun _ => rfl))
      (fun _ => rfl)
def w_szConnS_L0_r : Round w_szConnS_L0_sh.T (WT w_szConnS_L0_es) where
  B v γ fail next out := w_szConnS_L0_B v.1.1.1 v.1.2.1.1 v.1.2.2.1.1 γ fail next out
  par v γ fail next out := w_szConnS_L0_par v.1.1.1 v.1.2.1.1 v.1.2.2.1.1 γ fail next out
def w_szConnS_L0_fu (v0 : List Conn) (v1 : Int) (v2 : Int) : Nat := (Int.toNat ((v0.length : Int) - v2)) + 1
theorem w_szConnS_L0_lk (v : w_szConnS_L0_sh.T) (next : St → Option Res) (k : Ex → St → Option Res) : evalK te (orcOf (P := Tryz.prog) [w_szConn_e]) (lorcOf []) Tryz.f50.ntmps w_szConnS_ann (nthLoop (bodyOf Tryz.f50) 0 0) 0 (w_szConnS_L0_sh.enc v) (endK ⟨[0, 1, 5], [], false, 0⟩ ⟨[1, 4], [], false, 0⟩ next k) =
  w_szConnS_L0_r.B v _ none (fun v' => next (w_szConnS_L0_sh.enc v')) (fun w => outK w_szConnS_L0_es k w) := by kernel_rfl
def w_szConnS_L0_le : LE := leOf 0 w_szConnS_L0_sh w_szConnS_L0_es w_szConnS_L0_r.step (fun v => w_szConnS_L0_fu v.1.1.1 v.1.2.1.1 v.1.2.2.1.1)
theorem w_szConnS_L0_ls (w0 : World) (mo : Mts) (I0 : Nat → Prop) (hmo : mo.length = 0) : LSem Tryz.prog (Sim w0 mo Tryz.f50.ntmps I0) (fun b s k => match Nat.beq 0 b with | true => w_szConnS_L0_le.run s k | false => none) 0 (nthLoop (bodyOf Tryz.f50) 0 0) :=
  le_sem hmo (lorc := lorcOf []) (ann := w_szConnS_ann) (keep := ⟨[0, 1, 5], [], false, 0⟩) (kout := ⟨[1, 4], [], false, 0⟩) teFact mixFact (orcOf_ok _) (by kernel_rfl) (allLoops_of (bs := []) (by kernel_rfl) trivial) w_szConnS_L0_r _ w_szConnS_L0_lk
def w_szConnS_L0_f (v0 : List Conn) (v2 : Int) (a : Int) : Stp (Int) ((Int)) :=
  letK (α := Int) (w_szConn (v0.getD v2.toNat (Ty.zero .conn)) a) fun c1 =>
  bif (decide (c1 < 0)) then
    .out (c1)
  else
  .next c1
theorem w_szConnS_L0_st (v0 : List Conn) (v1 : Int) (v2 : Int) (hlo : 0 ≤ v2) (hhi : v2 < (v0.length : Int)) (hN : (v0.length : Int) ≤ 4611686018427387904) : w_szConnS_L0_r.step (w_szConnS_L0_mk v0 v1 v2) = Stp.elim (fun a' : Int => some (Sum.inl (w_szConnS_L0_mk v0 a' (v2 + 1)))) (fun w => some (Sum.inr ((fun p : Int => Sum.inl (w_szConnS_L0_mx0 p (-1))) w))) (w_szConnS_L0_f v0 v2 v1) := by
  have hw : (IntKind.wrap .i64 (v2 + 1)) = v2 + 1 := wrap64 (by omega) (by omega)
  show w_szConnS_L0_B v0 v1 v2 (Option (w_szConnS_L0_sh.T ⊕ WT w_szConnS_L0_es)) none (fun v' => some (Sum.inl v')) (fun w => some (Sum.inr w)) = _
  unfold w_szConnS_L0_B w_szConnS_L0_f
  exact bifG (by simp only [decide_eq_true_eq]; omega) (bifG (by (try simp only [Nat.ble_eq, Bool.and_eq_true, decide_eq_true_eq]); grind [maxSl, maxStr, toBytes_length, toInts_length, List.length_set, wrap64, w_szConn_sm]) (letT (f := (Stp.elim (fun a' : Int => some (Sum.inl (w_szConnS_L0_mk v0 a' (v2 + 1)))) (fun w => some (Sum.inr ((fun p : Int => Sum.inl (w_szConnS_L0_mx0 p (-1))) w))))) (fun c1 hc1 => bifT (f := (Stp.elim (fun a' : Int => some (Sum.inl (w_szConnS_L0_mk v0 a' (v2 + 1)))) (fun w => some (Sum.inr ((fun p : Int => Sum.inl (w_szConnS_L0_mx0 p (-1))) w))))) (fun b0 => rfl)
      (fun b0 => (by exact congrArg (fun z => some (Sum.inl (w_szConnS_L0_mk v0 c1 z))) hw)))))
theorem w_szConnS_L0_cl (v0 : List Conn) (v1 : Int) (v2 : Int) (h0 : 0 ≤ v2) (h1 : (v0.length : Int) ≤ 4611686018427387904) : loopF w_szConnS_L0_r.step (w_szConnS_L0_fu v0 v1 v2) (w_szConnS_L0_mk v0 v1 v2) = some (Stp.elim (fun a => (fun i a => Sum.inr (w_szConnS_L0_mx1 a)) (v2 + 1 * (((Int.toNat ((v0.length : Int) - v2)) : Nat) : Int)) a) (fun p : Int => Sum.inl (w_szConnS_L0_mx0 p (-1))) (forN (w_szConnS_L0_f v0) 1 (Int.toNat ((v0.length : Int) - v2)) v2 v1)) :=
  forN_loop (step := w_szConnS_L0_r.step) (mk := fun v2 a => w_szConnS_L0_mk v0 a v2) (f := w_szConnS_L0_f v0) (e := (fun i a => Sum.inr (w_szConnS_L0_mx1 a))) (emb := (fun p : Int => Sum.inl (w_szConnS_L0_mx0 p (-1)))) (st := 1) (Inv := fun v2 a => True) (Int.toNat ((v0.length : Int) - v2)) v2 v1 _ (Nat.lt_succ_self _) trivial
    (fun j a hj hv => ⟨w_szConnS_L0_st v0 a (v2 + 1 * (j : Int)) (by omega) (by omega) (by omega), fun _ _ => trivial⟩)
    (fun a hv => by
      show w_szConnS_L0_B v0 a (v2 + 1 * (((Int.toNat ((v0.length : Int) - v2)) : Nat) : Int)) (Option (w_szConnS_L0_sh.T ⊕ WT w_szConnS_L0_es)) none (fun v' => some (Sum.inl v')) (fun w => some (Sum.inr w)) = _
      unfold w_szConnS_L0_B
      exact bifN (by simp only [decide_eq_false_iff_not]; omega) rfl)
def w_szConnS_N (x0 : List Conn) (x1 : Int) (γ : Type) (fail : γ) (k : Int → γ) : γ :=
  bif (decide ((IntKind.wrap .i64 (x1 - (x0.length : Int))) < 0)) then
    k (-1)
  else
  optK (loopF w_szConnS_L0_r.step (w_szConnS_L0_fu x0 (IntKind.wrap .i64 (x1 - (x0.length : Int))) 0) (w_szConnS_L0_mk x0 (IntKind.wrap .i64 (x1 - (x0.length : Int))) 0)) fail fun w2 =>
    Sum.elim (fun w2 =>
      k w2.1.2.1.1)
    (fun w2 =>
      k w2.1.1.1) w2
def w_szConnS (x0 : List Conn) (x1 : Int) : Int :=
  bif (decide ((IntKind.wrap .i64 (x1 - (x0.length : Int))) < 0)) then
    (-1)
  else
  Stp.elim (fun a3 =>
    a3)
    (fun p3 =>
      (-1))
    (forN (w_szConnS_L0_f x0) 1 (Int.toNat ((x0.length : Int) - 0)) 0 (IntKind.wrap .i64 (x1 - (x0.length : Int))))
theorem w_szConnS_lk (x0 : List Conn) (x1 : Int) : evalFn te (orcOf (P := Tryz.prog) [w_szConn_e]) (lorcOf [w_szConnS_L0_le]) w_szConnS_ann Tryz.f50 (pvs [.sc (.sl .conn), .sc (.int .i64)] (x0, x1, ())) =
  w_szConnS_N x0 x1 _ none (fun v => some [(false, [RC.c (.int .i64 v)])]) := by kernel_rfl
theorem w_szConnS_p (x0 : List Conn) (x1 : Int) (hx0 : x0.length ≤ 140737488355328) (hx0_e : ∀ y ∈ x0, ∀ c ∈ Ty.cells .conn y, FactC c) (hx1 : inK .i64 x1)  (γ : Type) (fail : γ) (k : Int → γ) : w_szConnS_N x0 x1 γ fail k = k (w_szConnS x0 x1) := by
  unfold w_szConnS_N w_szConnS
  exact bifT (f := k) (fun b0 => rfl)
      (fun b0 => loopT (f := k) (w_szConnS_L0_cl x0 (IntKind.wrap .i64 (x1 - (x0.length : Int))) 0 (by (try simp only [Nat.ble_eq, Bool.and_eq_true, decide_eq_true_eq, w_szConnS_L0_mx0, w_szConnS_L0_mx1]); grind [maxSl, maxStr, toBytes_length, toInts_length, List.length_set, wrap64, w_szConn_sm]) (by (try simp only [Nat.ble_eq, Bool.and_eq_true, decide_eq_true_eq, w_szConnS_L0_mx0, w_szConnS_L0_mx1]); grind [maxSl, maxStr, toBytes_length, toInts_length, List.length_set, wrap64, w_szConn_sm])) (fun a3 => rfl)
      (fun p3 => rfl))
theorem w_szConnS_c (x0 : List Conn) (x1 : Int)  : Con Tryz.prog 50 (pvs [.sc (.sl .conn), .sc (.int .i64)] (x0, x1, ())) [rv (.sc (.int .i64)) [] (w_szConnS x0 x1)] := by
  refine Con.of_facts (enters_of Tryz.func50 rfl (by kernel_rfl)) fun hf => ?_
  replace hf := factAt hf
  exact evalFn_conL teFact mixFact (orcOf_ok _) Tryz.func50 (by kernel_rfl) (bs := [0]) (by kernel_rfl) (by kernel_rfl) (fun w0 mo I0 hmo => ⟨lsem_of_lorc (w_szConnS_L0_ls w0 mo I0 hmo) (by kernel_rfl), trivial⟩) ((w_szConnS_lk x0 x1).trans (w_szConnS_p x0 x1 ((hf 0 0 rfl rfl).len) (fun y hy => (hf 0 0 rfl rfl).elem hy) ((hf 1 0 rfl rfl).rng) _ _ _))
noncomputable def w_szConnS_e : Ent1 Tryz.prog := entA 50 [.sc (.sl .conn), .sc (.int .i64)] (fun x => (w_szConnS x.1 x.2.1)) (fun v => [rv (.sc (.int .i64)) [] v]) (fun x => w_szConnS_c x.1 x.2.1)


theorem toEntryS_eq (xs : List Entr) : w_toEntryS xs = xs := by
  unfold w_toEntryS
  try simp only [letK_eq]
  rw [toNat_sub0, forN_list xs _ rfl (F := fun j x a => .next (a.set j x)) (by
    intro j x a h
    simp only [w_toEntryS_L0_f, letK_eq, toNat_cast, getD_some h, toEntry_eq])]
  have := fun r hr => listN_fill (W := Empty) (fun x => x) xs 0 r hr
  rw [this _ (by simp)]
  simp [Stp.elim]

theorem eqEntryS_refl (xs : List Entr) : w_eqEntryS xs xs = true := by
  unfold w_eqEntryS
  rw [toNat_sub0, forN_list xs _ rfl (F := fun j x a => bif (fun _ => false) x then .out () else .next ()) (by
    intro j x a h
    simp [w_eqEntryS_L0_f, letK, toNat_cast, eqEntry_refl])]
  rw [listN_all xs 0 (by simp)]
  simp [Stp.elim]

theorem w_szConnS_sm (x0 : List Conn) (x1 : Int) (hn : 0 ≤ x1 ∧ x1 ≤ 1048576) (hx0 : x0.length ≤ 140737488355328) (hx0_e : ∀ y ∈ x0, ∀ c ∈ Ty.cells .conn y, FactC c) : 0 ≤ w_szConnS x0 x1 → w_szConnS x0 x1 ≤ 1048576 ∧ x0.length ≤ 1048576 ∧ sm_conn x0 = true := by
  unfold w_szConnS
  rw [wrap64 (by omega) (by omega)]
  cases hd : decide (x1 - (x0.length : Int) < 0) with
  | true => intro h; simp only [cond_true] at h; omega
  | false =>
    simp only [decide_eq_false_iff_not] at hd
    simp only [cond_false]
    cases hf : forN (w_szConnS_L0_f x0) 1 (Int.toNat ((x0.length : Int) - 0)) 0 (x1 - (x0.length : Int)) with
    | out p => intro h; simp only [Stp.elim] at h; omega
    | next a =>
      have h5 : (0 ≤ a ∧ a ≤ 1048576) ∧ ∀ t : Nat, (t : Int) < 0 + 1 * ((Int.toNat ((x0.length : Int) - 0) : Nat) : Int) → ((x0.getD t (Ty.zero .conn)).s.data).length ≤ 1048576 ∧ ((x0.getD t (Ty.zero .conn)).r.data).length ≤ 1048576 ∧ ((x0.getD t (Ty.zero .conn)).r.held).length ≤ 1048576 := by
        refine forN_inv (Inv := fun j a => (0 ≤ a ∧ a ≤ 1048576) ∧ ∀ t : Nat, (t : Int) < j → ((x0.getD t (Ty.zero .conn)).s.data).length ≤ 1048576 ∧ ((x0.getD t (Ty.zero .conn)).r.data).length ≤ 1048576 ∧ ((x0.getD t (Ty.zero .conn)).r.held).length ≤ 1048576) _ _ _ ⟨by omega, fun t h => by omega⟩ (fun j a hjj h a2 he => ?_) a hf
        have hz : ∀ c ∈ Ty.cells .conn (x0.getD (0 + 1 * (j : Int)).toNat (Ty.zero .conn)), FactC c := getD_all (p := fun y => ∀ c ∈ Ty.cells .conn y, FactC c) (factZero _) hx0_e _
        have hq : ∀ y : Conn, (∀ c ∈ Ty.cells .conn y, FactC c) → 0 ≤ w_szConn y a → w_szConn y a ≤ 1048576 ∧ (y.s.data).length ≤ 1048576 ∧ (y.r.data).length ≤ 1048576 ∧ (y.r.held).length ≤ 1048576 := fun y hy h0 => w_szConn_sm y a h.1 (hy (.str y.s.data) (List.mem_cons_of_mem _ (List.mem_cons_of_mem _ (List.mem_cons_of_mem _ (List.mem_cons_of_mem _ (List.mem_cons_of_mem _ List.mem_cons_self)))))).slen (hy (.str y.r.data) (List.mem_cons_of_mem _ (List.mem_cons_of_mem _ (List.mem_cons_of_mem _ (List.mem_cons_of_mem _ (List.mem_cons_of_mem _ (List.mem_cons_of_mem _ (List.mem_cons_of_mem _ (List.mem_cons_of_mem _ (List.mem_cons_of_mem _ (List.mem_cons_of_mem _ (List.mem_cons_of_mem _ List.mem_cons_self)))))))))))).slen (hy (.sl .piec y.r.held) (List.mem_cons_of_mem _ (List.mem_cons_of_mem _ (List.mem_cons_of_mem _ (List.mem_cons_of_mem _ (List.mem_cons_of_mem _ (List.mem_cons_of_mem _ (List.mem_cons_of_mem _ (List.mem_cons_of_mem _ (List.mem_cons_of_mem _ (List.mem_cons_of_mem _ (List.mem_cons_of_mem _ (List.mem_cons_of_mem _ List.mem_cons_self))))))))))))).len (fun z hz => (hy (.sl .piec y.r.held) (List.mem_cons_of_mem _ (List.mem_cons_of_mem _ (List.mem_cons_of_mem _ (List.mem_cons_of_mem _ (List.mem_cons_of_mem _ (List.mem_cons_of_mem _ (List.mem_cons_of_mem _ (List.mem_cons_of_mem _ (List.mem_cons_of_mem _ (List.mem_cons_of_mem _ (List.mem_cons_of_mem _ (List.mem_cons_of_mem _ List.mem_cons_self))))))))))))).elem hz) h0
        unfold w_szConnS_L0_f at he
        simp only [letK_eq] at he
        cases hc : decide (w_szConn (x0.getD (0 + 1 * (j : Int)).toNat (Ty.zero .conn)) a < 0) <;> rw [hc] at he <;> cases he
        simp only [decide_eq_false_iff_not] at hc
        have h6 := hq _ hz (by omega)
        refine ⟨⟨by omega, h6.1⟩, fun t ht => ?_⟩
        rcases (show (t : Int) < 0 + 1 * (j : Int) ∨ t = j by omega) with h7 | h7
        · exact h.2 t h7
        · subst h7
          have h8 := h6.2
          rw [show (0 + 1 * (t : Int)).toNat = t by omega] at h8
          exact h8
      rw [toNat_sub0] at h5
      intro _; simp only [Stp.elim]; exact ⟨h5.1.2, by omega, sm_conn_of fun t ht => h5.2 t (by omega)⟩

theorem toHalf_eq (x : Half) : w_toHalf x = x := by
  first | rfl | simp only [w_toHalf, letK, toTuple_eq, toOptions_eq] | (simp [w_toHalf, letK, toTuple_eq, toOptions_eq])

theorem toTupleS_eq (xs : List Tupl) : w_toTupleS xs = xs := by
  unfold w_toTupleS
  try simp only [letK_eq]
  rw [toNat_sub0, forN_list xs _ rfl (F := fun j x a => .next (a.set j x)) (by
    intro j x a h
    simp only [w_toTupleS_L0_f, letK_eq, toNat_cast, getD_some h, toTuple_eq])]
  have := fun r hr => listN_fill (W := Empty) (fun x => x) xs 0 r hr
  rw [this _ (by simp)]
  simp [Stp.elim]

theorem eqHalf_refl (x : Half) : w_eqHalf x x = true := by simp [w_eqHalf, letK, eqTuple_refl, eqOptions_refl]

theorem eqTupleS_refl (xs : List Tupl) : w_eqTupleS xs xs = true := by
  unfold w_eqTupleS
  rw [toNat_sub0, forN_list xs _ rfl (F := fun j x a => bif (fun _ => false) x then .out () else .next ()) (by
    intro j x a h
    simp [w_eqTupleS_L0_f, letK, toNat_cast, eqTuple_refl])]
  rw [listN_all xs 0 (by simp)]
  simp [Stp.elim]

theorem toMacRowS_eq (xs : List MacRow) : w_toMacRowS xs = xs := by
  unfold w_toMacRowS
  try simp only [letK_eq]
  rw [toNat_sub0, forN_list xs _ rfl (F := fun j x a => .next (a.set j x)) (by
    intro j x a h
    simp only [w_toMacRowS_L0_f, letK_eq, toNat_cast, getD_some h, toMacRow_eq])]
  have := fun r hr => listN_fill (W := Empty) (fun x => x) xs 0 r hr
  rw [this _ (by simp)]
  simp [Stp.elim]

theorem eqMacRowS_refl (xs : List MacRow) : w_eqMacRowS xs xs = true := by
  unfold w_eqMacRowS
  rw [toNat_sub0, forN_list xs _ rfl (F := fun j x a => bif (fun _ => false) x then .out () else .next ()) (by
    intro j x a h
    simp [w_eqMacRowS_L0_f, letK, toNat_cast, eqMacRow_refl])]
  rw [listN_all xs 0 (by simp)]
  simp [Stp.elim]

theorem toPieceS_eq (xs : List Piec) : w_toPieceS xs = xs := by
  unfold w_toPieceS
  try simp only [letK_eq]
  rw [toNat_sub0, forN_list xs _ rfl (F := fun j x a => .next (a.set j x)) (by
    intro j x a h
    simp only [w_toPieceS_L0_f, letK_eq, toNat_cast, getD_some h, toPiece_eq])]
  have := fun r hr => listN_fill (W := Empty) (fun x => x) xs 0 r hr
  rw [this _ (by simp)]
  simp [Stp.elim]

theorem eqPieceS_refl (xs : List Piec) : w_eqPieceS xs xs = true := by
  unfold w_eqPieceS
  rw [toNat_sub0, forN_list xs _ rfl (F := fun j x a => bif (fun _ => false) x then .out () else .next ()) (by
    intro j x a h
    simp [w_eqPieceS_L0_f, letK, toNat_cast, eqPiece_refl])]
  rw [listN_all xs 0 (by simp)]
  simp [Stp.elim]

def eqT (t y : Tupl) : Bool := (y.ip == t.ip) && ((y.port == t.port) && ((y.my == t.my) && true))
theorem eqT_refl (t : Tupl) : eqT t t = true := by simp [eqT]
theorem s_FindHalf_eq2 (xs : List Half) (t : Tupl) : s_FindHalf xs t = fidx (fun h => eqT t h.tuple) xs := by
  unfold s_FindHalf
  refine (fidx_elim (fun h : Half => eqT t h.tuple) xs fun j x a h => ?_)
  unfold s_FindHalf_L0_f
  simp only [toNat_cast, getD_some h, eqT]
theorem i_FindHalf_eq2 (xs : List Half) (t : Tupl) : i_FindHalf xs t = fidx (fun h => eqT t h.tuple) xs := by
  unfold i_FindHalf g_IndexFunc_Half_i_FindHalf_1
  simp only [letK_eq]
  rw [← fidx_elim (fun h : Half => eqT t h.tuple) xs (f := g_IndexFunc_Half_i_FindHalf_1_L0_f xs (xs.length : Int) t.ip t.port t.my) (fun j x a h => by
    unfold g_IndexFunc_Half_i_FindHalf_1_L0_f i_FindHalf_1
    simp only [letK_eq, toNat_cast, getD_some h, eqT])]
  cases forN (g_IndexFunc_Half_i_FindHalf_1_L0_f xs (xs.length : Int) t.ip t.port t.my) 1 (Int.toNat ((xs.length : Int) - 0)) 0 () <;> rfl
theorem q_FindHalf (xs : List Half) (t : Tupl) : s_FindHalf xs t = i_FindHalf xs t := by rw [s_FindHalf_eq2, i_FindHalf_eq2]
theorem s_FindConn_eq2 (x : Tabl) (t : Tupl) : s_FindConn x t = fidx (fun h => eqT t h.tuple) x.conns := by
  unfold s_FindConn
  refine (fidx_elim (fun h : Conn => eqT t h.tuple) x.conns fun j y a h => ?_)
  unfold s_FindConn_L0_f
  simp only [toNat_cast, getD_some h, eqT]
theorem i_FindConn_eq2 (x : Tabl) (t : Tupl) : i_FindConn x t = fidx (fun h => eqT t h.tuple) x.conns := by
  unfold i_FindConn g_IndexFunc_Conn_i_FindConn_1
  simp only [letK_eq]
  rw [← fidx_elim (fun h : Conn => eqT t h.tuple) x.conns (f := g_IndexFunc_Conn_i_FindConn_1_L0_f x.conns (x.conns.length : Int) t.ip t.port t.my) (fun j x a h => by
    unfold g_IndexFunc_Conn_i_FindConn_1_L0_f i_FindConn_1
    simp only [letK_eq, toNat_cast, getD_some h, eqT])]
  cases forN (g_IndexFunc_Conn_i_FindConn_1_L0_f x.conns (x.conns.length : Int) t.ip t.port t.my) 1 (Int.toNat ((x.conns.length : Int) - 0)) 0 () <;> rfl
theorem q_FindConn (x : Tabl) (t : Tupl) : s_FindConn x t = i_FindConn x t := by rw [s_FindConn_eq2, i_FindConn_eq2]

theorem l15At_eq (xs : List Entr) (ip : Int) : s_l15At xs ip = fidx (fun e => e.ip == ip) xs := by
  unfold s_l15At
  refine (fidx_elim (fun e : Entr => e.ip == ip) xs fun j y a h => ?_)
  unfold s_l15At_L0_f
  simp only [toNat_cast, getD_some h]
theorem HwOf_any (xs : List Entr) (ip : Int) : (i_HwOf xs ip).2 = xs.any (fun e => e.ip == ip) := by
  unfold i_HwOf
  rw [toNat_sub0, forN_list xs _ rfl (F := fun j y a => bif y.ip == ip then .out y.hw else .next ()) (by
    intro j y a h
    simp only [i_HwOf_L0_f, toNat_cast, getD_some h])]
  rw [listN_find (p := fun e : Entr => e.ip == ip) (w := fun _ e => e.hw)]
  cases h : xs.findIdx? (fun e => e.ip == ip) with
  | none =>
    rw [List.findIdx?_eq_none_iff] at h
    simp only [Stp.elim]
    symm
    rw [List.any_eq_false]
    intro x hx; simp [h x hx]
  | some i =>
    obtain ⟨h1, h2, _⟩ := List.findIdx?_eq_some_iff_getElem.1 h
    simp only [List.getElem?_eq_getElem h1, Stp.elim]
    symm
    rw [List.any_eq_true]; exact ⟨xs[i], List.getElem_mem h1, h2⟩
theorem q_CacheOk (xs : List Entr) : s_CacheOk xs = i_CacheOk xs := by
  unfold s_CacheOk i_CacheOk
  rw [show forN (s_CacheOk_L0_f xs) 1 (Int.toNat ((xs.length : Int) - 0)) 0 () = forN (i_CacheOk_L0_f xs xs (xs.length : Int)) 1 (Int.toNat ((xs.length : Int) - 0)) 0 () from forN_congr (fun j a => by
    unfold s_CacheOk_L0_f i_CacheOk_L0_f
    simp only [letK_eq, q_WordOk, q_within, l15At_eq, fidx_nn, HwOf_any]) _ _ _]
  generalize forN (i_CacheOk_L0_f xs xs (xs.length : Int)) _ _ _ _ = z
  by_cases h : 4 < (xs.length : Int)
  · rw [decide_eq_true h, decide_eq_false (by omega)]
    cases z <;> rfl
  · rw [decide_eq_false h, decide_eq_true (by omega)]
    cases z <;> rfl
theorem q_LinkOk (x : Link) : s_LinkOk x = i_LinkOk x := by
  unfold s_LinkOk i_LinkOk
  simp only [letK_eq, q_WordOk, q_CacheOk]

theorem q_LimitsOk (x : Limi) : s_LimitsOk x = i_LimitsOk x := by
  unfold s_LimitsOk i_LimitsOk
  simp only [letK_eq, q_within]
/-- two loops over a list that stop alike -/
theorem forN_same {T V W : Type} (xs : List T) {f : Int → Unit → Stp Unit V} {g : Int → Unit → Stp Unit W} {k : Nat} (hk : k = xs.length) (h : ∀ (j : Nat) x, xs[j]? = some x → (∃ v w, f j () = .out v ∧ g j () = .out w) ∨ (f j () = .next () ∧ g j () = .next ())) :
    (∃ v w, forN f 1 k 0 () = .out v ∧ forN g 1 k 0 () = .out w) ∨ (forN f 1 k 0 () = .next () ∧ forN g 1 k 0 () = .next ()) := by
  subst hk
  have : ∀ (n i : Nat), i + n = xs.length → (∃ v w, forN f 1 n (i : Int) () = .out v ∧ forN g 1 n (i : Int) () = .out w) ∨ (forN f 1 n (i : Int) () = .next () ∧ forN g 1 n (i : Int) () = .next ()) := by
    intro n
    induction n with
    | zero => intro i _; exact .inr ⟨rfl, rfl⟩
    | succ n ih =>
      intro i hi
      rcases h i xs[i] (List.getElem?_eq_getElem (by omega)) with ⟨v, w, h1, h2⟩ | ⟨h1, h2⟩
      · exact .inl ⟨v, w, by simp only [forN, h1, Stp.elim], by simp only [forN, h2, Stp.elim]⟩
      · simp only [forN, h1, h2, Stp.elim]
        have := ih (i + 1) (by omega)
        rwa [show ((i + 1 : Nat) : Int) = (i : Int) + 1 by omega] at this
  exact this xs.length 0 (by omega)
theorem l25Waits_any (xs : List Tupl) (t : Tupl) : s_l25Waits xs t = xs.any (eqT t) := by
  unfold s_l25Waits
  rw [toNat_sub0, forN_list xs _ rfl (F := fun j y a => bif eqT t y then .out () else .next ()) (by
    intro j y a h
    simp only [s_l25Waits_L0_f, toNat_cast, getD_some h, eqT])]
  rw [listN_find (p := eqT t) (w := fun _ _ => ())]
  cases h : xs.findIdx? (eqT t) with
  | none =>
    rw [List.findIdx?_eq_none_iff] at h
    simp only [Stp.elim]
    symm
    rw [List.any_eq_false]
    intro x hx; simp [h x hx]
  | some i =>
    obtain ⟨h1, h2, _⟩ := List.findIdx?_eq_some_iff_getElem.1 h
    simp only [List.getElem?_eq_getElem h1, Stp.elim]
    symm
    rw [List.any_eq_true]; exact ⟨xs[i], List.getElem_mem h1, h2⟩
theorem Index_Tuple_eq2 (xs : List Tupl) (t : Tupl) : g_Index_Tuple xs t = fidx (eqT t) xs := by
  unfold g_Index_Tuple
  refine (fidx_elim (eqT t) xs fun j y a h => ?_)
  unfold g_Index_Tuple_L0_f eqT
  simp only [toNat_cast, getD_some h]
  have e : ∀ a b : Int, (a == b) = (b == a) := fun a b => by rw [Bool.eq_iff_iff]; simp only [beq_iff_eq]; exact eq_comm
  rw [e t.ip, e t.port, e t.my]
theorem mem_at {T : Type} {xs : List T} {j : Nat} {x : T} (h : xs[j]? = some x) : x ∈ xs := List.mem_of_getElem? h
theorem q_TableOk (x : Tabl) (l : Limi) (hs : ∀ y ∈ x.conns, SmallP y.r.held) : s_TableOk x l = i_TableOk x l := by
  unfold s_TableOk i_TableOk
  simp only [letK_eq, q_LimitsOk]
  have h1 := forN_same x.conns (f := s_TableOk_L0_f x.conns x.waiting) (g := i_TableOk_L0_f x.conns (x.conns.length : Int) x.conns x.waiting) (k := Int.toNat ((x.conns.length : Int) - 0)) (toNat_sub0 _) (fun j y hy => by
    unfold s_TableOk_L0_f i_TableOk_L0_f
    simp only [letK_eq, toNat_cast, getD_some hy, q_ConnOk y (hs y (mem_at hy)), q_FindConn]
    cases i_ConnOk y with
    | false => exact .inl ⟨_, _, rfl, rfl⟩
    | true => cases (i_FindConn ⟨x.conns, x.waiting⟩ y.tuple != (j : Int)) with
      | true => exact .inl ⟨_, _, rfl, rfl⟩
      | false => exact .inr ⟨rfl, rfl⟩)
  have h2 := forN_same x.waiting (f := s_TableOk_L1_f x.conns x.waiting) (g := i_TableOk_L1_f x.waiting (x.waiting.length : Int) x.conns x.waiting) (k := Int.toNat ((x.waiting.length : Int) - 0)) (toNat_sub0 _) (fun j y hy => by
    unfold s_TableOk_L1_f i_TableOk_L1_f
    simp only [letK_eq, toNat_cast, getD_some hy, l25Waits_any, Index_Tuple_eq2, q_FindConn, List.drop_zero]
    rw [fidx_at (eqT y) x.waiting j y hy (eqT_refl y)]
    cases (x.waiting.take j).any (eqT y) <;> cases decide (i_FindConn ⟨x.conns, x.waiting⟩ y < 0) <;> first | exact .inl ⟨_, _, rfl, rfl⟩ | exact .inr ⟨rfl, rfl⟩)
  rcases h1 with ⟨v, w, h3, h4⟩ | ⟨h3, h4⟩
  · rw [h3, h4]
    cases (i_LimitsOk l) <;> cases decide (l.conns < (x.conns.length : Int)) <;> cases decide (l.waiting < (x.waiting.length : Int)) <;> rfl
  · rw [h3, h4]
    rcases h2 with ⟨v, w, h5, h6⟩ | ⟨h5, h6⟩
    · rw [h5, h6]
      all_goals (cases (i_LimitsOk l) <;> cases decide (l.conns < (x.conns.length : Int)) <;> cases decide (l.waiting < (x.waiting.length : Int)) <;> rfl)
    · rw [h5, h6]
      all_goals (cases (i_LimitsOk l) <;> cases decide (l.conns < (x.conns.length : Int)) <;> cases decide (l.waiting < (x.waiting.length : Int)) <;> rfl)
theorem q_HalvesOk (xs : List Half) : s_HalvesOk xs = i_HalvesOk xs := by
  unfold s_HalvesOk i_HalvesOk
  have h1 := forN_same xs (f := s_HalvesOk_L0_f xs) (g := i_HalvesOk_L0_f xs xs (xs.length : Int)) (k := Int.toNat ((xs.length : Int) - 0)) (toNat_sub0 _) (fun j y hy => by
    unfold s_HalvesOk_L0_f i_HalvesOk_L0_f
    simp only [letK_eq, toNat_cast, getD_some hy, q_TupleOk, q_WordOk, q_OptionsOk, q_within, s_FindHalf_eq2, i_FindHalf_eq2, List.drop_zero, fidx_nn]
    rw [fidx_at (fun h : Half => eqT y.tuple h.tuple) xs j y hy (eqT_refl _)]
    cases i_TupleOk y.tuple with
    | false => exact .inl ⟨_, _, rfl, rfl⟩
    | true =>
    cases i_WordOk y.iss 32 with
    | false => exact .inl ⟨_, _, rfl, rfl⟩
    | true =>
    cases i_WordOk y.irs 32 with
    | false => exact .inl ⟨_, _, rfl, rfl⟩
    | true =>
    cases i_WordOk y.window 16 with
    | false => exact .inl ⟨_, _, rfl, rfl⟩
    | true =>
    cases i_OptionsOk y.opts with
    | false => exact .inl ⟨_, _, rfl, rfl⟩
    | true =>
    cases i_within y.age 0 6 with
    | false => exact .inl ⟨_, _, rfl, rfl⟩
    | true =>
    cases (xs.take j).any (fun h => eqT y.tuple h.tuple) with
    | true => exact .inl ⟨_, _, rfl, rfl⟩
    | false => exact .inr ⟨rfl, rfl⟩)
  rcases h1 with ⟨v, w, h3, h4⟩ | ⟨h3, h4⟩ <;> rw [h3, h4] <;> by_cases h : 64 < (xs.length : Int)
  · rw [decide_eq_true h]; rfl
  · rw [decide_eq_false h]; rfl
  · rw [decide_eq_true h]; simp only [Stp.elim, cond_true]; exact decide_eq_false (by omega)
  · rw [decide_eq_false h]; simp only [Stp.elim, cond_false]; exact decide_eq_true (by omega)
theorem DoorOk_any (d : Door) (xs : List Half) : (g_ContainsFunc_Half_i_DoorOk_1 xs d).1 = xs.any (fun h => decide (0 ≤ i_FindConn d.table h.tuple)) := by
  unfold g_ContainsFunc_Half_i_DoorOk_1 g_IndexFunc_Half_i_DoorOk_1
  simp only [letK_eq]
  rw [forN_fidx (fun h : Half => decide (0 ≤ i_FindConn d.table h.tuple)) xs (fun j y a h => by
    unfold g_IndexFunc_Half_i_DoorOk_1_L0_f i_DoorOk_1
    simp only [letK_eq, toNat_cast, getD_some h])]
  rw [← fidx_nn]
  unfold fidx
  cases xs.findIdx? (fun h => decide (0 ≤ i_FindConn d.table h.tuple)) <;> rfl
theorem listN_any {T : Type} (p : T → Bool) (xs : List T) (j : Nat) : listN (W := Unit) (fun _ y (_ : Unit) => bif p y then .out () else .next ()) j xs () = bif xs.any p then .out () else .next () := by
  rw [listN_find (w := fun _ _ => ())]
  cases h : xs.findIdx? p with
  | none =>
    rw [List.findIdx?_eq_none_iff] at h
    have : xs.any p = false := by
      rw [List.any_eq_false]
      intro y hy; simp [h y hy]
    rw [this]; rfl
  | some i =>
    obtain ⟨h1, h2, _⟩ := List.findIdx?_eq_some_iff_getElem.1 h
    have : xs.any p = true := by rw [List.any_eq_true]; exact ⟨xs[i], List.getElem_mem h1, h2⟩
    rw [this]; simp only [List.getElem?_eq_getElem h1]; rfl
theorem q_DoorOk (x : Door) (hs : ∀ y ∈ x.table.conns, SmallP y.r.held) : s_DoorOk x = i_DoorOk x := by
  unfold s_DoorOk i_DoorOk
  simp only [letK_eq, q_WordOk, q_KeysOk, q_TableOk x.table x.limits hs, q_HalvesOk, q_within, DoorOk_any]
  rw [toNat_sub0, forN_list x.halves _ rfl (F := fun j y a => bif decide (0 ≤ i_FindConn x.table y.tuple) then .out () else .next ()) (by
    intro j y a h
    unfold s_DoorOk_L0_f
    simp only [letK_eq, toNat_cast, getD_some h, q_FindConn])]
  rw [listN_any (fun y : Half => decide (0 ≤ i_FindConn x.table y.tuple))]
  cases x.halves.any (fun y => decide (0 ≤ i_FindConn x.table y.tuple)) <;> rfl
theorem q_StackOk (x : Stac) (hs : ∀ y ∈ x.door.table.conns, SmallP y.r.held) : s_StackOk x = i_StackOk x := by
  unfold s_StackOk i_StackOk
  simp only [letK_eq, q_LinkOk, q_DoorOk x.door hs]
theorem small_of {xs : List Conn} (h : ∀ y ∈ xs, ∀ c ∈ Ty.cells .conn y, FactC c) : ∀ y ∈ xs, SmallP y.r.held := fun y hy z hz =>
  (((h y hy (.sl .piec y.r.held) (List.mem_cons_of_mem _ (List.mem_cons_of_mem _ (List.mem_cons_of_mem _ (List.mem_cons_of_mem _ (List.mem_cons_of_mem _ (List.mem_cons_of_mem _ (List.mem_cons_of_mem _ (List.mem_cons_of_mem _ (List.mem_cons_of_mem _ (List.mem_cons_of_mem _ (List.mem_cons_of_mem _ (List.mem_cons_of_mem _ List.mem_cons_self))))))))))))).elem hz) (.str z.text) (List.mem_cons_of_mem _ List.mem_cons_self)).slen

/-- laws.szTable -/
def w_szTable_N (x0 : Tabl) (x1 : Int) (γ : Type) (fail : γ) (k : Int → γ) : γ :=
  letK (α := Int) (w_szConnS x0.conns x1) fun c1 =>
  bif (decide (c1 < 0)) then
    k (-1)
  else
  letK (α := Int) (w_szTupleS x0.waiting c1) fun c2 =>
  bif (decide (c2 < 0)) then
    k (-1)
  else
  k c2
def w_szTable (x0 : Tabl) (x1 : Int) : Int :=
  letK (α := Int) (w_szConnS x0.conns x1) fun c1 =>
  bif (decide (c1 < 0)) then
    (-1)
  else
  letK (α := Int) (w_szTupleS x0.waiting c1) fun c2 =>
  bif (decide (c2 < 0)) then
    (-1)
  else
  c2
theorem w_szTable_lk (x0 : Tabl) (x1 : Int) : evalFn te (orcOf (P := Tryz.prog) [w_szConnS_e, w_szTupleS_e]) lorc0 [] Tryz.f22 (pvs [.st .tabl, .sc (.int .i64)] (x0, x1, ())) =
  w_szTable_N x0 x1 _ none (fun v => some [(false, [RC.c (.int .i64 v)])]) := by kernel_rfl
theorem w_szTable_p (x0 : Tabl) (x1 : Int)   (γ : Type) (fail : γ) (k : Int → γ) : w_szTable_N x0 x1 γ fail k = k (w_szTable x0 x1) := by
  unfold w_szTable_N w_szTable
  exact letT (f := k) (fun c1 hc1 => bifT (f := k) (fun b0 => rfl)
      (fun b0 => letT (f := k) (fun c2 hc2 => bifT (f := k) (fun b1 => rfl)
      (fun b1 => rfl))))
theorem w_szTable_c (x0 : Tabl) (x1 : Int)  : Con Tryz.prog 22 (pvs [.st .tabl, .sc (.int .i64)] (x0, x1, ())) [rv (.sc (.int .i64)) [] (w_szTable x0 x1)] := by
  exact evalFn_con0 teFact mixFact (orcOf_ok _) Tryz.func22 (by kernel_rfl) ((w_szTable_lk x0 x1).trans (w_szTable_p x0 x1  _ _ _))
noncomputable def w_szTable_e : Ent1 Tryz.prog := entA 22 [.st .tabl, .sc (.int .i64)] (fun x => (w_szTable x.1 x.2.1)) (fun v => [rv (.sc (.int .i64)) [] v]) (fun x => w_szTable_c x.1 x.2.1)

theorem w_szTable_sm (x0 : Tabl) (x1 : Int)  (hn : 0 ≤ x1 ∧ x1 ≤ 1048576) (hx0_conns : x0.conns.length ≤ 140737488355328) (hx0_conns_e : ∀ y ∈ x0.conns, ∀ c ∈ Ty.cells .conn y, FactC c) (hx0_waiting : x0.waiting.length ≤ 140737488355328) : (fun v : Int => 0 ≤ v → v ≤ 1048576 ∧ x0.conns.length ≤ 1048576 ∧ x0.waiting.length ≤ 1048576 ∧ sm_conn x0.conns = true) (w_szTable x0 x1) := by
  unfold w_szTable
  exact letP (P := (fun v : Int => 0 ≤ v → v ≤ 1048576 ∧ x0.conns.length ≤ 1048576 ∧ x0.waiting.length ≤ 1048576 ∧ sm_conn x0.conns = true)) (fun c1 hc1 => have kc1 := w_szConnS_sm x0.conns x1 (by grind [wrap64]) (by assumption) (by assumption); bifP (P := (fun v : Int => 0 ≤ v → v ≤ 1048576 ∧ x0.conns.length ≤ 1048576 ∧ x0.waiting.length ≤ 1048576 ∧ sm_conn x0.conns = true)) (fun b0 => (by (try simp only [Nat.ble_eq, Bool.and_eq_true, decide_eq_true_eq]); grind [maxSl, maxStr, toBytes_length, toInts_length, List.length_set, wrap64, w_szConnS_sm, w_szTupleS_sm]))
      (fun b0 => letP (P := (fun v : Int => 0 ≤ v → v ≤ 1048576 ∧ x0.conns.length ≤ 1048576 ∧ x0.waiting.length ≤ 1048576 ∧ sm_conn x0.conns = true)) (fun c2 hc2 => have kc2 := w_szTupleS_sm x0.waiting c1 (by grind [wrap64]) (by assumption); bifP (P := (fun v : Int => 0 ≤ v → v ≤ 1048576 ∧ x0.conns.length ≤ 1048576 ∧ x0.waiting.length ≤ 1048576 ∧ sm_conn x0.conns = true)) (fun b1 => (by (try simp only [Nat.ble_eq, Bool.and_eq_true, decide_eq_true_eq]); grind [maxSl, maxStr, toBytes_length, toInts_length, List.length_set, wrap64, w_szConnS_sm, w_szTupleS_sm]))
      (fun b1 => (by (try simp only [Nat.ble_eq, Bool.and_eq_true, decide_eq_true_eq]); grind [maxSl, maxStr, toBytes_length, toInts_length, List.length_set, wrap64, w_szConnS_sm, w_szTupleS_sm])))))

/-- laws.szDoor -/
def w_szDoor_N (x0 : Door) (x1 : Int) (γ : Type) (fail : γ) (k : Int → γ) : γ :=
  letK (α := Int) (w_szKeys x0.keys x1) fun c1 =>
  bif (decide (c1 < 0)) then
    k (-1)
  else
  letK (α := Int) (w_szHalfS x0.halves c1) fun c2 =>
  bif (decide (c2 < 0)) then
    k (-1)
  else
  letK (α := Int) (w_szTable x0.table c2) fun c3 =>
  bif (decide (c3 < 0)) then
    k (-1)
  else
  k c3
def w_szDoor (x0 : Door) (x1 : Int) : Int :=
  letK (α := Int) (w_szKeys x0.keys x1) fun c1 =>
  bif (decide (c1 < 0)) then
    (-1)
  else
  letK (α := Int) (w_szHalfS x0.halves c1) fun c2 =>
  bif (decide (c2 < 0)) then
    (-1)
  else
  letK (α := Int) (w_szTable x0.table c2) fun c3 =>
  bif (decide (c3 < 0)) then
    (-1)
  else
  c3
theorem w_szDoor_lk (x0 : Door) (x1 : Int) : evalFn te (orcOf (P := Tryz.prog) [w_szKeys_e, w_szHalfS_e, w_szTable_e]) lorc0 [] Tryz.f10 (pvs [.st .door, .sc (.int .i64)] (x0, x1, ())) =
  w_szDoor_N x0 x1 _ none (fun v => some [(false, [RC.c (.int .i64 v)])]) := by kernel_rfl
theorem w_szDoor_p (x0 : Door) (x1 : Int)   (γ : Type) (fail : γ) (k : Int → γ) : w_szDoor_N x0 x1 γ fail k = k (w_szDoor x0 x1) := by
  unfold w_szDoor_N w_szDoor
  exact letT (f := k) (fun c1 hc1 => bifT (f := k) (fun b0 => rfl)
      (fun b0 => letT (f := k) (fun c2 hc2 => bifT (f := k) (fun b1 => rfl)
      (fun b1 => letT (f := k) (fun c3 hc3 => bifT (f := k) (fun b2 => rfl)
      (fun b2 => rfl))))))
theorem w_szDoor_c (x0 : Door) (x1 : Int)  : Con Tryz.prog 10 (pvs [.st .door, .sc (.int .i64)] (x0, x1, ())) [rv (.sc (.int .i64)) [] (w_szDoor x0 x1)] := by
  exact evalFn_con0 teFact mixFact (orcOf_ok _) Tryz.func10 (by kernel_rfl) ((w_szDoor_lk x0 x1).trans (w_szDoor_p x0 x1  _ _ _))
noncomputable def w_szDoor_e : Ent1 Tryz.prog := entA 10 [.st .door, .sc (.int .i64)] (fun x => (w_szDoor x.1 x.2.1)) (fun v => [rv (.sc (.int .i64)) [] v]) (fun x => w_szDoor_c x.1 x.2.1)

theorem w_szDoor_sm (x0 : Door) (x1 : Int)  (hn : 0 ≤ x1 ∧ x1 ≤ 1048576) (hx0_keys_now_rows : x0.keys.now.rows.length ≤ 140737488355328) (hx0_keys_now_rows_e : ∀ y ∈ x0.keys.now.rows, ∀ c ∈ Ty.cells .macRow y, FactC c) (hx0_keys_before_rows : x0.keys.before.rows.length ≤ 140737488355328) (hx0_keys_before_rows_e : ∀ y ∈ x0.keys.before.rows, ∀ c ∈ Ty.cells .macRow y, FactC c) (hx0_halves : x0.halves.length ≤ 140737488355328) (hx0_table_conns : x0.table.conns.length ≤ 140737488355328) (hx0_table_conns_e : ∀ y ∈ x0.table.conns, ∀ c ∈ Ty.cells .conn y, FactC c) (hx0_table_waiting : x0.table.waiting.length ≤ 140737488355328) : (fun v : Int => 0 ≤ v → v ≤ 1048576 ∧ x0.keys.now.rows.length ≤ 1048576 ∧ x0.keys.before.rows.length ≤ 1048576 ∧ x0.halves.length ≤ 1048576 ∧ x0.table.conns.length ≤ 1048576 ∧ x0.table.waiting.length ≤ 1048576 ∧ sm_conn x0.table.conns = true) (w_szDoor x0 x1) := by
  unfold w_szDoor
  exact letP (P := (fun v : Int => 0 ≤ v → v ≤ 1048576 ∧ x0.keys.now.rows.length ≤ 1048576 ∧ x0.keys.before.rows.length ≤ 1048576 ∧ x0.halves.length ≤ 1048576 ∧ x0.table.conns.length ≤ 1048576 ∧ x0.table.waiting.length ≤ 1048576 ∧ sm_conn x0.table.conns = true)) (fun c1 hc1 => have kc1 := w_szKeys_sm x0.keys x1 (by grind [wrap64]) (by assumption) (by assumption) (by assumption) (by assumption); bifP (P := (fun v : Int => 0 ≤ v → v ≤ 1048576 ∧ x0.keys.now.rows.length ≤ 1048576 ∧ x0.keys.before.rows.length ≤ 1048576 ∧ x0.halves.length ≤ 1048576 ∧ x0.table.conns.length ≤ 1048576 ∧ x0.table.waiting.length ≤ 1048576 ∧ sm_conn x0.table.conns = true)) (fun b0 => (by (try simp only [Nat.ble_eq, Bool.and_eq_true, decide_eq_true_eq]); grind [maxSl, maxStr, toBytes_length, toInts_length, List.length_set, wrap64, w_szKeys_sm, w_szHalfS_sm, w_szTable_sm]))
      (fun b0 => letP (P := (fun v : Int => 0 ≤ v → v ≤ 1048576 ∧ x0.keys.now.rows.length ≤ 1048576 ∧ x0.keys.before.rows.length ≤ 1048576 ∧ x0.halves.length ≤ 1048576 ∧ x0.table.conns.length ≤ 1048576 ∧ x0.table.waiting.length ≤ 1048576 ∧ sm_conn x0.table.conns = true)) (fun c2 hc2 => have kc2 := w_szHalfS_sm x0.halves c1 (by grind [wrap64]) (by assumption); bifP (P := (fun v : Int => 0 ≤ v → v ≤ 1048576 ∧ x0.keys.now.rows.length ≤ 1048576 ∧ x0.keys.before.rows.length ≤ 1048576 ∧ x0.halves.length ≤ 1048576 ∧ x0.table.conns.length ≤ 1048576 ∧ x0.table.waiting.length ≤ 1048576 ∧ sm_conn x0.table.conns = true)) (fun b1 => (by (try simp only [Nat.ble_eq, Bool.and_eq_true, decide_eq_true_eq]); grind [maxSl, maxStr, toBytes_length, toInts_length, List.length_set, wrap64, w_szKeys_sm, w_szHalfS_sm, w_szTable_sm]))
      (fun b1 => letP (P := (fun v : Int => 0 ≤ v → v ≤ 1048576 ∧ x0.keys.now.rows.length ≤ 1048576 ∧ x0.keys.before.rows.length ≤ 1048576 ∧ x0.halves.length ≤ 1048576 ∧ x0.table.conns.length ≤ 1048576 ∧ x0.table.waiting.length ≤ 1048576 ∧ sm_conn x0.table.conns = true)) (fun c3 hc3 => have kc3 := w_szTable_sm x0.table c2 (by grind [wrap64]) (by assumption) (by assumption) (by assumption); bifP (P := (fun v : Int => 0 ≤ v → v ≤ 1048576 ∧ x0.keys.now.rows.length ≤ 1048576 ∧ x0.keys.before.rows.length ≤ 1048576 ∧ x0.halves.length ≤ 1048576 ∧ x0.table.conns.length ≤ 1048576 ∧ x0.table.waiting.length ≤ 1048576 ∧ sm_conn x0.table.conns = true)) (fun b2 => (by (try simp only [Nat.ble_eq, Bool.and_eq_true, decide_eq_true_eq]); grind [maxSl, maxStr, toBytes_length, toInts_length, List.length_set, wrap64, w_szKeys_sm, w_szHalfS_sm, w_szTable_sm]))
      (fun b2 => (by (try simp only [Nat.ble_eq, Bool.and_eq_true, decide_eq_true_eq]); grind [maxSl, maxStr, toBytes_length, toInts_length, List.length_set, wrap64, w_szKeys_sm, w_szHalfS_sm, w_szTable_sm])))))))

/-- laws.szStack -/
def w_szStack_N (x0 : Stac) (x1 : Int) (γ : Type) (fail : γ) (k : Int → γ) : γ :=
  letK (α := Int) (w_szLink x0.link x1) fun c1 =>
  bif (decide (c1 < 0)) then
    k (-1)
  else
  letK (α := Int) (w_szDoor x0.door c1) fun c2 =>
  bif (decide (c2 < 0)) then
    k (-1)
  else
  k c2
def w_szStack (x0 : Stac) (x1 : Int) : Int :=
  letK (α := Int) (w_szLink x0.link x1) fun c1 =>
  bif (decide (c1 < 0)) then
    (-1)
  else
  letK (α := Int) (w_szDoor x0.door c1) fun c2 =>
  bif (decide (c2 < 0)) then
    (-1)
  else
  c2
theorem w_szStack_lk (x0 : Stac) (x1 : Int) : evalFn te (orcOf (P := Tryz.prog) [w_szLink_e, w_szDoor_e]) lorc0 [] Tryz.f4 (pvs [.st .stac, .sc (.int .i64)] (x0, x1, ())) =
  w_szStack_N x0 x1 _ none (fun v => some [(false, [RC.c (.int .i64 v)])]) := by kernel_rfl
theorem w_szStack_p (x0 : Stac) (x1 : Int)   (γ : Type) (fail : γ) (k : Int → γ) : w_szStack_N x0 x1 γ fail k = k (w_szStack x0 x1) := by
  unfold w_szStack_N w_szStack
  exact letT (f := k) (fun c1 hc1 => bifT (f := k) (fun b0 => rfl)
      (fun b0 => letT (f := k) (fun c2 hc2 => bifT (f := k) (fun b1 => rfl)
      (fun b1 => rfl))))
theorem w_szStack_c (x0 : Stac) (x1 : Int)  : Con Tryz.prog 4 (pvs [.st .stac, .sc (.int .i64)] (x0, x1, ())) [rv (.sc (.int .i64)) [] (w_szStack x0 x1)] := by
  exact evalFn_con0 teFact mixFact (orcOf_ok _) Tryz.func4 (by kernel_rfl) ((w_szStack_lk x0 x1).trans (w_szStack_p x0 x1  _ _ _))
noncomputable def w_szStack_e : Ent1 Tryz.prog := entA 4 [.st .stac, .sc (.int .i64)] (fun x => (w_szStack x.1 x.2.1)) (fun v => [rv (.sc (.int .i64)) [] v]) (fun x => w_szStack_c x.1 x.2.1)

theorem w_szStack_sm (x0 : Stac) (x1 : Int)  (hn : 0 ≤ x1 ∧ x1 ≤ 1048576) (hx0_link_cache : x0.link.cache.length ≤ 140737488355328) (hx0_door_keys_now_rows : x0.door.keys.now.rows.length ≤ 140737488355328) (hx0_door_keys_now_rows_e : ∀ y ∈ x0.door.keys.now.rows, ∀ c ∈ Ty.cells .macRow y, FactC c) (hx0_door_keys_before_rows : x0.door.keys.before.rows.length ≤ 140737488355328) (hx0_door_keys_before_rows_e : ∀ y ∈ x0.door.keys.before.rows, ∀ c ∈ Ty.cells .macRow y, FactC c) (hx0_door_halves : x0.door.halves.length ≤ 140737488355328) (hx0_door_table_conns : x0.door.table.conns.length ≤ 140737488355328) (hx0_door_table_conns_e : ∀ y ∈ x0.door.table.conns, ∀ c ∈ Ty.cells .conn y, FactC c) (hx0_door_table_waiting : x0.door.table.waiting.length ≤ 140737488355328) : (fun v : Int => 0 ≤ v → v ≤ 1048576 ∧ x0.link.cache.length ≤ 1048576 ∧ x0.door.keys.now.rows.length ≤ 1048576 ∧ x0.door.keys.before.rows.length ≤ 1048576 ∧ x0.door.halves.length ≤ 1048576 ∧ x0.door.table.conns.length ≤ 1048576 ∧ x0.door.table.waiting.length ≤ 1048576 ∧ sm_conn x0.door.table.conns = true) (w_szStack x0 x1) := by
  unfold w_szStack
  exact letP (P := (fun v : Int => 0 ≤ v → v ≤ 1048576 ∧ x0.link.cache.length ≤ 1048576 ∧ x0.door.keys.now.rows.length ≤ 1048576 ∧ x0.door.keys.before.rows.length ≤ 1048576 ∧ x0.door.halves.length ≤ 1048576 ∧ x0.door.table.conns.length ≤ 1048576 ∧ x0.door.table.waiting.length ≤ 1048576 ∧ sm_conn x0.door.table.conns = true)) (fun c1 hc1 => have kc1 := w_szLink_sm x0.link x1 (by grind [wrap64]) (by assumption); bifP (P := (fun v : Int => 0 ≤ v → v ≤ 1048576 ∧ x0.link.cache.length ≤ 1048576 ∧ x0.door.keys.now.rows.length ≤ 1048576 ∧ x0.door.keys.before.rows.length ≤ 1048576 ∧ x0.door.halves.length ≤ 1048576 ∧ x0.door.table.conns.length ≤ 1048576 ∧ x0.door.table.waiting.length ≤ 1048576 ∧ sm_conn x0.door.table.conns = true)) (fun b0 => (by (try simp only [Nat.ble_eq, Bool.and_eq_true, decide_eq_true_eq]); grind [maxSl, maxStr, toBytes_length, toInts_length, List.length_set, wrap64, w_szLink_sm, w_szDoor_sm]))
      (fun b0 => letP (P := (fun v : Int => 0 ≤ v → v ≤ 1048576 ∧ x0.link.cache.length ≤ 1048576 ∧ x0.door.keys.now.rows.length ≤ 1048576 ∧ x0.door.keys.before.rows.length ≤ 1048576 ∧ x0.door.halves.length ≤ 1048576 ∧ x0.door.table.conns.length ≤ 1048576 ∧ x0.door.table.waiting.length ≤ 1048576 ∧ sm_conn x0.door.table.conns = true)) (fun c2 hc2 => have kc2 := w_szDoor_sm x0.door c1 (by grind [wrap64]) (by assumption) (by assumption) (by assumption) (by assumption) (by assumption) (by assumption) (by assumption) (by assumption); bifP (P := (fun v : Int => 0 ≤ v → v ≤ 1048576 ∧ x0.link.cache.length ≤ 1048576 ∧ x0.door.keys.now.rows.length ≤ 1048576 ∧ x0.door.keys.before.rows.length ≤ 1048576 ∧ x0.door.halves.length ≤ 1048576 ∧ x0.door.table.conns.length ≤ 1048576 ∧ x0.door.table.waiting.length ≤ 1048576 ∧ sm_conn x0.door.table.conns = true)) (fun b1 => (by (try simp only [Nat.ble_eq, Bool.and_eq_true, decide_eq_true_eq]); grind [maxSl, maxStr, toBytes_length, toInts_length, List.length_set, wrap64, w_szLink_sm, w_szDoor_sm]))
      (fun b1 => (by (try simp only [Nat.ble_eq, Bool.and_eq_true, decide_eq_true_eq]); grind [maxSl, maxStr, toBytes_length, toInts_length, List.length_set, wrap64, w_szLink_sm, w_szDoor_sm])))))

theorem toLink_eq (x : Link) : w_toLink x = x := by
  first | rfl | simp only [w_toLink, letK, toEntryS_eq] | (simp [w_toLink, letK, toEntryS_eq])

theorem eqLink_refl (x : Link) : w_eqLink x x = true := by simp [w_eqLink, letK, eqEntryS_refl]

theorem toHalfS_eq (xs : List Half) : w_toHalfS xs = xs := by
  unfold w_toHalfS
  try simp only [letK_eq]
  rw [toNat_sub0, forN_list xs _ rfl (F := fun j x a => .next (a.set j x)) (by
    intro j x a h
    simp only [w_toHalfS_L0_f, letK_eq, toNat_cast, getD_some h, toHalf_eq])]
  have := fun r hr => listN_fill (W := Empty) (fun x => x) xs 0 r hr
  rw [this _ (by simp)]
  simp [Stp.elim]

end Go.Proofs.YtnpmemmhiifbgaaGreat
