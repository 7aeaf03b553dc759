/-
  Contracts of functions and plain laws (printed by a program): each theorem says what a function of the program returns; conditions are its hypotheses.
-/
import Derived.Test.YtnpmemmhiifbgaaGreatA1
set_option maxRecDepth 4000
set_option linter.unusedVariables false
set_option linter.unusedSimpArgs false
namespace Go.Proofs.YtnpmemmhiifbgaaGreat
open Go Go.RowKit

/-- impl.ReceiverOk -/
def i_ReceiverOk_ann : List (Nat × Keep) := [(0, ⟨[1, 4, 5, 45, 46, 47], [], false, 0⟩)]
def i_ReceiverOk_L0_sh : Sh := ⟨[(1, false, [.ptr 0 0]), (4, false, [.int .i64]), (5, false, [.int .i64]), (45, false, [.sl .arg .piec]), (46, false, [.int .i64]), (47, false, [.int .i64])], [.box [.int .i64, .str, .sl .arg .piec, .int .i64, .bool]]⟩
def i_ReceiverOk_L0_es : List (Ex × Sh) := [(.ret, ⟨[(1, false, [.ptr 0 0]), (2, false, [.bool])], [.box [.int .i64, .str, .sl .arg .piec, .int .i64, .bool]]⟩), (.exit 0, ⟨[(1, false, [.ptr 0 0]), (2, false, [.undef])], [.box [.int .i64, .str, .sl .arg .piec, .int .i64, .bool]]⟩)]
def i_ReceiverOk_L0_mk (v0 : Int) (v1 : Int) (v2 : List Piec) (v3 : Int) (v4 : Int) (v5 : Int) (v6 : Bytes) (v7 : List Piec) (v8 : Int) (v9 : Bool) : i_ReceiverOk_L0_sh.T := ((((), ()), ((v0, ()), ((v1, ()), ((v2, ()), ((v3, ()), ((v4, ()), ())))))), ((v5, (v6, (v7, (v8, (v9, ()))))), ()))
def i_ReceiverOk_L0_mx0 (y0 : Bool) (y1 : Int) (y2 : Bytes) (y3 : List Piec) (y4 : Int) (y5 : Bool) : Sh.T ⟨[(1, false, [.ptr 0 0]), (2, false, [.bool])], [.box [.int .i64, .str, .sl .arg .piec, .int .i64, .bool]]⟩ := ((((), ()), ((y0, ()), ())), ((y1, (y2, (y3, (y4, (y5, ()))))), ()))
def i_ReceiverOk_L0_mx1 (y0 : Int) (y1 : Bytes) (y2 : List Piec) (y3 : Int) (y4 : Bool) : Sh.T ⟨[(1, false, [.ptr 0 0]), (2, false, [.undef])], [.box [.int .i64, .str, .sl .arg .piec, .int .i64, .bool]]⟩ := ((((), ()), (((), ()), ())), ((y0, (y1, (y2, (y3, (y4, ()))))), ()))
def i_ReceiverOk_L0_B (v0 : Int) (v1 : Int) (v2 : List Piec) (v3 : Int) (v4 : Int) (v5 : Int) (v6 : Bytes) (v7 : List Piec) (v8 : Int) (v9 : Bool) (γ : Type) (fail : γ) (next : i_ReceiverOk_L0_sh.T → γ) (out : WT i_ReceiverOk_L0_es → γ) : γ :=
  bif (decide (v4 < v3)) then
    bif ((decide (0 ≤ v4)) && (decide (v4 < (v2.length : Int)))) then
    bif ((v2.getD v4.toNat (Ty.zero .piec)).text == []) then
      out (Sum.inl (i_ReceiverOk_L0_mx0 false v5 v6 v7 v8 v9))
    else
    bif (decide ((v2.getD v4.toNat (Ty.zero .piec)).off ≤ v1)) then
      out (Sum.inl (i_ReceiverOk_L0_mx0 false v5 v6 v7 v8 v9))
    else
    letK (α := Int) (IntKind.wrap .i64 (v0 - (((v2.getD v4.toNat (Ty.zero .piec)).text).length : Int))) fun e4 =>
    bif (decide (e4 < (v2.getD v4.toNat (Ty.zero .piec)).off)) then
      out (Sum.inl (i_ReceiverOk_L0_mx0 false v5 v6 v7 v8 v9))
    else
    letK (α := Int) (IntKind.wrap .i64 ((v2.getD v4.toNat (Ty.zero .piec)).off + (((v2.getD v4.toNat (Ty.zero .piec)).text).length : Int))) fun e5 =>
    next (i_ReceiverOk_L0_mk v0 e5 v2 v3 (IntKind.wrap .i64 (v4 + 1)) v5 v6 v7 v8 v9)
    else fail
  else
  out (Sum.inr (i_ReceiverOk_L0_mx1 v5 v6 v7 v8 v9))
theorem i_ReceiverOk_L0_par (v0 : Int) (v1 : Int) (v2 : List Piec) (v3 : Int) (v4 : Int) (v5 : Int) (v6 : Bytes) (v7 : List Piec) (v8 : Int) (v9 : Bool) (γ : Type) (fail : γ) (next : i_ReceiverOk_L0_sh.T → γ) (out : WT i_ReceiverOk_L0_es → γ) : i_ReceiverOk_L0_B v0 v1 v2 v3 v4 v5 v6 v7 v8 v9 γ fail next out = optK (i_ReceiverOk_L0_B v0 v1 v2 v3 v4 v5 v6 v7 v8 v9 _ none (fun v' => some (.inl v')) (fun w => some (.inr w))) fail (fun r => Sum.elim next out r) := by
  unfold i_ReceiverOk_L0_B
  exact bifT (f := (fun o => optK o fail (fun r => Sum.elim next out r))) (fun _ => bifT (f := (fun o => optK o fail (fun r => Sum.elim next out r))) (fun _ => bifT (f := (fun o => optK o fail (fun r => Sum.elim next out r))) (fun _ => rfl)
      (fun _ => bifT (f := (fun o => optK o fail (fun r => Sum.elim next out r))) (fun _ => rfl)
      (fun _ => letT (f := (fun o => optK o fail (fun r => Sum.elim next out r))) (fun e4 _ => bifT (f := (fun o => optK o fail (fun r => Sum.elim next out r))) (fun _ => rfl)
      (fun _ => letT (f := (fun o => optK o fail (fun r => Sum.elim next out r))) (fun e5 _ => rfl)))))) (fun _ => rfl))
      (fun _ => rfl)
def i_ReceiverOk_L0_r : Round i_ReceiverOk_L0_sh.T (WT i_ReceiverOk_L0_es) where
  B v γ fail next out := i_ReceiverOk_L0_B v.1.2.1.1 v.1.2.2.1.1 v.1.2.2.2.1.1 v.1.2.2.2.2.1.1 v.1.2.2.2.2.2.1.1 v.2.1.1 v.2.1.2.1 v.2.1.2.2.1 v.2.1.2.2.2.1 v.2.1.2.2.2.2.1 γ fail next out
  par v γ fail next out := i_ReceiverOk_L0_par v.1.2.1.1 v.1.2.2.1.1 v.1.2.2.2.1.1 v.1.2.2.2.2.1.1 v.1.2.2.2.2.2.1.1 v.2.1.1 v.2.1.2.1 v.2.1.2.2.1 v.2.1.2.2.2.1 v.2.1.2.2.2.2.1 γ fail next out
def i_ReceiverOk_L0_fu (v0 : Int) (v1 : Int) (v2 : List Piec) (v3 : Int) (v4 : Int) (v5 : Int) (v6 : Bytes) (v7 : List Piec) (v8 : Int) (v9 : Bool) : Nat := (Int.toNat (v3 - v4)) + 1
theorem i_ReceiverOk_L0_lk (v : i_ReceiverOk_L0_sh.T) (next : St → Option Res) (k : Ex → St → Option Res) : evalK te (orcOf (P := Tryz.prog) [i_WindowOf_e, i_WordOk_e, i_within_e]) (lorcOf []) Tryz.f96.ntmps i_ReceiverOk_ann (nthLoop (bodyOf Tryz.f96) 0 0) 0 (i_ReceiverOk_L0_sh.enc v) (endK ⟨[1, 4, 5, 45, 46, 47], [], false, 0⟩ ⟨[1, 2], [], false, 0⟩ next k) =
  i_ReceiverOk_L0_r.B v _ none (fun v' => next (i_ReceiverOk_L0_sh.enc v')) (fun w => outK i_ReceiverOk_L0_es k w) := by kernel_rfl
def i_ReceiverOk_L0_le : LE := leOf 0 i_ReceiverOk_L0_sh i_ReceiverOk_L0_es i_ReceiverOk_L0_r.step (fun v => i_ReceiverOk_L0_fu v.1.2.1.1 v.1.2.2.1.1 v.1.2.2.2.1.1 v.1.2.2.2.2.1.1 v.1.2.2.2.2.2.1.1 v.2.1.1 v.2.1.2.1 v.2.1.2.2.1 v.2.1.2.2.2.1 v.2.1.2.2.2.2.1)
theorem i_ReceiverOk_L0_ls (w0 : World) (mo : Mts) (I0 : Nat → Prop) (hmo : mo.length = 0) : LSem Tryz.prog (Sim w0 mo Tryz.f96.ntmps I0) (fun b s k => match Nat.beq 0 b with | true => i_ReceiverOk_L0_le.run s k | false => none) 0 (nthLoop (bodyOf Tryz.f96) 0 0) :=
  le_sem hmo (lorc := lorcOf []) (ann := i_ReceiverOk_ann) (keep := ⟨[1, 4, 5, 45, 46, 47], [], false, 0⟩) (kout := ⟨[1, 2], [], false, 0⟩) teFact mixFact (orcOf_ok _) (by kernel_rfl) (allLoops_of (bs := []) (by kernel_rfl) trivial) i_ReceiverOk_L0_r _ i_ReceiverOk_L0_lk
def i_ReceiverOk_L0_f (v0 : Int) (v2 : List Piec) (v3 : Int) (v5 : Int) (v6 : Bytes) (v7 : List Piec) (v8 : Int) (v9 : Bool) (v4 : Int) (a : Int) : Stp (Int) ((Unit)) :=
  bif ((v2.getD v4.toNat (Ty.zero .piec)).text == []) then
    .out (())
  else
  bif (decide ((v2.getD v4.toNat (Ty.zero .piec)).off ≤ a)) then
    .out (())
  else
  letK (α := Int) (IntKind.wrap .i64 (v0 - (((v2.getD v4.toNat (Ty.zero .piec)).text).length : Int))) fun e4 =>
  bif (decide (e4 < (v2.getD v4.toNat (Ty.zero .piec)).off)) then
    .out (())
  else
  letK (α := Int) (IntKind.wrap .i64 ((v2.getD v4.toNat (Ty.zero .piec)).off + (((v2.getD v4.toNat (Ty.zero .piec)).text).length : Int))) fun e5 =>
  .next e5
theorem i_ReceiverOk_L0_st (v0 : Int) (v1 : Int) (v2 : List Piec) (v3 : Int) (v4 : Int) (v5 : Int) (v6 : Bytes) (v7 : List Piec) (v8 : Int) (v9 : Bool) (hlo : 0 ≤ v4) (hhi : v4 < v3) (hN : v3 ≤ 4611686018427387904) (hi0 : v3 ≤ (v2.length : Int)) : i_ReceiverOk_L0_r.step (i_ReceiverOk_L0_mk v0 v1 v2 v3 v4 v5 v6 v7 v8 v9) = Stp.elim (fun a' : Int => some (Sum.inl (i_ReceiverOk_L0_mk v0 a' v2 v3 (v4 + 1) v5 v6 v7 v8 v9))) (fun w => some (Sum.inr ((fun p : Unit => Sum.inl (i_ReceiverOk_L0_mx0 false v5 v6 v7 v8 v9)) w))) (i_ReceiverOk_L0_f v0 v2 v3 v5 v6 v7 v8 v9 v4 v1) := by
  have hw : (IntKind.wrap .i64 (v4 + 1)) = v4 + 1 := wrap64 (by omega) (by omega)
  show i_ReceiverOk_L0_B v0 v1 v2 v3 v4 v5 v6 v7 v8 v9 (Option (i_ReceiverOk_L0_sh.T ⊕ WT i_ReceiverOk_L0_es)) none (fun v' => some (Sum.inl v')) (fun w => some (Sum.inr w)) = _
  unfold i_ReceiverOk_L0_B i_ReceiverOk_L0_f
  exact bifG (by simp only [decide_eq_true_eq]; omega) (bifG (by (try simp only [Nat.ble_eq, Bool.and_eq_true, decide_eq_true_eq]); grind [maxSl, maxStr, toBytes_length, toInts_length, List.length_set, wrap64]) (bifT (f := (Stp.elim (fun a' : Int => some (Sum.inl (i_ReceiverOk_L0_mk v0 a' v2 v3 (v4 + 1) v5 v6 v7 v8 v9))) (fun w => some (Sum.inr ((fun p : Unit => Sum.inl (i_ReceiverOk_L0_mx0 false v5 v6 v7 v8 v9)) w))))) (fun b0 => rfl)
      (fun b0 => bifT (f := (Stp.elim (fun a' : Int => some (Sum.inl (i_ReceiverOk_L0_mk v0 a' v2 v3 (v4 + 1) v5 v6 v7 v8 v9))) (fun w => some (Sum.inr ((fun p : Unit => Sum.inl (i_ReceiverOk_L0_mx0 false v5 v6 v7 v8 v9)) w))))) (fun b1 => rfl)
      (fun b1 => letT (f := (Stp.elim (fun a' : Int => some (Sum.inl (i_ReceiverOk_L0_mk v0 a' v2 v3 (v4 + 1) v5 v6 v7 v8 v9))) (fun w => some (Sum.inr ((fun p : Unit => Sum.inl (i_ReceiverOk_L0_mx0 false v5 v6 v7 v8 v9)) w))))) (fun e4 he4 => bifT (f := (Stp.elim (fun a' : Int => some (Sum.inl (i_ReceiverOk_L0_mk v0 a' v2 v3 (v4 + 1) v5 v6 v7 v8 v9))) (fun w => some (Sum.inr ((fun p : Unit => Sum.inl (i_ReceiverOk_L0_mx0 false v5 v6 v7 v8 v9)) w))))) (fun b2 => rfl)
      (fun b2 => letT (f := (Stp.elim (fun a' : Int => some (Sum.inl (i_ReceiverOk_L0_mk v0 a' v2 v3 (v4 + 1) v5 v6 v7 v8 v9))) (fun w => some (Sum.inr ((fun p : Unit => Sum.inl (i_ReceiverOk_L0_mx0 false v5 v6 v7 v8 v9)) w))))) (fun e5 he5 => (by exact congrArg (fun z => some (Sum.inl (i_ReceiverOk_L0_mk v0 e5 v2 v3 z v5 v6 v7 v8 v9))) hw))))))))
theorem i_ReceiverOk_L0_cl (v0 : Int) (v1 : Int) (v2 : List Piec) (v3 : Int) (v4 : Int) (v5 : Int) (v6 : Bytes) (v7 : List Piec) (v8 : Int) (v9 : Bool) (h0 : 0 ≤ v4) (h1 : v3 ≤ 4611686018427387904) (h2 : v3 ≤ (v2.length : Int)) : loopF i_ReceiverOk_L0_r.step (i_ReceiverOk_L0_fu v0 v1 v2 v3 v4 v5 v6 v7 v8 v9) (i_ReceiverOk_L0_mk v0 v1 v2 v3 v4 v5 v6 v7 v8 v9) = some (Stp.elim (fun a => (fun i a => Sum.inr (i_ReceiverOk_L0_mx1 v5 v6 v7 v8 v9)) (v4 + 1 * (((Int.toNat (v3 - v4)) : Nat) : Int)) a) (fun p : Unit => Sum.inl (i_ReceiverOk_L0_mx0 false v5 v6 v7 v8 v9)) (forN (i_ReceiverOk_L0_f v0 v2 v3 v5 v6 v7 v8 v9) 1 (Int.toNat (v3 - v4)) v4 v1)) :=
  forN_loop (step := i_ReceiverOk_L0_r.step) (mk := fun v4 a => i_ReceiverOk_L0_mk v0 a v2 v3 v4 v5 v6 v7 v8 v9) (f := i_ReceiverOk_L0_f v0 v2 v3 v5 v6 v7 v8 v9) (e := (fun i a => Sum.inr (i_ReceiverOk_L0_mx1 v5 v6 v7 v8 v9))) (emb := (fun p : Unit => Sum.inl (i_ReceiverOk_L0_mx0 false v5 v6 v7 v8 v9))) (st := 1) (Inv := fun v4 a => True) (Int.toNat (v3 - v4)) v4 v1 _ (Nat.lt_succ_self _) trivial
    (fun j a hj hv => ⟨i_ReceiverOk_L0_st v0 a v2 v3 (v4 + 1 * (j : Int)) v5 v6 v7 v8 v9 (by omega) (by omega) (by omega) h2, fun _ _ => trivial⟩)
    (fun a hv => by
      show i_ReceiverOk_L0_B v0 a v2 v3 (v4 + 1 * (((Int.toNat (v3 - v4)) : Nat) : Int)) v5 v6 v7 v8 v9 (Option (i_ReceiverOk_L0_sh.T ⊕ WT i_ReceiverOk_L0_es)) none (fun v' => some (Sum.inl v')) (fun w => some (Sum.inr w)) = _
      unfold i_ReceiverOk_L0_B
      exact bifN (by simp only [decide_eq_false_iff_not]; omega) rfl)
def i_ReceiverOk_N (x0 : Recv) (γ : Type) (fail : γ) (k : Bool → γ) : γ :=
  letK (α := Int) (i_WindowOf x0) fun c1 =>
  letK (α := Bool) (i_WordOk x0.next 32) fun c2 =>
  bif (!c2) then
    k false
  else
  bif (decide (32 < (x0.data.length : Int))) then
    k false
  else
  bif (decide (3 < (x0.held.length : Int))) then
    k false
  else
  letK (α := Bool) (i_within x0.fin (-1) c1) fun c3 =>
  bif (!c3) then
    k false
  else
  bif (x0.fin == 0) then
    k false
  else
  bif (x0.fin != (-1)) then
    optK (loopF i_ReceiverOk_L0_r.step (i_ReceiverOk_L0_fu x0.fin 0 x0.held (x0.held.length : Int) 0 x0.next x0.data x0.held x0.fin x0.done) (i_ReceiverOk_L0_mk x0.fin 0 x0.held (x0.held.length : Int) 0 x0.next x0.data x0.held x0.fin x0.done)) fail fun w6 =>
      Sum.elim (fun w6 =>
        k w6.1.2.1.1)
      (fun w6 =>
        bif (!w6.2.1.2.2.2.2.1) then
          k true
        else
        bif ((w6.2.1.2.2.1.length : Int) == 0) then
          k (w6.2.1.2.2.2.1 == (-1))
        else
        k false) w6
  else
  optK (loopF i_ReceiverOk_L0_r.step (i_ReceiverOk_L0_fu c1 0 x0.held (x0.held.length : Int) 0 x0.next x0.data x0.held x0.fin x0.done) (i_ReceiverOk_L0_mk c1 0 x0.held (x0.held.length : Int) 0 x0.next x0.data x0.held x0.fin x0.done)) fail fun w8 =>
    Sum.elim (fun w8 =>
      k w8.1.2.1.1)
    (fun w8 =>
      bif (!w8.2.1.2.2.2.2.1) then
        k true
      else
      bif ((w8.2.1.2.2.1.length : Int) == 0) then
        k (w8.2.1.2.2.2.1 == (-1))
      else
      k false) w8
def i_ReceiverOk (x0 : Recv) : Bool :=
  letK (α := Int) (i_WindowOf x0) fun c1 =>
  letK (α := Bool) (i_WordOk x0.next 32) fun c2 =>
  bif (!c2) then
    false
  else
  bif (decide (32 < (x0.data.length : Int))) then
    false
  else
  bif (decide (3 < (x0.held.length : Int))) then
    false
  else
  letK (α := Bool) (i_within x0.fin (-1) c1) fun c3 =>
  bif (!c3) then
    false
  else
  bif (x0.fin == 0) then
    false
  else
  bif (x0.fin != (-1)) then
    Stp.elim (fun a7 =>
      bif (!x0.done) then
        true
      else
      bif ((x0.held.length : Int) == 0) then
        (x0.fin == (-1))
      else
      false)
      (fun p7 =>
        false)
      (forN (i_ReceiverOk_L0_f x0.fin x0.held (x0.held.length : Int) x0.next x0.data x0.held x0.fin x0.done) 1 (Int.toNat ((x0.held.length : Int) - 0)) 0 0)
  else
  Stp.elim (fun a9 =>
    bif (!x0.done) then
      true
    else
    bif ((x0.held.length : Int) == 0) then
      (x0.fin == (-1))
    else
    false)
    (fun p9 =>
      false)
    (forN (i_ReceiverOk_L0_f c1 x0.held (x0.held.length : Int) x0.next x0.data x0.held x0.fin x0.done) 1 (Int.toNat ((x0.held.length : Int) - 0)) 0 0)
theorem i_ReceiverOk_lk (x0 : Recv) : evalFn te (orcOf (P := Tryz.prog) [i_WindowOf_e, i_WordOk_e, i_within_e]) (lorcOf [i_ReceiverOk_L0_le]) i_ReceiverOk_ann Tryz.f96 (pvs [.st .recv] (x0, ())) =
  i_ReceiverOk_N x0 _ none (fun v => some [(false, [RC.c (.bool v)])]) := by kernel_rfl
theorem i_ReceiverOk_p (x0 : Recv) (hx0_next : inK .i64 x0.next) (hx0_data : List.length x0.data ≤ 4611686018427387904) (hx0_held : x0.held.length ≤ 140737488355328) (hx0_held_e : ∀ y ∈ x0.held, ∀ c ∈ Ty.cells .piec y, FactC c) (hx0_fin : inK .i64 x0.fin)  (γ : Type) (fail : γ) (k : Bool → γ) : i_ReceiverOk_N x0 γ fail k = k (i_ReceiverOk x0) := by
  unfold i_ReceiverOk_N i_ReceiverOk
  exact letT (f := k) (fun c1 hc1 => letT (f := k) (fun c2 hc2 => bifT (f := k) (fun b0 => rfl)
      (fun b0 => bifT (f := k) (fun b1 => rfl)
      (fun b1 => bifT (f := k) (fun b2 => rfl)
      (fun b2 => letT (f := k) (fun c3 hc3 => bifT (f := k) (fun b3 => rfl)
      (fun b3 => bifT (f := k) (fun b4 => rfl)
      (fun b4 => bifT (f := k) (fun b5 => loopT (f := k) (i_ReceiverOk_L0_cl x0.fin 0 x0.held (x0.held.length : Int) 0 x0.next x0.data x0.held x0.fin x0.done (by (try simp only [Nat.ble_eq, Bool.and_eq_true, decide_eq_true_eq, i_ReceiverOk_L0_mx0, i_ReceiverOk_L0_mx1]); grind [maxSl, maxStr, toBytes_length, toInts_length, List.length_set, wrap64]) (by (try simp only [Nat.ble_eq, Bool.and_eq_true, decide_eq_true_eq, i_ReceiverOk_L0_mx0, i_ReceiverOk_L0_mx1]); grind [maxSl, maxStr, toBytes_length, toInts_length, List.length_set, wrap64]) (by (try simp only [Nat.ble_eq, Bool.and_eq_true, decide_eq_true_eq, i_ReceiverOk_L0_mx0, i_ReceiverOk_L0_mx1]); grind [maxSl, maxStr, toBytes_length, toInts_length, List.length_set, wrap64])) (fun a7 => bifT (f := k) (fun b6 => rfl)
      (fun b6 => bifT (f := k) (fun b7 => rfl)
      (fun b7 => rfl)))
      (fun p7 => rfl))
      (fun b5 => loopT (f := k) (i_ReceiverOk_L0_cl c1 0 x0.held (x0.held.length : Int) 0 x0.next x0.data x0.held x0.fin x0.done (by (try simp only [Nat.ble_eq, Bool.and_eq_true, decide_eq_true_eq, i_ReceiverOk_L0_mx0, i_ReceiverOk_L0_mx1]); grind [maxSl, maxStr, toBytes_length, toInts_length, List.length_set, wrap64]) (by (try simp only [Nat.ble_eq, Bool.and_eq_true, decide_eq_true_eq, i_ReceiverOk_L0_mx0, i_ReceiverOk_L0_mx1]); grind [maxSl, maxStr, toBytes_length, toInts_length, List.length_set, wrap64]) (by (try simp only [Nat.ble_eq, Bool.and_eq_true, decide_eq_true_eq, i_ReceiverOk_L0_mx0, i_ReceiverOk_L0_mx1]); grind [maxSl, maxStr, toBytes_length, toInts_length, List.length_set, wrap64])) (fun a9 => bifT (f := k) (fun b6 => rfl)
      (fun b6 => bifT (f := k) (fun b7 => rfl)
      (fun b7 => rfl)))
      (fun p9 => rfl))))))))))
theorem i_ReceiverOk_c (x0 : Recv)  : Con Tryz.prog 96 (pvs [.st .recv] (x0, ())) [rv (.sc .bool) [] (i_ReceiverOk x0)] := by
  refine Con.of_facts (enters_of Tryz.func96 rfl (by kernel_rfl)) fun hf => ?_
  replace hf := factAt hf
  exact evalFn_conL teFact mixFact (orcOf_ok _) Tryz.func96 (by kernel_rfl) (bs := [0]) (by kernel_rfl) (by kernel_rfl) (fun w0 mo I0 hmo => ⟨lsem_of_lorc (i_ReceiverOk_L0_ls w0 mo I0 hmo) (by kernel_rfl), trivial⟩) ((i_ReceiverOk_lk x0).trans (i_ReceiverOk_p x0 ((hf 0 0 rfl rfl).rng) ((hf 0 1 rfl rfl).slen) ((hf 0 2 rfl rfl).len) (fun y hy => (hf 0 2 rfl rfl).elem hy) ((hf 0 3 rfl rfl).rng) _ _ _))
noncomputable def i_ReceiverOk_e : Ent1 Tryz.prog := entA 96 [.st .recv] (fun x => (i_ReceiverOk x.1)) (fun v => [rv (.sc .bool) [] v]) (fun x => i_ReceiverOk_c x.1)


/-- laws.eqMacRowS -/
def w_eqMacRowS_ann : List (Nat × Keep) := [(0, ⟨[0, 1, 5], [], false, 0⟩)]
def w_eqMacRowS_L0_sh : Sh := ⟨[(0, false, [.sl .arg .macRow]), (1, false, [.sl .arg .macRow]), (5, false, [.int .i64])], []⟩
def w_eqMacRowS_L0_es : List (Ex × Sh) := [(.ret, ⟨[(4, false, [.bool])], []⟩), (.exit 0, ⟨[(4, false, [.undef])], []⟩)]
def w_eqMacRowS_L0_mk (v0 : List MacRow) (v1 : List MacRow) (v2 : Int) : w_eqMacRowS_L0_sh.T := (((v0, ()), ((v1, ()), ((v2, ()), ()))), ())
def w_eqMacRowS_L0_mx0 (y0 : Bool) : Sh.T ⟨[(4, false, [.bool])], []⟩ := (((y0, ()), ()), ())
def w_eqMacRowS_L0_mx1  : Sh.T ⟨[(4, false, [.undef])], []⟩ := ((((), ()), ()), ())
def w_eqMacRowS_L0_B (v0 : List MacRow) (v1 : List MacRow) (v2 : Int) (γ : Type) (fail : γ) (next : w_eqMacRowS_L0_sh.T → γ) (out : WT w_eqMacRowS_L0_es → γ) : γ :=
  bif (decide (v2 < (v0.length : Int))) then
    bif ((decide (0 ≤ v2)) && (decide (v2 < (v0.length : Int)))) then
    bif ((decide (0 ≤ v2)) && (decide (v2 < (v1.length : Int)))) then
    letK (α := Bool) (w_eqMacRow (v0.getD v2.toNat (Ty.zero .macRow)) (v1.getD v2.toNat (Ty.zero .macRow))) fun c1 =>
    bif (!c1) then
      out (Sum.inl (w_eqMacRowS_L0_mx0 false))
    else
    next (w_eqMacRowS_L0_mk v0 v1 (IntKind.wrap .i64 (v2 + 1)))
    else fail
    else fail
  else
  out (Sum.inr (w_eqMacRowS_L0_mx1 ))
theorem w_eqMacRowS_L0_par (v0 : List MacRow) (v1 : List MacRow) (v2 : Int) (γ : Type) (fail : γ) (next : w_eqMacRowS_L0_sh.T → γ) (out : WT w_eqMacRowS_L0_es → γ) : w_eqMacRowS_L0_B v0 v1 v2 γ fail next out = optK (w_eqMacRowS_L0_B v0 v1 v2 _ none (fun v' => some (.inl v')) (fun w => some (.inr w))) fail (fun r => Sum.elim next out r) := by
  unfold w_eqMacRowS_L0_B
  exact bifT (f := (fun o => optK o fail (fun r => Sum.elim next out r))) (fun _ => bifT (f := (fun o => optK o fail (fun r => Sum.elim next out r))) (fun _ => bifT (f := (fun o => optK o fail (fun r => Sum.elim next out r))) (fun _ => letT (f := (fun o => optK o fail (fun r => Sum.elim next out r))) (fun c1 _ => bifT (f := (fun o => optK o fail (fun r => Sum.elim next out r))) (fun _ => rfl)
      (fun _ => rfl))) (fun _ => rfl)) (fun _ => rfl))
      (fun _ => rfl)
def w_eqMacRowS_L0_r : Round w_eqMacRowS_L0_sh.T (WT w_eqMacRowS_L0_es) where
  B v γ fail next out := w_eqMacRowS_L0_B v.1.1.1 v.1.2.1.1 v.1.2.2.1.1 γ fail next out
  par v γ fail next out := w_eqMacRowS_L0_par v.1.1.1 v.1.2.1.1 v.1.2.2.1.1 γ fail next out
def w_eqMacRowS_L0_fu (v0 : List MacRow) (v1 : List MacRow) (v2 : Int) : Nat := (Int.toNat ((v0.length : Int) - v2)) + 1
theorem w_eqMacRowS_L0_lk (v : w_eqMacRowS_L0_sh.T) (next : St → Option Res) (k : Ex → St → Option Res) : evalK te (orcOf (P := Tryz.prog) [w_eqMacRow_e]) (lorcOf []) Tryz.f98.ntmps w_eqMacRowS_ann (nthLoop (bodyOf Tryz.f98) 0 0) 0 (w_eqMacRowS_L0_sh.enc v) (endK ⟨[0, 1, 5], [], false, 0⟩ ⟨[4], [], false, 0⟩ next k) =
  w_eqMacRowS_L0_r.B v _ none (fun v' => next (w_eqMacRowS_L0_sh.enc v')) (fun w => outK w_eqMacRowS_L0_es k w) := by kernel_rfl
def w_eqMacRowS_L0_le : LE := leOf 0 w_eqMacRowS_L0_sh w_eqMacRowS_L0_es w_eqMacRowS_L0_r.step (fun v => w_eqMacRowS_L0_fu v.1.1.1 v.1.2.1.1 v.1.2.2.1.1)
theorem w_eqMacRowS_L0_ls (w0 : World) (mo : Mts) (I0 : Nat → Prop) (hmo : mo.length = 0) : LSem Tryz.prog (Sim w0 mo Tryz.f98.ntmps I0) (fun b s k => match Nat.beq 0 b with | true => w_eqMacRowS_L0_le.run s k | false => none) 0 (nthLoop (bodyOf Tryz.f98) 0 0) :=
  le_sem hmo (lorc := lorcOf []) (ann := w_eqMacRowS_ann) (keep := ⟨[0, 1, 5], [], false, 0⟩) (kout := ⟨[4], [], false, 0⟩) teFact mixFact (orcOf_ok _) (by kernel_rfl) (allLoops_of (bs := []) (by kernel_rfl) trivial) w_eqMacRowS_L0_r _ w_eqMacRowS_L0_lk
def w_eqMacRowS_L0_f (v0 : List MacRow) (v1 : List MacRow) (v2 : Int) (a : Unit) : Stp (Unit) ((Unit)) :=
  letK (α := Bool) (w_eqMacRow (v0.getD v2.toNat (Ty.zero .macRow)) (v1.getD v2.toNat (Ty.zero .macRow))) fun c1 =>
  bif (!c1) then
    .out (())
  else
  .next ()
theorem w_eqMacRowS_L0_st (v0 : List MacRow) (v1 : List MacRow) (v2 : Int) (hlo : 0 ≤ v2) (hhi : v2 < (v0.length : Int)) (hN : (v0.length : Int) ≤ 4611686018427387904) (hi0 : (v0.length : Int) ≤ (v1.length : Int)) : w_eqMacRowS_L0_r.step (w_eqMacRowS_L0_mk v0 v1 v2) = Stp.elim (fun a' : Unit => some (Sum.inl (w_eqMacRowS_L0_mk v0 v1 (v2 + 1)))) (fun w => some (Sum.inr ((fun p : Unit => Sum.inl (w_eqMacRowS_L0_mx0 false)) w))) (w_eqMacRowS_L0_f v0 v1 v2 ()) := by
  have hw : (IntKind.wrap .i64 (v2 + 1)) = v2 + 1 := wrap64 (by omega) (by omega)
  show w_eqMacRowS_L0_B v0 v1 v2 (Option (w_eqMacRowS_L0_sh.T ⊕ WT w_eqMacRowS_L0_es)) none (fun v' => some (Sum.inl v')) (fun w => some (Sum.inr w)) = _
  unfold w_eqMacRowS_L0_B w_eqMacRowS_L0_f
  exact bifG (by simp only [decide_eq_true_eq]; omega) (bifG (by (try simp only [Nat.ble_eq, Bool.and_eq_true, decide_eq_true_eq]); grind [maxSl, maxStr, toBytes_length, toInts_length, List.length_set, wrap64]) (bifG (by (try simp only [Nat.ble_eq, Bool.and_eq_true, decide_eq_true_eq]); grind [maxSl, maxStr, toBytes_length, toInts_length, List.length_set, wrap64]) (letT (f := (Stp.elim (fun a' : Unit => some (Sum.inl (w_eqMacRowS_L0_mk v0 v1 (v2 + 1)))) (fun w => some (Sum.inr ((fun p : Unit => Sum.inl (w_eqMacRowS_L0_mx0 false)) w))))) (fun c1 hc1 => bifT (f := (Stp.elim (fun a' : Unit => some (Sum.inl (w_eqMacRowS_L0_mk v0 v1 (v2 + 1)))) (fun w => some (Sum.inr ((fun p : Unit => Sum.inl (w_eqMacRowS_L0_mx0 false)) w))))) (fun b0 => rfl)
      (fun b0 => (by exact congrArg (fun z => some (Sum.inl (w_eqMacRowS_L0_mk v0 v1 z))) hw))))))
theorem w_eqMacRowS_L0_cl (v0 : List MacRow) (v1 : List MacRow) (v2 : Int) (h0 : 0 ≤ v2) (h1 : (v0.length : Int) ≤ 4611686018427387904) (h2 : (v0.length : Int) ≤ (v1.length : Int)) : loopF w_eqMacRowS_L0_r.step (w_eqMacRowS_L0_fu v0 v1 v2) (w_eqMacRowS_L0_mk v0 v1 v2) = some (Stp.elim (fun a => (fun i a => Sum.inr (w_eqMacRowS_L0_mx1 )) (v2 + 1 * (((Int.toNat ((v0.length : Int) - v2)) : Nat) : Int)) a) (fun p : Unit => Sum.inl (w_eqMacRowS_L0_mx0 false)) (forN (w_eqMacRowS_L0_f v0 v1) 1 (Int.toNat ((v0.length : Int) - v2)) v2 ())) :=
  forN_loop (step := w_eqMacRowS_L0_r.step) (mk := fun v2 a => w_eqMacRowS_L0_mk v0 v1 v2) (f := w_eqMacRowS_L0_f v0 v1) (e := (fun i a => Sum.inr (w_eqMacRowS_L0_mx1 ))) (emb := (fun p : Unit => Sum.inl (w_eqMacRowS_L0_mx0 false))) (st := 1) (Inv := fun v2 a => True) (Int.toNat ((v0.length : Int) - v2)) v2 () _ (Nat.lt_succ_self _) trivial
    (fun j a hj hv => ⟨w_eqMacRowS_L0_st v0 v1 (v2 + 1 * (j : Int)) (by omega) (by omega) (by omega) h2, fun _ _ => trivial⟩)
    (fun a hv => by
      show w_eqMacRowS_L0_B v0 v1 (v2 + 1 * (((Int.toNat ((v0.length : Int) - v2)) : Nat) : Int)) (Option (w_eqMacRowS_L0_sh.T ⊕ WT w_eqMacRowS_L0_es)) none (fun v' => some (Sum.inl v')) (fun w => some (Sum.inr w)) = _
      unfold w_eqMacRowS_L0_B
      exact bifN (by simp only [decide_eq_false_iff_not]; omega) rfl)
def w_eqMacRowS_N (x0 : List MacRow) (x1 : List MacRow) (γ : Type) (fail : γ) (k : Bool → γ) : γ :=
  bif ((x0.length : Int) != (x1.length : Int)) then
    k false
  else
  optK (loopF w_eqMacRowS_L0_r.step (w_eqMacRowS_L0_fu x0 x1 0) (w_eqMacRowS_L0_mk x0 x1 0)) fail fun w2 =>
    Sum.elim (fun w2 =>
      k w2.1.1.1)
    (fun w2 =>
      k true) w2
def w_eqMacRowS (x0 : List MacRow) (x1 : List MacRow) : Bool :=
  bif ((x0.length : Int) != (x1.length : Int)) then
    false
  else
  Stp.elim (fun a3 =>
    true)
    (fun p3 =>
      false)
    (forN (w_eqMacRowS_L0_f x0 x1) 1 (Int.toNat ((x0.length : Int) - 0)) 0 ())
theorem w_eqMacRowS_lk (x0 : List MacRow) (x1 : List MacRow) : evalFn te (orcOf (P := Tryz.prog) [w_eqMacRow_e]) (lorcOf [w_eqMacRowS_L0_le]) w_eqMacRowS_ann Tryz.f98 (pvs [.sc (.sl .macRow), .sc (.sl .macRow)] (x0, x1, ())) =
  w_eqMacRowS_N x0 x1 _ none (fun v => some [(false, [RC.c (.bool v)])]) := by kernel_rfl
theorem w_eqMacRowS_p (x0 : List MacRow) (x1 : List MacRow) (hx0 : x0.length ≤ 140737488355328) (hx0_e : ∀ y ∈ x0, ∀ c ∈ Ty.cells .macRow y, FactC c) (hx1 : x1.length ≤ 140737488355328) (hx1_e : ∀ y ∈ x1, ∀ c ∈ Ty.cells .macRow y, FactC c)  (γ : Type) (fail : γ) (k : Bool → γ) : w_eqMacRowS_N x0 x1 γ fail k = k (w_eqMacRowS x0 x1) := by
  unfold w_eqMacRowS_N w_eqMacRowS
  exact bifT (f := k) (fun b0 => rfl)
      (fun b0 => loopT (f := k) (w_eqMacRowS_L0_cl x0 x1 0 (by (try simp only [Nat.ble_eq, Bool.and_eq_true, decide_eq_true_eq, w_eqMacRowS_L0_mx0, w_eqMacRowS_L0_mx1]); grind [maxSl, maxStr, toBytes_length, toInts_length, List.length_set, wrap64]) (by (try simp only [Nat.ble_eq, Bool.and_eq_true, decide_eq_true_eq, w_eqMacRowS_L0_mx0, w_eqMacRowS_L0_mx1]); grind [maxSl, maxStr, toBytes_length, toInts_length, List.length_set, wrap64]) (by (try simp only [Nat.ble_eq, Bool.and_eq_true, decide_eq_true_eq, w_eqMacRowS_L0_mx0, w_eqMacRowS_L0_mx1]); grind [maxSl, maxStr, toBytes_length, toInts_length, List.length_set, wrap64])) (fun a3 => rfl)
      (fun p3 => rfl))
theorem w_eqMacRowS_c (x0 : List MacRow) (x1 : List MacRow)  : Con Tryz.prog 98 (pvs [.sc (.sl .macRow), .sc (.sl .macRow)] (x0, x1, ())) [rv (.sc .bool) [] (w_eqMacRowS x0 x1)] := by
  refine Con.of_facts (enters_of Tryz.func98 rfl (by kernel_rfl)) fun hf => ?_
  replace hf := factAt hf
  exact evalFn_conL teFact mixFact (orcOf_ok _) Tryz.func98 (by kernel_rfl) (bs := [0]) (by kernel_rfl) (by kernel_rfl) (fun w0 mo I0 hmo => ⟨lsem_of_lorc (w_eqMacRowS_L0_ls w0 mo I0 hmo) (by kernel_rfl), trivial⟩) ((w_eqMacRowS_lk x0 x1).trans (w_eqMacRowS_p x0 x1 ((hf 0 0 rfl rfl).len) (fun y hy => (hf 0 0 rfl rfl).elem hy) ((hf 1 0 rfl rfl).len) (fun y hy => (hf 1 0 rfl rfl).elem hy) _ _ _))
noncomputable def w_eqMacRowS_e : Ent1 Tryz.prog := entA 98 [.sc (.sl .macRow), .sc (.sl .macRow)] (fun x => (w_eqMacRowS x.1 x.2.1)) (fun v => [rv (.sc .bool) [] v]) (fun x => w_eqMacRowS_c x.1 x.2.1)


/-- spec.WindowOf -/
def s_WindowOf_N (x0 : Recv) (γ : Type) (fail : γ) (k : Int → γ) : γ :=
  bif x0.done then
    k 0
  else
  letK (α := Int) (s_l1Max 0 (IntKind.wrap .i64 (32 - (x0.data.length : Int)))) fun c1 =>
  k c1
def s_WindowOf (x0 : Recv) : Int :=
  bif x0.done then
    0
  else
  letK (α := Int) (s_l1Max 0 (IntKind.wrap .i64 (32 - (x0.data.length : Int)))) fun c1 =>
  c1
theorem s_WindowOf_lk (x0 : Recv) : evalFn te (orcOf (P := Tryz.prog) [s_l1Max_e]) lorc0 [] Tryz.f105 (pvs [.st .recv] (x0, ())) =
  s_WindowOf_N x0 _ none (fun v => some [(false, [RC.c (.int .i64 v)])]) := by kernel_rfl
theorem s_WindowOf_p (x0 : Recv)   (γ : Type) (fail : γ) (k : Int → γ) : s_WindowOf_N x0 γ fail k = k (s_WindowOf x0) := by
  unfold s_WindowOf_N s_WindowOf
  exact bifT (f := k) (fun b0 => rfl)
      (fun b0 => letT (f := k) (fun c1 hc1 => rfl))
theorem s_WindowOf_c (x0 : Recv)  : Con Tryz.prog 105 (pvs [.st .recv] (x0, ())) [rv (.sc (.int .i64)) [] (s_WindowOf x0)] := by
  exact evalFn_con0 teFact mixFact (orcOf_ok _) Tryz.func105 (by kernel_rfl) ((s_WindowOf_lk x0).trans (s_WindowOf_p x0  _ _ _))
noncomputable def s_WindowOf_e : Ent1 Tryz.prog := entA 105 [.st .recv] (fun x => (s_WindowOf x.1)) (fun v => [rv (.sc (.int .i64)) [] v]) (fun x => s_WindowOf_c x.1)


/-- laws.szPieceS -/
def w_szPieceS_ann : List (Nat × Keep) := [(0, ⟨[0, 1, 5], [], false, 0⟩)]
def w_szPieceS_L0_sh : Sh := ⟨[(0, false, [.sl .arg .piec]), (1, false, [.int .i64]), (5, false, [.int .i64])], []⟩
def w_szPieceS_L0_es : List (Ex × Sh) := [(.ret, ⟨[(1, false, [.int .i64]), (4, false, [.int .i64])], []⟩), (.exit 0, ⟨[(1, false, [.int .i64]), (4, false, [.undef])], []⟩)]
def w_szPieceS_L0_mk (v0 : List Piec) (v1 : Int) (v2 : Int) : w_szPieceS_L0_sh.T := (((v0, ()), ((v1, ()), ((v2, ()), ()))), ())
def w_szPieceS_L0_mx0 (y0 : Int) (y1 : Int) : Sh.T ⟨[(1, false, [.int .i64]), (4, false, [.int .i64])], []⟩ := (((y0, ()), ((y1, ()), ())), ())
def w_szPieceS_L0_mx1 (y0 : Int) : Sh.T ⟨[(1, false, [.int .i64]), (4, false, [.undef])], []⟩ := (((y0, ()), (((), ()), ())), ())
def w_szPieceS_L0_B (v0 : List Piec) (v1 : Int) (v2 : Int) (γ : Type) (fail : γ) (next : w_szPieceS_L0_sh.T → γ) (out : WT w_szPieceS_L0_es → γ) : γ :=
  bif (decide (v2 < (v0.length : Int))) then
    bif ((decide (0 ≤ v2)) && (decide (v2 < (v0.length : Int)))) then
    letK (α := Int) (w_szPiece (v0.getD v2.toNat (Ty.zero .piec)) v1) fun c1 =>
    bif (decide (c1 < 0)) then
      out (Sum.inl (w_szPieceS_L0_mx0 c1 (-1)))
    else
    next (w_szPieceS_L0_mk v0 c1 (IntKind.wrap .i64 (v2 + 1)))
    else fail
  else
  out (Sum.inr (w_szPieceS_L0_mx1 v1))
theorem w_szPieceS_L0_par (v0 : List Piec) (v1 : Int) (v2 : Int) (γ : Type) (fail : γ) (next : w_szPieceS_L0_sh.T → γ) (out : WT w_szPieceS_L0_es → γ) : w_szPieceS_L0_B v0 v1 v2 γ fail next out = optK (w_szPieceS_L0_B v0 v1 v2 _ none (fun v' => some (.inl v')) (fun w => some (.inr w))) fail (fun r => Sum.elim next out r) := by
  unfold w_szPieceS_L0_B
  exact bifT (f := (fun o => optK o fail (fun r => Sum.elim next out r))) (fun _ => bifT (f := (fun o => optK o fail (fun r => Sum.elim next out r))) (fun _ => letT (f := (fun o => optK o fail (fun r => Sum.elim next out r))) (fun c1 _ => bifT (f := (fun o => optK o fail (fun r => Sum.elim next out r))) (fun _ => rfl)
      (fun _ => rfl))) (fun _ => rfl))
      (fun _ => rfl)
def w_szPieceS_L0_r : Round w_szPieceS_L0_sh.T (WT w_szPieceS_L0_es) where
  B v γ fail next out := w_szPieceS_L0_B v.1.1.1 v.1.2.1.1 v.1.2.2.1.1 γ fail next out
  par v γ fail next out := w_szPieceS_L0_par v.1.1.1 v.1.2.1.1 v.1.2.2.1.1 γ fail next out
def w_szPieceS_L0_fu (v0 : List Piec) (v1 : Int) (v2 : Int) : Nat := (Int.toNat ((v0.length : Int) - v2)) + 1
theorem w_szPieceS_L0_lk (v : w_szPieceS_L0_sh.T) (next : St → Option Res) (k : Ex → St → Option Res) : evalK te (orcOf (P := Tryz.prog) [w_szPiece_e]) (lorcOf []) Tryz.f114.ntmps w_szPieceS_ann (nthLoop (bodyOf Tryz.f114) 0 0) 0 (w_szPieceS_L0_sh.enc v) (endK ⟨[0, 1, 5], [], false, 0⟩ ⟨[1, 4], [], false, 0⟩ next k) =
  w_szPieceS_L0_r.B v _ none (fun v' => next (w_szPieceS_L0_sh.enc v')) (fun w => outK w_szPieceS_L0_es k w) := by kernel_rfl
def w_szPieceS_L0_le : LE := leOf 0 w_szPieceS_L0_sh w_szPieceS_L0_es w_szPieceS_L0_r.step (fun v => w_szPieceS_L0_fu v.1.1.1 v.1.2.1.1 v.1.2.2.1.1)
theorem w_szPieceS_L0_ls (w0 : World) (mo : Mts) (I0 : Nat → Prop) (hmo : mo.length = 0) : LSem Tryz.prog (Sim w0 mo Tryz.f114.ntmps I0) (fun b s k => match Nat.beq 0 b with | true => w_szPieceS_L0_le.run s k | false => none) 0 (nthLoop (bodyOf Tryz.f114) 0 0) :=
  le_sem hmo (lorc := lorcOf []) (ann := w_szPieceS_ann) (keep := ⟨[0, 1, 5], [], false, 0⟩) (kout := ⟨[1, 4], [], false, 0⟩) teFact mixFact (orcOf_ok _) (by kernel_rfl) (allLoops_of (bs := []) (by kernel_rfl) trivial) w_szPieceS_L0_r _ w_szPieceS_L0_lk
def w_szPieceS_L0_f (v0 : List Piec) (v2 : Int) (a : Int) : Stp (Int) ((Int)) :=
  letK (α := Int) (w_szPiece (v0.getD v2.toNat (Ty.zero .piec)) a) fun c1 =>
  bif (decide (c1 < 0)) then
    .out (c1)
  else
  .next c1
theorem w_szPieceS_L0_st (v0 : List Piec) (v1 : Int) (v2 : Int) (hlo : 0 ≤ v2) (hhi : v2 < (v0.length : Int)) (hN : (v0.length : Int) ≤ 4611686018427387904) : w_szPieceS_L0_r.step (w_szPieceS_L0_mk v0 v1 v2) = Stp.elim (fun a' : Int => some (Sum.inl (w_szPieceS_L0_mk v0 a' (v2 + 1)))) (fun w => some (Sum.inr ((fun p : Int => Sum.inl (w_szPieceS_L0_mx0 p (-1))) w))) (w_szPieceS_L0_f v0 v2 v1) := by
  have hw : (IntKind.wrap .i64 (v2 + 1)) = v2 + 1 := wrap64 (by omega) (by omega)
  show w_szPieceS_L0_B v0 v1 v2 (Option (w_szPieceS_L0_sh.T ⊕ WT w_szPieceS_L0_es)) none (fun v' => some (Sum.inl v')) (fun w => some (Sum.inr w)) = _
  unfold w_szPieceS_L0_B w_szPieceS_L0_f
  exact bifG (by simp only [decide_eq_true_eq]; omega) (bifG (by (try simp only [Nat.ble_eq, Bool.and_eq_true, decide_eq_true_eq]); grind [maxSl, maxStr, toBytes_length, toInts_length, List.length_set, wrap64, w_szPiece_sm]) (letT (f := (Stp.elim (fun a' : Int => some (Sum.inl (w_szPieceS_L0_mk v0 a' (v2 + 1)))) (fun w => some (Sum.inr ((fun p : Int => Sum.inl (w_szPieceS_L0_mx0 p (-1))) w))))) (fun c1 hc1 => bifT (f := (Stp.elim (fun a' : Int => some (Sum.inl (w_szPieceS_L0_mk v0 a' (v2 + 1)))) (fun w => some (Sum.inr ((fun p : Int => Sum.inl (w_szPieceS_L0_mx0 p (-1))) w))))) (fun b0 => rfl)
      (fun b0 => (by exact congrArg (fun z => some (Sum.inl (w_szPieceS_L0_mk v0 c1 z))) hw)))))
theorem w_szPieceS_L0_cl (v0 : List Piec) (v1 : Int) (v2 : Int) (h0 : 0 ≤ v2) (h1 : (v0.length : Int) ≤ 4611686018427387904) : loopF w_szPieceS_L0_r.step (w_szPieceS_L0_fu v0 v1 v2) (w_szPieceS_L0_mk v0 v1 v2) = some (Stp.elim (fun a => (fun i a => Sum.inr (w_szPieceS_L0_mx1 a)) (v2 + 1 * (((Int.toNat ((v0.length : Int) - v2)) : Nat) : Int)) a) (fun p : Int => Sum.inl (w_szPieceS_L0_mx0 p (-1))) (forN (w_szPieceS_L0_f v0) 1 (Int.toNat ((v0.length : Int) - v2)) v2 v1)) :=
  forN_loop (step := w_szPieceS_L0_r.step) (mk := fun v2 a => w_szPieceS_L0_mk v0 a v2) (f := w_szPieceS_L0_f v0) (e := (fun i a => Sum.inr (w_szPieceS_L0_mx1 a))) (emb := (fun p : Int => Sum.inl (w_szPieceS_L0_mx0 p (-1)))) (st := 1) (Inv := fun v2 a => True) (Int.toNat ((v0.length : Int) - v2)) v2 v1 _ (Nat.lt_succ_self _) trivial
    (fun j a hj hv => ⟨w_szPieceS_L0_st v0 a (v2 + 1 * (j : Int)) (by omega) (by omega) (by omega), fun _ _ => trivial⟩)
    (fun a hv => by
      show w_szPieceS_L0_B v0 a (v2 + 1 * (((Int.toNat ((v0.length : Int) - v2)) : Nat) : Int)) (Option (w_szPieceS_L0_sh.T ⊕ WT w_szPieceS_L0_es)) none (fun v' => some (Sum.inl v')) (fun w => some (Sum.inr w)) = _
      unfold w_szPieceS_L0_B
      exact bifN (by simp only [decide_eq_false_iff_not]; omega) rfl)
def w_szPieceS_N (x0 : List Piec) (x1 : Int) (γ : Type) (fail : γ) (k : Int → γ) : γ :=
  bif (decide ((IntKind.wrap .i64 (x1 - (x0.length : Int))) < 0)) then
    k (-1)
  else
  optK (loopF w_szPieceS_L0_r.step (w_szPieceS_L0_fu x0 (IntKind.wrap .i64 (x1 - (x0.length : Int))) 0) (w_szPieceS_L0_mk x0 (IntKind.wrap .i64 (x1 - (x0.length : Int))) 0)) fail fun w2 =>
    Sum.elim (fun w2 =>
      k w2.1.2.1.1)
    (fun w2 =>
      k w2.1.1.1) w2
def w_szPieceS (x0 : List Piec) (x1 : Int) : Int :=
  bif (decide ((IntKind.wrap .i64 (x1 - (x0.length : Int))) < 0)) then
    (-1)
  else
  Stp.elim (fun a3 =>
    a3)
    (fun p3 =>
      (-1))
    (forN (w_szPieceS_L0_f x0) 1 (Int.toNat ((x0.length : Int) - 0)) 0 (IntKind.wrap .i64 (x1 - (x0.length : Int))))
theorem w_szPieceS_lk (x0 : List Piec) (x1 : Int) : evalFn te (orcOf (P := Tryz.prog) [w_szPiece_e]) (lorcOf [w_szPieceS_L0_le]) w_szPieceS_ann Tryz.f114 (pvs [.sc (.sl .piec), .sc (.int .i64)] (x0, x1, ())) =
  w_szPieceS_N x0 x1 _ none (fun v => some [(false, [RC.c (.int .i64 v)])]) := by kernel_rfl
theorem w_szPieceS_p (x0 : List Piec) (x1 : Int) (hx0 : x0.length ≤ 140737488355328) (hx0_e : ∀ y ∈ x0, ∀ c ∈ Ty.cells .piec y, FactC c) (hx1 : inK .i64 x1)  (γ : Type) (fail : γ) (k : Int → γ) : w_szPieceS_N x0 x1 γ fail k = k (w_szPieceS x0 x1) := by
  unfold w_szPieceS_N w_szPieceS
  exact bifT (f := k) (fun b0 => rfl)
      (fun b0 => loopT (f := k) (w_szPieceS_L0_cl x0 (IntKind.wrap .i64 (x1 - (x0.length : Int))) 0 (by (try simp only [Nat.ble_eq, Bool.and_eq_true, decide_eq_true_eq, w_szPieceS_L0_mx0, w_szPieceS_L0_mx1]); grind [maxSl, maxStr, toBytes_length, toInts_length, List.length_set, wrap64, w_szPiece_sm]) (by (try simp only [Nat.ble_eq, Bool.and_eq_true, decide_eq_true_eq, w_szPieceS_L0_mx0, w_szPieceS_L0_mx1]); grind [maxSl, maxStr, toBytes_length, toInts_length, List.length_set, wrap64, w_szPiece_sm])) (fun a3 => rfl)
      (fun p3 => rfl))
theorem w_szPieceS_c (x0 : List Piec) (x1 : Int)  : Con Tryz.prog 114 (pvs [.sc (.sl .piec), .sc (.int .i64)] (x0, x1, ())) [rv (.sc (.int .i64)) [] (w_szPieceS x0 x1)] := by
  refine Con.of_facts (enters_of Tryz.func114 rfl (by kernel_rfl)) fun hf => ?_
  replace hf := factAt hf
  exact evalFn_conL teFact mixFact (orcOf_ok _) Tryz.func114 (by kernel_rfl) (bs := [0]) (by kernel_rfl) (by kernel_rfl) (fun w0 mo I0 hmo => ⟨lsem_of_lorc (w_szPieceS_L0_ls w0 mo I0 hmo) (by kernel_rfl), trivial⟩) ((w_szPieceS_lk x0 x1).trans (w_szPieceS_p x0 x1 ((hf 0 0 rfl rfl).len) (fun y hy => (hf 0 0 rfl rfl).elem hy) ((hf 1 0 rfl rfl).rng) _ _ _))
noncomputable def w_szPieceS_e : Ent1 Tryz.prog := entA 114 [.sc (.sl .piec), .sc (.int .i64)] (fun x => (w_szPieceS x.1 x.2.1)) (fun v => [rv (.sc (.int .i64)) [] v]) (fun x => w_szPieceS_c x.1 x.2.1)


/-- laws.toPieceS -/
def w_toPieceS_ann : List (Nat × Keep) := [(0, ⟨[0, 3, 4], [], false, 0⟩)]
def w_toPieceS_L0_sh : Sh := ⟨[(0, false, [.sl .arg .piec]), (3, false, [.own 0]), (4, false, [.int .i64])], [.arr .piec false true]⟩
def w_toPieceS_L0_es : List (Ex × Sh) := [(.exit 0, ⟨[(2, false, [.undef]), (3, false, [.own 0])], [.arr .piec false true]⟩)]
def w_toPieceS_L0_mk (v0 : List Piec) (v1 : Int) (v2 : List Piec) : w_toPieceS_L0_sh.T := (((v0, ()), (((), ()), ((v1, ()), ()))), (v2, ()))
def w_toPieceS_L0_mx0 (y0 : List Piec) : Sh.T ⟨[(2, false, [.undef]), (3, false, [.own 0])], [.arr .piec false true]⟩ := ((((), ()), (((), ()), ())), (y0, ()))
def w_toPieceS_L0_B (v0 : List Piec) (v1 : Int) (v2 : List Piec) (γ : Type) (fail : γ) (next : w_toPieceS_L0_sh.T → γ) (out : WT w_toPieceS_L0_es → γ) : γ :=
  bif (decide (v1 < (v0.length : Int))) then
    bif ((decide (0 ≤ v1)) && (decide (v1 < (v0.length : Int)))) then
    letK (α := Piec) (w_toPiece (v0.getD v1.toNat (Ty.zero .piec))) fun c1 =>
    bif ((decide (0 ≤ v1)) && (decide (v1 < (v2.length : Int)))) then
    next (w_toPieceS_L0_mk v0 (IntKind.wrap .i64 (v1 + 1)) (v2.set v1.toNat c1))
    else fail
    else fail
  else
  out (w_toPieceS_L0_mx0 v2)
theorem w_toPieceS_L0_par (v0 : List Piec) (v1 : Int) (v2 : List Piec) (γ : Type) (fail : γ) (next : w_toPieceS_L0_sh.T → γ) (out : WT w_toPieceS_L0_es → γ) : w_toPieceS_L0_B v0 v1 v2 γ fail next out = optK (w_toPieceS_L0_B v0 v1 v2 _ none (fun v' => some (.inl v')) (fun w => some (.inr w))) fail (fun r => Sum.elim next out r) := by
  unfold w_toPieceS_L0_B
  exact bifT (f := (fun o => optK o fail (fun r => Sum.elim next out r))) (fun _ => bifT (f := (fun o => optK o fail (fun r => Sum.elim next out r))) (fun _ => letT (f := (fun o => optK o fail (fun r => Sum.elim next out r))) (fun c1 _ => bifT (f := (fun o => optK o fail (fun r => Sum.elim next out r))) (fun _ => rfl) (fun _ => rfl))) (fun _ => rfl))
      (fun _ => rfl)
def w_toPieceS_L0_r : Round w_toPieceS_L0_sh.T (WT w_toPieceS_L0_es) where
  B v γ fail next out := w_toPieceS_L0_B v.1.1.1 v.1.2.2.1.1 v.2.1 γ fail next out
  par v γ fail next out := w_toPieceS_L0_par v.1.1.1 v.1.2.2.1.1 v.2.1 γ fail next out
def w_toPieceS_L0_fu (v0 : List Piec) (v1 : Int) (v2 : List Piec) : Nat := (Int.toNat ((v0.length : Int) - v1)) + 1
theorem w_toPieceS_L0_lk (v : w_toPieceS_L0_sh.T) (next : St → Option Res) (k : Ex → St → Option Res) : evalK te (orcOf (P := Tryz.prog) [w_toPiece_e]) (lorcOf []) Tryz.f116.ntmps w_toPieceS_ann (nthLoop (bodyOf Tryz.f116) 0 0) 0 (w_toPieceS_L0_sh.enc v) (endK ⟨[0, 3, 4], [], false, 0⟩ ⟨[2, 3], [], false, 0⟩ next k) =
  w_toPieceS_L0_r.B v _ none (fun v' => next (w_toPieceS_L0_sh.enc v')) (fun w => outK w_toPieceS_L0_es k w) := by kernel_rfl
def w_toPieceS_L0_le : LE := leOf 0 w_toPieceS_L0_sh w_toPieceS_L0_es w_toPieceS_L0_r.step (fun v => w_toPieceS_L0_fu v.1.1.1 v.1.2.2.1.1 v.2.1)
theorem w_toPieceS_L0_ls (w0 : World) (mo : Mts) (I0 : Nat → Prop) (hmo : mo.length = 0) : LSem Tryz.prog (Sim w0 mo Tryz.f116.ntmps I0) (fun b s k => match Nat.beq 0 b with | true => w_toPieceS_L0_le.run s k | false => none) 0 (nthLoop (bodyOf Tryz.f116) 0 0) :=
  le_sem hmo (lorc := lorcOf []) (ann := w_toPieceS_ann) (keep := ⟨[0, 3, 4], [], false, 0⟩) (kout := ⟨[2, 3], [], false, 0⟩) teFact mixFact (orcOf_ok _) (by kernel_rfl) (allLoops_of (bs := []) (by kernel_rfl) trivial) w_toPieceS_L0_r _ w_toPieceS_L0_lk
def w_toPieceS_L0_f (v0 : List Piec) (v1 : Int) (a : List Piec) : Stp (List Piec) (Empty) :=
  letK (α := Piec) (w_toPiece (v0.getD v1.toNat (Ty.zero .piec))) fun c1 =>
  .next (a.set v1.toNat c1)
theorem w_toPieceS_L0_st (v0 : List Piec) (v1 : Int) (v2 : List Piec) (hlo : 0 ≤ v1) (hhi : v1 < (v0.length : Int)) (hN : (v0.length : Int) ≤ 4611686018427387904) (hinv : (v0.length : Int) ≤ (v2.length : Int)) : w_toPieceS_L0_r.step (w_toPieceS_L0_mk v0 v1 v2) = Stp.elim (fun a' : List Piec => some (Sum.inl (w_toPieceS_L0_mk v0 (v1 + 1) a'))) (fun w => some (Sum.inr ((fun p : Empty => nomatch p) w))) (w_toPieceS_L0_f v0 v1 v2) := by
  have hw : (IntKind.wrap .i64 (v1 + 1)) = v1 + 1 := wrap64 (by omega) (by omega)
  show w_toPieceS_L0_B v0 v1 v2 (Option (w_toPieceS_L0_sh.T ⊕ WT w_toPieceS_L0_es)) none (fun v' => some (Sum.inl v')) (fun w => some (Sum.inr w)) = _
  unfold w_toPieceS_L0_B w_toPieceS_L0_f
  exact bifG (by simp only [decide_eq_true_eq]; omega) (bifG (by (try simp only [Nat.ble_eq, Bool.and_eq_true, decide_eq_true_eq]); grind [maxSl, maxStr, toBytes_length, toInts_length, List.length_set, wrap64]) (letT (f := (Stp.elim (fun a' : List Piec => some (Sum.inl (w_toPieceS_L0_mk v0 (v1 + 1) a'))) (fun w => some (Sum.inr ((fun p : Empty => nomatch p) w))))) (fun c1 hc1 => bifG (by (try simp only [Nat.ble_eq, Bool.and_eq_true, decide_eq_true_eq]); grind [maxSl, maxStr, toBytes_length, toInts_length, List.length_set, wrap64]) ((by exact congrArg (fun z => some (Sum.inl (w_toPieceS_L0_mk v0 z (v2.set v1.toNat c1)))) hw)))))
theorem w_toPieceS_L0_cl (v0 : List Piec) (v1 : Int) (v2 : List Piec) (h0 : 0 ≤ v1) (h1 : (v0.length : Int) ≤ 4611686018427387904) (h2 : (v0.length : Int) ≤ (v2.length : Int)) : loopF w_toPieceS_L0_r.step (w_toPieceS_L0_fu v0 v1 v2) (w_toPieceS_L0_mk v0 v1 v2) = some (Stp.elim (fun a => (fun i a => w_toPieceS_L0_mx0 a) (v1 + 1 * (((Int.toNat ((v0.length : Int) - v1)) : Nat) : Int)) a) (fun p : Empty => nomatch p) (forN (w_toPieceS_L0_f v0) 1 (Int.toNat ((v0.length : Int) - v1)) v1 v2)) :=
  forN_loop (step := w_toPieceS_L0_r.step) (mk := fun v1 a => w_toPieceS_L0_mk v0 v1 a) (f := w_toPieceS_L0_f v0) (e := (fun i a => w_toPieceS_L0_mx0 a)) (emb := (fun p : Empty => nomatch p)) (st := 1) (Inv := fun v1 a => (v0.length : Int) ≤ (a.length : Int)) (Int.toNat ((v0.length : Int) - v1)) v1 v2 _ (Nat.lt_succ_self _) h2
    (fun j a hj hv => ⟨w_toPieceS_L0_st v0 (v1 + 1 * (j : Int)) a (by omega) (by omega) (by omega) hv, by
      intro a' he
      grind [w_toPieceS_L0_f, letK, Stp.elim, wrap64, List.length_set]⟩)
    (fun a hv => by
      show w_toPieceS_L0_B v0 (v1 + 1 * (((Int.toNat ((v0.length : Int) - v1)) : Nat) : Int)) a (Option (w_toPieceS_L0_sh.T ⊕ WT w_toPieceS_L0_es)) none (fun v' => some (Sum.inl v')) (fun w => some (Sum.inr w)) = _
      unfold w_toPieceS_L0_B
      exact bifN (by simp only [decide_eq_false_iff_not]; omega) rfl)
theorem w_toPieceS_L0_nx (v0 : List Piec) (v1 : Int) (v2 : List Piec) (h0 : 0 ≤ v1) (h1 : (v0.length : Int) ≤ 4611686018427387904) (h2 : (v0.length : Int) ≤ (v2.length : Int)) : ∀ a', forN (w_toPieceS_L0_f v0) 1 (Int.toNat ((v0.length : Int) - v1)) v1 v2 = .next a' → (v0.length : Int) ≤ (a'.length : Int) :=
  forN_inv (f := w_toPieceS_L0_f v0) (st := 1) (Inv := fun v1 a => (v0.length : Int) ≤ (a.length : Int)) (Int.toNat ((v0.length : Int) - v1)) v1 v2 h2
    (fun j a hj hv => by
      intro a' he
      grind [w_toPieceS_L0_f, letK, Stp.elim, wrap64, List.length_set])
def w_toPieceS_N (x0 : List Piec) (γ : Type) (fail : γ) (k : List Piec → γ) : γ :=
  bif ((((decide (0 ≤ (x0.length : Int))) && (decide ((x0.length : Int) = (x0.length : Int)))) && (decide ((x0.length : Int) * 24 ≤ (maxSl : Int)))) && (decide ((x0.length : Int) ≤ (maxSl : Int)))) then
  optK (loopF w_toPieceS_L0_r.step (w_toPieceS_L0_fu x0 0 (List.replicate ((x0.length : Int).toNat) (⟨0, []⟩ : Piec))) (w_toPieceS_L0_mk x0 0 (List.replicate ((x0.length : Int).toNat) (⟨0, []⟩ : Piec)))) fail fun w2 =>
    k w2.2.1
  else fail
def w_toPieceS (x0 : List Piec) : List Piec :=
  Stp.elim (fun a3 =>
    a3)
    (fun p : Empty => nomatch p)
    (forN (w_toPieceS_L0_f x0) 1 (Int.toNat ((x0.length : Int) - 0)) 0 (List.replicate ((x0.length : Int).toNat) (⟨0, []⟩ : Piec)))
theorem w_toPieceS_lk (x0 : List Piec) : evalFn te (orcOf (P := Tryz.prog) [w_toPiece_e]) (lorcOf [w_toPieceS_L0_le]) w_toPieceS_ann Tryz.f116 (pvs [.sc (.sl .piec)] (x0, ())) =
  w_toPieceS_N x0 _ none (fun v => some [(false, [RC.own true .piec v])]) := by kernel_rfl
theorem w_toPieceS_p (x0 : List Piec) (hx0 : x0.length ≤ 140737488355328) (hx0_e : ∀ y ∈ x0, ∀ c ∈ Ty.cells .piec y, FactC c) (hp : x0.length ≤ 4294967296) (γ : Type) (fail : γ) (k : List Piec → γ) : w_toPieceS_N x0 γ fail k = k (w_toPieceS x0) := by
  unfold w_toPieceS_N w_toPieceS
  exact bifG (by (try simp only [Nat.ble_eq, Bool.and_eq_true, decide_eq_true_eq, w_toPieceS_L0_mx0]); grind [maxSl, maxStr, toBytes_length, toInts_length, List.length_set, wrap64]) (loopX (f := k) (w_toPieceS_L0_cl x0 0 (List.replicate ((x0.length : Int).toNat) (⟨0, []⟩ : Piec)) (by (try simp only [Nat.ble_eq, Bool.and_eq_true, decide_eq_true_eq, w_toPieceS_L0_mx0]); grind [maxSl, maxStr, toBytes_length, toInts_length, List.length_set, wrap64]) (by (try simp only [Nat.ble_eq, Bool.and_eq_true, decide_eq_true_eq, w_toPieceS_L0_mx0]); grind [maxSl, maxStr, toBytes_length, toInts_length, List.length_set, wrap64]) (by (try simp only [Nat.ble_eq, Bool.and_eq_true, decide_eq_true_eq, w_toPieceS_L0_mx0]); grind [maxSl, maxStr, toBytes_length, toInts_length, List.length_set, wrap64])) (fun a3 ha3 => have ia3 := w_toPieceS_L0_nx x0 0 (List.replicate ((x0.length : Int).toNat) (⟨0, []⟩ : Piec)) (by (try simp only [Nat.ble_eq, Bool.and_eq_true, decide_eq_true_eq, w_toPieceS_L0_mx0]); grind [maxSl, maxStr, toBytes_length, toInts_length, List.length_set, wrap64]) (by (try simp only [Nat.ble_eq, Bool.and_eq_true, decide_eq_true_eq, w_toPieceS_L0_mx0]); grind [maxSl, maxStr, toBytes_length, toInts_length, List.length_set, wrap64]) (by (try simp only [Nat.ble_eq, Bool.and_eq_true, decide_eq_true_eq, w_toPieceS_L0_mx0]); grind [maxSl, maxStr, toBytes_length, toInts_length, List.length_set, wrap64]) _ ha3; rfl)
      (fun p : Empty => nomatch p))
theorem w_toPieceS_c (x0 : List Piec) (hp : x0.length ≤ 4294967296) : Con Tryz.prog 116 (pvs [.sc (.sl .piec)] (x0, ())) [rv (.sc (.sl .piec)) [.o true] (w_toPieceS x0)] := by
  refine Con.of_facts (enters_of Tryz.func116 rfl (by kernel_rfl)) fun hf => ?_
  replace hf := factAt hf
  exact evalFn_conL teFact mixFact (orcOf_ok _) Tryz.func116 (by kernel_rfl) (bs := [0]) (by kernel_rfl) (by kernel_rfl) (fun w0 mo I0 hmo => ⟨lsem_of_lorc (w_toPieceS_L0_ls w0 mo I0 hmo) (by kernel_rfl), trivial⟩) ((w_toPieceS_lk x0).trans (w_toPieceS_p x0 ((hf 0 0 rfl rfl).len) (fun y hy => (hf 0 0 rfl rfl).elem hy) hp _ _ _))
noncomputable def w_toPieceS_e : Ent1 Tryz.prog := entP 116 [.sc (.sl .piec)] (fun x => (decide (x.1.length ≤ 4294967296))) (fun x => (w_toPieceS x.1)) (fun v => [rv (.sc (.sl .piec)) [.o true] v]) (fun x hx => w_toPieceS_c x.1 (of_decide_eq_true hx))


/-- laws.eqPieceS -/
def w_eqPieceS_ann : List (Nat × Keep) := [(0, ⟨[0, 1, 5], [], false, 0⟩)]
def w_eqPieceS_L0_sh : Sh := ⟨[(0, false, [.sl .arg .piec]), (1, false, [.sl .arg .piec]), (5, false, [.int .i64])], []⟩
def w_eqPieceS_L0_es : List (Ex × Sh) := [(.ret, ⟨[(4, false, [.bool])], []⟩), (.exit 0, ⟨[(4, false, [.undef])], []⟩)]
def w_eqPieceS_L0_mk (v0 : List Piec) (v1 : List Piec) (v2 : Int) : w_eqPieceS_L0_sh.T := (((v0, ()), ((v1, ()), ((v2, ()), ()))), ())
def w_eqPieceS_L0_mx0 (y0 : Bool) : Sh.T ⟨[(4, false, [.bool])], []⟩ := (((y0, ()), ()), ())
def w_eqPieceS_L0_mx1  : Sh.T ⟨[(4, false, [.undef])], []⟩ := ((((), ()), ()), ())
def w_eqPieceS_L0_B (v0 : List Piec) (v1 : List Piec) (v2 : Int) (γ : Type) (fail : γ) (next : w_eqPieceS_L0_sh.T → γ) (out : WT w_eqPieceS_L0_es → γ) : γ :=
  bif (decide (v2 < (v0.length : Int))) then
    bif ((decide (0 ≤ v2)) && (decide (v2 < (v0.length : Int)))) then
    bif ((decide (0 ≤ v2)) && (decide (v2 < (v1.length : Int)))) then
    letK (α := Bool) (w_eqPiece (v0.getD v2.toNat (Ty.zero .piec)) (v1.getD v2.toNat (Ty.zero .piec))) fun c1 =>
    bif (!c1) then
      out (Sum.inl (w_eqPieceS_L0_mx0 false))
    else
    next (w_eqPieceS_L0_mk v0 v1 (IntKind.wrap .i64 (v2 + 1)))
    else fail
    else fail
  else
  out (Sum.inr (w_eqPieceS_L0_mx1 ))
theorem w_eqPieceS_L0_par (v0 : List Piec) (v1 : List Piec) (v2 : Int) (γ : Type) (fail : γ) (next : w_eqPieceS_L0_sh.T → γ) (out : WT w_eqPieceS_L0_es → γ) : w_eqPieceS_L0_B v0 v1 v2 γ fail next out = optK (w_eqPieceS_L0_B v0 v1 v2 _ none (fun v' => some (.inl v')) (fun w => some (.inr w))) fail (fun r => Sum.elim next out r) := by
  unfold w_eqPieceS_L0_B
  exact bifT (f := (fun o => optK o fail (fun r => Sum.elim next out r))) (fun _ => bifT (f := (fun o => optK o fail (fun r => Sum.elim next out r))) (fun _ => bifT (f := (fun o => optK o fail (fun r => Sum.elim next out r))) (fun _ => letT (f := (fun o => optK o fail (fun r => Sum.elim next out r))) (fun c1 _ => bifT (f := (fun o => optK o fail (fun r => Sum.elim next out r))) (fun _ => rfl)
      (fun _ => rfl))) (fun _ => rfl)) (fun _ => rfl))
      (fun _ => rfl)
def w_eqPieceS_L0_r : Round w_eqPieceS_L0_sh.T (WT w_eqPieceS_L0_es) where
  B v γ fail next out := w_eqPieceS_L0_B v.1.1.1 v.1.2.1.1 v.1.2.2.1.1 γ fail next out
  par v γ fail next out := w_eqPieceS_L0_par v.1.1.1 v.1.2.1.1 v.1.2.2.1.1 γ fail next out
def w_eqPieceS_L0_fu (v0 : List Piec) (v1 : List Piec) (v2 : Int) : Nat := (Int.toNat ((v0.length : Int) - v2)) + 1
theorem w_eqPieceS_L0_lk (v : w_eqPieceS_L0_sh.T) (next : St → Option Res) (k : Ex → St → Option Res) : evalK te (orcOf (P := Tryz.prog) [w_eqPiece_e]) (lorcOf []) Tryz.f117.ntmps w_eqPieceS_ann (nthLoop (bodyOf Tryz.f117) 0 0) 0 (w_eqPieceS_L0_sh.enc v) (endK ⟨[0, 1, 5], [], false, 0⟩ ⟨[4], [], false, 0⟩ next k) =
  w_eqPieceS_L0_r.B v _ none (fun v' => next (w_eqPieceS_L0_sh.enc v')) (fun w => outK w_eqPieceS_L0_es k w) := by kernel_rfl
def w_eqPieceS_L0_le : LE := leOf 0 w_eqPieceS_L0_sh w_eqPieceS_L0_es w_eqPieceS_L0_r.step (fun v => w_eqPieceS_L0_fu v.1.1.1 v.1.2.1.1 v.1.2.2.1.1)
theorem w_eqPieceS_L0_ls (w0 : World) (mo : Mts) (I0 : Nat → Prop) (hmo : mo.length = 0) : LSem Tryz.prog (Sim w0 mo Tryz.f117.ntmps I0) (fun b s k => match Nat.beq 0 b with | true => w_eqPieceS_L0_le.run s k | false => none) 0 (nthLoop (bodyOf Tryz.f117) 0 0) :=
  le_sem hmo (lorc := lorcOf []) (ann := w_eqPieceS_ann) (keep := ⟨[0, 1, 5], [], false, 0⟩) (kout := ⟨[4], [], false, 0⟩) teFact mixFact (orcOf_ok _) (by kernel_rfl) (allLoops_of (bs := []) (by kernel_rfl) trivial) w_eqPieceS_L0_r _ w_eqPieceS_L0_lk
def w_eqPieceS_L0_f (v0 : List Piec) (v1 : List Piec) (v2 : Int) (a : Unit) : Stp (Unit) ((Unit)) :=
  letK (α := Bool) (w_eqPiece (v0.getD v2.toNat (Ty.zero .piec)) (v1.getD v2.toNat (Ty.zero .piec))) fun c1 =>
  bif (!c1) then
    .out (())
  else
  .next ()
theorem w_eqPieceS_L0_st (v0 : List Piec) (v1 : List Piec) (v2 : Int) (hlo : 0 ≤ v2) (hhi : v2 < (v0.length : Int)) (hN : (v0.length : Int) ≤ 4611686018427387904) (hi0 : (v0.length : Int) ≤ (v1.length : Int)) : w_eqPieceS_L0_r.step (w_eqPieceS_L0_mk v0 v1 v2) = Stp.elim (fun a' : Unit => some (Sum.inl (w_eqPieceS_L0_mk v0 v1 (v2 + 1)))) (fun w => some (Sum.inr ((fun p : Unit => Sum.inl (w_eqPieceS_L0_mx0 false)) w))) (w_eqPieceS_L0_f v0 v1 v2 ()) := by
  have hw : (IntKind.wrap .i64 (v2 + 1)) = v2 + 1 := wrap64 (by omega) (by omega)
  show w_eqPieceS_L0_B v0 v1 v2 (Option (w_eqPieceS_L0_sh.T ⊕ WT w_eqPieceS_L0_es)) none (fun v' => some (Sum.inl v')) (fun w => some (Sum.inr w)) = _
  unfold w_eqPieceS_L0_B w_eqPieceS_L0_f
  exact bifG (by simp only [decide_eq_true_eq]; omega) (bifG (by (try simp only [Nat.ble_eq, Bool.and_eq_true, decide_eq_true_eq]); grind [maxSl, maxStr, toBytes_length, toInts_length, List.length_set, wrap64]) (bifG (by (try simp only [Nat.ble_eq, Bool.and_eq_true, decide_eq_true_eq]); grind [maxSl, maxStr, toBytes_length, toInts_length, List.length_set, wrap64]) (letT (f := (Stp.elim (fun a' : Unit => some (Sum.inl (w_eqPieceS_L0_mk v0 v1 (v2 + 1)))) (fun w => some (Sum.inr ((fun p : Unit => Sum.inl (w_eqPieceS_L0_mx0 false)) w))))) (fun c1 hc1 => bifT (f := (Stp.elim (fun a' : Unit => some (Sum.inl (w_eqPieceS_L0_mk v0 v1 (v2 + 1)))) (fun w => some (Sum.inr ((fun p : Unit => Sum.inl (w_eqPieceS_L0_mx0 false)) w))))) (fun b0 => rfl)
      (fun b0 => (by exact congrArg (fun z => some (Sum.inl (w_eqPieceS_L0_mk v0 v1 z))) hw))))))
theorem w_eqPieceS_L0_cl (v0 : List Piec) (v1 : List Piec) (v2 : Int) (h0 : 0 ≤ v2) (h1 : (v0.length : Int) ≤ 4611686018427387904) (h2 : (v0.length : Int) ≤ (v1.length : Int)) : loopF w_eqPieceS_L0_r.step (w_eqPieceS_L0_fu v0 v1 v2) (w_eqPieceS_L0_mk v0 v1 v2) = some (Stp.elim (fun a => (fun i a => Sum.inr (w_eqPieceS_L0_mx1 )) (v2 + 1 * (((Int.toNat ((v0.length : Int) - v2)) : Nat) : Int)) a) (fun p : Unit => Sum.inl (w_eqPieceS_L0_mx0 false)) (forN (w_eqPieceS_L0_f v0 v1) 1 (Int.toNat ((v0.length : Int) - v2)) v2 ())) :=
  forN_loop (step := w_eqPieceS_L0_r.step) (mk := fun v2 a => w_eqPieceS_L0_mk v0 v1 v2) (f := w_eqPieceS_L0_f v0 v1) (e := (fun i a => Sum.inr (w_eqPieceS_L0_mx1 ))) (emb := (fun p : Unit => Sum.inl (w_eqPieceS_L0_mx0 false))) (st := 1) (Inv := fun v2 a => True) (Int.toNat ((v0.length : Int) - v2)) v2 () _ (Nat.lt_succ_self _) trivial
    (fun j a hj hv => ⟨w_eqPieceS_L0_st v0 v1 (v2 + 1 * (j : Int)) (by omega) (by omega) (by omega) h2, fun _ _ => trivial⟩)
    (fun a hv => by
      show w_eqPieceS_L0_B v0 v1 (v2 + 1 * (((Int.toNat ((v0.length : Int) - v2)) : Nat) : Int)) (Option (w_eqPieceS_L0_sh.T ⊕ WT w_eqPieceS_L0_es)) none (fun v' => some (Sum.inl v')) (fun w => some (Sum.inr w)) = _
      unfold w_eqPieceS_L0_B
      exact bifN (by simp only [decide_eq_false_iff_not]; omega) rfl)
def w_eqPieceS_N (x0 : List Piec) (x1 : List Piec) (γ : Type) (fail : γ) (k : Bool → γ) : γ :=
  bif ((x0.length : Int) != (x1.length : Int)) then
    k false
  else
  optK (loopF w_eqPieceS_L0_r.step (w_eqPieceS_L0_fu x0 x1 0) (w_eqPieceS_L0_mk x0 x1 0)) fail fun w2 =>
    Sum.elim (fun w2 =>
      k w2.1.1.1)
    (fun w2 =>
      k true) w2
def w_eqPieceS (x0 : List Piec) (x1 : List Piec) : Bool :=
  bif ((x0.length : Int) != (x1.length : Int)) then
    false
  else
  Stp.elim (fun a3 =>
    true)
    (fun p3 =>
      false)
    (forN (w_eqPieceS_L0_f x0 x1) 1 (Int.toNat ((x0.length : Int) - 0)) 0 ())
theorem w_eqPieceS_lk (x0 : List Piec) (x1 : List Piec) : evalFn te (orcOf (P := Tryz.prog) [w_eqPiece_e]) (lorcOf [w_eqPieceS_L0_le]) w_eqPieceS_ann Tryz.f117 (pvs [.sc (.sl .piec), .sc (.sl .piec)] (x0, x1, ())) =
  w_eqPieceS_N x0 x1 _ none (fun v => some [(false, [RC.c (.bool v)])]) := by kernel_rfl
theorem w_eqPieceS_p (x0 : List Piec) (x1 : List Piec) (hx0 : x0.length ≤ 140737488355328) (hx0_e : ∀ y ∈ x0, ∀ c ∈ Ty.cells .piec y, FactC c) (hx1 : x1.length ≤ 140737488355328) (hx1_e : ∀ y ∈ x1, ∀ c ∈ Ty.cells .piec y, FactC c)  (γ : Type) (fail : γ) (k : Bool → γ) : w_eqPieceS_N x0 x1 γ fail k = k (w_eqPieceS x0 x1) := by
  unfold w_eqPieceS_N w_eqPieceS
  exact bifT (f := k) (fun b0 => rfl)
      (fun b0 => loopT (f := k) (w_eqPieceS_L0_cl x0 x1 0 (by (try simp only [Nat.ble_eq, Bool.and_eq_true, decide_eq_true_eq, w_eqPieceS_L0_mx0, w_eqPieceS_L0_mx1]); grind [maxSl, maxStr, toBytes_length, toInts_length, List.length_set, wrap64]) (by (try simp only [Nat.ble_eq, Bool.and_eq_true, decide_eq_true_eq, w_eqPieceS_L0_mx0, w_eqPieceS_L0_mx1]); grind [maxSl, maxStr, toBytes_length, toInts_length, List.length_set, wrap64]) (by (try simp only [Nat.ble_eq, Bool.and_eq_true, decide_eq_true_eq, w_eqPieceS_L0_mx0, w_eqPieceS_L0_mx1]); grind [maxSl, maxStr, toBytes_length, toInts_length, List.length_set, wrap64])) (fun a3 => rfl)
      (fun p3 => rfl))
theorem w_eqPieceS_c (x0 : List Piec) (x1 : List Piec)  : Con Tryz.prog 117 (pvs [.sc (.sl .piec), .sc (.sl .piec)] (x0, x1, ())) [rv (.sc .bool) [] (w_eqPieceS x0 x1)] := by
  refine Con.of_facts (enters_of Tryz.func117 rfl (by kernel_rfl)) fun hf => ?_
  replace hf := factAt hf
  exact evalFn_conL teFact mixFact (orcOf_ok _) Tryz.func117 (by kernel_rfl) (bs := [0]) (by kernel_rfl) (by kernel_rfl) (fun w0 mo I0 hmo => ⟨lsem_of_lorc (w_eqPieceS_L0_ls w0 mo I0 hmo) (by kernel_rfl), trivial⟩) ((w_eqPieceS_lk x0 x1).trans (w_eqPieceS_p x0 x1 ((hf 0 0 rfl rfl).len) (fun y hy => (hf 0 0 rfl rfl).elem hy) ((hf 1 0 rfl rfl).len) (fun y hy => (hf 1 0 rfl rfl).elem hy) _ _ _))
noncomputable def w_eqPieceS_e : Ent1 Tryz.prog := entA 117 [.sc (.sl .piec), .sc (.sl .piec)] (fun x => (w_eqPieceS x.1 x.2.1)) (fun v => [rv (.sc .bool) [] v]) (fun x => w_eqPieceS_c x.1 x.2.1)


/-- spec.LinkOk -/
def s_LinkOk_N (x0 : Link) (γ : Type) (fail : γ) (k : Bool → γ) : γ :=
  letK (α := Bool) (s_WordOk x0.mac 48) fun c1 =>
  bif c1 then
    bif (x0.mac != 281474976710655) then
      letK (α := Bool) (s_WordOk x0.ip 32) fun c2 =>
      bif c2 then
        letK (α := Bool) (s_CacheOk x0.cache) fun c3 =>
        k c3
      else
      k false
    else
    k false
  else
  k false
def s_LinkOk (x0 : Link) : Bool :=
  letK (α := Bool) (s_WordOk x0.mac 48) fun c1 =>
  bif c1 then
    bif (x0.mac != 281474976710655) then
      letK (α := Bool) (s_WordOk x0.ip 32) fun c2 =>
      bif c2 then
        letK (α := Bool) (s_CacheOk x0.cache) fun c3 =>
        c3
      else
      false
    else
    false
  else
  false
theorem s_LinkOk_lk (x0 : Link) : evalFn te (orcOf (P := Tryz.prog) [s_WordOk_e, s_CacheOk_e]) lorc0 [] Tryz.f11 (pvs [.st .link] (x0, ())) =
  s_LinkOk_N x0 _ none (fun v => some [(false, [RC.c (.bool v)])]) := by kernel_rfl
theorem s_LinkOk_p (x0 : Link)   (γ : Type) (fail : γ) (k : Bool → γ) : s_LinkOk_N x0 γ fail k = k (s_LinkOk x0) := by
  unfold s_LinkOk_N s_LinkOk
  exact letT (f := k) (fun c1 hc1 => bifT (f := k) (fun b0 => bifT (f := k) (fun b1 => letT (f := k) (fun c2 hc2 => bifT (f := k) (fun b2 => letT (f := k) (fun c3 hc3 => rfl))
      (fun b2 => rfl)))
      (fun b1 => rfl))
      (fun b0 => rfl))
theorem s_LinkOk_c (x0 : Link)  : Con Tryz.prog 11 (pvs [.st .link] (x0, ())) [rv (.sc .bool) [] (s_LinkOk x0)] := by
  exact evalFn_con0 teFact mixFact (orcOf_ok _) Tryz.func11 (by kernel_rfl) ((s_LinkOk_lk x0).trans (s_LinkOk_p x0  _ _ _))
noncomputable def s_LinkOk_e : Ent1 Tryz.prog := entA 11 [.st .link] (fun x => (s_LinkOk x.1)) (fun v => [rv (.sc .bool) [] v]) (fun x => s_LinkOk_c x.1)


/-- laws.toLink -/
def w_toLink_N (x0 : Link) (γ : Type) (fail : γ) (k : Link → γ) : γ :=
  bif (decide (x0.cache.length ≤ 4294967296)) then
  letK (α := List Entr) (w_toEntryS x0.cache) fun c1 =>
  k ({ x0 with cache := c1 } : Link)
  else fail
def w_toLink (x0 : Link) : Link :=
  letK (α := List Entr) (w_toEntryS x0.cache) fun c1 =>
  ({ x0 with cache := c1 } : Link)
theorem w_toLink_lk (x0 : Link) : evalFn te (orcOf (P := Tryz.prog) [w_toEntryS_e]) lorc0 [] Tryz.f13 (pvs [.st .link] (x0, ())) =
  w_toLink_N x0 _ none (fun v => some [(true, [RC.c (.int .i64 v.mac), RC.c (.int .i64 v.ip), RC.own true .entr v.cache])]) := by kernel_rfl
theorem w_toLink_p (x0 : Link) (hx0_mac : inK .i64 x0.mac) (hx0_ip : inK .i64 x0.ip) (hx0_cache : x0.cache.length ≤ 140737488355328) (hp : x0.cache.length ≤ 4294967296) (γ : Type) (fail : γ) (k : Link → γ) : w_toLink_N x0 γ fail k = k (w_toLink x0) := by
  unfold w_toLink_N w_toLink
  exact bifG (by (try simp only [Nat.ble_eq, Bool.and_eq_true, decide_eq_true_eq]); grind [maxSl, maxStr, toBytes_length, toInts_length, List.length_set, wrap64]) (letT (f := k) (fun c1 hc1 => rfl))
theorem w_toLink_c (x0 : Link) (hp : x0.cache.length ≤ 4294967296) : Con Tryz.prog 13 (pvs [.st .link] (x0, ())) [rv (.st .link) [.c, .c, .o true] (w_toLink x0)] := by
  refine Con.of_facts (enters_of Tryz.func13 rfl (by kernel_rfl)) fun hf => ?_
  replace hf := factAt hf
  exact evalFn_con0 teFact mixFact (orcOf_ok _) Tryz.func13 (by kernel_rfl) ((w_toLink_lk x0).trans (w_toLink_p x0 ((hf 0 0 rfl rfl).rng) ((hf 0 1 rfl rfl).rng) ((hf 0 2 rfl rfl).len) hp _ _ _))
noncomputable def w_toLink_e : Ent1 Tryz.prog := entP 13 [.st .link] (fun x => (decide (x.1.cache.length ≤ 4294967296))) (fun x => (w_toLink x.1)) (fun v => [rv (.st .link) [.c, .c, .o true] v]) (fun x hx => w_toLink_c x.1 (of_decide_eq_true hx))


/-- impl.LinkOk -/
def i_LinkOk_N (x0 : Link) (γ : Type) (fail : γ) (k : Bool → γ) : γ :=
  letK (α := Bool) (i_WordOk x0.mac 48) fun c1 =>
  bif c1 then
    bif (x0.mac != 281474976710655) then
      letK (α := Bool) (i_WordOk x0.ip 32) fun c2 =>
      bif c2 then
        letK (α := Bool) (i_CacheOk x0.cache) fun c3 =>
        k c3
      else
      k false
    else
    k false
  else
  k false
def i_LinkOk (x0 : Link) : Bool :=
  letK (α := Bool) (i_WordOk x0.mac 48) fun c1 =>
  bif c1 then
    bif (x0.mac != 281474976710655) then
      letK (α := Bool) (i_WordOk x0.ip 32) fun c2 =>
      bif c2 then
        letK (α := Bool) (i_CacheOk x0.cache) fun c3 =>
        c3
      else
      false
    else
    false
  else
  false
theorem i_LinkOk_lk (x0 : Link) : evalFn te (orcOf (P := Tryz.prog) [i_WordOk_e, i_CacheOk_e]) lorc0 [] Tryz.f15 (pvs [.st .link] (x0, ())) =
  i_LinkOk_N x0 _ none (fun v => some [(false, [RC.c (.bool v)])]) := by kernel_rfl
theorem i_LinkOk_p (x0 : Link)   (γ : Type) (fail : γ) (k : Bool → γ) : i_LinkOk_N x0 γ fail k = k (i_LinkOk x0) := by
  unfold i_LinkOk_N i_LinkOk
  exact letT (f := k) (fun c1 hc1 => bifT (f := k) (fun b0 => bifT (f := k) (fun b1 => letT (f := k) (fun c2 hc2 => bifT (f := k) (fun b2 => letT (f := k) (fun c3 hc3 => rfl))
      (fun b2 => rfl)))
      (fun b1 => rfl))
      (fun b0 => rfl))
theorem i_LinkOk_c (x0 : Link)  : Con Tryz.prog 15 (pvs [.st .link] (x0, ())) [rv (.sc .bool) [] (i_LinkOk x0)] := by
  exact evalFn_con0 teFact mixFact (orcOf_ok _) Tryz.func15 (by kernel_rfl) ((i_LinkOk_lk x0).trans (i_LinkOk_p x0  _ _ _))
noncomputable def i_LinkOk_e : Ent1 Tryz.prog := entA 15 [.st .link] (fun x => (i_LinkOk x.1)) (fun v => [rv (.sc .bool) [] v]) (fun x => i_LinkOk_c x.1)


/-- laws.eqLink -/
def w_eqLink_N (x0 : Link) (x1 : Link) (γ : Type) (fail : γ) (k : Bool → γ) : γ :=
  bif (x0.mac != x1.mac) then
    k false
  else
  bif (x0.ip != x1.ip) then
    k false
  else
  letK (α := Bool) (w_eqEntryS x0.cache x1.cache) fun c1 =>
  bif (!c1) then
    k false
  else
  k true
def w_eqLink (x0 : Link) (x1 : Link) : Bool :=
  bif (x0.mac != x1.mac) then
    false
  else
  bif (x0.ip != x1.ip) then
    false
  else
  letK (α := Bool) (w_eqEntryS x0.cache x1.cache) fun c1 =>
  bif (!c1) then
    false
  else
  true
theorem w_eqLink_lk (x0 : Link) (x1 : Link) : evalFn te (orcOf (P := Tryz.prog) [w_eqEntryS_e]) lorc0 [] Tryz.f17 (pvs [.st .link, .st .link] (x0, x1, ())) =
  w_eqLink_N x0 x1 _ none (fun v => some [(false, [RC.c (.bool v)])]) := by kernel_rfl
theorem w_eqLink_p (x0 : Link) (x1 : Link)   (γ : Type) (fail : γ) (k : Bool → γ) : w_eqLink_N x0 x1 γ fail k = k (w_eqLink x0 x1) := by
  unfold w_eqLink_N w_eqLink
  exact bifT (f := k) (fun b0 => rfl)
      (fun b0 => bifT (f := k) (fun b1 => rfl)
      (fun b1 => letT (f := k) (fun c1 hc1 => bifT (f := k) (fun b2 => rfl)
      (fun b2 => rfl))))
theorem w_eqLink_c (x0 : Link) (x1 : Link)  : Con Tryz.prog 17 (pvs [.st .link, .st .link] (x0, x1, ())) [rv (.sc .bool) [] (w_eqLink x0 x1)] := by
  exact evalFn_con0 teFact mixFact (orcOf_ok _) Tryz.func17 (by kernel_rfl) ((w_eqLink_lk x0 x1).trans (w_eqLink_p x0 x1  _ _ _))
noncomputable def w_eqLink_e : Ent1 Tryz.prog := entA 17 [.st .link, .st .link] (fun x => (w_eqLink x.1 x.2.1)) (fun v => [rv (.sc .bool) [] v]) (fun x => w_eqLink_c x.1 x.2.1)


/-- spec.HalvesOk -/
def s_HalvesOk_ann : List (Nat × Keep) := [(0, ⟨[0, 3], [], false, 0⟩)]
def s_HalvesOk_L0_sh : Sh := ⟨[(0, false, [.sl .arg .half]), (3, false, [.int .i64])], []⟩
def s_HalvesOk_L0_es : List (Ex × Sh) := [(.ret, ⟨[(0, false, [.sl .arg .half]), (2, false, [.bool])], []⟩), (.exit 0, ⟨[(0, false, [.sl .arg .half]), (2, false, [.undef])], []⟩)]
def s_HalvesOk_L0_mk (v0 : List Half) (v1 : Int) : s_HalvesOk_L0_sh.T := (((v0, ()), ((v1, ()), ())), ())
def s_HalvesOk_L0_mx0 (y0 : List Half) (y1 : Bool) : Sh.T ⟨[(0, false, [.sl .arg .half]), (2, false, [.bool])], []⟩ := (((y0, ()), ((y1, ()), ())), ())
def s_HalvesOk_L0_mx1 (y0 : List Half) : Sh.T ⟨[(0, false, [.sl .arg .half]), (2, false, [.undef])], []⟩ := (((y0, ()), (((), ()), ())), ())
def s_HalvesOk_L0_B (v0 : List Half) (v1 : Int) (γ : Type) (fail : γ) (next : s_HalvesOk_L0_sh.T → γ) (out : WT s_HalvesOk_L0_es → γ) : γ :=
  bif (decide (v1 < (v0.length : Int))) then
    bif ((decide (0 ≤ v1)) && (decide (v1 < (v0.length : Int)))) then
    letK (α := Bool) (s_TupleOk ((v0.getD v1.toNat (Ty.zero .half)).tuple)) fun c1 =>
    bif (!c1) then
      out (Sum.inl (s_HalvesOk_L0_mx0 v0 false))
    else
    letK (α := Bool) (s_WordOk ((v0.getD v1.toNat (Ty.zero .half)).iss) 32) fun c2 =>
    bif (!c2) then
      out (Sum.inl (s_HalvesOk_L0_mx0 v0 false))
    else
    letK (α := Bool) (s_WordOk ((v0.getD v1.toNat (Ty.zero .half)).irs) 32) fun c3 =>
    bif (!c3) then
      out (Sum.inl (s_HalvesOk_L0_mx0 v0 false))
    else
    letK (α := Bool) (s_WordOk ((v0.getD v1.toNat (Ty.zero .half)).window) 16) fun c4 =>
    bif (!c4) then
      out (Sum.inl (s_HalvesOk_L0_mx0 v0 false))
    else
    letK (α := Bool) (s_OptionsOk ((v0.getD v1.toNat (Ty.zero .half)).opts)) fun c5 =>
    bif (!c5) then
      out (Sum.inl (s_HalvesOk_L0_mx0 v0 false))
    else
    letK (α := Bool) (s_l1In ((v0.getD v1.toNat (Ty.zero .half)).age) 0 6) fun c6 =>
    bif (!c6) then
      out (Sum.inl (s_HalvesOk_L0_mx0 v0 false))
    else
    bif ((decide (0 ≤ v1)) && (decide (v1 ≤ (v0.length : Int)))) then
    letK (α := Int) (s_FindHalf ((v0.take v1.toNat).drop 0) ((v0.getD v1.toNat (Ty.zero .half)).tuple)) fun c7 =>
    bif (decide (0 ≤ c7)) then
      out (Sum.inl (s_HalvesOk_L0_mx0 v0 false))
    else
    next (s_HalvesOk_L0_mk v0 (IntKind.wrap .i64 (v1 + 1)))
    else fail
    else fail
  else
  out (Sum.inr (s_HalvesOk_L0_mx1 v0))
theorem s_HalvesOk_L0_par (v0 : List Half) (v1 : Int) (γ : Type) (fail : γ) (next : s_HalvesOk_L0_sh.T → γ) (out : WT s_HalvesOk_L0_es → γ) : s_HalvesOk_L0_B v0 v1 γ fail next out = optK (s_HalvesOk_L0_B v0 v1 _ none (fun v' => some (.inl v')) (fun w => some (.inr w))) fail (fun r => Sum.elim next out r) := by
  unfold s_HalvesOk_L0_B
  exact bifT (f := (fun o => optK o fail (fun r => Sum.elim next out r))) (fun _ => bifT (f := (fun o => optK o fail (fun r => Sum.elim next out r))) (fun _ => letT (f := (fun o => optK o fail (fun r => Sum.elim next out r))) (fun c1 _ => bifT (f := (fun o => optK o fail (fun r => Sum.elim next out r))) (fun _ => rfl)
      (fun _ => letT (f := (fun o => optK o fail (fun r => Sum.elim next out r))) (fun c2 _ => bifT (f := (fun o => optK o fail (fun r => Sum.elim next out r))) (fun _ => rfl)
      (fun _ => letT (f := (fun o => optK o fail (fun r => Sum.elim next out r))) (fun c3 _ => bifT (f := (fun o => optK o fail (fun r => Sum.elim next out r))) (fun _ => rfl)
      (fun _ => letT (f := (fun o => optK o fail (fun r => Sum.elim next out r))) (fun c4 _ => bifT (f := (fun o => optK o fail (fun r => Sum.elim next out r))) (fun _ => rfl)
      (fun _ => letT (f := (fun o => optK o fail (fun r => Sum.elim next out r))) (fun c5 _ => bifT (f := (fun o => optK o fail (fun r => Sum.elim next out r))) (fun _ => rfl)
      (fun _ => letT (f := (fun o => optK o fail (fun r => Sum.elim next out r))) (fun c6 _ => bifT (f := (fun o => optK o fail (fun r => Sum.elim next out r))) (fun _ => rfl)
      (fun _ => bifT (f := (fun o => optK o fail (fun r => Sum.elim next out r))) (fun _ => letT (f := (fun o => optK o fail (fun r => Sum.elim next out r))) (fun c7 _ => bifT (f := (fun o => optK o fail (fun r => Sum.elim next out r))) (fun _ => rfl)
      (fun _ => rfl))) (fun _ => rfl)))))))))))))) (fun _ => rfl))
      (fun _ => rfl)
def s_HalvesOk_L0_r : Round s_HalvesOk_L0_sh.T (WT s_HalvesOk_L0_es) where
  B v γ fail next out := s_HalvesOk_L0_B v.1.1.1 v.1.2.1.1 γ fail next out
  par v γ fail next out := s_HalvesOk_L0_par v.1.1.1 v.1.2.1.1 γ fail next out
def s_HalvesOk_L0_fu (v0 : List Half) (v1 : Int) : Nat := (Int.toNat ((v0.length : Int) - v1)) + 1
theorem s_HalvesOk_L0_lk (v : s_HalvesOk_L0_sh.T) (next : St → Option Res) (k : Ex → St → Option Res) : evalK te (orcOf (P := Tryz.prog) [s_TupleOk_e, s_WordOk_e, s_OptionsOk_e, s_l1In_e, s_FindHalf_e]) (lorcOf []) Tryz.f27.ntmps s_HalvesOk_ann (nthLoop (bodyOf Tryz.f27) 0 0) 0 (s_HalvesOk_L0_sh.enc v) (endK ⟨[0, 3], [], false, 0⟩ ⟨[0, 2], [], false, 0⟩ next k) =
  s_HalvesOk_L0_r.B v _ none (fun v' => next (s_HalvesOk_L0_sh.enc v')) (fun w => outK s_HalvesOk_L0_es k w) := by kernel_rfl
def s_HalvesOk_L0_le : LE := leOf 0 s_HalvesOk_L0_sh s_HalvesOk_L0_es s_HalvesOk_L0_r.step (fun v => s_HalvesOk_L0_fu v.1.1.1 v.1.2.1.1)
theorem s_HalvesOk_L0_ls (w0 : World) (mo : Mts) (I0 : Nat → Prop) (hmo : mo.length = 0) : LSem Tryz.prog (Sim w0 mo Tryz.f27.ntmps I0) (fun b s k => match Nat.beq 0 b with | true => s_HalvesOk_L0_le.run s k | false => none) 0 (nthLoop (bodyOf Tryz.f27) 0 0) :=
  le_sem hmo (lorc := lorcOf []) (ann := s_HalvesOk_ann) (keep := ⟨[0, 3], [], false, 0⟩) (kout := ⟨[0, 2], [], false, 0⟩) teFact mixFact (orcOf_ok _) (by kernel_rfl) (allLoops_of (bs := []) (by kernel_rfl) trivial) s_HalvesOk_L0_r _ s_HalvesOk_L0_lk
def s_HalvesOk_L0_f (v0 : List Half) (v1 : Int) (a : Unit) : Stp (Unit) ((Unit)) :=
  letK (α := Bool) (s_TupleOk ((v0.getD v1.toNat (Ty.zero .half)).tuple)) fun c1 =>
  bif (!c1) then
    .out (())
  else
  letK (α := Bool) (s_WordOk ((v0.getD v1.toNat (Ty.zero .half)).iss) 32) fun c2 =>
  bif (!c2) then
    .out (())
  else
  letK (α := Bool) (s_WordOk ((v0.getD v1.toNat (Ty.zero .half)).irs) 32) fun c3 =>
  bif (!c3) then
    .out (())
  else
  letK (α := Bool) (s_WordOk ((v0.getD v1.toNat (Ty.zero .half)).window) 16) fun c4 =>
  bif (!c4) then
    .out (())
  else
  letK (α := Bool) (s_OptionsOk ((v0.getD v1.toNat (Ty.zero .half)).opts)) fun c5 =>
  bif (!c5) then
    .out (())
  else
  letK (α := Bool) (s_l1In ((v0.getD v1.toNat (Ty.zero .half)).age) 0 6) fun c6 =>
  bif (!c6) then
    .out (())
  else
  letK (α := Int) (s_FindHalf ((v0.take v1.toNat).drop 0) ((v0.getD v1.toNat (Ty.zero .half)).tuple)) fun c7 =>
  bif (decide (0 ≤ c7)) then
    .out (())
  else
  .next ()
theorem s_HalvesOk_L0_st (v0 : List Half) (v1 : Int) (hlo : 0 ≤ v1) (hhi : v1 < (v0.length : Int)) (hN : (v0.length : Int) ≤ 4611686018427387904) : s_HalvesOk_L0_r.step (s_HalvesOk_L0_mk v0 v1) = Stp.elim (fun a' : Unit => some (Sum.inl (s_HalvesOk_L0_mk v0 (v1 + 1)))) (fun w => some (Sum.inr ((fun p : Unit => Sum.inl (s_HalvesOk_L0_mx0 v0 false)) w))) (s_HalvesOk_L0_f v0 v1 ()) := by
  have hw : (IntKind.wrap .i64 (v1 + 1)) = v1 + 1 := wrap64 (by omega) (by omega)
  show s_HalvesOk_L0_B v0 v1 (Option (s_HalvesOk_L0_sh.T ⊕ WT s_HalvesOk_L0_es)) none (fun v' => some (Sum.inl v')) (fun w => some (Sum.inr w)) = _
  unfold s_HalvesOk_L0_B s_HalvesOk_L0_f
  exact bifG (by simp only [decide_eq_true_eq]; omega) (bifG (by (try simp only [Nat.ble_eq, Bool.and_eq_true, decide_eq_true_eq]); grind [maxSl, maxStr, toBytes_length, toInts_length, List.length_set, wrap64]) (letT (f := (Stp.elim (fun a' : Unit => some (Sum.inl (s_HalvesOk_L0_mk v0 (v1 + 1)))) (fun w => some (Sum.inr ((fun p : Unit => Sum.inl (s_HalvesOk_L0_mx0 v0 false)) w))))) (fun c1 hc1 => bifT (f := (Stp.elim (fun a' : Unit => some (Sum.inl (s_HalvesOk_L0_mk v0 (v1 + 1)))) (fun w => some (Sum.inr ((fun p : Unit => Sum.inl (s_HalvesOk_L0_mx0 v0 false)) w))))) (fun b0 => rfl)
      (fun b0 => letT (f := (Stp.elim (fun a' : Unit => some (Sum.inl (s_HalvesOk_L0_mk v0 (v1 + 1)))) (fun w => some (Sum.inr ((fun p : Unit => Sum.inl (s_HalvesOk_L0_mx0 v0 false)) w))))) (fun c2 hc2 => bifT (f := (Stp.elim (fun a' : Unit => some (Sum.inl (s_HalvesOk_L0_mk v0 (v1 + 1)))) (fun w => some (Sum.inr ((fun p : Unit => Sum.inl (s_HalvesOk_L0_mx0 v0 false)) w))))) (fun b1 => rfl)
      (fun b1 => letT (f := (Stp.elim (fun a' : Unit => some (Sum.inl (s_HalvesOk_L0_mk v0 (v1 + 1)))) (fun w => some (Sum.inr ((fun p : Unit => Sum.inl (s_HalvesOk_L0_mx0 v0 false)) w))))) (fun c3 hc3 => bifT (f := (Stp.elim (fun a' : Unit => some (Sum.inl (s_HalvesOk_L0_mk v0 (v1 + 1)))) (fun w => some (Sum.inr ((fun p : Unit => Sum.inl (s_HalvesOk_L0_mx0 v0 false)) w))))) (fun b2 => rfl)
      (fun b2 => letT (f := (Stp.elim (fun a' : Unit => some (Sum.inl (s_HalvesOk_L0_mk v0 (v1 + 1)))) (fun w => some (Sum.inr ((fun p : Unit => Sum.inl (s_HalvesOk_L0_mx0 v0 false)) w))))) (fun c4 hc4 => bifT (f := (Stp.elim (fun a' : Unit => some (Sum.inl (s_HalvesOk_L0_mk v0 (v1 + 1)))) (fun w => some (Sum.inr ((fun p : Unit => Sum.inl (s_HalvesOk_L0_mx0 v0 false)) w))))) (fun b3 => rfl)
      (fun b3 => letT (f := (Stp.elim (fun a' : Unit => some (Sum.inl (s_HalvesOk_L0_mk v0 (v1 + 1)))) (fun w => some (Sum.inr ((fun p : Unit => Sum.inl (s_HalvesOk_L0_mx0 v0 false)) w))))) (fun c5 hc5 => bifT (f := (Stp.elim (fun a' : Unit => some (Sum.inl (s_HalvesOk_L0_mk v0 (v1 + 1)))) (fun w => some (Sum.inr ((fun p : Unit => Sum.inl (s_HalvesOk_L0_mx0 v0 false)) w))))) (fun b4 => rfl)
      (fun b4 => letT (f := (Stp.elim (fun a' : Unit => some (Sum.inl (s_HalvesOk_L0_mk v0 (v1 + 1)))) (fun w => some (Sum.inr ((fun p : Unit => Sum.inl (s_HalvesOk_L0_mx0 v0 false)) w))))) (fun c6 hc6 => bifT (f := (Stp.elim (fun a' : Unit => some (Sum.inl (s_HalvesOk_L0_mk v0 (v1 + 1)))) (fun w => some (Sum.inr ((fun p : Unit => Sum.inl (s_HalvesOk_L0_mx0 v0 false)) w))))) (fun b5 => rfl)
      (fun b5 => bifG (by (try simp only [Nat.ble_eq, Bool.and_eq_true, decide_eq_true_eq]); grind [maxSl, maxStr, toBytes_length, toInts_length, List.length_set, wrap64]) (letT (f := (Stp.elim (fun a' : Unit => some (Sum.inl (s_HalvesOk_L0_mk v0 (v1 + 1)))) (fun w => some (Sum.inr ((fun p : Unit => Sum.inl (s_HalvesOk_L0_mx0 v0 false)) w))))) (fun c7 hc7 => bifT (f := (Stp.elim (fun a' : Unit => some (Sum.inl (s_HalvesOk_L0_mk v0 (v1 + 1)))) (fun w => some (Sum.inr ((fun p : Unit => Sum.inl (s_HalvesOk_L0_mx0 v0 false)) w))))) (fun b6 => rfl)
      (fun b6 => (by exact congrArg (fun z => some (Sum.inl (s_HalvesOk_L0_mk v0 z))) hw))))))))))))))))))
theorem s_HalvesOk_L0_cl (v0 : List Half) (v1 : Int) (h0 : 0 ≤ v1) (h1 : (v0.length : Int) ≤ 4611686018427387904) : loopF s_HalvesOk_L0_r.step (s_HalvesOk_L0_fu v0 v1) (s_HalvesOk_L0_mk v0 v1) = some (Stp.elim (fun a => (fun i a => Sum.inr (s_HalvesOk_L0_mx1 v0)) (v1 + 1 * (((Int.toNat ((v0.length : Int) - v1)) : Nat) : Int)) a) (fun p : Unit => Sum.inl (s_HalvesOk_L0_mx0 v0 false)) (forN (s_HalvesOk_L0_f v0) 1 (Int.toNat ((v0.length : Int) - v1)) v1 ())) :=
  forN_loop (step := s_HalvesOk_L0_r.step) (mk := fun v1 a => s_HalvesOk_L0_mk v0 v1) (f := s_HalvesOk_L0_f v0) (e := (fun i a => Sum.inr (s_HalvesOk_L0_mx1 v0))) (emb := (fun p : Unit => Sum.inl (s_HalvesOk_L0_mx0 v0 false))) (st := 1) (Inv := fun v1 a => True) (Int.toNat ((v0.length : Int) - v1)) v1 () _ (Nat.lt_succ_self _) trivial
    (fun j a hj hv => ⟨s_HalvesOk_L0_st v0 (v1 + 1 * (j : Int)) (by omega) (by omega) (by omega), fun _ _ => trivial⟩)
    (fun a hv => by
      show s_HalvesOk_L0_B v0 (v1 + 1 * (((Int.toNat ((v0.length : Int) - v1)) : Nat) : Int)) (Option (s_HalvesOk_L0_sh.T ⊕ WT s_HalvesOk_L0_es)) none (fun v' => some (Sum.inl v')) (fun w => some (Sum.inr w)) = _
      unfold s_HalvesOk_L0_B
      exact bifN (by simp only [decide_eq_false_iff_not]; omega) rfl)
def s_HalvesOk_N (x0 : List Half) (γ : Type) (fail : γ) (k : Bool → γ) : γ :=
  optK (loopF s_HalvesOk_L0_r.step (s_HalvesOk_L0_fu x0 0) (s_HalvesOk_L0_mk x0 0)) fail fun w8 =>
    Sum.elim (fun w8 =>
      k w8.1.2.1.1)
    (fun w8 =>
      k (decide ((w8.1.1.1.length : Int) ≤ 64))) w8
def s_HalvesOk (x0 : List Half) : Bool :=
  Stp.elim (fun a9 =>
    (decide ((x0.length : Int) ≤ 64)))
    (fun p9 =>
      false)
    (forN (s_HalvesOk_L0_f x0) 1 (Int.toNat ((x0.length : Int) - 0)) 0 ())
theorem s_HalvesOk_lk (x0 : List Half) : evalFn te (orcOf (P := Tryz.prog) [s_TupleOk_e, s_WordOk_e, s_OptionsOk_e, s_l1In_e, s_FindHalf_e]) (lorcOf [s_HalvesOk_L0_le]) s_HalvesOk_ann Tryz.f27 (pvs [.sc (.sl .half)] (x0, ())) =
  s_HalvesOk_N x0 _ none (fun v => some [(false, [RC.c (.bool v)])]) := by kernel_rfl
theorem s_HalvesOk_p (x0 : List Half) (hx0 : x0.length ≤ 140737488355328)  (γ : Type) (fail : γ) (k : Bool → γ) : s_HalvesOk_N x0 γ fail k = k (s_HalvesOk x0) := by
  unfold s_HalvesOk_N s_HalvesOk
  exact loopT (f := k) (s_HalvesOk_L0_cl x0 0 (by (try simp only [Nat.ble_eq, Bool.and_eq_true, decide_eq_true_eq, s_HalvesOk_L0_mx0, s_HalvesOk_L0_mx1]); grind [maxSl, maxStr, toBytes_length, toInts_length, List.length_set, wrap64]) (by (try simp only [Nat.ble_eq, Bool.and_eq_true, decide_eq_true_eq, s_HalvesOk_L0_mx0, s_HalvesOk_L0_mx1]); grind [maxSl, maxStr, toBytes_length, toInts_length, List.length_set, wrap64])) (fun a9 => rfl)
      (fun p9 => rfl)
theorem s_HalvesOk_c (x0 : List Half)  : Con Tryz.prog 27 (pvs [.sc (.sl .half)] (x0, ())) [rv (.sc .bool) [] (s_HalvesOk x0)] := by
  refine Con.of_facts (enters_of Tryz.func27 rfl (by kernel_rfl)) fun hf => ?_
  replace hf := factAt hf
  exact evalFn_conL teFact mixFact (orcOf_ok _) Tryz.func27 (by kernel_rfl) (bs := [0]) (by kernel_rfl) (by kernel_rfl) (fun w0 mo I0 hmo => ⟨lsem_of_lorc (s_HalvesOk_L0_ls w0 mo I0 hmo) (by kernel_rfl), trivial⟩) ((s_HalvesOk_lk x0).trans (s_HalvesOk_p x0 ((hf 0 0 rfl rfl).len) _ _ _))
noncomputable def s_HalvesOk_e : Ent1 Tryz.prog := entA 27 [.sc (.sl .half)] (fun x => (s_HalvesOk x.1)) (fun v => [rv (.sc .bool) [] v]) (fun x => s_HalvesOk_c x.1)


/-- laws.toHalfS -/
def w_toHalfS_ann : List (Nat × Keep) := [(0, ⟨[0, 3, 4], [], false, 0⟩)]
def w_toHalfS_L0_sh : Sh := ⟨[(0, false, [.sl .arg .half]), (3, false, [.own 0]), (4, false, [.int .i64])], [.arr .half false true]⟩
def w_toHalfS_L0_es : List (Ex × Sh) := [(.exit 0, ⟨[(2, false, [.undef]), (3, false, [.own 0])], [.arr .half false true]⟩)]
def w_toHalfS_L0_mk (v0 : List Half) (v1 : Int) (v2 : List Half) : w_toHalfS_L0_sh.T := (((v0, ()), (((), ()), ((v1, ()), ()))), (v2, ()))
def w_toHalfS_L0_mx0 (y0 : List Half) : Sh.T ⟨[(2, false, [.undef]), (3, false, [.own 0])], [.arr .half false true]⟩ := ((((), ()), (((), ()), ())), (y0, ()))
def w_toHalfS_L0_B (v0 : List Half) (v1 : Int) (v2 : List Half) (γ : Type) (fail : γ) (next : w_toHalfS_L0_sh.T → γ) (out : WT w_toHalfS_L0_es → γ) : γ :=
  bif (decide (v1 < (v0.length : Int))) then
    bif ((decide (0 ≤ v1)) && (decide (v1 < (v0.length : Int)))) then
    letK (α := Half) (w_toHalf (v0.getD v1.toNat (Ty.zero .half))) fun c2 =>
    bif ((decide (0 ≤ v1)) && (decide (v1 < (v2.length : Int)))) then
    next (w_toHalfS_L0_mk v0 (IntKind.wrap .i64 (v1 + 1)) (v2.set v1.toNat c2))
    else fail
    else fail
  else
  out (w_toHalfS_L0_mx0 v2)
theorem w_toHalfS_L0_par (v0 : List Half) (v1 : Int) (v2 : List Half) (γ : Type) (fail : γ) (next : w_toHalfS_L0_sh.T → γ) (out : WT w_toHalfS_L0_es → γ) : w_toHalfS_L0_B v0 v1 v2 γ fail next out = optK (w_toHalfS_L0_B v0 v1 v2 _ none (fun v' => some (.inl v')) (fun w => some (.inr w))) fail (fun r => Sum.elim next out r) := by
  unfold w_toHalfS_L0_B
  exact bifT (f := (fun o => optK o fail (fun r => Sum.elim next out r))) (fun _ => bifT (f := (fun o => optK o fail (fun r => Sum.elim next out r))) (fun _ => letT (f := (fun o => optK o fail (fun r => Sum.elim next out r))) (fun c2 _ => bifT (f := (fun o => optK o fail (fun r => Sum.elim next out r))) (fun _ => rfl) (fun _ => rfl))) (fun _ => rfl))
      (fun _ => rfl)
def w_toHalfS_L0_r : Round w_toHalfS_L0_sh.T (WT w_toHalfS_L0_es) where
  B v γ fail next out := w_toHalfS_L0_B v.1.1.1 v.1.2.2.1.1 v.2.1 γ fail next out
  par v γ fail next out := w_toHalfS_L0_par v.1.1.1 v.1.2.2.1.1 v.2.1 γ fail next out
def w_toHalfS_L0_fu (v0 : List Half) (v1 : Int) (v2 : List Half) : Nat := (Int.toNat ((v0.length : Int) - v1)) + 1
theorem w_toHalfS_L0_lk (v : w_toHalfS_L0_sh.T) (next : St → Option Res) (k : Ex → St → Option Res) : evalK te (orcOf (P := Tryz.prog) [w_toHalf_e]) (lorcOf []) Tryz.f33.ntmps w_toHalfS_ann (nthLoop (bodyOf Tryz.f33) 0 0) 0 (w_toHalfS_L0_sh.enc v) (endK ⟨[0, 3, 4], [], false, 0⟩ ⟨[2, 3], [], false, 0⟩ next k) =
  w_toHalfS_L0_r.B v _ none (fun v' => next (w_toHalfS_L0_sh.enc v')) (fun w => outK w_toHalfS_L0_es k w) := by kernel_rfl
def w_toHalfS_L0_le : LE := leOf 0 w_toHalfS_L0_sh w_toHalfS_L0_es w_toHalfS_L0_r.step (fun v => w_toHalfS_L0_fu v.1.1.1 v.1.2.2.1.1 v.2.1)
theorem w_toHalfS_L0_ls (w0 : World) (mo : Mts) (I0 : Nat → Prop) (hmo : mo.length = 0) : LSem Tryz.prog (Sim w0 mo Tryz.f33.ntmps I0) (fun b s k => match Nat.beq 0 b with | true => w_toHalfS_L0_le.run s k | false => none) 0 (nthLoop (bodyOf Tryz.f33) 0 0) :=
  le_sem hmo (lorc := lorcOf []) (ann := w_toHalfS_ann) (keep := ⟨[0, 3, 4], [], false, 0⟩) (kout := ⟨[2, 3], [], false, 0⟩) teFact mixFact (orcOf_ok _) (by kernel_rfl) (allLoops_of (bs := []) (by kernel_rfl) trivial) w_toHalfS_L0_r _ w_toHalfS_L0_lk
def w_toHalfS_L0_f (v0 : List Half) (v1 : Int) (a : List Half) : Stp (List Half) (Empty) :=
  letK (α := Half) (w_toHalf (v0.getD v1.toNat (Ty.zero .half))) fun c2 =>
  .next (a.set v1.toNat c2)
theorem w_toHalfS_L0_st (v0 : List Half) (v1 : Int) (v2 : List Half) (hlo : 0 ≤ v1) (hhi : v1 < (v0.length : Int)) (hN : (v0.length : Int) ≤ 4611686018427387904) (hinv : (v0.length : Int) ≤ (v2.length : Int)) : w_toHalfS_L0_r.step (w_toHalfS_L0_mk v0 v1 v2) = Stp.elim (fun a' : List Half => some (Sum.inl (w_toHalfS_L0_mk v0 (v1 + 1) a'))) (fun w => some (Sum.inr ((fun p : Empty => nomatch p) w))) (w_toHalfS_L0_f v0 v1 v2) := by
  have hw : (IntKind.wrap .i64 (v1 + 1)) = v1 + 1 := wrap64 (by omega) (by omega)
  show w_toHalfS_L0_B v0 v1 v2 (Option (w_toHalfS_L0_sh.T ⊕ WT w_toHalfS_L0_es)) none (fun v' => some (Sum.inl v')) (fun w => some (Sum.inr w)) = _
  unfold w_toHalfS_L0_B w_toHalfS_L0_f
  exact bifG (by simp only [decide_eq_true_eq]; omega) (bifG (by (try simp only [Nat.ble_eq, Bool.and_eq_true, decide_eq_true_eq]); grind [maxSl, maxStr, toBytes_length, toInts_length, List.length_set, wrap64]) (letT (f := (Stp.elim (fun a' : List Half => some (Sum.inl (w_toHalfS_L0_mk v0 (v1 + 1) a'))) (fun w => some (Sum.inr ((fun p : Empty => nomatch p) w))))) (fun c2 hc2 => bifG (by (try simp only [Nat.ble_eq, Bool.and_eq_true, decide_eq_true_eq]); grind [maxSl, maxStr, toBytes_length, toInts_length, List.length_set, wrap64]) ((by exact congrArg (fun z => some (Sum.inl (w_toHalfS_L0_mk v0 z (v2.set v1.toNat c2)))) hw)))))
theorem w_toHalfS_L0_cl (v0 : List Half) (v1 : Int) (v2 : List Half) (h0 : 0 ≤ v1) (h1 : (v0.length : Int) ≤ 4611686018427387904) (h2 : (v0.length : Int) ≤ (v2.length : Int)) : loopF w_toHalfS_L0_r.step (w_toHalfS_L0_fu v0 v1 v2) (w_toHalfS_L0_mk v0 v1 v2) = some (Stp.elim (fun a => (fun i a => w_toHalfS_L0_mx0 a) (v1 + 1 * (((Int.toNat ((v0.length : Int) - v1)) : Nat) : Int)) a) (fun p : Empty => nomatch p) (forN (w_toHalfS_L0_f v0) 1 (Int.toNat ((v0.length : Int) - v1)) v1 v2)) :=
  forN_loop (step := w_toHalfS_L0_r.step) (mk := fun v1 a => w_toHalfS_L0_mk v0 v1 a) (f := w_toHalfS_L0_f v0) (e := (fun i a => w_toHalfS_L0_mx0 a)) (emb := (fun p : Empty => nomatch p)) (st := 1) (Inv := fun v1 a => (v0.length : Int) ≤ (a.length : Int)) (Int.toNat ((v0.length : Int) - v1)) v1 v2 _ (Nat.lt_succ_self _) h2
    (fun j a hj hv => ⟨w_toHalfS_L0_st v0 (v1 + 1 * (j : Int)) a (by omega) (by omega) (by omega) hv, by
      intro a' he
      grind [w_toHalfS_L0_f, letK, Stp.elim, wrap64, List.length_set]⟩)
    (fun a hv => by
      show w_toHalfS_L0_B v0 (v1 + 1 * (((Int.toNat ((v0.length : Int) - v1)) : Nat) : Int)) a (Option (w_toHalfS_L0_sh.T ⊕ WT w_toHalfS_L0_es)) none (fun v' => some (Sum.inl v')) (fun w => some (Sum.inr w)) = _
      unfold w_toHalfS_L0_B
      exact bifN (by simp only [decide_eq_false_iff_not]; omega) rfl)
theorem w_toHalfS_L0_nx (v0 : List Half) (v1 : Int) (v2 : List Half) (h0 : 0 ≤ v1) (h1 : (v0.length : Int) ≤ 4611686018427387904) (h2 : (v0.length : Int) ≤ (v2.length : Int)) : ∀ a', forN (w_toHalfS_L0_f v0) 1 (Int.toNat ((v0.length : Int) - v1)) v1 v2 = .next a' → (v0.length : Int) ≤ (a'.length : Int) :=
  forN_inv (f := w_toHalfS_L0_f v0) (st := 1) (Inv := fun v1 a => (v0.length : Int) ≤ (a.length : Int)) (Int.toNat ((v0.length : Int) - v1)) v1 v2 h2
    (fun j a hj hv => by
      intro a' he
      grind [w_toHalfS_L0_f, letK, Stp.elim, wrap64, List.length_set])
def w_toHalfS_N (x0 : List Half) (γ : Type) (fail : γ) (k : List Half → γ) : γ :=
  bif ((((decide (0 ≤ (x0.length : Int))) && (decide ((x0.length : Int) = (x0.length : Int)))) && (decide ((x0.length : Int) * 96 ≤ (maxSl : Int)))) && (decide ((x0.length : Int) ≤ (maxSl : Int)))) then
  letK (α := List Half) (List.replicate ((x0.length : Int).toNat) (⟨⟨0, 0, 0⟩, 0, 0, ⟨0, 0, false, false, 0, 0⟩, 0, 0⟩ : Half)) fun l1 =>
  optK (loopF w_toHalfS_L0_r.step (w_toHalfS_L0_fu x0 0 l1) (w_toHalfS_L0_mk x0 0 l1)) fail fun w3 =>
    k w3.2.1
  else fail
def w_toHalfS (x0 : List Half) : List Half :=
  letK (α := List Half) (List.replicate ((x0.length : Int).toNat) (⟨⟨0, 0, 0⟩, 0, 0, ⟨0, 0, false, false, 0, 0⟩, 0, 0⟩ : Half)) fun l1 =>
  Stp.elim (fun a4 =>
    a4)
    (fun p : Empty => nomatch p)
    (forN (w_toHalfS_L0_f x0) 1 (Int.toNat ((x0.length : Int) - 0)) 0 l1)
theorem w_toHalfS_lk (x0 : List Half) : evalFn te (orcOf (P := Tryz.prog) [w_toHalf_e]) (lorcOf [w_toHalfS_L0_le]) w_toHalfS_ann Tryz.f33 (pvs [.sc (.sl .half)] (x0, ())) =
  w_toHalfS_N x0 _ none (fun v => some [(false, [RC.own true .half v])]) := by kernel_rfl
theorem w_toHalfS_p (x0 : List Half) (hx0 : x0.length ≤ 140737488355328) (hp : x0.length ≤ 4294967296) (γ : Type) (fail : γ) (k : List Half → γ) : w_toHalfS_N x0 γ fail k = k (w_toHalfS x0) := by
  unfold w_toHalfS_N w_toHalfS
  exact bifG (by (try simp only [Nat.ble_eq, Bool.and_eq_true, decide_eq_true_eq, w_toHalfS_L0_mx0]); grind [maxSl, maxStr, toBytes_length, toInts_length, List.length_set, wrap64]) (letT (f := k) (fun l1 hl1 => loopX (f := k) (w_toHalfS_L0_cl x0 0 l1 (by (try simp only [Nat.ble_eq, Bool.and_eq_true, decide_eq_true_eq, w_toHalfS_L0_mx0]); grind [maxSl, maxStr, toBytes_length, toInts_length, List.length_set, wrap64]) (by (try simp only [Nat.ble_eq, Bool.and_eq_true, decide_eq_true_eq, w_toHalfS_L0_mx0]); grind [maxSl, maxStr, toBytes_length, toInts_length, List.length_set, wrap64]) (by (try simp only [Nat.ble_eq, Bool.and_eq_true, decide_eq_true_eq, w_toHalfS_L0_mx0]); grind [maxSl, maxStr, toBytes_length, toInts_length, List.length_set, wrap64])) (fun a4 ha4 => have ia4 := w_toHalfS_L0_nx x0 0 l1 (by (try simp only [Nat.ble_eq, Bool.and_eq_true, decide_eq_true_eq, w_toHalfS_L0_mx0]); grind [maxSl, maxStr, toBytes_length, toInts_length, List.length_set, wrap64]) (by (try simp only [Nat.ble_eq, Bool.and_eq_true, decide_eq_true_eq, w_toHalfS_L0_mx0]); grind [maxSl, maxStr, toBytes_length, toInts_length, List.length_set, wrap64]) (by (try simp only [Nat.ble_eq, Bool.and_eq_true, decide_eq_true_eq, w_toHalfS_L0_mx0]); grind [maxSl, maxStr, toBytes_length, toInts_length, List.length_set, wrap64]) _ ha4; rfl)
      (fun p : Empty => nomatch p)))
theorem w_toHalfS_c (x0 : List Half) (hp : x0.length ≤ 4294967296) : Con Tryz.prog 33 (pvs [.sc (.sl .half)] (x0, ())) [rv (.sc (.sl .half)) [.o true] (w_toHalfS x0)] := by
  refine Con.of_facts (enters_of Tryz.func33 rfl (by kernel_rfl)) fun hf => ?_
  replace hf := factAt hf
  exact evalFn_conL teFact mixFact (orcOf_ok _) Tryz.func33 (by kernel_rfl) (bs := [0]) (by kernel_rfl) (by kernel_rfl) (fun w0 mo I0 hmo => ⟨lsem_of_lorc (w_toHalfS_L0_ls w0 mo I0 hmo) (by kernel_rfl), trivial⟩) ((w_toHalfS_lk x0).trans (w_toHalfS_p x0 ((hf 0 0 rfl rfl).len) hp _ _ _))
noncomputable def w_toHalfS_e : Ent1 Tryz.prog := entP 33 [.sc (.sl .half)] (fun x => (decide (x.1.length ≤ 4294967296))) (fun x => (w_toHalfS x.1)) (fun v => [rv (.sc (.sl .half)) [.o true] v]) (fun x hx => w_toHalfS_c x.1 (of_decide_eq_true hx))


/-- laws.eqHalfS -/
def w_eqHalfS_ann : List (Nat × Keep) := [(0, ⟨[0, 1, 5], [], false, 0⟩)]
def w_eqHalfS_L0_sh : Sh := ⟨[(0, false, [.sl .arg .half]), (1, false, [.sl .arg .half]), (5, false, [.int .i64])], []⟩
def w_eqHalfS_L0_es : List (Ex × Sh) := [(.ret, ⟨[(4, false, [.bool])], []⟩), (.exit 0, ⟨[(4, false, [.undef])], []⟩)]
def w_eqHalfS_L0_mk (v0 : List Half) (v1 : List Half) (v2 : Int) : w_eqHalfS_L0_sh.T := (((v0, ()), ((v1, ()), ((v2, ()), ()))), ())
def w_eqHalfS_L0_mx0 (y0 : Bool) : Sh.T ⟨[(4, false, [.bool])], []⟩ := (((y0, ()), ()), ())
def w_eqHalfS_L0_mx1  : Sh.T ⟨[(4, false, [.undef])], []⟩ := ((((), ()), ()), ())
def w_eqHalfS_L0_B (v0 : List Half) (v1 : List Half) (v2 : Int) (γ : Type) (fail : γ) (next : w_eqHalfS_L0_sh.T → γ) (out : WT w_eqHalfS_L0_es → γ) : γ :=
  bif (decide (v2 < (v0.length : Int))) then
    bif ((decide (0 ≤ v2)) && (decide (v2 < (v0.length : Int)))) then
    bif ((decide (0 ≤ v2)) && (decide (v2 < (v1.length : Int)))) then
    letK (α := Bool) (w_eqHalf (v0.getD v2.toNat (Ty.zero .half)) (v1.getD v2.toNat (Ty.zero .half))) fun c1 =>
    bif (!c1) then
      out (Sum.inl (w_eqHalfS_L0_mx0 false))
    else
    next (w_eqHalfS_L0_mk v0 v1 (IntKind.wrap .i64 (v2 + 1)))
    else fail
    else fail
  else
  out (Sum.inr (w_eqHalfS_L0_mx1 ))
theorem w_eqHalfS_L0_par (v0 : List Half) (v1 : List Half) (v2 : Int) (γ : Type) (fail : γ) (next : w_eqHalfS_L0_sh.T → γ) (out : WT w_eqHalfS_L0_es → γ) : w_eqHalfS_L0_B v0 v1 v2 γ fail next out = optK (w_eqHalfS_L0_B v0 v1 v2 _ none (fun v' => some (.inl v')) (fun w => some (.inr w))) fail (fun r => Sum.elim next out r) := by
  unfold w_eqHalfS_L0_B
  exact bifT (f := (fun o => optK o fail (fun r => Sum.elim next out r))) (fun _ => bifT (f := (fun o => optK o fail (fun r => Sum.elim next out r))) (fun _ => bifT (f := (fun o => optK o fail (fun r => Sum.elim next out r))) (fun _ => letT (f := (fun o => optK o fail (fun r => Sum.elim next out r))) (fun c1 _ => bifT (f := (fun o => optK o fail (fun r => Sum.elim next out r))) (fun _ => rfl)
      (fun _ => rfl))) (fun _ => rfl)) (fun _ => rfl))
      (fun _ => rfl)
def w_eqHalfS_L0_r : Round w_eqHalfS_L0_sh.T (WT w_eqHalfS_L0_es) where
  B v γ fail next out := w_eqHalfS_L0_B v.1.1.1 v.1.2.1.1 v.1.2.2.1.1 γ fail next out
  par v γ fail next out := w_eqHalfS_L0_par v.1.1.1 v.1.2.1.1 v.1.2.2.1.1 γ fail next out
def w_eqHalfS_L0_fu (v0 : List Half) (v1 : List Half) (v2 : Int) : Nat := (Int.toNat ((v0.length : Int) - v2)) + 1
theorem w_eqHalfS_L0_lk (v : w_eqHalfS_L0_sh.T) (next : St → Option Res) (k : Ex → St → Option Res) : evalK te (orcOf (P := Tryz.prog) [w_eqHalf_e]) (lorcOf []) Tryz.f47.ntmps w_eqHalfS_ann (nthLoop (bodyOf Tryz.f47) 0 0) 0 (w_eqHalfS_L0_sh.enc v) (endK ⟨[0, 1, 5], [], false, 0⟩ ⟨[4], [], false, 0⟩ next k) =
  w_eqHalfS_L0_r.B v _ none (fun v' => next (w_eqHalfS_L0_sh.enc v')) (fun w => outK w_eqHalfS_L0_es k w) := by kernel_rfl
def w_eqHalfS_L0_le : LE := leOf 0 w_eqHalfS_L0_sh w_eqHalfS_L0_es w_eqHalfS_L0_r.step (fun v => w_eqHalfS_L0_fu v.1.1.1 v.1.2.1.1 v.1.2.2.1.1)
theorem w_eqHalfS_L0_ls (w0 : World) (mo : Mts) (I0 : Nat → Prop) (hmo : mo.length = 0) : LSem Tryz.prog (Sim w0 mo Tryz.f47.ntmps I0) (fun b s k => match Nat.beq 0 b with | true => w_eqHalfS_L0_le.run s k | false => none) 0 (nthLoop (bodyOf Tryz.f47) 0 0) :=
  le_sem hmo (lorc := lorcOf []) (ann := w_eqHalfS_ann) (keep := ⟨[0, 1, 5], [], false, 0⟩) (kout := ⟨[4], [], false, 0⟩) teFact mixFact (orcOf_ok _) (by kernel_rfl) (allLoops_of (bs := []) (by kernel_rfl) trivial) w_eqHalfS_L0_r _ w_eqHalfS_L0_lk
def w_eqHalfS_L0_f (v0 : List Half) (v1 : List Half) (v2 : Int) (a : Unit) : Stp (Unit) ((Unit)) :=
  letK (α := Bool) (w_eqHalf (v0.getD v2.toNat (Ty.zero .half)) (v1.getD v2.toNat (Ty.zero .half))) fun c1 =>
  bif (!c1) then
    .out (())
  else
  .next ()
theorem w_eqHalfS_L0_st (v0 : List Half) (v1 : List Half) (v2 : Int) (hlo : 0 ≤ v2) (hhi : v2 < (v0.length : Int)) (hN : (v0.length : Int) ≤ 4611686018427387904) (hi0 : (v0.length : Int) ≤ (v1.length : Int)) : w_eqHalfS_L0_r.step (w_eqHalfS_L0_mk v0 v1 v2) = Stp.elim (fun a' : Unit => some (Sum.inl (w_eqHalfS_L0_mk v0 v1 (v2 + 1)))) (fun w => some (Sum.inr ((fun p : Unit => Sum.inl (w_eqHalfS_L0_mx0 false)) w))) (w_eqHalfS_L0_f v0 v1 v2 ()) := by
  have hw : (IntKind.wrap .i64 (v2 + 1)) = v2 + 1 := wrap64 (by omega) (by omega)
  show w_eqHalfS_L0_B v0 v1 v2 (Option (w_eqHalfS_L0_sh.T ⊕ WT w_eqHalfS_L0_es)) none (fun v' => some (Sum.inl v')) (fun w => some (Sum.inr w)) = _
  unfold w_eqHalfS_L0_B w_eqHalfS_L0_f
  exact bifG (by simp only [decide_eq_true_eq]; omega) (bifG (by (try simp only [Nat.ble_eq, Bool.and_eq_true, decide_eq_true_eq]); grind [maxSl, maxStr, toBytes_length, toInts_length, List.length_set, wrap64]) (bifG (by (try simp only [Nat.ble_eq, Bool.and_eq_true, decide_eq_true_eq]); grind [maxSl, maxStr, toBytes_length, toInts_length, List.length_set, wrap64]) (letT (f := (Stp.elim (fun a' : Unit => some (Sum.inl (w_eqHalfS_L0_mk v0 v1 (v2 + 1)))) (fun w => some (Sum.inr ((fun p : Unit => Sum.inl (w_eqHalfS_L0_mx0 false)) w))))) (fun c1 hc1 => bifT (f := (Stp.elim (fun a' : Unit => some (Sum.inl (w_eqHalfS_L0_mk v0 v1 (v2 + 1)))) (fun w => some (Sum.inr ((fun p : Unit => Sum.inl (w_eqHalfS_L0_mx0 false)) w))))) (fun b0 => rfl)
      (fun b0 => (by exact congrArg (fun z => some (Sum.inl (w_eqHalfS_L0_mk v0 v1 z))) hw))))))
theorem w_eqHalfS_L0_cl (v0 : List Half) (v1 : List Half) (v2 : Int) (h0 : 0 ≤ v2) (h1 : (v0.length : Int) ≤ 4611686018427387904) (h2 : (v0.length : Int) ≤ (v1.length : Int)) : loopF w_eqHalfS_L0_r.step (w_eqHalfS_L0_fu v0 v1 v2) (w_eqHalfS_L0_mk v0 v1 v2) = some (Stp.elim (fun a => (fun i a => Sum.inr (w_eqHalfS_L0_mx1 )) (v2 + 1 * (((Int.toNat ((v0.length : Int) - v2)) : Nat) : Int)) a) (fun p : Unit => Sum.inl (w_eqHalfS_L0_mx0 false)) (forN (w_eqHalfS_L0_f v0 v1) 1 (Int.toNat ((v0.length : Int) - v2)) v2 ())) :=
  forN_loop (step := w_eqHalfS_L0_r.step) (mk := fun v2 a => w_eqHalfS_L0_mk v0 v1 v2) (f := w_eqHalfS_L0_f v0 v1) (e := (fun i a => Sum.inr (w_eqHalfS_L0_mx1 ))) (emb := (fun p : Unit => Sum.inl (w_eqHalfS_L0_mx0 false))) (st := 1) (Inv := fun v2 a => True) (Int.toNat ((v0.length : Int) - v2)) v2 () _ (Nat.lt_succ_self _) trivial
    (fun j a hj hv => ⟨w_eqHalfS_L0_st v0 v1 (v2 + 1 * (j : Int)) (by omega) (by omega) (by omega) h2, fun _ _ => trivial⟩)
    (fun a hv => by
      show w_eqHalfS_L0_B v0 v1 (v2 + 1 * (((Int.toNat ((v0.length : Int) - v2)) : Nat) : Int)) (Option (w_eqHalfS_L0_sh.T ⊕ WT w_eqHalfS_L0_es)) none (fun v' => some (Sum.inl v')) (fun w => some (Sum.inr w)) = _
      unfold w_eqHalfS_L0_B
      exact bifN (by simp only [decide_eq_false_iff_not]; omega) rfl)
def w_eqHalfS_N (x0 : List Half) (x1 : List Half) (γ : Type) (fail : γ) (k : Bool → γ) : γ :=
  bif ((x0.length : Int) != (x1.length : Int)) then
    k false
  else
  optK (loopF w_eqHalfS_L0_r.step (w_eqHalfS_L0_fu x0 x1 0) (w_eqHalfS_L0_mk x0 x1 0)) fail fun w2 =>
    Sum.elim (fun w2 =>
      k w2.1.1.1)
    (fun w2 =>
      k true) w2
def w_eqHalfS (x0 : List Half) (x1 : List Half) : Bool :=
  bif ((x0.length : Int) != (x1.length : Int)) then
    false
  else
  Stp.elim (fun a3 =>
    true)
    (fun p3 =>
      false)
    (forN (w_eqHalfS_L0_f x0 x1) 1 (Int.toNat ((x0.length : Int) - 0)) 0 ())
theorem w_eqHalfS_lk (x0 : List Half) (x1 : List Half) : evalFn te (orcOf (P := Tryz.prog) [w_eqHalf_e]) (lorcOf [w_eqHalfS_L0_le]) w_eqHalfS_ann Tryz.f47 (pvs [.sc (.sl .half), .sc (.sl .half)] (x0, x1, ())) =
  w_eqHalfS_N x0 x1 _ none (fun v => some [(false, [RC.c (.bool v)])]) := by kernel_rfl
theorem w_eqHalfS_p (x0 : List Half) (x1 : List Half) (hx0 : x0.length ≤ 140737488355328) (hx1 : x1.length ≤ 140737488355328)  (γ : Type) (fail : γ) (k : Bool → γ) : w_eqHalfS_N x0 x1 γ fail k = k (w_eqHalfS x0 x1) := by
  unfold w_eqHalfS_N w_eqHalfS
  exact bifT (f := k) (fun b0 => rfl)
      (fun b0 => loopT (f := k) (w_eqHalfS_L0_cl x0 x1 0 (by (try simp only [Nat.ble_eq, Bool.and_eq_true, decide_eq_true_eq, w_eqHalfS_L0_mx0, w_eqHalfS_L0_mx1]); grind [maxSl, maxStr, toBytes_length, toInts_length, List.length_set, wrap64]) (by (try simp only [Nat.ble_eq, Bool.and_eq_true, decide_eq_true_eq, w_eqHalfS_L0_mx0, w_eqHalfS_L0_mx1]); grind [maxSl, maxStr, toBytes_length, toInts_length, List.length_set, wrap64]) (by (try simp only [Nat.ble_eq, Bool.and_eq_true, decide_eq_true_eq, w_eqHalfS_L0_mx0, w_eqHalfS_L0_mx1]); grind [maxSl, maxStr, toBytes_length, toInts_length, List.length_set, wrap64])) (fun a3 => rfl)
      (fun p3 => rfl))
theorem w_eqHalfS_c (x0 : List Half) (x1 : List Half)  : Con Tryz.prog 47 (pvs [.sc (.sl .half), .sc (.sl .half)] (x0, x1, ())) [rv (.sc .bool) [] (w_eqHalfS x0 x1)] := by
  refine Con.of_facts (enters_of Tryz.func47 rfl (by kernel_rfl)) fun hf => ?_
  replace hf := factAt hf
  exact evalFn_conL teFact mixFact (orcOf_ok _) Tryz.func47 (by kernel_rfl) (bs := [0]) (by kernel_rfl) (by kernel_rfl) (fun w0 mo I0 hmo => ⟨lsem_of_lorc (w_eqHalfS_L0_ls w0 mo I0 hmo) (by kernel_rfl), trivial⟩) ((w_eqHalfS_lk x0 x1).trans (w_eqHalfS_p x0 x1 ((hf 0 0 rfl rfl).len) ((hf 1 0 rfl rfl).len) _ _ _))
noncomputable def w_eqHalfS_e : Ent1 Tryz.prog := entA 47 [.sc (.sl .half), .sc (.sl .half)] (fun x => (w_eqHalfS x.1 x.2.1)) (fun v => [rv (.sc .bool) [] v]) (fun x => w_eqHalfS_c x.1 x.2.1)


/-- laws.toMac -/
def w_toMac_N (x0 : Mac) (γ : Type) (fail : γ) (k : Mac → γ) : γ :=
  bif (decide (x0.rows.length ≤ 4294967296)) then
  letK (α := List MacRow) (w_toMacRowS x0.rows) fun c1 =>
  k ({ x0 with rows := c1 } : Mac)
  else fail
def w_toMac (x0 : Mac) : Mac :=
  letK (α := List MacRow) (w_toMacRowS x0.rows) fun c1 =>
  ({ x0 with rows := c1 } : Mac)
theorem w_toMac_lk (x0 : Mac) : evalFn te (orcOf (P := Tryz.prog) [w_toMacRowS_e]) lorc0 [] Tryz.f62 (pvs [.st .mac] (x0, ())) =
  w_toMac_N x0 _ none (fun v => some [(true, [RC.c (.bool v.use), RC.c (.int .u64 v.k), RC.c (.int .u64 v.l), RC.own true .macRow v.rows])]) := by kernel_rfl
theorem w_toMac_p (x0 : Mac) (hx0_k : inK .u64 x0.k) (hx0_l : inK .u64 x0.l) (hx0_rows : x0.rows.length ≤ 140737488355328) (hx0_rows_e : ∀ y ∈ x0.rows, ∀ c ∈ Ty.cells .macRow y, FactC c) (hp : x0.rows.length ≤ 4294967296) (γ : Type) (fail : γ) (k : Mac → γ) : w_toMac_N x0 γ fail k = k (w_toMac x0) := by
  unfold w_toMac_N w_toMac
  exact bifG (by (try simp only [Nat.ble_eq, Bool.and_eq_true, decide_eq_true_eq]); grind [maxSl, maxStr, toBytes_length, toInts_length, List.length_set, wrap64]) (letT (f := k) (fun c1 hc1 => rfl))
theorem w_toMac_c (x0 : Mac) (hp : x0.rows.length ≤ 4294967296) : Con Tryz.prog 62 (pvs [.st .mac] (x0, ())) [rv (.st .mac) [.c, .c, .c, .o true] (w_toMac x0)] := by
  refine Con.of_facts (enters_of Tryz.func62 rfl (by kernel_rfl)) fun hf => ?_
  replace hf := factAt hf
  exact evalFn_con0 teFact mixFact (orcOf_ok _) Tryz.func62 (by kernel_rfl) ((w_toMac_lk x0).trans (w_toMac_p x0 ((hf 0 1 rfl rfl).rng) ((hf 0 2 rfl rfl).rng) ((hf 0 3 rfl rfl).len) (fun y hy => (hf 0 3 rfl rfl).elem hy) hp _ _ _))
noncomputable def w_toMac_e : Ent1 Tryz.prog := entP 62 [.st .mac] (fun x => (decide (x.1.rows.length ≤ 4294967296))) (fun x => (w_toMac x.1)) (fun v => [rv (.st .mac) [.c, .c, .c, .o true] v]) (fun x hx => w_toMac_c x.1 (of_decide_eq_true hx))


/-- impl.ConnOk -/
def i_ConnOk_N (x0 : Conn) (γ : Type) (fail : γ) (k : Bool → γ) : γ :=
  letK (α := Bool) (i_TupleOk x0.tuple) fun c1 =>
  bif (!c1) then
    k false
  else
  letK (α := Bool) (i_SenderOk x0.s) fun c2 =>
  bif (!c2) then
    k false
  else
  letK (α := Bool) (i_ReceiverOk x0.r) fun c3 =>
  bif (!c3) then
    k false
  else
  letK (α := Bool) (i_OptionsOk x0.opts) fun c4 =>
  bif (!c4) then
    k false
  else
  letK (α := Bool) (i_within x0.state 1 8) fun c5 =>
  bif (!c5) then
    k false
  else
  bif (x0.state == 7) then
    letK (α := Bool) (i_within x0.most 0 1073725440) fun c6 =>
    bif (!c6) then
      k false
    else
    letK (α := Bool) (i_within x0.window 0 x0.most) fun c7 =>
    bif (!c7) then
      k false
    else
    letK (α := Bool) (i_within x0.timer 0 4) fun c8 =>
    bif (!c8) then
      k false
    else
    letK (α := Bool) (i_within x0.tries 0 3) fun c9 =>
    bif (!c9) then
      k false
    else
    bif (x0.state == 1) then
      bif (!x0.s.fin) then
        bif (!x0.s.done) then
          k (!x0.r.done)
        else
        k false
      else
      k false
    else
    bif (x0.state == 2) then
      bif x0.s.fin then
        bif (!x0.s.done) then
          k (!x0.r.done)
        else
        k false
      else
      k false
    else
    bif (x0.state == 3) then
      bif x0.s.fin then
        bif x0.s.done then
          k (!x0.r.done)
        else
        k false
      else
      k false
    else
    bif (x0.state == 4) then
      bif (!x0.s.fin) then
        bif (!x0.s.done) then
          k x0.r.done
        else
        k false
      else
      k false
    else
    bif (x0.state == 5) then
      bif (x0.state == 5) then
        bif x0.s.fin then
          bif (!x0.s.done) then
            k x0.r.done
          else
          k false
        else
        k false
      else
      bif (x0.state == 7) then
        bif x0.s.fin then
          bif x0.s.done then
            k x0.r.done
          else
          k false
        else
        k false
      else
      k true
    else
    bif (x0.state == 6) then
      bif x0.s.fin then
        bif (!x0.s.done) then
          k x0.r.done
        else
        k false
      else
      k false
    else
    bif (x0.state == 7) then
      bif x0.s.fin then
        bif x0.s.done then
          k x0.r.done
        else
        k false
      else
      k false
    else
    k true
  else
  letK (α := Bool) (i_within x0.most 0 1073725440) fun c10 =>
  bif (!c10) then
    k false
  else
  letK (α := Bool) (i_within x0.window 0 x0.most) fun c11 =>
  bif (!c11) then
    k false
  else
  letK (α := Bool) (i_within x0.timer 0 3) fun c12 =>
  bif (!c12) then
    k false
  else
  letK (α := Bool) (i_within x0.tries 0 3) fun c13 =>
  bif (!c13) then
    k false
  else
  bif (x0.state == 1) then
    bif (!x0.s.fin) then
      bif (!x0.s.done) then
        k (!x0.r.done)
      else
      k false
    else
    k false
  else
  bif (x0.state == 2) then
    bif x0.s.fin then
      bif (!x0.s.done) then
        k (!x0.r.done)
      else
      k false
    else
    k false
  else
  bif (x0.state == 3) then
    bif x0.s.fin then
      bif x0.s.done then
        k (!x0.r.done)
      else
      k false
    else
    k false
  else
  bif (x0.state == 4) then
    bif (!x0.s.fin) then
      bif (!x0.s.done) then
        k x0.r.done
      else
      k false
    else
    k false
  else
  bif (x0.state == 5) then
    bif (x0.state == 5) then
      bif x0.s.fin then
        bif (!x0.s.done) then
          k x0.r.done
        else
        k false
      else
      k false
    else
    bif (x0.state == 7) then
      bif x0.s.fin then
        bif x0.s.done then
          k x0.r.done
        else
        k false
      else
      k false
    else
    k true
  else
  bif (x0.state == 6) then
    bif x0.s.fin then
      bif (!x0.s.done) then
        k x0.r.done
      else
      k false
    else
    k false
  else
  bif (x0.state == 7) then
    bif x0.s.fin then
      bif x0.s.done then
        k x0.r.done
      else
      k false
    else
    k false
  else
  k true
def i_ConnOk (x0 : Conn) : Bool :=
  letK (α := Bool) (i_TupleOk x0.tuple) fun c1 =>
  bif (!c1) then
    false
  else
  letK (α := Bool) (i_SenderOk x0.s) fun c2 =>
  bif (!c2) then
    false
  else
  letK (α := Bool) (i_ReceiverOk x0.r) fun c3 =>
  bif (!c3) then
    false
  else
  letK (α := Bool) (i_OptionsOk x0.opts) fun c4 =>
  bif (!c4) then
    false
  else
  letK (α := Bool) (i_within x0.state 1 8) fun c5 =>
  bif (!c5) then
    false
  else
  bif (x0.state == 7) then
    letK (α := Bool) (i_within x0.most 0 1073725440) fun c6 =>
    bif (!c6) then
      false
    else
    letK (α := Bool) (i_within x0.window 0 x0.most) fun c7 =>
    bif (!c7) then
      false
    else
    letK (α := Bool) (i_within x0.timer 0 4) fun c8 =>
    bif (!c8) then
      false
    else
    letK (α := Bool) (i_within x0.tries 0 3) fun c9 =>
    bif (!c9) then
      false
    else
    bif (x0.state == 1) then
      bif (!x0.s.fin) then
        bif (!x0.s.done) then
          (!x0.r.done)
        else
        false
      else
      false
    else
    bif (x0.state == 2) then
      bif x0.s.fin then
        bif (!x0.s.done) then
          (!x0.r.done)
        else
        false
      else
      false
    else
    bif (x0.state == 3) then
      bif x0.s.fin then
        bif x0.s.done then
          (!x0.r.done)
        else
        false
      else
      false
    else
    bif (x0.state == 4) then
      bif (!x0.s.fin) then
        bif (!x0.s.done) then
          x0.r.done
        else
        false
      else
      false
    else
    bif (x0.state == 5) then
      bif (x0.state == 5) then
        bif x0.s.fin then
          bif (!x0.s.done) then
            x0.r.done
          else
          false
        else
        false
      else
      bif (x0.state == 7) then
        bif x0.s.fin then
          bif x0.s.done then
            x0.r.done
          else
          false
        else
        false
      else
      true
    else
    bif (x0.state == 6) then
      bif x0.s.fin then
        bif (!x0.s.done) then
          x0.r.done
        else
        false
      else
      false
    else
    bif (x0.state == 7) then
      bif x0.s.fin then
        bif x0.s.done then
          x0.r.done
        else
        false
      else
      false
    else
    true
  else
  letK (α := Bool) (i_within x0.most 0 1073725440) fun c10 =>
  bif (!c10) then
    false
  else
  letK (α := Bool) (i_within x0.window 0 x0.most) fun c11 =>
  bif (!c11) then
    false
  else
  letK (α := Bool) (i_within x0.timer 0 3) fun c12 =>
  bif (!c12) then
    false
  else
  letK (α := Bool) (i_within x0.tries 0 3) fun c13 =>
  bif (!c13) then
    false
  else
  bif (x0.state == 1) then
    bif (!x0.s.fin) then
      bif (!x0.s.done) then
        (!x0.r.done)
      else
      false
    else
    false
  else
  bif (x0.state == 2) then
    bif x0.s.fin then
      bif (!x0.s.done) then
        (!x0.r.done)
      else
      false
    else
    false
  else
  bif (x0.state == 3) then
    bif x0.s.fin then
      bif x0.s.done then
        (!x0.r.done)
      else
      false
    else
    false
  else
  bif (x0.state == 4) then
    bif (!x0.s.fin) then
      bif (!x0.s.done) then
        x0.r.done
      else
      false
    else
    false
  else
  bif (x0.state == 5) then
    bif (x0.state == 5) then
      bif x0.s.fin then
        bif (!x0.s.done) then
          x0.r.done
        else
        false
      else
      false
    else
    bif (x0.state == 7) then
      bif x0.s.fin then
        bif x0.s.done then
          x0.r.done
        else
        false
      else
      false
    else
    true
  else
  bif (x0.state == 6) then
    bif x0.s.fin then
      bif (!x0.s.done) then
        x0.r.done
      else
      false
    else
    false
  else
  bif (x0.state == 7) then
    bif x0.s.fin then
      bif x0.s.done then
        x0.r.done
      else
      false
    else
    false
  else
  true
theorem i_ConnOk_lk (x0 : Conn) : evalFn te (orcOf (P := Tryz.prog) [i_TupleOk_e, i_SenderOk_e, i_ReceiverOk_e, i_OptionsOk_e, i_within_e]) lorc0 [] Tryz.f70 (pvs [.st .conn] (x0, ())) =
  i_ConnOk_N x0 _ none (fun v => some [(false, [RC.c (.bool v)])]) := by kernel_rfl
theorem i_ConnOk_p (x0 : Conn)   (γ : Type) (fail : γ) (k : Bool → γ) : i_ConnOk_N x0 γ fail k = k (i_ConnOk x0) := by
  unfold i_ConnOk_N i_ConnOk
  exact letT (f := k) (fun c1 hc1 => bifT (f := k) (fun b0 => rfl)
      (fun b0 => letT (f := k) (fun c2 hc2 => bifT (f := k) (fun b1 => rfl)
      (fun b1 => letT (f := k) (fun c3 hc3 => bifT (f := k) (fun b2 => rfl)
      (fun b2 => letT (f := k) (fun c4 hc4 => bifT (f := k) (fun b3 => rfl)
      (fun b3 => letT (f := k) (fun c5 hc5 => bifT (f := k) (fun b4 => rfl)
      (fun b4 => bifT (f := k) (fun b5 => letT (f := k) (fun c6 hc6 => bifT (f := k) (fun b6 => rfl)
      (fun b6 => letT (f := k) (fun c7 hc7 => bifT (f := k) (fun b7 => rfl)
      (fun b7 => letT (f := k) (fun c8 hc8 => bifT (f := k) (fun b8 => rfl)
      (fun b8 => letT (f := k) (fun c9 hc9 => bifT (f := k) (fun b9 => rfl)
      (fun b9 => bifT (f := k) (fun b10 => bifT (f := k) (fun b11 => bifT (f := k) (fun b12 => rfl)
      (fun b12 => rfl))
      (fun b11 => rfl))
      (fun b10 => bifT (f := k) (fun b11 => bifT (f := k) (fun b12 => bifT (f := k) (fun b13 => rfl)
      (fun b13 => rfl))
      (fun b12 => rfl))
      (fun b11 => bifT (f := k) (fun b12 => bifT (f := k) (fun b13 => bifT (f := k) (fun b14 => rfl)
      (fun b14 => rfl))
      (fun b13 => rfl))
      (fun b12 => bifT (f := k) (fun b13 => bifT (f := k) (fun b14 => bifT (f := k) (fun b15 => rfl)
      (fun b15 => rfl))
      (fun b14 => rfl))
      (fun b13 => bifT (f := k) (fun b14 => bifT (f := k) (fun b15 => bifT (f := k) (fun b16 => bifT (f := k) (fun b17 => rfl)
      (fun b17 => rfl))
      (fun b16 => rfl))
      (fun b15 => bifT (f := k) (fun b16 => bifT (f := k) (fun b17 => bifT (f := k) (fun b18 => rfl)
      (fun b18 => rfl))
      (fun b17 => rfl))
      (fun b16 => rfl)))
      (fun b14 => bifT (f := k) (fun b15 => bifT (f := k) (fun b16 => bifT (f := k) (fun b17 => rfl)
      (fun b17 => rfl))
      (fun b16 => rfl))
      (fun b15 => bifT (f := k) (fun b16 => bifT (f := k) (fun b17 => bifT (f := k) (fun b18 => rfl)
      (fun b18 => rfl))
      (fun b17 => rfl))
      (fun b16 => rfl))))))))))))))))
      (fun b5 => letT (f := k) (fun c10 hc10 => bifT (f := k) (fun b6 => rfl)
      (fun b6 => letT (f := k) (fun c11 hc11 => bifT (f := k) (fun b7 => rfl)
      (fun b7 => letT (f := k) (fun c12 hc12 => bifT (f := k) (fun b8 => rfl)
      (fun b8 => letT (f := k) (fun c13 hc13 => bifT (f := k) (fun b9 => rfl)
      (fun b9 => bifT (f := k) (fun b10 => bifT (f := k) (fun b11 => bifT (f := k) (fun b12 => rfl)
      (fun b12 => rfl))
      (fun b11 => rfl))
      (fun b10 => bifT (f := k) (fun b11 => bifT (f := k) (fun b12 => bifT (f := k) (fun b13 => rfl)
      (fun b13 => rfl))
      (fun b12 => rfl))
      (fun b11 => bifT (f := k) (fun b12 => bifT (f := k) (fun b13 => bifT (f := k) (fun b14 => rfl)
      (fun b14 => rfl))
      (fun b13 => rfl))
      (fun b12 => bifT (f := k) (fun b13 => bifT (f := k) (fun b14 => bifT (f := k) (fun b15 => rfl)
      (fun b15 => rfl))
      (fun b14 => rfl))
      (fun b13 => bifT (f := k) (fun b14 => bifT (f := k) (fun b15 => bifT (f := k) (fun b16 => bifT (f := k) (fun b17 => rfl)
      (fun b17 => rfl))
      (fun b16 => rfl))
      (fun b15 => bifT (f := k) (fun b16 => bifT (f := k) (fun b17 => bifT (f := k) (fun b18 => rfl)
      (fun b18 => rfl))
      (fun b17 => rfl))
      (fun b16 => rfl)))
      (fun b14 => bifT (f := k) (fun b15 => bifT (f := k) (fun b16 => bifT (f := k) (fun b17 => rfl)
      (fun b17 => rfl))
      (fun b16 => rfl))
      (fun b15 => bifT (f := k) (fun b16 => bifT (f := k) (fun b17 => bifT (f := k) (fun b18 => rfl)
      (fun b18 => rfl))
      (fun b17 => rfl))
      (fun b16 => rfl))))))))))))))))))))))))))
theorem i_ConnOk_c (x0 : Conn)  : Con Tryz.prog 70 (pvs [.st .conn] (x0, ())) [rv (.sc .bool) [] (i_ConnOk x0)] := by
  exact evalFn_con0 teFact mixFact (orcOf_ok _) Tryz.func70 (by kernel_rfl) ((i_ConnOk_lk x0).trans (i_ConnOk_p x0  _ _ _))
noncomputable def i_ConnOk_e : Ent1 Tryz.prog := entA 70 [.st .conn] (fun x => (i_ConnOk x.1)) (fun v => [rv (.sc .bool) [] v]) (fun x => i_ConnOk_c x.1)


/-- laws.eqMac -/
def w_eqMac_N (x0 : Mac) (x1 : Mac) (γ : Type) (fail : γ) (k : Bool → γ) : γ :=
  bif (!(x0.use == x1.use)) then
    k false
  else
  bif (x0.k != x1.k) then
    k false
  else
  bif (x0.l != x1.l) then
    k false
  else
  letK (α := Bool) (w_eqMacRowS x0.rows x1.rows) fun c1 =>
  bif (!c1) then
    k false
  else
  k true
def w_eqMac (x0 : Mac) (x1 : Mac) : Bool :=
  bif (!(x0.use == x1.use)) then
    false
  else
  bif (x0.k != x1.k) then
    false
  else
  bif (x0.l != x1.l) then
    false
  else
  letK (α := Bool) (w_eqMacRowS x0.rows x1.rows) fun c1 =>
  bif (!c1) then
    false
  else
  true
theorem w_eqMac_lk (x0 : Mac) (x1 : Mac) : evalFn te (orcOf (P := Tryz.prog) [w_eqMacRowS_e]) lorc0 [] Tryz.f79 (pvs [.st .mac, .st .mac] (x0, x1, ())) =
  w_eqMac_N x0 x1 _ none (fun v => some [(false, [RC.c (.bool v)])]) := by kernel_rfl
theorem w_eqMac_p (x0 : Mac) (x1 : Mac)   (γ : Type) (fail : γ) (k : Bool → γ) : w_eqMac_N x0 x1 γ fail k = k (w_eqMac x0 x1) := by
  unfold w_eqMac_N w_eqMac
  exact bifT (f := k) (fun b0 => rfl)
      (fun b0 => bifT (f := k) (fun b1 => rfl)
      (fun b1 => bifT (f := k) (fun b2 => rfl)
      (fun b2 => letT (f := k) (fun c1 hc1 => bifT (f := k) (fun b3 => rfl)
      (fun b3 => rfl)))))
theorem w_eqMac_c (x0 : Mac) (x1 : Mac)  : Con Tryz.prog 79 (pvs [.st .mac, .st .mac] (x0, x1, ())) [rv (.sc .bool) [] (w_eqMac x0 x1)] := by
  exact evalFn_con0 teFact mixFact (orcOf_ok _) Tryz.func79 (by kernel_rfl) ((w_eqMac_lk x0 x1).trans (w_eqMac_p x0 x1  _ _ _))
noncomputable def w_eqMac_e : Ent1 Tryz.prog := entA 79 [.st .mac, .st .mac] (fun x => (w_eqMac x.1 x.2.1)) (fun v => [rv (.sc .bool) [] v]) (fun x => w_eqMac_c x.1 x.2.1)


/-- spec.ReceiverOk -/
def s_ReceiverOk_ann : List (Nat × Keep) := [(0, ⟨[1, 3, 4, 5], [], false, 0⟩)]
def s_ReceiverOk_L0_sh : Sh := ⟨[(1, false, [.ptr 0 0]), (3, false, [.int .i64]), (4, false, [.int .i64]), (5, false, [.int .i64])], [.box [.int .i64, .str, .sl .arg .piec, .int .i64, .bool]]⟩
def s_ReceiverOk_L0_es : List (Ex × Sh) := [(.ret, ⟨[(1, false, [.ptr 0 0]), (2, false, [.bool]), (4, false, [.int .i64])], [.box [.int .i64, .str, .sl .arg .piec, .int .i64, .bool]]⟩), (.exit 0, ⟨[(1, false, [.ptr 0 0]), (2, false, [.undef]), (4, false, [.int .i64])], [.box [.int .i64, .str, .sl .arg .piec, .int .i64, .bool]]⟩)]
def s_ReceiverOk_L0_mk (v0 : Int) (v1 : Int) (v2 : Int) (v3 : Int) (v4 : Bytes) (v5 : List Piec) (v6 : Int) (v7 : Bool) : s_ReceiverOk_L0_sh.T := ((((), ()), ((v0, ()), ((v1, ()), ((v2, ()), ())))), ((v3, (v4, (v5, (v6, (v7, ()))))), ()))
def s_ReceiverOk_L0_mx0 (y0 : Bool) (y1 : Int) (y2 : Int) (y3 : Bytes) (y4 : List Piec) (y5 : Int) (y6 : Bool) : Sh.T ⟨[(1, false, [.ptr 0 0]), (2, false, [.bool]), (4, false, [.int .i64])], [.box [.int .i64, .str, .sl .arg .piec, .int .i64, .bool]]⟩ := ((((), ()), ((y0, ()), ((y1, ()), ()))), ((y2, (y3, (y4, (y5, (y6, ()))))), ()))
def s_ReceiverOk_L0_mx1 (y0 : Int) (y1 : Int) (y2 : Bytes) (y3 : List Piec) (y4 : Int) (y5 : Bool) : Sh.T ⟨[(1, false, [.ptr 0 0]), (2, false, [.undef]), (4, false, [.int .i64])], [.box [.int .i64, .str, .sl .arg .piec, .int .i64, .bool]]⟩ := ((((), ()), (((), ()), ((y0, ()), ()))), ((y1, (y2, (y3, (y4, (y5, ()))))), ()))
def s_ReceiverOk_L0_B (v0 : Int) (v1 : Int) (v2 : Int) (v3 : Int) (v4 : Bytes) (v5 : List Piec) (v6 : Int) (v7 : Bool) (γ : Type) (fail : γ) (next : s_ReceiverOk_L0_sh.T → γ) (out : WT s_ReceiverOk_L0_es → γ) : γ :=
  bif (decide (v2 < (v5.length : Int))) then
    bif ((decide (0 ≤ v2)) && (decide (v2 < (v5.length : Int)))) then
    bif ((v5.getD v2.toNat (Ty.zero .piec)).text == []) then
      out (Sum.inl (s_ReceiverOk_L0_mx0 false v1 v3 v4 v5 v6 v7))
    else
    bif (decide ((v5.getD v2.toNat (Ty.zero .piec)).off ≤ v1)) then
      out (Sum.inl (s_ReceiverOk_L0_mx0 false v1 v3 v4 v5 v6 v7))
    else
    bif (decide (v0 < (v5.getD v2.toNat (Ty.zero .piec)).off)) then
      out (Sum.inl (s_ReceiverOk_L0_mx0 false v1 v3 v4 v5 v6 v7))
    else
    letK (α := Int) (IntKind.wrap .i64 ((v5.getD v2.toNat (Ty.zero .piec)).off + (((v5.getD v2.toNat (Ty.zero .piec)).text).length : Int))) fun e4 =>
    bif (decide (v0 < e4)) then
      out (Sum.inl (s_ReceiverOk_L0_mx0 false v1 v3 v4 v5 v6 v7))
    else
    letK (α := Int) (IntKind.wrap .i64 ((v5.getD v2.toNat (Ty.zero .piec)).off + (((v5.getD v2.toNat (Ty.zero .piec)).text).length : Int))) fun e5 =>
    next (s_ReceiverOk_L0_mk v0 e5 (IntKind.wrap .i64 (v2 + 1)) v3 v4 v5 v6 v7)
    else fail
  else
  out (Sum.inr (s_ReceiverOk_L0_mx1 v1 v3 v4 v5 v6 v7))
theorem s_ReceiverOk_L0_par (v0 : Int) (v1 : Int) (v2 : Int) (v3 : Int) (v4 : Bytes) (v5 : List Piec) (v6 : Int) (v7 : Bool) (γ : Type) (fail : γ) (next : s_ReceiverOk_L0_sh.T → γ) (out : WT s_ReceiverOk_L0_es → γ) : s_ReceiverOk_L0_B v0 v1 v2 v3 v4 v5 v6 v7 γ fail next out = optK (s_ReceiverOk_L0_B v0 v1 v2 v3 v4 v5 v6 v7 _ none (fun v' => some (.inl v')) (fun w => some (.inr w))) fail (fun r => Sum.elim next out r) := by
  unfold s_ReceiverOk_L0_B
  exact bifT (f := (fun o => optK o fail (fun r => Sum.elim next out r))) (fun _ => bifT (f := (fun o => optK o fail (fun r => Sum.elim next out r))) (fun _ => bifT (f := (fun o => optK o fail (fun r => Sum.elim next out r))) (fun _ => rfl)
      (fun _ => bifT (f := (fun o => optK o fail (fun r => Sum.elim next out r))) (fun _ => rfl)
      (fun _ => bifT (f := (fun o => optK o fail (fun r => Sum.elim next out r))) (fun _ => rfl)
      (fun _ => letT (f := (fun o => optK o fail (fun r => Sum.elim next out r))) (fun e4 _ => bifT (f := (fun o => optK o fail (fun r => Sum.elim next out r))) (fun _ => rfl)
      (fun _ => letT (f := (fun o => optK o fail (fun r => Sum.elim next out r))) (fun e5 _ => rfl))))))) (fun _ => rfl))
      (fun _ => rfl)
def s_ReceiverOk_L0_r : Round s_ReceiverOk_L0_sh.T (WT s_ReceiverOk_L0_es) where
  B v γ fail next out := s_ReceiverOk_L0_B v.1.2.1.1 v.1.2.2.1.1 v.1.2.2.2.1.1 v.2.1.1 v.2.1.2.1 v.2.1.2.2.1 v.2.1.2.2.2.1 v.2.1.2.2.2.2.1 γ fail next out
  par v γ fail next out := s_ReceiverOk_L0_par v.1.2.1.1 v.1.2.2.1.1 v.1.2.2.2.1.1 v.2.1.1 v.2.1.2.1 v.2.1.2.2.1 v.2.1.2.2.2.1 v.2.1.2.2.2.2.1 γ fail next out
def s_ReceiverOk_L0_fu (v0 : Int) (v1 : Int) (v2 : Int) (v3 : Int) (v4 : Bytes) (v5 : List Piec) (v6 : Int) (v7 : Bool) : Nat := (Int.toNat ((v5.length : Int) - v2)) + 1
theorem s_ReceiverOk_L0_lk (v : s_ReceiverOk_L0_sh.T) (next : St → Option Res) (k : Ex → St → Option Res) : evalK te (orcOf (P := Tryz.prog) [s_WindowOf_e, s_WordOk_e, s_l1In_e]) (lorcOf []) Tryz.f86.ntmps s_ReceiverOk_ann (nthLoop (bodyOf Tryz.f86) 0 0) 0 (s_ReceiverOk_L0_sh.enc v) (endK ⟨[1, 3, 4, 5], [], false, 0⟩ ⟨[1, 2, 4], [], false, 0⟩ next k) =
  s_ReceiverOk_L0_r.B v _ none (fun v' => next (s_ReceiverOk_L0_sh.enc v')) (fun w => outK s_ReceiverOk_L0_es k w) := by kernel_rfl
def s_ReceiverOk_L0_le : LE := leOf 0 s_ReceiverOk_L0_sh s_ReceiverOk_L0_es s_ReceiverOk_L0_r.step (fun v => s_ReceiverOk_L0_fu v.1.2.1.1 v.1.2.2.1.1 v.1.2.2.2.1.1 v.2.1.1 v.2.1.2.1 v.2.1.2.2.1 v.2.1.2.2.2.1 v.2.1.2.2.2.2.1)
theorem s_ReceiverOk_L0_ls (w0 : World) (mo : Mts) (I0 : Nat → Prop) (hmo : mo.length = 0) : LSem Tryz.prog (Sim w0 mo Tryz.f86.ntmps I0) (fun b s k => match Nat.beq 0 b with | true => s_ReceiverOk_L0_le.run s k | false => none) 0 (nthLoop (bodyOf Tryz.f86) 0 0) :=
  le_sem hmo (lorc := lorcOf []) (ann := s_ReceiverOk_ann) (keep := ⟨[1, 3, 4, 5], [], false, 0⟩) (kout := ⟨[1, 2, 4], [], false, 0⟩) teFact mixFact (orcOf_ok _) (by kernel_rfl) (allLoops_of (bs := []) (by kernel_rfl) trivial) s_ReceiverOk_L0_r _ s_ReceiverOk_L0_lk
def s_ReceiverOk_L0_f (v0 : Int) (v3 : Int) (v4 : Bytes) (v5 : List Piec) (v6 : Int) (v7 : Bool) (v2 : Int) (a : Int) : Stp (Int) ((Int)) :=
  bif ((v5.getD v2.toNat (Ty.zero .piec)).text == []) then
    .out (a)
  else
  bif (decide ((v5.getD v2.toNat (Ty.zero .piec)).off ≤ a)) then
    .out (a)
  else
  bif (decide (v0 < (v5.getD v2.toNat (Ty.zero .piec)).off)) then
    .out (a)
  else
  letK (α := Int) (IntKind.wrap .i64 ((v5.getD v2.toNat (Ty.zero .piec)).off + (((v5.getD v2.toNat (Ty.zero .piec)).text).length : Int))) fun e4 =>
  bif (decide (v0 < e4)) then
    .out (a)
  else
  letK (α := Int) (IntKind.wrap .i64 ((v5.getD v2.toNat (Ty.zero .piec)).off + (((v5.getD v2.toNat (Ty.zero .piec)).text).length : Int))) fun e5 =>
  .next e5
theorem s_ReceiverOk_L0_st (v0 : Int) (v1 : Int) (v2 : Int) (v3 : Int) (v4 : Bytes) (v5 : List Piec) (v6 : Int) (v7 : Bool) (hlo : 0 ≤ v2) (hhi : v2 < (v5.length : Int)) (hN : (v5.length : Int) ≤ 4611686018427387904) : s_ReceiverOk_L0_r.step (s_ReceiverOk_L0_mk v0 v1 v2 v3 v4 v5 v6 v7) = Stp.elim (fun a' : Int => some (Sum.inl (s_ReceiverOk_L0_mk v0 a' (v2 + 1) v3 v4 v5 v6 v7))) (fun w => some (Sum.inr ((fun p : Int => Sum.inl (s_ReceiverOk_L0_mx0 false p v3 v4 v5 v6 v7)) w))) (s_ReceiverOk_L0_f v0 v3 v4 v5 v6 v7 v2 v1) := by
  have hw : (IntKind.wrap .i64 (v2 + 1)) = v2 + 1 := wrap64 (by omega) (by omega)
  show s_ReceiverOk_L0_B v0 v1 v2 v3 v4 v5 v6 v7 (Option (s_ReceiverOk_L0_sh.T ⊕ WT s_ReceiverOk_L0_es)) none (fun v' => some (Sum.inl v')) (fun w => some (Sum.inr w)) = _
  unfold s_ReceiverOk_L0_B s_ReceiverOk_L0_f
  exact bifG (by simp only [decide_eq_true_eq]; omega) (bifG (by (try simp only [Nat.ble_eq, Bool.and_eq_true, decide_eq_true_eq]); grind [maxSl, maxStr, toBytes_length, toInts_length, List.length_set, wrap64]) (bifT (f := (Stp.elim (fun a' : Int => some (Sum.inl (s_ReceiverOk_L0_mk v0 a' (v2 + 1) v3 v4 v5 v6 v7))) (fun w => some (Sum.inr ((fun p : Int => Sum.inl (s_ReceiverOk_L0_mx0 false p v3 v4 v5 v6 v7)) w))))) (fun b0 => rfl)
      (fun b0 => bifT (f := (Stp.elim (fun a' : Int => some (Sum.inl (s_ReceiverOk_L0_mk v0 a' (v2 + 1) v3 v4 v5 v6 v7))) (fun w => some (Sum.inr ((fun p : Int => Sum.inl (s_ReceiverOk_L0_mx0 false p v3 v4 v5 v6 v7)) w))))) (fun b1 => rfl)
      (fun b1 => bifT (f := (Stp.elim (fun a' : Int => some (Sum.inl (s_ReceiverOk_L0_mk v0 a' (v2 + 1) v3 v4 v5 v6 v7))) (fun w => some (Sum.inr ((fun p : Int => Sum.inl (s_ReceiverOk_L0_mx0 false p v3 v4 v5 v6 v7)) w))))) (fun b2 => rfl)
      (fun b2 => letT (f := (Stp.elim (fun a' : Int => some (Sum.inl (s_ReceiverOk_L0_mk v0 a' (v2 + 1) v3 v4 v5 v6 v7))) (fun w => some (Sum.inr ((fun p : Int => Sum.inl (s_ReceiverOk_L0_mx0 false p v3 v4 v5 v6 v7)) w))))) (fun e4 he4 => bifT (f := (Stp.elim (fun a' : Int => some (Sum.inl (s_ReceiverOk_L0_mk v0 a' (v2 + 1) v3 v4 v5 v6 v7))) (fun w => some (Sum.inr ((fun p : Int => Sum.inl (s_ReceiverOk_L0_mx0 false p v3 v4 v5 v6 v7)) w))))) (fun b3 => rfl)
      (fun b3 => letT (f := (Stp.elim (fun a' : Int => some (Sum.inl (s_ReceiverOk_L0_mk v0 a' (v2 + 1) v3 v4 v5 v6 v7))) (fun w => some (Sum.inr ((fun p : Int => Sum.inl (s_ReceiverOk_L0_mx0 false p v3 v4 v5 v6 v7)) w))))) (fun e5 he5 => (by exact congrArg (fun z => some (Sum.inl (s_ReceiverOk_L0_mk v0 e5 z v3 v4 v5 v6 v7))) hw)))))))))
theorem s_ReceiverOk_L0_cl (v0 : Int) (v1 : Int) (v2 : Int) (v3 : Int) (v4 : Bytes) (v5 : List Piec) (v6 : Int) (v7 : Bool) (h0 : 0 ≤ v2) (h1 : (v5.length : Int) ≤ 4611686018427387904) : loopF s_ReceiverOk_L0_r.step (s_ReceiverOk_L0_fu v0 v1 v2 v3 v4 v5 v6 v7) (s_ReceiverOk_L0_mk v0 v1 v2 v3 v4 v5 v6 v7) = some (Stp.elim (fun a => (fun i a => Sum.inr (s_ReceiverOk_L0_mx1 a v3 v4 v5 v6 v7)) (v2 + 1 * (((Int.toNat ((v5.length : Int) - v2)) : Nat) : Int)) a) (fun p : Int => Sum.inl (s_ReceiverOk_L0_mx0 false p v3 v4 v5 v6 v7)) (forN (s_ReceiverOk_L0_f v0 v3 v4 v5 v6 v7) 1 (Int.toNat ((v5.length : Int) - v2)) v2 v1)) :=
  forN_loop (step := s_ReceiverOk_L0_r.step) (mk := fun v2 a => s_ReceiverOk_L0_mk v0 a v2 v3 v4 v5 v6 v7) (f := s_ReceiverOk_L0_f v0 v3 v4 v5 v6 v7) (e := (fun i a => Sum.inr (s_ReceiverOk_L0_mx1 a v3 v4 v5 v6 v7))) (emb := (fun p : Int => Sum.inl (s_ReceiverOk_L0_mx0 false p v3 v4 v5 v6 v7))) (st := 1) (Inv := fun v2 a => True) (Int.toNat ((v5.length : Int) - v2)) v2 v1 _ (Nat.lt_succ_self _) trivial
    (fun j a hj hv => ⟨s_ReceiverOk_L0_st v0 a (v2 + 1 * (j : Int)) v3 v4 v5 v6 v7 (by omega) (by omega) (by omega), fun _ _ => trivial⟩)
    (fun a hv => by
      show s_ReceiverOk_L0_B v0 a (v2 + 1 * (((Int.toNat ((v5.length : Int) - v2)) : Nat) : Int)) v3 v4 v5 v6 v7 (Option (s_ReceiverOk_L0_sh.T ⊕ WT s_ReceiverOk_L0_es)) none (fun v' => some (Sum.inl v')) (fun w => some (Sum.inr w)) = _
      unfold s_ReceiverOk_L0_B
      exact bifN (by simp only [decide_eq_false_iff_not]; omega) rfl)
def s_ReceiverOk_N (x0 : Recv) (γ : Type) (fail : γ) (k : Bool → γ) : γ :=
  letK (α := Int) (s_WindowOf x0) fun c1 =>
  letK (α := Bool) (s_WordOk x0.next 32) fun c2 =>
  bif (!c2) then
    k false
  else
  bif (decide (32 < (x0.data.length : Int))) then
    k false
  else
  bif (decide (3 < (x0.held.length : Int))) then
    k false
  else
  letK (α := Bool) (s_l1In x0.fin (-1) c1) fun c3 =>
  bif (!c3) then
    k false
  else
  bif (x0.fin == 0) then
    k false
  else
  optK (loopF s_ReceiverOk_L0_r.step (s_ReceiverOk_L0_fu c1 0 0 x0.next x0.data x0.held x0.fin x0.done) (s_ReceiverOk_L0_mk c1 0 0 x0.next x0.data x0.held x0.fin x0.done)) fail fun w6 =>
    Sum.elim (fun w6 =>
      k w6.1.2.1.1)
    (fun w6 =>
      bif (decide (w6.2.1.2.2.2.1 < 0)) then
        bif (!w6.2.1.2.2.2.2.1) then
          k true
        else
        bif ((w6.2.1.2.2.1.length : Int) == 0) then
          k (w6.2.1.2.2.2.1 == (-1))
        else
        k false
      else
      bif (decide (w6.1.2.2.1.1 ≤ w6.2.1.2.2.2.1)) then
        bif (!w6.2.1.2.2.2.2.1) then
          k true
        else
        bif ((w6.2.1.2.2.1.length : Int) == 0) then
          k (w6.2.1.2.2.2.1 == (-1))
        else
        k false
      else
      k false) w6
def s_ReceiverOk (x0 : Recv) : Bool :=
  letK (α := Int) (s_WindowOf x0) fun c1 =>
  letK (α := Bool) (s_WordOk x0.next 32) fun c2 =>
  bif (!c2) then
    false
  else
  bif (decide (32 < (x0.data.length : Int))) then
    false
  else
  bif (decide (3 < (x0.held.length : Int))) then
    false
  else
  letK (α := Bool) (s_l1In x0.fin (-1) c1) fun c3 =>
  bif (!c3) then
    false
  else
  bif (x0.fin == 0) then
    false
  else
  Stp.elim (fun a7 =>
    bif (decide (x0.fin < 0)) then
      bif (!x0.done) then
        true
      else
      bif ((x0.held.length : Int) == 0) then
        (x0.fin == (-1))
      else
      false
    else
    bif (decide (a7 ≤ x0.fin)) then
      bif (!x0.done) then
        true
      else
      bif ((x0.held.length : Int) == 0) then
        (x0.fin == (-1))
      else
      false
    else
    false)
    (fun p7 =>
      false)
    (forN (s_ReceiverOk_L0_f c1 x0.next x0.data x0.held x0.fin x0.done) 1 (Int.toNat ((x0.held.length : Int) - 0)) 0 0)
theorem s_ReceiverOk_lk (x0 : Recv) : evalFn te (orcOf (P := Tryz.prog) [s_WindowOf_e, s_WordOk_e, s_l1In_e]) (lorcOf [s_ReceiverOk_L0_le]) s_ReceiverOk_ann Tryz.f86 (pvs [.st .recv] (x0, ())) =
  s_ReceiverOk_N x0 _ none (fun v => some [(false, [RC.c (.bool v)])]) := by kernel_rfl
theorem s_ReceiverOk_p (x0 : Recv) (hx0_next : inK .i64 x0.next) (hx0_data : List.length x0.data ≤ 4611686018427387904) (hx0_held : x0.held.length ≤ 140737488355328) (hx0_held_e : ∀ y ∈ x0.held, ∀ c ∈ Ty.cells .piec y, FactC c) (hx0_fin : inK .i64 x0.fin)  (γ : Type) (fail : γ) (k : Bool → γ) : s_ReceiverOk_N x0 γ fail k = k (s_ReceiverOk x0) := by
  unfold s_ReceiverOk_N s_ReceiverOk
  exact letT (f := k) (fun c1 hc1 => letT (f := k) (fun c2 hc2 => bifT (f := k) (fun b0 => rfl)
      (fun b0 => bifT (f := k) (fun b1 => rfl)
      (fun b1 => bifT (f := k) (fun b2 => rfl)
      (fun b2 => letT (f := k) (fun c3 hc3 => bifT (f := k) (fun b3 => rfl)
      (fun b3 => bifT (f := k) (fun b4 => rfl)
      (fun b4 => loopT (f := k) (s_ReceiverOk_L0_cl c1 0 0 x0.next x0.data x0.held x0.fin x0.done (by (try simp only [Nat.ble_eq, Bool.and_eq_true, decide_eq_true_eq, s_ReceiverOk_L0_mx0, s_ReceiverOk_L0_mx1]); grind [maxSl, maxStr, toBytes_length, toInts_length, List.length_set, wrap64]) (by (try simp only [Nat.ble_eq, Bool.and_eq_true, decide_eq_true_eq, s_ReceiverOk_L0_mx0, s_ReceiverOk_L0_mx1]); grind [maxSl, maxStr, toBytes_length, toInts_length, List.length_set, wrap64])) (fun a7 => bifT (f := k) (fun b5 => bifT (f := k) (fun b6 => rfl)
      (fun b6 => bifT (f := k) (fun b7 => rfl)
      (fun b7 => rfl)))
      (fun b5 => bifT (f := k) (fun b6 => bifT (f := k) (fun b7 => rfl)
      (fun b7 => bifT (f := k) (fun b8 => rfl)
      (fun b8 => rfl)))
      (fun b6 => rfl)))
      (fun p7 => rfl)))))))))
theorem s_ReceiverOk_c (x0 : Recv)  : Con Tryz.prog 86 (pvs [.st .recv] (x0, ())) [rv (.sc .bool) [] (s_ReceiverOk x0)] := by
  refine Con.of_facts (enters_of Tryz.func86 rfl (by kernel_rfl)) fun hf => ?_
  replace hf := factAt hf
  exact evalFn_conL teFact mixFact (orcOf_ok _) Tryz.func86 (by kernel_rfl) (bs := [0]) (by kernel_rfl) (by kernel_rfl) (fun w0 mo I0 hmo => ⟨lsem_of_lorc (s_ReceiverOk_L0_ls w0 mo I0 hmo) (by kernel_rfl), trivial⟩) ((s_ReceiverOk_lk x0).trans (s_ReceiverOk_p x0 ((hf 0 0 rfl rfl).rng) ((hf 0 1 rfl rfl).slen) ((hf 0 2 rfl rfl).len) (fun y hy => (hf 0 2 rfl rfl).elem hy) ((hf 0 3 rfl rfl).rng) _ _ _))
noncomputable def s_ReceiverOk_e : Ent1 Tryz.prog := entA 86 [.st .recv] (fun x => (s_ReceiverOk x.1)) (fun v => [rv (.sc .bool) [] v]) (fun x => s_ReceiverOk_c x.1)


/-- laws.toReceiver -/
def w_toReceiver_N (x0 : Recv) (γ : Type) (fail : γ) (k : Recv → γ) : γ :=
  bif (decide (x0.held.length ≤ 4294967296)) then
  letK (α := List Piec) (w_toPieceS x0.held) fun c1 =>
  k ({ x0 with held := c1 } : Recv)
  else fail
def w_toReceiver (x0 : Recv) : Recv :=
  letK (α := List Piec) (w_toPieceS x0.held) fun c1 =>
  ({ x0 with held := c1 } : Recv)
theorem w_toReceiver_lk (x0 : Recv) : evalFn te (orcOf (P := Tryz.prog) [w_toPieceS_e]) lorc0 [] Tryz.f108 (pvs [.st .recv] (x0, ())) =
  w_toReceiver_N x0 _ none (fun v => some [(true, [RC.c (.int .i64 v.next), RC.c (.str v.data), RC.own true .piec v.held, RC.c (.int .i64 v.fin), RC.c (.bool v.done)])]) := by kernel_rfl
theorem w_toReceiver_p (x0 : Recv) (hx0_next : inK .i64 x0.next) (hx0_data : List.length x0.data ≤ 4611686018427387904) (hx0_held : x0.held.length ≤ 140737488355328) (hx0_held_e : ∀ y ∈ x0.held, ∀ c ∈ Ty.cells .piec y, FactC c) (hx0_fin : inK .i64 x0.fin) (hp : x0.data.length ≤ 4294967296 ∧ x0.held.length ≤ 4294967296) (γ : Type) (fail : γ) (k : Recv → γ) : w_toReceiver_N x0 γ fail k = k (w_toReceiver x0) := by
  unfold w_toReceiver_N w_toReceiver
  exact bifG (by (try simp only [Nat.ble_eq, Bool.and_eq_true, decide_eq_true_eq]); grind [maxSl, maxStr, toBytes_length, toInts_length, List.length_set, wrap64]) (letT (f := k) (fun c1 hc1 => rfl))
theorem w_toReceiver_c (x0 : Recv) (hp : x0.data.length ≤ 4294967296 ∧ x0.held.length ≤ 4294967296) : Con Tryz.prog 108 (pvs [.st .recv] (x0, ())) [rv (.st .recv) [.c, .c, .o true, .c, .c] (w_toReceiver x0)] := by
  refine Con.of_facts (enters_of Tryz.func108 rfl (by kernel_rfl)) fun hf => ?_
  replace hf := factAt hf
  exact evalFn_con0 teFact mixFact (orcOf_ok _) Tryz.func108 (by kernel_rfl) ((w_toReceiver_lk x0).trans (w_toReceiver_p x0 ((hf 0 0 rfl rfl).rng) ((hf 0 1 rfl rfl).slen) ((hf 0 2 rfl rfl).len) (fun y hy => (hf 0 2 rfl rfl).elem hy) ((hf 0 3 rfl rfl).rng) hp _ _ _))
noncomputable def w_toReceiver_e : Ent1 Tryz.prog := entP 108 [.st .recv] (fun x => (decide (x.1.data.length ≤ 4294967296 ∧ x.1.held.length ≤ 4294967296))) (fun x => (w_toReceiver x.1)) (fun v => [rv (.st .recv) [.c, .c, .o true, .c, .c] v]) (fun x hx => w_toReceiver_c x.1 (of_decide_eq_true hx))


/-- laws.eqReceiver -/
def w_eqReceiver_N (x0 : Recv) (x1 : Recv) (γ : Type) (fail : γ) (k : Bool → γ) : γ :=
  bif (x0.next != x1.next) then
    k false
  else
  bif (!(x0.data == x1.data)) then
    k false
  else
  letK (α := Bool) (w_eqPieceS x0.held x1.held) fun c1 =>
  bif (!c1) then
    k false
  else
  bif (x0.fin != x1.fin) then
    k false
  else
  bif (!(x0.done == x1.done)) then
    k false
  else
  k true
def w_eqReceiver (x0 : Recv) (x1 : Recv) : Bool :=
  bif (x0.next != x1.next) then
    false
  else
  bif (!(x0.data == x1.data)) then
    false
  else
  letK (α := Bool) (w_eqPieceS x0.held x1.held) fun c1 =>
  bif (!c1) then
    false
  else
  bif (x0.fin != x1.fin) then
    false
  else
  bif (!(x0.done == x1.done)) then
    false
  else
  true
theorem w_eqReceiver_lk (x0 : Recv) (x1 : Recv) : evalFn te (orcOf (P := Tryz.prog) [w_eqPieceS_e]) lorc0 [] Tryz.f113 (pvs [.st .recv, .st .recv] (x0, x1, ())) =
  w_eqReceiver_N x0 x1 _ none (fun v => some [(false, [RC.c (.bool v)])]) := by kernel_rfl
theorem w_eqReceiver_p (x0 : Recv) (x1 : Recv)   (γ : Type) (fail : γ) (k : Bool → γ) : w_eqReceiver_N x0 x1 γ fail k = k (w_eqReceiver x0 x1) := by
  unfold w_eqReceiver_N w_eqReceiver
  exact bifT (f := k) (fun b0 => rfl)
      (fun b0 => bifT (f := k) (fun b1 => rfl)
      (fun b1 => letT (f := k) (fun c1 hc1 => bifT (f := k) (fun b2 => rfl)
      (fun b2 => bifT (f := k) (fun b3 => rfl)
      (fun b3 => bifT (f := k) (fun b4 => rfl)
      (fun b4 => rfl))))))
theorem w_eqReceiver_c (x0 : Recv) (x1 : Recv)  : Con Tryz.prog 113 (pvs [.st .recv, .st .recv] (x0, x1, ())) [rv (.sc .bool) [] (w_eqReceiver x0 x1)] := by
  exact evalFn_con0 teFact mixFact (orcOf_ok _) Tryz.func113 (by kernel_rfl) ((w_eqReceiver_lk x0 x1).trans (w_eqReceiver_p x0 x1  _ _ _))
noncomputable def w_eqReceiver_e : Ent1 Tryz.prog := entA 113 [.st .recv, .st .recv] (fun x => (w_eqReceiver x.1 x.2.1)) (fun v => [rv (.sc .bool) [] v]) (fun x => w_eqReceiver_c x.1 x.2.1)


/-- impl.FindConn$1 -/
def i_FindConn_1_N (x0 : Conn) (y1 : Tupl) (γ : Type) (fail : γ) (k : Bool → γ) : γ :=
  k ((x0.tuple.ip == y1.ip) && ((x0.tuple.port == y1.port) && ((x0.tuple.my == y1.my) && true)))
def i_FindConn_1 (x0 : Conn) (y1 : Tupl) : Bool :=
  ((x0.tuple.ip == y1.ip) && ((x0.tuple.port == y1.port) && ((x0.tuple.my == y1.my) && true)))
theorem i_FindConn_1_lk (x0 : Conn) (y1 : Tupl) : evalFnM te (orcOf (P := Tryz.prog) []) lorc0 [] Tryz.f77 (pvs [.st .conn, .wr false [.ptr 0]] (x0, (), ())) (mos [.box [.c (.int .i64), .c (.int .i64), .c (.int .i64)]] ((y1.ip, y1.port, y1.my, ()), ())) =
  i_FindConn_1_N x0 y1 _ none (fun v => some ([(false, [RC.c (.bool v)])] ++ (mos [.box [.c (.int .i64), .c (.int .i64), .c (.int .i64)]] ((y1.ip, y1.port, y1.my, ()), ())).map encO)) := by kernel_rfl
theorem i_FindConn_1_p (x0 : Conn) (y1 : Tupl)   (γ : Type) (fail : γ) (k : Bool → γ) : i_FindConn_1_N x0 y1 γ fail k = k (i_FindConn_1 x0 y1) := by
  unfold i_FindConn_1_N i_FindConn_1
  exact rfl
theorem i_FindConn_1_c (x0 : Conn) (y1 : Tupl)  : ConM Tryz.prog 77 (pvs [.st .conn, .wr false [.ptr 0]] (x0, (), ())) (mos [.box [.c (.int .i64), .c (.int .i64), .c (.int .i64)]] ((y1.ip, y1.port, y1.my, ()), ())) [rv (.sc .bool) [] (i_FindConn_1 x0 y1)] (mos [.box [.c (.int .i64), .c (.int .i64), .c (.int .i64)]] ((y1.ip, y1.port, y1.my, ()), ())) := by
  exact evalFn_conLM teFact mixFact (orcOf_ok _) Tryz.func77 (by kernel_rfl) (bs := []) (by kernel_rfl) (by kernel_rfl) (by kernel_rfl) rfl (fun w0 mo I0 hmo => trivial) ((i_FindConn_1_lk x0 y1).trans (i_FindConn_1_p x0 y1  _ _ _))
noncomputable def i_FindConn_1_e : Ent1 Tryz.prog := entM 77 [.st .conn, .wr false [.ptr 0]] [.box [.c (.int .i64), .c (.int .i64), .c (.int .i64)]] (fun x y => true) (fun x y => (i_FindConn_1 x.1 (⟨y.1.1, y.1.2.1, y.1.2.2.1⟩ : Tupl))) (fun v => [rv (.sc .bool) [] v]) (fun x y v => (mos [.box [.c (.int .i64), .c (.int .i64), .c (.int .i64)]] (((⟨y.1.1, y.1.2.1, y.1.2.2.1⟩ : Tupl).ip, (⟨y.1.1, y.1.2.1, y.1.2.2.1⟩ : Tupl).port, (⟨y.1.1, y.1.2.1, y.1.2.2.1⟩ : Tupl).my, ()), ()))) (fun x y hx => i_FindConn_1_c x.1 (⟨y.1.1, y.1.2.1, y.1.2.2.1⟩ : Tupl))


/-- impl.FindHalf$1 -/
def i_FindHalf_1_N (x0 : Half) (y1 : Tupl) (γ : Type) (fail : γ) (k : Bool → γ) : γ :=
  k ((x0.tuple.ip == y1.ip) && ((x0.tuple.port == y1.port) && ((x0.tuple.my == y1.my) && true)))
def i_FindHalf_1 (x0 : Half) (y1 : Tupl) : Bool :=
  ((x0.tuple.ip == y1.ip) && ((x0.tuple.port == y1.port) && ((x0.tuple.my == y1.my) && true)))
theorem i_FindHalf_1_lk (x0 : Half) (y1 : Tupl) : evalFnM te (orcOf (P := Tryz.prog) []) lorc0 [] Tryz.f97 (pvs [.st .half, .wr false [.ptr 0]] (x0, (), ())) (mos [.box [.c (.int .i64), .c (.int .i64), .c (.int .i64)]] ((y1.ip, y1.port, y1.my, ()), ())) =
  i_FindHalf_1_N x0 y1 _ none (fun v => some ([(false, [RC.c (.bool v)])] ++ (mos [.box [.c (.int .i64), .c (.int .i64), .c (.int .i64)]] ((y1.ip, y1.port, y1.my, ()), ())).map encO)) := by kernel_rfl
theorem i_FindHalf_1_p (x0 : Half) (y1 : Tupl)   (γ : Type) (fail : γ) (k : Bool → γ) : i_FindHalf_1_N x0 y1 γ fail k = k (i_FindHalf_1 x0 y1) := by
  unfold i_FindHalf_1_N i_FindHalf_1
  exact rfl
theorem i_FindHalf_1_c (x0 : Half) (y1 : Tupl)  : ConM Tryz.prog 97 (pvs [.st .half, .wr false [.ptr 0]] (x0, (), ())) (mos [.box [.c (.int .i64), .c (.int .i64), .c (.int .i64)]] ((y1.ip, y1.port, y1.my, ()), ())) [rv (.sc .bool) [] (i_FindHalf_1 x0 y1)] (mos [.box [.c (.int .i64), .c (.int .i64), .c (.int .i64)]] ((y1.ip, y1.port, y1.my, ()), ())) := by
  exact evalFn_conLM teFact mixFact (orcOf_ok _) Tryz.func97 (by kernel_rfl) (bs := []) (by kernel_rfl) (by kernel_rfl) (by kernel_rfl) rfl (fun w0 mo I0 hmo => trivial) ((i_FindHalf_1_lk x0 y1).trans (i_FindHalf_1_p x0 y1  _ _ _))
noncomputable def i_FindHalf_1_e : Ent1 Tryz.prog := entM 97 [.st .half, .wr false [.ptr 0]] [.box [.c (.int .i64), .c (.int .i64), .c (.int .i64)]] (fun x y => true) (fun x y => (i_FindHalf_1 x.1 (⟨y.1.1, y.1.2.1, y.1.2.2.1⟩ : Tupl))) (fun v => [rv (.sc .bool) [] v]) (fun x y v => (mos [.box [.c (.int .i64), .c (.int .i64), .c (.int .i64)]] (((⟨y.1.1, y.1.2.1, y.1.2.2.1⟩ : Tupl).ip, (⟨y.1.1, y.1.2.1, y.1.2.2.1⟩ : Tupl).port, (⟨y.1.1, y.1.2.1, y.1.2.2.1⟩ : Tupl).my, ()), ()))) (fun x y hx => i_FindHalf_1_c x.1 (⟨y.1.1, y.1.2.1, y.1.2.2.1⟩ : Tupl))


/-- laws.toKeys -/
def w_toKeys_N (x0 : Keys) (γ : Type) (fail : γ) (k : Keys → γ) : γ :=
  bif (decide (x0.now.rows.length ≤ 4294967296)) then
  letK (α := Mac) (w_toMac x0.now) fun c1 =>
  bif (decide (x0.before.rows.length ≤ 4294967296)) then
  letK (α := Mac) (w_toMac x0.before) fun c2 =>
  k (⟨x0.epoch, c1, c2, x0.two⟩ : Keys)
  else fail
  else fail
def w_toKeys (x0 : Keys) : Keys :=
  letK (α := Mac) (w_toMac x0.now) fun c1 =>
  letK (α := Mac) (w_toMac x0.before) fun c2 =>
  (⟨x0.epoch, c1, c2, x0.two⟩ : Keys)
theorem w_toKeys_lk (x0 : Keys) : evalFn te (orcOf (P := Tryz.prog) [w_toMac_e]) lorc0 [] Tryz.f31 (pvs [.st .keys] (x0, ())) =
  w_toKeys_N x0 _ none (fun v => some [(true, [RC.c (.int .i64 v.epoch), RC.c (.bool v.now.use), RC.c (.int .u64 v.now.k), RC.c (.int .u64 v.now.l), RC.own true .macRow v.now.rows, RC.c (.bool v.before.use), RC.c (.int .u64 v.before.k), RC.c (.int .u64 v.before.l), RC.own true .macRow v.before.rows, RC.c (.bool v.two)])]) := by kernel_rfl
theorem w_toKeys_p (x0 : Keys) (hx0_epoch : inK .i64 x0.epoch) (hx0_now_k : inK .u64 x0.now.k) (hx0_now_l : inK .u64 x0.now.l) (hx0_now_rows : x0.now.rows.length ≤ 140737488355328) (hx0_now_rows_e : ∀ y ∈ x0.now.rows, ∀ c ∈ Ty.cells .macRow y, FactC c) (hx0_before_k : inK .u64 x0.before.k) (hx0_before_l : inK .u64 x0.before.l) (hx0_before_rows : x0.before.rows.length ≤ 140737488355328) (hx0_before_rows_e : ∀ y ∈ x0.before.rows, ∀ c ∈ Ty.cells .macRow y, FactC c) (hp : x0.now.rows.length ≤ 4294967296 ∧ x0.before.rows.length ≤ 4294967296) (γ : Type) (fail : γ) (k : Keys → γ) : w_toKeys_N x0 γ fail k = k (w_toKeys x0) := by
  unfold w_toKeys_N w_toKeys
  exact bifG (by (try simp only [Nat.ble_eq, Bool.and_eq_true, decide_eq_true_eq]); grind [maxSl, maxStr, toBytes_length, toInts_length, List.length_set, wrap64]) (letT (f := k) (fun c1 hc1 => bifG (by (try simp only [Nat.ble_eq, Bool.and_eq_true, decide_eq_true_eq]); grind [maxSl, maxStr, toBytes_length, toInts_length, List.length_set, wrap64]) (letT (f := k) (fun c2 hc2 => rfl))))
theorem w_toKeys_c (x0 : Keys) (hp : x0.now.rows.length ≤ 4294967296 ∧ x0.before.rows.length ≤ 4294967296) : Con Tryz.prog 31 (pvs [.st .keys] (x0, ())) [rv (.st .keys) [.c, .c, .c, .c, .o true, .c, .c, .c, .o true, .c] (w_toKeys x0)] := by
  refine Con.of_facts (enters_of Tryz.func31 rfl (by kernel_rfl)) fun hf => ?_
  replace hf := factAt hf
  exact evalFn_con0 teFact mixFact (orcOf_ok _) Tryz.func31 (by kernel_rfl) ((w_toKeys_lk x0).trans (w_toKeys_p x0 ((hf 0 0 rfl rfl).rng) ((hf 0 2 rfl rfl).rng) ((hf 0 3 rfl rfl).rng) ((hf 0 4 rfl rfl).len) (fun y hy => (hf 0 4 rfl rfl).elem hy) ((hf 0 6 rfl rfl).rng) ((hf 0 7 rfl rfl).rng) ((hf 0 8 rfl rfl).len) (fun y hy => (hf 0 8 rfl rfl).elem hy) hp _ _ _))
noncomputable def w_toKeys_e : Ent1 Tryz.prog := entP 31 [.st .keys] (fun x => (decide (x.1.now.rows.length ≤ 4294967296 ∧ x.1.before.rows.length ≤ 4294967296))) (fun x => (w_toKeys x.1)) (fun v => [rv (.st .keys) [.c, .c, .c, .c, .o true, .c, .c, .c, .o true, .c] v]) (fun x hx => w_toKeys_c x.1 (of_decide_eq_true hx))


/-- laws.eqKeys -/
def w_eqKeys_N (x0 : Keys) (x1 : Keys) (γ : Type) (fail : γ) (k : Bool → γ) : γ :=
  bif (x0.epoch != x1.epoch) then
    k false
  else
  letK (α := Bool) (w_eqMac x0.now x1.now) fun c1 =>
  bif (!c1) then
    k false
  else
  letK (α := Bool) (w_eqMac x0.before x1.before) fun c2 =>
  bif (!c2) then
    k false
  else
  bif (!(x0.two == x1.two)) then
    k false
  else
  k true
def w_eqKeys (x0 : Keys) (x1 : Keys) : Bool :=
  bif (x0.epoch != x1.epoch) then
    false
  else
  letK (α := Bool) (w_eqMac x0.now x1.now) fun c1 =>
  bif (!c1) then
    false
  else
  letK (α := Bool) (w_eqMac x0.before x1.before) fun c2 =>
  bif (!c2) then
    false
  else
  bif (!(x0.two == x1.two)) then
    false
  else
  true
theorem w_eqKeys_lk (x0 : Keys) (x1 : Keys) : evalFn te (orcOf (P := Tryz.prog) [w_eqMac_e]) lorc0 [] Tryz.f45 (pvs [.st .keys, .st .keys] (x0, x1, ())) =
  w_eqKeys_N x0 x1 _ none (fun v => some [(false, [RC.c (.bool v)])]) := by kernel_rfl
theorem w_eqKeys_p (x0 : Keys) (x1 : Keys)   (γ : Type) (fail : γ) (k : Bool → γ) : w_eqKeys_N x0 x1 γ fail k = k (w_eqKeys x0 x1) := by
  unfold w_eqKeys_N w_eqKeys
  exact bifT (f := k) (fun b0 => rfl)
      (fun b0 => letT (f := k) (fun c1 hc1 => bifT (f := k) (fun b1 => rfl)
      (fun b1 => letT (f := k) (fun c2 hc2 => bifT (f := k) (fun b2 => rfl)
      (fun b2 => bifT (f := k) (fun b3 => rfl)
      (fun b3 => rfl))))))
theorem w_eqKeys_c (x0 : Keys) (x1 : Keys)  : Con Tryz.prog 45 (pvs [.st .keys, .st .keys] (x0, x1, ())) [rv (.sc .bool) [] (w_eqKeys x0 x1)] := by
  exact evalFn_con0 teFact mixFact (orcOf_ok _) Tryz.func45 (by kernel_rfl) ((w_eqKeys_lk x0 x1).trans (w_eqKeys_p x0 x1  _ _ _))
noncomputable def w_eqKeys_e : Ent1 Tryz.prog := entA 45 [.st .keys, .st .keys] (fun x => (w_eqKeys x.1 x.2.1)) (fun v => [rv (.sc .bool) [] v]) (fun x => w_eqKeys_c x.1 x.2.1)


/-- spec.ConnOk -/
def s_ConnOk_N (x0 : Conn) (γ : Type) (fail : γ) (k : Bool → γ) : γ :=
  letK (α := Bool) (s_TupleOk x0.tuple) fun c1 =>
  bif (!c1) then
    k false
  else
  letK (α := Bool) (s_SenderOk x0.s) fun c2 =>
  bif (!c2) then
    k false
  else
  letK (α := Bool) (s_ReceiverOk x0.r) fun c3 =>
  bif (!c3) then
    k false
  else
  letK (α := Bool) (s_OptionsOk x0.opts) fun c4 =>
  bif (!c4) then
    k false
  else
  letK (α := Bool) (s_l1In x0.state 1 8) fun c5 =>
  bif (!c5) then
    k false
  else
  letK (α := Bool) (s_l1In x0.window 0 x0.most) fun c6 =>
  bif (!c6) then
    k false
  else
  bif (decide (1073725440 < x0.most)) then
    k false
  else
  letK (α := Bool) (s_l1In x0.tries 0 3) fun c7 =>
  bif (!c7) then
    k false
  else
  bif (x0.state == 7) then
    letK (α := Bool) (s_l1In x0.timer 0 4) fun c8 =>
    bif (!c8) then
      k false
    else
    bif (x0.state == 8) then
      k true
    else
    bif (x0.state == 3) then
      bif (x0.state == 4) then
        letK (α := Bool) (s_l19Fin x0.state) fun c9 =>
        bif (x0.s.fin == c9) then
          bif (x0.s.done == true) then
            k (x0.r.done == true)
          else
          k false
        else
        k false
      else
      letK (α := Bool) (s_l19Fin x0.state) fun c10 =>
      bif (x0.s.fin == c10) then
        bif (x0.s.done == true) then
          k (x0.r.done == (decide (5 ≤ x0.state)))
        else
        k false
      else
      k false
    else
    bif (x0.state == 4) then
      letK (α := Bool) (s_l19Fin x0.state) fun c11 =>
      bif (x0.s.fin == c11) then
        bif (x0.s.done == (x0.state == 7)) then
          k (x0.r.done == true)
        else
        k false
      else
      k false
    else
    letK (α := Bool) (s_l19Fin x0.state) fun c12 =>
    bif (x0.s.fin == c12) then
      bif (x0.s.done == (x0.state == 7)) then
        k (x0.r.done == (decide (5 ≤ x0.state)))
      else
      k false
    else
    k false
  else
  letK (α := Bool) (s_l1In x0.timer 0 3) fun c13 =>
  bif (!c13) then
    k false
  else
  bif (x0.state == 8) then
    k true
  else
  bif (x0.state == 3) then
    bif (x0.state == 4) then
      letK (α := Bool) (s_l19Fin x0.state) fun c14 =>
      bif (x0.s.fin == c14) then
        bif (x0.s.done == true) then
          k (x0.r.done == true)
        else
        k false
      else
      k false
    else
    letK (α := Bool) (s_l19Fin x0.state) fun c15 =>
    bif (x0.s.fin == c15) then
      bif (x0.s.done == true) then
        k (x0.r.done == (decide (5 ≤ x0.state)))
      else
      k false
    else
    k false
  else
  bif (x0.state == 4) then
    letK (α := Bool) (s_l19Fin x0.state) fun c16 =>
    bif (x0.s.fin == c16) then
      bif (x0.s.done == (x0.state == 7)) then
        k (x0.r.done == true)
      else
      k false
    else
    k false
  else
  letK (α := Bool) (s_l19Fin x0.state) fun c17 =>
  bif (x0.s.fin == c17) then
    bif (x0.s.done == (x0.state == 7)) then
      k (x0.r.done == (decide (5 ≤ x0.state)))
    else
    k false
  else
  k false
def s_ConnOk (x0 : Conn) : Bool :=
  letK (α := Bool) (s_TupleOk x0.tuple) fun c1 =>
  bif (!c1) then
    false
  else
  letK (α := Bool) (s_SenderOk x0.s) fun c2 =>
  bif (!c2) then
    false
  else
  letK (α := Bool) (s_ReceiverOk x0.r) fun c3 =>
  bif (!c3) then
    false
  else
  letK (α := Bool) (s_OptionsOk x0.opts) fun c4 =>
  bif (!c4) then
    false
  else
  letK (α := Bool) (s_l1In x0.state 1 8) fun c5 =>
  bif (!c5) then
    false
  else
  letK (α := Bool) (s_l1In x0.window 0 x0.most) fun c6 =>
  bif (!c6) then
    false
  else
  bif (decide (1073725440 < x0.most)) then
    false
  else
  letK (α := Bool) (s_l1In x0.tries 0 3) fun c7 =>
  bif (!c7) then
    false
  else
  bif (x0.state == 7) then
    letK (α := Bool) (s_l1In x0.timer 0 4) fun c8 =>
    bif (!c8) then
      false
    else
    bif (x0.state == 8) then
      true
    else
    bif (x0.state == 3) then
      bif (x0.state == 4) then
        letK (α := Bool) (s_l19Fin x0.state) fun c9 =>
        bif (x0.s.fin == c9) then
          bif (x0.s.done == true) then
            (x0.r.done == true)
          else
          false
        else
        false
      else
      letK (α := Bool) (s_l19Fin x0.state) fun c10 =>
      bif (x0.s.fin == c10) then
        bif (x0.s.done == true) then
          (x0.r.done == (decide (5 ≤ x0.state)))
        else
        false
      else
      false
    else
    bif (x0.state == 4) then
      letK (α := Bool) (s_l19Fin x0.state) fun c11 =>
      bif (x0.s.fin == c11) then
        bif (x0.s.done == (x0.state == 7)) then
          (x0.r.done == true)
        else
        false
      else
      false
    else
    letK (α := Bool) (s_l19Fin x0.state) fun c12 =>
    bif (x0.s.fin == c12) then
      bif (x0.s.done == (x0.state == 7)) then
        (x0.r.done == (decide (5 ≤ x0.state)))
      else
      false
    else
    false
  else
  letK (α := Bool) (s_l1In x0.timer 0 3) fun c13 =>
  bif (!c13) then
    false
  else
  bif (x0.state == 8) then
    true
  else
  bif (x0.state == 3) then
    bif (x0.state == 4) then
      letK (α := Bool) (s_l19Fin x0.state) fun c14 =>
      bif (x0.s.fin == c14) then
        bif (x0.s.done == true) then
          (x0.r.done == true)
        else
        false
      else
      false
    else
    letK (α := Bool) (s_l19Fin x0.state) fun c15 =>
    bif (x0.s.fin == c15) then
      bif (x0.s.done == true) then
        (x0.r.done == (decide (5 ≤ x0.state)))
      else
      false
    else
    false
  else
  bif (x0.state == 4) then
    letK (α := Bool) (s_l19Fin x0.state) fun c16 =>
    bif (x0.s.fin == c16) then
      bif (x0.s.done == (x0.state == 7)) then
        (x0.r.done == true)
      else
      false
    else
    false
  else
  letK (α := Bool) (s_l19Fin x0.state) fun c17 =>
  bif (x0.s.fin == c17) then
    bif (x0.s.done == (x0.state == 7)) then
      (x0.r.done == (decide (5 ≤ x0.state)))
    else
    false
  else
  false
theorem s_ConnOk_lk (x0 : Conn) : evalFn te (orcOf (P := Tryz.prog) [s_TupleOk_e, s_SenderOk_e, s_ReceiverOk_e, s_OptionsOk_e, s_l1In_e, s_l19Fin_e]) lorc0 [] Tryz.f56 (pvs [.st .conn] (x0, ())) =
  s_ConnOk_N x0 _ none (fun v => some [(false, [RC.c (.bool v)])]) := by kernel_rfl
theorem s_ConnOk_p (x0 : Conn)   (γ : Type) (fail : γ) (k : Bool → γ) : s_ConnOk_N x0 γ fail k = k (s_ConnOk x0) := by
  unfold s_ConnOk_N s_ConnOk
  exact letT (f := k) (fun c1 hc1 => bifT (f := k) (fun b0 => rfl)
      (fun b0 => letT (f := k) (fun c2 hc2 => bifT (f := k) (fun b1 => rfl)
      (fun b1 => letT (f := k) (fun c3 hc3 => bifT (f := k) (fun b2 => rfl)
      (fun b2 => letT (f := k) (fun c4 hc4 => bifT (f := k) (fun b3 => rfl)
      (fun b3 => letT (f := k) (fun c5 hc5 => bifT (f := k) (fun b4 => rfl)
      (fun b4 => letT (f := k) (fun c6 hc6 => bifT (f := k) (fun b5 => rfl)
      (fun b5 => bifT (f := k) (fun b6 => rfl)
      (fun b6 => letT (f := k) (fun c7 hc7 => bifT (f := k) (fun b7 => rfl)
      (fun b7 => bifT (f := k) (fun b8 => letT (f := k) (fun c8 hc8 => bifT (f := k) (fun b9 => rfl)
      (fun b9 => bifT (f := k) (fun b10 => rfl)
      (fun b10 => bifT (f := k) (fun b11 => bifT (f := k) (fun b12 => letT (f := k) (fun c9 hc9 => bifT (f := k) (fun b13 => bifT (f := k) (fun b14 => rfl)
      (fun b14 => rfl))
      (fun b13 => rfl)))
      (fun b12 => letT (f := k) (fun c10 hc10 => bifT (f := k) (fun b13 => bifT (f := k) (fun b14 => rfl)
      (fun b14 => rfl))
      (fun b13 => rfl))))
      (fun b11 => bifT (f := k) (fun b12 => letT (f := k) (fun c11 hc11 => bifT (f := k) (fun b13 => bifT (f := k) (fun b14 => rfl)
      (fun b14 => rfl))
      (fun b13 => rfl)))
      (fun b12 => letT (f := k) (fun c12 hc12 => bifT (f := k) (fun b13 => bifT (f := k) (fun b14 => rfl)
      (fun b14 => rfl))
      (fun b13 => rfl))))))))
      (fun b8 => letT (f := k) (fun c13 hc13 => bifT (f := k) (fun b9 => rfl)
      (fun b9 => bifT (f := k) (fun b10 => rfl)
      (fun b10 => bifT (f := k) (fun b11 => bifT (f := k) (fun b12 => letT (f := k) (fun c14 hc14 => bifT (f := k) (fun b13 => bifT (f := k) (fun b14 => rfl)
      (fun b14 => rfl))
      (fun b13 => rfl)))
      (fun b12 => letT (f := k) (fun c15 hc15 => bifT (f := k) (fun b13 => bifT (f := k) (fun b14 => rfl)
      (fun b14 => rfl))
      (fun b13 => rfl))))
      (fun b11 => bifT (f := k) (fun b12 => letT (f := k) (fun c16 hc16 => bifT (f := k) (fun b13 => bifT (f := k) (fun b14 => rfl)
      (fun b14 => rfl))
      (fun b13 => rfl)))
      (fun b12 => letT (f := k) (fun c17 hc17 => bifT (f := k) (fun b13 => bifT (f := k) (fun b14 => rfl)
      (fun b14 => rfl))
      (fun b13 => rfl)))))))))))))))))))))))
theorem s_ConnOk_c (x0 : Conn)  : Con Tryz.prog 56 (pvs [.st .conn] (x0, ())) [rv (.sc .bool) [] (s_ConnOk x0)] := by
  exact evalFn_con0 teFact mixFact (orcOf_ok _) Tryz.func56 (by kernel_rfl) ((s_ConnOk_lk x0).trans (s_ConnOk_p x0  _ _ _))
noncomputable def s_ConnOk_e : Ent1 Tryz.prog := entA 56 [.st .conn] (fun x => (s_ConnOk x.1)) (fun v => [rv (.sc .bool) [] v]) (fun x => s_ConnOk_c x.1)


/-- laws.toConn -/
def w_toConn_N (x0 : Conn) (γ : Type) (fail : γ) (k : Conn → γ) : γ :=
  letK (α := Tupl) (w_toTuple x0.tuple) fun c1 =>
  letK (α := Sndr) (w_toSender x0.s) fun c2 =>
  bif (decide (x0.r.data.length ≤ 4294967296 ∧ x0.r.held.length ≤ 4294967296)) then
  letK (α := Recv) (w_toReceiver x0.r) fun c3 =>
  letK (α := Opti) (w_toOptions x0.opts) fun c4 =>
  k (⟨c1, x0.state, c2, c3, x0.window, x0.most, c4, x0.timer, x0.tries⟩ : Conn)
  else fail
def w_toConn (x0 : Conn) : Conn :=
  letK (α := Tupl) (w_toTuple x0.tuple) fun c1 =>
  letK (α := Sndr) (w_toSender x0.s) fun c2 =>
  letK (α := Recv) (w_toReceiver x0.r) fun c3 =>
  letK (α := Opti) (w_toOptions x0.opts) fun c4 =>
  (⟨c1, x0.state, c2, c3, x0.window, x0.most, c4, x0.timer, x0.tries⟩ : Conn)
theorem w_toConn_lk (x0 : Conn) : evalFn te (orcOf (P := Tryz.prog) [w_toTuple_e, w_toSender_e, w_toReceiver_e, w_toOptions_e]) lorc0 [] Tryz.f91 (pvs [.st .conn] (x0, ())) =
  w_toConn_N x0 _ none (fun v => some [(true, [RC.c (.int .i64 v.tuple.ip), RC.c (.int .i64 v.tuple.port), RC.c (.int .i64 v.tuple.my), RC.c (.int .i64 v.state), RC.c (.int .i64 v.s.una), RC.c (.str v.s.data), RC.c (.int .i64 v.s.sent), RC.c (.bool v.s.fin), RC.c (.bool v.s.finSent), RC.c (.bool v.s.done), RC.c (.int .i64 v.r.next), RC.c (.str v.r.data), RC.own true .piec v.r.held, RC.c (.int .i64 v.r.fin), RC.c (.bool v.r.done), RC.c (.int .i64 v.window), RC.c (.int .i64 v.most), RC.c (.int .i64 v.opts.mss), RC.c (.int .i64 v.opts.scale), RC.c (.bool v.opts.sack), RC.c (.bool v.opts.stamp), RC.c (.int .i64 v.opts.val), RC.c (.int .i64 v.opts.echo), RC.c (.int .i64 v.timer), RC.c (.int .i64 v.tries)])]) := by kernel_rfl
theorem w_toConn_p (x0 : Conn) (hx0_tuple_ip : inK .i64 x0.tuple.ip) (hx0_tuple_port : inK .i64 x0.tuple.port) (hx0_tuple_my : inK .i64 x0.tuple.my) (hx0_state : inK .i64 x0.state) (hx0_s_una : inK .i64 x0.s.una) (hx0_s_data : List.length x0.s.data ≤ 4611686018427387904) (hx0_s_sent : inK .i64 x0.s.sent) (hx0_r_next : inK .i64 x0.r.next) (hx0_r_data : List.length x0.r.data ≤ 4611686018427387904) (hx0_r_held : x0.r.held.length ≤ 140737488355328) (hx0_r_held_e : ∀ y ∈ x0.r.held, ∀ c ∈ Ty.cells .piec y, FactC c) (hx0_r_fin : inK .i64 x0.r.fin) (hx0_window : inK .i64 x0.window) (hx0_most : inK .i64 x0.most) (hx0_opts_mss : inK .i64 x0.opts.mss) (hx0_opts_scale : inK .i64 x0.opts.scale) (hx0_opts_val : inK .i64 x0.opts.val) (hx0_opts_echo : inK .i64 x0.opts.echo) (hx0_timer : inK .i64 x0.timer) (hx0_tries : inK .i64 x0.tries) (hp : x0.s.data.length ≤ 4294967296 ∧ x0.r.data.length ≤ 4294967296 ∧ x0.r.held.length ≤ 4294967296) (γ : Type) (fail : γ) (k : Conn → γ) : w_toConn_N x0 γ fail k = k (w_toConn x0) := by
  unfold w_toConn_N w_toConn
  exact letT (f := k) (fun c1 hc1 => letT (f := k) (fun c2 hc2 => bifG (by (try simp only [Nat.ble_eq, Bool.and_eq_true, decide_eq_true_eq]); grind [maxSl, maxStr, toBytes_length, toInts_length, List.length_set, wrap64]) (letT (f := k) (fun c3 hc3 => letT (f := k) (fun c4 hc4 => rfl)))))
theorem w_toConn_c (x0 : Conn) (hp : x0.s.data.length ≤ 4294967296 ∧ x0.r.data.length ≤ 4294967296 ∧ x0.r.held.length ≤ 4294967296) : Con Tryz.prog 91 (pvs [.st .conn] (x0, ())) [rv (.st .conn) [.c, .c, .c, .c, .c, .c, .c, .c, .c, .c, .c, .c, .o true, .c, .c, .c, .c, .c, .c, .c, .c, .c, .c, .c, .c] (w_toConn x0)] := by
  refine Con.of_facts (enters_of Tryz.func91 rfl (by kernel_rfl)) fun hf => ?_
  replace hf := factAt hf
  exact evalFn_con0 teFact mixFact (orcOf_ok _) Tryz.func91 (by kernel_rfl) ((w_toConn_lk x0).trans (w_toConn_p x0 ((hf 0 0 rfl rfl).rng) ((hf 0 1 rfl rfl).rng) ((hf 0 2 rfl rfl).rng) ((hf 0 3 rfl rfl).rng) ((hf 0 4 rfl rfl).rng) ((hf 0 5 rfl rfl).slen) ((hf 0 6 rfl rfl).rng) ((hf 0 10 rfl rfl).rng) ((hf 0 11 rfl rfl).slen) ((hf 0 12 rfl rfl).len) (fun y hy => (hf 0 12 rfl rfl).elem hy) ((hf 0 13 rfl rfl).rng) ((hf 0 15 rfl rfl).rng) ((hf 0 16 rfl rfl).rng) ((hf 0 17 rfl rfl).rng) ((hf 0 18 rfl rfl).rng) ((hf 0 21 rfl rfl).rng) ((hf 0 22 rfl rfl).rng) ((hf 0 23 rfl rfl).rng) ((hf 0 24 rfl rfl).rng) hp _ _ _))
noncomputable def w_toConn_e : Ent1 Tryz.prog := entP 91 [.st .conn] (fun x => (decide (x.1.s.data.length ≤ 4294967296 ∧ x.1.r.data.length ≤ 4294967296 ∧ x.1.r.held.length ≤ 4294967296))) (fun x => (w_toConn x.1)) (fun v => [rv (.st .conn) [.c, .c, .c, .c, .c, .c, .c, .c, .c, .c, .c, .c, .o true, .c, .c, .c, .c, .c, .c, .c, .c, .c, .c, .c, .c] v]) (fun x hx => w_toConn_c x.1 (of_decide_eq_true hx))


/-- laws.eqConn -/
def w_eqConn_N (x0 : Conn) (x1 : Conn) (γ : Type) (fail : γ) (k : Bool → γ) : γ :=
  letK (α := Bool) (w_eqTuple x0.tuple x1.tuple) fun c1 =>
  bif (!c1) then
    k false
  else
  bif (x0.state != x1.state) then
    k false
  else
  letK (α := Bool) (w_eqSender x0.s x1.s) fun c2 =>
  bif (!c2) then
    k false
  else
  letK (α := Bool) (w_eqReceiver x0.r x1.r) fun c3 =>
  bif (!c3) then
    k false
  else
  bif (x0.window != x1.window) then
    k false
  else
  bif (x0.most != x1.most) then
    k false
  else
  letK (α := Bool) (w_eqOptions x0.opts x1.opts) fun c4 =>
  bif (!c4) then
    k false
  else
  bif (x0.timer != x1.timer) then
    k false
  else
  bif (x0.tries != x1.tries) then
    k false
  else
  k true
def w_eqConn (x0 : Conn) (x1 : Conn) : Bool :=
  letK (α := Bool) (w_eqTuple x0.tuple x1.tuple) fun c1 =>
  bif (!c1) then
    false
  else
  bif (x0.state != x1.state) then
    false
  else
  letK (α := Bool) (w_eqSender x0.s x1.s) fun c2 =>
  bif (!c2) then
    false
  else
  letK (α := Bool) (w_eqReceiver x0.r x1.r) fun c3 =>
  bif (!c3) then
    false
  else
  bif (x0.window != x1.window) then
    false
  else
  bif (x0.most != x1.most) then
    false
  else
  letK (α := Bool) (w_eqOptions x0.opts x1.opts) fun c4 =>
  bif (!c4) then
    false
  else
  bif (x0.timer != x1.timer) then
    false
  else
  bif (x0.tries != x1.tries) then
    false
  else
  true
theorem w_eqConn_lk (x0 : Conn) (x1 : Conn) : evalFn te (orcOf (P := Tryz.prog) [w_eqTuple_e, w_eqSender_e, w_eqReceiver_e, w_eqOptions_e]) lorc0 [] Tryz.f101 (pvs [.st .conn, .st .conn] (x0, x1, ())) =
  w_eqConn_N x0 x1 _ none (fun v => some [(false, [RC.c (.bool v)])]) := by kernel_rfl
theorem w_eqConn_p (x0 : Conn) (x1 : Conn)   (γ : Type) (fail : γ) (k : Bool → γ) : w_eqConn_N x0 x1 γ fail k = k (w_eqConn x0 x1) := by
  unfold w_eqConn_N w_eqConn
  exact letT (f := k) (fun c1 hc1 => bifT (f := k) (fun b0 => rfl)
      (fun b0 => bifT (f := k) (fun b1 => rfl)
      (fun b1 => letT (f := k) (fun c2 hc2 => bifT (f := k) (fun b2 => rfl)
      (fun b2 => letT (f := k) (fun c3 hc3 => bifT (f := k) (fun b3 => rfl)
      (fun b3 => bifT (f := k) (fun b4 => rfl)
      (fun b4 => bifT (f := k) (fun b5 => rfl)
      (fun b5 => letT (f := k) (fun c4 hc4 => bifT (f := k) (fun b6 => rfl)
      (fun b6 => bifT (f := k) (fun b7 => rfl)
      (fun b7 => bifT (f := k) (fun b8 => rfl)
      (fun b8 => rfl)))))))))))))
theorem w_eqConn_c (x0 : Conn) (x1 : Conn)  : Con Tryz.prog 101 (pvs [.st .conn, .st .conn] (x0, x1, ())) [rv (.sc .bool) [] (w_eqConn x0 x1)] := by
  exact evalFn_con0 teFact mixFact (orcOf_ok _) Tryz.func101 (by kernel_rfl) ((w_eqConn_lk x0 x1).trans (w_eqConn_p x0 x1  _ _ _))
noncomputable def w_eqConn_e : Ent1 Tryz.prog := entA 101 [.st .conn, .st .conn] (fun x => (w_eqConn x.1 x.2.1)) (fun v => [rv (.sc .bool) [] v]) (fun x => w_eqConn_c x.1 x.2.1)


/-- slices.IndexFunc[[]impl.Half,impl.Half] -/
def g_IndexFunc_Half_i_FindHalf_1_ann : List (Nat × Keep) := [(0, ⟨[0, 1, 7, 8], [], false, 1⟩)]
def g_IndexFunc_Half_i_FindHalf_1_L0_sh : Sh := ⟨[(0, false, [.sl .arg .half]), (1, false, [.fn 97 [0]]), (7, false, [.int .i64]), (8, false, [.int .i64])], [.box [.int .i64, .int .i64, .int .i64]]⟩
def g_IndexFunc_Half_i_FindHalf_1_L0_es : List (Ex × Sh) := [(.ret, ⟨[(4, false, [.int .i64])], [.box [.int .i64, .int .i64, .int .i64]]⟩), (.exit 0, ⟨[(4, false, [.undef])], [.box [.int .i64, .int .i64, .int .i64]]⟩)]
def g_IndexFunc_Half_i_FindHalf_1_L0_mk (v0 : List Half) (v1 : Int) (v2 : Int) (v3 : Int) (v4 : Int) (v5 : Int) : g_IndexFunc_Half_i_FindHalf_1_L0_sh.T := (((v0, ()), (((), ()), ((v1, ()), ((v2, ()), ())))), ((v3, (v4, (v5, ()))), ()))
def g_IndexFunc_Half_i_FindHalf_1_L0_mx0 (y0 : Int) (y1 : Int) (y2 : Int) (y3 : Int) : Sh.T ⟨[(4, false, [.int .i64])], [.box [.int .i64, .int .i64, .int .i64]]⟩ := (((y0, ()), ()), ((y1, (y2, (y3, ()))), ()))
def g_IndexFunc_Half_i_FindHalf_1_L0_mx1 (y0 : Int) (y1 : Int) (y2 : Int) : Sh.T ⟨[(4, false, [.undef])], [.box [.int .i64, .int .i64, .int .i64]]⟩ := ((((), ()), ()), ((y0, (y1, (y2, ()))), ()))
def g_IndexFunc_Half_i_FindHalf_1_L0_B (v0 : List Half) (v1 : Int) (v2 : Int) (v3 : Int) (v4 : Int) (v5 : Int) (γ : Type) (fail : γ) (next : g_IndexFunc_Half_i_FindHalf_1_L0_sh.T → γ) (out : WT g_IndexFunc_Half_i_FindHalf_1_L0_es → γ) : γ :=
  bif (decide (v2 < v1)) then
    bif ((decide (0 ≤ v2)) && (decide (v2 < (v0.length : Int)))) then
    letK (α := Bool) (i_FindHalf_1 (v0.getD v2.toNat (Ty.zero .half)) (⟨v3, v4, v5⟩ : Tupl)) fun c1 =>
    bif c1 then
      out (Sum.inl (g_IndexFunc_Half_i_FindHalf_1_L0_mx0 v2 v3 v4 v5))
    else
    next (g_IndexFunc_Half_i_FindHalf_1_L0_mk v0 v1 (IntKind.wrap .i64 (v2 + 1)) v3 v4 v5)
    else fail
  else
  out (Sum.inr (g_IndexFunc_Half_i_FindHalf_1_L0_mx1 v3 v4 v5))
theorem g_IndexFunc_Half_i_FindHalf_1_L0_par (v0 : List Half) (v1 : Int) (v2 : Int) (v3 : Int) (v4 : Int) (v5 : Int) (γ : Type) (fail : γ) (next : g_IndexFunc_Half_i_FindHalf_1_L0_sh.T → γ) (out : WT g_IndexFunc_Half_i_FindHalf_1_L0_es → γ) : g_IndexFunc_Half_i_FindHalf_1_L0_B v0 v1 v2 v3 v4 v5 γ fail next out = optK (g_IndexFunc_Half_i_FindHalf_1_L0_B v0 v1 v2 v3 v4 v5 _ none (fun v' => some (.inl v')) (fun w => some (.inr w))) fail (fun r => Sum.elim next out r) := by
  unfold g_IndexFunc_Half_i_FindHalf_1_L0_B
  exact bifT (f := (fun o => optK o fail (fun r => Sum.elim next out r))) (fun _ => bifT (f := (fun o => optK o fail (fun r => Sum.elim next out r))) (fun _ => letT (f := (fun o => optK o fail (fun r => Sum.elim next out r))) (fun c1 _ => bifT (f := (fun o => optK o fail (fun r => Sum.elim next out r))) (fun _ => rfl)
      (fun _ => rfl))) (fun _ => rfl))
      (fun _ => rfl)
def g_IndexFunc_Half_i_FindHalf_1_L0_r : Round g_IndexFunc_Half_i_FindHalf_1_L0_sh.T (WT g_IndexFunc_Half_i_FindHalf_1_L0_es) where
  B v γ fail next out := g_IndexFunc_Half_i_FindHalf_1_L0_B v.1.1.1 v.1.2.2.1.1 v.1.2.2.2.1.1 v.2.1.1 v.2.1.2.1 v.2.1.2.2.1 γ fail next out
  par v γ fail next out := g_IndexFunc_Half_i_FindHalf_1_L0_par v.1.1.1 v.1.2.2.1.1 v.1.2.2.2.1.1 v.2.1.1 v.2.1.2.1 v.2.1.2.2.1 γ fail next out
def g_IndexFunc_Half_i_FindHalf_1_L0_fu (v0 : List Half) (v1 : Int) (v2 : Int) (v3 : Int) (v4 : Int) (v5 : Int) : Nat := (Int.toNat (v1 - v2)) + 1
theorem g_IndexFunc_Half_i_FindHalf_1_L0_lk (v : g_IndexFunc_Half_i_FindHalf_1_L0_sh.T) (next : St → Option Res) (k : Ex → St → Option Res) : evalK te (orcOf (P := Tryz.prog) [i_FindHalf_1_e]) (lorcOf []) Tryz.f75.ntmps g_IndexFunc_Half_i_FindHalf_1_ann (nthLoop (bodyOf Tryz.f75) 0 0) 0 (g_IndexFunc_Half_i_FindHalf_1_L0_sh.enc v) (endK ⟨[0, 1, 7, 8], [], false, 1⟩ ⟨[4], [], false, 1⟩ next k) =
  g_IndexFunc_Half_i_FindHalf_1_L0_r.B v _ none (fun v' => next (g_IndexFunc_Half_i_FindHalf_1_L0_sh.enc v')) (fun w => outK g_IndexFunc_Half_i_FindHalf_1_L0_es k w) := by kernel_rfl
def g_IndexFunc_Half_i_FindHalf_1_L0_le : LE := leOf 0 g_IndexFunc_Half_i_FindHalf_1_L0_sh g_IndexFunc_Half_i_FindHalf_1_L0_es g_IndexFunc_Half_i_FindHalf_1_L0_r.step (fun v => g_IndexFunc_Half_i_FindHalf_1_L0_fu v.1.1.1 v.1.2.2.1.1 v.1.2.2.2.1.1 v.2.1.1 v.2.1.2.1 v.2.1.2.2.1)
theorem g_IndexFunc_Half_i_FindHalf_1_L0_ls (w0 : World) (mo : Mts) (I0 : Nat → Prop) (hmo : mo.length = 1) : LSem Tryz.prog (Sim w0 mo Tryz.f75.ntmps I0) (fun b s k => match Nat.beq 0 b with | true => g_IndexFunc_Half_i_FindHalf_1_L0_le.run s k | false => none) 0 (nthLoop (bodyOf Tryz.f75) 0 0) :=
  le_sem hmo (lorc := lorcOf []) (ann := g_IndexFunc_Half_i_FindHalf_1_ann) (keep := ⟨[0, 1, 7, 8], [], false, 1⟩) (kout := ⟨[4], [], false, 1⟩) teFact mixFact (orcOf_ok _) (by kernel_rfl) (allLoops_of (bs := []) (by kernel_rfl) trivial) g_IndexFunc_Half_i_FindHalf_1_L0_r _ g_IndexFunc_Half_i_FindHalf_1_L0_lk
def g_IndexFunc_Half_i_FindHalf_1_L0_f (v0 : List Half) (v1 : Int) (v3 : Int) (v4 : Int) (v5 : Int) (v2 : Int) (a : Unit) : Stp (Unit) ((Int)) :=
  letK (α := Bool) (i_FindHalf_1 (v0.getD v2.toNat (Ty.zero .half)) (⟨v3, v4, v5⟩ : Tupl)) fun c1 =>
  bif c1 then
    .out (v2)
  else
  .next ()
theorem g_IndexFunc_Half_i_FindHalf_1_L0_st (v0 : List Half) (v1 : Int) (v2 : Int) (v3 : Int) (v4 : Int) (v5 : Int) (hlo : 0 ≤ v2) (hhi : v2 < v1) (hN : v1 ≤ 4611686018427387904) (hi0 : v1 ≤ (v0.length : Int)) : g_IndexFunc_Half_i_FindHalf_1_L0_r.step (g_IndexFunc_Half_i_FindHalf_1_L0_mk v0 v1 v2 v3 v4 v5) = Stp.elim (fun a' : Unit => some (Sum.inl (g_IndexFunc_Half_i_FindHalf_1_L0_mk v0 v1 (v2 + 1) v3 v4 v5))) (fun w => some (Sum.inr ((fun p : Int => Sum.inl (g_IndexFunc_Half_i_FindHalf_1_L0_mx0 p v3 v4 v5)) w))) (g_IndexFunc_Half_i_FindHalf_1_L0_f v0 v1 v3 v4 v5 v2 ()) := by
  have hw : (IntKind.wrap .i64 (v2 + 1)) = v2 + 1 := wrap64 (by omega) (by omega)
  show g_IndexFunc_Half_i_FindHalf_1_L0_B v0 v1 v2 v3 v4 v5 (Option (g_IndexFunc_Half_i_FindHalf_1_L0_sh.T ⊕ WT g_IndexFunc_Half_i_FindHalf_1_L0_es)) none (fun v' => some (Sum.inl v')) (fun w => some (Sum.inr w)) = _
  unfold g_IndexFunc_Half_i_FindHalf_1_L0_B g_IndexFunc_Half_i_FindHalf_1_L0_f
  exact bifG (by simp only [decide_eq_true_eq]; omega) (bifG (by (try simp only [Nat.ble_eq, Bool.and_eq_true, decide_eq_true_eq]); grind [maxSl, maxStr, toBytes_length, toInts_length, List.length_set, wrap64]) (letT (f := (Stp.elim (fun a' : Unit => some (Sum.inl (g_IndexFunc_Half_i_FindHalf_1_L0_mk v0 v1 (v2 + 1) v3 v4 v5))) (fun w => some (Sum.inr ((fun p : Int => Sum.inl (g_IndexFunc_Half_i_FindHalf_1_L0_mx0 p v3 v4 v5)) w))))) (fun c1 hc1 => bifT (f := (Stp.elim (fun a' : Unit => some (Sum.inl (g_IndexFunc_Half_i_FindHalf_1_L0_mk v0 v1 (v2 + 1) v3 v4 v5))) (fun w => some (Sum.inr ((fun p : Int => Sum.inl (g_IndexFunc_Half_i_FindHalf_1_L0_mx0 p v3 v4 v5)) w))))) (fun b0 => rfl)
      (fun b0 => (by exact congrArg (fun z => some (Sum.inl (g_IndexFunc_Half_i_FindHalf_1_L0_mk v0 v1 z v3 v4 v5))) hw)))))
theorem g_IndexFunc_Half_i_FindHalf_1_L0_cl (v0 : List Half) (v1 : Int) (v2 : Int) (v3 : Int) (v4 : Int) (v5 : Int) (h0 : 0 ≤ v2) (h1 : v1 ≤ 4611686018427387904) (h2 : v1 ≤ (v0.length : Int)) : loopF g_IndexFunc_Half_i_FindHalf_1_L0_r.step (g_IndexFunc_Half_i_FindHalf_1_L0_fu v0 v1 v2 v3 v4 v5) (g_IndexFunc_Half_i_FindHalf_1_L0_mk v0 v1 v2 v3 v4 v5) = some (Stp.elim (fun a => (fun i a => Sum.inr (g_IndexFunc_Half_i_FindHalf_1_L0_mx1 v3 v4 v5)) (v2 + 1 * (((Int.toNat (v1 - v2)) : Nat) : Int)) a) (fun p : Int => Sum.inl (g_IndexFunc_Half_i_FindHalf_1_L0_mx0 p v3 v4 v5)) (forN (g_IndexFunc_Half_i_FindHalf_1_L0_f v0 v1 v3 v4 v5) 1 (Int.toNat (v1 - v2)) v2 ())) :=
  forN_loop (step := g_IndexFunc_Half_i_FindHalf_1_L0_r.step) (mk := fun v2 a => g_IndexFunc_Half_i_FindHalf_1_L0_mk v0 v1 v2 v3 v4 v5) (f := g_IndexFunc_Half_i_FindHalf_1_L0_f v0 v1 v3 v4 v5) (e := (fun i a => Sum.inr (g_IndexFunc_Half_i_FindHalf_1_L0_mx1 v3 v4 v5))) (emb := (fun p : Int => Sum.inl (g_IndexFunc_Half_i_FindHalf_1_L0_mx0 p v3 v4 v5))) (st := 1) (Inv := fun v2 a => True) (Int.toNat (v1 - v2)) v2 () _ (Nat.lt_succ_self _) trivial
    (fun j a hj hv => ⟨g_IndexFunc_Half_i_FindHalf_1_L0_st v0 v1 (v2 + 1 * (j : Int)) v3 v4 v5 (by omega) (by omega) (by omega) h2, fun _ _ => trivial⟩)
    (fun a hv => by
      show g_IndexFunc_Half_i_FindHalf_1_L0_B v0 v1 (v2 + 1 * (((Int.toNat (v1 - v2)) : Nat) : Int)) v3 v4 v5 (Option (g_IndexFunc_Half_i_FindHalf_1_L0_sh.T ⊕ WT g_IndexFunc_Half_i_FindHalf_1_L0_es)) none (fun v' => some (Sum.inl v')) (fun w => some (Sum.inr w)) = _
      unfold g_IndexFunc_Half_i_FindHalf_1_L0_B
      exact bifN (by simp only [decide_eq_false_iff_not]; omega) rfl)
def g_IndexFunc_Half_i_FindHalf_1_N (x0 : List Half) (y1_0 : Tupl) (γ : Type) (fail : γ) (k : Int × Tupl → γ) : γ :=
  optK (loopF g_IndexFunc_Half_i_FindHalf_1_L0_r.step (g_IndexFunc_Half_i_FindHalf_1_L0_fu x0 (x0.length : Int) 0 y1_0.ip y1_0.port y1_0.my) (g_IndexFunc_Half_i_FindHalf_1_L0_mk x0 (x0.length : Int) 0 y1_0.ip y1_0.port y1_0.my)) fail fun w2 =>
    Sum.elim (fun w2 =>
      k (w2.1.1.1, (⟨w2.2.1.1, w2.2.1.2.1, w2.2.1.2.2.1⟩ : Tupl)))
    (fun w2 =>
      k ((-1), (⟨w2.2.1.1, w2.2.1.2.1, w2.2.1.2.2.1⟩ : Tupl))) w2
def g_IndexFunc_Half_i_FindHalf_1 (x0 : List Half) (y1_0 : Tupl) : Int × Tupl :=
  Stp.elim (fun a3 =>
    ((-1), y1_0))
    (fun p3 =>
      (p3, y1_0))
    (forN (g_IndexFunc_Half_i_FindHalf_1_L0_f x0 (x0.length : Int) y1_0.ip y1_0.port y1_0.my) 1 (Int.toNat ((x0.length : Int) - 0)) 0 ())
theorem g_IndexFunc_Half_i_FindHalf_1_lk (x0 : List Half) (y1_0 : Tupl) : evalFnM te (orcOf (P := Tryz.prog) [i_FindHalf_1_e]) (lorcOf [g_IndexFunc_Half_i_FindHalf_1_L0_le]) g_IndexFunc_Half_i_FindHalf_1_ann Tryz.f75 (pvs [.sc (.sl .half), .fn 97 [0]] (x0, (), ())) (mos [.box [.c (.int .i64), .c (.int .i64), .c (.int .i64)]] ((y1_0.ip, y1_0.port, y1_0.my, ()), ())) =
  g_IndexFunc_Half_i_FindHalf_1_N x0 y1_0 _ none (fun v => some ([(false, [RC.c (.int .i64 v.1)])] ++ (mos [.box [.c (.int .i64), .c (.int .i64), .c (.int .i64)]] ((v.2.ip, v.2.port, v.2.my, ()), ())).map encO)) := by kernel_rfl
theorem g_IndexFunc_Half_i_FindHalf_1_p (x0 : List Half) (y1_0 : Tupl) (hx0 : x0.length ≤ 140737488355328) (hy1_0_ip : inK .i64 y1_0.ip) (hy1_0_port : inK .i64 y1_0.port) (hy1_0_my : inK .i64 y1_0.my)  (γ : Type) (fail : γ) (k : Int × Tupl → γ) : g_IndexFunc_Half_i_FindHalf_1_N x0 y1_0 γ fail k = k (g_IndexFunc_Half_i_FindHalf_1 x0 y1_0) := by
  unfold g_IndexFunc_Half_i_FindHalf_1_N g_IndexFunc_Half_i_FindHalf_1
  exact loopT (f := k) (g_IndexFunc_Half_i_FindHalf_1_L0_cl x0 (x0.length : Int) 0 y1_0.ip y1_0.port y1_0.my (by (try simp only [Nat.ble_eq, Bool.and_eq_true, decide_eq_true_eq, g_IndexFunc_Half_i_FindHalf_1_L0_mx0, g_IndexFunc_Half_i_FindHalf_1_L0_mx1]); grind [maxSl, maxStr, toBytes_length, toInts_length, List.length_set, wrap64]) (by (try simp only [Nat.ble_eq, Bool.and_eq_true, decide_eq_true_eq, g_IndexFunc_Half_i_FindHalf_1_L0_mx0, g_IndexFunc_Half_i_FindHalf_1_L0_mx1]); grind [maxSl, maxStr, toBytes_length, toInts_length, List.length_set, wrap64]) (by (try simp only [Nat.ble_eq, Bool.and_eq_true, decide_eq_true_eq, g_IndexFunc_Half_i_FindHalf_1_L0_mx0, g_IndexFunc_Half_i_FindHalf_1_L0_mx1]); grind [maxSl, maxStr, toBytes_length, toInts_length, List.length_set, wrap64])) (fun a3 => rfl)
      (fun p3 => rfl)
theorem g_IndexFunc_Half_i_FindHalf_1_c (x0 : List Half) (y1_0 : Tupl)  : ConM Tryz.prog 75 (pvs [.sc (.sl .half), .fn 97 [0]] (x0, (), ())) (mos [.box [.c (.int .i64), .c (.int .i64), .c (.int .i64)]] ((y1_0.ip, y1_0.port, y1_0.my, ()), ())) [rv (.sc (.int .i64)) [] (g_IndexFunc_Half_i_FindHalf_1 x0 y1_0).1] (mos [.box [.c (.int .i64), .c (.int .i64), .c (.int .i64)]] ((((g_IndexFunc_Half_i_FindHalf_1 x0 y1_0).2).ip, ((g_IndexFunc_Half_i_FindHalf_1 x0 y1_0).2).port, ((g_IndexFunc_Half_i_FindHalf_1 x0 y1_0).2).my, ()), ())) := by
  refine ConM.of_facts (enters_of Tryz.func75 rfl (by kernel_rfl)) fun hf hg => ?_
  replace hf := factAt hf
  exact evalFn_conLM teFact mixFact (orcOf_ok _) Tryz.func75 (by kernel_rfl) (bs := [0]) (by kernel_rfl) (by kernel_rfl) (by kernel_rfl) rfl (fun w0 mo I0 hmo => ⟨lsem_of_lorc (g_IndexFunc_Half_i_FindHalf_1_L0_ls w0 mo I0 hmo) (by kernel_rfl), trivial⟩) ((g_IndexFunc_Half_i_FindHalf_1_lk x0 y1_0).trans (g_IndexFunc_Half_i_FindHalf_1_p x0 y1_0 ((hf 0 0 rfl rfl).len) ((mbAt hg 0 0 rfl rfl).rng) ((mbAt hg 0 1 rfl rfl).rng) ((mbAt hg 0 2 rfl rfl).rng) _ _ _))
noncomputable def g_IndexFunc_Half_i_FindHalf_1_e : Ent1 Tryz.prog := entM 75 [.sc (.sl .half), .fn 97 [0]] [.box [.c (.int .i64), .c (.int .i64), .c (.int .i64)]] (fun x y => true) (fun x y => (g_IndexFunc_Half_i_FindHalf_1 x.1 (⟨y.1.1, y.1.2.1, y.1.2.2.1⟩ : Tupl))) (fun v => [rv (.sc (.int .i64)) [] v.1]) (fun x y v => (mos [.box [.c (.int .i64), .c (.int .i64), .c (.int .i64)]] ((v.2.ip, v.2.port, v.2.my, ()), ()))) (fun x y hx => g_IndexFunc_Half_i_FindHalf_1_c x.1 (⟨y.1.1, y.1.2.1, y.1.2.2.1⟩ : Tupl))


/-- slices.IndexFunc[[]impl.Conn,impl.Conn] -/
def g_IndexFunc_Conn_i_FindConn_1_ann : List (Nat × Keep) := [(0, ⟨[0, 1, 7, 8], [], false, 1⟩)]
def g_IndexFunc_Conn_i_FindConn_1_L0_sh : Sh := ⟨[(0, false, [.sl .arg .conn]), (1, false, [.fn 77 [0]]), (7, false, [.int .i64]), (8, false, [.int .i64])], [.box [.int .i64, .int .i64, .int .i64]]⟩
def g_IndexFunc_Conn_i_FindConn_1_L0_es : List (Ex × Sh) := [(.ret, ⟨[(4, false, [.int .i64])], [.box [.int .i64, .int .i64, .int .i64]]⟩), (.exit 0, ⟨[(4, false, [.undef])], [.box [.int .i64, .int .i64, .int .i64]]⟩)]
def g_IndexFunc_Conn_i_FindConn_1_L0_mk (v0 : List Conn) (v1 : Int) (v2 : Int) (v3 : Int) (v4 : Int) (v5 : Int) : g_IndexFunc_Conn_i_FindConn_1_L0_sh.T := (((v0, ()), (((), ()), ((v1, ()), ((v2, ()), ())))), ((v3, (v4, (v5, ()))), ()))
def g_IndexFunc_Conn_i_FindConn_1_L0_mx0 (y0 : Int) (y1 : Int) (y2 : Int) (y3 : Int) : Sh.T ⟨[(4, false, [.int .i64])], [.box [.int .i64, .int .i64, .int .i64]]⟩ := (((y0, ()), ()), ((y1, (y2, (y3, ()))), ()))
def g_IndexFunc_Conn_i_FindConn_1_L0_mx1 (y0 : Int) (y1 : Int) (y2 : Int) : Sh.T ⟨[(4, false, [.undef])], [.box [.int .i64, .int .i64, .int .i64]]⟩ := ((((), ()), ()), ((y0, (y1, (y2, ()))), ()))
def g_IndexFunc_Conn_i_FindConn_1_L0_B (v0 : List Conn) (v1 : Int) (v2 : Int) (v3 : Int) (v4 : Int) (v5 : Int) (γ : Type) (fail : γ) (next : g_IndexFunc_Conn_i_FindConn_1_L0_sh.T → γ) (out : WT g_IndexFunc_Conn_i_FindConn_1_L0_es → γ) : γ :=
  bif (decide (v2 < v1)) then
    bif ((decide (0 ≤ v2)) && (decide (v2 < (v0.length : Int)))) then
    letK (α := Bool) (i_FindConn_1 (v0.getD v2.toNat (Ty.zero .conn)) (⟨v3, v4, v5⟩ : Tupl)) fun c1 =>
    bif c1 then
      out (Sum.inl (g_IndexFunc_Conn_i_FindConn_1_L0_mx0 v2 v3 v4 v5))
    else
    next (g_IndexFunc_Conn_i_FindConn_1_L0_mk v0 v1 (IntKind.wrap .i64 (v2 + 1)) v3 v4 v5)
    else fail
  else
  out (Sum.inr (g_IndexFunc_Conn_i_FindConn_1_L0_mx1 v3 v4 v5))
theorem g_IndexFunc_Conn_i_FindConn_1_L0_par (v0 : List Conn) (v1 : Int) (v2 : Int) (v3 : Int) (v4 : Int) (v5 : Int) (γ : Type) (fail : γ) (next : g_IndexFunc_Conn_i_FindConn_1_L0_sh.T → γ) (out : WT g_IndexFunc_Conn_i_FindConn_1_L0_es → γ) : g_IndexFunc_Conn_i_FindConn_1_L0_B v0 v1 v2 v3 v4 v5 γ fail next out = optK (g_IndexFunc_Conn_i_FindConn_1_L0_B v0 v1 v2 v3 v4 v5 _ none (fun v' => some (.inl v')) (fun w => some (.inr w))) fail (fun r => Sum.elim next out r) := by
  unfold g_IndexFunc_Conn_i_FindConn_1_L0_B
  exact bifT (f := (fun o => optK o fail (fun r => Sum.elim next out r))) (fun _ => bifT (f := (fun o => optK o fail (fun r => Sum.elim next out r))) (fun _ => letT (f := (fun o => optK o fail (fun r => Sum.elim next out r))) (fun c1 _ => bifT (f := (fun o => optK o fail (fun r => Sum.elim next out r))) (fun _ => rfl)
      (fun _ => rfl))) (fun _ => rfl))
      (fun _ => rfl)
def g_IndexFunc_Conn_i_FindConn_1_L0_r : Round g_IndexFunc_Conn_i_FindConn_1_L0_sh.T (WT g_IndexFunc_Conn_i_FindConn_1_L0_es) where
  B v γ fail next out := g_IndexFunc_Conn_i_FindConn_1_L0_B v.1.1.1 v.1.2.2.1.1 v.1.2.2.2.1.1 v.2.1.1 v.2.1.2.1 v.2.1.2.2.1 γ fail next out
  par v γ fail next out := g_IndexFunc_Conn_i_FindConn_1_L0_par v.1.1.1 v.1.2.2.1.1 v.1.2.2.2.1.1 v.2.1.1 v.2.1.2.1 v.2.1.2.2.1 γ fail next out
def g_IndexFunc_Conn_i_FindConn_1_L0_fu (v0 : List Conn) (v1 : Int) (v2 : Int) (v3 : Int) (v4 : Int) (v5 : Int) : Nat := (Int.toNat (v1 - v2)) + 1
theorem g_IndexFunc_Conn_i_FindConn_1_L0_lk (v : g_IndexFunc_Conn_i_FindConn_1_L0_sh.T) (next : St → Option Res) (k : Ex → St → Option Res) : evalK te (orcOf (P := Tryz.prog) [i_FindConn_1_e]) (lorcOf []) Tryz.f76.ntmps g_IndexFunc_Conn_i_FindConn_1_ann (nthLoop (bodyOf Tryz.f76) 0 0) 0 (g_IndexFunc_Conn_i_FindConn_1_L0_sh.enc v) (endK ⟨[0, 1, 7, 8], [], false, 1⟩ ⟨[4], [], false, 1⟩ next k) =
  g_IndexFunc_Conn_i_FindConn_1_L0_r.B v _ none (fun v' => next (g_IndexFunc_Conn_i_FindConn_1_L0_sh.enc v')) (fun w => outK g_IndexFunc_Conn_i_FindConn_1_L0_es k w) := by kernel_rfl
def g_IndexFunc_Conn_i_FindConn_1_L0_le : LE := leOf 0 g_IndexFunc_Conn_i_FindConn_1_L0_sh g_IndexFunc_Conn_i_FindConn_1_L0_es g_IndexFunc_Conn_i_FindConn_1_L0_r.step (fun v => g_IndexFunc_Conn_i_FindConn_1_L0_fu v.1.1.1 v.1.2.2.1.1 v.1.2.2.2.1.1 v.2.1.1 v.2.1.2.1 v.2.1.2.2.1)
theorem g_IndexFunc_Conn_i_FindConn_1_L0_ls (w0 : World) (mo : Mts) (I0 : Nat → Prop) (hmo : mo.length = 1) : LSem Tryz.prog (Sim w0 mo Tryz.f76.ntmps I0) (fun b s k => match Nat.beq 0 b with | true => g_IndexFunc_Conn_i_FindConn_1_L0_le.run s k | false => none) 0 (nthLoop (bodyOf Tryz.f76) 0 0) :=
  le_sem hmo (lorc := lorcOf []) (ann := g_IndexFunc_Conn_i_FindConn_1_ann) (keep := ⟨[0, 1, 7, 8], [], false, 1⟩) (kout := ⟨[4], [], false, 1⟩) teFact mixFact (orcOf_ok _) (by kernel_rfl) (allLoops_of (bs := []) (by kernel_rfl) trivial) g_IndexFunc_Conn_i_FindConn_1_L0_r _ g_IndexFunc_Conn_i_FindConn_1_L0_lk
def g_IndexFunc_Conn_i_FindConn_1_L0_f (v0 : List Conn) (v1 : Int) (v3 : Int) (v4 : Int) (v5 : Int) (v2 : Int) (a : Unit) : Stp (Unit) ((Int)) :=
  letK (α := Bool) (i_FindConn_1 (v0.getD v2.toNat (Ty.zero .conn)) (⟨v3, v4, v5⟩ : Tupl)) fun c1 =>
  bif c1 then
    .out (v2)
  else
  .next ()
theorem g_IndexFunc_Conn_i_FindConn_1_L0_st (v0 : List Conn) (v1 : Int) (v2 : Int) (v3 : Int) (v4 : Int) (v5 : Int) (hlo : 0 ≤ v2) (hhi : v2 < v1) (hN : v1 ≤ 4611686018427387904) (hi0 : v1 ≤ (v0.length : Int)) : g_IndexFunc_Conn_i_FindConn_1_L0_r.step (g_IndexFunc_Conn_i_FindConn_1_L0_mk v0 v1 v2 v3 v4 v5) = Stp.elim (fun a' : Unit => some (Sum.inl (g_IndexFunc_Conn_i_FindConn_1_L0_mk v0 v1 (v2 + 1) v3 v4 v5))) (fun w => some (Sum.inr ((fun p : Int => Sum.inl (g_IndexFunc_Conn_i_FindConn_1_L0_mx0 p v3 v4 v5)) w))) (g_IndexFunc_Conn_i_FindConn_1_L0_f v0 v1 v3 v4 v5 v2 ()) := by
  have hw : (IntKind.wrap .i64 (v2 + 1)) = v2 + 1 := wrap64 (by omega) (by omega)
  show g_IndexFunc_Conn_i_FindConn_1_L0_B v0 v1 v2 v3 v4 v5 (Option (g_IndexFunc_Conn_i_FindConn_1_L0_sh.T ⊕ WT g_IndexFunc_Conn_i_FindConn_1_L0_es)) none (fun v' => some (Sum.inl v')) (fun w => some (Sum.inr w)) = _
  unfold g_IndexFunc_Conn_i_FindConn_1_L0_B g_IndexFunc_Conn_i_FindConn_1_L0_f
  exact bifG (by simp only [decide_eq_true_eq]; omega) (bifG (by (try simp only [Nat.ble_eq, Bool.and_eq_true, decide_eq_true_eq]); grind [maxSl, maxStr, toBytes_length, toInts_length, List.length_set, wrap64]) (letT (f := (Stp.elim (fun a' : Unit => some (Sum.inl (g_IndexFunc_Conn_i_FindConn_1_L0_mk v0 v1 (v2 + 1) v3 v4 v5))) (fun w => some (Sum.inr ((fun p : Int => Sum.inl (g_IndexFunc_Conn_i_FindConn_1_L0_mx0 p v3 v4 v5)) w))))) (fun c1 hc1 => bifT (f := (Stp.elim (fun a' : Unit => some (Sum.inl (g_IndexFunc_Conn_i_FindConn_1_L0_mk v0 v1 (v2 + 1) v3 v4 v5))) (fun w => some (Sum.inr ((fun p : Int => Sum.inl (g_IndexFunc_Conn_i_FindConn_1_L0_mx0 p v3 v4 v5)) w))))) (fun b0 => rfl)
      (fun b0 => (by exact congrArg (fun z => some (Sum.inl (g_IndexFunc_Conn_i_FindConn_1_L0_mk v0 v1 z v3 v4 v5))) hw)))))
theorem g_IndexFunc_Conn_i_FindConn_1_L0_cl (v0 : List Conn) (v1 : Int) (v2 : Int) (v3 : Int) (v4 : Int) (v5 : Int) (h0 : 0 ≤ v2) (h1 : v1 ≤ 4611686018427387904) (h2 : v1 ≤ (v0.length : Int)) : loopF g_IndexFunc_Conn_i_FindConn_1_L0_r.step (g_IndexFunc_Conn_i_FindConn_1_L0_fu v0 v1 v2 v3 v4 v5) (g_IndexFunc_Conn_i_FindConn_1_L0_mk v0 v1 v2 v3 v4 v5) = some (Stp.elim (fun a => (fun i a => Sum.inr (g_IndexFunc_Conn_i_FindConn_1_L0_mx1 v3 v4 v5)) (v2 + 1 * (((Int.toNat (v1 - v2)) : Nat) : Int)) a) (fun p : Int => Sum.inl (g_IndexFunc_Conn_i_FindConn_1_L0_mx0 p v3 v4 v5)) (forN (g_IndexFunc_Conn_i_FindConn_1_L0_f v0 v1 v3 v4 v5) 1 (Int.toNat (v1 - v2)) v2 ())) :=
  forN_loop (step := g_IndexFunc_Conn_i_FindConn_1_L0_r.step) (mk := fun v2 a => g_IndexFunc_Conn_i_FindConn_1_L0_mk v0 v1 v2 v3 v4 v5) (f := g_IndexFunc_Conn_i_FindConn_1_L0_f v0 v1 v3 v4 v5) (e := (fun i a => Sum.inr (g_IndexFunc_Conn_i_FindConn_1_L0_mx1 v3 v4 v5))) (emb := (fun p : Int => Sum.inl (g_IndexFunc_Conn_i_FindConn_1_L0_mx0 p v3 v4 v5))) (st := 1) (Inv := fun v2 a => True) (Int.toNat (v1 - v2)) v2 () _ (Nat.lt_succ_self _) trivial
    (fun j a hj hv => ⟨g_IndexFunc_Conn_i_FindConn_1_L0_st v0 v1 (v2 + 1 * (j : Int)) v3 v4 v5 (by omega) (by omega) (by omega) h2, fun _ _ => trivial⟩)
    (fun a hv => by
      show g_IndexFunc_Conn_i_FindConn_1_L0_B v0 v1 (v2 + 1 * (((Int.toNat (v1 - v2)) : Nat) : Int)) v3 v4 v5 (Option (g_IndexFunc_Conn_i_FindConn_1_L0_sh.T ⊕ WT g_IndexFunc_Conn_i_FindConn_1_L0_es)) none (fun v' => some (Sum.inl v')) (fun w => some (Sum.inr w)) = _
      unfold g_IndexFunc_Conn_i_FindConn_1_L0_B
      exact bifN (by simp only [decide_eq_false_iff_not]; omega) rfl)
def g_IndexFunc_Conn_i_FindConn_1_N (x0 : List Conn) (y1_0 : Tupl) (γ : Type) (fail : γ) (k : Int × Tupl → γ) : γ :=
  optK (loopF g_IndexFunc_Conn_i_FindConn_1_L0_r.step (g_IndexFunc_Conn_i_FindConn_1_L0_fu x0 (x0.length : Int) 0 y1_0.ip y1_0.port y1_0.my) (g_IndexFunc_Conn_i_FindConn_1_L0_mk x0 (x0.length : Int) 0 y1_0.ip y1_0.port y1_0.my)) fail fun w2 =>
    Sum.elim (fun w2 =>
      k (w2.1.1.1, (⟨w2.2.1.1, w2.2.1.2.1, w2.2.1.2.2.1⟩ : Tupl)))
    (fun w2 =>
      k ((-1), (⟨w2.2.1.1, w2.2.1.2.1, w2.2.1.2.2.1⟩ : Tupl))) w2
def g_IndexFunc_Conn_i_FindConn_1 (x0 : List Conn) (y1_0 : Tupl) : Int × Tupl :=
  Stp.elim (fun a3 =>
    ((-1), y1_0))
    (fun p3 =>
      (p3, y1_0))
    (forN (g_IndexFunc_Conn_i_FindConn_1_L0_f x0 (x0.length : Int) y1_0.ip y1_0.port y1_0.my) 1 (Int.toNat ((x0.length : Int) - 0)) 0 ())
theorem g_IndexFunc_Conn_i_FindConn_1_lk (x0 : List Conn) (y1_0 : Tupl) : evalFnM te (orcOf (P := Tryz.prog) [i_FindConn_1_e]) (lorcOf [g_IndexFunc_Conn_i_FindConn_1_L0_le]) g_IndexFunc_Conn_i_FindConn_1_ann Tryz.f76 (pvs [.sc (.sl .conn), .fn 77 [0]] (x0, (), ())) (mos [.box [.c (.int .i64), .c (.int .i64), .c (.int .i64)]] ((y1_0.ip, y1_0.port, y1_0.my, ()), ())) =
  g_IndexFunc_Conn_i_FindConn_1_N x0 y1_0 _ none (fun v => some ([(false, [RC.c (.int .i64 v.1)])] ++ (mos [.box [.c (.int .i64), .c (.int .i64), .c (.int .i64)]] ((v.2.ip, v.2.port, v.2.my, ()), ())).map encO)) := by kernel_rfl
theorem g_IndexFunc_Conn_i_FindConn_1_p (x0 : List Conn) (y1_0 : Tupl) (hx0 : x0.length ≤ 140737488355328) (hx0_e : ∀ y ∈ x0, ∀ c ∈ Ty.cells .conn y, FactC c) (hy1_0_ip : inK .i64 y1_0.ip) (hy1_0_port : inK .i64 y1_0.port) (hy1_0_my : inK .i64 y1_0.my)  (γ : Type) (fail : γ) (k : Int × Tupl → γ) : g_IndexFunc_Conn_i_FindConn_1_N x0 y1_0 γ fail k = k (g_IndexFunc_Conn_i_FindConn_1 x0 y1_0) := by
  unfold g_IndexFunc_Conn_i_FindConn_1_N g_IndexFunc_Conn_i_FindConn_1
  exact loopT (f := k) (g_IndexFunc_Conn_i_FindConn_1_L0_cl x0 (x0.length : Int) 0 y1_0.ip y1_0.port y1_0.my (by (try simp only [Nat.ble_eq, Bool.and_eq_true, decide_eq_true_eq, g_IndexFunc_Conn_i_FindConn_1_L0_mx0, g_IndexFunc_Conn_i_FindConn_1_L0_mx1]); grind [maxSl, maxStr, toBytes_length, toInts_length, List.length_set, wrap64]) (by (try simp only [Nat.ble_eq, Bool.and_eq_true, decide_eq_true_eq, g_IndexFunc_Conn_i_FindConn_1_L0_mx0, g_IndexFunc_Conn_i_FindConn_1_L0_mx1]); grind [maxSl, maxStr, toBytes_length, toInts_length, List.length_set, wrap64]) (by (try simp only [Nat.ble_eq, Bool.and_eq_true, decide_eq_true_eq, g_IndexFunc_Conn_i_FindConn_1_L0_mx0, g_IndexFunc_Conn_i_FindConn_1_L0_mx1]); grind [maxSl, maxStr, toBytes_length, toInts_length, List.length_set, wrap64])) (fun a3 => rfl)
      (fun p3 => rfl)
theorem g_IndexFunc_Conn_i_FindConn_1_c (x0 : List Conn) (y1_0 : Tupl)  : ConM Tryz.prog 76 (pvs [.sc (.sl .conn), .fn 77 [0]] (x0, (), ())) (mos [.box [.c (.int .i64), .c (.int .i64), .c (.int .i64)]] ((y1_0.ip, y1_0.port, y1_0.my, ()), ())) [rv (.sc (.int .i64)) [] (g_IndexFunc_Conn_i_FindConn_1 x0 y1_0).1] (mos [.box [.c (.int .i64), .c (.int .i64), .c (.int .i64)]] ((((g_IndexFunc_Conn_i_FindConn_1 x0 y1_0).2).ip, ((g_IndexFunc_Conn_i_FindConn_1 x0 y1_0).2).port, ((g_IndexFunc_Conn_i_FindConn_1 x0 y1_0).2).my, ()), ())) := by
  refine ConM.of_facts (enters_of Tryz.func76 rfl (by kernel_rfl)) fun hf hg => ?_
  replace hf := factAt hf
  exact evalFn_conLM teFact mixFact (orcOf_ok _) Tryz.func76 (by kernel_rfl) (bs := [0]) (by kernel_rfl) (by kernel_rfl) (by kernel_rfl) rfl (fun w0 mo I0 hmo => ⟨lsem_of_lorc (g_IndexFunc_Conn_i_FindConn_1_L0_ls w0 mo I0 hmo) (by kernel_rfl), trivial⟩) ((g_IndexFunc_Conn_i_FindConn_1_lk x0 y1_0).trans (g_IndexFunc_Conn_i_FindConn_1_p x0 y1_0 ((hf 0 0 rfl rfl).len) (fun y hy => (hf 0 0 rfl rfl).elem hy) ((mbAt hg 0 0 rfl rfl).rng) ((mbAt hg 0 1 rfl rfl).rng) ((mbAt hg 0 2 rfl rfl).rng) _ _ _))
noncomputable def g_IndexFunc_Conn_i_FindConn_1_e : Ent1 Tryz.prog := entM 76 [.sc (.sl .conn), .fn 77 [0]] [.box [.c (.int .i64), .c (.int .i64), .c (.int .i64)]] (fun x y => true) (fun x y => (g_IndexFunc_Conn_i_FindConn_1 x.1 (⟨y.1.1, y.1.2.1, y.1.2.2.1⟩ : Tupl))) (fun v => [rv (.sc (.int .i64)) [] v.1]) (fun x y v => (mos [.box [.c (.int .i64), .c (.int .i64), .c (.int .i64)]] ((v.2.ip, v.2.port, v.2.my, ()), ()))) (fun x y hx => g_IndexFunc_Conn_i_FindConn_1_c x.1 (⟨y.1.1, y.1.2.1, y.1.2.2.1⟩ : Tupl))


/-- spec.TableOk -/
def s_TableOk_ann : List (Nat × Keep) := [(0, ⟨[2, 5], [], false, 0⟩), (2, ⟨[2, 6], [], false, 0⟩)]
def s_TableOk_L0_sh : Sh := ⟨[(2, false, [.ptr 0 0]), (5, false, [.int .i64])], [.box [.sl .arg .conn, .sl .arg .tupl]]⟩
def s_TableOk_L0_es : List (Ex × Sh) := [(.ret, ⟨[(2, false, [.ptr 0 0]), (4, false, [.bool])], [.box [.sl .arg .conn, .sl .arg .tupl]]⟩), (.exit 0, ⟨[(2, false, [.ptr 0 0]), (4, false, [.undef])], [.box [.sl .arg .conn, .sl .arg .tupl]]⟩)]
def s_TableOk_L0_mk (v0 : Int) (v1 : List Conn) (v2 : List Tupl) : s_TableOk_L0_sh.T := ((((), ()), ((v0, ()), ())), ((v1, (v2, ())), ()))
def s_TableOk_L0_mx0 (y0 : Bool) (y1 : List Conn) (y2 : List Tupl) : Sh.T ⟨[(2, false, [.ptr 0 0]), (4, false, [.bool])], [.box [.sl .arg .conn, .sl .arg .tupl]]⟩ := ((((), ()), ((y0, ()), ())), ((y1, (y2, ())), ()))
def s_TableOk_L0_mx1 (y0 : List Conn) (y1 : List Tupl) : Sh.T ⟨[(2, false, [.ptr 0 0]), (4, false, [.undef])], [.box [.sl .arg .conn, .sl .arg .tupl]]⟩ := ((((), ()), (((), ()), ())), ((y0, (y1, ())), ()))
def s_TableOk_L0_B (v0 : Int) (v1 : List Conn) (v2 : List Tupl) (γ : Type) (fail : γ) (next : s_TableOk_L0_sh.T → γ) (out : WT s_TableOk_L0_es → γ) : γ :=
  bif (decide (v0 < (v1.length : Int))) then
    bif ((decide (0 ≤ v0)) && (decide (v0 < (v1.length : Int)))) then
    letK (α := Bool) (s_ConnOk (v1.getD v0.toNat (Ty.zero .conn))) fun c2 =>
    bif (!c2) then
      out (Sum.inl (s_TableOk_L0_mx0 false v1 v2))
    else
    bif ((decide (0 ≤ v0)) && (decide (v0 < (v1.length : Int)))) then
    letK (α := Int) (s_FindConn (⟨v1, v2⟩ : Tabl) ((v1.getD v0.toNat (Ty.zero .conn)).tuple)) fun c3 =>
    bif (c3 != v0) then
      out (Sum.inl (s_TableOk_L0_mx0 false v1 v2))
    else
    next (s_TableOk_L0_mk (IntKind.wrap .i64 (v0 + 1)) v1 v2)
    else fail
    else fail
  else
  out (Sum.inr (s_TableOk_L0_mx1 v1 v2))
theorem s_TableOk_L0_par (v0 : Int) (v1 : List Conn) (v2 : List Tupl) (γ : Type) (fail : γ) (next : s_TableOk_L0_sh.T → γ) (out : WT s_TableOk_L0_es → γ) : s_TableOk_L0_B v0 v1 v2 γ fail next out = optK (s_TableOk_L0_B v0 v1 v2 _ none (fun v' => some (.inl v')) (fun w => some (.inr w))) fail (fun r => Sum.elim next out r) := by
  unfold s_TableOk_L0_B
  exact bifT (f := (fun o => optK o fail (fun r => Sum.elim next out r))) (fun _ => bifT (f := (fun o => optK o fail (fun r => Sum.elim next out r))) (fun _ => letT (f := (fun o => optK o fail (fun r => Sum.elim next out r))) (fun c2 _ => bifT (f := (fun o => optK o fail (fun r => Sum.elim next out r))) (fun _ => rfl)
      (fun _ => bifT (f := (fun o => optK o fail (fun r => Sum.elim next out r))) (fun _ => letT (f := (fun o => optK o fail (fun r => Sum.elim next out r))) (fun c3 _ => bifT (f := (fun o => optK o fail (fun r => Sum.elim next out r))) (fun _ => rfl)
      (fun _ => rfl))) (fun _ => rfl)))) (fun _ => rfl))
      (fun _ => rfl)
def s_TableOk_L0_r : Round s_TableOk_L0_sh.T (WT s_TableOk_L0_es) where
  B v γ fail next out := s_TableOk_L0_B v.1.2.1.1 v.2.1.1 v.2.1.2.1 γ fail next out
  par v γ fail next out := s_TableOk_L0_par v.1.2.1.1 v.2.1.1 v.2.1.2.1 γ fail next out
def s_TableOk_L0_fu (v0 : Int) (v1 : List Conn) (v2 : List Tupl) : Nat := (Int.toNat ((v1.length : Int) - v0)) + 1
theorem s_TableOk_L0_lk (v : s_TableOk_L0_sh.T) (next : St → Option Res) (k : Ex → St → Option Res) : evalK te (orcOf (P := Tryz.prog) [s_LimitsOk_e, s_ConnOk_e, s_FindConn_e, s_l25Waits_e]) (lorcOf []) Tryz.f26.ntmps s_TableOk_ann (nthLoop (bodyOf Tryz.f26) 0 0) 0 (s_TableOk_L0_sh.enc v) (endK ⟨[2, 5], [], false, 0⟩ ⟨[2, 4], [], false, 0⟩ next k) =
  s_TableOk_L0_r.B v _ none (fun v' => next (s_TableOk_L0_sh.enc v')) (fun w => outK s_TableOk_L0_es k w) := by kernel_rfl
def s_TableOk_L0_le : LE := leOf 0 s_TableOk_L0_sh s_TableOk_L0_es s_TableOk_L0_r.step (fun v => s_TableOk_L0_fu v.1.2.1.1 v.2.1.1 v.2.1.2.1)
theorem s_TableOk_L0_ls (w0 : World) (mo : Mts) (I0 : Nat → Prop) (hmo : mo.length = 0) : LSem Tryz.prog (Sim w0 mo Tryz.f26.ntmps I0) (fun b s k => match Nat.beq 0 b with | true => s_TableOk_L0_le.run s k | false => none) 0 (nthLoop (bodyOf Tryz.f26) 0 0) :=
  le_sem hmo (lorc := lorcOf []) (ann := s_TableOk_ann) (keep := ⟨[2, 5], [], false, 0⟩) (kout := ⟨[2, 4], [], false, 0⟩) teFact mixFact (orcOf_ok _) (by kernel_rfl) (allLoops_of (bs := []) (by kernel_rfl) trivial) s_TableOk_L0_r _ s_TableOk_L0_lk
def s_TableOk_L0_f (v1 : List Conn) (v2 : List Tupl) (v0 : Int) (a : Unit) : Stp (Unit) ((Unit)) :=
  letK (α := Bool) (s_ConnOk (v1.getD v0.toNat (Ty.zero .conn))) fun c2 =>
  bif (!c2) then
    .out (())
  else
  letK (α := Int) (s_FindConn (⟨v1, v2⟩ : Tabl) ((v1.getD v0.toNat (Ty.zero .conn)).tuple)) fun c3 =>
  bif (c3 != v0) then
    .out (())
  else
  .next ()
theorem s_TableOk_L0_st (v0 : Int) (v1 : List Conn) (v2 : List Tupl) (hlo : 0 ≤ v0) (hhi : v0 < (v1.length : Int)) (hN : (v1.length : Int) ≤ 4611686018427387904) : s_TableOk_L0_r.step (s_TableOk_L0_mk v0 v1 v2) = Stp.elim (fun a' : Unit => some (Sum.inl (s_TableOk_L0_mk (v0 + 1) v1 v2))) (fun w => some (Sum.inr ((fun p : Unit => Sum.inl (s_TableOk_L0_mx0 false v1 v2)) w))) (s_TableOk_L0_f v1 v2 v0 ()) := by
  have hw : (IntKind.wrap .i64 (v0 + 1)) = v0 + 1 := wrap64 (by omega) (by omega)
  show s_TableOk_L0_B v0 v1 v2 (Option (s_TableOk_L0_sh.T ⊕ WT s_TableOk_L0_es)) none (fun v' => some (Sum.inl v')) (fun w => some (Sum.inr w)) = _
  unfold s_TableOk_L0_B s_TableOk_L0_f
  exact bifG (by simp only [decide_eq_true_eq]; omega) (bifG (by (try simp only [Nat.ble_eq, Bool.and_eq_true, decide_eq_true_eq]); grind [maxSl, maxStr, toBytes_length, toInts_length, List.length_set, wrap64]) (letT (f := (Stp.elim (fun a' : Unit => some (Sum.inl (s_TableOk_L0_mk (v0 + 1) v1 v2))) (fun w => some (Sum.inr ((fun p : Unit => Sum.inl (s_TableOk_L0_mx0 false v1 v2)) w))))) (fun c2 hc2 => bifT (f := (Stp.elim (fun a' : Unit => some (Sum.inl (s_TableOk_L0_mk (v0 + 1) v1 v2))) (fun w => some (Sum.inr ((fun p : Unit => Sum.inl (s_TableOk_L0_mx0 false v1 v2)) w))))) (fun b0 => rfl)
      (fun b0 => bifG (by (try simp only [Nat.ble_eq, Bool.and_eq_true, decide_eq_true_eq]); grind [maxSl, maxStr, toBytes_length, toInts_length, List.length_set, wrap64]) (letT (f := (Stp.elim (fun a' : Unit => some (Sum.inl (s_TableOk_L0_mk (v0 + 1) v1 v2))) (fun w => some (Sum.inr ((fun p : Unit => Sum.inl (s_TableOk_L0_mx0 false v1 v2)) w))))) (fun c3 hc3 => bifT (f := (Stp.elim (fun a' : Unit => some (Sum.inl (s_TableOk_L0_mk (v0 + 1) v1 v2))) (fun w => some (Sum.inr ((fun p : Unit => Sum.inl (s_TableOk_L0_mx0 false v1 v2)) w))))) (fun b1 => rfl)
      (fun b1 => (by exact congrArg (fun z => some (Sum.inl (s_TableOk_L0_mk z v1 v2))) hw))))))))
theorem s_TableOk_L0_cl (v0 : Int) (v1 : List Conn) (v2 : List Tupl) (h0 : 0 ≤ v0) (h1 : (v1.length : Int) ≤ 4611686018427387904) : loopF s_TableOk_L0_r.step (s_TableOk_L0_fu v0 v1 v2) (s_TableOk_L0_mk v0 v1 v2) = some (Stp.elim (fun a => (fun i a => Sum.inr (s_TableOk_L0_mx1 v1 v2)) (v0 + 1 * (((Int.toNat ((v1.length : Int) - v0)) : Nat) : Int)) a) (fun p : Unit => Sum.inl (s_TableOk_L0_mx0 false v1 v2)) (forN (s_TableOk_L0_f v1 v2) 1 (Int.toNat ((v1.length : Int) - v0)) v0 ())) :=
  forN_loop (step := s_TableOk_L0_r.step) (mk := fun v0 a => s_TableOk_L0_mk v0 v1 v2) (f := s_TableOk_L0_f v1 v2) (e := (fun i a => Sum.inr (s_TableOk_L0_mx1 v1 v2))) (emb := (fun p : Unit => Sum.inl (s_TableOk_L0_mx0 false v1 v2))) (st := 1) (Inv := fun v0 a => True) (Int.toNat ((v1.length : Int) - v0)) v0 () _ (Nat.lt_succ_self _) trivial
    (fun j a hj hv => ⟨s_TableOk_L0_st (v0 + 1 * (j : Int)) v1 v2 (by omega) (by omega) (by omega), fun _ _ => trivial⟩)
    (fun a hv => by
      show s_TableOk_L0_B (v0 + 1 * (((Int.toNat ((v1.length : Int) - v0)) : Nat) : Int)) v1 v2 (Option (s_TableOk_L0_sh.T ⊕ WT s_TableOk_L0_es)) none (fun v' => some (Sum.inl v')) (fun w => some (Sum.inr w)) = _
      unfold s_TableOk_L0_B
      exact bifN (by simp only [decide_eq_false_iff_not]; omega) rfl)
def s_TableOk_L1_sh : Sh := ⟨[(2, false, [.ptr 0 0]), (6, false, [.int .i64])], [.box [.sl .arg .conn, .sl .arg .tupl]]⟩
def s_TableOk_L1_es : List (Ex × Sh) := [(.ret, ⟨[(4, false, [.bool])], []⟩), (.exit 2, ⟨[(4, false, [.undef])], []⟩)]
def s_TableOk_L1_mk (v0 : Int) (v1 : List Conn) (v2 : List Tupl) : s_TableOk_L1_sh.T := ((((), ()), ((v0, ()), ())), ((v1, (v2, ())), ()))
def s_TableOk_L1_mx0 (y0 : Bool) : Sh.T ⟨[(4, false, [.bool])], []⟩ := (((y0, ()), ()), ())
def s_TableOk_L1_mx1  : Sh.T ⟨[(4, false, [.undef])], []⟩ := ((((), ()), ()), ())
def s_TableOk_L1_B (v0 : Int) (v1 : List Conn) (v2 : List Tupl) (γ : Type) (fail : γ) (next : s_TableOk_L1_sh.T → γ) (out : WT s_TableOk_L1_es → γ) : γ :=
  bif (decide (v0 < (v2.length : Int))) then
    bif ((decide (0 ≤ v0)) && (decide (v0 ≤ (v2.length : Int)))) then
    bif ((decide (0 ≤ v0)) && (decide (v0 < (v2.length : Int)))) then
    letK (α := Bool) (s_l25Waits ((v2.take v0.toNat).drop 0) (v2.getD v0.toNat (Ty.zero .tupl))) fun c5 =>
    bif c5 then
      out (Sum.inl (s_TableOk_L1_mx0 false))
    else
    bif ((decide (0 ≤ v0)) && (decide (v0 < (v2.length : Int)))) then
    letK (α := Int) (s_FindConn (⟨v1, v2⟩ : Tabl) (v2.getD v0.toNat (Ty.zero .tupl))) fun c6 =>
    bif (decide (c6 < 0)) then
      out (Sum.inl (s_TableOk_L1_mx0 false))
    else
    next (s_TableOk_L1_mk (IntKind.wrap .i64 (v0 + 1)) v1 v2)
    else fail
    else fail
    else fail
  else
  out (Sum.inr (s_TableOk_L1_mx1 ))
theorem s_TableOk_L1_par (v0 : Int) (v1 : List Conn) (v2 : List Tupl) (γ : Type) (fail : γ) (next : s_TableOk_L1_sh.T → γ) (out : WT s_TableOk_L1_es → γ) : s_TableOk_L1_B v0 v1 v2 γ fail next out = optK (s_TableOk_L1_B v0 v1 v2 _ none (fun v' => some (.inl v')) (fun w => some (.inr w))) fail (fun r => Sum.elim next out r) := by
  unfold s_TableOk_L1_B
  exact bifT (f := (fun o => optK o fail (fun r => Sum.elim next out r))) (fun _ => bifT (f := (fun o => optK o fail (fun r => Sum.elim next out r))) (fun _ => bifT (f := (fun o => optK o fail (fun r => Sum.elim next out r))) (fun _ => letT (f := (fun o => optK o fail (fun r => Sum.elim next out r))) (fun c5 _ => bifT (f := (fun o => optK o fail (fun r => Sum.elim next out r))) (fun _ => rfl)
      (fun _ => bifT (f := (fun o => optK o fail (fun r => Sum.elim next out r))) (fun _ => letT (f := (fun o => optK o fail (fun r => Sum.elim next out r))) (fun c6 _ => bifT (f := (fun o => optK o fail (fun r => Sum.elim next out r))) (fun _ => rfl)
      (fun _ => rfl))) (fun _ => rfl)))) (fun _ => rfl)) (fun _ => rfl))
      (fun _ => rfl)
def s_TableOk_L1_r : Round s_TableOk_L1_sh.T (WT s_TableOk_L1_es) where
  B v γ fail next out := s_TableOk_L1_B v.1.2.1.1 v.2.1.1 v.2.1.2.1 γ fail next out
  par v γ fail next out := s_TableOk_L1_par v.1.2.1.1 v.2.1.1 v.2.1.2.1 γ fail next out
def s_TableOk_L1_fu (v0 : Int) (v1 : List Conn) (v2 : List Tupl) : Nat := (Int.toNat ((v2.length : Int) - v0)) + 1
theorem s_TableOk_L1_lk (v : s_TableOk_L1_sh.T) (next : St → Option Res) (k : Ex → St → Option Res) : evalK te (orcOf (P := Tryz.prog) [s_LimitsOk_e, s_ConnOk_e, s_FindConn_e, s_l25Waits_e]) (lorcOf []) Tryz.f26.ntmps s_TableOk_ann (nthLoop (bodyOf Tryz.f26) 0 1) 2 (s_TableOk_L1_sh.enc v) (endK ⟨[2, 6], [], false, 0⟩ ⟨[4], [], false, 0⟩ next k) =
  s_TableOk_L1_r.B v _ none (fun v' => next (s_TableOk_L1_sh.enc v')) (fun w => outK s_TableOk_L1_es k w) := by kernel_rfl
def s_TableOk_L1_le : LE := leOf 2 s_TableOk_L1_sh s_TableOk_L1_es s_TableOk_L1_r.step (fun v => s_TableOk_L1_fu v.1.2.1.1 v.2.1.1 v.2.1.2.1)
theorem s_TableOk_L1_ls (w0 : World) (mo : Mts) (I0 : Nat → Prop) (hmo : mo.length = 0) : LSem Tryz.prog (Sim w0 mo Tryz.f26.ntmps I0) (fun b s k => match Nat.beq 2 b with | true => s_TableOk_L1_le.run s k | false => none) 2 (nthLoop (bodyOf Tryz.f26) 0 1) :=
  le_sem hmo (lorc := lorcOf []) (ann := s_TableOk_ann) (keep := ⟨[2, 6], [], false, 0⟩) (kout := ⟨[4], [], false, 0⟩) teFact mixFact (orcOf_ok _) (by kernel_rfl) (allLoops_of (bs := []) (by kernel_rfl) trivial) s_TableOk_L1_r _ s_TableOk_L1_lk
def s_TableOk_L1_f (v1 : List Conn) (v2 : List Tupl) (v0 : Int) (a : Unit) : Stp (Unit) ((Unit)) :=
  letK (α := Bool) (s_l25Waits ((v2.take v0.toNat).drop 0) (v2.getD v0.toNat (Ty.zero .tupl))) fun c5 =>
  bif c5 then
    .out (())
  else
  letK (α := Int) (s_FindConn (⟨v1, v2⟩ : Tabl) (v2.getD v0.toNat (Ty.zero .tupl))) fun c6 =>
  bif (decide (c6 < 0)) then
    .out (())
  else
  .next ()
theorem s_TableOk_L1_st (v0 : Int) (v1 : List Conn) (v2 : List Tupl) (hlo : 0 ≤ v0) (hhi : v0 < (v2.length : Int)) (hN : (v2.length : Int) ≤ 4611686018427387904) : s_TableOk_L1_r.step (s_TableOk_L1_mk v0 v1 v2) = Stp.elim (fun a' : Unit => some (Sum.inl (s_TableOk_L1_mk (v0 + 1) v1 v2))) (fun w => some (Sum.inr ((fun p : Unit => Sum.inl (s_TableOk_L1_mx0 false)) w))) (s_TableOk_L1_f v1 v2 v0 ()) := by
  have hw : (IntKind.wrap .i64 (v0 + 1)) = v0 + 1 := wrap64 (by omega) (by omega)
  show s_TableOk_L1_B v0 v1 v2 (Option (s_TableOk_L1_sh.T ⊕ WT s_TableOk_L1_es)) none (fun v' => some (Sum.inl v')) (fun w => some (Sum.inr w)) = _
  unfold s_TableOk_L1_B s_TableOk_L1_f
  exact bifG (by simp only [decide_eq_true_eq]; omega) (bifG (by (try simp only [Nat.ble_eq, Bool.and_eq_true, decide_eq_true_eq]); grind [maxSl, maxStr, toBytes_length, toInts_length, List.length_set, wrap64]) (bifG (by (try simp only [Nat.ble_eq, Bool.and_eq_true, decide_eq_true_eq]); grind [maxSl, maxStr, toBytes_length, toInts_length, List.length_set, wrap64]) (letT (f := (Stp.elim (fun a' : Unit => some (Sum.inl (s_TableOk_L1_mk (v0 + 1) v1 v2))) (fun w => some (Sum.inr ((fun p : Unit => Sum.inl (s_TableOk_L1_mx0 false)) w))))) (fun c5 hc5 => bifT (f := (Stp.elim (fun a' : Unit => some (Sum.inl (s_TableOk_L1_mk (v0 + 1) v1 v2))) (fun w => some (Sum.inr ((fun p : Unit => Sum.inl (s_TableOk_L1_mx0 false)) w))))) (fun b0 => rfl)
      (fun b0 => bifG (by (try simp only [Nat.ble_eq, Bool.and_eq_true, decide_eq_true_eq]); grind [maxSl, maxStr, toBytes_length, toInts_length, List.length_set, wrap64]) (letT (f := (Stp.elim (fun a' : Unit => some (Sum.inl (s_TableOk_L1_mk (v0 + 1) v1 v2))) (fun w => some (Sum.inr ((fun p : Unit => Sum.inl (s_TableOk_L1_mx0 false)) w))))) (fun c6 hc6 => bifT (f := (Stp.elim (fun a' : Unit => some (Sum.inl (s_TableOk_L1_mk (v0 + 1) v1 v2))) (fun w => some (Sum.inr ((fun p : Unit => Sum.inl (s_TableOk_L1_mx0 false)) w))))) (fun b1 => rfl)
      (fun b1 => (by exact congrArg (fun z => some (Sum.inl (s_TableOk_L1_mk z v1 v2))) hw)))))))))
theorem s_TableOk_L1_cl (v0 : Int) (v1 : List Conn) (v2 : List Tupl) (h0 : 0 ≤ v0) (h1 : (v2.length : Int) ≤ 4611686018427387904) : loopF s_TableOk_L1_r.step (s_TableOk_L1_fu v0 v1 v2) (s_TableOk_L1_mk v0 v1 v2) = some (Stp.elim (fun a => (fun i a => Sum.inr (s_TableOk_L1_mx1 )) (v0 + 1 * (((Int.toNat ((v2.length : Int) - v0)) : Nat) : Int)) a) (fun p : Unit => Sum.inl (s_TableOk_L1_mx0 false)) (forN (s_TableOk_L1_f v1 v2) 1 (Int.toNat ((v2.length : Int) - v0)) v0 ())) :=
  forN_loop (step := s_TableOk_L1_r.step) (mk := fun v0 a => s_TableOk_L1_mk v0 v1 v2) (f := s_TableOk_L1_f v1 v2) (e := (fun i a => Sum.inr (s_TableOk_L1_mx1 ))) (emb := (fun p : Unit => Sum.inl (s_TableOk_L1_mx0 false))) (st := 1) (Inv := fun v0 a => True) (Int.toNat ((v2.length : Int) - v0)) v0 () _ (Nat.lt_succ_self _) trivial
    (fun j a hj hv => ⟨s_TableOk_L1_st (v0 + 1 * (j : Int)) v1 v2 (by omega) (by omega) (by omega), fun _ _ => trivial⟩)
    (fun a hv => by
      show s_TableOk_L1_B (v0 + 1 * (((Int.toNat ((v2.length : Int) - v0)) : Nat) : Int)) v1 v2 (Option (s_TableOk_L1_sh.T ⊕ WT s_TableOk_L1_es)) none (fun v' => some (Sum.inl v')) (fun w => some (Sum.inr w)) = _
      unfold s_TableOk_L1_B
      exact bifN (by simp only [decide_eq_false_iff_not]; omega) rfl)
def s_TableOk_N (x0 : Tabl) (x1 : Limi) (γ : Type) (fail : γ) (k : Bool → γ) : γ :=
  letK (α := Bool) (s_LimitsOk x1) fun c1 =>
  bif (!c1) then
    k false
  else
  bif (decide (x1.conns < (x0.conns.length : Int))) then
    k false
  else
  bif (decide (x1.waiting < (x0.waiting.length : Int))) then
    k false
  else
  optK (loopF s_TableOk_L0_r.step (s_TableOk_L0_fu 0 x0.conns x0.waiting) (s_TableOk_L0_mk 0 x0.conns x0.waiting)) fail fun w4 =>
    Sum.elim (fun w4 =>
      k w4.1.2.1.1)
    (fun w4 =>
      optK (loopF s_TableOk_L1_r.step (s_TableOk_L1_fu 0 w4.2.1.1 w4.2.1.2.1) (s_TableOk_L1_mk 0 w4.2.1.1 w4.2.1.2.1)) fail fun w7 =>
        Sum.elim (fun w7 =>
          k w7.1.1.1)
        (fun w7 =>
          k true) w7) w4
def s_TableOk (x0 : Tabl) (x1 : Limi) : Bool :=
  letK (α := Bool) (s_LimitsOk x1) fun c1 =>
  bif (!c1) then
    false
  else
  bif (decide (x1.conns < (x0.conns.length : Int))) then
    false
  else
  bif (decide (x1.waiting < (x0.waiting.length : Int))) then
    false
  else
  Stp.elim (fun a9 =>
    Stp.elim (fun a11 =>
      true)
      (fun p11 =>
        false)
      (forN (s_TableOk_L1_f x0.conns x0.waiting) 1 (Int.toNat ((x0.waiting.length : Int) - 0)) 0 ()))
    (fun p9 =>
      false)
    (forN (s_TableOk_L0_f x0.conns x0.waiting) 1 (Int.toNat ((x0.conns.length : Int) - 0)) 0 ())
theorem s_TableOk_lk (x0 : Tabl) (x1 : Limi) : evalFn te (orcOf (P := Tryz.prog) [s_LimitsOk_e, s_ConnOk_e, s_FindConn_e, s_l25Waits_e]) (lorcOf [s_TableOk_L0_le, s_TableOk_L1_le]) s_TableOk_ann Tryz.f26 (pvs [.st .tabl, .st .limi] (x0, x1, ())) =
  s_TableOk_N x0 x1 _ none (fun v => some [(false, [RC.c (.bool v)])]) := by kernel_rfl
theorem s_TableOk_p (x0 : Tabl) (x1 : Limi) (hx0_conns : x0.conns.length ≤ 140737488355328) (hx0_conns_e : ∀ y ∈ x0.conns, ∀ c ∈ Ty.cells .conn y, FactC c) (hx0_waiting : x0.waiting.length ≤ 140737488355328) (hx1_halves : inK .i64 x1.halves) (hx1_waiting : inK .i64 x1.waiting) (hx1_conns : inK .i64 x1.conns) (hx1_chal : inK .i64 x1.chal)  (γ : Type) (fail : γ) (k : Bool → γ) : s_TableOk_N x0 x1 γ fail k = k (s_TableOk x0 x1) := by
  unfold s_TableOk_N s_TableOk
  exact letT (f := k) (fun c1 hc1 => bifT (f := k) (fun b0 => rfl)
      (fun b0 => bifT (f := k) (fun b1 => rfl)
      (fun b1 => bifT (f := k) (fun b2 => rfl)
      (fun b2 => loopT (f := k) (s_TableOk_L0_cl 0 x0.conns x0.waiting (by (try simp only [Nat.ble_eq, Bool.and_eq_true, decide_eq_true_eq, s_TableOk_L0_mx0, s_TableOk_L0_mx1, s_TableOk_L1_mx0, s_TableOk_L1_mx1]); grind [maxSl, maxStr, toBytes_length, toInts_length, List.length_set, wrap64]) (by (try simp only [Nat.ble_eq, Bool.and_eq_true, decide_eq_true_eq, s_TableOk_L0_mx0, s_TableOk_L0_mx1, s_TableOk_L1_mx0, s_TableOk_L1_mx1]); grind [maxSl, maxStr, toBytes_length, toInts_length, List.length_set, wrap64])) (fun a9 => loopT (f := k) (s_TableOk_L1_cl 0 x0.conns x0.waiting (by (try simp only [Nat.ble_eq, Bool.and_eq_true, decide_eq_true_eq, s_TableOk_L0_mx0, s_TableOk_L0_mx1, s_TableOk_L1_mx0, s_TableOk_L1_mx1]); grind [maxSl, maxStr, toBytes_length, toInts_length, List.length_set, wrap64]) (by (try simp only [Nat.ble_eq, Bool.and_eq_true, decide_eq_true_eq, s_TableOk_L0_mx0, s_TableOk_L0_mx1, s_TableOk_L1_mx0, s_TableOk_L1_mx1]); grind [maxSl, maxStr, toBytes_length, toInts_length, List.length_set, wrap64])) (fun a11 => rfl)
      (fun p11 => rfl))
      (fun p9 => rfl)))))
theorem s_TableOk_c (x0 : Tabl) (x1 : Limi)  : Con Tryz.prog 26 (pvs [.st .tabl, .st .limi] (x0, x1, ())) [rv (.sc .bool) [] (s_TableOk x0 x1)] := by
  refine Con.of_facts (enters_of Tryz.func26 rfl (by kernel_rfl)) fun hf => ?_
  replace hf := factAt hf
  exact evalFn_conL teFact mixFact (orcOf_ok _) Tryz.func26 (by kernel_rfl) (bs := [0, 2]) (by kernel_rfl) (by kernel_rfl) (fun w0 mo I0 hmo => ⟨lsem_of_lorc (s_TableOk_L0_ls w0 mo I0 hmo) (by kernel_rfl), lsem_of_lorc (s_TableOk_L1_ls w0 mo I0 hmo) (by kernel_rfl), trivial⟩) ((s_TableOk_lk x0 x1).trans (s_TableOk_p x0 x1 ((hf 0 0 rfl rfl).len) (fun y hy => (hf 0 0 rfl rfl).elem hy) ((hf 0 1 rfl rfl).len) ((hf 1 0 rfl rfl).rng) ((hf 1 1 rfl rfl).rng) ((hf 1 2 rfl rfl).rng) ((hf 1 3 rfl rfl).rng) _ _ _))
noncomputable def s_TableOk_e : Ent1 Tryz.prog := entA 26 [.st .tabl, .st .limi] (fun x => (s_TableOk x.1 x.2.1)) (fun v => [rv (.sc .bool) [] v]) (fun x => s_TableOk_c x.1 x.2.1)


/-- impl.FindConn -/
def i_FindConn_N (x0 : Tabl) (x1 : Tupl) (γ : Type) (fail : γ) (k : Int → γ) : γ :=
  letK (α := Int × Tupl) (g_IndexFunc_Conn_i_FindConn_1 x0.conns x1) fun c1 =>
  k c1.1
def i_FindConn (x0 : Tabl) (x1 : Tupl) : Int :=
  letK (α := Int × Tupl) (g_IndexFunc_Conn_i_FindConn_1 x0.conns x1) fun c1 =>
  c1.1
theorem i_FindConn_lk (x0 : Tabl) (x1 : Tupl) : evalFn te (orcOf (P := Tryz.prog) [g_IndexFunc_Conn_i_FindConn_1_e]) lorc0 [] Tryz.f43 (pvs [.st .tabl, .st .tupl] (x0, x1, ())) =
  i_FindConn_N x0 x1 _ none (fun v => some [(false, [RC.c (.int .i64 v)])]) := by kernel_rfl
theorem i_FindConn_p (x0 : Tabl) (x1 : Tupl)   (γ : Type) (fail : γ) (k : Int → γ) : i_FindConn_N x0 x1 γ fail k = k (i_FindConn x0 x1) := by
  unfold i_FindConn_N i_FindConn
  exact letT (f := k) (fun c1 hc1 => rfl)
theorem i_FindConn_c (x0 : Tabl) (x1 : Tupl)  : Con Tryz.prog 43 (pvs [.st .tabl, .st .tupl] (x0, x1, ())) [rv (.sc (.int .i64)) [] (i_FindConn x0 x1)] := by
  exact evalFn_con0 teFact mixFact (orcOf_ok _) Tryz.func43 (by kernel_rfl) ((i_FindConn_lk x0 x1).trans (i_FindConn_p x0 x1  _ _ _))
noncomputable def i_FindConn_e : Ent1 Tryz.prog := entA 43 [.st .tabl, .st .tupl] (fun x => (i_FindConn x.1 x.2.1)) (fun v => [rv (.sc (.int .i64)) [] v]) (fun x => i_FindConn_c x.1 x.2.1)


/-- laws.toConnS -/
def w_toConnS_ann : List (Nat × Keep) := [(0, ⟨[0, 3, 4], [], false, 0⟩)]
def w_toConnS_L0_sh : Sh := ⟨[(0, false, [.sl .arg .conn]), (3, false, [.own 0]), (4, false, [.int .i64])], [.arr .conn false true]⟩
def w_toConnS_L0_es : List (Ex × Sh) := [(.exit 0, ⟨[(2, false, [.undef]), (3, false, [.own 0])], [.arr .conn false true]⟩)]
def w_toConnS_L0_mk (v0 : List Conn) (v1 : Int) (v2 : List Conn) : w_toConnS_L0_sh.T := (((v0, ()), (((), ()), ((v1, ()), ()))), (v2, ()))
def w_toConnS_L0_mx0 (y0 : List Conn) : Sh.T ⟨[(2, false, [.undef]), (3, false, [.own 0])], [.arr .conn false true]⟩ := ((((), ()), (((), ()), ())), (y0, ()))
def w_toConnS_L0_B (v0 : List Conn) (v1 : Int) (v2 : List Conn) (γ : Type) (fail : γ) (next : w_toConnS_L0_sh.T → γ) (out : WT w_toConnS_L0_es → γ) : γ :=
  bif (decide (v1 < (v0.length : Int))) then
    bif ((decide (0 ≤ v1)) && (decide (v1 < (v0.length : Int)))) then
    bif (decide ((v0.getD v1.toNat (Ty.zero .conn)).s.data.length ≤ 4294967296 ∧ (v0.getD v1.toNat (Ty.zero .conn)).r.data.length ≤ 4294967296 ∧ (v0.getD v1.toNat (Ty.zero .conn)).r.held.length ≤ 4294967296)) then
    letK (α := Conn) (w_toConn (v0.getD v1.toNat (Ty.zero .conn))) fun c2 =>
    bif ((decide (0 ≤ v1)) && (decide (v1 < (v2.length : Int)))) then
    next (w_toConnS_L0_mk v0 (IntKind.wrap .i64 (v1 + 1)) (v2.set v1.toNat c2))
    else fail
    else fail
    else fail
  else
  out (w_toConnS_L0_mx0 v2)
theorem w_toConnS_L0_par (v0 : List Conn) (v1 : Int) (v2 : List Conn) (γ : Type) (fail : γ) (next : w_toConnS_L0_sh.T → γ) (out : WT w_toConnS_L0_es → γ) : w_toConnS_L0_B v0 v1 v2 γ fail next out = optK (w_toConnS_L0_B v0 v1 v2 _ none (fun v' => some (.inl v')) (fun w => some (.inr w))) fail (fun r => Sum.elim next out r) := by
  unfold w_toConnS_L0_B
  exact bifT (f := (fun o => optK o fail (fun r => Sum.elim next out r))) (fun _ => bifT (f := (fun o => optK o fail (fun r => Sum.elim next out r))) (fun _ => bifT (f := (fun o => optK o fail (fun r => Sum.elim next out r))) (fun _ => letT (f := (fun o => optK o fail (fun r => Sum.elim next out r))) (fun c2 _ => bifT (f := (fun o => optK o fail (fun r => Sum.elim next out r))) (fun _ => rfl) (fun _ => rfl))) (fun _ => rfl)) (fun _ => rfl))
      (fun _ => rfl)
def w_toConnS_L0_r : Round w_toConnS_L0_sh.T (WT w_toConnS_L0_es) where
  B v γ fail next out := w_toConnS_L0_B v.1.1.1 v.1.2.2.1.1 v.2.1 γ fail next out
  par v γ fail next out := w_toConnS_L0_par v.1.1.1 v.1.2.2.1.1 v.2.1 γ fail next out
def w_toConnS_L0_fu (v0 : List Conn) (v1 : Int) (v2 : List Conn) : Nat := (Int.toNat ((v0.length : Int) - v1)) + 1
theorem w_toConnS_L0_lk (v : w_toConnS_L0_sh.T) (next : St → Option Res) (k : Ex → St → Option Res) : evalK te (orcOf (P := Tryz.prog) [w_toConn_e]) (lorcOf []) Tryz.f64.ntmps w_toConnS_ann (nthLoop (bodyOf Tryz.f64) 0 0) 0 (w_toConnS_L0_sh.enc v) (endK ⟨[0, 3, 4], [], false, 0⟩ ⟨[2, 3], [], false, 0⟩ next k) =
  w_toConnS_L0_r.B v _ none (fun v' => next (w_toConnS_L0_sh.enc v')) (fun w => outK w_toConnS_L0_es k w) := by kernel_rfl
def w_toConnS_L0_le : LE := leOf 0 w_toConnS_L0_sh w_toConnS_L0_es w_toConnS_L0_r.step (fun v => w_toConnS_L0_fu v.1.1.1 v.1.2.2.1.1 v.2.1)
theorem w_toConnS_L0_ls (w0 : World) (mo : Mts) (I0 : Nat → Prop) (hmo : mo.length = 0) : LSem Tryz.prog (Sim w0 mo Tryz.f64.ntmps I0) (fun b s k => match Nat.beq 0 b with | true => w_toConnS_L0_le.run s k | false => none) 0 (nthLoop (bodyOf Tryz.f64) 0 0) :=
  le_sem hmo (lorc := lorcOf []) (ann := w_toConnS_ann) (keep := ⟨[0, 3, 4], [], false, 0⟩) (kout := ⟨[2, 3], [], false, 0⟩) teFact mixFact (orcOf_ok _) (by kernel_rfl) (allLoops_of (bs := []) (by kernel_rfl) trivial) w_toConnS_L0_r _ w_toConnS_L0_lk
def w_toConnS_L0_f (v0 : List Conn) (v1 : Int) (a : List Conn) : Stp (List Conn) (Empty) :=
  letK (α := Conn) (w_toConn (v0.getD v1.toNat (Ty.zero .conn))) fun c2 =>
  .next (a.set v1.toNat c2)
theorem w_toConnS_L0_st (v0 : List Conn) (v1 : Int) (v2 : List Conn) (hlo : 0 ≤ v1) (hhi : v1 < (v0.length : Int)) (hN : (v0.length : Int) ≤ 4611686018427387904) (hi0 : sm_conn v0 = true) (hinv : (v0.length : Int) ≤ (v2.length : Int)) : w_toConnS_L0_r.step (w_toConnS_L0_mk v0 v1 v2) = Stp.elim (fun a' : List Conn => some (Sum.inl (w_toConnS_L0_mk v0 (v1 + 1) a'))) (fun w => some (Sum.inr ((fun p : Empty => nomatch p) w))) (w_toConnS_L0_f v0 v1 v2) := by
  have hw : (IntKind.wrap .i64 (v1 + 1)) = v1 + 1 := wrap64 (by omega) (by omega)
  show w_toConnS_L0_B v0 v1 v2 (Option (w_toConnS_L0_sh.T ⊕ WT w_toConnS_L0_es)) none (fun v' => some (Sum.inl v')) (fun w => some (Sum.inr w)) = _
  unfold w_toConnS_L0_B w_toConnS_L0_f
  exact bifG (by simp only [decide_eq_true_eq]; omega) (bifG (by (try simp only [Nat.ble_eq, Bool.and_eq_true, decide_eq_true_eq]); grind [maxSl, maxStr, toBytes_length, toInts_length, List.length_set, wrap64, sm_conn_at]) (bifG (by (try simp only [Nat.ble_eq, Bool.and_eq_true, decide_eq_true_eq]); grind [maxSl, maxStr, toBytes_length, toInts_length, List.length_set, wrap64, sm_conn_at]) (letT (f := (Stp.elim (fun a' : List Conn => some (Sum.inl (w_toConnS_L0_mk v0 (v1 + 1) a'))) (fun w => some (Sum.inr ((fun p : Empty => nomatch p) w))))) (fun c2 hc2 => bifG (by (try simp only [Nat.ble_eq, Bool.and_eq_true, decide_eq_true_eq]); grind [maxSl, maxStr, toBytes_length, toInts_length, List.length_set, wrap64, sm_conn_at]) ((by exact congrArg (fun z => some (Sum.inl (w_toConnS_L0_mk v0 z (v2.set v1.toNat c2)))) hw))))))
theorem w_toConnS_L0_cl (v0 : List Conn) (v1 : Int) (v2 : List Conn) (h0 : 0 ≤ v1) (h1 : (v0.length : Int) ≤ 4611686018427387904) (h2 : sm_conn v0 = true) (h3 : (v0.length : Int) ≤ (v2.length : Int)) : loopF w_toConnS_L0_r.step (w_toConnS_L0_fu v0 v1 v2) (w_toConnS_L0_mk v0 v1 v2) = some (Stp.elim (fun a => (fun i a => w_toConnS_L0_mx0 a) (v1 + 1 * (((Int.toNat ((v0.length : Int) - v1)) : Nat) : Int)) a) (fun p : Empty => nomatch p) (forN (w_toConnS_L0_f v0) 1 (Int.toNat ((v0.length : Int) - v1)) v1 v2)) :=
  forN_loop (step := w_toConnS_L0_r.step) (mk := fun v1 a => w_toConnS_L0_mk v0 v1 a) (f := w_toConnS_L0_f v0) (e := (fun i a => w_toConnS_L0_mx0 a)) (emb := (fun p : Empty => nomatch p)) (st := 1) (Inv := fun v1 a => (v0.length : Int) ≤ (a.length : Int)) (Int.toNat ((v0.length : Int) - v1)) v1 v2 _ (Nat.lt_succ_self _) h3
    (fun j a hj hv => ⟨w_toConnS_L0_st v0 (v1 + 1 * (j : Int)) a (by omega) (by omega) (by omega) h2 hv, by
      intro a' he
      grind [w_toConnS_L0_f, letK, Stp.elim, wrap64, List.length_set]⟩)
    (fun a hv => by
      show w_toConnS_L0_B v0 (v1 + 1 * (((Int.toNat ((v0.length : Int) - v1)) : Nat) : Int)) a (Option (w_toConnS_L0_sh.T ⊕ WT w_toConnS_L0_es)) none (fun v' => some (Sum.inl v')) (fun w => some (Sum.inr w)) = _
      unfold w_toConnS_L0_B
      exact bifN (by simp only [decide_eq_false_iff_not]; omega) rfl)
theorem w_toConnS_L0_nx (v0 : List Conn) (v1 : Int) (v2 : List Conn) (h0 : 0 ≤ v1) (h1 : (v0.length : Int) ≤ 4611686018427387904) (h2 : sm_conn v0 = true) (h3 : (v0.length : Int) ≤ (v2.length : Int)) : ∀ a', forN (w_toConnS_L0_f v0) 1 (Int.toNat ((v0.length : Int) - v1)) v1 v2 = .next a' → (v0.length : Int) ≤ (a'.length : Int) :=
  forN_inv (f := w_toConnS_L0_f v0) (st := 1) (Inv := fun v1 a => (v0.length : Int) ≤ (a.length : Int)) (Int.toNat ((v0.length : Int) - v1)) v1 v2 h3
    (fun j a hj hv => by
      intro a' he
      grind [w_toConnS_L0_f, letK, Stp.elim, wrap64, List.length_set])
def w_toConnS_N (x0 : List Conn) (γ : Type) (fail : γ) (k : List Conn → γ) : γ :=
  bif ((((decide (0 ≤ (x0.length : Int))) && (decide ((x0.length : Int) = (x0.length : Int)))) && (decide ((x0.length : Int) * 208 ≤ (maxSl : Int)))) && (decide ((x0.length : Int) ≤ (maxSl : Int)))) then
  letK (α := List Conn) (List.replicate ((x0.length : Int).toNat) (⟨⟨0, 0, 0⟩, 0, ⟨0, [], 0, false, false, false⟩, ⟨0, [], [], 0, false⟩, 0, 0, ⟨0, 0, false, false, 0, 0⟩, 0, 0⟩ : Conn)) fun l1 =>
  optK (loopF w_toConnS_L0_r.step (w_toConnS_L0_fu x0 0 l1) (w_toConnS_L0_mk x0 0 l1)) fail fun w3 =>
    k w3.2.1
  else fail
def w_toConnS (x0 : List Conn) : List Conn :=
  letK (α := List Conn) (List.replicate ((x0.length : Int).toNat) (⟨⟨0, 0, 0⟩, 0, ⟨0, [], 0, false, false, false⟩, ⟨0, [], [], 0, false⟩, 0, 0, ⟨0, 0, false, false, 0, 0⟩, 0, 0⟩ : Conn)) fun l1 =>
  Stp.elim (fun a4 =>
    a4)
    (fun p : Empty => nomatch p)
    (forN (w_toConnS_L0_f x0) 1 (Int.toNat ((x0.length : Int) - 0)) 0 l1)
theorem w_toConnS_lk (x0 : List Conn) : evalFn te (orcOf (P := Tryz.prog) [w_toConn_e]) (lorcOf [w_toConnS_L0_le]) w_toConnS_ann Tryz.f64 (pvs [.sc (.sl .conn)] (x0, ())) =
  w_toConnS_N x0 _ none (fun v => some [(false, [RC.own true .conn v])]) := by kernel_rfl
theorem w_toConnS_p (x0 : List Conn) (hx0 : x0.length ≤ 140737488355328) (hx0_e : ∀ y ∈ x0, ∀ c ∈ Ty.cells .conn y, FactC c) (hp : x0.length ≤ 4294967296 ∧ sm_conn x0 = true) (γ : Type) (fail : γ) (k : List Conn → γ) : w_toConnS_N x0 γ fail k = k (w_toConnS x0) := by
  unfold w_toConnS_N w_toConnS
  exact bifG (by (try simp only [Nat.ble_eq, Bool.and_eq_true, decide_eq_true_eq, w_toConnS_L0_mx0]); grind [maxSl, maxStr, toBytes_length, toInts_length, List.length_set, wrap64]) (letT (f := k) (fun l1 hl1 => loopX (f := k) (w_toConnS_L0_cl x0 0 l1 (by (try simp only [Nat.ble_eq, Bool.and_eq_true, decide_eq_true_eq, w_toConnS_L0_mx0]); grind [maxSl, maxStr, toBytes_length, toInts_length, List.length_set, wrap64]) (by (try simp only [Nat.ble_eq, Bool.and_eq_true, decide_eq_true_eq, w_toConnS_L0_mx0]); grind [maxSl, maxStr, toBytes_length, toInts_length, List.length_set, wrap64]) (by (try simp only [Nat.ble_eq, Bool.and_eq_true, decide_eq_true_eq, w_toConnS_L0_mx0]); grind [maxSl, maxStr, toBytes_length, toInts_length, List.length_set, wrap64]) (by (try simp only [Nat.ble_eq, Bool.and_eq_true, decide_eq_true_eq, w_toConnS_L0_mx0]); grind [maxSl, maxStr, toBytes_length, toInts_length, List.length_set, wrap64])) (fun a4 ha4 => have ia4 := w_toConnS_L0_nx x0 0 l1 (by (try simp only [Nat.ble_eq, Bool.and_eq_true, decide_eq_true_eq, w_toConnS_L0_mx0]); grind [maxSl, maxStr, toBytes_length, toInts_length, List.length_set, wrap64]) (by (try simp only [Nat.ble_eq, Bool.and_eq_true, decide_eq_true_eq, w_toConnS_L0_mx0]); grind [maxSl, maxStr, toBytes_length, toInts_length, List.length_set, wrap64]) (by (try simp only [Nat.ble_eq, Bool.and_eq_true, decide_eq_true_eq, w_toConnS_L0_mx0]); grind [maxSl, maxStr, toBytes_length, toInts_length, List.length_set, wrap64]) (by (try simp only [Nat.ble_eq, Bool.and_eq_true, decide_eq_true_eq, w_toConnS_L0_mx0]); grind [maxSl, maxStr, toBytes_length, toInts_length, List.length_set, wrap64]) _ ha4; rfl)
      (fun p : Empty => nomatch p)))
theorem w_toConnS_c (x0 : List Conn) (hp : x0.length ≤ 4294967296 ∧ sm_conn x0 = true) : Con Tryz.prog 64 (pvs [.sc (.sl .conn)] (x0, ())) [rv (.sc (.sl .conn)) [.o true] (w_toConnS x0)] := by
  refine Con.of_facts (enters_of Tryz.func64 rfl (by kernel_rfl)) fun hf => ?_
  replace hf := factAt hf
  exact evalFn_conL teFact mixFact (orcOf_ok _) Tryz.func64 (by kernel_rfl) (bs := [0]) (by kernel_rfl) (by kernel_rfl) (fun w0 mo I0 hmo => ⟨lsem_of_lorc (w_toConnS_L0_ls w0 mo I0 hmo) (by kernel_rfl), trivial⟩) ((w_toConnS_lk x0).trans (w_toConnS_p x0 ((hf 0 0 rfl rfl).len) (fun y hy => (hf 0 0 rfl rfl).elem hy) hp _ _ _))
noncomputable def w_toConnS_e : Ent1 Tryz.prog := entP 64 [.sc (.sl .conn)] (fun x => (decide (x.1.length ≤ 4294967296 ∧ sm_conn x.1 = true))) (fun x => (w_toConnS x.1)) (fun v => [rv (.sc (.sl .conn)) [.o true] v]) (fun x hx => w_toConnS_c x.1 (of_decide_eq_true hx))


/-- impl.FindHalf -/
def i_FindHalf_N (x0 : List Half) (x1 : Tupl) (γ : Type) (fail : γ) (k : Int → γ) : γ :=
  letK (α := Int × Tupl) (g_IndexFunc_Half_i_FindHalf_1 x0 x1) fun c1 =>
  k c1.1
def i_FindHalf (x0 : List Half) (x1 : Tupl) : Int :=
  letK (α := Int × Tupl) (g_IndexFunc_Half_i_FindHalf_1 x0 x1) fun c1 =>
  c1.1
theorem i_FindHalf_lk (x0 : List Half) (x1 : Tupl) : evalFn te (orcOf (P := Tryz.prog) [g_IndexFunc_Half_i_FindHalf_1_e]) lorc0 [] Tryz.f74 (pvs [.sc (.sl .half), .st .tupl] (x0, x1, ())) =
  i_FindHalf_N x0 x1 _ none (fun v => some [(false, [RC.c (.int .i64 v)])]) := by kernel_rfl
theorem i_FindHalf_p (x0 : List Half) (x1 : Tupl)   (γ : Type) (fail : γ) (k : Int → γ) : i_FindHalf_N x0 x1 γ fail k = k (i_FindHalf x0 x1) := by
  unfold i_FindHalf_N i_FindHalf
  exact letT (f := k) (fun c1 hc1 => rfl)
theorem i_FindHalf_c (x0 : List Half) (x1 : Tupl)  : Con Tryz.prog 74 (pvs [.sc (.sl .half), .st .tupl] (x0, x1, ())) [rv (.sc (.int .i64)) [] (i_FindHalf x0 x1)] := by
  exact evalFn_con0 teFact mixFact (orcOf_ok _) Tryz.func74 (by kernel_rfl) ((i_FindHalf_lk x0 x1).trans (i_FindHalf_p x0 x1  _ _ _))
noncomputable def i_FindHalf_e : Ent1 Tryz.prog := entA 74 [.sc (.sl .half), .st .tupl] (fun x => (i_FindHalf x.1 x.2.1)) (fun v => [rv (.sc (.int .i64)) [] v]) (fun x => i_FindHalf_c x.1 x.2.1)


/-- laws.eqConnS -/
def w_eqConnS_ann : List (Nat × Keep) := [(0, ⟨[0, 1, 5], [], false, 0⟩)]
def w_eqConnS_L0_sh : Sh := ⟨[(0, false, [.sl .arg .conn]), (1, false, [.sl .arg .conn]), (5, false, [.int .i64])], []⟩
def w_eqConnS_L0_es : List (Ex × Sh) := [(.ret, ⟨[(4, false, [.bool])], []⟩), (.exit 0, ⟨[(4, false, [.undef])], []⟩)]
def w_eqConnS_L0_mk (v0 : List Conn) (v1 : List Conn) (v2 : Int) : w_eqConnS_L0_sh.T := (((v0, ()), ((v1, ()), ((v2, ()), ()))), ())
def w_eqConnS_L0_mx0 (y0 : Bool) : Sh.T ⟨[(4, false, [.bool])], []⟩ := (((y0, ()), ()), ())
def w_eqConnS_L0_mx1  : Sh.T ⟨[(4, false, [.undef])], []⟩ := ((((), ()), ()), ())
def w_eqConnS_L0_B (v0 : List Conn) (v1 : List Conn) (v2 : Int) (γ : Type) (fail : γ) (next : w_eqConnS_L0_sh.T → γ) (out : WT w_eqConnS_L0_es → γ) : γ :=
  bif (decide (v2 < (v0.length : Int))) then
    bif ((decide (0 ≤ v2)) && (decide (v2 < (v0.length : Int)))) then
    bif ((decide (0 ≤ v2)) && (decide (v2 < (v1.length : Int)))) then
    letK (α := Bool) (w_eqConn (v0.getD v2.toNat (Ty.zero .conn)) (v1.getD v2.toNat (Ty.zero .conn))) fun c1 =>
    bif (!c1) then
      out (Sum.inl (w_eqConnS_L0_mx0 false))
    else
    next (w_eqConnS_L0_mk v0 v1 (IntKind.wrap .i64 (v2 + 1)))
    else fail
    else fail
  else
  out (Sum.inr (w_eqConnS_L0_mx1 ))
theorem w_eqConnS_L0_par (v0 : List Conn) (v1 : List Conn) (v2 : Int) (γ : Type) (fail : γ) (next : w_eqConnS_L0_sh.T → γ) (out : WT w_eqConnS_L0_es → γ) : w_eqConnS_L0_B v0 v1 v2 γ fail next out = optK (w_eqConnS_L0_B v0 v1 v2 _ none (fun v' => some (.inl v')) (fun w => some (.inr w))) fail (fun r => Sum.elim next out r) := by
  unfold w_eqConnS_L0_B
  exact bifT (f := (fun o => optK o fail (fun r => Sum.elim next out r))) (fun _ => bifT (f := (fun o => optK o fail (fun r => Sum.elim next out r))) (fun _ => bifT (f := (fun o => optK o fail (fun r => Sum.elim next out r))) (fun _ => letT (f := (fun o => optK o fail (fun r => Sum.elim next out r))) (fun c1 _ => bifT (f := (fun o => optK o fail (fun r => Sum.elim next out r))) (fun _ => rfl)
      (fun _ => rfl))) (fun _ => rfl)) (fun _ => rfl))
      (fun _ => rfl)
def w_eqConnS_L0_r : Round w_eqConnS_L0_sh.T (WT w_eqConnS_L0_es) where
  B v γ fail next out := w_eqConnS_L0_B v.1.1.1 v.1.2.1.1 v.1.2.2.1.1 γ fail next out
  par v γ fail next out := w_eqConnS_L0_par v.1.1.1 v.1.2.1.1 v.1.2.2.1.1 γ fail next out
def w_eqConnS_L0_fu (v0 : List Conn) (v1 : List Conn) (v2 : Int) : Nat := (Int.toNat ((v0.length : Int) - v2)) + 1
theorem w_eqConnS_L0_lk (v : w_eqConnS_L0_sh.T) (next : St → Option Res) (k : Ex → St → Option Res) : evalK te (orcOf (P := Tryz.prog) [w_eqConn_e]) (lorcOf []) Tryz.f81.ntmps w_eqConnS_ann (nthLoop (bodyOf Tryz.f81) 0 0) 0 (w_eqConnS_L0_sh.enc v) (endK ⟨[0, 1, 5], [], false, 0⟩ ⟨[4], [], false, 0⟩ next k) =
  w_eqConnS_L0_r.B v _ none (fun v' => next (w_eqConnS_L0_sh.enc v')) (fun w => outK w_eqConnS_L0_es k w) := by kernel_rfl
def w_eqConnS_L0_le : LE := leOf 0 w_eqConnS_L0_sh w_eqConnS_L0_es w_eqConnS_L0_r.step (fun v => w_eqConnS_L0_fu v.1.1.1 v.1.2.1.1 v.1.2.2.1.1)
theorem w_eqConnS_L0_ls (w0 : World) (mo : Mts) (I0 : Nat → Prop) (hmo : mo.length = 0) : LSem Tryz.prog (Sim w0 mo Tryz.f81.ntmps I0) (fun b s k => match Nat.beq 0 b with | true => w_eqConnS_L0_le.run s k | false => none) 0 (nthLoop (bodyOf Tryz.f81) 0 0) :=
  le_sem hmo (lorc := lorcOf []) (ann := w_eqConnS_ann) (keep := ⟨[0, 1, 5], [], false, 0⟩) (kout := ⟨[4], [], false, 0⟩) teFact mixFact (orcOf_ok _) (by kernel_rfl) (allLoops_of (bs := []) (by kernel_rfl) trivial) w_eqConnS_L0_r _ w_eqConnS_L0_lk
def w_eqConnS_L0_f (v0 : List Conn) (v1 : List Conn) (v2 : Int) (a : Unit) : Stp (Unit) ((Unit)) :=
  letK (α := Bool) (w_eqConn (v0.getD v2.toNat (Ty.zero .conn)) (v1.getD v2.toNat (Ty.zero .conn))) fun c1 =>
  bif (!c1) then
    .out (())
  else
  .next ()
theorem w_eqConnS_L0_st (v0 : List Conn) (v1 : List Conn) (v2 : Int) (hlo : 0 ≤ v2) (hhi : v2 < (v0.length : Int)) (hN : (v0.length : Int) ≤ 4611686018427387904) (hi0 : (v0.length : Int) ≤ (v1.length : Int)) : w_eqConnS_L0_r.step (w_eqConnS_L0_mk v0 v1 v2) = Stp.elim (fun a' : Unit => some (Sum.inl (w_eqConnS_L0_mk v0 v1 (v2 + 1)))) (fun w => some (Sum.inr ((fun p : Unit => Sum.inl (w_eqConnS_L0_mx0 false)) w))) (w_eqConnS_L0_f v0 v1 v2 ()) := by
  have hw : (IntKind.wrap .i64 (v2 + 1)) = v2 + 1 := wrap64 (by omega) (by omega)
  show w_eqConnS_L0_B v0 v1 v2 (Option (w_eqConnS_L0_sh.T ⊕ WT w_eqConnS_L0_es)) none (fun v' => some (Sum.inl v')) (fun w => some (Sum.inr w)) = _
  unfold w_eqConnS_L0_B w_eqConnS_L0_f
  exact bifG (by simp only [decide_eq_true_eq]; omega) (bifG (by (try simp only [Nat.ble_eq, Bool.and_eq_true, decide_eq_true_eq]); grind [maxSl, maxStr, toBytes_length, toInts_length, List.length_set, wrap64]) (bifG (by (try simp only [Nat.ble_eq, Bool.and_eq_true, decide_eq_true_eq]); grind [maxSl, maxStr, toBytes_length, toInts_length, List.length_set, wrap64]) (letT (f := (Stp.elim (fun a' : Unit => some (Sum.inl (w_eqConnS_L0_mk v0 v1 (v2 + 1)))) (fun w => some (Sum.inr ((fun p : Unit => Sum.inl (w_eqConnS_L0_mx0 false)) w))))) (fun c1 hc1 => bifT (f := (Stp.elim (fun a' : Unit => some (Sum.inl (w_eqConnS_L0_mk v0 v1 (v2 + 1)))) (fun w => some (Sum.inr ((fun p : Unit => Sum.inl (w_eqConnS_L0_mx0 false)) w))))) (fun b0 => rfl)
      (fun b0 => (by exact congrArg (fun z => some (Sum.inl (w_eqConnS_L0_mk v0 v1 z))) hw))))))
theorem w_eqConnS_L0_cl (v0 : List Conn) (v1 : List Conn) (v2 : Int) (h0 : 0 ≤ v2) (h1 : (v0.length : Int) ≤ 4611686018427387904) (h2 : (v0.length : Int) ≤ (v1.length : Int)) : loopF w_eqConnS_L0_r.step (w_eqConnS_L0_fu v0 v1 v2) (w_eqConnS_L0_mk v0 v1 v2) = some (Stp.elim (fun a => (fun i a => Sum.inr (w_eqConnS_L0_mx1 )) (v2 + 1 * (((Int.toNat ((v0.length : Int) - v2)) : Nat) : Int)) a) (fun p : Unit => Sum.inl (w_eqConnS_L0_mx0 false)) (forN (w_eqConnS_L0_f v0 v1) 1 (Int.toNat ((v0.length : Int) - v2)) v2 ())) :=
  forN_loop (step := w_eqConnS_L0_r.step) (mk := fun v2 a => w_eqConnS_L0_mk v0 v1 v2) (f := w_eqConnS_L0_f v0 v1) (e := (fun i a => Sum.inr (w_eqConnS_L0_mx1 ))) (emb := (fun p : Unit => Sum.inl (w_eqConnS_L0_mx0 false))) (st := 1) (Inv := fun v2 a => True) (Int.toNat ((v0.length : Int) - v2)) v2 () _ (Nat.lt_succ_self _) trivial
    (fun j a hj hv => ⟨w_eqConnS_L0_st v0 v1 (v2 + 1 * (j : Int)) (by omega) (by omega) (by omega) h2, fun _ _ => trivial⟩)
    (fun a hv => by
      show w_eqConnS_L0_B v0 v1 (v2 + 1 * (((Int.toNat ((v0.length : Int) - v2)) : Nat) : Int)) (Option (w_eqConnS_L0_sh.T ⊕ WT w_eqConnS_L0_es)) none (fun v' => some (Sum.inl v')) (fun w => some (Sum.inr w)) = _
      unfold w_eqConnS_L0_B
      exact bifN (by simp only [decide_eq_false_iff_not]; omega) rfl)
def w_eqConnS_N (x0 : List Conn) (x1 : List Conn) (γ : Type) (fail : γ) (k : Bool → γ) : γ :=
  bif ((x0.length : Int) != (x1.length : Int)) then
    k false
  else
  optK (loopF w_eqConnS_L0_r.step (w_eqConnS_L0_fu x0 x1 0) (w_eqConnS_L0_mk x0 x1 0)) fail fun w2 =>
    Sum.elim (fun w2 =>
      k w2.1.1.1)
    (fun w2 =>
      k true) w2
def w_eqConnS (x0 : List Conn) (x1 : List Conn) : Bool :=
  bif ((x0.length : Int) != (x1.length : Int)) then
    false
  else
  Stp.elim (fun a3 =>
    true)
    (fun p3 =>
      false)
    (forN (w_eqConnS_L0_f x0 x1) 1 (Int.toNat ((x0.length : Int) - 0)) 0 ())
theorem w_eqConnS_lk (x0 : List Conn) (x1 : List Conn) : evalFn te (orcOf (P := Tryz.prog) [w_eqConn_e]) (lorcOf [w_eqConnS_L0_le]) w_eqConnS_ann Tryz.f81 (pvs [.sc (.sl .conn), .sc (.sl .conn)] (x0, x1, ())) =
  w_eqConnS_N x0 x1 _ none (fun v => some [(false, [RC.c (.bool v)])]) := by kernel_rfl
theorem w_eqConnS_p (x0 : List Conn) (x1 : List Conn) (hx0 : x0.length ≤ 140737488355328) (hx0_e : ∀ y ∈ x0, ∀ c ∈ Ty.cells .conn y, FactC c) (hx1 : x1.length ≤ 140737488355328) (hx1_e : ∀ y ∈ x1, ∀ c ∈ Ty.cells .conn y, FactC c)  (γ : Type) (fail : γ) (k : Bool → γ) : w_eqConnS_N x0 x1 γ fail k = k (w_eqConnS x0 x1) := by
  unfold w_eqConnS_N w_eqConnS
  exact bifT (f := k) (fun b0 => rfl)
      (fun b0 => loopT (f := k) (w_eqConnS_L0_cl x0 x1 0 (by (try simp only [Nat.ble_eq, Bool.and_eq_true, decide_eq_true_eq, w_eqConnS_L0_mx0, w_eqConnS_L0_mx1]); grind [maxSl, maxStr, toBytes_length, toInts_length, List.length_set, wrap64]) (by (try simp only [Nat.ble_eq, Bool.and_eq_true, decide_eq_true_eq, w_eqConnS_L0_mx0, w_eqConnS_L0_mx1]); grind [maxSl, maxStr, toBytes_length, toInts_length, List.length_set, wrap64]) (by (try simp only [Nat.ble_eq, Bool.and_eq_true, decide_eq_true_eq, w_eqConnS_L0_mx0, w_eqConnS_L0_mx1]); grind [maxSl, maxStr, toBytes_length, toInts_length, List.length_set, wrap64])) (fun a3 => rfl)
      (fun p3 => rfl))
theorem w_eqConnS_c (x0 : List Conn) (x1 : List Conn)  : Con Tryz.prog 81 (pvs [.sc (.sl .conn), .sc (.sl .conn)] (x0, x1, ())) [rv (.sc .bool) [] (w_eqConnS x0 x1)] := by
  refine Con.of_facts (enters_of Tryz.func81 rfl (by kernel_rfl)) fun hf => ?_
  replace hf := factAt hf
  exact evalFn_conL teFact mixFact (orcOf_ok _) Tryz.func81 (by kernel_rfl) (bs := [0]) (by kernel_rfl) (by kernel_rfl) (fun w0 mo I0 hmo => ⟨lsem_of_lorc (w_eqConnS_L0_ls w0 mo I0 hmo) (by kernel_rfl), trivial⟩) ((w_eqConnS_lk x0 x1).trans (w_eqConnS_p x0 x1 ((hf 0 0 rfl rfl).len) (fun y hy => (hf 0 0 rfl rfl).elem hy) ((hf 1 0 rfl rfl).len) (fun y hy => (hf 1 0 rfl rfl).elem hy) _ _ _))
noncomputable def w_eqConnS_e : Ent1 Tryz.prog := entA 81 [.sc (.sl .conn), .sc (.sl .conn)] (fun x => (w_eqConnS x.1 x.2.1)) (fun v => [rv (.sc .bool) [] v]) (fun x => w_eqConnS_c x.1 x.2.1)


/-- impl.MacOk$1 -/
def i_MacOk_1_N (x0 : MacRow) (y1 : MacRow) (γ : Type) (fail : γ) (k : Bool → γ) : γ :=
  k (x0.input == y1.input)
def i_MacOk_1 (x0 : MacRow) (y1 : MacRow) : Bool :=
  (x0.input == y1.input)
theorem i_MacOk_1_lk (x0 : MacRow) (y1 : MacRow) : evalFnM te (orcOf (P := Tryz.prog) []) lorc0 [] Tryz.f93 (pvs [.st .macRow, .wr false [.ptr 0]] (x0, (), ())) (mos [.box [.c .str, .c (.int .i64)]] ((y1.input, y1.value, ()), ())) =
  i_MacOk_1_N x0 y1 _ none (fun v => some ([(false, [RC.c (.bool v)])] ++ (mos [.box [.c .str, .c (.int .i64)]] ((y1.input, y1.value, ()), ())).map encO)) := by kernel_rfl
theorem i_MacOk_1_p (x0 : MacRow) (y1 : MacRow)   (γ : Type) (fail : γ) (k : Bool → γ) : i_MacOk_1_N x0 y1 γ fail k = k (i_MacOk_1 x0 y1) := by
  unfold i_MacOk_1_N i_MacOk_1
  exact rfl
theorem i_MacOk_1_c (x0 : MacRow) (y1 : MacRow)  : ConM Tryz.prog 93 (pvs [.st .macRow, .wr false [.ptr 0]] (x0, (), ())) (mos [.box [.c .str, .c (.int .i64)]] ((y1.input, y1.value, ()), ())) [rv (.sc .bool) [] (i_MacOk_1 x0 y1)] (mos [.box [.c .str, .c (.int .i64)]] ((y1.input, y1.value, ()), ())) := by
  exact evalFn_conLM teFact mixFact (orcOf_ok _) Tryz.func93 (by kernel_rfl) (bs := []) (by kernel_rfl) (by kernel_rfl) (by kernel_rfl) rfl (fun w0 mo I0 hmo => trivial) ((i_MacOk_1_lk x0 y1).trans (i_MacOk_1_p x0 y1  _ _ _))
noncomputable def i_MacOk_1_e : Ent1 Tryz.prog := entM 93 [.st .macRow, .wr false [.ptr 0]] [.box [.c .str, .c (.int .i64)]] (fun x y => true) (fun x y => (i_MacOk_1 x.1 (⟨y.1.1, y.1.2.1⟩ : MacRow))) (fun v => [rv (.sc .bool) [] v]) (fun x y v => (mos [.box [.c .str, .c (.int .i64)]] (((⟨y.1.1, y.1.2.1⟩ : MacRow).input, (⟨y.1.1, y.1.2.1⟩ : MacRow).value, ()), ()))) (fun x y hx => i_MacOk_1_c x.1 (⟨y.1.1, y.1.2.1⟩ : MacRow))


end Go.Proofs.YtnpmemmhiifbgaaGreat
