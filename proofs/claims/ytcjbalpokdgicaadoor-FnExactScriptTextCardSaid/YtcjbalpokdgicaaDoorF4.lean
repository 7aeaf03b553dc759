/-
  Contracts of functions and plain laws (printed by a program): each theorem says what a function of the program returns; conditions are its hypotheses.
-/
import Derived.Test.YtcjbalpokdgicaaDoorF3
set_option maxRecDepth 4000
set_option linter.unusedVariables false
set_option linter.unusedSimpArgs false
namespace Go.Proofs.YtcjbalpokdgicaaDoor
open Go Go.RowKit

/-- impl.ScriptText -/
def i_ScriptText_ann : List (Nat × Keep) := [(0, ⟨[3, 11, 12, 13], [], false, 0⟩)]
def i_ScriptText_L0_sh : Sh := ⟨[(3, false, [.own 0]), (11, false, [.sl .arg .acti]), (12, false, [.int .i64]), (13, false, [.int .i64])], [.arr .str false true]⟩
def i_ScriptText_L0_es : List (Ex × Sh) := [(.ret, ⟨[(2, false, [.str]), (3, false, [.own 0])], [.arr .str false true]⟩), (.exit 0, ⟨[(2, false, [.undef]), (3, false, [.own 0])], [.arr .str false true]⟩)]
def i_ScriptText_L0_mk (v0 : List Acti) (v1 : Int) (v2 : Int) (v3 : List Bytes) : i_ScriptText_L0_sh.T := ((((), ()), ((v0, ()), ((v1, ()), ((v2, ()), ())))), (v3, ()))
def i_ScriptText_L0_mx0 (y0 : Bytes) (y1 : List Bytes) : Sh.T ⟨[(2, false, [.str]), (3, false, [.own 0])], [.arr .str false true]⟩ := (((y0, ()), (((), ()), ())), (y1, ()))
def i_ScriptText_L0_mx1 (y0 : List Bytes) : Sh.T ⟨[(2, false, [.undef]), (3, false, [.own 0])], [.arr .str false true]⟩ := ((((), ()), (((), ()), ())), (y0, ()))
def i_ScriptText_L0_B (v0 : List Acti) (v1 : Int) (v2 : Int) (v3 : List Bytes) (γ : Type) (fail : γ) (next : i_ScriptText_L0_sh.T → γ) (out : WT i_ScriptText_L0_es → γ) : γ :=
  bif (decide (v2 < v1)) then
    bif ((decide (0 ≤ v2)) && (decide (v2 < (v0.length : Int)))) then
    bif (decide ((v0.getD v2.toNat (Ty.zero .acti)).text.length ≤ 4294967296 ∧ (v0.getD v2.toNat (Ty.zero .acti)).mac.rows.length ≤ 4294967296)) then
    letK (α := Bytes) (i_ActLine (v0.getD v2.toNat (Ty.zero .acti))) fun c1 =>
    bif (c1 == []) then
      out (Sum.inl (i_ScriptText_L0_mx0 [] v3))
    else
    bif (Nat.ble ((2 * (v3.length + 1) + 1024) * 16) maxSl) then
    next (i_ScriptText_L0_mk v0 v1 (IntKind.wrap .i64 (v2 + 1)) (v3 ++ [c1]))
    else fail
    else fail
    else fail
  else
  out (Sum.inr (i_ScriptText_L0_mx1 v3))
theorem i_ScriptText_L0_par (v0 : List Acti) (v1 : Int) (v2 : Int) (v3 : List Bytes) (γ : Type) (fail : γ) (next : i_ScriptText_L0_sh.T → γ) (out : WT i_ScriptText_L0_es → γ) : i_ScriptText_L0_B v0 v1 v2 v3 γ fail next out = optK (i_ScriptText_L0_B v0 v1 v2 v3 _ none (fun v' => some (.inl v')) (fun w => some (.inr w))) fail (fun r => Sum.elim next out r) := by
  unfold i_ScriptText_L0_B
  exact bifT (f := (fun o => optK o fail (fun r => Sum.elim next out r))) (fun _ => bifT (f := (fun o => optK o fail (fun r => Sum.elim next out r))) (fun _ => bifT (f := (fun o => optK o fail (fun r => Sum.elim next out r))) (fun _ => letT (f := (fun o => optK o fail (fun r => Sum.elim next out r))) (fun c1 _ => bifT (f := (fun o => optK o fail (fun r => Sum.elim next out r))) (fun _ => rfl)
      (fun _ => bifT (f := (fun o => optK o fail (fun r => Sum.elim next out r))) (fun _ => rfl) (fun _ => rfl)))) (fun _ => rfl)) (fun _ => rfl))
      (fun _ => rfl)
def i_ScriptText_L0_r : Round i_ScriptText_L0_sh.T (WT i_ScriptText_L0_es) where
  B v γ fail next out := i_ScriptText_L0_B v.1.2.1.1 v.1.2.2.1.1 v.1.2.2.2.1.1 v.2.1 γ fail next out
  par v γ fail next out := i_ScriptText_L0_par v.1.2.1.1 v.1.2.2.1.1 v.1.2.2.2.1.1 v.2.1 γ fail next out
def i_ScriptText_L0_fu (v0 : List Acti) (v1 : Int) (v2 : Int) (v3 : List Bytes) : Nat := (Int.toNat (v1 - v2)) + 1
theorem i_ScriptText_L0_lk (v : i_ScriptText_L0_sh.T) (next : St → Option Res) (k : Ex → St → Option Res) : evalK te (orcOf (P := Tryd.prog) [i_ActLine_e, i_Joined_e]) (lorcOf []) Tryd.f23.ntmps i_ScriptText_ann (nthLoop (bodyOf Tryd.f23) 0 0) 0 (i_ScriptText_L0_sh.enc v) (endK ⟨[3, 11, 12, 13], [], false, 0⟩ ⟨[2, 3], [], false, 0⟩ next k) =
  i_ScriptText_L0_r.B v _ none (fun v' => next (i_ScriptText_L0_sh.enc v')) (fun w => outK i_ScriptText_L0_es k w) := by kernel_rfl
def i_ScriptText_L0_le : LE := leOf 0 i_ScriptText_L0_sh i_ScriptText_L0_es i_ScriptText_L0_r.step (fun v => i_ScriptText_L0_fu v.1.2.1.1 v.1.2.2.1.1 v.1.2.2.2.1.1 v.2.1)
theorem i_ScriptText_L0_ls (w0 : World) (mo : Mts) (I0 : Nat → Prop) (hmo : mo.length = 0) : LSem Tryd.prog (Sim w0 mo Tryd.f23.ntmps I0) (fun b s k => match Nat.beq 0 b with | true => i_ScriptText_L0_le.run s k | false => none) 0 (nthLoop (bodyOf Tryd.f23) 0 0) :=
  le_sem hmo (lorc := lorcOf []) (ann := i_ScriptText_ann) (keep := ⟨[3, 11, 12, 13], [], false, 0⟩) (kout := ⟨[2, 3], [], false, 0⟩) teFact mixFact (orcOf_ok _) (by kernel_rfl) (allLoops_of (bs := []) (by kernel_rfl) trivial) i_ScriptText_L0_r _ i_ScriptText_L0_lk
def i_ScriptText_L0_f (v0 : List Acti) (v1 : Int) (v2 : Int) (a : List Bytes) : Stp (List Bytes) ((List Bytes)) :=
  letK (α := Bytes) (i_ActLine (v0.getD v2.toNat (Ty.zero .acti))) fun c1 =>
  bif (c1 == []) then
    .out (a)
  else
  .next (a ++ [c1])
theorem i_ScriptText_L0_st (v0 : List Acti) (v1 : Int) (v2 : Int) (v3 : List Bytes) (hlo : 0 ≤ v2) (hhi : v2 < v1) (hN : v1 ≤ 4611686018427387904) (hi0 : v1 ≤ 4294967296) (hi1 : v1 ≤ (v0.length : Int)) (hi2 : sm_acti v0 = true) (hinv : (v3.length : Int) ≤ v2 ∧ ∀ y ∈ v3, List.length y ≤ 65536) : i_ScriptText_L0_r.step (i_ScriptText_L0_mk v0 v1 v2 v3) = Stp.elim (fun a' : List Bytes => some (Sum.inl (i_ScriptText_L0_mk v0 v1 (v2 + 1) a'))) (fun w => some (Sum.inr ((fun p : List Bytes => Sum.inl (i_ScriptText_L0_mx0 [] p)) w))) (i_ScriptText_L0_f v0 v1 v2 v3) := by
  have hw : (IntKind.wrap .i64 (v2 + 1)) = v2 + 1 := wrap64 (by omega) (by omega)
  show i_ScriptText_L0_B v0 v1 v2 v3 (Option (i_ScriptText_L0_sh.T ⊕ WT i_ScriptText_L0_es)) none (fun v' => some (Sum.inl v')) (fun w => some (Sum.inr w)) = _
  unfold i_ScriptText_L0_B i_ScriptText_L0_f
  exact bifG (by simp only [decide_eq_true_eq]; omega) (bifG (by (try simp only [Nat.ble_eq, Bool.and_eq_true, decide_eq_true_eq]); grind [maxSl, maxStr, toBytes_length, toInts_length, List.length_set, wrap64, sm_acti_at, i_Joined_len]) (bifG (by (try simp only [Nat.ble_eq, Bool.and_eq_true, decide_eq_true_eq]); grind [maxSl, maxStr, toBytes_length, toInts_length, List.length_set, wrap64, sm_acti_at, i_Joined_len]) (letT (f := (Stp.elim (fun a' : List Bytes => some (Sum.inl (i_ScriptText_L0_mk v0 v1 (v2 + 1) a'))) (fun w => some (Sum.inr ((fun p : List Bytes => Sum.inl (i_ScriptText_L0_mx0 [] p)) w))))) (fun c1 hc1 => bifT (f := (Stp.elim (fun a' : List Bytes => some (Sum.inl (i_ScriptText_L0_mk v0 v1 (v2 + 1) a'))) (fun w => some (Sum.inr ((fun p : List Bytes => Sum.inl (i_ScriptText_L0_mx0 [] p)) w))))) (fun b0 => rfl)
      (fun b0 => bifG (by (try simp only [Nat.ble_eq, Bool.and_eq_true, decide_eq_true_eq]); grind [maxSl, maxStr, toBytes_length, toInts_length, List.length_set, wrap64, sm_acti_at, i_Joined_len]) ((by exact congrArg (fun z => some (Sum.inl (i_ScriptText_L0_mk v0 v1 z (v3 ++ [c1])))) hw)))))))
theorem i_ScriptText_L0_cl (v0 : List Acti) (v1 : Int) (v2 : Int) (v3 : List Bytes) (h0 : 0 ≤ v2) (h1 : v1 ≤ 4611686018427387904) (h2 : v1 ≤ 4294967296) (h3 : v1 ≤ (v0.length : Int)) (h4 : sm_acti v0 = true) (h5 : (v3.length : Int) ≤ v2 ∧ ∀ y ∈ v3, List.length y ≤ 65536) : loopF i_ScriptText_L0_r.step (i_ScriptText_L0_fu v0 v1 v2 v3) (i_ScriptText_L0_mk v0 v1 v2 v3) = some (Stp.elim (fun a => (fun i a => Sum.inr (i_ScriptText_L0_mx1 a)) (v2 + 1 * (((Int.toNat (v1 - v2)) : Nat) : Int)) a) (fun p : List Bytes => Sum.inl (i_ScriptText_L0_mx0 [] p)) (forN (i_ScriptText_L0_f v0 v1) 1 (Int.toNat (v1 - v2)) v2 v3)) :=
  forN_loop (step := i_ScriptText_L0_r.step) (mk := fun v2 a => i_ScriptText_L0_mk v0 v1 v2 a) (f := i_ScriptText_L0_f v0 v1) (e := (fun i a => Sum.inr (i_ScriptText_L0_mx1 a))) (emb := (fun p : List Bytes => Sum.inl (i_ScriptText_L0_mx0 [] p))) (st := 1) (Inv := fun v2 a => (a.length : Int) ≤ v2 ∧ ∀ y ∈ a, List.length y ≤ 65536) (Int.toNat (v1 - v2)) v2 v3 _ (Nat.lt_succ_self _) h5
    (fun j a hj hv => ⟨i_ScriptText_L0_st v0 v1 (v2 + 1 * (j : Int)) a (by omega) (by omega) (by omega) h2 h3 h4 hv, by
      intro a' he
      unfold i_ScriptText_L0_f at he
      simp only [letK] at he
      have hq := i_ActLine_len (v0.getD (v2 + 1 * (j : Int)).toNat (Ty.zero .acti))
      cases hc : (i_ActLine (v0.getD (v2 + 1 * (j : Int)).toNat (Ty.zero .acti)) == []) <;> rw [hc] at he <;> simp only [cond_true, cond_false] at he <;> cases he
      refine ⟨by rw [List.length_append]; simp only [List.length_singleton]; have := hv.1; omega, fun y hy => ?_⟩
      rcases List.mem_append.1 hy with hy | hy
      · exact hv.2 y hy
      · rw [List.mem_singleton] at hy
        subst hy
        exact hq⟩)
    (fun a hv => by
      show i_ScriptText_L0_B v0 v1 (v2 + 1 * (((Int.toNat (v1 - v2)) : Nat) : Int)) a (Option (i_ScriptText_L0_sh.T ⊕ WT i_ScriptText_L0_es)) none (fun v' => some (Sum.inl v')) (fun w => some (Sum.inr w)) = _
      unfold i_ScriptText_L0_B
      exact bifN (by simp only [decide_eq_false_iff_not]; omega) rfl)
theorem i_ScriptText_L0_nx (v0 : List Acti) (v1 : Int) (v2 : Int) (v3 : List Bytes) (h0 : 0 ≤ v2) (h1 : v1 ≤ 4611686018427387904) (h2 : v1 ≤ 4294967296) (h3 : v1 ≤ (v0.length : Int)) (h4 : sm_acti v0 = true) (h5 : (v3.length : Int) ≤ v2 ∧ ∀ y ∈ v3, List.length y ≤ 65536) : ∀ a', forN (i_ScriptText_L0_f v0 v1) 1 (Int.toNat (v1 - v2)) v2 v3 = .next a' → (a'.length : Int) ≤ (v2 + 1 * (((Int.toNat (v1 - v2)) : Nat) : Int)) ∧ ∀ y ∈ a', List.length y ≤ 65536 :=
  forN_inv (f := i_ScriptText_L0_f v0 v1) (st := 1) (Inv := fun v2 a => (a.length : Int) ≤ v2 ∧ ∀ y ∈ a, List.length y ≤ 65536) (Int.toNat (v1 - v2)) v2 v3 h5
    (fun j a hj hv => by
      intro a' he
      unfold i_ScriptText_L0_f at he
      simp only [letK] at he
      have hq := i_ActLine_len (v0.getD (v2 + 1 * (j : Int)).toNat (Ty.zero .acti))
      cases hc : (i_ActLine (v0.getD (v2 + 1 * (j : Int)).toNat (Ty.zero .acti)) == []) <;> rw [hc] at he <;> simp only [cond_true, cond_false] at he <;> cases he
      refine ⟨by rw [List.length_append]; simp only [List.length_singleton]; have := hv.1; omega, fun y hy => ?_⟩
      rcases List.mem_append.1 hy with hy | hy
      · exact hv.2 y hy
      · rw [List.mem_singleton] at hy
        subst hy
        exact hq)
def i_ScriptText_N (x0 : List Acti) (γ : Type) (fail : γ) (k : Bytes → γ) : γ :=
  bif (decide (60 < (x0.length : Int))) then
    k []
  else
  optK (loopF i_ScriptText_L0_r.step (i_ScriptText_L0_fu x0 (x0.length : Int) 0 []) (i_ScriptText_L0_mk x0 (x0.length : Int) 0 [])) fail fun w2 =>
    Sum.elim (fun w2 =>
      k w2.1.1.1)
    (fun w2 =>
      bif (decide (w2.2.1.length ≤ 65536 ∧ (∀ y ∈ w2.2.1, List.length y ≤ 65536) ∧ ([10] : Bytes).length ≤ 65536)) then
      letK (α := Bytes) (i_Joined w2.2.1 [10]) fun c3 =>
      k c3
      else fail) w2
def i_ScriptText (x0 : List Acti) : Bytes :=
  bif (decide (60 < (x0.length : Int))) then
    []
  else
  Stp.elim (fun a4 =>
    letK (α := Bytes) (i_Joined a4 [10]) fun c5 =>
    c5)
    (fun p4 =>
      [])
    (forN (i_ScriptText_L0_f x0 (x0.length : Int)) 1 (Int.toNat ((x0.length : Int) - 0)) 0 [])
theorem i_ScriptText_lk (x0 : List Acti) : evalFn te (orcOf (P := Tryd.prog) [i_ActLine_e, i_Joined_e]) (lorcOf [i_ScriptText_L0_le]) i_ScriptText_ann Tryd.f23 (pvs [.sc (.sl .acti)] (x0, ())) =
  i_ScriptText_N x0 _ none (fun v => some [(false, [RC.c (.str v)])]) := by kernel_rfl
theorem i_ScriptText_p (x0 : List Acti) (hx0 : x0.length ≤ 140737488355328) (hx0_e : ∀ y ∈ x0, ∀ c ∈ Ty.cells .acti y, FactC c) (hp : x0.length ≤ 4294967296 ∧ sm_acti x0 = true) (γ : Type) (fail : γ) (k : Bytes → γ) : i_ScriptText_N x0 γ fail k = k (i_ScriptText x0) := by
  unfold i_ScriptText_N i_ScriptText
  exact bifT (f := k) (fun b0 => rfl)
      (fun b0 => loopX (f := k) (i_ScriptText_L0_cl x0 (x0.length : Int) 0 [] (by (try simp only [Nat.ble_eq, Bool.and_eq_true, decide_eq_true_eq, i_ScriptText_L0_mx0, i_ScriptText_L0_mx1]); grind [maxSl, maxStr, toBytes_length, toInts_length, List.length_set, wrap64, i_Joined_len]) (by (try simp only [Nat.ble_eq, Bool.and_eq_true, decide_eq_true_eq, i_ScriptText_L0_mx0, i_ScriptText_L0_mx1]); grind [maxSl, maxStr, toBytes_length, toInts_length, List.length_set, wrap64, i_Joined_len]) (by (try simp only [Nat.ble_eq, Bool.and_eq_true, decide_eq_true_eq, i_ScriptText_L0_mx0, i_ScriptText_L0_mx1]); grind [maxSl, maxStr, toBytes_length, toInts_length, List.length_set, wrap64, i_Joined_len]) (by (try simp only [Nat.ble_eq, Bool.and_eq_true, decide_eq_true_eq, i_ScriptText_L0_mx0, i_ScriptText_L0_mx1]); grind [maxSl, maxStr, toBytes_length, toInts_length, List.length_set, wrap64, i_Joined_len]) (by (try simp only [Nat.ble_eq, Bool.and_eq_true, decide_eq_true_eq, i_ScriptText_L0_mx0, i_ScriptText_L0_mx1]); grind [maxSl, maxStr, toBytes_length, toInts_length, List.length_set, wrap64, i_Joined_len]) (by (try simp only [Nat.ble_eq, Bool.and_eq_true, decide_eq_true_eq, i_ScriptText_L0_mx0, i_ScriptText_L0_mx1]); grind [maxSl, maxStr, toBytes_length, toInts_length, List.length_set, wrap64, i_Joined_len])) (fun a4 ha4 => have ia4 := i_ScriptText_L0_nx x0 (x0.length : Int) 0 [] (by (try simp only [Nat.ble_eq, Bool.and_eq_true, decide_eq_true_eq, i_ScriptText_L0_mx0, i_ScriptText_L0_mx1]); grind [maxSl, maxStr, toBytes_length, toInts_length, List.length_set, wrap64, i_Joined_len]) (by (try simp only [Nat.ble_eq, Bool.and_eq_true, decide_eq_true_eq, i_ScriptText_L0_mx0, i_ScriptText_L0_mx1]); grind [maxSl, maxStr, toBytes_length, toInts_length, List.length_set, wrap64, i_Joined_len]) (by (try simp only [Nat.ble_eq, Bool.and_eq_true, decide_eq_true_eq, i_ScriptText_L0_mx0, i_ScriptText_L0_mx1]); grind [maxSl, maxStr, toBytes_length, toInts_length, List.length_set, wrap64, i_Joined_len]) (by (try simp only [Nat.ble_eq, Bool.and_eq_true, decide_eq_true_eq, i_ScriptText_L0_mx0, i_ScriptText_L0_mx1]); grind [maxSl, maxStr, toBytes_length, toInts_length, List.length_set, wrap64, i_Joined_len]) (by (try simp only [Nat.ble_eq, Bool.and_eq_true, decide_eq_true_eq, i_ScriptText_L0_mx0, i_ScriptText_L0_mx1]); grind [maxSl, maxStr, toBytes_length, toInts_length, List.length_set, wrap64, i_Joined_len]) (by (try simp only [Nat.ble_eq, Bool.and_eq_true, decide_eq_true_eq, i_ScriptText_L0_mx0, i_ScriptText_L0_mx1]); grind [maxSl, maxStr, toBytes_length, toInts_length, List.length_set, wrap64, i_Joined_len]) _ ha4; bifG (by (try simp only [Nat.ble_eq, Bool.and_eq_true, decide_eq_true_eq, i_ScriptText_L0_mx0, i_ScriptText_L0_mx1]); grind [maxSl, maxStr, toBytes_length, toInts_length, List.length_set, wrap64, i_Joined_len]) (letT (f := k) (fun c5 hc5 => rfl)))
      (fun p4 => rfl))
theorem i_ScriptText_c (x0 : List Acti) (hp : x0.length ≤ 4294967296 ∧ sm_acti x0 = true) : Con Tryd.prog 23 (pvs [.sc (.sl .acti)] (x0, ())) [rv (.sc .str) [] (i_ScriptText x0)] := by
  refine Con.of_facts (enters_of Tryd.func23 rfl (by kernel_rfl)) fun hf => ?_
  replace hf := factAt hf
  exact evalFn_conL teFact mixFact (orcOf_ok _) Tryd.func23 (by kernel_rfl) (bs := [0]) (by kernel_rfl) (by kernel_rfl) (fun w0 mo I0 hmo => ⟨lsem_of_lorc (i_ScriptText_L0_ls w0 mo I0 hmo) (by kernel_rfl), trivial⟩) ((i_ScriptText_lk x0).trans (i_ScriptText_p x0 ((hf 0 0 rfl rfl).len) (fun y hy => (hf 0 0 rfl rfl).elem hy) hp _ _ _))
noncomputable def i_ScriptText_e : Ent1 Tryd.prog := entP 23 [.sc (.sl .acti)] (fun x => (decide (x.1.length ≤ 4294967296 ∧ sm_acti x.1 = true))) (fun x => (i_ScriptText x.1)) (fun v => [rv (.sc .str) [] v]) (fun x hx => i_ScriptText_c x.1 (of_decide_eq_true hx))


/-- laws.FnExactScriptText -/
def w_FnExactScriptText_N (x0 : List Acti) (γ : Type) (fail : γ) (k : Bool → γ) : γ :=
  letK (α := Int) (w_szActS x0 1048576) fun c1 =>
  bif (decide (c1 < 0)) then
    k true
  else
  bif (decide (x0.length ≤ 4294967296 ∧ sm_acti x0 = true)) then
  letK (α := List Acti) (w_toActS x0) fun c2 =>
  bif (decide (c2.length ≤ 4294967296 ∧ sm_acti c2 = true)) then
  letK (α := Bytes) (s_ScriptText c2) fun c3 =>
  bif (decide (x0.length ≤ 4294967296 ∧ sm_acti x0 = true)) then
  letK (α := List Acti) (w_toActS x0) fun c4 =>
  bif (decide (c4.length ≤ 4294967296 ∧ sm_acti c4 = true)) then
  letK (α := Bytes) (i_ScriptText c4) fun c5 =>
  bif (!(c5 == c3)) then
    k false
  else
  bif (decide (x0.length ≤ 4294967296 ∧ sm_acti x0 = true)) then
  letK (α := List Acti) (w_toActS x0) fun c6 =>
  letK (α := Bool) (w_eqActS c4 c6) fun c7 =>
  bif (!c7) then
    k false
  else
  k true
  else fail
  else fail
  else fail
  else fail
  else fail
def w_FnExactScriptText (x0 : List Acti) : Bool :=
  letK (α := Int) (w_szActS x0 1048576) fun c1 =>
  bif (decide (c1 < 0)) then
    true
  else
  letK (α := List Acti) (w_toActS x0) fun c2 =>
  letK (α := Bytes) (s_ScriptText c2) fun c3 =>
  letK (α := List Acti) (w_toActS x0) fun c4 =>
  letK (α := Bytes) (i_ScriptText c4) fun c5 =>
  bif (!(c5 == c3)) then
    false
  else
  letK (α := List Acti) (w_toActS x0) fun c6 =>
  letK (α := Bool) (w_eqActS c4 c6) fun c7 =>
  bif (!c7) then
    false
  else
  true
theorem w_FnExactScriptText_lk (x0 : List Acti) : evalFn te (orcOf (P := Tryd.prog) [w_szActS_e, w_toActS_e, s_ScriptText_e, i_ScriptText_e, w_eqActS_e]) lorc0 [] Tryd.f6 (pvs [.sc (.sl .acti)] (x0, ())) =
  w_FnExactScriptText_N x0 _ none (fun v => some [(false, [RC.c (.bool v)])]) := by kernel_rfl
theorem w_FnExactScriptText_p (x0 : List Acti) (hx0 : x0.length ≤ 140737488355328) (hx0_e : ∀ y ∈ x0, ∀ c ∈ Ty.cells .acti y, FactC c)  (γ : Type) (fail : γ) (k : Bool → γ) : w_FnExactScriptText_N x0 γ fail k = k (w_FnExactScriptText x0) := by
  unfold w_FnExactScriptText_N w_FnExactScriptText
  exact letT (f := k) (fun c1 hc1 => have kc1 := w_szActS_sm x0 1048576 (by grind [wrap64]) (by assumption) (by assumption); bifT (f := k) (fun b0 => rfl)
      (fun b0 => bifG (by (try simp only [Nat.ble_eq, Bool.and_eq_true, decide_eq_true_eq]); grind [maxSl, maxStr, toBytes_length, toInts_length, List.length_set, wrap64, w_szActS_sm]) (letT (f := k) (fun c2 hc2 => have kc2 := toActS_eq x0; bifG (by (try simp only [Nat.ble_eq, Bool.and_eq_true, decide_eq_true_eq]); grind [maxSl, maxStr, toBytes_length, toInts_length, List.length_set, wrap64, w_szActS_sm]) (letT (f := k) (fun c3 hc3 => bifG (by (try simp only [Nat.ble_eq, Bool.and_eq_true, decide_eq_true_eq]); grind [maxSl, maxStr, toBytes_length, toInts_length, List.length_set, wrap64, w_szActS_sm]) (letT (f := k) (fun c4 hc4 => have kc4 := toActS_eq x0; bifG (by (try simp only [Nat.ble_eq, Bool.and_eq_true, decide_eq_true_eq]); grind [maxSl, maxStr, toBytes_length, toInts_length, List.length_set, wrap64, w_szActS_sm]) (letT (f := k) (fun c5 hc5 => bifT (f := k) (fun b1 => rfl)
      (fun b1 => bifG (by (try simp only [Nat.ble_eq, Bool.and_eq_true, decide_eq_true_eq]); grind [maxSl, maxStr, toBytes_length, toInts_length, List.length_set, wrap64, w_szActS_sm]) (letT (f := k) (fun c6 hc6 => have kc6 := toActS_eq x0; letT (f := k) (fun c7 hc7 => bifT (f := k) (fun b2 => rfl)
      (fun b2 => rfl)))))))))))))))
theorem w_FnExactScriptText_c (x0 : List Acti)  : Con Tryd.prog 6 (pvs [.sc (.sl .acti)] (x0, ())) [rv (.sc .bool) [] (w_FnExactScriptText x0)] := by
  refine Con.of_facts (enters_of Tryd.func6 rfl (by kernel_rfl)) fun hf => ?_
  replace hf := factAt hf
  exact evalFn_con0 teFact mixFact (orcOf_ok _) Tryd.func6 (by kernel_rfl) ((w_FnExactScriptText_lk x0).trans (w_FnExactScriptText_p x0 ((hf 0 0 rfl rfl).len) (fun y hy => (hf 0 0 rfl rfl).elem hy) _ _ _))
noncomputable def w_FnExactScriptText_e : Ent1 Tryd.prog := entA 6 [.sc (.sl .acti)] (fun x => (w_FnExactScriptText x.1)) (fun v => [rv (.sc .bool) [] v]) (fun x => w_FnExactScriptText_c x.1)


theorem join_listN {W : Type} (b : UInt8) : ∀ (r : List Bytes) (j : Nat) (a : List Int), 0 < j → listN (W := W) (fun (j : Nat) (x : Bytes) a => bif decide (0 < (j : Int)) then .next ((a ++ (toInts [b])) ++ (toInts x)) else .next (a ++ (toInts x))) j r a = .next (a ++ toInts (r.flatMap fun x => b :: x))
  | [], j, a, _ => by simp [listN, toInts]
  | x :: r, j, a, hj => by
    simp only [listN, show decide (0 < (j : Int)) = true by simp; omega, cond_true, Stp.elim]
    rw [join_listN b r (j + 1) _ (by omega)]
    simp [toInts]
theorem joinI_flat (b : UInt8) (x : Bytes) : ∀ (r : List Bytes), joinI b (x :: r) = x ++ r.flatMap fun y => b :: y := by
  intro r
  induction r generalizing x with
  | nil => simp [joinI]
  | cons y r ih => rw [joinI_cons b x _ (by simp), ih y]; simp
theorem sJoined_eq (l : List Bytes) (b : UInt8) : s_Joined l [b] = joinI b l := by
  unfold s_Joined
  rw [toNat_sub0, forN_list l _ rfl (F := fun (j : Nat) (x : Bytes) a => bif decide (0 < (j : Int)) then .next ((a ++ (toInts [b])) ++ (toInts x)) else .next (a ++ (toInts x))) (by
    intro j x a hj
    simp only [s_Joined_L0_f, toNat_cast, getD_some hj])]
  cases l with
  | nil => rfl
  | cons x r =>
    simp only [listN, show decide (0 < ((0 : Nat) : Int)) = false from rfl, cond_false, Stp.elim]
    rw [join_listN b r 1 _ (by omega), joinI_flat]
    simp only [Stp.elim, List.nil_append]
    rw [toBytes_append, toBytes_toInts, toBytes_toInts]
theorem KeyR_zero : KeyR (Ty.zero .acti) := ⟨⟨Int.le_refl _, by show (0 : Int) < _; decide⟩, Int.le_refl _, by show (0 : Int) < _; decide⟩
theorem q_ScriptText (x : List Acti) (h : ∀ y ∈ x, KeyR y) : s_ScriptText x = i_ScriptText x := by
  unfold s_ScriptText i_ScriptText
  rw [show forN (s_ScriptText_L0_f x) 1 (Int.toNat ((x.length : Int) - 0)) 0 [] = forN (i_ScriptText_L0_f x (x.length : Int)) 1 (Int.toNat ((x.length : Int) - 0)) 0 [] from forN_congr (fun i a => by
    unfold s_ScriptText_L0_f i_ScriptText_L0_f
    rw [q_ActLine _ (getD_all KeyR_zero h _)]) _ _ _]
  cases decide (60 < (x.length : Int)) with
  | true => rfl
  | false =>
    cases forN (i_ScriptText_L0_f x (x.length : Int)) 1 (Int.toNat ((x.length : Int) - 0)) 0 [] with
    | next a => simp only [cond_false, Stp.elim, letK_eq, sJoined_eq, iJoined_eq]
    | out p => rfl

theorem keyR_of_fact {y : Acti} (h : ∀ c ∈ Ty.cells .acti y, FactC c) : KeyR y := by
  have h1 := inKU64 (h (.int .u64 y.mac.k) (List.mem_of_getElem? (i := 7) rfl)).rng
  have h2 := inKU64 (h (.int .u64 y.mac.l) (List.mem_of_getElem? (i := 8) rfl)).rng
  exact ⟨⟨h1.1, by omega⟩, h2.1, by omega⟩
theorem t_FnExactScriptText (x : List Acti) (h : ∀ y ∈ x, ∀ c ∈ Ty.cells .acti y, FactC c) : w_FnExactScriptText x = true := by
  simp [w_FnExactScriptText, letK, toActS_eq, eqActS_refl, q_ScriptText x fun y hy => keyR_of_fact (h y hy)]

end Go.Proofs.YtcjbalpokdgicaaDoor
