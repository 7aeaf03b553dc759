/-
  Contracts of functions and plain laws (printed by a program): each theorem says what a function of the program returns; conditions are its hypotheses.
-/
import Derived.Test.YtcjbalpokdgicaaDoorH1
set_option maxRecDepth 4000
set_option linter.unusedVariables false
set_option linter.unusedSimpArgs false
namespace Go.Proofs.YtcjbalpokdgicaaDoor
open Go Go.RowKit

/-- spec.WordOk -/
def s_WordOk_N (x0 : Int) (x1 : Int) (γ : Type) (fail : γ) (k : Bool → γ) : γ :=
  letK (α := Bool) (s_l1In x1 1 62) fun c1 =>
  bif c1 then
    bif (decide (0 ≤ (IntKind.wrap .u64 x1))) then
    letK (α := Int) (IntKind.wrap .i64 ((IntKind.wrap .i64 (1 * 2 ^ (min (IntKind.wrap .u64 x1).toNat 64))) - 1)) fun e2 =>
    letK (α := Bool) (s_l1In x0 0 e2) fun c3 =>
    k c3
    else fail
  else
  k false
def s_WordOk (x0 : Int) (x1 : Int) : Bool :=
  letK (α := Bool) (s_l1In x1 1 62) fun c1 =>
  bif c1 then
    letK (α := Int) (IntKind.wrap .i64 ((IntKind.wrap .i64 (1 * 2 ^ (min (IntKind.wrap .u64 x1).toNat 64))) - 1)) fun e2 =>
    letK (α := Bool) (s_l1In x0 0 e2) fun c3 =>
    c3
  else
  false
theorem s_WordOk_lk (x0 : Int) (x1 : Int) : evalFn te (orcOf (P := Tryd.prog) [s_l1In_e]) lorc0 [] Tryd.f65 (pvs [.sc (.int .i64), .sc (.int .i64)] (x0, x1, ())) =
  s_WordOk_N x0 x1 _ none (fun v => some [(false, [RC.c (.bool v)])]) := by kernel_rfl
theorem s_WordOk_p (x0 : Int) (x1 : Int) (hx0 : inK .i64 x0) (hx1 : inK .i64 x1)  (γ : Type) (fail : γ) (k : Bool → γ) : s_WordOk_N x0 x1 γ fail k = k (s_WordOk x0 x1) := by
  unfold s_WordOk_N s_WordOk
  exact letT (f := k) (fun c1 hc1 => bifT (f := k) (fun b0 => bifG (by simp only [decide_eq_true_eq]; exact wrapU_nonneg _) (letT (f := k) (fun e2 he2 => letT (f := k) (fun c3 hc3 => rfl))))
      (fun b0 => rfl))
theorem s_WordOk_c (x0 : Int) (x1 : Int)  : Con Tryd.prog 65 (pvs [.sc (.int .i64), .sc (.int .i64)] (x0, x1, ())) [rv (.sc .bool) [] (s_WordOk x0 x1)] := by
  refine Con.of_facts (enters_of Tryd.func65 rfl (by kernel_rfl)) fun hf => ?_
  replace hf := factAt hf
  exact evalFn_con0 teFact mixFact (orcOf_ok _) Tryd.func65 (by kernel_rfl) ((s_WordOk_lk x0 x1).trans (s_WordOk_p x0 x1 ((hf 0 0 rfl rfl).rng) ((hf 1 0 rfl rfl).rng) _ _ _))
noncomputable def s_WordOk_e : Ent1 Tryd.prog := entA 65 [.sc (.int .i64), .sc (.int .i64)] (fun x => (s_WordOk x.1 x.2.1)) (fun v => [rv (.sc .bool) [] v]) (fun x => s_WordOk_c x.1 x.2.1)


/-- spec.PutWord -/
def s_PutWord_ann : List (Nat × Keep) := [(0, ⟨[0, 5, 6], [], false, 0⟩)]
def s_PutWord_L0_sh : Sh := ⟨[(0, false, [.int .i64]), (5, false, [.own 0]), (6, false, [.int .i64])], [.arr .u8 false true]⟩
def s_PutWord_L0_es : List (Ex × Sh) := [(.exit 0, ⟨[(4, false, [.undef]), (5, false, [.own 0])], [.arr .u8 false true]⟩)]
def s_PutWord_L0_mk (v0 : Int) (v1 : Int) (v2 : List Int) : s_PutWord_L0_sh.T := (((v0, ()), (((), ()), ((v1, ()), ()))), (v2, ()))
def s_PutWord_L0_mx0 (y0 : List Int) : Sh.T ⟨[(4, false, [.undef]), (5, false, [.own 0])], [.arr .u8 false true]⟩ := ((((), ()), (((), ()), ())), (y0, ()))
def s_PutWord_L0_B (v0 : Int) (v1 : Int) (v2 : List Int) (γ : Type) (fail : γ) (next : s_PutWord_L0_sh.T → γ) (out : WT s_PutWord_L0_es → γ) : γ :=
  bif (decide (0 ≤ v1)) then
    bif ((decide (0 ≤ v1)) && (decide (v1 < (v2.length : Int)))) then
    next (s_PutWord_L0_mk (IntKind.wrap .i64 (v0.tdiv 256)) (IntKind.wrap .i64 (v1 - 1)) (v2.set v1.toNat (IntKind.wrap .u8 (v0.tmod 256))))
    else fail
  else
  out (s_PutWord_L0_mx0 v2)
theorem s_PutWord_L0_par (v0 : Int) (v1 : Int) (v2 : List Int) (γ : Type) (fail : γ) (next : s_PutWord_L0_sh.T → γ) (out : WT s_PutWord_L0_es → γ) : s_PutWord_L0_B v0 v1 v2 γ fail next out = optK (s_PutWord_L0_B v0 v1 v2 _ none (fun v' => some (.inl v')) (fun w => some (.inr w))) fail (fun r => Sum.elim next out r) := by
  unfold s_PutWord_L0_B
  exact bifT (f := (fun o => optK o fail (fun r => Sum.elim next out r))) (fun _ => bifT (f := (fun o => optK o fail (fun r => Sum.elim next out r))) (fun _ => rfl) (fun _ => rfl))
      (fun _ => rfl)
def s_PutWord_L0_r : Round s_PutWord_L0_sh.T (WT s_PutWord_L0_es) where
  B v γ fail next out := s_PutWord_L0_B v.1.1.1 v.1.2.2.1.1 v.2.1 γ fail next out
  par v γ fail next out := s_PutWord_L0_par v.1.1.1 v.1.2.2.1.1 v.2.1 γ fail next out
def s_PutWord_L0_fu (v0 : Int) (v1 : Int) (v2 : List Int) : Nat := (Int.toNat (v1 - 0 + 1)) + 1
theorem s_PutWord_L0_lk (v : s_PutWord_L0_sh.T) (next : St → Option Res) (k : Ex → St → Option Res) : evalK te (orcOf (P := Tryd.prog) [s_l1In_e, s_WordOk_e]) (lorcOf []) Tryd.f66.ntmps s_PutWord_ann (nthLoop (bodyOf Tryd.f66) 0 0) 0 (s_PutWord_L0_sh.enc v) (endK ⟨[0, 5, 6], [], false, 0⟩ ⟨[4, 5], [], false, 0⟩ next k) =
  s_PutWord_L0_r.B v _ none (fun v' => next (s_PutWord_L0_sh.enc v')) (fun w => outK s_PutWord_L0_es k w) := by kernel_rfl
def s_PutWord_L0_le : LE := leOf 0 s_PutWord_L0_sh s_PutWord_L0_es s_PutWord_L0_r.step (fun v => s_PutWord_L0_fu v.1.1.1 v.1.2.2.1.1 v.2.1)
theorem s_PutWord_L0_ls (w0 : World) (mo : Mts) (I0 : Nat → Prop) (hmo : mo.length = 0) : LSem Tryd.prog (Sim w0 mo Tryd.f66.ntmps I0) (fun b s k => match Nat.beq 0 b with | true => s_PutWord_L0_le.run s k | false => none) 0 (nthLoop (bodyOf Tryd.f66) 0 0) :=
  le_sem hmo (lorc := lorcOf []) (ann := s_PutWord_ann) (keep := ⟨[0, 5, 6], [], false, 0⟩) (kout := ⟨[4, 5], [], false, 0⟩) teFact mixFact (orcOf_ok _) (by kernel_rfl) (allLoops_of (bs := []) (by kernel_rfl) trivial) s_PutWord_L0_r _ s_PutWord_L0_lk
def s_PutWord_L0_f  (v1 : Int) (a : Int × List Int) : Stp (Int × List Int) (Empty) :=
  .next ((IntKind.wrap .i64 (a.1.tdiv 256)), (a.2.set v1.toNat (IntKind.wrap .u8 (a.1.tmod 256))))
theorem s_PutWord_L0_st (v0 : Int) (v1 : Int) (v2 : List Int) (hlo : 0 ≤ v1) (hhi : v1 ≤ 9223372036854775807) (hN : 0 ≤ 0) (hinv : v1 < (v2.length : Int)) : s_PutWord_L0_r.step (s_PutWord_L0_mk v0 v1 v2) = Stp.elim (fun a' : Int × List Int => some (Sum.inl (s_PutWord_L0_mk a'.1 (v1 + (-1)) a'.2))) (fun w => some (Sum.inr ((fun p : Empty => nomatch p) w))) (s_PutWord_L0_f  v1 (v0, v2)) := by
  have hw : (IntKind.wrap .i64 (v1 - 1)) = v1 + (-1) := wrap64 (by omega) (by omega)
  show s_PutWord_L0_B v0 v1 v2 (Option (s_PutWord_L0_sh.T ⊕ WT s_PutWord_L0_es)) none (fun v' => some (Sum.inl v')) (fun w => some (Sum.inr w)) = _
  unfold s_PutWord_L0_B s_PutWord_L0_f
  exact bifG (by simp only [decide_eq_true_eq]; omega) (bifG (by (try simp only [Nat.ble_eq, Bool.and_eq_true, decide_eq_true_eq]); grind [maxSl, maxStr, toBytes_length, toInts_length, List.length_set, wrap64]) ((by exact congrArg (fun z => some (Sum.inl (s_PutWord_L0_mk (IntKind.wrap .i64 (v0.tdiv 256)) z (v2.set v1.toNat (IntKind.wrap .u8 (v0.tmod 256)))))) hw)))
theorem s_PutWord_L0_cl (v0 : Int) (v1 : Int) (v2 : List Int) (h0 : v1 ≤ 9223372036854775807) (h1 : 0 ≤ 0) (h2 : v1 < (v2.length : Int)) : loopF s_PutWord_L0_r.step (s_PutWord_L0_fu v0 v1 v2) (s_PutWord_L0_mk v0 v1 v2) = some (Stp.elim (fun a => (fun i a => s_PutWord_L0_mx0 a.2) (v1 + (-1) * (((Int.toNat (v1 - 0 + 1)) : Nat) : Int)) a) (fun p : Empty => nomatch p) (forN (s_PutWord_L0_f ) (-1) (Int.toNat (v1 - 0 + 1)) v1 (v0, v2))) :=
  forN_loop (step := s_PutWord_L0_r.step) (mk := fun v1 a => s_PutWord_L0_mk a.1 v1 a.2) (f := s_PutWord_L0_f ) (e := (fun i a => s_PutWord_L0_mx0 a.2)) (emb := (fun p : Empty => nomatch p)) (st := (-1)) (Inv := fun v1 a => v1 < (a.2.length : Int)) (Int.toNat (v1 - 0 + 1)) v1 (v0, v2) _ (Nat.lt_succ_self _) h2
    (fun j a hj hv => ⟨s_PutWord_L0_st a.1 (v1 + (-1) * (j : Int)) a.2 (by omega) (by omega) (by omega) hv, by
      intro a' he
      grind [s_PutWord_L0_f, letK, Stp.elim, wrap64, List.length_set]⟩)
    (fun a hv => by
      show s_PutWord_L0_B a.1 (v1 + (-1) * (((Int.toNat (v1 - 0 + 1)) : Nat) : Int)) a.2 (Option (s_PutWord_L0_sh.T ⊕ WT s_PutWord_L0_es)) none (fun v' => some (Sum.inl v')) (fun w => some (Sum.inr w)) = _
      unfold s_PutWord_L0_B
      exact bifN (by simp only [decide_eq_false_iff_not]; omega) rfl)
theorem s_PutWord_L0_nx (v0 : Int) (v1 : Int) (v2 : List Int) (h0 : v1 ≤ 9223372036854775807) (h1 : 0 ≤ 0) (h2 : v1 < (v2.length : Int)) : ∀ a', forN (s_PutWord_L0_f ) (-1) (Int.toNat (v1 - 0 + 1)) v1 (v0, v2) = .next a' → (v1 + (-1) * (((Int.toNat (v1 - 0 + 1)) : Nat) : Int)) < (a'.2.length : Int) :=
  forN_inv (f := s_PutWord_L0_f ) (st := (-1)) (Inv := fun v1 a => v1 < (a.2.length : Int)) (Int.toNat (v1 - 0 + 1)) v1 (v0, v2) h2
    (fun j a hj hv => by
      intro a' he
      grind [s_PutWord_L0_f, letK, Stp.elim, wrap64, List.length_set])
def s_PutWord_N (x0 : Int) (x1 : Int) (γ : Type) (fail : γ) (k : Bytes → γ) : γ :=
  letK (α := Bool) (s_l1In x1 1 6) fun c1 =>
  bif (!c1) then
    k []
  else
  letK (α := Bool) (s_WordOk x0 (IntKind.wrap .i64 (8 * x1))) fun c2 =>
  bif (!c2) then
    k []
  else
  bif ((((decide (0 ≤ x1)) && (decide (x1 = x1))) && (decide (x1 * 1 ≤ (maxSl : Int)))) && (decide (x1 ≤ (maxSl : Int)))) then
  optK (loopF s_PutWord_L0_r.step (s_PutWord_L0_fu x0 (IntKind.wrap .i64 (x1 - 1)) (List.replicate x1.toNat 0)) (s_PutWord_L0_mk x0 (IntKind.wrap .i64 (x1 - 1)) (List.replicate x1.toNat 0))) fail fun w3 =>
    k (toBytes w3.2.1)
  else fail
def s_PutWord (x0 : Int) (x1 : Int) : Bytes :=
  letK (α := Bool) (s_l1In x1 1 6) fun c1 =>
  bif (!c1) then
    []
  else
  letK (α := Bool) (s_WordOk x0 (IntKind.wrap .i64 (8 * x1))) fun c2 =>
  bif (!c2) then
    []
  else
  Stp.elim (fun a4 =>
    (toBytes a4.2))
    (fun p : Empty => nomatch p)
    (forN (s_PutWord_L0_f) (-1) (Int.toNat ((IntKind.wrap .i64 (x1 - 1)) - 0 + 1)) (IntKind.wrap .i64 (x1 - 1)) (x0, (List.replicate x1.toNat 0)))
theorem s_PutWord_lk (x0 : Int) (x1 : Int) : evalFn te (orcOf (P := Tryd.prog) [s_l1In_e, s_WordOk_e]) (lorcOf [s_PutWord_L0_le]) s_PutWord_ann Tryd.f66 (pvs [.sc (.int .i64), .sc (.int .i64)] (x0, x1, ())) =
  s_PutWord_N x0 x1 _ none (fun v => some [(false, [RC.c (.str v)])]) := by kernel_rfl
theorem s_PutWord_p (x0 : Int) (x1 : Int) (hx0 : inK .i64 x0) (hx1 : inK .i64 x1)  (γ : Type) (fail : γ) (k : Bytes → γ) : s_PutWord_N x0 x1 γ fail k = k (s_PutWord x0 x1) := by
  unfold s_PutWord_N s_PutWord
  refine letT (f := k) (fun c1 hc1 => bifT (f := k) (fun b0 => rfl)
      (fun b0 => letT (f := k) (fun c2 hc2 => bifT (f := k) (fun b1 => rfl)
      (fun b1 => bifG ?_ (loopX (f := k) (s_PutWord_L0_cl x0 (IntKind.wrap .i64 (x1 - 1)) (List.replicate x1.toNat 0) ?_ ?_ ?_) (fun a4 ha4 => have ia4 := s_PutWord_L0_nx x0 (IntKind.wrap .i64 (x1 - 1)) (List.replicate x1.toNat 0) ?_ ?_ ?_ _ ha4; rfl)
      (fun p : Empty => nomatch p))))))
  all_goals ((try simp only [Nat.ble_eq, Bool.and_eq_true, decide_eq_true_eq, s_PutWord_L0_mx0]); grind [maxSl, maxStr, toBytes_length, toInts_length, List.length_set, wrap64, s_l1In_eq, wrap64])
theorem s_PutWord_c (x0 : Int) (x1 : Int)  : Con Tryd.prog 66 (pvs [.sc (.int .i64), .sc (.int .i64)] (x0, x1, ())) [rv (.sc .str) [] (s_PutWord x0 x1)] := by
  refine Con.of_facts (enters_of Tryd.func66 rfl (by kernel_rfl)) fun hf => ?_
  replace hf := factAt hf
  refine evalFn_conL teFact mixFact (orcOf_ok _) Tryd.func66 ?_ (bs := [0]) ?_ ?_ (fun w0 mo I0 hmo => ⟨lsem_of_lorc (s_PutWord_L0_ls w0 mo I0 hmo) ?_, trivial⟩) ((s_PutWord_lk x0 x1).trans (s_PutWord_p x0 x1 ((hf 0 0 rfl rfl).rng) ((hf 1 0 rfl rfl).rng) _ _ _))
  all_goals (kernel_rfl)
noncomputable def s_PutWord_e : Ent1 Tryd.prog := entA 66 [.sc (.int .i64), .sc (.int .i64)] (fun x => (s_PutWord x.1 x.2.1)) (fun v => [rv (.sc .str) [] v]) (fun x => s_PutWord_c x.1 x.2.1)

theorem s_PutWord_len (x0 x1 : Int) : (s_PutWord x0 x1).length ≤ 6 := by
  unfold s_PutWord
  cases hw : s_l1In x1 1 6 with
  | false => simp [letK]
  | true =>
    rw [s_l1In_eq] at hw
    simp only [Bool.and_eq_true, decide_eq_true_eq] at hw
    simp only [letK, Bool.not_true, cond_false]
    cases s_WordOk x0 (IntKind.wrap .i64 (8 * x1)) with
    | false => simp
    | true =>
      simp only [Bool.not_true, cond_false]
      cases hf : forN (s_PutWord_L0_f) (-1) (Int.toNat ((IntKind.wrap .i64 (x1 - 1)) - 0 + 1)) (IntKind.wrap .i64 (x1 - 1)) (x0, (List.replicate x1.toNat 0)) with
      | out p => nomatch p
      | next a =>
        have := forN_inv (Inv := fun _ a => a.2.length = x1.toNat) _ _ _ (by simp) (fun j a _ h a' he => by unfold s_PutWord_L0_f at he; cases he; simpa using h) a hf
        simp only [Stp.elim, toBytes_length]
        omega


/-- impl.WordOk -/
def i_WordOk_N (x0 : Int) (x1 : Int) (γ : Type) (fail : γ) (k : Bool → γ) : γ :=
  letK (α := Bool) (i_within x1 1 62) fun c1 =>
  bif c1 then
    bif (decide (0 ≤ x1)) then
    letK (α := Int) (IntKind.wrap .i64 ((IntKind.wrap .i64 (1 * 2 ^ (min x1.toNat 64))) - 1)) fun e2 =>
    letK (α := Bool) (i_within x0 0 e2) fun c3 =>
    k c3
    else fail
  else
  k false
def i_WordOk (x0 : Int) (x1 : Int) : Bool :=
  letK (α := Bool) (i_within x1 1 62) fun c1 =>
  bif c1 then
    letK (α := Int) (IntKind.wrap .i64 ((IntKind.wrap .i64 (1 * 2 ^ (min x1.toNat 64))) - 1)) fun e2 =>
    letK (α := Bool) (i_within x0 0 e2) fun c3 =>
    c3
  else
  false
theorem i_WordOk_lk (x0 : Int) (x1 : Int) : evalFn te (orcOf (P := Tryd.prog) [i_within_e]) lorc0 [] Tryd.f67 (pvs [.sc (.int .i64), .sc (.int .i64)] (x0, x1, ())) =
  i_WordOk_N x0 x1 _ none (fun v => some [(false, [RC.c (.bool v)])]) := by kernel_rfl
theorem i_WordOk_p (x0 : Int) (x1 : Int) (hx0 : inK .i64 x0) (hx1 : inK .i64 x1)  (γ : Type) (fail : γ) (k : Bool → γ) : i_WordOk_N x0 x1 γ fail k = k (i_WordOk x0 x1) := by
  unfold i_WordOk_N i_WordOk
  exact letT (f := k) (fun c1 hc1 => bifT (f := k) (fun b0 => bifG (by (try simp only [Nat.ble_eq, Bool.and_eq_true, decide_eq_true_eq]); grind [maxSl, maxStr, toBytes_length, toInts_length, List.length_set, wrap64, i_within_eq]) (letT (f := k) (fun e2 he2 => letT (f := k) (fun c3 hc3 => rfl))))
      (fun b0 => rfl))
theorem i_WordOk_c (x0 : Int) (x1 : Int)  : Con Tryd.prog 67 (pvs [.sc (.int .i64), .sc (.int .i64)] (x0, x1, ())) [rv (.sc .bool) [] (i_WordOk x0 x1)] := by
  refine Con.of_facts (enters_of Tryd.func67 rfl (by kernel_rfl)) fun hf => ?_
  replace hf := factAt hf
  exact evalFn_con0 teFact mixFact (orcOf_ok _) Tryd.func67 (by kernel_rfl) ((i_WordOk_lk x0 x1).trans (i_WordOk_p x0 x1 ((hf 0 0 rfl rfl).rng) ((hf 1 0 rfl rfl).rng) _ _ _))
noncomputable def i_WordOk_e : Ent1 Tryd.prog := entA 67 [.sc (.int .i64), .sc (.int .i64)] (fun x => (i_WordOk x.1 x.2.1)) (fun v => [rv (.sc .bool) [] v]) (fun x => i_WordOk_c x.1 x.2.1)


/-- spec.Hex -/
def s_Hex_ann : List (Nat × Keep) := [(0, ⟨[0, 3, 4], [], false, 0⟩)]
def s_Hex_L0_sh : Sh := ⟨[(0, false, [.str]), (3, false, [.own 0]), (4, false, [.int .i64])], [.arr .u8 false true]⟩
def s_Hex_L0_es : List (Ex × Sh) := [(.exit 0, ⟨[(2, false, [.undef]), (3, false, [.own 0])], [.arr .u8 false true]⟩)]
def s_Hex_L0_mk (v0 : Bytes) (v1 : Int) (v2 : List Int) : s_Hex_L0_sh.T := (((v0, ()), (((), ()), ((v1, ()), ()))), (v2, ()))
def s_Hex_L0_mx0 (y0 : List Int) : Sh.T ⟨[(2, false, [.undef]), (3, false, [.own 0])], [.arr .u8 false true]⟩ := ((((), ()), (((), ()), ())), (y0, ()))
def s_Hex_L0_B (v0 : Bytes) (v1 : Int) (v2 : List Int) (γ : Type) (fail : γ) (next : s_Hex_L0_sh.T → γ) (out : WT s_Hex_L0_es → γ) : γ :=
  bif (decide (v1 < (v0.length : Int))) then
    bif ((decide (0 ≤ v1)) && (decide (v1 < (v0.length : Int)))) then
    letK (α := Int) (s_l1Hex (IntKind.wrap .u8 ((byteAt v0 v1.toNat).tdiv 16))) fun c1 =>
    bif ((decide (0 ≤ v1)) && (decide (v1 < (v0.length : Int)))) then
    letK (α := Int) (s_l1Hex ((byteAt v0 v1.toNat).tmod 16)) fun c2 =>
    bif (Nat.ble ((2 * (v2.length + 2) + 1024) * 1) maxSl) then
    next (s_Hex_L0_mk v0 (IntKind.wrap .i64 (v1 + 1)) (v2 ++ [c1, c2]))
    else fail
    else fail
    else fail
  else
  out (s_Hex_L0_mx0 v2)
theorem s_Hex_L0_par (v0 : Bytes) (v1 : Int) (v2 : List Int) (γ : Type) (fail : γ) (next : s_Hex_L0_sh.T → γ) (out : WT s_Hex_L0_es → γ) : s_Hex_L0_B v0 v1 v2 γ fail next out = optK (s_Hex_L0_B v0 v1 v2 _ none (fun v' => some (.inl v')) (fun w => some (.inr w))) fail (fun r => Sum.elim next out r) := by
  unfold s_Hex_L0_B
  repeat' (first | refine letT (f := (fun o => optK o fail (fun r => Sum.elim next out r))) (fun _ _ => ?_) | refine bifT (f := (fun o => optK o fail (fun r => Sum.elim next out r))) (fun _ => ?_) (fun _ => ?_) | rfl)
def s_Hex_L0_r : Round s_Hex_L0_sh.T (WT s_Hex_L0_es) where
  B v γ fail next out := s_Hex_L0_B v.1.1.1 v.1.2.2.1.1 v.2.1 γ fail next out
  par v γ fail next out := s_Hex_L0_par v.1.1.1 v.1.2.2.1.1 v.2.1 γ fail next out
def s_Hex_L0_fu (v0 : Bytes) (v1 : Int) (v2 : List Int) : Nat := (Int.toNat ((v0.length : Int) - v1)) + 1
theorem s_Hex_L0_lk (v : s_Hex_L0_sh.T) (next : St → Option Res) (k : Ex → St → Option Res) : evalK te (orcOf (P := Tryd.prog) [s_l1Hex_e]) (lorcOf []) Tryd.f73.ntmps s_Hex_ann (nthLoop (bodyOf Tryd.f73) 0 0) 0 (s_Hex_L0_sh.enc v) (endK ⟨[0, 3, 4], [], false, 0⟩ ⟨[2, 3], [], false, 0⟩ next k) =
  s_Hex_L0_r.B v _ none (fun v' => next (s_Hex_L0_sh.enc v')) (fun w => outK s_Hex_L0_es k w) := by kernel_rfl
def s_Hex_L0_le : LE := leOf 0 s_Hex_L0_sh s_Hex_L0_es s_Hex_L0_r.step (fun v => s_Hex_L0_fu v.1.1.1 v.1.2.2.1.1 v.2.1)
theorem s_Hex_L0_ls (w0 : World) (mo : Mts) (I0 : Nat → Prop) (hmo : mo.length = 0) : LSem Tryd.prog (Sim w0 mo Tryd.f73.ntmps I0) (fun b s k => match Nat.beq 0 b with | true => s_Hex_L0_le.run s k | false => none) 0 (nthLoop (bodyOf Tryd.f73) 0 0) :=
  le_sem hmo (lorc := lorcOf []) (ann := s_Hex_ann) (keep := ⟨[0, 3, 4], [], false, 0⟩) (kout := ⟨[2, 3], [], false, 0⟩) teFact mixFact (orcOf_ok _) (by kernel_rfl) (allLoops_of (bs := []) (by kernel_rfl) trivial) s_Hex_L0_r _ s_Hex_L0_lk
def s_Hex_L0_f (v0 : Bytes) (v1 : Int) (a : List Int) : Stp (List Int) (Empty) :=
  letK (α := Int) (s_l1Hex (IntKind.wrap .u8 ((byteAt v0 v1.toNat).tdiv 16))) fun c1 =>
  letK (α := Int) (s_l1Hex ((byteAt v0 v1.toNat).tmod 16)) fun c2 =>
  .next (a ++ [c1, c2])
theorem s_Hex_L0_st (v0 : Bytes) (v1 : Int) (v2 : List Int) (hlo : 0 ≤ v1) (hhi : v1 < (v0.length : Int)) (hN : (v0.length : Int) ≤ 4611686018427387904) (hi0 : (v0.length : Int) ≤ 4294967296) (hinv : (v2.length : Int) ≤ 2 * v1) : s_Hex_L0_r.step (s_Hex_L0_mk v0 v1 v2) = Stp.elim (fun a' : List Int => some (Sum.inl (s_Hex_L0_mk v0 (v1 + 1) a'))) (fun w => some (Sum.inr ((fun p : Empty => nomatch p) w))) (s_Hex_L0_f v0 v1 v2) := by
  have hw : (IntKind.wrap .i64 (v1 + 1)) = v1 + 1 := wrap64 (by omega) (by omega)
  show s_Hex_L0_B v0 v1 v2 (Option (s_Hex_L0_sh.T ⊕ WT s_Hex_L0_es)) none (fun v' => some (Sum.inl v')) (fun w => some (Sum.inr w)) = _
  unfold s_Hex_L0_B s_Hex_L0_f
  refine bifG (by simp only [decide_eq_true_eq]; omega) (bifG ?_ (letT (f := (Stp.elim (fun a' : List Int => some (Sum.inl (s_Hex_L0_mk v0 (v1 + 1) a'))) (fun w => some (Sum.inr ((fun p : Empty => nomatch p) w))))) (fun c1 hc1 => bifG ?_ (letT (f := (Stp.elim (fun a' : List Int => some (Sum.inl (s_Hex_L0_mk v0 (v1 + 1) a'))) (fun w => some (Sum.inr ((fun p : Empty => nomatch p) w))))) (fun c2 hc2 => bifG ?_ ((by exact congrArg (fun z => some (Sum.inl (s_Hex_L0_mk v0 z (v2 ++ [c1, c2])))) hw)))))))
  all_goals ((try simp only [Nat.ble_eq, Bool.and_eq_true, decide_eq_true_eq]); grind [maxSl, maxStr, toBytes_length, toInts_length, List.length_set, wrap64])
theorem s_Hex_L0_cl (v0 : Bytes) (v1 : Int) (v2 : List Int) (h0 : 0 ≤ v1) (h1 : (v0.length : Int) ≤ 4611686018427387904) (h2 : (v0.length : Int) ≤ 4294967296) (h3 : (v2.length : Int) ≤ 2 * v1) : loopF s_Hex_L0_r.step (s_Hex_L0_fu v0 v1 v2) (s_Hex_L0_mk v0 v1 v2) = some (Stp.elim (fun a => (fun i a => s_Hex_L0_mx0 a) (v1 + 1 * (((Int.toNat ((v0.length : Int) - v1)) : Nat) : Int)) a) (fun p : Empty => nomatch p) (forN (s_Hex_L0_f v0) 1 (Int.toNat ((v0.length : Int) - v1)) v1 v2)) :=
  forN_loop (step := s_Hex_L0_r.step) (mk := fun v1 a => s_Hex_L0_mk v0 v1 a) (f := s_Hex_L0_f v0) (e := (fun i a => s_Hex_L0_mx0 a)) (emb := (fun p : Empty => nomatch p)) (st := 1) (Inv := fun v1 a => (a.length : Int) ≤ 2 * v1) (Int.toNat ((v0.length : Int) - v1)) v1 v2 _ (Nat.lt_succ_self _) h3
    (fun j a hj hv => ⟨s_Hex_L0_st v0 (v1 + 1 * (j : Int)) a (by omega) (by omega) (by omega) h2 hv, by
      intro a' he
      grind [s_Hex_L0_f, letK, Stp.elim, wrap64, List.length_set]⟩)
    (fun a hv => by
      show s_Hex_L0_B v0 (v1 + 1 * (((Int.toNat ((v0.length : Int) - v1)) : Nat) : Int)) a (Option (s_Hex_L0_sh.T ⊕ WT s_Hex_L0_es)) none (fun v' => some (Sum.inl v')) (fun w => some (Sum.inr w)) = _
      unfold s_Hex_L0_B
      exact bifN (by simp only [decide_eq_false_iff_not]; omega) rfl)
theorem s_Hex_L0_nx (v0 : Bytes) (v1 : Int) (v2 : List Int) (h0 : 0 ≤ v1) (h1 : (v0.length : Int) ≤ 4611686018427387904) (h2 : (v0.length : Int) ≤ 4294967296) (h3 : (v2.length : Int) ≤ 2 * v1) : ∀ a', forN (s_Hex_L0_f v0) 1 (Int.toNat ((v0.length : Int) - v1)) v1 v2 = .next a' → (a'.length : Int) ≤ 2 * (v1 + 1 * (((Int.toNat ((v0.length : Int) - v1)) : Nat) : Int)) :=
  forN_inv (f := s_Hex_L0_f v0) (st := 1) (Inv := fun v1 a => (a.length : Int) ≤ 2 * v1) (Int.toNat ((v0.length : Int) - v1)) v1 v2 h3
    (fun j a hj hv => by
      intro a' he
      grind [s_Hex_L0_f, letK, Stp.elim, wrap64, List.length_set])
def s_Hex_N (x0 : Bytes) (γ : Type) (fail : γ) (k : Bytes → γ) : γ :=
  optK (loopF s_Hex_L0_r.step (s_Hex_L0_fu x0 0 []) (s_Hex_L0_mk x0 0 [])) fail fun w3 =>
    k (toBytes w3.2.1)
def s_Hex (x0 : Bytes) : Bytes :=
  Stp.elim (fun a4 =>
    (toBytes a4))
    (fun p : Empty => nomatch p)
    (forN (s_Hex_L0_f x0) 1 (Int.toNat ((x0.length : Int) - 0)) 0 [])
theorem s_Hex_lk (x0 : Bytes) : evalFn te (orcOf (P := Tryd.prog) [s_l1Hex_e]) (lorcOf [s_Hex_L0_le]) s_Hex_ann Tryd.f73 (pvs [.sc .str] (x0, ())) =
  s_Hex_N x0 _ none (fun v => some [(false, [RC.c (.str v)])]) := by kernel_rfl
theorem s_Hex_p (x0 : Bytes) (hx0 : List.length x0 ≤ 4611686018427387904) (hp : x0.length ≤ 4294967296) (γ : Type) (fail : γ) (k : Bytes → γ) : s_Hex_N x0 γ fail k = k (s_Hex x0) := by
  unfold s_Hex_N s_Hex
  refine loopX (f := k) (s_Hex_L0_cl x0 0 [] ?_ ?_ ?_ ?_) (fun a4 ha4 => have ia4 := s_Hex_L0_nx x0 0 [] ?_ ?_ ?_ ?_ _ ha4; rfl)
      (fun p : Empty => nomatch p)
  all_goals ((try simp only [Nat.ble_eq, Bool.and_eq_true, decide_eq_true_eq, s_Hex_L0_mx0]); grind [maxSl, maxStr, toBytes_length, toInts_length, List.length_set, wrap64])
theorem s_Hex_c (x0 : Bytes) (hp : x0.length ≤ 4294967296) : Con Tryd.prog 73 (pvs [.sc .str] (x0, ())) [rv (.sc .str) [] (s_Hex x0)] := by
  refine Con.of_facts (enters_of Tryd.func73 rfl (by kernel_rfl)) fun hf => ?_
  replace hf := factAt hf
  refine evalFn_conL teFact mixFact (orcOf_ok _) Tryd.func73 ?_ (bs := [0]) ?_ ?_ (fun w0 mo I0 hmo => ⟨lsem_of_lorc (s_Hex_L0_ls w0 mo I0 hmo) ?_, trivial⟩) ((s_Hex_lk x0).trans (s_Hex_p x0 ((hf 0 0 rfl rfl).slen) hp _ _ _))
  all_goals (kernel_rfl)
noncomputable def s_Hex_e : Ent1 Tryd.prog := entP 73 [.sc .str] (fun x => (decide (x.1.length ≤ 4294967296))) (fun x => (s_Hex x.1)) (fun v => [rv (.sc .str) [] v]) (fun x hx => s_Hex_c x.1 (of_decide_eq_true hx))

theorem s_Hex_len (x0 : Bytes) (hp : x0.length ≤ 4294967296)  : (fun v : Bytes => v.length ≤ 2 * x0.length) (s_Hex x0) := by
  unfold s_Hex
  refine loopP (P := (fun v : Bytes => v.length ≤ 2 * x0.length)) (fun a4 ha4 => have ia4 := s_Hex_L0_nx x0 0 [] ?_ ?_ ?_ ?_ _ ha4; ?_)
      (fun p _ => nomatch p)
  all_goals ((try simp only [Nat.ble_eq, Bool.and_eq_true, decide_eq_true_eq, s_Hex_L0_mx0]); grind [maxSl, maxStr, toBytes_length, toInts_length, List.length_set, wrap64])

/-- impl.SameMac -/
def i_SameMac_N (x0 : Mac) (x1 : Mac) (γ : Type) (fail : γ) (k : Bool → γ) : γ :=
  bif (x0.use == x1.use) then
    bif (x0.k == x1.k) then
      bif (x0.l == x1.l) then
        letK (α := Bool) (g_Equal_MacRow x0.rows x1.rows) fun c1 =>
        k c1
      else
      k false
    else
    k false
  else
  k false
def i_SameMac (x0 : Mac) (x1 : Mac) : Bool :=
  bif (x0.use == x1.use) then
    bif (x0.k == x1.k) then
      bif (x0.l == x1.l) then
        letK (α := Bool) (g_Equal_MacRow x0.rows x1.rows) fun c1 =>
        c1
      else
      false
    else
    false
  else
  false
theorem i_SameMac_lk (x0 : Mac) (x1 : Mac) : evalFn te (orcOf (P := Tryd.prog) [g_Equal_MacRow_e]) lorc0 [] Tryd.f77 (pvs [.st .mac, .st .mac] (x0, x1, ())) =
  i_SameMac_N x0 x1 _ none (fun v => some [(false, [RC.c (.bool v)])]) := by kernel_rfl
theorem i_SameMac_p (x0 : Mac) (x1 : Mac)   (γ : Type) (fail : γ) (k : Bool → γ) : i_SameMac_N x0 x1 γ fail k = k (i_SameMac x0 x1) := by
  unfold i_SameMac_N i_SameMac
  exact bifT (f := k) (fun b0 => bifT (f := k) (fun b1 => bifT (f := k) (fun b2 => letT (f := k) (fun c1 hc1 => rfl))
      (fun b2 => rfl))
      (fun b1 => rfl))
      (fun b0 => rfl)
theorem i_SameMac_c (x0 : Mac) (x1 : Mac)  : Con Tryd.prog 77 (pvs [.st .mac, .st .mac] (x0, x1, ())) [rv (.sc .bool) [] (i_SameMac x0 x1)] := by
  exact evalFn_con0 teFact mixFact (orcOf_ok _) Tryd.func77 (by kernel_rfl) ((i_SameMac_lk x0 x1).trans (i_SameMac_p x0 x1  _ _ _))
noncomputable def i_SameMac_e : Ent1 Tryd.prog := entA 77 [.st .mac, .st .mac] (fun x => (i_SameMac x.1 x.2.1)) (fun v => [rv (.sc .bool) [] v]) (fun x => i_SameMac_c x.1 x.2.1)


/-- laws.eqMacRowS -/
def w_eqMacRowS_ann : List (Nat × Keep) := [(0, ⟨[0, 1, 5], [], false, 0⟩)]
def w_eqMacRowS_L0_sh : Sh := ⟨[(0, false, [.sl .arg .macRow]), (1, false, [.sl .arg .macRow]), (5, false, [.int .i64])], []⟩
def w_eqMacRowS_L0_es : List (Ex × Sh) := [(.ret, ⟨[(4, false, [.bool])], []⟩), (.exit 0, ⟨[(4, false, [.undef])], []⟩)]
def w_eqMacRowS_L0_mk (v0 : List MacRow) (v1 : List MacRow) (v2 : Int) : w_eqMacRowS_L0_sh.T := (((v0, ()), ((v1, ()), ((v2, ()), ()))), ())
def w_eqMacRowS_L0_mx0 (y0 : Bool) : Sh.T ⟨[(4, false, [.bool])], []⟩ := (((y0, ()), ()), ())
def w_eqMacRowS_L0_mx1  : Sh.T ⟨[(4, false, [.undef])], []⟩ := ((((), ()), ()), ())
def w_eqMacRowS_L0_B (v0 : List MacRow) (v1 : List MacRow) (v2 : Int) (γ : Type) (fail : γ) (next : w_eqMacRowS_L0_sh.T → γ) (out : WT w_eqMacRowS_L0_es → γ) : γ :=
  bif (decide (v2 < (v0.length : Int))) then
    bif ((decide (0 ≤ v2)) && (decide (v2 < (v0.length : Int)))) then
    bif ((decide (0 ≤ v2)) && (decide (v2 < (v1.length : Int)))) then
    letK (α := Bool) (w_eqMacRow (v0.getD v2.toNat (Ty.zero .macRow)) (v1.getD v2.toNat (Ty.zero .macRow))) fun c1 =>
    bif (!c1) then
      out (Sum.inl (w_eqMacRowS_L0_mx0 false))
    else
    next (w_eqMacRowS_L0_mk v0 v1 (IntKind.wrap .i64 (v2 + 1)))
    else fail
    else fail
  else
  out (Sum.inr (w_eqMacRowS_L0_mx1 ))
theorem w_eqMacRowS_L0_par (v0 : List MacRow) (v1 : List MacRow) (v2 : Int) (γ : Type) (fail : γ) (next : w_eqMacRowS_L0_sh.T → γ) (out : WT w_eqMacRowS_L0_es → γ) : w_eqMacRowS_L0_B v0 v1 v2 γ fail next out = optK (w_eqMacRowS_L0_B v0 v1 v2 _ none (fun v' => some (.inl v')) (fun w => some (.inr w))) fail (fun r => Sum.elim next out r) := by
  unfold w_eqMacRowS_L0_B
  repeat' (first | refine letT (f := (fun o => optK o fail (fun r => Sum.elim next out r))) (fun _ _ => ?_) | refine bifT (f := (fun o => optK o fail (fun r => Sum.elim next out r))) (fun _ => ?_) (fun _ => ?_) | rfl)
def w_eqMacRowS_L0_r : Round w_eqMacRowS_L0_sh.T (WT w_eqMacRowS_L0_es) where
  B v γ fail next out := w_eqMacRowS_L0_B v.1.1.1 v.1.2.1.1 v.1.2.2.1.1 γ fail next out
  par v γ fail next out := w_eqMacRowS_L0_par v.1.1.1 v.1.2.1.1 v.1.2.2.1.1 γ fail next out
def w_eqMacRowS_L0_fu (v0 : List MacRow) (v1 : List MacRow) (v2 : Int) : Nat := (Int.toNat ((v0.length : Int) - v2)) + 1
theorem w_eqMacRowS_L0_lk (v : w_eqMacRowS_L0_sh.T) (next : St → Option Res) (k : Ex → St → Option Res) : evalK te (orcOf (P := Tryd.prog) [w_eqMacRow_e]) (lorcOf []) Tryd.f79.ntmps w_eqMacRowS_ann (nthLoop (bodyOf Tryd.f79) 0 0) 0 (w_eqMacRowS_L0_sh.enc v) (endK ⟨[0, 1, 5], [], false, 0⟩ ⟨[4], [], false, 0⟩ next k) =
  w_eqMacRowS_L0_r.B v _ none (fun v' => next (w_eqMacRowS_L0_sh.enc v')) (fun w => outK w_eqMacRowS_L0_es k w) := by kernel_rfl
def w_eqMacRowS_L0_le : LE := leOf 0 w_eqMacRowS_L0_sh w_eqMacRowS_L0_es w_eqMacRowS_L0_r.step (fun v => w_eqMacRowS_L0_fu v.1.1.1 v.1.2.1.1 v.1.2.2.1.1)
theorem w_eqMacRowS_L0_ls (w0 : World) (mo : Mts) (I0 : Nat → Prop) (hmo : mo.length = 0) : LSem Tryd.prog (Sim w0 mo Tryd.f79.ntmps I0) (fun b s k => match Nat.beq 0 b with | true => w_eqMacRowS_L0_le.run s k | false => none) 0 (nthLoop (bodyOf Tryd.f79) 0 0) :=
  le_sem hmo (lorc := lorcOf []) (ann := w_eqMacRowS_ann) (keep := ⟨[0, 1, 5], [], false, 0⟩) (kout := ⟨[4], [], false, 0⟩) teFact mixFact (orcOf_ok _) (by kernel_rfl) (allLoops_of (bs := []) (by kernel_rfl) trivial) w_eqMacRowS_L0_r _ w_eqMacRowS_L0_lk
def w_eqMacRowS_L0_f (v0 : List MacRow) (v1 : List MacRow) (v2 : Int) (a : Unit) : Stp (Unit) ((Unit)) :=
  letK (α := Bool) (w_eqMacRow (v0.getD v2.toNat (Ty.zero .macRow)) (v1.getD v2.toNat (Ty.zero .macRow))) fun c1 =>
  bif (!c1) then
    .out (())
  else
  .next ()
theorem w_eqMacRowS_L0_st (v0 : List MacRow) (v1 : List MacRow) (v2 : Int) (hlo : 0 ≤ v2) (hhi : v2 < (v0.length : Int)) (hN : (v0.length : Int) ≤ 4611686018427387904) (hi0 : (v0.length : Int) ≤ (v1.length : Int)) : w_eqMacRowS_L0_r.step (w_eqMacRowS_L0_mk v0 v1 v2) = Stp.elim (fun a' : Unit => some (Sum.inl (w_eqMacRowS_L0_mk v0 v1 (v2 + 1)))) (fun w => some (Sum.inr ((fun p : Unit => Sum.inl (w_eqMacRowS_L0_mx0 false)) w))) (w_eqMacRowS_L0_f v0 v1 v2 ()) := by
  have hw : (IntKind.wrap .i64 (v2 + 1)) = v2 + 1 := wrap64 (by omega) (by omega)
  show w_eqMacRowS_L0_B v0 v1 v2 (Option (w_eqMacRowS_L0_sh.T ⊕ WT w_eqMacRowS_L0_es)) none (fun v' => some (Sum.inl v')) (fun w => some (Sum.inr w)) = _
  unfold w_eqMacRowS_L0_B w_eqMacRowS_L0_f
  refine bifG (by simp only [decide_eq_true_eq]; omega) (bifG ?_ (bifG ?_ (letT (f := (Stp.elim (fun a' : Unit => some (Sum.inl (w_eqMacRowS_L0_mk v0 v1 (v2 + 1)))) (fun w => some (Sum.inr ((fun p : Unit => Sum.inl (w_eqMacRowS_L0_mx0 false)) w))))) (fun c1 hc1 => bifT (f := (Stp.elim (fun a' : Unit => some (Sum.inl (w_eqMacRowS_L0_mk v0 v1 (v2 + 1)))) (fun w => some (Sum.inr ((fun p : Unit => Sum.inl (w_eqMacRowS_L0_mx0 false)) w))))) (fun b0 => rfl)
      (fun b0 => (by exact congrArg (fun z => some (Sum.inl (w_eqMacRowS_L0_mk v0 v1 z))) hw))))))
  all_goals ((try simp only [Nat.ble_eq, Bool.and_eq_true, decide_eq_true_eq]); grind [maxSl, maxStr, toBytes_length, toInts_length, List.length_set, wrap64])
theorem w_eqMacRowS_L0_cl (v0 : List MacRow) (v1 : List MacRow) (v2 : Int) (h0 : 0 ≤ v2) (h1 : (v0.length : Int) ≤ 4611686018427387904) (h2 : (v0.length : Int) ≤ (v1.length : Int)) : loopF w_eqMacRowS_L0_r.step (w_eqMacRowS_L0_fu v0 v1 v2) (w_eqMacRowS_L0_mk v0 v1 v2) = some (Stp.elim (fun a => (fun i a => Sum.inr (w_eqMacRowS_L0_mx1 )) (v2 + 1 * (((Int.toNat ((v0.length : Int) - v2)) : Nat) : Int)) a) (fun p : Unit => Sum.inl (w_eqMacRowS_L0_mx0 false)) (forN (w_eqMacRowS_L0_f v0 v1) 1 (Int.toNat ((v0.length : Int) - v2)) v2 ())) :=
  forN_loop (step := w_eqMacRowS_L0_r.step) (mk := fun v2 a => w_eqMacRowS_L0_mk v0 v1 v2) (f := w_eqMacRowS_L0_f v0 v1) (e := (fun i a => Sum.inr (w_eqMacRowS_L0_mx1 ))) (emb := (fun p : Unit => Sum.inl (w_eqMacRowS_L0_mx0 false))) (st := 1) (Inv := fun v2 a => True) (Int.toNat ((v0.length : Int) - v2)) v2 () _ (Nat.lt_succ_self _) trivial
    (fun j a hj hv => ⟨w_eqMacRowS_L0_st v0 v1 (v2 + 1 * (j : Int)) (by omega) (by omega) (by omega) h2, fun _ _ => trivial⟩)
    (fun a hv => by
      show w_eqMacRowS_L0_B v0 v1 (v2 + 1 * (((Int.toNat ((v0.length : Int) - v2)) : Nat) : Int)) (Option (w_eqMacRowS_L0_sh.T ⊕ WT w_eqMacRowS_L0_es)) none (fun v' => some (Sum.inl v')) (fun w => some (Sum.inr w)) = _
      unfold w_eqMacRowS_L0_B
      exact bifN (by simp only [decide_eq_false_iff_not]; omega) rfl)
def w_eqMacRowS_N (x0 : List MacRow) (x1 : List MacRow) (γ : Type) (fail : γ) (k : Bool → γ) : γ :=
  bif ((x0.length : Int) != (x1.length : Int)) then
    k false
  else
  optK (loopF w_eqMacRowS_L0_r.step (w_eqMacRowS_L0_fu x0 x1 0) (w_eqMacRowS_L0_mk x0 x1 0)) fail fun w2 =>
    Sum.elim (fun w2 =>
      k w2.1.1.1)
    (fun w2 =>
      k true) w2
def w_eqMacRowS (x0 : List MacRow) (x1 : List MacRow) : Bool :=
  bif ((x0.length : Int) != (x1.length : Int)) then
    false
  else
  Stp.elim (fun a3 =>
    true)
    (fun p3 =>
      false)
    (forN (w_eqMacRowS_L0_f x0 x1) 1 (Int.toNat ((x0.length : Int) - 0)) 0 ())
theorem w_eqMacRowS_lk (x0 : List MacRow) (x1 : List MacRow) : evalFn te (orcOf (P := Tryd.prog) [w_eqMacRow_e]) (lorcOf [w_eqMacRowS_L0_le]) w_eqMacRowS_ann Tryd.f79 (pvs [.sc (.sl .macRow), .sc (.sl .macRow)] (x0, x1, ())) =
  w_eqMacRowS_N x0 x1 _ none (fun v => some [(false, [RC.c (.bool v)])]) := by kernel_rfl
theorem w_eqMacRowS_p (x0 : List MacRow) (x1 : List MacRow) (hx0 : x0.length ≤ 140737488355328) (hx0_e : ∀ y ∈ x0, ∀ c ∈ Ty.cells .macRow y, FactC c) (hx1 : x1.length ≤ 140737488355328) (hx1_e : ∀ y ∈ x1, ∀ c ∈ Ty.cells .macRow y, FactC c)  (γ : Type) (fail : γ) (k : Bool → γ) : w_eqMacRowS_N x0 x1 γ fail k = k (w_eqMacRowS x0 x1) := by
  unfold w_eqMacRowS_N w_eqMacRowS
  refine bifT (f := k) (fun b0 => rfl)
      (fun b0 => loopT (f := k) (w_eqMacRowS_L0_cl x0 x1 0 ?_ ?_ ?_) (fun a3 => rfl)
      (fun p3 => rfl))
  all_goals ((try simp only [Nat.ble_eq, Bool.and_eq_true, decide_eq_true_eq, w_eqMacRowS_L0_mx0, w_eqMacRowS_L0_mx1]); grind [maxSl, maxStr, toBytes_length, toInts_length, List.length_set, wrap64])
theorem w_eqMacRowS_c (x0 : List MacRow) (x1 : List MacRow)  : Con Tryd.prog 79 (pvs [.sc (.sl .macRow), .sc (.sl .macRow)] (x0, x1, ())) [rv (.sc .bool) [] (w_eqMacRowS x0 x1)] := by
  refine Con.of_facts (enters_of Tryd.func79 rfl (by kernel_rfl)) fun hf => ?_
  replace hf := factAt hf
  refine evalFn_conL teFact mixFact (orcOf_ok _) Tryd.func79 ?_ (bs := [0]) ?_ ?_ (fun w0 mo I0 hmo => ⟨lsem_of_lorc (w_eqMacRowS_L0_ls w0 mo I0 hmo) ?_, trivial⟩) ((w_eqMacRowS_lk x0 x1).trans (w_eqMacRowS_p x0 x1 ((hf 0 0 rfl rfl).len) (fun y hy => (hf 0 0 rfl rfl).elem hy) ((hf 1 0 rfl rfl).len) (fun y hy => (hf 1 0 rfl rfl).elem hy) _ _ _))
  all_goals (kernel_rfl)
noncomputable def w_eqMacRowS_e : Ent1 Tryd.prog := entA 79 [.sc (.sl .macRow), .sc (.sl .macRow)] (fun x => (w_eqMacRowS x.1 x.2.1)) (fun v => [rv (.sc .bool) [] v]) (fun x => w_eqMacRowS_c x.1 x.2.1)


/-- laws.markAct -/
def w_markAct_N (x0 : Acti) (x1 : Int) (γ : Type) (fail : γ) (k : Int × List MacRow → γ) : γ :=
  letK (α := Int × List MacRow) (w_markMac x0.mac x1) fun c1 =>
  k (c1.1, c1.2)
def w_markAct (x0 : Acti) (x1 : Int) : Int × List MacRow :=
  letK (α := Int × List MacRow) (w_markMac x0.mac x1) fun c1 =>
  (c1.1, c1.2)
theorem w_markAct_lk (x0 : Acti) (x1 : Int) : evalFnM te (orcOf (P := Tryd.prog) [w_markMac_e]) lorc0 [] Tryd.f18 (pvs [.wr true [.c (.int .i64), .c (.int .i64), .c (.int .i64), .c (.int .i64), .c (.int .i64), .c .str, .c .bool, .c (.int .u64), .c (.int .u64), .own 0], .sc (.int .i64)] ((x0.kind, x0.tuple.ip, x0.tuple.port, x0.tuple.my, x0.n, x0.text, x0.mac.use, x0.mac.k, x0.mac.l, ()), x1, ())) (mos [.arr .macRow] (x0.mac.rows, ())) =
  w_markAct_N x0 x1 _ none (fun v => some ([(false, [RC.c (.int .i64 v.1)])] ++ (mos [.arr .macRow] (v.2, ())).map encO)) := by kernel_rfl
theorem w_markAct_p (x0 : Acti) (x1 : Int)   (γ : Type) (fail : γ) (k : Int × List MacRow → γ) : w_markAct_N x0 x1 γ fail k = k (w_markAct x0 x1) := by
  unfold w_markAct_N w_markAct
  exact letT (f := k) (fun c1 hc1 => rfl)
theorem w_markAct_c (x0 : Acti) (x1 : Int)  : ConM Tryd.prog 18 (pvs [.wr true [.c (.int .i64), .c (.int .i64), .c (.int .i64), .c (.int .i64), .c (.int .i64), .c .str, .c .bool, .c (.int .u64), .c (.int .u64), .own 0], .sc (.int .i64)] ((x0.kind, x0.tuple.ip, x0.tuple.port, x0.tuple.my, x0.n, x0.text, x0.mac.use, x0.mac.k, x0.mac.l, ()), x1, ())) (mos [.arr .macRow] (x0.mac.rows, ())) [rv (.sc (.int .i64)) [] (w_markAct x0 x1).1] (mos [.arr .macRow] ((w_markAct x0 x1).2, ())) := by
  refine evalFn_conLM teFact mixFact (orcOf_ok _) Tryd.func18 ?_ (bs := []) ?_ ?_ ?_ rfl (fun w0 mo I0 hmo => trivial) ((w_markAct_lk x0 x1).trans (w_markAct_p x0 x1  _ _ _))
  all_goals (kernel_rfl)
noncomputable def w_markAct_e : Ent1 Tryd.prog := entM 18 [.wr true [.c (.int .i64), .c (.int .i64), .c (.int .i64), .c (.int .i64), .c (.int .i64), .c .str, .c .bool, .c (.int .u64), .c (.int .u64), .own 0], .sc (.int .i64)] [.arr .macRow] (fun x y => true) (fun x y => (w_markAct (⟨x.1.1, ⟨x.1.2.1, x.1.2.2.1, x.1.2.2.2.1⟩, x.1.2.2.2.2.1, x.1.2.2.2.2.2.1, ⟨x.1.2.2.2.2.2.2.1, x.1.2.2.2.2.2.2.2.1, x.1.2.2.2.2.2.2.2.2.1, y.1⟩⟩ : Acti) x.2.1)) (fun v => [rv (.sc (.int .i64)) [] v.1]) (fun x y v => (mos [.arr .macRow] (v.2, ()))) (fun x y hx => w_markAct_c (⟨x.1.1, ⟨x.1.2.1, x.1.2.2.1, x.1.2.2.2.1⟩, x.1.2.2.2.2.1, x.1.2.2.2.2.2.1, ⟨x.1.2.2.2.2.2.2.1, x.1.2.2.2.2.2.2.2.1, x.1.2.2.2.2.2.2.2.2.1, y.1⟩⟩ : Acti) x.2.1)


/-- laws.heldAct -/
def w_heldAct_N (x0 : Acti) (x1 : Int) (γ : Type) (fail : γ) (k : Int → γ) : γ :=
  letK (α := Int) (w_heldMac x0.mac x1) fun c1 =>
  bif (decide (c1 < 0)) then
    k (-1)
  else
  k c1
def w_heldAct (x0 : Acti) (x1 : Int) : Int :=
  letK (α := Int) (w_heldMac x0.mac x1) fun c1 =>
  bif (decide (c1 < 0)) then
    (-1)
  else
  c1
theorem w_heldAct_lk (x0 : Acti) (x1 : Int) : evalFn te (orcOf (P := Tryd.prog) [w_heldMac_e]) lorc0 [] Tryd.f19 (pvs [.st .acti, .sc (.int .i64)] (x0, x1, ())) =
  w_heldAct_N x0 x1 _ none (fun v => some [(false, [RC.c (.int .i64 v)])]) := by kernel_rfl
theorem w_heldAct_p (x0 : Acti) (x1 : Int)   (γ : Type) (fail : γ) (k : Int → γ) : w_heldAct_N x0 x1 γ fail k = k (w_heldAct x0 x1) := by
  unfold w_heldAct_N w_heldAct
  exact letT (f := k) (fun c1 hc1 => bifT (f := k) (fun b0 => rfl)
      (fun b0 => rfl))
theorem w_heldAct_c (x0 : Acti) (x1 : Int)  : Con Tryd.prog 19 (pvs [.st .acti, .sc (.int .i64)] (x0, x1, ())) [rv (.sc (.int .i64)) [] (w_heldAct x0 x1)] := by
  exact evalFn_con0 teFact mixFact (orcOf_ok _) Tryd.func19 (by kernel_rfl) ((w_heldAct_lk x0 x1).trans (w_heldAct_p x0 x1  _ _ _))
noncomputable def w_heldAct_e : Ent1 Tryd.prog := entA 19 [.st .acti, .sc (.int .i64)] (fun x => (w_heldAct x.1 x.2.1)) (fun v => [rv (.sc (.int .i64)) [] v]) (fun x => w_heldAct_c x.1 x.2.1)


/-- spec.TupleOk -/
def s_TupleOk_N (x0 : Tupl) (γ : Type) (fail : γ) (k : Bool → γ) : γ :=
  letK (α := Bool) (s_WordOk x0.ip 32) fun c1 =>
  bif c1 then
    letK (α := Bool) (s_WordOk x0.port 16) fun c2 =>
    bif c2 then
      letK (α := Bool) (s_WordOk x0.my 16) fun c3 =>
      k c3
    else
    k false
  else
  k false
def s_TupleOk (x0 : Tupl) : Bool :=
  letK (α := Bool) (s_WordOk x0.ip 32) fun c1 =>
  bif c1 then
    letK (α := Bool) (s_WordOk x0.port 16) fun c2 =>
    bif c2 then
      letK (α := Bool) (s_WordOk x0.my 16) fun c3 =>
      c3
    else
    false
  else
  false
theorem s_TupleOk_lk (x0 : Tupl) : evalFn te (orcOf (P := Tryd.prog) [s_WordOk_e]) lorc0 [] Tryd.f29 (pvs [.st .tupl] (x0, ())) =
  s_TupleOk_N x0 _ none (fun v => some [(false, [RC.c (.bool v)])]) := by kernel_rfl
theorem s_TupleOk_p (x0 : Tupl)   (γ : Type) (fail : γ) (k : Bool → γ) : s_TupleOk_N x0 γ fail k = k (s_TupleOk x0) := by
  unfold s_TupleOk_N s_TupleOk
  exact letT (f := k) (fun c1 hc1 => bifT (f := k) (fun b0 => letT (f := k) (fun c2 hc2 => bifT (f := k) (fun b1 => letT (f := k) (fun c3 hc3 => rfl))
      (fun b1 => rfl)))
      (fun b0 => rfl))
theorem s_TupleOk_c (x0 : Tupl)  : Con Tryd.prog 29 (pvs [.st .tupl] (x0, ())) [rv (.sc .bool) [] (s_TupleOk x0)] := by
  exact evalFn_con0 teFact mixFact (orcOf_ok _) Tryd.func29 (by kernel_rfl) ((s_TupleOk_lk x0).trans (s_TupleOk_p x0  _ _ _))
noncomputable def s_TupleOk_e : Ent1 Tryd.prog := entA 29 [.st .tupl] (fun x => (s_TupleOk x.1)) (fun v => [rv (.sc .bool) [] v]) (fun x => s_TupleOk_c x.1)


/-- spec.AddressText -/
def s_AddressText_ann : List (Nat × Keep) := [(0, ⟨[3, 4, 5], [], false, 0⟩)]
def s_AddressText_L0_sh : Sh := ⟨[(3, false, [.str]), (4, false, [.own 0]), (5, false, [.int .i64])], [.arr .str false true]⟩
def s_AddressText_L0_es : List (Ex × Sh) := [(.exit 0, ⟨[(2, false, [.undef]), (4, false, [.own 0])], [.arr .str false true]⟩)]
def s_AddressText_L0_mk (v0 : Bytes) (v1 : Int) (v2 : List Bytes) : s_AddressText_L0_sh.T := (((v0, ()), (((), ()), ((v1, ()), ()))), (v2, ()))
def s_AddressText_L0_mx0 (y0 : List Bytes) : Sh.T ⟨[(2, false, [.undef]), (4, false, [.own 0])], [.arr .str false true]⟩ := ((((), ()), (((), ()), ())), (y0, ()))
def s_AddressText_L0_B (v0 : Bytes) (v1 : Int) (v2 : List Bytes) (γ : Type) (fail : γ) (next : s_AddressText_L0_sh.T → γ) (out : WT s_AddressText_L0_es → γ) : γ :=
  bif (decide (v1 < (v0.length : Int))) then
    bif ((decide (0 ≤ v1)) && (decide (v1 < (v0.length : Int)))) then
    letK (α := Bytes) (s_Digits (IntKind.wrap .i64 (byteAt v0 v1.toNat))) fun c2 =>
    bif (Nat.ble ((2 * (v2.length + 1) + 1024) * 16) maxSl) then
    next (s_AddressText_L0_mk v0 (IntKind.wrap .i64 (v1 + 1)) (v2 ++ [c2]))
    else fail
    else fail
  else
  out (s_AddressText_L0_mx0 v2)
theorem s_AddressText_L0_par (v0 : Bytes) (v1 : Int) (v2 : List Bytes) (γ : Type) (fail : γ) (next : s_AddressText_L0_sh.T → γ) (out : WT s_AddressText_L0_es → γ) : s_AddressText_L0_B v0 v1 v2 γ fail next out = optK (s_AddressText_L0_B v0 v1 v2 _ none (fun v' => some (.inl v')) (fun w => some (.inr w))) fail (fun r => Sum.elim next out r) := by
  unfold s_AddressText_L0_B
  repeat' (first | refine letT (f := (fun o => optK o fail (fun r => Sum.elim next out r))) (fun _ _ => ?_) | refine bifT (f := (fun o => optK o fail (fun r => Sum.elim next out r))) (fun _ => ?_) (fun _ => ?_) | rfl)
def s_AddressText_L0_r : Round s_AddressText_L0_sh.T (WT s_AddressText_L0_es) where
  B v γ fail next out := s_AddressText_L0_B v.1.1.1 v.1.2.2.1.1 v.2.1 γ fail next out
  par v γ fail next out := s_AddressText_L0_par v.1.1.1 v.1.2.2.1.1 v.2.1 γ fail next out
def s_AddressText_L0_fu (v0 : Bytes) (v1 : Int) (v2 : List Bytes) : Nat := (Int.toNat ((v0.length : Int) - v1)) + 1
theorem s_AddressText_L0_lk (v : s_AddressText_L0_sh.T) (next : St → Option Res) (k : Ex → St → Option Res) : evalK te (orcOf (P := Tryd.prog) [s_PutWord_e, s_Digits_e, s_Joined_e]) (lorcOf []) Tryd.f30.ntmps s_AddressText_ann (nthLoop (bodyOf Tryd.f30) 0 0) 0 (s_AddressText_L0_sh.enc v) (endK ⟨[3, 4, 5], [], false, 0⟩ ⟨[2, 4], [], false, 0⟩ next k) =
  s_AddressText_L0_r.B v _ none (fun v' => next (s_AddressText_L0_sh.enc v')) (fun w => outK s_AddressText_L0_es k w) := by kernel_rfl
def s_AddressText_L0_le : LE := leOf 0 s_AddressText_L0_sh s_AddressText_L0_es s_AddressText_L0_r.step (fun v => s_AddressText_L0_fu v.1.1.1 v.1.2.2.1.1 v.2.1)
theorem s_AddressText_L0_ls (w0 : World) (mo : Mts) (I0 : Nat → Prop) (hmo : mo.length = 0) : LSem Tryd.prog (Sim w0 mo Tryd.f30.ntmps I0) (fun b s k => match Nat.beq 0 b with | true => s_AddressText_L0_le.run s k | false => none) 0 (nthLoop (bodyOf Tryd.f30) 0 0) :=
  le_sem hmo (lorc := lorcOf []) (ann := s_AddressText_ann) (keep := ⟨[3, 4, 5], [], false, 0⟩) (kout := ⟨[2, 4], [], false, 0⟩) teFact mixFact (orcOf_ok _) (by kernel_rfl) (allLoops_of (bs := []) (by kernel_rfl) trivial) s_AddressText_L0_r _ s_AddressText_L0_lk
def s_AddressText_L0_f (v0 : Bytes) (v1 : Int) (a : List Bytes) : Stp (List Bytes) (Empty) :=
  letK (α := Bytes) (s_Digits (IntKind.wrap .i64 (byteAt v0 v1.toNat))) fun c2 =>
  .next (a ++ [c2])
theorem s_AddressText_L0_st (v0 : Bytes) (v1 : Int) (v2 : List Bytes) (hlo : 0 ≤ v1) (hhi : v1 < (v0.length : Int)) (hN : (v0.length : Int) ≤ 4611686018427387904) (hi0 : (v0.length : Int) ≤ 65536) (hinv : (v2.length : Int) ≤ v1 ∧ ∀ y ∈ v2, List.length y ≤ 4) : s_AddressText_L0_r.step (s_AddressText_L0_mk v0 v1 v2) = Stp.elim (fun a' : List Bytes => some (Sum.inl (s_AddressText_L0_mk v0 (v1 + 1) a'))) (fun w => some (Sum.inr ((fun p : Empty => nomatch p) w))) (s_AddressText_L0_f v0 v1 v2) := by
  have hw : (IntKind.wrap .i64 (v1 + 1)) = v1 + 1 := wrap64 (by omega) (by omega)
  show s_AddressText_L0_B v0 v1 v2 (Option (s_AddressText_L0_sh.T ⊕ WT s_AddressText_L0_es)) none (fun v' => some (Sum.inl v')) (fun w => some (Sum.inr w)) = _
  unfold s_AddressText_L0_B s_AddressText_L0_f
  refine bifG (by simp only [decide_eq_true_eq]; omega) (bifG ?_ (letT (f := (Stp.elim (fun a' : List Bytes => some (Sum.inl (s_AddressText_L0_mk v0 (v1 + 1) a'))) (fun w => some (Sum.inr ((fun p : Empty => nomatch p) w))))) (fun c2 hc2 => bifG ?_ ((by exact congrArg (fun z => some (Sum.inl (s_AddressText_L0_mk v0 z (v2 ++ [c2])))) hw)))))
  all_goals ((try simp only [Nat.ble_eq, Bool.and_eq_true, decide_eq_true_eq]); grind [maxSl, maxStr, toBytes_length, toInts_length, List.length_set, wrap64, s_PutWord_len, s_Digits_len, s_Digits_small, s_Joined_len])
theorem s_AddressText_L0_cl (v0 : Bytes) (v1 : Int) (v2 : List Bytes) (h0 : 0 ≤ v1) (h1 : (v0.length : Int) ≤ 4611686018427387904) (h2 : (v0.length : Int) ≤ 65536) (h3 : (v2.length : Int) ≤ v1 ∧ ∀ y ∈ v2, List.length y ≤ 4) : loopF s_AddressText_L0_r.step (s_AddressText_L0_fu v0 v1 v2) (s_AddressText_L0_mk v0 v1 v2) = some (Stp.elim (fun a => (fun i a => s_AddressText_L0_mx0 a) (v1 + 1 * (((Int.toNat ((v0.length : Int) - v1)) : Nat) : Int)) a) (fun p : Empty => nomatch p) (forN (s_AddressText_L0_f v0) 1 (Int.toNat ((v0.length : Int) - v1)) v1 v2)) :=
  forN_loop (step := s_AddressText_L0_r.step) (mk := fun v1 a => s_AddressText_L0_mk v0 v1 a) (f := s_AddressText_L0_f v0) (e := (fun i a => s_AddressText_L0_mx0 a)) (emb := (fun p : Empty => nomatch p)) (st := 1) (Inv := fun v1 a => (a.length : Int) ≤ v1 ∧ ∀ y ∈ a, List.length y ≤ 4) (Int.toNat ((v0.length : Int) - v1)) v1 v2 _ (Nat.lt_succ_self _) h3
    (fun j a hj hv => ⟨s_AddressText_L0_st v0 (v1 + 1 * (j : Int)) a (by omega) (by omega) (by omega) h2 hv, by
      intro a' he
      unfold s_AddressText_L0_f at he
      simp only [letK] at he
      cases he
      refine ⟨by rw [List.length_append]; simp only [List.length_singleton]; have := hv.1; omega, fun y hy => ?_⟩
      rcases List.mem_append.1 hy with hy | hy
      · exact hv.2 y hy
      · rw [List.mem_singleton] at hy
        subst hy
        have hb := byteAt_rng v0 (v1 + 1 * (j : Int)).toNat
        exact s_Digits_small _ (by rw [wrap64 (by omega) (by omega)]; omega)⟩)
    (fun a hv => by
      show s_AddressText_L0_B v0 (v1 + 1 * (((Int.toNat ((v0.length : Int) - v1)) : Nat) : Int)) a (Option (s_AddressText_L0_sh.T ⊕ WT s_AddressText_L0_es)) none (fun v' => some (Sum.inl v')) (fun w => some (Sum.inr w)) = _
      unfold s_AddressText_L0_B
      exact bifN (by simp only [decide_eq_false_iff_not]; omega) rfl)
theorem s_AddressText_L0_nx (v0 : Bytes) (v1 : Int) (v2 : List Bytes) (h0 : 0 ≤ v1) (h1 : (v0.length : Int) ≤ 4611686018427387904) (h2 : (v0.length : Int) ≤ 65536) (h3 : (v2.length : Int) ≤ v1 ∧ ∀ y ∈ v2, List.length y ≤ 4) : ∀ a', forN (s_AddressText_L0_f v0) 1 (Int.toNat ((v0.length : Int) - v1)) v1 v2 = .next a' → (a'.length : Int) ≤ (v1 + 1 * (((Int.toNat ((v0.length : Int) - v1)) : Nat) : Int)) ∧ ∀ y ∈ a', List.length y ≤ 4 :=
  forN_inv (f := s_AddressText_L0_f v0) (st := 1) (Inv := fun v1 a => (a.length : Int) ≤ v1 ∧ ∀ y ∈ a, List.length y ≤ 4) (Int.toNat ((v0.length : Int) - v1)) v1 v2 h3
    (fun j a hj hv => by
      intro a' he
      unfold s_AddressText_L0_f at he
      simp only [letK] at he
      cases he
      refine ⟨by rw [List.length_append]; simp only [List.length_singleton]; have := hv.1; omega, fun y hy => ?_⟩
      rcases List.mem_append.1 hy with hy | hy
      · exact hv.2 y hy
      · rw [List.mem_singleton] at hy
        subst hy
        have hb := byteAt_rng v0 (v1 + 1 * (j : Int)).toNat
        exact s_Digits_small _ (by rw [wrap64 (by omega) (by omega)]; omega))
def s_AddressText_N (x0 : Int) (γ : Type) (fail : γ) (k : Bytes → γ) : γ :=
  letK (α := Bytes) (s_PutWord x0 4) fun c1 =>
  optK (loopF s_AddressText_L0_r.step (s_AddressText_L0_fu c1 0 []) (s_AddressText_L0_mk c1 0 [])) fail fun w3 =>
    bif (decide (w3.2.1.length ≤ 65536 ∧ (∀ y ∈ w3.2.1, y.length ≤ 65536) ∧ ([46] : Bytes).length ≤ 65536)) then
    letK (α := Bytes) (s_Joined w3.2.1 [46]) fun c4 =>
    k c4
    else fail
def s_AddressText (x0 : Int) : Bytes :=
  letK (α := Bytes) (s_PutWord x0 4) fun c1 =>
  Stp.elim (fun a5 =>
    letK (α := Bytes) (s_Joined a5 [46]) fun c6 =>
    c6)
    (fun p : Empty => nomatch p)
    (forN (s_AddressText_L0_f c1) 1 (Int.toNat ((c1.length : Int) - 0)) 0 [])
theorem s_AddressText_lk (x0 : Int) : evalFn te (orcOf (P := Tryd.prog) [s_PutWord_e, s_Digits_e, s_Joined_e]) (lorcOf [s_AddressText_L0_le]) s_AddressText_ann Tryd.f30 (pvs [.sc (.int .i64)] (x0, ())) =
  s_AddressText_N x0 _ none (fun v => some [(false, [RC.c (.str v)])]) := by kernel_rfl
theorem s_AddressText_p (x0 : Int) (hx0 : inK .i64 x0)  (γ : Type) (fail : γ) (k : Bytes → γ) : s_AddressText_N x0 γ fail k = k (s_AddressText x0) := by
  unfold s_AddressText_N s_AddressText
  refine letT (f := k) (fun c1 hc1 => loopX (f := k) (s_AddressText_L0_cl c1 0 [] ?_ ?_ ?_ ?_) (fun a5 ha5 => have ia5 := s_AddressText_L0_nx c1 0 [] ?_ ?_ ?_ ?_ _ ha5; bifG ?_ (letT (f := k) (fun c6 hc6 => rfl)))
      (fun p : Empty => nomatch p))
  all_goals ((try simp only [Nat.ble_eq, Bool.and_eq_true, decide_eq_true_eq, s_AddressText_L0_mx0]); grind [maxSl, maxStr, toBytes_length, toInts_length, List.length_set, wrap64, s_PutWord_len, s_Digits_len, s_Digits_small, s_Joined_len])
theorem s_AddressText_c (x0 : Int)  : Con Tryd.prog 30 (pvs [.sc (.int .i64)] (x0, ())) [rv (.sc .str) [] (s_AddressText x0)] := by
  refine Con.of_facts (enters_of Tryd.func30 rfl (by kernel_rfl)) fun hf => ?_
  replace hf := factAt hf
  refine evalFn_conL teFact mixFact (orcOf_ok _) Tryd.func30 ?_ (bs := [0]) ?_ ?_ (fun w0 mo I0 hmo => ⟨lsem_of_lorc (s_AddressText_L0_ls w0 mo I0 hmo) ?_, trivial⟩) ((s_AddressText_lk x0).trans (s_AddressText_p x0 ((hf 0 0 rfl rfl).rng) _ _ _))
  all_goals (kernel_rfl)
noncomputable def s_AddressText_e : Ent1 Tryd.prog := entA 30 [.sc (.int .i64)] (fun x => (s_AddressText x.1)) (fun v => [rv (.sc .str) [] v]) (fun x => s_AddressText_c x.1)

theorem s_AddressText_len (x0 : Int)   : (fun v : Bytes => v.length ≤ 8589934592) (s_AddressText x0) := by
  unfold s_AddressText
  refine letP (P := (fun v : Bytes => v.length ≤ 8589934592)) (fun c1 hc1 => loopP (P := (fun v : Bytes => v.length ≤ 8589934592)) (fun a5 ha5 => have ia5 := s_AddressText_L0_nx c1 0 [] ?_ ?_ ?_ ?_ _ ha5; letP (P := (fun v : Bytes => v.length ≤ 8589934592)) (fun c6 hc6 => ?_))
      (fun p _ => nomatch p))
  all_goals ((try simp only [Nat.ble_eq, Bool.and_eq_true, decide_eq_true_eq, s_AddressText_L0_mx0]); grind [maxSl, maxStr, toBytes_length, toInts_length, List.length_set, wrap64, s_PutWord_len, s_Digits_len, s_Digits_small, s_Joined_len])

/-- impl.TupleOk -/
def i_TupleOk_N (x0 : Tupl) (γ : Type) (fail : γ) (k : Bool → γ) : γ :=
  letK (α := Bool) (i_WordOk x0.ip 32) fun c1 =>
  bif c1 then
    letK (α := Bool) (i_WordOk x0.port 16) fun c2 =>
    bif c2 then
      letK (α := Bool) (i_WordOk x0.my 16) fun c3 =>
      k c3
    else
    k false
  else
  k false
def i_TupleOk (x0 : Tupl) : Bool :=
  letK (α := Bool) (i_WordOk x0.ip 32) fun c1 =>
  bif c1 then
    letK (α := Bool) (i_WordOk x0.port 16) fun c2 =>
    bif c2 then
      letK (α := Bool) (i_WordOk x0.my 16) fun c3 =>
      c3
    else
    false
  else
  false
theorem i_TupleOk_lk (x0 : Tupl) : evalFn te (orcOf (P := Tryd.prog) [i_WordOk_e]) lorc0 [] Tryd.f32 (pvs [.st .tupl] (x0, ())) =
  i_TupleOk_N x0 _ none (fun v => some [(false, [RC.c (.bool v)])]) := by kernel_rfl
theorem i_TupleOk_p (x0 : Tupl)   (γ : Type) (fail : γ) (k : Bool → γ) : i_TupleOk_N x0 γ fail k = k (i_TupleOk x0) := by
  unfold i_TupleOk_N i_TupleOk
  exact letT (f := k) (fun c1 hc1 => bifT (f := k) (fun b0 => letT (f := k) (fun c2 hc2 => bifT (f := k) (fun b1 => letT (f := k) (fun c3 hc3 => rfl))
      (fun b1 => rfl)))
      (fun b0 => rfl))
theorem i_TupleOk_c (x0 : Tupl)  : Con Tryd.prog 32 (pvs [.st .tupl] (x0, ())) [rv (.sc .bool) [] (i_TupleOk x0)] := by
  exact evalFn_con0 teFact mixFact (orcOf_ok _) Tryd.func32 (by kernel_rfl) ((i_TupleOk_lk x0).trans (i_TupleOk_p x0  _ _ _))
noncomputable def i_TupleOk_e : Ent1 Tryd.prog := entA 32 [.st .tupl] (fun x => (i_TupleOk x.1)) (fun v => [rv (.sc .bool) [] v]) (fun x => i_TupleOk_c x.1)


/-- impl.AddressText -/
def i_AddressText_N (x0 : Int) (γ : Type) (fail : γ) (k : Bytes → γ) : γ :=
  letK (α := Bool) (i_WordOk x0 32) fun c1 =>
  bif (!c1) then
    k []
  else
  letK (α := Bytes) (i_Digits (x0.fdiv 16777216)) fun c2 =>
  letK (α := Bytes) (i_Digits (bits .and .i64 (x0.fdiv 65536) 255)) fun c3 =>
  letK (α := Bytes) (i_Digits (bits .and .i64 (x0.fdiv 256) 255)) fun c4 =>
  letK (α := Bytes) (i_Digits (bits .and .i64 x0 255)) fun c5 =>
  bif (decide (([c2, c3, c4, c5] : List Bytes).length ≤ 65536 ∧ (∀ y ∈ ([c2, c3, c4, c5] : List Bytes), List.length y ≤ 65536) ∧ ([46] : Bytes).length ≤ 65536)) then
  letK (α := Bytes) (i_Joined [c2, c3, c4, c5] [46]) fun c6 =>
  k c6
  else fail
def i_AddressText (x0 : Int) : Bytes :=
  letK (α := Bool) (i_WordOk x0 32) fun c1 =>
  bif (!c1) then
    []
  else
  letK (α := Bytes) (i_Digits (x0.fdiv 16777216)) fun c2 =>
  letK (α := Bytes) (i_Digits (bits .and .i64 (x0.fdiv 65536) 255)) fun c3 =>
  letK (α := Bytes) (i_Digits (bits .and .i64 (x0.fdiv 256) 255)) fun c4 =>
  letK (α := Bytes) (i_Digits (bits .and .i64 x0 255)) fun c5 =>
  letK (α := Bytes) (i_Joined [c2, c3, c4, c5] [46]) fun c6 =>
  c6
theorem i_AddressText_lk (x0 : Int) : evalFn te (orcOf (P := Tryd.prog) [i_WordOk_e, i_Digits_e, i_Joined_e]) lorc0 [] Tryd.f33 (pvs [.sc (.int .i64)] (x0, ())) =
  i_AddressText_N x0 _ none (fun v => some [(false, [RC.c (.str v)])]) := by kernel_rfl
theorem i_AddressText_p (x0 : Int) (hx0 : inK .i64 x0)  (γ : Type) (fail : γ) (k : Bytes → γ) : i_AddressText_N x0 γ fail k = k (i_AddressText x0) := by
  unfold i_AddressText_N i_AddressText
  exact letT (f := k) (fun c1 hc1 => bifT (f := k) (fun b0 => rfl)
      (fun b0 => letT (f := k) (fun c2 hc2 => letT (f := k) (fun c3 hc3 => letT (f := k) (fun c4 hc4 => letT (f := k) (fun c5 hc5 => bifG (by simp only [decide_eq_true_eq]; subst_vars; exact i_Dig4 x0 hx0) (letT (f := k) (fun c6 hc6 => rfl))))))))
theorem i_AddressText_c (x0 : Int)  : Con Tryd.prog 33 (pvs [.sc (.int .i64)] (x0, ())) [rv (.sc .str) [] (i_AddressText x0)] := by
  refine Con.of_facts (enters_of Tryd.func33 rfl (by kernel_rfl)) fun hf => ?_
  replace hf := factAt hf
  exact evalFn_con0 teFact mixFact (orcOf_ok _) Tryd.func33 (by kernel_rfl) ((i_AddressText_lk x0).trans (i_AddressText_p x0 ((hf 0 0 rfl rfl).rng) _ _ _))
noncomputable def i_AddressText_e : Ent1 Tryd.prog := entA 33 [.sc (.int .i64)] (fun x => (i_AddressText x.1)) (fun v => [rv (.sc .str) [] v]) (fun x => i_AddressText_c x.1)

theorem i_AddressText_len (x0 : Int)  (h : inK .i64 x0) : (fun v : Bytes => v.length ≤ 8589934592) (i_AddressText x0) := by
  unfold i_AddressText
  refine letP (P := (fun v : Bytes => v.length ≤ 8589934592)) (fun c1 hc1 => bifP (P := (fun v : Bytes => v.length ≤ 8589934592)) (fun b0 => ?_)
      (fun b0 => letP (P := (fun v : Bytes => v.length ≤ 8589934592)) (fun c2 hc2 => letP (P := (fun v : Bytes => v.length ≤ 8589934592)) (fun c3 hc3 => letP (P := (fun v : Bytes => v.length ≤ 8589934592)) (fun c4 hc4 => letP (P := (fun v : Bytes => v.length ≤ 8589934592)) (fun c5 hc5 => letP (P := (fun v : Bytes => v.length ≤ 8589934592)) (fun c6 hc6 => ?_)))))))
  all_goals (subst_vars; first | (simp; done) | exact i_Joined_len _ _ (i_Dig4 x0 h))

/-- spec.ActOk -/
def s_ActOk_N (x0 : Acti) (γ : Type) (fail : γ) (k : Bool → γ) : γ :=
  bif (x0.kind == 1) then
    letK (α := Bool) (s_l1In x0.kind 1 8) fun c1 =>
    bif (!c1) then
      k false
    else
    bif (!((x0.tuple.ip == 0) && ((x0.tuple.port == 0) && ((x0.tuple.my == 0) && true)))) then
      k false
    else
    bif (x0.n != 0) then
      k false
    else
    bif (!(x0.text == x0.text)) then
      k false
    else
    letK (α := Bool) (s_SameMac x0.mac (⟨false, 0, 0, []⟩ : Mac)) fun c2 =>
    bif (!c2) then
      k false
    else
    bif (decide ((x0.text.length : Int) ≤ 1600)) then
      letK (α := Bool) (s_MacOk x0.mac) fun c3 =>
      bif c3 then
        letK (α := Bool) (s_TupleOk x0.tuple) fun c4 =>
        bif c4 then
          letK (α := Bool) (s_l1In x0.n 0 65535) fun c5 =>
          k c5
        else
        k false
      else
      k false
    else
    k false
  else
  bif (x0.kind == 3) then
    letK (α := Bool) (s_l1In x0.kind 1 8) fun c6 =>
    bif (!c6) then
      k false
    else
    bif (!((x0.tuple.ip == 0) && ((x0.tuple.port == 0) && ((x0.tuple.my == 0) && true)))) then
      k false
    else
    bif (x0.n != 0) then
      k false
    else
    bif (!(x0.text == [])) then
      k false
    else
    letK (α := Bool) (s_SameMac x0.mac x0.mac) fun c7 =>
    bif (!c7) then
      k false
    else
    bif (decide ((x0.text.length : Int) ≤ 1600)) then
      letK (α := Bool) (s_MacOk x0.mac) fun c8 =>
      bif c8 then
        letK (α := Bool) (s_TupleOk x0.tuple) fun c9 =>
        bif c9 then
          letK (α := Bool) (s_l1In x0.n 0 65535) fun c10 =>
          k c10
        else
        k false
      else
      k false
    else
    k false
  else
  bif (x0.kind == 5) then
    letK (α := Bool) (s_l1In x0.kind 1 8) fun c11 =>
    bif (!c11) then
      k false
    else
    bif (!((x0.tuple.ip == x0.tuple.ip) && ((x0.tuple.port == x0.tuple.port) && ((x0.tuple.my == x0.tuple.my) && true)))) then
      k false
    else
    bif (x0.n != 0) then
      k false
    else
    bif (!(x0.text == x0.text)) then
      k false
    else
    letK (α := Bool) (s_SameMac x0.mac (⟨false, 0, 0, []⟩ : Mac)) fun c12 =>
    bif (!c12) then
      k false
    else
    bif (decide ((x0.text.length : Int) ≤ 1600)) then
      letK (α := Bool) (s_MacOk x0.mac) fun c13 =>
      bif c13 then
        letK (α := Bool) (s_TupleOk x0.tuple) fun c14 =>
        bif c14 then
          letK (α := Bool) (s_l1In x0.n 0 65535) fun c15 =>
          k c15
        else
        k false
      else
      k false
    else
    k false
  else
  bif (x0.kind == 6) then
    letK (α := Bool) (s_l1In x0.kind 1 8) fun c16 =>
    bif (!c16) then
      k false
    else
    bif (!((x0.tuple.ip == x0.tuple.ip) && ((x0.tuple.port == x0.tuple.port) && ((x0.tuple.my == x0.tuple.my) && true)))) then
      k false
    else
    bif (x0.n != x0.n) then
      k false
    else
    bif (!(x0.text == [])) then
      k false
    else
    letK (α := Bool) (s_SameMac x0.mac (⟨false, 0, 0, []⟩ : Mac)) fun c17 =>
    bif (!c17) then
      k false
    else
    bif (decide ((x0.text.length : Int) ≤ 1600)) then
      letK (α := Bool) (s_MacOk x0.mac) fun c18 =>
      bif c18 then
        letK (α := Bool) (s_TupleOk x0.tuple) fun c19 =>
        bif c19 then
          letK (α := Bool) (s_l1In x0.n 0 65535) fun c20 =>
          k c20
        else
        k false
      else
      k false
    else
    k false
  else
  bif (x0.kind == 7) then
    bif (x0.kind == 7) then
      letK (α := Bool) (s_l1In x0.kind 1 8) fun c21 =>
      bif (!c21) then
        k false
      else
      bif (!((x0.tuple.ip == x0.tuple.ip) && ((x0.tuple.port == x0.tuple.port) && ((x0.tuple.my == x0.tuple.my) && true)))) then
        k false
      else
      bif (x0.n != 0) then
        k false
      else
      bif (!(x0.text == [])) then
        k false
      else
      letK (α := Bool) (s_SameMac x0.mac (⟨false, 0, 0, []⟩ : Mac)) fun c22 =>
      bif (!c22) then
        k false
      else
      bif (decide ((x0.text.length : Int) ≤ 1600)) then
        letK (α := Bool) (s_MacOk x0.mac) fun c23 =>
        bif c23 then
          letK (α := Bool) (s_TupleOk x0.tuple) fun c24 =>
          bif c24 then
            letK (α := Bool) (s_l1In x0.n 0 65535) fun c25 =>
            k c25
          else
          k false
        else
        k false
      else
      k false
    else
    letK (α := Bool) (s_l1In x0.kind 1 8) fun c26 =>
    bif (!c26) then
      k false
    else
    bif (!((x0.tuple.ip == 0) && ((x0.tuple.port == 0) && ((x0.tuple.my == 0) && true)))) then
      k false
    else
    bif (x0.n != 0) then
      k false
    else
    bif (!(x0.text == [])) then
      k false
    else
    letK (α := Bool) (s_SameMac x0.mac (⟨false, 0, 0, []⟩ : Mac)) fun c27 =>
    bif (!c27) then
      k false
    else
    bif (decide ((x0.text.length : Int) ≤ 1600)) then
      letK (α := Bool) (s_MacOk x0.mac) fun c28 =>
      bif c28 then
        letK (α := Bool) (s_TupleOk x0.tuple) fun c29 =>
        bif c29 then
          letK (α := Bool) (s_l1In x0.n 0 65535) fun c30 =>
          k c30
        else
        k false
      else
      k false
    else
    k false
  else
  bif (x0.kind == 8) then
    letK (α := Bool) (s_l1In x0.kind 1 8) fun c31 =>
    bif (!c31) then
      k false
    else
    bif (!((x0.tuple.ip == x0.tuple.ip) && ((x0.tuple.port == x0.tuple.port) && ((x0.tuple.my == x0.tuple.my) && true)))) then
      k false
    else
    bif (x0.n != 0) then
      k false
    else
    bif (!(x0.text == [])) then
      k false
    else
    letK (α := Bool) (s_SameMac x0.mac (⟨false, 0, 0, []⟩ : Mac)) fun c32 =>
    bif (!c32) then
      k false
    else
    bif (decide ((x0.text.length : Int) ≤ 1600)) then
      letK (α := Bool) (s_MacOk x0.mac) fun c33 =>
      bif c33 then
        letK (α := Bool) (s_TupleOk x0.tuple) fun c34 =>
        bif c34 then
          letK (α := Bool) (s_l1In x0.n 0 65535) fun c35 =>
          k c35
        else
        k false
      else
      k false
    else
    k false
  else
  letK (α := Bool) (s_l1In x0.kind 1 8) fun c36 =>
  bif (!c36) then
    k false
  else
  bif (!((x0.tuple.ip == 0) && ((x0.tuple.port == 0) && ((x0.tuple.my == 0) && true)))) then
    k false
  else
  bif (x0.n != 0) then
    k false
  else
  bif (!(x0.text == [])) then
    k false
  else
  letK (α := Bool) (s_SameMac x0.mac (⟨false, 0, 0, []⟩ : Mac)) fun c37 =>
  bif (!c37) then
    k false
  else
  bif (decide ((x0.text.length : Int) ≤ 1600)) then
    letK (α := Bool) (s_MacOk x0.mac) fun c38 =>
    bif c38 then
      letK (α := Bool) (s_TupleOk x0.tuple) fun c39 =>
      bif c39 then
        letK (α := Bool) (s_l1In x0.n 0 65535) fun c40 =>
        k c40
      else
      k false
    else
    k false
  else
  k false
def s_ActOk (x0 : Acti) : Bool :=
  bif (x0.kind == 1) then
    letK (α := Bool) (s_l1In x0.kind 1 8) fun c1 =>
    bif (!c1) then
      false
    else
    bif (!((x0.tuple.ip == 0) && ((x0.tuple.port == 0) && ((x0.tuple.my == 0) && true)))) then
      false
    else
    bif (x0.n != 0) then
      false
    else
    bif (!(x0.text == x0.text)) then
      false
    else
    letK (α := Bool) (s_SameMac x0.mac (⟨false, 0, 0, []⟩ : Mac)) fun c2 =>
    bif (!c2) then
      false
    else
    bif (decide ((x0.text.length : Int) ≤ 1600)) then
      letK (α := Bool) (s_MacOk x0.mac) fun c3 =>
      bif c3 then
        letK (α := Bool) (s_TupleOk x0.tuple) fun c4 =>
        bif c4 then
          letK (α := Bool) (s_l1In x0.n 0 65535) fun c5 =>
          c5
        else
        false
      else
      false
    else
    false
  else
  bif (x0.kind == 3) then
    letK (α := Bool) (s_l1In x0.kind 1 8) fun c6 =>
    bif (!c6) then
      false
    else
    bif (!((x0.tuple.ip == 0) && ((x0.tuple.port == 0) && ((x0.tuple.my == 0) && true)))) then
      false
    else
    bif (x0.n != 0) then
      false
    else
    bif (!(x0.text == [])) then
      false
    else
    letK (α := Bool) (s_SameMac x0.mac x0.mac) fun c7 =>
    bif (!c7) then
      false
    else
    bif (decide ((x0.text.length : Int) ≤ 1600)) then
      letK (α := Bool) (s_MacOk x0.mac) fun c8 =>
      bif c8 then
        letK (α := Bool) (s_TupleOk x0.tuple) fun c9 =>
        bif c9 then
          letK (α := Bool) (s_l1In x0.n 0 65535) fun c10 =>
          c10
        else
        false
      else
      false
    else
    false
  else
  bif (x0.kind == 5) then
    letK (α := Bool) (s_l1In x0.kind 1 8) fun c11 =>
    bif (!c11) then
      false
    else
    bif (!((x0.tuple.ip == x0.tuple.ip) && ((x0.tuple.port == x0.tuple.port) && ((x0.tuple.my == x0.tuple.my) && true)))) then
      false
    else
    bif (x0.n != 0) then
      false
    else
    bif (!(x0.text == x0.text)) then
      false
    else
    letK (α := Bool) (s_SameMac x0.mac (⟨false, 0, 0, []⟩ : Mac)) fun c12 =>
    bif (!c12) then
      false
    else
    bif (decide ((x0.text.length : Int) ≤ 1600)) then
      letK (α := Bool) (s_MacOk x0.mac) fun c13 =>
      bif c13 then
        letK (α := Bool) (s_TupleOk x0.tuple) fun c14 =>
        bif c14 then
          letK (α := Bool) (s_l1In x0.n 0 65535) fun c15 =>
          c15
        else
        false
      else
      false
    else
    false
  else
  bif (x0.kind == 6) then
    letK (α := Bool) (s_l1In x0.kind 1 8) fun c16 =>
    bif (!c16) then
      false
    else
    bif (!((x0.tuple.ip == x0.tuple.ip) && ((x0.tuple.port == x0.tuple.port) && ((x0.tuple.my == x0.tuple.my) && true)))) then
      false
    else
    bif (x0.n != x0.n) then
      false
    else
    bif (!(x0.text == [])) then
      false
    else
    letK (α := Bool) (s_SameMac x0.mac (⟨false, 0, 0, []⟩ : Mac)) fun c17 =>
    bif (!c17) then
      false
    else
    bif (decide ((x0.text.length : Int) ≤ 1600)) then
      letK (α := Bool) (s_MacOk x0.mac) fun c18 =>
      bif c18 then
        letK (α := Bool) (s_TupleOk x0.tuple) fun c19 =>
        bif c19 then
          letK (α := Bool) (s_l1In x0.n 0 65535) fun c20 =>
          c20
        else
        false
      else
      false
    else
    false
  else
  bif (x0.kind == 7) then
    bif (x0.kind == 7) then
      letK (α := Bool) (s_l1In x0.kind 1 8) fun c21 =>
      bif (!c21) then
        false
      else
      bif (!((x0.tuple.ip == x0.tuple.ip) && ((x0.tuple.port == x0.tuple.port) && ((x0.tuple.my == x0.tuple.my) && true)))) then
        false
      else
      bif (x0.n != 0) then
        false
      else
      bif (!(x0.text == [])) then
        false
      else
      letK (α := Bool) (s_SameMac x0.mac (⟨false, 0, 0, []⟩ : Mac)) fun c22 =>
      bif (!c22) then
        false
      else
      bif (decide ((x0.text.length : Int) ≤ 1600)) then
        letK (α := Bool) (s_MacOk x0.mac) fun c23 =>
        bif c23 then
          letK (α := Bool) (s_TupleOk x0.tuple) fun c24 =>
          bif c24 then
            letK (α := Bool) (s_l1In x0.n 0 65535) fun c25 =>
            c25
          else
          false
        else
        false
      else
      false
    else
    letK (α := Bool) (s_l1In x0.kind 1 8) fun c26 =>
    bif (!c26) then
      false
    else
    bif (!((x0.tuple.ip == 0) && ((x0.tuple.port == 0) && ((x0.tuple.my == 0) && true)))) then
      false
    else
    bif (x0.n != 0) then
      false
    else
    bif (!(x0.text == [])) then
      false
    else
    letK (α := Bool) (s_SameMac x0.mac (⟨false, 0, 0, []⟩ : Mac)) fun c27 =>
    bif (!c27) then
      false
    else
    bif (decide ((x0.text.length : Int) ≤ 1600)) then
      letK (α := Bool) (s_MacOk x0.mac) fun c28 =>
      bif c28 then
        letK (α := Bool) (s_TupleOk x0.tuple) fun c29 =>
        bif c29 then
          letK (α := Bool) (s_l1In x0.n 0 65535) fun c30 =>
          c30
        else
        false
      else
      false
    else
    false
  else
  bif (x0.kind == 8) then
    letK (α := Bool) (s_l1In x0.kind 1 8) fun c31 =>
    bif (!c31) then
      false
    else
    bif (!((x0.tuple.ip == x0.tuple.ip) && ((x0.tuple.port == x0.tuple.port) && ((x0.tuple.my == x0.tuple.my) && true)))) then
      false
    else
    bif (x0.n != 0) then
      false
    else
    bif (!(x0.text == [])) then
      false
    else
    letK (α := Bool) (s_SameMac x0.mac (⟨false, 0, 0, []⟩ : Mac)) fun c32 =>
    bif (!c32) then
      false
    else
    bif (decide ((x0.text.length : Int) ≤ 1600)) then
      letK (α := Bool) (s_MacOk x0.mac) fun c33 =>
      bif c33 then
        letK (α := Bool) (s_TupleOk x0.tuple) fun c34 =>
        bif c34 then
          letK (α := Bool) (s_l1In x0.n 0 65535) fun c35 =>
          c35
        else
        false
      else
      false
    else
    false
  else
  letK (α := Bool) (s_l1In x0.kind 1 8) fun c36 =>
  bif (!c36) then
    false
  else
  bif (!((x0.tuple.ip == 0) && ((x0.tuple.port == 0) && ((x0.tuple.my == 0) && true)))) then
    false
  else
  bif (x0.n != 0) then
    false
  else
  bif (!(x0.text == [])) then
    false
  else
  letK (α := Bool) (s_SameMac x0.mac (⟨false, 0, 0, []⟩ : Mac)) fun c37 =>
  bif (!c37) then
    false
  else
  bif (decide ((x0.text.length : Int) ≤ 1600)) then
    letK (α := Bool) (s_MacOk x0.mac) fun c38 =>
    bif c38 then
      letK (α := Bool) (s_TupleOk x0.tuple) fun c39 =>
      bif c39 then
        letK (α := Bool) (s_l1In x0.n 0 65535) fun c40 =>
        c40
      else
      false
    else
    false
  else
  false
theorem s_ActOk_lk (x0 : Acti) : evalFn te (orcOf (P := Tryd.prog) [s_l1In_e, s_SameMac_e, s_MacOk_e, s_TupleOk_e]) lorc0 [] Tryd.f36 (pvs [.st .acti] (x0, ())) =
  s_ActOk_N x0 _ none (fun v => some [(false, [RC.c (.bool v)])]) := by kernel_rfl
theorem s_ActOk_p (x0 : Acti)   (γ : Type) (fail : γ) (k : Bool → γ) : s_ActOk_N x0 γ fail k = k (s_ActOk x0) := by
  unfold s_ActOk_N s_ActOk
  exact bifT (f := k) (fun b0 => letT (f := k) (fun c1 hc1 => bifT (f := k) (fun b1 => rfl)
      (fun b1 => bifT (f := k) (fun b2 => rfl)
      (fun b2 => bifT (f := k) (fun b3 => rfl)
      (fun b3 => bifT (f := k) (fun b4 => rfl)
      (fun b4 => letT (f := k) (fun c2 hc2 => bifT (f := k) (fun b5 => rfl)
      (fun b5 => bifT (f := k) (fun b6 => letT (f := k) (fun c3 hc3 => bifT (f := k) (fun b7 => letT (f := k) (fun c4 hc4 => bifT (f := k) (fun b8 => letT (f := k) (fun c5 hc5 => rfl))
      (fun b8 => rfl)))
      (fun b7 => rfl)))
      (fun b6 => rfl)))))))))
      (fun b0 => bifT (f := k) (fun b1 => letT (f := k) (fun c6 hc6 => bifT (f := k) (fun b2 => rfl)
      (fun b2 => bifT (f := k) (fun b3 => rfl)
      (fun b3 => bifT (f := k) (fun b4 => rfl)
      (fun b4 => bifT (f := k) (fun b5 => rfl)
      (fun b5 => letT (f := k) (fun c7 hc7 => bifT (f := k) (fun b6 => rfl)
      (fun b6 => bifT (f := k) (fun b7 => letT (f := k) (fun c8 hc8 => bifT (f := k) (fun b8 => letT (f := k) (fun c9 hc9 => bifT (f := k) (fun b9 => letT (f := k) (fun c10 hc10 => rfl))
      (fun b9 => rfl)))
      (fun b8 => rfl)))
      (fun b7 => rfl)))))))))
      (fun b1 => bifT (f := k) (fun b2 => letT (f := k) (fun c11 hc11 => bifT (f := k) (fun b3 => rfl)
      (fun b3 => bifT (f := k) (fun b4 => rfl)
      (fun b4 => bifT (f := k) (fun b5 => rfl)
      (fun b5 => bifT (f := k) (fun b6 => rfl)
      (fun b6 => letT (f := k) (fun c12 hc12 => bifT (f := k) (fun b7 => rfl)
      (fun b7 => bifT (f := k) (fun b8 => letT (f := k) (fun c13 hc13 => bifT (f := k) (fun b9 => letT (f := k) (fun c14 hc14 => bifT (f := k) (fun b10 => letT (f := k) (fun c15 hc15 => rfl))
      (fun b10 => rfl)))
      (fun b9 => rfl)))
      (fun b8 => rfl)))))))))
      (fun b2 => bifT (f := k) (fun b3 => letT (f := k) (fun c16 hc16 => bifT (f := k) (fun b4 => rfl)
      (fun b4 => bifT (f := k) (fun b5 => rfl)
      (fun b5 => bifT (f := k) (fun b6 => rfl)
      (fun b6 => bifT (f := k) (fun b7 => rfl)
      (fun b7 => letT (f := k) (fun c17 hc17 => bifT (f := k) (fun b8 => rfl)
      (fun b8 => bifT (f := k) (fun b9 => letT (f := k) (fun c18 hc18 => bifT (f := k) (fun b10 => letT (f := k) (fun c19 hc19 => bifT (f := k) (fun b11 => letT (f := k) (fun c20 hc20 => rfl))
      (fun b11 => rfl)))
      (fun b10 => rfl)))
      (fun b9 => rfl)))))))))
      (fun b3 => bifT (f := k) (fun b4 => bifT (f := k) (fun b5 => letT (f := k) (fun c21 hc21 => bifT (f := k) (fun b6 => rfl)
      (fun b6 => bifT (f := k) (fun b7 => rfl)
      (fun b7 => bifT (f := k) (fun b8 => rfl)
      (fun b8 => bifT (f := k) (fun b9 => rfl)
      (fun b9 => letT (f := k) (fun c22 hc22 => bifT (f := k) (fun b10 => rfl)
      (fun b10 => bifT (f := k) (fun b11 => letT (f := k) (fun c23 hc23 => bifT (f := k) (fun b12 => letT (f := k) (fun c24 hc24 => bifT (f := k) (fun b13 => letT (f := k) (fun c25 hc25 => rfl))
      (fun b13 => rfl)))
      (fun b12 => rfl)))
      (fun b11 => rfl)))))))))
      (fun b5 => letT (f := k) (fun c26 hc26 => bifT (f := k) (fun b6 => rfl)
      (fun b6 => bifT (f := k) (fun b7 => rfl)
      (fun b7 => bifT (f := k) (fun b8 => rfl)
      (fun b8 => bifT (f := k) (fun b9 => rfl)
      (fun b9 => letT (f := k) (fun c27 hc27 => bifT (f := k) (fun b10 => rfl)
      (fun b10 => bifT (f := k) (fun b11 => letT (f := k) (fun c28 hc28 => bifT (f := k) (fun b12 => letT (f := k) (fun c29 hc29 => bifT (f := k) (fun b13 => letT (f := k) (fun c30 hc30 => rfl))
      (fun b13 => rfl)))
      (fun b12 => rfl)))
      (fun b11 => rfl))))))))))
      (fun b4 => bifT (f := k) (fun b5 => letT (f := k) (fun c31 hc31 => bifT (f := k) (fun b6 => rfl)
      (fun b6 => bifT (f := k) (fun b7 => rfl)
      (fun b7 => bifT (f := k) (fun b8 => rfl)
      (fun b8 => bifT (f := k) (fun b9 => rfl)
      (fun b9 => letT (f := k) (fun c32 hc32 => bifT (f := k) (fun b10 => rfl)
      (fun b10 => bifT (f := k) (fun b11 => letT (f := k) (fun c33 hc33 => bifT (f := k) (fun b12 => letT (f := k) (fun c34 hc34 => bifT (f := k) (fun b13 => letT (f := k) (fun c35 hc35 => rfl))
      (fun b13 => rfl)))
      (fun b12 => rfl)))
      (fun b11 => rfl)))))))))
      (fun b5 => letT (f := k) (fun c36 hc36 => bifT (f := k) (fun b6 => rfl)
      (fun b6 => bifT (f := k) (fun b7 => rfl)
      (fun b7 => bifT (f := k) (fun b8 => rfl)
      (fun b8 => bifT (f := k) (fun b9 => rfl)
      (fun b9 => letT (f := k) (fun c37 hc37 => bifT (f := k) (fun b10 => rfl)
      (fun b10 => bifT (f := k) (fun b11 => letT (f := k) (fun c38 hc38 => bifT (f := k) (fun b12 => letT (f := k) (fun c39 hc39 => bifT (f := k) (fun b13 => letT (f := k) (fun c40 hc40 => rfl))
      (fun b13 => rfl)))
      (fun b12 => rfl)))
      (fun b11 => rfl))))))))))))))
theorem s_ActOk_c (x0 : Acti)  : Con Tryd.prog 36 (pvs [.st .acti] (x0, ())) [rv (.sc .bool) [] (s_ActOk x0)] := by
  exact evalFn_con0 teFact mixFact (orcOf_ok _) Tryd.func36 (by kernel_rfl) ((s_ActOk_lk x0).trans (s_ActOk_p x0  _ _ _))
noncomputable def s_ActOk_e : Ent1 Tryd.prog := entA 36 [.st .acti] (fun x => (s_ActOk x.1)) (fun v => [rv (.sc .bool) [] v]) (fun x => s_ActOk_c x.1)


/-- spec.l33Key -/
def s_l33Key_N (x0 : Int) (γ : Type) (fail : γ) (k : Bytes → γ) : γ :=
  letK (α := Bytes) (s_PutWord (IntKind.wrap .i64 (IntKind.wrap .u64 (x0.tdiv 4294967296))) 4) fun c1 =>
  letK (α := Bytes) (s_PutWord (IntKind.wrap .i64 (x0.tmod 4294967296)) 4) fun c2 =>
  bif (Nat.ble (c1.length + c2.length) maxStr) then
  bif (decide ((c1 ++ c2).length ≤ 4294967296)) then
  letK (α := Bytes) (s_Hex (c1 ++ c2)) fun c3 =>
  k c3
  else fail
  else fail
def s_l33Key (x0 : Int) : Bytes :=
  letK (α := Bytes) (s_PutWord (IntKind.wrap .i64 (IntKind.wrap .u64 (x0.tdiv 4294967296))) 4) fun c1 =>
  letK (α := Bytes) (s_PutWord (IntKind.wrap .i64 (x0.tmod 4294967296)) 4) fun c2 =>
  letK (α := Bytes) (s_Hex (c1 ++ c2)) fun c3 =>
  c3
theorem s_l33Key_lk (x0 : Int) : evalFn te (orcOf (P := Tryd.prog) [s_PutWord_e, s_Hex_e]) lorc0 [] Tryd.f38 (pvs [.sc (.int .u64)] (x0, ())) =
  s_l33Key_N x0 _ none (fun v => some [(false, [RC.c (.str v)])]) := by kernel_rfl
theorem s_l33Key_p (x0 : Int) (hx0 : inK .u64 x0)  (γ : Type) (fail : γ) (k : Bytes → γ) : s_l33Key_N x0 γ fail k = k (s_l33Key x0) := by
  unfold s_l33Key_N s_l33Key
  refine letT (f := k) (fun c1 hc1 => letT (f := k) (fun c2 hc2 => bifG ?_ (bifG ?_ (letT (f := k) (fun c3 hc3 => rfl)))))
  all_goals ((try simp only [Nat.ble_eq, Bool.and_eq_true, decide_eq_true_eq]); grind [maxSl, maxStr, toBytes_length, toInts_length, List.length_set, wrap64, s_PutWord_len, s_Hex_len])
theorem s_l33Key_c (x0 : Int)  : Con Tryd.prog 38 (pvs [.sc (.int .u64)] (x0, ())) [rv (.sc .str) [] (s_l33Key x0)] := by
  refine Con.of_facts (enters_of Tryd.func38 rfl (by kernel_rfl)) fun hf => ?_
  replace hf := factAt hf
  exact evalFn_con0 teFact mixFact (orcOf_ok _) Tryd.func38 (by kernel_rfl) ((s_l33Key_lk x0).trans (s_l33Key_p x0 ((hf 0 0 rfl rfl).rng) _ _ _))
noncomputable def s_l33Key_e : Ent1 Tryd.prog := entA 38 [.sc (.int .u64)] (fun x => (s_l33Key x.1)) (fun v => [rv (.sc .str) [] v]) (fun x => s_l33Key_c x.1)

theorem s_l33Key_len (x0 : Int)   : (fun v : Bytes => v.length ≤ 64) (s_l33Key x0) := by
  unfold s_l33Key
  exact letP (P := (fun v : Bytes => v.length ≤ 64)) (fun c1 hc1 => letP (P := (fun v : Bytes => v.length ≤ 64)) (fun c2 hc2 => letP (P := (fun v : Bytes => v.length ≤ 64)) (fun c3 hc3 => (by (try simp only [Nat.ble_eq, Bool.and_eq_true, decide_eq_true_eq]); grind [maxSl, maxStr, toBytes_length, toInts_length, List.length_set, wrap64, s_PutWord_len, s_Hex_len]))))

/-- spec.l33Bytes -/
def s_l33Bytes_N (x0 : Bytes) (γ : Type) (fail : γ) (k : Bytes → γ) : γ :=
  bif (x0 == []) then
    k [45]
  else
  bif (decide (x0.length ≤ 4294967296)) then
  letK (α := Bytes) (s_Hex x0) fun c1 =>
  k c1
  else fail
def s_l33Bytes (x0 : Bytes) : Bytes :=
  bif (x0 == []) then
    [45]
  else
  letK (α := Bytes) (s_Hex x0) fun c1 =>
  c1
theorem s_l33Bytes_lk (x0 : Bytes) : evalFn te (orcOf (P := Tryd.prog) [s_Hex_e]) lorc0 [] Tryd.f39 (pvs [.sc .str] (x0, ())) =
  s_l33Bytes_N x0 _ none (fun v => some [(false, [RC.c (.str v)])]) := by kernel_rfl
theorem s_l33Bytes_p (x0 : Bytes) (hx0 : List.length x0 ≤ 4611686018427387904) (hp : x0.length ≤ 4294967296) (γ : Type) (fail : γ) (k : Bytes → γ) : s_l33Bytes_N x0 γ fail k = k (s_l33Bytes x0) := by
  unfold s_l33Bytes_N s_l33Bytes
  exact bifT (f := k) (fun b0 => rfl)
      (fun b0 => bifG (by (try simp only [Nat.ble_eq, Bool.and_eq_true, decide_eq_true_eq]); grind [maxSl, maxStr, toBytes_length, toInts_length, List.length_set, wrap64, s_Hex_len]) (letT (f := k) (fun c1 hc1 => rfl)))
theorem s_l33Bytes_c (x0 : Bytes) (hp : x0.length ≤ 4294967296) : Con Tryd.prog 39 (pvs [.sc .str] (x0, ())) [rv (.sc .str) [] (s_l33Bytes x0)] := by
  refine Con.of_facts (enters_of Tryd.func39 rfl (by kernel_rfl)) fun hf => ?_
  replace hf := factAt hf
  exact evalFn_con0 teFact mixFact (orcOf_ok _) Tryd.func39 (by kernel_rfl) ((s_l33Bytes_lk x0).trans (s_l33Bytes_p x0 ((hf 0 0 rfl rfl).slen) hp _ _ _))
noncomputable def s_l33Bytes_e : Ent1 Tryd.prog := entP 39 [.sc .str] (fun x => (decide (x.1.length ≤ 4294967296))) (fun x => (s_l33Bytes x.1)) (fun v => [rv (.sc .str) [] v]) (fun x hx => s_l33Bytes_c x.1 (of_decide_eq_true hx))

theorem s_l33Bytes_len (x0 : Bytes) (hp : x0.length ≤ 4294967296)  : (fun v : Bytes => v.length ≤ 2 * x0.length + 1) (s_l33Bytes x0) := by
  unfold s_l33Bytes
  refine bifP (P := (fun v : Bytes => v.length ≤ 2 * x0.length + 1)) (fun b0 => ?_)
      (fun b0 => letP (P := (fun v : Bytes => v.length ≤ 2 * x0.length + 1)) (fun c1 hc1 => ?_))
  all_goals ((try simp only [Nat.ble_eq, Bool.and_eq_true, decide_eq_true_eq]); grind [maxSl, maxStr, toBytes_length, toInts_length, List.length_set, wrap64, s_Hex_len])

/-- laws.eqMac -/
def w_eqMac_N (x0 : Mac) (x1 : Mac) (γ : Type) (fail : γ) (k : Bool → γ) : γ :=
  bif (!(x0.use == x1.use)) then
    k false
  else
  bif (x0.k != x1.k) then
    k false
  else
  bif (x0.l != x1.l) then
    k false
  else
  letK (α := Bool) (w_eqMacRowS x0.rows x1.rows) fun c1 =>
  bif (!c1) then
    k false
  else
  k true
def w_eqMac (x0 : Mac) (x1 : Mac) : Bool :=
  bif (!(x0.use == x1.use)) then
    false
  else
  bif (x0.k != x1.k) then
    false
  else
  bif (x0.l != x1.l) then
    false
  else
  letK (α := Bool) (w_eqMacRowS x0.rows x1.rows) fun c1 =>
  bif (!c1) then
    false
  else
  true
theorem w_eqMac_lk (x0 : Mac) (x1 : Mac) : evalFn te (orcOf (P := Tryd.prog) [w_eqMacRowS_e]) lorc0 [] Tryd.f46 (pvs [.st .mac, .st .mac] (x0, x1, ())) =
  w_eqMac_N x0 x1 _ none (fun v => some [(false, [RC.c (.bool v)])]) := by kernel_rfl
theorem w_eqMac_p (x0 : Mac) (x1 : Mac)   (γ : Type) (fail : γ) (k : Bool → γ) : w_eqMac_N x0 x1 γ fail k = k (w_eqMac x0 x1) := by
  unfold w_eqMac_N w_eqMac
  exact bifT (f := k) (fun b0 => rfl)
      (fun b0 => bifT (f := k) (fun b1 => rfl)
      (fun b1 => bifT (f := k) (fun b2 => rfl)
      (fun b2 => letT (f := k) (fun c1 hc1 => bifT (f := k) (fun b3 => rfl)
      (fun b3 => rfl)))))
theorem w_eqMac_c (x0 : Mac) (x1 : Mac)  : Con Tryd.prog 46 (pvs [.st .mac, .st .mac] (x0, x1, ())) [rv (.sc .bool) [] (w_eqMac x0 x1)] := by
  exact evalFn_con0 teFact mixFact (orcOf_ok _) Tryd.func46 (by kernel_rfl) ((w_eqMac_lk x0 x1).trans (w_eqMac_p x0 x1  _ _ _))
noncomputable def w_eqMac_e : Ent1 Tryd.prog := entA 46 [.st .mac, .st .mac] (fun x => (w_eqMac x.1 x.2.1)) (fun v => [rv (.sc .bool) [] v]) (fun x => w_eqMac_c x.1 x.2.1)


/-- spec.l33KeyOf -/
def s_l33KeyOf_N (x0 : Bytes) (γ : Type) (fail : γ) (k : Int → γ) : γ :=
  bif (decide (x0.length ≤ 4294967296)) then
  letK (α := Bytes × Bool) (s_Unhex x0) fun c1 =>
  letK (α := Int × Bool) (s_GetWord c1.1 0 4) fun c2 =>
  letK (α := Int × Bool) (s_GetWord c1.1 4 4) fun c3 =>
  letK (α := Int) (IntKind.wrap .u64 ((IntKind.wrap .u64 ((IntKind.wrap .u64 c2.1) * 4294967296)) + (IntKind.wrap .u64 c3.1))) fun e4 =>
  k e4
  else fail
def s_l33KeyOf (x0 : Bytes) : Int :=
  letK (α := Bytes × Bool) (s_Unhex x0) fun c1 =>
  letK (α := Int × Bool) (s_GetWord c1.1 0 4) fun c2 =>
  letK (α := Int × Bool) (s_GetWord c1.1 4 4) fun c3 =>
  letK (α := Int) (IntKind.wrap .u64 ((IntKind.wrap .u64 ((IntKind.wrap .u64 c2.1) * 4294967296)) + (IntKind.wrap .u64 c3.1))) fun e4 =>
  e4
theorem s_l33KeyOf_lk (x0 : Bytes) : evalFn te (orcOf (P := Tryd.prog) [s_Unhex_e, s_GetWord_e]) lorc0 [] Tryd.f49 (pvs [.sc .str] (x0, ())) =
  s_l33KeyOf_N x0 _ none (fun v => some [(false, [RC.c (.int .u64 v)])]) := by kernel_rfl
theorem s_l33KeyOf_p (x0 : Bytes) (hx0 : List.length x0 ≤ 4611686018427387904) (hp : x0.length ≤ 4294967296) (γ : Type) (fail : γ) (k : Int → γ) : s_l33KeyOf_N x0 γ fail k = k (s_l33KeyOf x0) := by
  unfold s_l33KeyOf_N s_l33KeyOf
  exact bifG (by (try simp only [Nat.ble_eq, Bool.and_eq_true, decide_eq_true_eq]); grind [maxSl, maxStr, toBytes_length, toInts_length, List.length_set, wrap64, s_Unhex_len]) (letT (f := k) (fun c1 hc1 => letT (f := k) (fun c2 hc2 => letT (f := k) (fun c3 hc3 => letT (f := k) (fun e4 he4 => rfl)))))
theorem s_l33KeyOf_c (x0 : Bytes) (hp : x0.length ≤ 4294967296) : Con Tryd.prog 49 (pvs [.sc .str] (x0, ())) [rv (.sc (.int .u64)) [] (s_l33KeyOf x0)] := by
  refine Con.of_facts (enters_of Tryd.func49 rfl (by kernel_rfl)) fun hf => ?_
  replace hf := factAt hf
  exact evalFn_con0 teFact mixFact (orcOf_ok _) Tryd.func49 (by kernel_rfl) ((s_l33KeyOf_lk x0).trans (s_l33KeyOf_p x0 ((hf 0 0 rfl rfl).slen) hp _ _ _))
noncomputable def s_l33KeyOf_e : Ent1 Tryd.prog := entP 49 [.sc .str] (fun x => (decide (x.1.length ≤ 4294967296))) (fun x => (s_l33KeyOf x.1)) (fun v => [rv (.sc (.int .u64)) [] v]) (fun x hx => s_l33KeyOf_c x.1 (of_decide_eq_true hx))


/-- impl.ReadTuple -/
def i_ReadTuple_N (x0 : Bytes) (γ : Type) (fail : γ) (k : Tupl × Bool → γ) : γ :=
  bif (decide (x0.length ≤ 4294967296)) then
  letK (α := List Bytes) (i_Parts x0 58) fun c1 =>
  bif ((c1.length : Int) != 3) then
    k ((⟨0, 0, 0⟩ : Tupl), false)
  else
  bif (decide (0 < (c1.length : Int))) then
  bif (decide ((c1.getD 0 []).length ≤ 4294967296)) then
  letK (α := Int × Bool) (i_Address (c1.getD 0 [])) fun c2 =>
  bif (decide (1 < (c1.length : Int))) then
  letK (α := Int × Bool) (i_Number (c1.getD 1 [])) fun c3 =>
  bif (decide (2 < (c1.length : Int))) then
  letK (α := Int × Bool) (i_Number (c1.getD 2 [])) fun c4 =>
  bif (!c2.2) then
    k ((⟨0, 0, 0⟩ : Tupl), false)
  else
  bif (!c3.2) then
    k ((⟨0, 0, 0⟩ : Tupl), false)
  else
  bif (!c4.2) then
    k ((⟨0, 0, 0⟩ : Tupl), false)
  else
  letK (α := Bool) (i_TupleOk (⟨c2.1, c3.1, c4.1⟩ : Tupl)) fun c5 =>
  bif (!c5) then
    k ((⟨0, 0, 0⟩ : Tupl), false)
  else
  k ((⟨c2.1, c3.1, c4.1⟩ : Tupl), true)
  else fail
  else fail
  else fail
  else fail
  else fail
def i_ReadTuple (x0 : Bytes) : Tupl × Bool :=
  letK (α := List Bytes) (i_Parts x0 58) fun c1 =>
  bif ((c1.length : Int) != 3) then
    ((⟨0, 0, 0⟩ : Tupl), false)
  else
  letK (α := Int × Bool) (i_Address (c1.getD 0 [])) fun c2 =>
  letK (α := Int × Bool) (i_Number (c1.getD 1 [])) fun c3 =>
  letK (α := Int × Bool) (i_Number (c1.getD 2 [])) fun c4 =>
  bif (!c2.2) then
    ((⟨0, 0, 0⟩ : Tupl), false)
  else
  bif (!c3.2) then
    ((⟨0, 0, 0⟩ : Tupl), false)
  else
  bif (!c4.2) then
    ((⟨0, 0, 0⟩ : Tupl), false)
  else
  letK (α := Bool) (i_TupleOk (⟨c2.1, c3.1, c4.1⟩ : Tupl)) fun c5 =>
  bif (!c5) then
    ((⟨0, 0, 0⟩ : Tupl), false)
  else
  ((⟨c2.1, c3.1, c4.1⟩ : Tupl), true)
theorem i_ReadTuple_lk (x0 : Bytes) : evalFn te (orcOf (P := Tryd.prog) [i_Parts_e, i_Address_e, i_Number_e, i_TupleOk_e]) lorc0 [] Tryd.f56 (pvs [.sc .str] (x0, ())) =
  i_ReadTuple_N x0 _ none (fun v => some [(true, [RC.c (.int .i64 v.1.ip), RC.c (.int .i64 v.1.port), RC.c (.int .i64 v.1.my)]), (false, [RC.c (.bool v.2)])]) := by kernel_rfl
theorem i_ReadTuple_p (x0 : Bytes) (hx0 : List.length x0 ≤ 4611686018427387904) (hp : x0.length ≤ 4294967296) (γ : Type) (fail : γ) (k : Tupl × Bool → γ) : i_ReadTuple_N x0 γ fail k = k (i_ReadTuple x0) := by
  unfold i_ReadTuple_N i_ReadTuple
  refine bifG ?_ (letT (f := k) (fun c1 hc1 => bifT (f := k) (fun b0 => rfl)
      (fun b0 => bifG ?_ (bifG ?_ (letT (f := k) (fun c2 hc2 => bifG ?_ (letT (f := k) (fun c3 hc3 => bifG ?_ (letT (f := k) (fun c4 hc4 => bifT (f := k) (fun b1 => rfl)
      (fun b1 => bifT (f := k) (fun b2 => rfl)
      (fun b2 => bifT (f := k) (fun b3 => rfl)
      (fun b3 => letT (f := k) (fun c5 hc5 => bifT (f := k) (fun b4 => rfl)
      (fun b4 => rfl)))))))))))))))
  all_goals ((try simp only [Nat.ble_eq, Bool.and_eq_true, decide_eq_true_eq]); grind [maxSl, maxStr, toBytes_length, toInts_length, List.length_set, wrap64, i_Parts_len, i_Parts_el])
theorem i_ReadTuple_c (x0 : Bytes) (hp : x0.length ≤ 4294967296) : Con Tryd.prog 56 (pvs [.sc .str] (x0, ())) [rv (.st .tupl) [] (i_ReadTuple x0).1, rv (.sc .bool) [] (i_ReadTuple x0).2] := by
  refine Con.of_facts (enters_of Tryd.func56 rfl (by kernel_rfl)) fun hf => ?_
  replace hf := factAt hf
  exact evalFn_con0 teFact mixFact (orcOf_ok _) Tryd.func56 (by kernel_rfl) ((i_ReadTuple_lk x0).trans (i_ReadTuple_p x0 ((hf 0 0 rfl rfl).slen) hp _ _ _))
noncomputable def i_ReadTuple_e : Ent1 Tryd.prog := entP 56 [.sc .str] (fun x => (decide (x.1.length ≤ 4294967296))) (fun x => (i_ReadTuple x.1)) (fun v => [rv (.st .tupl) [] v.1, rv (.sc .bool) [] v.2]) (fun x hx => i_ReadTuple_c x.1 (of_decide_eq_true hx))


/-- spec.Address -/
def s_Address_ann : List (Nat × Keep) := [(0, ⟨[0, 4, 5, 6], [], false, 0⟩)]
def s_Address_L0_sh : Sh := ⟨[(0, false, [.str]), (4, false, [.own 0]), (5, false, [.int .i64]), (6, false, [.int .i64])], [.arr .str false true]⟩
def s_Address_L0_es : List (Ex × Sh) := [(.exit 0, ⟨[(0, false, [.str]), (2, false, [.undef]), (3, false, [.undef]), (5, false, [.int .i64])], []⟩)]
def s_Address_L0_mk (v0 : Bytes) (v1 : Int) (v2 : Int) (v3 : List Bytes) : s_Address_L0_sh.T := (((v0, ()), (((), ()), ((v1, ()), ((v2, ()), ())))), (v3, ()))
def s_Address_L0_mx0 (y0 : Bytes) (y1 : Int) : Sh.T ⟨[(0, false, [.str]), (2, false, [.undef]), (3, false, [.undef]), (5, false, [.int .i64])], []⟩ := (((y0, ()), (((), ()), (((), ()), ((y1, ()), ())))), ())
def s_Address_L0_B (v0 : Bytes) (v1 : Int) (v2 : Int) (v3 : List Bytes) (γ : Type) (fail : γ) (next : s_Address_L0_sh.T → γ) (out : WT s_Address_L0_es → γ) : γ :=
  bif (decide (v2 < (v3.length : Int))) then
    bif (decide (v2 < 4)) then
      bif ((decide (0 ≤ v2)) && (decide (v2 < (v3.length : Int)))) then
      letK (α := Int × Bool) (s_Number (v3.getD v2.toNat [])) fun c2 =>
      next (s_Address_L0_mk v0 (IntKind.wrap .i64 ((IntKind.wrap .i64 (256 * v1)) + (c2.1.tmod 256))) (IntKind.wrap .i64 (v2 + 1)) v3)
      else fail
    else
    out (s_Address_L0_mx0 v0 v1)
  else
  out (s_Address_L0_mx0 v0 v1)
theorem s_Address_L0_par (v0 : Bytes) (v1 : Int) (v2 : Int) (v3 : List Bytes) (γ : Type) (fail : γ) (next : s_Address_L0_sh.T → γ) (out : WT s_Address_L0_es → γ) : s_Address_L0_B v0 v1 v2 v3 γ fail next out = optK (s_Address_L0_B v0 v1 v2 v3 _ none (fun v' => some (.inl v')) (fun w => some (.inr w))) fail (fun r => Sum.elim next out r) := by
  unfold s_Address_L0_B
  repeat' (first | refine letT (f := (fun o => optK o fail (fun r => Sum.elim next out r))) (fun _ _ => ?_) | refine bifT (f := (fun o => optK o fail (fun r => Sum.elim next out r))) (fun _ => ?_) (fun _ => ?_) | rfl)
def s_Address_L0_r : Round s_Address_L0_sh.T (WT s_Address_L0_es) where
  B v γ fail next out := s_Address_L0_B v.1.1.1 v.1.2.2.1.1 v.1.2.2.2.1.1 v.2.1 γ fail next out
  par v γ fail next out := s_Address_L0_par v.1.1.1 v.1.2.2.1.1 v.1.2.2.2.1.1 v.2.1 γ fail next out
def s_Address_L0_fu (v0 : Bytes) (v1 : Int) (v2 : Int) (v3 : List Bytes) : Nat := (Int.toNat ((v3.length : Int) - v2)) + 1
theorem s_Address_L0_lk (v : s_Address_L0_sh.T) (next : St → Option Res) (k : Ex → St → Option Res) : evalK te (orcOf (P := Tryd.prog) [s_Parts_e, s_Number_e, s_AddressText_e]) (lorcOf []) Tryd.f81.ntmps s_Address_ann (nthLoop (bodyOf Tryd.f81) 0 0) 0 (s_Address_L0_sh.enc v) (endK ⟨[0, 4, 5, 6], [], false, 0⟩ ⟨[0, 2, 3, 5], [], false, 0⟩ next k) =
  s_Address_L0_r.B v _ none (fun v' => next (s_Address_L0_sh.enc v')) (fun w => outK s_Address_L0_es k w) := by kernel_rfl
def s_Address_L0_le : LE := leOf 0 s_Address_L0_sh s_Address_L0_es s_Address_L0_r.step (fun v => s_Address_L0_fu v.1.1.1 v.1.2.2.1.1 v.1.2.2.2.1.1 v.2.1)
theorem s_Address_L0_ls (w0 : World) (mo : Mts) (I0 : Nat → Prop) (hmo : mo.length = 0) : LSem Tryd.prog (Sim w0 mo Tryd.f81.ntmps I0) (fun b s k => match Nat.beq 0 b with | true => s_Address_L0_le.run s k | false => none) 0 (nthLoop (bodyOf Tryd.f81) 0 0) :=
  le_sem hmo (lorc := lorcOf []) (ann := s_Address_ann) (keep := ⟨[0, 4, 5, 6], [], false, 0⟩) (kout := ⟨[0, 2, 3, 5], [], false, 0⟩) teFact mixFact (orcOf_ok _) (by kernel_rfl) (allLoops_of (bs := []) (by kernel_rfl) trivial) s_Address_L0_r _ s_Address_L0_lk
def s_Address_L0_f (v0 : Bytes) (v3 : List Bytes) (v2 : Int) (a : Int) : Stp (Int) ((Int)) :=
  bif (decide (v2 < 4)) then
    letK (α := Int × Bool) (s_Number (v3.getD v2.toNat [])) fun c2 =>
    .next (IntKind.wrap .i64 ((IntKind.wrap .i64 (256 * a)) + (c2.1.tmod 256)))
  else
  .out (a)
theorem s_Address_L0_st (v0 : Bytes) (v1 : Int) (v2 : Int) (v3 : List Bytes) (hlo : 0 ≤ v2) (hhi : v2 < (v3.length : Int)) (hN : (v3.length : Int) ≤ 4611686018427387904) : s_Address_L0_r.step (s_Address_L0_mk v0 v1 v2 v3) = Stp.elim (fun a' : Int => some (Sum.inl (s_Address_L0_mk v0 a' (v2 + 1) v3))) (fun w => some (Sum.inr ((fun p : Int => s_Address_L0_mx0 v0 p) w))) (s_Address_L0_f v0 v3 v2 v1) := by
  have hw : (IntKind.wrap .i64 (v2 + 1)) = v2 + 1 := wrap64 (by omega) (by omega)
  show s_Address_L0_B v0 v1 v2 v3 (Option (s_Address_L0_sh.T ⊕ WT s_Address_L0_es)) none (fun v' => some (Sum.inl v')) (fun w => some (Sum.inr w)) = _
  unfold s_Address_L0_B s_Address_L0_f
  exact bifG (by simp only [decide_eq_true_eq]; omega) (bifT (f := (Stp.elim (fun a' : Int => some (Sum.inl (s_Address_L0_mk v0 a' (v2 + 1) v3))) (fun w => some (Sum.inr ((fun p : Int => s_Address_L0_mx0 v0 p) w))))) (fun b0 => bifG (by (try simp only [Nat.ble_eq, Bool.and_eq_true, decide_eq_true_eq]); grind [maxSl, maxStr, toBytes_length, toInts_length, List.length_set, wrap64, s_Parts_len, s_Parts_el, s_Parts_el3, s_AddressText_len]) (letT (f := (Stp.elim (fun a' : Int => some (Sum.inl (s_Address_L0_mk v0 a' (v2 + 1) v3))) (fun w => some (Sum.inr ((fun p : Int => s_Address_L0_mx0 v0 p) w))))) (fun c2 hc2 => (by exact congrArg (fun z => some (Sum.inl (s_Address_L0_mk v0 (IntKind.wrap .i64 ((IntKind.wrap .i64 (256 * v1)) + (c2.1.tmod 256))) z v3))) hw))))
      (fun b0 => rfl))
theorem s_Address_L0_cl (v0 : Bytes) (v1 : Int) (v2 : Int) (v3 : List Bytes) (h0 : 0 ≤ v2) (h1 : (v3.length : Int) ≤ 4611686018427387904) : loopF s_Address_L0_r.step (s_Address_L0_fu v0 v1 v2 v3) (s_Address_L0_mk v0 v1 v2 v3) = some (Stp.elim (fun a => (fun i a => s_Address_L0_mx0 v0 a) (v2 + 1 * (((Int.toNat ((v3.length : Int) - v2)) : Nat) : Int)) a) (fun p : Int => s_Address_L0_mx0 v0 p) (forN (s_Address_L0_f v0 v3) 1 (Int.toNat ((v3.length : Int) - v2)) v2 v1)) :=
  forN_loop (step := s_Address_L0_r.step) (mk := fun v2 a => s_Address_L0_mk v0 a v2 v3) (f := s_Address_L0_f v0 v3) (e := (fun i a => s_Address_L0_mx0 v0 a)) (emb := (fun p : Int => s_Address_L0_mx0 v0 p)) (st := 1) (Inv := fun v2 a => True) (Int.toNat ((v3.length : Int) - v2)) v2 v1 _ (Nat.lt_succ_self _) trivial
    (fun j a hj hv => ⟨s_Address_L0_st v0 a (v2 + 1 * (j : Int)) v3 (by omega) (by omega) (by omega), fun _ _ => trivial⟩)
    (fun a hv => by
      show s_Address_L0_B v0 a (v2 + 1 * (((Int.toNat ((v3.length : Int) - v2)) : Nat) : Int)) v3 (Option (s_Address_L0_sh.T ⊕ WT s_Address_L0_es)) none (fun v' => some (Sum.inl v')) (fun w => some (Sum.inr w)) = _
      unfold s_Address_L0_B
      exact bifN (by simp only [decide_eq_false_iff_not]; omega) rfl)
def s_Address_N (x0 : Bytes) (γ : Type) (fail : γ) (k : Int × Bool → γ) : γ :=
  bif (decide (x0.length ≤ 4294967296)) then
  letK (α := List Bytes) (s_Parts x0 46) fun c1 =>
  optK (loopF s_Address_L0_r.step (s_Address_L0_fu x0 0 0 c1) (s_Address_L0_mk x0 0 0 c1)) fail fun w3 =>
    bif (w3.1.1.1 == []) then
      k (0, false)
    else
    letK (α := Bytes) (s_AddressText w3.1.2.2.2.1.1) fun c4 =>
    bif (!(c4 == w3.1.1.1)) then
      k (0, false)
    else
    k (w3.1.2.2.2.1.1, true)
  else fail
def s_Address (x0 : Bytes) : Int × Bool :=
  letK (α := List Bytes) (s_Parts x0 46) fun c1 =>
  Stp.elim (fun a5 =>
    bif (x0 == []) then
      (0, false)
    else
    letK (α := Bytes) (s_AddressText a5) fun c6 =>
    bif (!(c6 == x0)) then
      (0, false)
    else
    (a5, true))
    (fun p5 =>
      bif (x0 == []) then
        (0, false)
      else
      letK (α := Bytes) (s_AddressText p5) fun c7 =>
      bif (!(c7 == x0)) then
        (0, false)
      else
      (p5, true))
    (forN (s_Address_L0_f x0 c1) 1 (Int.toNat ((c1.length : Int) - 0)) 0 0)
theorem s_Address_lk (x0 : Bytes) : evalFn te (orcOf (P := Tryd.prog) [s_Parts_e, s_Number_e, s_AddressText_e]) (lorcOf [s_Address_L0_le]) s_Address_ann Tryd.f81 (pvs [.sc .str] (x0, ())) =
  s_Address_N x0 _ none (fun v => some [(false, [RC.c (.int .i64 v.1)]), (false, [RC.c (.bool v.2)])]) := by kernel_rfl
theorem s_Address_p (x0 : Bytes) (hx0 : List.length x0 ≤ 4611686018427387904) (hp : x0.length ≤ 4294967296) (γ : Type) (fail : γ) (k : Int × Bool → γ) : s_Address_N x0 γ fail k = k (s_Address x0) := by
  unfold s_Address_N s_Address
  refine bifG ?_ (letT (f := k) (fun c1 hc1 => loopT (f := k) (s_Address_L0_cl x0 0 0 c1 ?_ ?_) (fun a5 => bifT (f := k) (fun b0 => rfl)
      (fun b0 => letT (f := k) (fun c6 hc6 => bifT (f := k) (fun b1 => rfl)
      (fun b1 => rfl))))
      (fun p5 => bifT (f := k) (fun b0 => rfl)
      (fun b0 => letT (f := k) (fun c7 hc7 => bifT (f := k) (fun b1 => rfl)
      (fun b1 => rfl))))))
  all_goals ((try simp only [Nat.ble_eq, Bool.and_eq_true, decide_eq_true_eq, s_Address_L0_mx0]); grind [maxSl, maxStr, toBytes_length, toInts_length, List.length_set, wrap64, s_Parts_len, s_Parts_el, s_Parts_el3, s_AddressText_len])
theorem s_Address_c (x0 : Bytes) (hp : x0.length ≤ 4294967296) : Con Tryd.prog 81 (pvs [.sc .str] (x0, ())) [rv (.sc (.int .i64)) [] (s_Address x0).1, rv (.sc .bool) [] (s_Address x0).2] := by
  refine Con.of_facts (enters_of Tryd.func81 rfl (by kernel_rfl)) fun hf => ?_
  replace hf := factAt hf
  refine evalFn_conL teFact mixFact (orcOf_ok _) Tryd.func81 ?_ (bs := [0]) ?_ ?_ (fun w0 mo I0 hmo => ⟨lsem_of_lorc (s_Address_L0_ls w0 mo I0 hmo) ?_, trivial⟩) ((s_Address_lk x0).trans (s_Address_p x0 ((hf 0 0 rfl rfl).slen) hp _ _ _))
  all_goals (kernel_rfl)
noncomputable def s_Address_e : Ent1 Tryd.prog := entP 81 [.sc .str] (fun x => (decide (x.1.length ≤ 4294967296))) (fun x => (s_Address x.1)) (fun v => [rv (.sc (.int .i64)) [] v.1, rv (.sc .bool) [] v.2]) (fun x hx => s_Address_c x.1 (of_decide_eq_true hx))


/-- spec.TupleText -/
def s_TupleText_N (x0 : Tupl) (γ : Type) (fail : γ) (k : Bytes → γ) : γ :=
  letK (α := Bool) (s_TupleOk x0) fun c1 =>
  bif (!c1) then
    k []
  else
  letK (α := Bytes) (s_AddressText x0.ip) fun c2 =>
  bif (Nat.ble (c2.length + 1) maxStr) then
  letK (α := Bytes) (s_Digits x0.port) fun c3 =>
  bif (Nat.ble ((c2 ++ [58]).length + c3.length) maxStr) then
  bif (Nat.ble (((c2 ++ [58]) ++ c3).length + 1) maxStr) then
  letK (α := Bytes) (s_Digits x0.my) fun c4 =>
  bif (Nat.ble ((((c2 ++ [58]) ++ c3) ++ [58]).length + c4.length) maxStr) then
  k ((((c2 ++ [58]) ++ c3) ++ [58]) ++ c4)
  else fail
  else fail
  else fail
  else fail
def s_TupleText (x0 : Tupl) : Bytes :=
  letK (α := Bool) (s_TupleOk x0) fun c1 =>
  bif (!c1) then
    []
  else
  letK (α := Bytes) (s_AddressText x0.ip) fun c2 =>
  letK (α := Bytes) (s_Digits x0.port) fun c3 =>
  letK (α := Bytes) (s_Digits x0.my) fun c4 =>
  ((((c2 ++ [58]) ++ c3) ++ [58]) ++ c4)
theorem s_TupleText_lk (x0 : Tupl) : evalFn te (orcOf (P := Tryd.prog) [s_TupleOk_e, s_AddressText_e, s_Digits_e]) lorc0 [] Tryd.f8 (pvs [.st .tupl] (x0, ())) =
  s_TupleText_N x0 _ none (fun v => some [(false, [RC.c (.str v)])]) := by kernel_rfl
theorem s_TupleText_p (x0 : Tupl) (hx0_ip : inK .i64 x0.ip) (hx0_port : inK .i64 x0.port) (hx0_my : inK .i64 x0.my)  (γ : Type) (fail : γ) (k : Bytes → γ) : s_TupleText_N x0 γ fail k = k (s_TupleText x0) := by
  unfold s_TupleText_N s_TupleText
  refine letT (f := k) (fun c1 hc1 => bifT (f := k) (fun b0 => rfl)
      (fun b0 => letT (f := k) (fun c2 hc2 => bifG ?_ (letT (f := k) (fun c3 hc3 => bifG ?_ (bifG ?_ (letT (f := k) (fun c4 hc4 => bifG ?_ (rfl)))))))))
  all_goals ((try simp only [Nat.ble_eq, Bool.and_eq_true, decide_eq_true_eq]); grind [maxSl, maxStr, toBytes_length, toInts_length, List.length_set, wrap64, s_AddressText_len, s_Digits_len, s_Digits_small])
theorem s_TupleText_c (x0 : Tupl)  : Con Tryd.prog 8 (pvs [.st .tupl] (x0, ())) [rv (.sc .str) [] (s_TupleText x0)] := by
  refine Con.of_facts (enters_of Tryd.func8 rfl (by kernel_rfl)) fun hf => ?_
  replace hf := factAt hf
  exact evalFn_con0 teFact mixFact (orcOf_ok _) Tryd.func8 (by kernel_rfl) ((s_TupleText_lk x0).trans (s_TupleText_p x0 ((hf 0 0 rfl rfl).rng) ((hf 0 1 rfl rfl).rng) ((hf 0 2 rfl rfl).rng) _ _ _))
noncomputable def s_TupleText_e : Ent1 Tryd.prog := entA 8 [.st .tupl] (fun x => (s_TupleText x.1)) (fun v => [rv (.sc .str) [] v]) (fun x => s_TupleText_c x.1)

theorem s_TupleText_len (x0 : Tupl)  (h1 : inK .i64 x0.port) (h2 : inK .i64 x0.my) : (fun v : Bytes => v.length ≤ 2100000000000000000) (s_TupleText x0) := by
  unfold s_TupleText
  refine letP (P := (fun v : Bytes => v.length ≤ 2100000000000000000)) (fun c1 hc1 => bifP (P := (fun v : Bytes => v.length ≤ 2100000000000000000)) (fun b0 => ?_)
      (fun b0 => letP (P := (fun v : Bytes => v.length ≤ 2100000000000000000)) (fun c2 hc2 => letP (P := (fun v : Bytes => v.length ≤ 2100000000000000000)) (fun c3 hc3 => letP (P := (fun v : Bytes => v.length ≤ 2100000000000000000)) (fun c4 hc4 => ?_)))))
  all_goals ((try simp only [Nat.ble_eq, Bool.and_eq_true, decide_eq_true_eq]); grind [maxSl, maxStr, toBytes_length, toInts_length, List.length_set, wrap64, s_AddressText_len, s_Digits_len, s_Digits_small])

/-- impl.TupleText -/
def i_TupleText_N (x0 : Tupl) (γ : Type) (fail : γ) (k : Bytes → γ) : γ :=
  letK (α := Bool) (i_TupleOk x0) fun c1 =>
  bif (!c1) then
    k []
  else
  letK (α := Bytes) (i_AddressText x0.ip) fun c2 =>
  bif (Nat.ble (c2.length + 1) maxStr) then
  letK (α := Bytes) (i_Digits x0.port) fun c3 =>
  bif (Nat.ble ((c2 ++ [58]).length + c3.length) maxStr) then
  bif (Nat.ble (((c2 ++ [58]) ++ c3).length + 1) maxStr) then
  letK (α := Bytes) (i_Digits x0.my) fun c4 =>
  bif (Nat.ble ((((c2 ++ [58]) ++ c3) ++ [58]).length + c4.length) maxStr) then
  k ((((c2 ++ [58]) ++ c3) ++ [58]) ++ c4)
  else fail
  else fail
  else fail
  else fail
def i_TupleText (x0 : Tupl) : Bytes :=
  letK (α := Bool) (i_TupleOk x0) fun c1 =>
  bif (!c1) then
    []
  else
  letK (α := Bytes) (i_AddressText x0.ip) fun c2 =>
  letK (α := Bytes) (i_Digits x0.port) fun c3 =>
  letK (α := Bytes) (i_Digits x0.my) fun c4 =>
  ((((c2 ++ [58]) ++ c3) ++ [58]) ++ c4)
theorem i_TupleText_lk (x0 : Tupl) : evalFn te (orcOf (P := Tryd.prog) [i_TupleOk_e, i_AddressText_e, i_Digits_e]) lorc0 [] Tryd.f10 (pvs [.st .tupl] (x0, ())) =
  i_TupleText_N x0 _ none (fun v => some [(false, [RC.c (.str v)])]) := by kernel_rfl
theorem i_TupleText_p (x0 : Tupl) (hx0_ip : inK .i64 x0.ip) (hx0_port : inK .i64 x0.port) (hx0_my : inK .i64 x0.my)  (γ : Type) (fail : γ) (k : Bytes → γ) : i_TupleText_N x0 γ fail k = k (i_TupleText x0) := by
  unfold i_TupleText_N i_TupleText
  refine letT (f := k) (fun c1 hc1 => bifT (f := k) (fun b0 => rfl)
      (fun b0 => letT (f := k) (fun c2 hc2 => bifG ?_ (letT (f := k) (fun c3 hc3 => bifG ?_ (bifG ?_ (letT (f := k) (fun c4 hc4 => bifG ?_ (rfl)))))))))
  all_goals ((try simp only [Nat.ble_eq, Bool.and_eq_true, decide_eq_true_eq]); grind [maxSl, maxStr, toBytes_length, toInts_length, List.length_set, wrap64, i_AddressText_len, i_Digits_len])
theorem i_TupleText_c (x0 : Tupl)  : Con Tryd.prog 10 (pvs [.st .tupl] (x0, ())) [rv (.sc .str) [] (i_TupleText x0)] := by
  refine Con.of_facts (enters_of Tryd.func10 rfl (by kernel_rfl)) fun hf => ?_
  replace hf := factAt hf
  exact evalFn_con0 teFact mixFact (orcOf_ok _) Tryd.func10 (by kernel_rfl) ((i_TupleText_lk x0).trans (i_TupleText_p x0 ((hf 0 0 rfl rfl).rng) ((hf 0 1 rfl rfl).rng) ((hf 0 2 rfl rfl).rng) _ _ _))
noncomputable def i_TupleText_e : Ent1 Tryd.prog := entA 10 [.st .tupl] (fun x => (i_TupleText x.1)) (fun v => [rv (.sc .str) [] v]) (fun x => i_TupleText_c x.1)

theorem i_TupleText_len (x0 : Tupl)  (h0 : inK .i64 x0.ip) (h1 : inK .i64 x0.port) (h2 : inK .i64 x0.my) : (fun v : Bytes => v.length ≤ 2100000000000000000) (i_TupleText x0) := by
  unfold i_TupleText
  refine letP (P := (fun v : Bytes => v.length ≤ 2100000000000000000)) (fun c1 hc1 => bifP (P := (fun v : Bytes => v.length ≤ 2100000000000000000)) (fun b0 => ?_)
      (fun b0 => letP (P := (fun v : Bytes => v.length ≤ 2100000000000000000)) (fun c2 hc2 => letP (P := (fun v : Bytes => v.length ≤ 2100000000000000000)) (fun c3 hc3 => letP (P := (fun v : Bytes => v.length ≤ 2100000000000000000)) (fun c4 hc4 => ?_)))))
  all_goals ((try simp only [Nat.ble_eq, Bool.and_eq_true, decide_eq_true_eq]); grind [maxSl, maxStr, toBytes_length, toInts_length, List.length_set, wrap64, i_AddressText_len, i_Digits_len])

/-- spec.ActLine -/
def s_ActLine_N (x0 : Acti) (γ : Type) (fail : γ) (k : Bytes → γ) : γ :=
  letK (α := Bool) (s_ActOk x0) fun c1 =>
  bif (!c1) then
    k []
  else
  bif x0.mac.use then
    k []
  else
  letK (α := Bytes) (s_ActWord x0.kind) fun c2 =>
  bif (x0.kind == 3) then
    bif (Nat.ble (c2.length + 1) maxStr) then
    letK (α := Bytes) (s_l33Key x0.mac.k) fun c3 =>
    bif (Nat.ble ((c2 ++ [32]).length + c3.length) maxStr) then
    bif (Nat.ble (((c2 ++ [32]) ++ c3).length + 1) maxStr) then
    letK (α := Bytes) (s_l33Key x0.mac.l) fun c4 =>
    bif (Nat.ble ((((c2 ++ [32]) ++ c3) ++ [32]).length + c4.length) maxStr) then
    k ((((c2 ++ [32]) ++ c3) ++ [32]) ++ c4)
    else fail
    else fail
    else fail
    else fail
  else
  bif (decide (5 ≤ x0.kind)) then
    bif (Nat.ble (c2.length + 1) maxStr) then
    letK (α := Bytes) (s_TupleText x0.tuple) fun c5 =>
    bif (Nat.ble ((c2 ++ [32]).length + c5.length) maxStr) then
    bif (x0.kind == 6) then
      bif (Nat.ble (((c2 ++ [32]) ++ c5).length + 1) maxStr) then
      letK (α := Bytes) (s_Digits x0.n) fun c6 =>
      bif (Nat.ble ((((c2 ++ [32]) ++ c5) ++ [32]).length + c6.length) maxStr) then
      k ((((c2 ++ [32]) ++ c5) ++ [32]) ++ c6)
      else fail
      else fail
    else
    bif (x0.kind == 1) then
      bif (x0.kind == 1) then
        bif (Nat.ble (((c2 ++ [32]) ++ c5).length + 1) maxStr) then
        bif (decide (x0.text.length ≤ 4294967296)) then
        letK (α := Bytes) (s_l33Bytes x0.text) fun c7 =>
        bif (Nat.ble ((((c2 ++ [32]) ++ c5) ++ [32]).length + c7.length) maxStr) then
        k ((((c2 ++ [32]) ++ c5) ++ [32]) ++ c7)
        else fail
        else fail
        else fail
      else
      k ((c2 ++ [32]) ++ c5)
    else
    bif (x0.kind == 5) then
      bif (Nat.ble (((c2 ++ [32]) ++ c5).length + 1) maxStr) then
      bif (decide (x0.text.length ≤ 4294967296)) then
      letK (α := Bytes) (s_l33Bytes x0.text) fun c8 =>
      bif (Nat.ble ((((c2 ++ [32]) ++ c5) ++ [32]).length + c8.length) maxStr) then
      k ((((c2 ++ [32]) ++ c5) ++ [32]) ++ c8)
      else fail
      else fail
      else fail
    else
    k ((c2 ++ [32]) ++ c5)
    else fail
    else fail
  else
  bif (x0.kind == 6) then
    bif (Nat.ble (c2.length + 1) maxStr) then
    letK (α := Bytes) (s_Digits x0.n) fun c9 =>
    bif (Nat.ble ((c2 ++ [32]).length + c9.length) maxStr) then
    k ((c2 ++ [32]) ++ c9)
    else fail
    else fail
  else
  bif (x0.kind == 1) then
    bif (x0.kind == 1) then
      bif (Nat.ble (c2.length + 1) maxStr) then
      bif (decide (x0.text.length ≤ 4294967296)) then
      letK (α := Bytes) (s_l33Bytes x0.text) fun c10 =>
      bif (Nat.ble ((c2 ++ [32]).length + c10.length) maxStr) then
      k ((c2 ++ [32]) ++ c10)
      else fail
      else fail
      else fail
    else
    k c2
  else
  bif (x0.kind == 5) then
    bif (Nat.ble (c2.length + 1) maxStr) then
    bif (decide (x0.text.length ≤ 4294967296)) then
    letK (α := Bytes) (s_l33Bytes x0.text) fun c11 =>
    bif (Nat.ble ((c2 ++ [32]).length + c11.length) maxStr) then
    k ((c2 ++ [32]) ++ c11)
    else fail
    else fail
    else fail
  else
  k c2
def s_ActLine (x0 : Acti) : Bytes :=
  letK (α := Bool) (s_ActOk x0) fun c1 =>
  bif (!c1) then
    []
  else
  bif x0.mac.use then
    []
  else
  letK (α := Bytes) (s_ActWord x0.kind) fun c2 =>
  bif (x0.kind == 3) then
    letK (α := Bytes) (s_l33Key x0.mac.k) fun c3 =>
    letK (α := Bytes) (s_l33Key x0.mac.l) fun c4 =>
    ((((c2 ++ [32]) ++ c3) ++ [32]) ++ c4)
  else
  bif (decide (5 ≤ x0.kind)) then
    letK (α := Bytes) (s_TupleText x0.tuple) fun c5 =>
    bif (x0.kind == 6) then
      letK (α := Bytes) (s_Digits x0.n) fun c6 =>
      ((((c2 ++ [32]) ++ c5) ++ [32]) ++ c6)
    else
    bif (x0.kind == 1) then
      bif (x0.kind == 1) then
        letK (α := Bytes) (s_l33Bytes x0.text) fun c7 =>
        ((((c2 ++ [32]) ++ c5) ++ [32]) ++ c7)
      else
      ((c2 ++ [32]) ++ c5)
    else
    bif (x0.kind == 5) then
      letK (α := Bytes) (s_l33Bytes x0.text) fun c8 =>
      ((((c2 ++ [32]) ++ c5) ++ [32]) ++ c8)
    else
    ((c2 ++ [32]) ++ c5)
  else
  bif (x0.kind == 6) then
    letK (α := Bytes) (s_Digits x0.n) fun c9 =>
    ((c2 ++ [32]) ++ c9)
  else
  bif (x0.kind == 1) then
    bif (x0.kind == 1) then
      letK (α := Bytes) (s_l33Bytes x0.text) fun c10 =>
      ((c2 ++ [32]) ++ c10)
    else
    c2
  else
  bif (x0.kind == 5) then
    letK (α := Bytes) (s_l33Bytes x0.text) fun c11 =>
    ((c2 ++ [32]) ++ c11)
  else
  c2
theorem s_ActLine_lk (x0 : Acti) : evalFn te (orcOf (P := Tryd.prog) [s_ActOk_e, s_ActWord_e, s_l33Key_e, s_TupleText_e, s_Digits_e, s_l33Bytes_e]) lorc0 [] Tryd.f12 (pvs [.st .acti] (x0, ())) =
  s_ActLine_N x0 _ none (fun v => some [(false, [RC.c (.str v)])]) := by kernel_rfl
theorem s_ActLine_p (x0 : Acti) (hx0_kind : inK .i64 x0.kind) (hx0_tuple_ip : inK .i64 x0.tuple.ip) (hx0_tuple_port : inK .i64 x0.tuple.port) (hx0_tuple_my : inK .i64 x0.tuple.my) (hx0_n : inK .i64 x0.n) (hx0_text : List.length x0.text ≤ 4611686018427387904) (hx0_mac_k : inK .u64 x0.mac.k) (hx0_mac_l : inK .u64 x0.mac.l) (hx0_mac_rows : x0.mac.rows.length ≤ 140737488355328) (hx0_mac_rows_e : ∀ y ∈ x0.mac.rows, ∀ c ∈ Ty.cells .macRow y, FactC c) (hp : x0.text.length ≤ 4294967296 ∧ x0.mac.rows.length ≤ 4294967296) (γ : Type) (fail : γ) (k : Bytes → γ) : s_ActLine_N x0 γ fail k = k (s_ActLine x0) := by
  unfold s_ActLine_N s_ActLine
  refine letT (f := k) (fun c1 hc1 => bifT (f := k) (fun b0 => rfl)
      (fun b0 => bifT (f := k) (fun b1 => rfl)
      (fun b1 => letT (f := k) (fun c2 hc2 => bifT (f := k) (fun b2 => bifG ?_ (letT (f := k) (fun c3 hc3 => bifG ?_ (bifG ?_ (letT (f := k) (fun c4 hc4 => bifG ?_ (rfl)))))))
      (fun b2 => bifT (f := k) (fun b3 => bifG ?_ (letT (f := k) (fun c5 hc5 => bifG ?_ (bifT (f := k) (fun b4 => bifG ?_ (letT (f := k) (fun c6 hc6 => bifG ?_ (rfl))))
      (fun b4 => bifT (f := k) (fun b5 => bifT (f := k) (fun b6 => bifG ?_ (bifG ?_ (letT (f := k) (fun c7 hc7 => bifG ?_ (rfl)))))
      (fun b6 => rfl))
      (fun b5 => bifT (f := k) (fun b6 => bifG ?_ (bifG ?_ (letT (f := k) (fun c8 hc8 => bifG ?_ (rfl)))))
      (fun b6 => rfl)))))))
      (fun b3 => bifT (f := k) (fun b4 => bifG ?_ (letT (f := k) (fun c9 hc9 => bifG ?_ (rfl))))
      (fun b4 => bifT (f := k) (fun b5 => bifT (f := k) (fun b6 => bifG ?_ (bifG ?_ (letT (f := k) (fun c10 hc10 => bifG ?_ (rfl)))))
      (fun b6 => rfl))
      (fun b5 => bifT (f := k) (fun b6 => bifG ?_ (bifG ?_ (letT (f := k) (fun c11 hc11 => bifG ?_ (rfl)))))
      (fun b6 => rfl)))))))))
  all_goals ((try simp only [Nat.ble_eq, Bool.and_eq_true, decide_eq_true_eq]); grind [maxSl, maxStr, toBytes_length, toInts_length, List.length_set, wrap64, s_ActWord_len, s_l33Key_len, s_TupleText_len, s_Digits_len, s_Digits_small, s_l33Bytes_len])
theorem s_ActLine_c (x0 : Acti) (hp : x0.text.length ≤ 4294967296 ∧ x0.mac.rows.length ≤ 4294967296) : Con Tryd.prog 12 (pvs [.st .acti] (x0, ())) [rv (.sc .str) [] (s_ActLine x0)] := by
  refine Con.of_facts (enters_of Tryd.func12 rfl (by kernel_rfl)) fun hf => ?_
  replace hf := factAt hf
  exact evalFn_con0 teFact mixFact (orcOf_ok _) Tryd.func12 (by kernel_rfl) ((s_ActLine_lk x0).trans (s_ActLine_p x0 ((hf 0 0 rfl rfl).rng) ((hf 0 1 rfl rfl).rng) ((hf 0 2 rfl rfl).rng) ((hf 0 3 rfl rfl).rng) ((hf 0 4 rfl rfl).rng) ((hf 0 5 rfl rfl).slen) ((hf 0 7 rfl rfl).rng) ((hf 0 8 rfl rfl).rng) ((hf 0 9 rfl rfl).len) (fun y hy => (hf 0 9 rfl rfl).elem hy) hp _ _ _))
noncomputable def s_ActLine_e : Ent1 Tryd.prog := entP 12 [.st .acti] (fun x => (decide (x.1.text.length ≤ 4294967296 ∧ x.1.mac.rows.length ≤ 4294967296))) (fun x => (s_ActLine x.1)) (fun v => [rv (.sc .str) [] v]) (fun x hx => s_ActLine_c x.1 (of_decide_eq_true hx))


/-- laws.eqAct -/
def w_eqAct_N (x0 : Acti) (x1 : Acti) (γ : Type) (fail : γ) (k : Bool → γ) : γ :=
  bif (x0.kind != x1.kind) then
    k false
  else
  letK (α := Bool) (w_eqTuple x0.tuple x1.tuple) fun c1 =>
  bif (!c1) then
    k false
  else
  bif (x0.n != x1.n) then
    k false
  else
  bif (!(x0.text == x1.text)) then
    k false
  else
  letK (α := Bool) (w_eqMac x0.mac x1.mac) fun c2 =>
  bif (!c2) then
    k false
  else
  k true
def w_eqAct (x0 : Acti) (x1 : Acti) : Bool :=
  bif (x0.kind != x1.kind) then
    false
  else
  letK (α := Bool) (w_eqTuple x0.tuple x1.tuple) fun c1 =>
  bif (!c1) then
    false
  else
  bif (x0.n != x1.n) then
    false
  else
  bif (!(x0.text == x1.text)) then
    false
  else
  letK (α := Bool) (w_eqMac x0.mac x1.mac) fun c2 =>
  bif (!c2) then
    false
  else
  true
theorem w_eqAct_lk (x0 : Acti) (x1 : Acti) : evalFn te (orcOf (P := Tryd.prog) [w_eqTuple_e, w_eqMac_e]) lorc0 [] Tryd.f15 (pvs [.st .acti, .st .acti] (x0, x1, ())) =
  w_eqAct_N x0 x1 _ none (fun v => some [(false, [RC.c (.bool v)])]) := by kernel_rfl
theorem w_eqAct_p (x0 : Acti) (x1 : Acti)   (γ : Type) (fail : γ) (k : Bool → γ) : w_eqAct_N x0 x1 γ fail k = k (w_eqAct x0 x1) := by
  unfold w_eqAct_N w_eqAct
  exact bifT (f := k) (fun b0 => rfl)
      (fun b0 => letT (f := k) (fun c1 hc1 => bifT (f := k) (fun b1 => rfl)
      (fun b1 => bifT (f := k) (fun b2 => rfl)
      (fun b2 => bifT (f := k) (fun b3 => rfl)
      (fun b3 => letT (f := k) (fun c2 hc2 => bifT (f := k) (fun b4 => rfl)
      (fun b4 => rfl)))))))
theorem w_eqAct_c (x0 : Acti) (x1 : Acti)  : Con Tryd.prog 15 (pvs [.st .acti, .st .acti] (x0, x1, ())) [rv (.sc .bool) [] (w_eqAct x0 x1)] := by
  exact evalFn_con0 teFact mixFact (orcOf_ok _) Tryd.func15 (by kernel_rfl) ((w_eqAct_lk x0 x1).trans (w_eqAct_p x0 x1  _ _ _))
noncomputable def w_eqAct_e : Ent1 Tryd.prog := entA 15 [.st .acti, .st .acti] (fun x => (w_eqAct x.1 x.2.1)) (fun v => [rv (.sc .bool) [] v]) (fun x => w_eqAct_c x.1 x.2.1)


/-- spec.ReadTuple -/
def s_ReadTuple_N (x0 : Bytes) (γ : Type) (fail : γ) (k : Tupl × Bool → γ) : γ :=
  bif (decide (x0.length ≤ 4294967296)) then
  letK (α := List Bytes) (s_Parts x0 58) fun c1 =>
  bif ((c1.length : Int) != 3) then
    k ((⟨0, 0, 0⟩ : Tupl), false)
  else
  bif (decide (0 < (c1.length : Int))) then
  bif (decide ((c1.getD 0 []).length ≤ 4294967296)) then
  letK (α := Int × Bool) (s_Address (c1.getD 0 [])) fun c2 =>
  bif (decide (1 < (c1.length : Int))) then
  letK (α := Int × Bool) (s_Number (c1.getD 1 [])) fun c3 =>
  bif (decide (2 < (c1.length : Int))) then
  letK (α := Int × Bool) (s_Number (c1.getD 2 [])) fun c4 =>
  letK (α := Bytes) (s_TupleText (⟨c2.1, c3.1, c4.1⟩ : Tupl)) fun c5 =>
  bif (!(c5 == x0)) then
    k ((⟨0, 0, 0⟩ : Tupl), false)
  else
  k ((⟨c2.1, c3.1, c4.1⟩ : Tupl), true)
  else fail
  else fail
  else fail
  else fail
  else fail
def s_ReadTuple (x0 : Bytes) : Tupl × Bool :=
  letK (α := List Bytes) (s_Parts x0 58) fun c1 =>
  bif ((c1.length : Int) != 3) then
    ((⟨0, 0, 0⟩ : Tupl), false)
  else
  letK (α := Int × Bool) (s_Address (c1.getD 0 [])) fun c2 =>
  letK (α := Int × Bool) (s_Number (c1.getD 1 [])) fun c3 =>
  letK (α := Int × Bool) (s_Number (c1.getD 2 [])) fun c4 =>
  letK (α := Bytes) (s_TupleText (⟨c2.1, c3.1, c4.1⟩ : Tupl)) fun c5 =>
  bif (!(c5 == x0)) then
    ((⟨0, 0, 0⟩ : Tupl), false)
  else
  ((⟨c2.1, c3.1, c4.1⟩ : Tupl), true)
theorem s_ReadTuple_lk (x0 : Bytes) : evalFn te (orcOf (P := Tryd.prog) [s_Parts_e, s_Address_e, s_Number_e, s_TupleText_e]) lorc0 [] Tryd.f50 (pvs [.sc .str] (x0, ())) =
  s_ReadTuple_N x0 _ none (fun v => some [(true, [RC.c (.int .i64 v.1.ip), RC.c (.int .i64 v.1.port), RC.c (.int .i64 v.1.my)]), (false, [RC.c (.bool v.2)])]) := by kernel_rfl
theorem s_ReadTuple_p (x0 : Bytes) (hx0 : List.length x0 ≤ 4611686018427387904) (hp : x0.length ≤ 4294967296) (γ : Type) (fail : γ) (k : Tupl × Bool → γ) : s_ReadTuple_N x0 γ fail k = k (s_ReadTuple x0) := by
  unfold s_ReadTuple_N s_ReadTuple
  refine bifG ?_ (letT (f := k) (fun c1 hc1 => bifT (f := k) (fun b0 => rfl)
      (fun b0 => bifG ?_ (bifG ?_ (letT (f := k) (fun c2 hc2 => bifG ?_ (letT (f := k) (fun c3 hc3 => bifG ?_ (letT (f := k) (fun c4 hc4 => letT (f := k) (fun c5 hc5 => bifT (f := k) (fun b1 => rfl)
      (fun b1 => rfl))))))))))))
  all_goals ((try simp only [Nat.ble_eq, Bool.and_eq_true, decide_eq_true_eq]); grind [maxSl, maxStr, toBytes_length, toInts_length, List.length_set, wrap64, s_Parts_len, s_Parts_el, s_Parts_el3, s_TupleText_len])
theorem s_ReadTuple_c (x0 : Bytes) (hp : x0.length ≤ 4294967296) : Con Tryd.prog 50 (pvs [.sc .str] (x0, ())) [rv (.st .tupl) [] (s_ReadTuple x0).1, rv (.sc .bool) [] (s_ReadTuple x0).2] := by
  refine Con.of_facts (enters_of Tryd.func50 rfl (by kernel_rfl)) fun hf => ?_
  replace hf := factAt hf
  exact evalFn_con0 teFact mixFact (orcOf_ok _) Tryd.func50 (by kernel_rfl) ((s_ReadTuple_lk x0).trans (s_ReadTuple_p x0 ((hf 0 0 rfl rfl).slen) hp _ _ _))
noncomputable def s_ReadTuple_e : Ent1 Tryd.prog := entP 50 [.sc .str] (fun x => (decide (x.1.length ≤ 4294967296))) (fun x => (s_ReadTuple x.1)) (fun v => [rv (.st .tupl) [] v.1, rv (.sc .bool) [] v.2]) (fun x hx => s_ReadTuple_c x.1 (of_decide_eq_true hx))


/-- spec.ReadAct -/
def s_ReadAct_ann : List (Nat × Keep) := [(0, ⟨[0, 2, 4, 5, 6], [], false, 0⟩)]
def s_ReadAct_L0_sh : Sh := ⟨[(0, false, [.str]), (2, false, [.ptr 0 0]), (4, false, [.own 1]), (5, false, [.ptr 2 0]), (6, false, [.int .i64])], [.box [.int .i64, .int .i64, .int .i64, .int .i64, .int .i64, .str, .bool, .int .u64, .int .u64, .nil], .arr .str false true, .box [.int .i64, .int .i64, .int .i64, .int .i64, .int .i64, .str, .bool, .int .u64, .int .u64, .nil]]⟩
def s_ReadAct_L0_es : List (Ex × Sh) := [(.exit 0, ⟨[(0, false, [.str]), (2, false, [.ptr 0 0]), (3, false, [.undef]), (4, false, [.own 1]), (5, false, [.ptr 2 0])], [.box [.int .i64, .int .i64, .int .i64, .int .i64, .int .i64, .str, .bool, .int .u64, .int .u64, .nil], .arr .str false true, .box [.int .i64, .int .i64, .int .i64, .int .i64, .int .i64, .str, .bool, .int .u64, .int .u64, .nil]]⟩)]
def s_ReadAct_L0_mk (v0 : Bytes) (v1 : Int) (v2 : Int) (v3 : Int) (v4 : Int) (v5 : Int) (v6 : Int) (v7 : Bytes) (v8 : Bool) (v9 : Int) (v10 : Int) (v11 : List Bytes) (v12 : Int) (v13 : Int) (v14 : Int) (v15 : Int) (v16 : Int) (v17 : Bytes) (v18 : Bool) (v19 : Int) (v20 : Int) : s_ReadAct_L0_sh.T := (((v0, ()), (((), ()), (((), ()), (((), ()), ((v1, ()), ()))))), ((v2, (v3, (v4, (v5, (v6, (v7, (v8, (v9, (v10, ((), ())))))))))), (v11, ((v12, (v13, (v14, (v15, (v16, (v17, (v18, (v19, (v20, ((), ())))))))))), ()))))
def s_ReadAct_L0_mx0 (y0 : Bytes) (y1 : Int) (y2 : Int) (y3 : Int) (y4 : Int) (y5 : Int) (y6 : Bytes) (y7 : Bool) (y8 : Int) (y9 : Int) (y10 : List Bytes) (y11 : Int) (y12 : Int) (y13 : Int) (y14 : Int) (y15 : Int) (y16 : Bytes) (y17 : Bool) (y18 : Int) (y19 : Int) : Sh.T ⟨[(0, false, [.str]), (2, false, [.ptr 0 0]), (3, false, [.undef]), (4, false, [.own 1]), (5, false, [.ptr 2 0])], [.box [.int .i64, .int .i64, .int .i64, .int .i64, .int .i64, .str, .bool, .int .u64, .int .u64, .nil], .arr .str false true, .box [.int .i64, .int .i64, .int .i64, .int .i64, .int .i64, .str, .bool, .int .u64, .int .u64, .nil]]⟩ := (((y0, ()), (((), ()), (((), ()), (((), ()), (((), ()), ()))))), ((y1, (y2, (y3, (y4, (y5, (y6, (y7, (y8, (y9, ((), ())))))))))), (y10, ((y11, (y12, (y13, (y14, (y15, (y16, (y17, (y18, (y19, ((), ())))))))))), ()))))
def s_ReadAct_L0_B (v0 : Bytes) (v1 : Int) (v2 : Int) (v3 : Int) (v4 : Int) (v5 : Int) (v6 : Int) (v7 : Bytes) (v8 : Bool) (v9 : Int) (v10 : Int) (v11 : List Bytes) (v12 : Int) (v13 : Int) (v14 : Int) (v15 : Int) (v16 : Int) (v17 : Bytes) (v18 : Bool) (v19 : Int) (v20 : Int) (γ : Type) (fail : γ) (next : s_ReadAct_L0_sh.T → γ) (out : WT s_ReadAct_L0_es → γ) : γ :=
  bif (decide (v1 ≤ 8)) then
    letK (α := Bytes) (s_ActWord v1) fun c2 =>
    bif (decide (0 < (v11.length : Int))) then
    bif (c2 == (v11.getD 0 [])) then
      next (s_ReadAct_L0_mk v0 (IntKind.wrap .i64 (v1 + 1)) v2 v3 v4 v5 v6 v7 v8 v9 v10 v11 v1 v13 v14 v15 v16 v17 v18 v19 v20)
    else
    next (s_ReadAct_L0_mk v0 (IntKind.wrap .i64 (v1 + 1)) v2 v3 v4 v5 v6 v7 v8 v9 v10 v11 v12 v13 v14 v15 v16 v17 v18 v19 v20)
    else fail
  else
  out (s_ReadAct_L0_mx0 v0 v2 v3 v4 v5 v6 v7 v8 v9 v10 v11 v12 v13 v14 v15 v16 v17 v18 v19 v20)
theorem s_ReadAct_L0_par (v0 : Bytes) (v1 : Int) (v2 : Int) (v3 : Int) (v4 : Int) (v5 : Int) (v6 : Int) (v7 : Bytes) (v8 : Bool) (v9 : Int) (v10 : Int) (v11 : List Bytes) (v12 : Int) (v13 : Int) (v14 : Int) (v15 : Int) (v16 : Int) (v17 : Bytes) (v18 : Bool) (v19 : Int) (v20 : Int) (γ : Type) (fail : γ) (next : s_ReadAct_L0_sh.T → γ) (out : WT s_ReadAct_L0_es → γ) : s_ReadAct_L0_B v0 v1 v2 v3 v4 v5 v6 v7 v8 v9 v10 v11 v12 v13 v14 v15 v16 v17 v18 v19 v20 γ fail next out = optK (s_ReadAct_L0_B v0 v1 v2 v3 v4 v5 v6 v7 v8 v9 v10 v11 v12 v13 v14 v15 v16 v17 v18 v19 v20 _ none (fun v' => some (.inl v')) (fun w => some (.inr w))) fail (fun r => Sum.elim next out r) := by
  unfold s_ReadAct_L0_B
  repeat' (first | refine letT (f := (fun o => optK o fail (fun r => Sum.elim next out r))) (fun _ _ => ?_) | refine bifT (f := (fun o => optK o fail (fun r => Sum.elim next out r))) (fun _ => ?_) (fun _ => ?_) | rfl)
def s_ReadAct_L0_r : Round s_ReadAct_L0_sh.T (WT s_ReadAct_L0_es) where
  B v γ fail next out := s_ReadAct_L0_B v.1.1.1 v.1.2.2.2.2.1.1 v.2.1.1 v.2.1.2.1 v.2.1.2.2.1 v.2.1.2.2.2.1 v.2.1.2.2.2.2.1 v.2.1.2.2.2.2.2.1 v.2.1.2.2.2.2.2.2.1 v.2.1.2.2.2.2.2.2.2.1 v.2.1.2.2.2.2.2.2.2.2.1 v.2.2.1 v.2.2.2.1.1 v.2.2.2.1.2.1 v.2.2.2.1.2.2.1 v.2.2.2.1.2.2.2.1 v.2.2.2.1.2.2.2.2.1 v.2.2.2.1.2.2.2.2.2.1 v.2.2.2.1.2.2.2.2.2.2.1 v.2.2.2.1.2.2.2.2.2.2.2.1 v.2.2.2.1.2.2.2.2.2.2.2.2.1 γ fail next out
  par v γ fail next out := s_ReadAct_L0_par v.1.1.1 v.1.2.2.2.2.1.1 v.2.1.1 v.2.1.2.1 v.2.1.2.2.1 v.2.1.2.2.2.1 v.2.1.2.2.2.2.1 v.2.1.2.2.2.2.2.1 v.2.1.2.2.2.2.2.2.1 v.2.1.2.2.2.2.2.2.2.1 v.2.1.2.2.2.2.2.2.2.2.1 v.2.2.1 v.2.2.2.1.1 v.2.2.2.1.2.1 v.2.2.2.1.2.2.1 v.2.2.2.1.2.2.2.1 v.2.2.2.1.2.2.2.2.1 v.2.2.2.1.2.2.2.2.2.1 v.2.2.2.1.2.2.2.2.2.2.1 v.2.2.2.1.2.2.2.2.2.2.2.1 v.2.2.2.1.2.2.2.2.2.2.2.2.1 γ fail next out
def s_ReadAct_L0_fu (v0 : Bytes) (v1 : Int) (v2 : Int) (v3 : Int) (v4 : Int) (v5 : Int) (v6 : Int) (v7 : Bytes) (v8 : Bool) (v9 : Int) (v10 : Int) (v11 : List Bytes) (v12 : Int) (v13 : Int) (v14 : Int) (v15 : Int) (v16 : Int) (v17 : Bytes) (v18 : Bool) (v19 : Int) (v20 : Int) : Nat := (Int.toNat (8 - v1 + 1)) + 1
theorem s_ReadAct_L0_lk (v : s_ReadAct_L0_sh.T) (next : St → Option Res) (k : Ex → St → Option Res) : evalK te (orcOf (P := Tryd.prog) [s_Parts_e, s_ActWord_e, s_l33KeyOf_e, s_KeyMac_e, s_ReadTuple_e, s_Number_e, s_Unhex_e, s_ActLine_e]) (lorcOf []) Tryd.f16.ntmps s_ReadAct_ann (nthLoop (bodyOf Tryd.f16) 0 0) 0 (s_ReadAct_L0_sh.enc v) (endK ⟨[0, 2, 4, 5, 6], [], false, 0⟩ ⟨[0, 2, 3, 4, 5], [], false, 0⟩ next k) =
  s_ReadAct_L0_r.B v _ none (fun v' => next (s_ReadAct_L0_sh.enc v')) (fun w => outK s_ReadAct_L0_es k w) := by kernel_rfl
def s_ReadAct_L0_le : LE := leOf 0 s_ReadAct_L0_sh s_ReadAct_L0_es s_ReadAct_L0_r.step (fun v => s_ReadAct_L0_fu v.1.1.1 v.1.2.2.2.2.1.1 v.2.1.1 v.2.1.2.1 v.2.1.2.2.1 v.2.1.2.2.2.1 v.2.1.2.2.2.2.1 v.2.1.2.2.2.2.2.1 v.2.1.2.2.2.2.2.2.1 v.2.1.2.2.2.2.2.2.2.1 v.2.1.2.2.2.2.2.2.2.2.1 v.2.2.1 v.2.2.2.1.1 v.2.2.2.1.2.1 v.2.2.2.1.2.2.1 v.2.2.2.1.2.2.2.1 v.2.2.2.1.2.2.2.2.1 v.2.2.2.1.2.2.2.2.2.1 v.2.2.2.1.2.2.2.2.2.2.1 v.2.2.2.1.2.2.2.2.2.2.2.1 v.2.2.2.1.2.2.2.2.2.2.2.2.1)
theorem s_ReadAct_L0_ls (w0 : World) (mo : Mts) (I0 : Nat → Prop) (hmo : mo.length = 0) : LSem Tryd.prog (Sim w0 mo Tryd.f16.ntmps I0) (fun b s k => match Nat.beq 0 b with | true => s_ReadAct_L0_le.run s k | false => none) 0 (nthLoop (bodyOf Tryd.f16) 0 0) :=
  le_sem hmo (lorc := lorcOf []) (ann := s_ReadAct_ann) (keep := ⟨[0, 2, 4, 5, 6], [], false, 0⟩) (kout := ⟨[0, 2, 3, 4, 5], [], false, 0⟩) teFact mixFact (orcOf_ok _) (by kernel_rfl) (allLoops_of (bs := []) (by kernel_rfl) trivial) s_ReadAct_L0_r _ s_ReadAct_L0_lk
def s_ReadAct_L0_f (v0 : Bytes) (v2 : Int) (v3 : Int) (v4 : Int) (v5 : Int) (v6 : Int) (v7 : Bytes) (v8 : Bool) (v9 : Int) (v10 : Int) (v11 : List Bytes) (v13 : Int) (v14 : Int) (v15 : Int) (v16 : Int) (v17 : Bytes) (v18 : Bool) (v19 : Int) (v20 : Int) (v1 : Int) (a : Int) : Stp (Int) (Empty) :=
  letK (α := Bytes) (s_ActWord v1) fun c2 =>
  bif (c2 == (v11.getD 0 [])) then
    .next v1
  else
  .next a
theorem s_ReadAct_L0_st (v0 : Bytes) (v1 : Int) (v2 : Int) (v3 : Int) (v4 : Int) (v5 : Int) (v6 : Int) (v7 : Bytes) (v8 : Bool) (v9 : Int) (v10 : Int) (v11 : List Bytes) (v12 : Int) (v13 : Int) (v14 : Int) (v15 : Int) (v16 : Int) (v17 : Bytes) (v18 : Bool) (v19 : Int) (v20 : Int) (hlo : 0 ≤ v1) (hhi : v1 ≤ 8) (hN : 8 ≤ 4611686018427387904) (hi0 : 0 < (v11.length : Int)) : s_ReadAct_L0_r.step (s_ReadAct_L0_mk v0 v1 v2 v3 v4 v5 v6 v7 v8 v9 v10 v11 v12 v13 v14 v15 v16 v17 v18 v19 v20) = Stp.elim (fun a' : Int => some (Sum.inl (s_ReadAct_L0_mk v0 (v1 + 1) v2 v3 v4 v5 v6 v7 v8 v9 v10 v11 a' v13 v14 v15 v16 v17 v18 v19 v20))) (fun w => some (Sum.inr ((fun p : Empty => nomatch p) w))) (s_ReadAct_L0_f v0 v2 v3 v4 v5 v6 v7 v8 v9 v10 v11 v13 v14 v15 v16 v17 v18 v19 v20 v1 v12) := by
  have hw : (IntKind.wrap .i64 (v1 + 1)) = v1 + 1 := wrap64 (by omega) (by omega)
  show s_ReadAct_L0_B v0 v1 v2 v3 v4 v5 v6 v7 v8 v9 v10 v11 v12 v13 v14 v15 v16 v17 v18 v19 v20 (Option (s_ReadAct_L0_sh.T ⊕ WT s_ReadAct_L0_es)) none (fun v' => some (Sum.inl v')) (fun w => some (Sum.inr w)) = _
  unfold s_ReadAct_L0_B s_ReadAct_L0_f
  exact bifG (by simp only [decide_eq_true_eq]; omega) (letT (f := (Stp.elim (fun a' : Int => some (Sum.inl (s_ReadAct_L0_mk v0 (v1 + 1) v2 v3 v4 v5 v6 v7 v8 v9 v10 v11 a' v13 v14 v15 v16 v17 v18 v19 v20))) (fun w => some (Sum.inr ((fun p : Empty => nomatch p) w))))) (fun c2 hc2 => bifG (by (try simp only [Nat.ble_eq, Bool.and_eq_true, decide_eq_true_eq]); grind [maxSl, maxStr, toBytes_length, toInts_length, List.length_set, wrap64, s_Parts_len, s_Parts_el, s_Parts_el3, s_ActWord_len, s_KeyMac_len, s_Unhex_len]) (bifT (f := (Stp.elim (fun a' : Int => some (Sum.inl (s_ReadAct_L0_mk v0 (v1 + 1) v2 v3 v4 v5 v6 v7 v8 v9 v10 v11 a' v13 v14 v15 v16 v17 v18 v19 v20))) (fun w => some (Sum.inr ((fun p : Empty => nomatch p) w))))) (fun b0 => (by exact congrArg (fun z => some (Sum.inl (s_ReadAct_L0_mk v0 z v2 v3 v4 v5 v6 v7 v8 v9 v10 v11 v1 v13 v14 v15 v16 v17 v18 v19 v20))) hw))
      (fun b0 => (by exact congrArg (fun z => some (Sum.inl (s_ReadAct_L0_mk v0 z v2 v3 v4 v5 v6 v7 v8 v9 v10 v11 v12 v13 v14 v15 v16 v17 v18 v19 v20))) hw)))))
theorem s_ReadAct_L0_cl (v0 : Bytes) (v1 : Int) (v2 : Int) (v3 : Int) (v4 : Int) (v5 : Int) (v6 : Int) (v7 : Bytes) (v8 : Bool) (v9 : Int) (v10 : Int) (v11 : List Bytes) (v12 : Int) (v13 : Int) (v14 : Int) (v15 : Int) (v16 : Int) (v17 : Bytes) (v18 : Bool) (v19 : Int) (v20 : Int) (h0 : 0 ≤ v1) (h1 : 8 ≤ 4611686018427387904) (h2 : 0 < (v11.length : Int)) : loopF s_ReadAct_L0_r.step (s_ReadAct_L0_fu v0 v1 v2 v3 v4 v5 v6 v7 v8 v9 v10 v11 v12 v13 v14 v15 v16 v17 v18 v19 v20) (s_ReadAct_L0_mk v0 v1 v2 v3 v4 v5 v6 v7 v8 v9 v10 v11 v12 v13 v14 v15 v16 v17 v18 v19 v20) = some (Stp.elim (fun a => (fun i a => s_ReadAct_L0_mx0 v0 v2 v3 v4 v5 v6 v7 v8 v9 v10 v11 a v13 v14 v15 v16 v17 v18 v19 v20) (v1 + 1 * (((Int.toNat (8 - v1 + 1)) : Nat) : Int)) a) (fun p : Empty => nomatch p) (forN (s_ReadAct_L0_f v0 v2 v3 v4 v5 v6 v7 v8 v9 v10 v11 v13 v14 v15 v16 v17 v18 v19 v20) 1 (Int.toNat (8 - v1 + 1)) v1 v12)) :=
  forN_loop (step := s_ReadAct_L0_r.step) (mk := fun v1 a => s_ReadAct_L0_mk v0 v1 v2 v3 v4 v5 v6 v7 v8 v9 v10 v11 a v13 v14 v15 v16 v17 v18 v19 v20) (f := s_ReadAct_L0_f v0 v2 v3 v4 v5 v6 v7 v8 v9 v10 v11 v13 v14 v15 v16 v17 v18 v19 v20) (e := (fun i a => s_ReadAct_L0_mx0 v0 v2 v3 v4 v5 v6 v7 v8 v9 v10 v11 a v13 v14 v15 v16 v17 v18 v19 v20)) (emb := (fun p : Empty => nomatch p)) (st := 1) (Inv := fun v1 a => True) (Int.toNat (8 - v1 + 1)) v1 v12 _ (Nat.lt_succ_self _) trivial
    (fun j a hj hv => ⟨s_ReadAct_L0_st v0 (v1 + 1 * (j : Int)) v2 v3 v4 v5 v6 v7 v8 v9 v10 v11 a v13 v14 v15 v16 v17 v18 v19 v20 (by omega) (by omega) (by omega) h2, fun _ _ => trivial⟩)
    (fun a hv => by
      show s_ReadAct_L0_B v0 (v1 + 1 * (((Int.toNat (8 - v1 + 1)) : Nat) : Int)) v2 v3 v4 v5 v6 v7 v8 v9 v10 v11 a v13 v14 v15 v16 v17 v18 v19 v20 (Option (s_ReadAct_L0_sh.T ⊕ WT s_ReadAct_L0_es)) none (fun v' => some (Sum.inl v')) (fun w => some (Sum.inr w)) = _
      unfold s_ReadAct_L0_B
      exact bifN (by simp only [decide_eq_false_iff_not]; omega) rfl)
def s_ReadAct_N (x0 : Bytes) (γ : Type) (fail : γ) (k : Acti × Bool → γ) : γ :=
  bif (x0 == []) then
    k ((⟨0, ⟨0, 0, 0⟩, 0, [], ⟨false, 0, 0, []⟩⟩ : Acti), false)
  else
  bif (decide (3260 < (x0.length : Int))) then
    k ((⟨0, ⟨0, 0, 0⟩, 0, [], ⟨false, 0, 0, []⟩⟩ : Acti), false)
  else
  bif (decide (x0.length ≤ 4294967296)) then
  letK (α := List Bytes) (s_Parts x0 32) fun c1 =>
  bif (Nat.ble ((2 * (c1.length + 3) + 1024) * 16) maxSl) then
  optK (loopF s_ReadAct_L0_r.step (s_ReadAct_L0_fu x0 1 0 0 0 0 0 [] false 0 0 (c1 ++ [[], [], []]) 0 0 0 0 0 [] false 0 0) (s_ReadAct_L0_mk x0 1 0 0 0 0 0 [] false 0 0 (c1 ++ [[], [], []]) 0 0 0 0 0 [] false 0 0)) fail fun w3 =>
    bif (w3.2.2.2.1.1 == 3) then
      bif (decide (1 < (w3.2.2.1.length : Int))) then
      bif (decide ((w3.2.2.1.getD 1 []).length ≤ 4294967296)) then
      letK (α := Int) (s_l33KeyOf (w3.2.2.1.getD 1 [])) fun c4 =>
      bif (decide (2 < (w3.2.2.1.length : Int))) then
      bif (decide ((w3.2.2.1.getD 2 []).length ≤ 4294967296)) then
      letK (α := Int) (s_l33KeyOf (w3.2.2.1.getD 2 [])) fun c5 =>
      letK (α := Mac) (s_KeyMac c4 c5) fun c6 =>
      bif (decide (5 ≤ w3.2.2.2.1.1)) then
        bif (decide (1 < (w3.2.2.1.length : Int))) then
        bif (decide ((w3.2.2.1.getD 1 []).length ≤ 4294967296)) then
        letK (α := Tupl × Bool) (s_ReadTuple (w3.2.2.1.getD 1 [])) fun c7 =>
        bif (w3.2.2.2.1.1 == 6) then
          bif (decide (2 < (w3.2.2.1.length : Int))) then
          letK (α := Int × Bool) (s_Number (w3.2.2.1.getD 2 [])) fun c8 =>
          bif (decide ((⟨w3.2.2.2.1.1, c7.1, c8.1, w3.2.2.2.1.2.2.2.2.2.1, c6⟩ : Acti).text.length ≤ 4294967296 ∧ (⟨w3.2.2.2.1.1, c7.1, c8.1, w3.2.2.2.1.2.2.2.2.2.1, c6⟩ : Acti).mac.rows.length ≤ 4294967296)) then
          letK (α := Bytes) (s_ActLine (⟨w3.2.2.2.1.1, c7.1, c8.1, w3.2.2.2.1.2.2.2.2.2.1, c6⟩ : Acti)) fun c9 =>
          bif (!(c9 == w3.1.1.1)) then
            k ((⟨0, ⟨0, 0, 0⟩, 0, [], ⟨false, 0, 0, []⟩⟩ : Acti), false)
          else
          k ((⟨w3.2.2.2.1.1, c7.1, c8.1, w3.2.2.2.1.2.2.2.2.2.1, c6⟩ : Acti), true)
          else fail
          else fail
        else
        bif (w3.2.2.2.1.1 == 5) then
          bif (decide (2 < (w3.2.2.1.length : Int))) then
          bif (decide ((w3.2.2.1.getD 2 []).length ≤ 4294967296)) then
          letK (α := Bytes × Bool) (s_Unhex (w3.2.2.1.getD 2 [])) fun c10 =>
          bif (decide ((⟨w3.2.2.2.1.1, c7.1, w3.2.2.2.1.2.2.2.2.1, c10.1, c6⟩ : Acti).text.length ≤ 4294967296 ∧ (⟨w3.2.2.2.1.1, c7.1, w3.2.2.2.1.2.2.2.2.1, c10.1, c6⟩ : Acti).mac.rows.length ≤ 4294967296)) then
          letK (α := Bytes) (s_ActLine (⟨w3.2.2.2.1.1, c7.1, w3.2.2.2.1.2.2.2.2.1, c10.1, c6⟩ : Acti)) fun c11 =>
          bif (!(c11 == w3.1.1.1)) then
            k ((⟨0, ⟨0, 0, 0⟩, 0, [], ⟨false, 0, 0, []⟩⟩ : Acti), false)
          else
          k ((⟨w3.2.2.2.1.1, c7.1, w3.2.2.2.1.2.2.2.2.1, c10.1, c6⟩ : Acti), true)
          else fail
          else fail
          else fail
        else
        bif (w3.2.2.2.1.1 == 1) then
          bif (decide (1 < (w3.2.2.1.length : Int))) then
          bif (decide ((w3.2.2.1.getD 1 []).length ≤ 4294967296)) then
          letK (α := Bytes × Bool) (s_Unhex (w3.2.2.1.getD 1 [])) fun c12 =>
          bif (decide ((⟨w3.2.2.2.1.1, c7.1, w3.2.2.2.1.2.2.2.2.1, c12.1, c6⟩ : Acti).text.length ≤ 4294967296 ∧ (⟨w3.2.2.2.1.1, c7.1, w3.2.2.2.1.2.2.2.2.1, c12.1, c6⟩ : Acti).mac.rows.length ≤ 4294967296)) then
          letK (α := Bytes) (s_ActLine (⟨w3.2.2.2.1.1, c7.1, w3.2.2.2.1.2.2.2.2.1, c12.1, c6⟩ : Acti)) fun c13 =>
          bif (!(c13 == w3.1.1.1)) then
            k ((⟨0, ⟨0, 0, 0⟩, 0, [], ⟨false, 0, 0, []⟩⟩ : Acti), false)
          else
          k ((⟨w3.2.2.2.1.1, c7.1, w3.2.2.2.1.2.2.2.2.1, c12.1, c6⟩ : Acti), true)
          else fail
          else fail
          else fail
        else
        bif (decide ((⟨w3.2.2.2.1.1, c7.1, w3.2.2.2.1.2.2.2.2.1, w3.2.2.2.1.2.2.2.2.2.1, c6⟩ : Acti).text.length ≤ 4294967296 ∧ (⟨w3.2.2.2.1.1, c7.1, w3.2.2.2.1.2.2.2.2.1, w3.2.2.2.1.2.2.2.2.2.1, c6⟩ : Acti).mac.rows.length ≤ 4294967296)) then
        letK (α := Bytes) (s_ActLine (⟨w3.2.2.2.1.1, c7.1, w3.2.2.2.1.2.2.2.2.1, w3.2.2.2.1.2.2.2.2.2.1, c6⟩ : Acti)) fun c14 =>
        bif (!(c14 == w3.1.1.1)) then
          k ((⟨0, ⟨0, 0, 0⟩, 0, [], ⟨false, 0, 0, []⟩⟩ : Acti), false)
        else
        k ((⟨w3.2.2.2.1.1, c7.1, w3.2.2.2.1.2.2.2.2.1, w3.2.2.2.1.2.2.2.2.2.1, c6⟩ : Acti), true)
        else fail
        else fail
        else fail
      else
      bif (w3.2.2.2.1.1 == 6) then
        bif (decide (2 < (w3.2.2.1.length : Int))) then
        letK (α := Int × Bool) (s_Number (w3.2.2.1.getD 2 [])) fun c15 =>
        bif (decide ((⟨w3.2.2.2.1.1, ⟨w3.2.2.2.1.2.1, w3.2.2.2.1.2.2.1, w3.2.2.2.1.2.2.2.1⟩, c15.1, w3.2.2.2.1.2.2.2.2.2.1, c6⟩ : Acti).text.length ≤ 4294967296 ∧ (⟨w3.2.2.2.1.1, ⟨w3.2.2.2.1.2.1, w3.2.2.2.1.2.2.1, w3.2.2.2.1.2.2.2.1⟩, c15.1, w3.2.2.2.1.2.2.2.2.2.1, c6⟩ : Acti).mac.rows.length ≤ 4294967296)) then
        letK (α := Bytes) (s_ActLine (⟨w3.2.2.2.1.1, ⟨w3.2.2.2.1.2.1, w3.2.2.2.1.2.2.1, w3.2.2.2.1.2.2.2.1⟩, c15.1, w3.2.2.2.1.2.2.2.2.2.1, c6⟩ : Acti)) fun c16 =>
        bif (!(c16 == w3.1.1.1)) then
          k ((⟨0, ⟨0, 0, 0⟩, 0, [], ⟨false, 0, 0, []⟩⟩ : Acti), false)
        else
        k ((⟨w3.2.2.2.1.1, ⟨w3.2.2.2.1.2.1, w3.2.2.2.1.2.2.1, w3.2.2.2.1.2.2.2.1⟩, c15.1, w3.2.2.2.1.2.2.2.2.2.1, c6⟩ : Acti), true)
        else fail
        else fail
      else
      bif (w3.2.2.2.1.1 == 5) then
        bif (decide (2 < (w3.2.2.1.length : Int))) then
        bif (decide ((w3.2.2.1.getD 2 []).length ≤ 4294967296)) then
        letK (α := Bytes × Bool) (s_Unhex (w3.2.2.1.getD 2 [])) fun c17 =>
        bif (decide ((⟨w3.2.2.2.1.1, ⟨w3.2.2.2.1.2.1, w3.2.2.2.1.2.2.1, w3.2.2.2.1.2.2.2.1⟩, w3.2.2.2.1.2.2.2.2.1, c17.1, c6⟩ : Acti).text.length ≤ 4294967296 ∧ (⟨w3.2.2.2.1.1, ⟨w3.2.2.2.1.2.1, w3.2.2.2.1.2.2.1, w3.2.2.2.1.2.2.2.1⟩, w3.2.2.2.1.2.2.2.2.1, c17.1, c6⟩ : Acti).mac.rows.length ≤ 4294967296)) then
        letK (α := Bytes) (s_ActLine (⟨w3.2.2.2.1.1, ⟨w3.2.2.2.1.2.1, w3.2.2.2.1.2.2.1, w3.2.2.2.1.2.2.2.1⟩, w3.2.2.2.1.2.2.2.2.1, c17.1, c6⟩ : Acti)) fun c18 =>
        bif (!(c18 == w3.1.1.1)) then
          k ((⟨0, ⟨0, 0, 0⟩, 0, [], ⟨false, 0, 0, []⟩⟩ : Acti), false)
        else
        k ((⟨w3.2.2.2.1.1, ⟨w3.2.2.2.1.2.1, w3.2.2.2.1.2.2.1, w3.2.2.2.1.2.2.2.1⟩, w3.2.2.2.1.2.2.2.2.1, c17.1, c6⟩ : Acti), true)
        else fail
        else fail
        else fail
      else
      bif (w3.2.2.2.1.1 == 1) then
        bif (decide (1 < (w3.2.2.1.length : Int))) then
        bif (decide ((w3.2.2.1.getD 1 []).length ≤ 4294967296)) then
        letK (α := Bytes × Bool) (s_Unhex (w3.2.2.1.getD 1 [])) fun c19 =>
        bif (decide ((⟨w3.2.2.2.1.1, ⟨w3.2.2.2.1.2.1, w3.2.2.2.1.2.2.1, w3.2.2.2.1.2.2.2.1⟩, w3.2.2.2.1.2.2.2.2.1, c19.1, c6⟩ : Acti).text.length ≤ 4294967296 ∧ (⟨w3.2.2.2.1.1, ⟨w3.2.2.2.1.2.1, w3.2.2.2.1.2.2.1, w3.2.2.2.1.2.2.2.1⟩, w3.2.2.2.1.2.2.2.2.1, c19.1, c6⟩ : Acti).mac.rows.length ≤ 4294967296)) then
        letK (α := Bytes) (s_ActLine (⟨w3.2.2.2.1.1, ⟨w3.2.2.2.1.2.1, w3.2.2.2.1.2.2.1, w3.2.2.2.1.2.2.2.1⟩, w3.2.2.2.1.2.2.2.2.1, c19.1, c6⟩ : Acti)) fun c20 =>
        bif (!(c20 == w3.1.1.1)) then
          k ((⟨0, ⟨0, 0, 0⟩, 0, [], ⟨false, 0, 0, []⟩⟩ : Acti), false)
        else
        k ((⟨w3.2.2.2.1.1, ⟨w3.2.2.2.1.2.1, w3.2.2.2.1.2.2.1, w3.2.2.2.1.2.2.2.1⟩, w3.2.2.2.1.2.2.2.2.1, c19.1, c6⟩ : Acti), true)
        else fail
        else fail
        else fail
      else
      bif (decide ((⟨w3.2.2.2.1.1, ⟨w3.2.2.2.1.2.1, w3.2.2.2.1.2.2.1, w3.2.2.2.1.2.2.2.1⟩, w3.2.2.2.1.2.2.2.2.1, w3.2.2.2.1.2.2.2.2.2.1, c6⟩ : Acti).text.length ≤ 4294967296 ∧ (⟨w3.2.2.2.1.1, ⟨w3.2.2.2.1.2.1, w3.2.2.2.1.2.2.1, w3.2.2.2.1.2.2.2.1⟩, w3.2.2.2.1.2.2.2.2.1, w3.2.2.2.1.2.2.2.2.2.1, c6⟩ : Acti).mac.rows.length ≤ 4294967296)) then
      letK (α := Bytes) (s_ActLine (⟨w3.2.2.2.1.1, ⟨w3.2.2.2.1.2.1, w3.2.2.2.1.2.2.1, w3.2.2.2.1.2.2.2.1⟩, w3.2.2.2.1.2.2.2.2.1, w3.2.2.2.1.2.2.2.2.2.1, c6⟩ : Acti)) fun c21 =>
      bif (!(c21 == w3.1.1.1)) then
        k ((⟨0, ⟨0, 0, 0⟩, 0, [], ⟨false, 0, 0, []⟩⟩ : Acti), false)
      else
      k ((⟨w3.2.2.2.1.1, ⟨w3.2.2.2.1.2.1, w3.2.2.2.1.2.2.1, w3.2.2.2.1.2.2.2.1⟩, w3.2.2.2.1.2.2.2.2.1, w3.2.2.2.1.2.2.2.2.2.1, c6⟩ : Acti), true)
      else fail
      else fail
      else fail
      else fail
      else fail
    else
    bif (decide (5 ≤ w3.2.2.2.1.1)) then
      bif (decide (1 < (w3.2.2.1.length : Int))) then
      bif (decide ((w3.2.2.1.getD 1 []).length ≤ 4294967296)) then
      letK (α := Tupl × Bool) (s_ReadTuple (w3.2.2.1.getD 1 [])) fun c22 =>
      bif (w3.2.2.2.1.1 == 6) then
        bif (decide (2 < (w3.2.2.1.length : Int))) then
        letK (α := Int × Bool) (s_Number (w3.2.2.1.getD 2 [])) fun c23 =>
        bif (decide ((⟨w3.2.2.2.1.1, c22.1, c23.1, w3.2.2.2.1.2.2.2.2.2.1, ⟨w3.2.2.2.1.2.2.2.2.2.2.1, w3.2.2.2.1.2.2.2.2.2.2.2.1, w3.2.2.2.1.2.2.2.2.2.2.2.2.1, []⟩⟩ : Acti).text.length ≤ 4294967296 ∧ (⟨w3.2.2.2.1.1, c22.1, c23.1, w3.2.2.2.1.2.2.2.2.2.1, ⟨w3.2.2.2.1.2.2.2.2.2.2.1, w3.2.2.2.1.2.2.2.2.2.2.2.1, w3.2.2.2.1.2.2.2.2.2.2.2.2.1, []⟩⟩ : Acti).mac.rows.length ≤ 4294967296)) then
        letK (α := Bytes) (s_ActLine (⟨w3.2.2.2.1.1, c22.1, c23.1, w3.2.2.2.1.2.2.2.2.2.1, ⟨w3.2.2.2.1.2.2.2.2.2.2.1, w3.2.2.2.1.2.2.2.2.2.2.2.1, w3.2.2.2.1.2.2.2.2.2.2.2.2.1, []⟩⟩ : Acti)) fun c24 =>
        bif (!(c24 == w3.1.1.1)) then
          k ((⟨0, ⟨0, 0, 0⟩, 0, [], ⟨false, 0, 0, []⟩⟩ : Acti), false)
        else
        k ((⟨w3.2.2.2.1.1, c22.1, c23.1, w3.2.2.2.1.2.2.2.2.2.1, ⟨w3.2.2.2.1.2.2.2.2.2.2.1, w3.2.2.2.1.2.2.2.2.2.2.2.1, w3.2.2.2.1.2.2.2.2.2.2.2.2.1, []⟩⟩ : Acti), true)
        else fail
        else fail
      else
      bif (w3.2.2.2.1.1 == 5) then
        bif (decide (2 < (w3.2.2.1.length : Int))) then
        bif (decide ((w3.2.2.1.getD 2 []).length ≤ 4294967296)) then
        letK (α := Bytes × Bool) (s_Unhex (w3.2.2.1.getD 2 [])) fun c25 =>
        bif (decide ((⟨w3.2.2.2.1.1, c22.1, w3.2.2.2.1.2.2.2.2.1, c25.1, ⟨w3.2.2.2.1.2.2.2.2.2.2.1, w3.2.2.2.1.2.2.2.2.2.2.2.1, w3.2.2.2.1.2.2.2.2.2.2.2.2.1, []⟩⟩ : Acti).text.length ≤ 4294967296 ∧ (⟨w3.2.2.2.1.1, c22.1, w3.2.2.2.1.2.2.2.2.1, c25.1, ⟨w3.2.2.2.1.2.2.2.2.2.2.1, w3.2.2.2.1.2.2.2.2.2.2.2.1, w3.2.2.2.1.2.2.2.2.2.2.2.2.1, []⟩⟩ : Acti).mac.rows.length ≤ 4294967296)) then
        letK (α := Bytes) (s_ActLine (⟨w3.2.2.2.1.1, c22.1, w3.2.2.2.1.2.2.2.2.1, c25.1, ⟨w3.2.2.2.1.2.2.2.2.2.2.1, w3.2.2.2.1.2.2.2.2.2.2.2.1, w3.2.2.2.1.2.2.2.2.2.2.2.2.1, []⟩⟩ : Acti)) fun c26 =>
        bif (!(c26 == w3.1.1.1)) then
          k ((⟨0, ⟨0, 0, 0⟩, 0, [], ⟨false, 0, 0, []⟩⟩ : Acti), false)
        else
        k ((⟨w3.2.2.2.1.1, c22.1, w3.2.2.2.1.2.2.2.2.1, c25.1, ⟨w3.2.2.2.1.2.2.2.2.2.2.1, w3.2.2.2.1.2.2.2.2.2.2.2.1, w3.2.2.2.1.2.2.2.2.2.2.2.2.1, []⟩⟩ : Acti), true)
        else fail
        else fail
        else fail
      else
      bif (w3.2.2.2.1.1 == 1) then
        bif (decide (1 < (w3.2.2.1.length : Int))) then
        bif (decide ((w3.2.2.1.getD 1 []).length ≤ 4294967296)) then
        letK (α := Bytes × Bool) (s_Unhex (w3.2.2.1.getD 1 [])) fun c27 =>
        bif (decide ((⟨w3.2.2.2.1.1, c22.1, w3.2.2.2.1.2.2.2.2.1, c27.1, ⟨w3.2.2.2.1.2.2.2.2.2.2.1, w3.2.2.2.1.2.2.2.2.2.2.2.1, w3.2.2.2.1.2.2.2.2.2.2.2.2.1, []⟩⟩ : Acti).text.length ≤ 4294967296 ∧ (⟨w3.2.2.2.1.1, c22.1, w3.2.2.2.1.2.2.2.2.1, c27.1, ⟨w3.2.2.2.1.2.2.2.2.2.2.1, w3.2.2.2.1.2.2.2.2.2.2.2.1, w3.2.2.2.1.2.2.2.2.2.2.2.2.1, []⟩⟩ : Acti).mac.rows.length ≤ 4294967296)) then
        letK (α := Bytes) (s_ActLine (⟨w3.2.2.2.1.1, c22.1, w3.2.2.2.1.2.2.2.2.1, c27.1, ⟨w3.2.2.2.1.2.2.2.2.2.2.1, w3.2.2.2.1.2.2.2.2.2.2.2.1, w3.2.2.2.1.2.2.2.2.2.2.2.2.1, []⟩⟩ : Acti)) fun c28 =>
        bif (!(c28 == w3.1.1.1)) then
          k ((⟨0, ⟨0, 0, 0⟩, 0, [], ⟨false, 0, 0, []⟩⟩ : Acti), false)
        else
        k ((⟨w3.2.2.2.1.1, c22.1, w3.2.2.2.1.2.2.2.2.1, c27.1, ⟨w3.2.2.2.1.2.2.2.2.2.2.1, w3.2.2.2.1.2.2.2.2.2.2.2.1, w3.2.2.2.1.2.2.2.2.2.2.2.2.1, []⟩⟩ : Acti), true)
        else fail
        else fail
        else fail
      else
      bif (decide ((⟨w3.2.2.2.1.1, c22.1, w3.2.2.2.1.2.2.2.2.1, w3.2.2.2.1.2.2.2.2.2.1, ⟨w3.2.2.2.1.2.2.2.2.2.2.1, w3.2.2.2.1.2.2.2.2.2.2.2.1, w3.2.2.2.1.2.2.2.2.2.2.2.2.1, []⟩⟩ : Acti).text.length ≤ 4294967296 ∧ (⟨w3.2.2.2.1.1, c22.1, w3.2.2.2.1.2.2.2.2.1, w3.2.2.2.1.2.2.2.2.2.1, ⟨w3.2.2.2.1.2.2.2.2.2.2.1, w3.2.2.2.1.2.2.2.2.2.2.2.1, w3.2.2.2.1.2.2.2.2.2.2.2.2.1, []⟩⟩ : Acti).mac.rows.length ≤ 4294967296)) then
      letK (α := Bytes) (s_ActLine (⟨w3.2.2.2.1.1, c22.1, w3.2.2.2.1.2.2.2.2.1, w3.2.2.2.1.2.2.2.2.2.1, ⟨w3.2.2.2.1.2.2.2.2.2.2.1, w3.2.2.2.1.2.2.2.2.2.2.2.1, w3.2.2.2.1.2.2.2.2.2.2.2.2.1, []⟩⟩ : Acti)) fun c29 =>
      bif (!(c29 == w3.1.1.1)) then
        k ((⟨0, ⟨0, 0, 0⟩, 0, [], ⟨false, 0, 0, []⟩⟩ : Acti), false)
      else
      k ((⟨w3.2.2.2.1.1, c22.1, w3.2.2.2.1.2.2.2.2.1, w3.2.2.2.1.2.2.2.2.2.1, ⟨w3.2.2.2.1.2.2.2.2.2.2.1, w3.2.2.2.1.2.2.2.2.2.2.2.1, w3.2.2.2.1.2.2.2.2.2.2.2.2.1, []⟩⟩ : Acti), true)
      else fail
      else fail
      else fail
    else
    bif (w3.2.2.2.1.1 == 6) then
      bif (decide (2 < (w3.2.2.1.length : Int))) then
      letK (α := Int × Bool) (s_Number (w3.2.2.1.getD 2 [])) fun c30 =>
      bif (decide ((⟨w3.2.2.2.1.1, ⟨w3.2.2.2.1.2.1, w3.2.2.2.1.2.2.1, w3.2.2.2.1.2.2.2.1⟩, c30.1, w3.2.2.2.1.2.2.2.2.2.1, ⟨w3.2.2.2.1.2.2.2.2.2.2.1, w3.2.2.2.1.2.2.2.2.2.2.2.1, w3.2.2.2.1.2.2.2.2.2.2.2.2.1, []⟩⟩ : Acti).text.length ≤ 4294967296 ∧ (⟨w3.2.2.2.1.1, ⟨w3.2.2.2.1.2.1, w3.2.2.2.1.2.2.1, w3.2.2.2.1.2.2.2.1⟩, c30.1, w3.2.2.2.1.2.2.2.2.2.1, ⟨w3.2.2.2.1.2.2.2.2.2.2.1, w3.2.2.2.1.2.2.2.2.2.2.2.1, w3.2.2.2.1.2.2.2.2.2.2.2.2.1, []⟩⟩ : Acti).mac.rows.length ≤ 4294967296)) then
      letK (α := Bytes) (s_ActLine (⟨w3.2.2.2.1.1, ⟨w3.2.2.2.1.2.1, w3.2.2.2.1.2.2.1, w3.2.2.2.1.2.2.2.1⟩, c30.1, w3.2.2.2.1.2.2.2.2.2.1, ⟨w3.2.2.2.1.2.2.2.2.2.2.1, w3.2.2.2.1.2.2.2.2.2.2.2.1, w3.2.2.2.1.2.2.2.2.2.2.2.2.1, []⟩⟩ : Acti)) fun c31 =>
      bif (!(c31 == w3.1.1.1)) then
        k ((⟨0, ⟨0, 0, 0⟩, 0, [], ⟨false, 0, 0, []⟩⟩ : Acti), false)
      else
      k ((⟨w3.2.2.2.1.1, ⟨w3.2.2.2.1.2.1, w3.2.2.2.1.2.2.1, w3.2.2.2.1.2.2.2.1⟩, c30.1, w3.2.2.2.1.2.2.2.2.2.1, ⟨w3.2.2.2.1.2.2.2.2.2.2.1, w3.2.2.2.1.2.2.2.2.2.2.2.1, w3.2.2.2.1.2.2.2.2.2.2.2.2.1, []⟩⟩ : Acti), true)
      else fail
      else fail
    else
    bif (w3.2.2.2.1.1 == 5) then
      bif (decide (2 < (w3.2.2.1.length : Int))) then
      bif (decide ((w3.2.2.1.getD 2 []).length ≤ 4294967296)) then
      letK (α := Bytes × Bool) (s_Unhex (w3.2.2.1.getD 2 [])) fun c32 =>
      bif (decide ((⟨w3.2.2.2.1.1, ⟨w3.2.2.2.1.2.1, w3.2.2.2.1.2.2.1, w3.2.2.2.1.2.2.2.1⟩, w3.2.2.2.1.2.2.2.2.1, c32.1, ⟨w3.2.2.2.1.2.2.2.2.2.2.1, w3.2.2.2.1.2.2.2.2.2.2.2.1, w3.2.2.2.1.2.2.2.2.2.2.2.2.1, []⟩⟩ : Acti).text.length ≤ 4294967296 ∧ (⟨w3.2.2.2.1.1, ⟨w3.2.2.2.1.2.1, w3.2.2.2.1.2.2.1, w3.2.2.2.1.2.2.2.1⟩, w3.2.2.2.1.2.2.2.2.1, c32.1, ⟨w3.2.2.2.1.2.2.2.2.2.2.1, w3.2.2.2.1.2.2.2.2.2.2.2.1, w3.2.2.2.1.2.2.2.2.2.2.2.2.1, []⟩⟩ : Acti).mac.rows.length ≤ 4294967296)) then
      letK (α := Bytes) (s_ActLine (⟨w3.2.2.2.1.1, ⟨w3.2.2.2.1.2.1, w3.2.2.2.1.2.2.1, w3.2.2.2.1.2.2.2.1⟩, w3.2.2.2.1.2.2.2.2.1, c32.1, ⟨w3.2.2.2.1.2.2.2.2.2.2.1, w3.2.2.2.1.2.2.2.2.2.2.2.1, w3.2.2.2.1.2.2.2.2.2.2.2.2.1, []⟩⟩ : Acti)) fun c33 =>
      bif (!(c33 == w3.1.1.1)) then
        k ((⟨0, ⟨0, 0, 0⟩, 0, [], ⟨false, 0, 0, []⟩⟩ : Acti), false)
      else
      k ((⟨w3.2.2.2.1.1, ⟨w3.2.2.2.1.2.1, w3.2.2.2.1.2.2.1, w3.2.2.2.1.2.2.2.1⟩, w3.2.2.2.1.2.2.2.2.1, c32.1, ⟨w3.2.2.2.1.2.2.2.2.2.2.1, w3.2.2.2.1.2.2.2.2.2.2.2.1, w3.2.2.2.1.2.2.2.2.2.2.2.2.1, []⟩⟩ : Acti), true)
      else fail
      else fail
      else fail
    else
    bif (w3.2.2.2.1.1 == 1) then
      bif (decide (1 < (w3.2.2.1.length : Int))) then
      bif (decide ((w3.2.2.1.getD 1 []).length ≤ 4294967296)) then
      letK (α := Bytes × Bool) (s_Unhex (w3.2.2.1.getD 1 [])) fun c34 =>
      bif (decide ((⟨w3.2.2.2.1.1, ⟨w3.2.2.2.1.2.1, w3.2.2.2.1.2.2.1, w3.2.2.2.1.2.2.2.1⟩, w3.2.2.2.1.2.2.2.2.1, c34.1, ⟨w3.2.2.2.1.2.2.2.2.2.2.1, w3.2.2.2.1.2.2.2.2.2.2.2.1, w3.2.2.2.1.2.2.2.2.2.2.2.2.1, []⟩⟩ : Acti).text.length ≤ 4294967296 ∧ (⟨w3.2.2.2.1.1, ⟨w3.2.2.2.1.2.1, w3.2.2.2.1.2.2.1, w3.2.2.2.1.2.2.2.1⟩, w3.2.2.2.1.2.2.2.2.1, c34.1, ⟨w3.2.2.2.1.2.2.2.2.2.2.1, w3.2.2.2.1.2.2.2.2.2.2.2.1, w3.2.2.2.1.2.2.2.2.2.2.2.2.1, []⟩⟩ : Acti).mac.rows.length ≤ 4294967296)) then
      letK (α := Bytes) (s_ActLine (⟨w3.2.2.2.1.1, ⟨w3.2.2.2.1.2.1, w3.2.2.2.1.2.2.1, w3.2.2.2.1.2.2.2.1⟩, w3.2.2.2.1.2.2.2.2.1, c34.1, ⟨w3.2.2.2.1.2.2.2.2.2.2.1, w3.2.2.2.1.2.2.2.2.2.2.2.1, w3.2.2.2.1.2.2.2.2.2.2.2.2.1, []⟩⟩ : Acti)) fun c35 =>
      bif (!(c35 == w3.1.1.1)) then
        k ((⟨0, ⟨0, 0, 0⟩, 0, [], ⟨false, 0, 0, []⟩⟩ : Acti), false)
      else
      k ((⟨w3.2.2.2.1.1, ⟨w3.2.2.2.1.2.1, w3.2.2.2.1.2.2.1, w3.2.2.2.1.2.2.2.1⟩, w3.2.2.2.1.2.2.2.2.1, c34.1, ⟨w3.2.2.2.1.2.2.2.2.2.2.1, w3.2.2.2.1.2.2.2.2.2.2.2.1, w3.2.2.2.1.2.2.2.2.2.2.2.2.1, []⟩⟩ : Acti), true)
      else fail
      else fail
      else fail
    else
    bif (decide ((⟨w3.2.2.2.1.1, ⟨w3.2.2.2.1.2.1, w3.2.2.2.1.2.2.1, w3.2.2.2.1.2.2.2.1⟩, w3.2.2.2.1.2.2.2.2.1, w3.2.2.2.1.2.2.2.2.2.1, ⟨w3.2.2.2.1.2.2.2.2.2.2.1, w3.2.2.2.1.2.2.2.2.2.2.2.1, w3.2.2.2.1.2.2.2.2.2.2.2.2.1, []⟩⟩ : Acti).text.length ≤ 4294967296 ∧ (⟨w3.2.2.2.1.1, ⟨w3.2.2.2.1.2.1, w3.2.2.2.1.2.2.1, w3.2.2.2.1.2.2.2.1⟩, w3.2.2.2.1.2.2.2.2.1, w3.2.2.2.1.2.2.2.2.2.1, ⟨w3.2.2.2.1.2.2.2.2.2.2.1, w3.2.2.2.1.2.2.2.2.2.2.2.1, w3.2.2.2.1.2.2.2.2.2.2.2.2.1, []⟩⟩ : Acti).mac.rows.length ≤ 4294967296)) then
    letK (α := Bytes) (s_ActLine (⟨w3.2.2.2.1.1, ⟨w3.2.2.2.1.2.1, w3.2.2.2.1.2.2.1, w3.2.2.2.1.2.2.2.1⟩, w3.2.2.2.1.2.2.2.2.1, w3.2.2.2.1.2.2.2.2.2.1, ⟨w3.2.2.2.1.2.2.2.2.2.2.1, w3.2.2.2.1.2.2.2.2.2.2.2.1, w3.2.2.2.1.2.2.2.2.2.2.2.2.1, []⟩⟩ : Acti)) fun c36 =>
    bif (!(c36 == w3.1.1.1)) then
      k ((⟨0, ⟨0, 0, 0⟩, 0, [], ⟨false, 0, 0, []⟩⟩ : Acti), false)
    else
    k ((⟨w3.2.2.2.1.1, ⟨w3.2.2.2.1.2.1, w3.2.2.2.1.2.2.1, w3.2.2.2.1.2.2.2.1⟩, w3.2.2.2.1.2.2.2.2.1, w3.2.2.2.1.2.2.2.2.2.1, ⟨w3.2.2.2.1.2.2.2.2.2.2.1, w3.2.2.2.1.2.2.2.2.2.2.2.1, w3.2.2.2.1.2.2.2.2.2.2.2.2.1, []⟩⟩ : Acti), true)
    else fail
  else fail
  else fail
def s_ReadAct (x0 : Bytes) : Acti × Bool :=
  bif (x0 == []) then
    ((⟨0, ⟨0, 0, 0⟩, 0, [], ⟨false, 0, 0, []⟩⟩ : Acti), false)
  else
  bif (decide (3260 < (x0.length : Int))) then
    ((⟨0, ⟨0, 0, 0⟩, 0, [], ⟨false, 0, 0, []⟩⟩ : Acti), false)
  else
  letK (α := List Bytes) (s_Parts x0 32) fun c1 =>
  Stp.elim (fun a37 =>
    bif (a37 == 3) then
      letK (α := Int) (s_l33KeyOf ((c1 ++ [[], [], []]).getD 1 [])) fun c38 =>
      letK (α := Int) (s_l33KeyOf ((c1 ++ [[], [], []]).getD 2 [])) fun c39 =>
      letK (α := Mac) (s_KeyMac c38 c39) fun c40 =>
      bif (decide (5 ≤ a37)) then
        letK (α := Tupl × Bool) (s_ReadTuple ((c1 ++ [[], [], []]).getD 1 [])) fun c41 =>
        bif (a37 == 6) then
          letK (α := Int × Bool) (s_Number ((c1 ++ [[], [], []]).getD 2 [])) fun c42 =>
          letK (α := Bytes) (s_ActLine (⟨a37, c41.1, c42.1, [], c40⟩ : Acti)) fun c43 =>
          bif (!(c43 == x0)) then
            ((⟨0, ⟨0, 0, 0⟩, 0, [], ⟨false, 0, 0, []⟩⟩ : Acti), false)
          else
          ((⟨a37, c41.1, c42.1, [], c40⟩ : Acti), true)
        else
        bif (a37 == 5) then
          letK (α := Bytes × Bool) (s_Unhex ((c1 ++ [[], [], []]).getD 2 [])) fun c44 =>
          letK (α := Bytes) (s_ActLine (⟨a37, c41.1, 0, c44.1, c40⟩ : Acti)) fun c45 =>
          bif (!(c45 == x0)) then
            ((⟨0, ⟨0, 0, 0⟩, 0, [], ⟨false, 0, 0, []⟩⟩ : Acti), false)
          else
          ((⟨a37, c41.1, 0, c44.1, c40⟩ : Acti), true)
        else
        bif (a37 == 1) then
          letK (α := Bytes × Bool) (s_Unhex ((c1 ++ [[], [], []]).getD 1 [])) fun c46 =>
          letK (α := Bytes) (s_ActLine (⟨a37, c41.1, 0, c46.1, c40⟩ : Acti)) fun c47 =>
          bif (!(c47 == x0)) then
            ((⟨0, ⟨0, 0, 0⟩, 0, [], ⟨false, 0, 0, []⟩⟩ : Acti), false)
          else
          ((⟨a37, c41.1, 0, c46.1, c40⟩ : Acti), true)
        else
        letK (α := Bytes) (s_ActLine (⟨a37, c41.1, 0, [], c40⟩ : Acti)) fun c48 =>
        bif (!(c48 == x0)) then
          ((⟨0, ⟨0, 0, 0⟩, 0, [], ⟨false, 0, 0, []⟩⟩ : Acti), false)
        else
        ((⟨a37, c41.1, 0, [], c40⟩ : Acti), true)
      else
      bif (a37 == 6) then
        letK (α := Int × Bool) (s_Number ((c1 ++ [[], [], []]).getD 2 [])) fun c49 =>
        letK (α := Bytes) (s_ActLine (⟨a37, ⟨0, 0, 0⟩, c49.1, [], c40⟩ : Acti)) fun c50 =>
        bif (!(c50 == x0)) then
          ((⟨0, ⟨0, 0, 0⟩, 0, [], ⟨false, 0, 0, []⟩⟩ : Acti), false)
        else
        ((⟨a37, ⟨0, 0, 0⟩, c49.1, [], c40⟩ : Acti), true)
      else
      bif (a37 == 5) then
        letK (α := Bytes × Bool) (s_Unhex ((c1 ++ [[], [], []]).getD 2 [])) fun c51 =>
        letK (α := Bytes) (s_ActLine (⟨a37, ⟨0, 0, 0⟩, 0, c51.1, c40⟩ : Acti)) fun c52 =>
        bif (!(c52 == x0)) then
          ((⟨0, ⟨0, 0, 0⟩, 0, [], ⟨false, 0, 0, []⟩⟩ : Acti), false)
        else
        ((⟨a37, ⟨0, 0, 0⟩, 0, c51.1, c40⟩ : Acti), true)
      else
      bif (a37 == 1) then
        letK (α := Bytes × Bool) (s_Unhex ((c1 ++ [[], [], []]).getD 1 [])) fun c53 =>
        letK (α := Bytes) (s_ActLine (⟨a37, ⟨0, 0, 0⟩, 0, c53.1, c40⟩ : Acti)) fun c54 =>
        bif (!(c54 == x0)) then
          ((⟨0, ⟨0, 0, 0⟩, 0, [], ⟨false, 0, 0, []⟩⟩ : Acti), false)
        else
        ((⟨a37, ⟨0, 0, 0⟩, 0, c53.1, c40⟩ : Acti), true)
      else
      letK (α := Bytes) (s_ActLine (⟨a37, ⟨0, 0, 0⟩, 0, [], c40⟩ : Acti)) fun c55 =>
      bif (!(c55 == x0)) then
        ((⟨0, ⟨0, 0, 0⟩, 0, [], ⟨false, 0, 0, []⟩⟩ : Acti), false)
      else
      ((⟨a37, ⟨0, 0, 0⟩, 0, [], c40⟩ : Acti), true)
    else
    bif (decide (5 ≤ a37)) then
      letK (α := Tupl × Bool) (s_ReadTuple ((c1 ++ [[], [], []]).getD 1 [])) fun c56 =>
      bif (a37 == 6) then
        letK (α := Int × Bool) (s_Number ((c1 ++ [[], [], []]).getD 2 [])) fun c57 =>
        letK (α := Bytes) (s_ActLine (⟨a37, c56.1, c57.1, [], ⟨false, 0, 0, []⟩⟩ : Acti)) fun c58 =>
        bif (!(c58 == x0)) then
          ((⟨0, ⟨0, 0, 0⟩, 0, [], ⟨false, 0, 0, []⟩⟩ : Acti), false)
        else
        ((⟨a37, c56.1, c57.1, [], ⟨false, 0, 0, []⟩⟩ : Acti), true)
      else
      bif (a37 == 5) then
        letK (α := Bytes × Bool) (s_Unhex ((c1 ++ [[], [], []]).getD 2 [])) fun c59 =>
        letK (α := Bytes) (s_ActLine (⟨a37, c56.1, 0, c59.1, ⟨false, 0, 0, []⟩⟩ : Acti)) fun c60 =>
        bif (!(c60 == x0)) then
          ((⟨0, ⟨0, 0, 0⟩, 0, [], ⟨false, 0, 0, []⟩⟩ : Acti), false)
        else
        ((⟨a37, c56.1, 0, c59.1, ⟨false, 0, 0, []⟩⟩ : Acti), true)
      else
      bif (a37 == 1) then
        letK (α := Bytes × Bool) (s_Unhex ((c1 ++ [[], [], []]).getD 1 [])) fun c61 =>
        letK (α := Bytes) (s_ActLine (⟨a37, c56.1, 0, c61.1, ⟨false, 0, 0, []⟩⟩ : Acti)) fun c62 =>
        bif (!(c62 == x0)) then
          ((⟨0, ⟨0, 0, 0⟩, 0, [], ⟨false, 0, 0, []⟩⟩ : Acti), false)
        else
        ((⟨a37, c56.1, 0, c61.1, ⟨false, 0, 0, []⟩⟩ : Acti), true)
      else
      letK (α := Bytes) (s_ActLine (⟨a37, c56.1, 0, [], ⟨false, 0, 0, []⟩⟩ : Acti)) fun c63 =>
      bif (!(c63 == x0)) then
        ((⟨0, ⟨0, 0, 0⟩, 0, [], ⟨false, 0, 0, []⟩⟩ : Acti), false)
      else
      ((⟨a37, c56.1, 0, [], ⟨false, 0, 0, []⟩⟩ : Acti), true)
    else
    bif (a37 == 6) then
      letK (α := Int × Bool) (s_Number ((c1 ++ [[], [], []]).getD 2 [])) fun c64 =>
      letK (α := Bytes) (s_ActLine (⟨a37, ⟨0, 0, 0⟩, c64.1, [], ⟨false, 0, 0, []⟩⟩ : Acti)) fun c65 =>
      bif (!(c65 == x0)) then
        ((⟨0, ⟨0, 0, 0⟩, 0, [], ⟨false, 0, 0, []⟩⟩ : Acti), false)
      else
      ((⟨a37, ⟨0, 0, 0⟩, c64.1, [], ⟨false, 0, 0, []⟩⟩ : Acti), true)
    else
    bif (a37 == 5) then
      letK (α := Bytes × Bool) (s_Unhex ((c1 ++ [[], [], []]).getD 2 [])) fun c66 =>
      letK (α := Bytes) (s_ActLine (⟨a37, ⟨0, 0, 0⟩, 0, c66.1, ⟨false, 0, 0, []⟩⟩ : Acti)) fun c67 =>
      bif (!(c67 == x0)) then
        ((⟨0, ⟨0, 0, 0⟩, 0, [], ⟨false, 0, 0, []⟩⟩ : Acti), false)
      else
      ((⟨a37, ⟨0, 0, 0⟩, 0, c66.1, ⟨false, 0, 0, []⟩⟩ : Acti), true)
    else
    bif (a37 == 1) then
      letK (α := Bytes × Bool) (s_Unhex ((c1 ++ [[], [], []]).getD 1 [])) fun c68 =>
      letK (α := Bytes) (s_ActLine (⟨a37, ⟨0, 0, 0⟩, 0, c68.1, ⟨false, 0, 0, []⟩⟩ : Acti)) fun c69 =>
      bif (!(c69 == x0)) then
        ((⟨0, ⟨0, 0, 0⟩, 0, [], ⟨false, 0, 0, []⟩⟩ : Acti), false)
      else
      ((⟨a37, ⟨0, 0, 0⟩, 0, c68.1, ⟨false, 0, 0, []⟩⟩ : Acti), true)
    else
    letK (α := Bytes) (s_ActLine (⟨a37, ⟨0, 0, 0⟩, 0, [], ⟨false, 0, 0, []⟩⟩ : Acti)) fun c70 =>
    bif (!(c70 == x0)) then
      ((⟨0, ⟨0, 0, 0⟩, 0, [], ⟨false, 0, 0, []⟩⟩ : Acti), false)
    else
    ((⟨a37, ⟨0, 0, 0⟩, 0, [], ⟨false, 0, 0, []⟩⟩ : Acti), true))
    (fun p : Empty => nomatch p)
    (forN (s_ReadAct_L0_f x0 0 0 0 0 0 [] false 0 0 (c1 ++ [[], [], []]) 0 0 0 0 [] false 0 0) 1 (Int.toNat (8 - 1 + 1)) 1 0)
theorem s_ReadAct_lk (x0 : Bytes) : evalFn te (orcOf (P := Tryd.prog) [s_Parts_e, s_ActWord_e, s_l33KeyOf_e, s_KeyMac_e, s_ReadTuple_e, s_Number_e, s_Unhex_e, s_ActLine_e]) (lorcOf [s_ReadAct_L0_le]) s_ReadAct_ann Tryd.f16 (pvs [.sc .str] (x0, ())) =
  s_ReadAct_N x0 _ none (fun v => some [(true, [RC.c (.int .i64 v.1.kind), RC.c (.int .i64 v.1.tuple.ip), RC.c (.int .i64 v.1.tuple.port), RC.c (.int .i64 v.1.tuple.my), RC.c (.int .i64 v.1.n), RC.c (.str v.1.text), RC.c (.bool v.1.mac.use), RC.c (.int .u64 v.1.mac.k), RC.c (.int .u64 v.1.mac.l), RC.own true .macRow v.1.mac.rows]), (false, [RC.c (.bool v.2)])]) := by kernel_rfl
theorem s_ReadAct_p (x0 : Bytes) (hx0 : List.length x0 ≤ 4611686018427387904) (hp : x0.length ≤ 4294967296) (γ : Type) (fail : γ) (k : Acti × Bool → γ) : s_ReadAct_N x0 γ fail k = k (s_ReadAct x0) := by
  unfold s_ReadAct_N s_ReadAct
  refine bifT (f := k) (fun b0 => rfl)
      (fun b0 => bifT (f := k) (fun b1 => rfl)
      (fun b1 => bifG ?_ (letT (f := k) (fun c1 hc1 => bifG ?_ (loopT (f := k) (s_ReadAct_L0_cl x0 1 0 0 0 0 0 [] false 0 0 (c1 ++ [[], [], []]) 0 0 0 0 0 [] false 0 0 ?_ ?_ ?_) (fun a37 => bifT (f := k) (fun b2 => bifG ?_ (bifG ?_ (letT (f := k) (fun c38 hc38 => bifG ?_ (bifG ?_ (letT (f := k) (fun c39 hc39 => letT (f := k) (fun c40 hc40 => bifT (f := k) (fun b3 => bifG ?_ (bifG ?_ (letT (f := k) (fun c41 hc41 => bifT (f := k) (fun b4 => bifG ?_ (letT (f := k) (fun c42 hc42 => bifG ?_ (letT (f := k) (fun c43 hc43 => bifT (f := k) (fun b5 => rfl)
      (fun b5 => rfl))))))
      (fun b4 => bifT (f := k) (fun b5 => bifG ?_ (bifG ?_ (letT (f := k) (fun c44 hc44 => bifG ?_ (letT (f := k) (fun c45 hc45 => bifT (f := k) (fun b6 => rfl)
      (fun b6 => rfl)))))))
      (fun b5 => bifT (f := k) (fun b6 => bifG ?_ (bifG ?_ (letT (f := k) (fun c46 hc46 => bifG ?_ (letT (f := k) (fun c47 hc47 => bifT (f := k) (fun b7 => rfl)
      (fun b7 => rfl)))))))
      (fun b6 => bifG ?_ (letT (f := k) (fun c48 hc48 => bifT (f := k) (fun b7 => rfl)
      (fun b7 => rfl))))))))))
      (fun b3 => bifT (f := k) (fun b4 => bifG ?_ (letT (f := k) (fun c49 hc49 => bifG ?_ (letT (f := k) (fun c50 hc50 => bifT (f := k) (fun b5 => rfl)
      (fun b5 => rfl))))))
      (fun b4 => bifT (f := k) (fun b5 => bifG ?_ (bifG ?_ (letT (f := k) (fun c51 hc51 => bifG ?_ (letT (f := k) (fun c52 hc52 => bifT (f := k) (fun b6 => rfl)
      (fun b6 => rfl)))))))
      (fun b5 => bifT (f := k) (fun b6 => bifG ?_ (bifG ?_ (letT (f := k) (fun c53 hc53 => bifG ?_ (letT (f := k) (fun c54 hc54 => bifT (f := k) (fun b7 => rfl)
      (fun b7 => rfl)))))))
      (fun b6 => bifG ?_ (letT (f := k) (fun c55 hc55 => bifT (f := k) (fun b7 => rfl)
      (fun b7 => rfl)))))))))))))))
      (fun b2 => bifT (f := k) (fun b3 => bifG ?_ (bifG ?_ (letT (f := k) (fun c56 hc56 => bifT (f := k) (fun b4 => bifG ?_ (letT (f := k) (fun c57 hc57 => bifG ?_ (letT (f := k) (fun c58 hc58 => bifT (f := k) (fun b5 => rfl)
      (fun b5 => rfl))))))
      (fun b4 => bifT (f := k) (fun b5 => bifG ?_ (bifG ?_ (letT (f := k) (fun c59 hc59 => bifG ?_ (letT (f := k) (fun c60 hc60 => bifT (f := k) (fun b6 => rfl)
      (fun b6 => rfl)))))))
      (fun b5 => bifT (f := k) (fun b6 => bifG ?_ (bifG ?_ (letT (f := k) (fun c61 hc61 => bifG ?_ (letT (f := k) (fun c62 hc62 => bifT (f := k) (fun b7 => rfl)
      (fun b7 => rfl)))))))
      (fun b6 => bifG ?_ (letT (f := k) (fun c63 hc63 => bifT (f := k) (fun b7 => rfl)
      (fun b7 => rfl))))))))))
      (fun b3 => bifT (f := k) (fun b4 => bifG ?_ (letT (f := k) (fun c64 hc64 => bifG ?_ (letT (f := k) (fun c65 hc65 => bifT (f := k) (fun b5 => rfl)
      (fun b5 => rfl))))))
      (fun b4 => bifT (f := k) (fun b5 => bifG ?_ (bifG ?_ (letT (f := k) (fun c66 hc66 => bifG ?_ (letT (f := k) (fun c67 hc67 => bifT (f := k) (fun b6 => rfl)
      (fun b6 => rfl)))))))
      (fun b5 => bifT (f := k) (fun b6 => bifG ?_ (bifG ?_ (letT (f := k) (fun c68 hc68 => bifG ?_ (letT (f := k) (fun c69 hc69 => bifT (f := k) (fun b7 => rfl)
      (fun b7 => rfl)))))))
      (fun b6 => bifG ?_ (letT (f := k) (fun c70 hc70 => bifT (f := k) (fun b7 => rfl)
      (fun b7 => rfl)))))))))
      (fun p : Empty => nomatch p))))))
  all_goals (first | ((try simp only [Nat.ble_eq, Bool.and_eq_true, decide_eq_true_eq, s_ReadAct_L0_mx0]); grind [maxSl, maxStr, toBytes_length, toInts_length, List.length_set, wrap64, s_Parts_len, s_Parts_el, s_Parts_el3, s_ActWord_len, s_KeyMac_len, s_Unhex_len]) | (subst_vars; simp only [Nat.ble_eq, Bool.and_eq_true, decide_eq_true_eq, s_ReadAct_L0_mx0]; grind [maxSl, maxStr, toBytes_length, toInts_length, List.length_set, wrap64, s_Parts_len, s_Parts_el, s_Parts_el3, s_ActWord_len, s_KeyMac_len, s_Unhex_len]))
theorem s_ReadAct_c (x0 : Bytes) (hp : x0.length ≤ 4294967296) : Con Tryd.prog 16 (pvs [.sc .str] (x0, ())) [rv (.st .acti) [.c, .c, .c, .c, .c, .c, .c, .c, .c, .o true] (s_ReadAct x0).1, rv (.sc .bool) [] (s_ReadAct x0).2] := by
  refine Con.of_facts (enters_of Tryd.func16 rfl (by kernel_rfl)) fun hf => ?_
  replace hf := factAt hf
  refine evalFn_conL teFact mixFact (orcOf_ok _) Tryd.func16 ?_ (bs := [0]) ?_ ?_ (fun w0 mo I0 hmo => ⟨lsem_of_lorc (s_ReadAct_L0_ls w0 mo I0 hmo) ?_, trivial⟩) ((s_ReadAct_lk x0).trans (s_ReadAct_p x0 ((hf 0 0 rfl rfl).slen) hp _ _ _))
  all_goals (kernel_rfl)
noncomputable def s_ReadAct_e : Ent1 Tryd.prog := entP 16 [.sc .str] (fun x => (decide (x.1.length ≤ 4294967296))) (fun x => (s_ReadAct x.1)) (fun v => [rv (.st .acti) [.c, .c, .c, .c, .c, .c, .c, .c, .c, .o true] v.1, rv (.sc .bool) [] v.2]) (fun x hx => s_ReadAct_c x.1 (of_decide_eq_true hx))


/-- impl.MacOk$1 -/
def i_MacOk_1_N (x0 : MacRow) (y1 : MacRow) (γ : Type) (fail : γ) (k : Bool → γ) : γ :=
  k (x0.input == y1.input)
def i_MacOk_1 (x0 : MacRow) (y1 : MacRow) : Bool :=
  (x0.input == y1.input)
theorem i_MacOk_1_lk (x0 : MacRow) (y1 : MacRow) : evalFnM te (orcOf (P := Tryd.prog) []) lorc0 [] Tryd.f91 (pvs [.st .macRow, .wr false [.ptr 0]] (x0, (), ())) (mos [.box [.c .str, .c (.int .i64)]] ((y1.input, y1.value, ()), ())) =
  i_MacOk_1_N x0 y1 _ none (fun v => some ([(false, [RC.c (.bool v)])] ++ (mos [.box [.c .str, .c (.int .i64)]] ((y1.input, y1.value, ()), ())).map encO)) := by kernel_rfl
theorem i_MacOk_1_p (x0 : MacRow) (y1 : MacRow)   (γ : Type) (fail : γ) (k : Bool → γ) : i_MacOk_1_N x0 y1 γ fail k = k (i_MacOk_1 x0 y1) := by
  unfold i_MacOk_1_N i_MacOk_1
  exact rfl
theorem i_MacOk_1_c (x0 : MacRow) (y1 : MacRow)  : ConM Tryd.prog 91 (pvs [.st .macRow, .wr false [.ptr 0]] (x0, (), ())) (mos [.box [.c .str, .c (.int .i64)]] ((y1.input, y1.value, ()), ())) [rv (.sc .bool) [] (i_MacOk_1 x0 y1)] (mos [.box [.c .str, .c (.int .i64)]] ((y1.input, y1.value, ()), ())) := by
  refine evalFn_conLM teFact mixFact (orcOf_ok _) Tryd.func91 ?_ (bs := []) ?_ ?_ ?_ rfl (fun w0 mo I0 hmo => trivial) ((i_MacOk_1_lk x0 y1).trans (i_MacOk_1_p x0 y1  _ _ _))
  all_goals (kernel_rfl)
noncomputable def i_MacOk_1_e : Ent1 Tryd.prog := entM 91 [.st .macRow, .wr false [.ptr 0]] [.box [.c .str, .c (.int .i64)]] (fun x y => true) (fun x y => (i_MacOk_1 x.1 (⟨y.1.1, y.1.2.1⟩ : MacRow))) (fun v => [rv (.sc .bool) [] v]) (fun x y v => (mos [.box [.c .str, .c (.int .i64)]] (((⟨y.1.1, y.1.2.1⟩ : MacRow).input, (⟨y.1.1, y.1.2.1⟩ : MacRow).value, ()), ()))) (fun x y hx => i_MacOk_1_c x.1 (⟨y.1.1, y.1.2.1⟩ : MacRow))


/-- slices.IndexFunc[[]impl.MacRow,impl.MacRow] -/
def g_IndexFunc_MacRow_i_MacOk_1_ann : List (Nat × Keep) := [(0, ⟨[0, 1, 7, 8], [], false, 1⟩)]
def g_IndexFunc_MacRow_i_MacOk_1_L0_sh : Sh := ⟨[(0, false, [.sl .arg .macRow]), (1, false, [.fn 91 [0]]), (7, false, [.int .i64]), (8, false, [.int .i64])], [.box [.str, .int .i64]]⟩
def g_IndexFunc_MacRow_i_MacOk_1_L0_es : List (Ex × Sh) := [(.ret, ⟨[(4, false, [.int .i64])], [.box [.str, .int .i64]]⟩), (.exit 0, ⟨[(4, false, [.undef])], [.box [.str, .int .i64]]⟩)]
def g_IndexFunc_MacRow_i_MacOk_1_L0_mk (v0 : List MacRow) (v1 : Int) (v2 : Int) (v3 : Bytes) (v4 : Int) : g_IndexFunc_MacRow_i_MacOk_1_L0_sh.T := (((v0, ()), (((), ()), ((v1, ()), ((v2, ()), ())))), ((v3, (v4, ())), ()))
def g_IndexFunc_MacRow_i_MacOk_1_L0_mx0 (y0 : Int) (y1 : Bytes) (y2 : Int) : Sh.T ⟨[(4, false, [.int .i64])], [.box [.str, .int .i64]]⟩ := (((y0, ()), ()), ((y1, (y2, ())), ()))
def g_IndexFunc_MacRow_i_MacOk_1_L0_mx1 (y0 : Bytes) (y1 : Int) : Sh.T ⟨[(4, false, [.undef])], [.box [.str, .int .i64]]⟩ := ((((), ()), ()), ((y0, (y1, ())), ()))
def g_IndexFunc_MacRow_i_MacOk_1_L0_B (v0 : List MacRow) (v1 : Int) (v2 : Int) (v3 : Bytes) (v4 : Int) (γ : Type) (fail : γ) (next : g_IndexFunc_MacRow_i_MacOk_1_L0_sh.T → γ) (out : WT g_IndexFunc_MacRow_i_MacOk_1_L0_es → γ) : γ :=
  bif (decide (v2 < v1)) then
    bif ((decide (0 ≤ v2)) && (decide (v2 < (v0.length : Int)))) then
    letK (α := Bool) (i_MacOk_1 (v0.getD v2.toNat (Ty.zero .macRow)) (⟨v3, v4⟩ : MacRow)) fun c1 =>
    bif c1 then
      out (Sum.inl (g_IndexFunc_MacRow_i_MacOk_1_L0_mx0 v2 v3 v4))
    else
    next (g_IndexFunc_MacRow_i_MacOk_1_L0_mk v0 v1 (IntKind.wrap .i64 (v2 + 1)) v3 v4)
    else fail
  else
  out (Sum.inr (g_IndexFunc_MacRow_i_MacOk_1_L0_mx1 v3 v4))
theorem g_IndexFunc_MacRow_i_MacOk_1_L0_par (v0 : List MacRow) (v1 : Int) (v2 : Int) (v3 : Bytes) (v4 : Int) (γ : Type) (fail : γ) (next : g_IndexFunc_MacRow_i_MacOk_1_L0_sh.T → γ) (out : WT g_IndexFunc_MacRow_i_MacOk_1_L0_es → γ) : g_IndexFunc_MacRow_i_MacOk_1_L0_B v0 v1 v2 v3 v4 γ fail next out = optK (g_IndexFunc_MacRow_i_MacOk_1_L0_B v0 v1 v2 v3 v4 _ none (fun v' => some (.inl v')) (fun w => some (.inr w))) fail (fun r => Sum.elim next out r) := by
  unfold g_IndexFunc_MacRow_i_MacOk_1_L0_B
  repeat' (first | refine letT (f := (fun o => optK o fail (fun r => Sum.elim next out r))) (fun _ _ => ?_) | refine bifT (f := (fun o => optK o fail (fun r => Sum.elim next out r))) (fun _ => ?_) (fun _ => ?_) | rfl)
def g_IndexFunc_MacRow_i_MacOk_1_L0_r : Round g_IndexFunc_MacRow_i_MacOk_1_L0_sh.T (WT g_IndexFunc_MacRow_i_MacOk_1_L0_es) where
  B v γ fail next out := g_IndexFunc_MacRow_i_MacOk_1_L0_B v.1.1.1 v.1.2.2.1.1 v.1.2.2.2.1.1 v.2.1.1 v.2.1.2.1 γ fail next out
  par v γ fail next out := g_IndexFunc_MacRow_i_MacOk_1_L0_par v.1.1.1 v.1.2.2.1.1 v.1.2.2.2.1.1 v.2.1.1 v.2.1.2.1 γ fail next out
def g_IndexFunc_MacRow_i_MacOk_1_L0_fu (v0 : List MacRow) (v1 : Int) (v2 : Int) (v3 : Bytes) (v4 : Int) : Nat := (Int.toNat (v1 - v2)) + 1
theorem g_IndexFunc_MacRow_i_MacOk_1_L0_lk (v : g_IndexFunc_MacRow_i_MacOk_1_L0_sh.T) (next : St → Option Res) (k : Ex → St → Option Res) : evalK te (orcOf (P := Tryd.prog) [i_MacOk_1_e]) (lorcOf []) Tryd.f99.ntmps g_IndexFunc_MacRow_i_MacOk_1_ann (nthLoop (bodyOf Tryd.f99) 0 0) 0 (g_IndexFunc_MacRow_i_MacOk_1_L0_sh.enc v) (endK ⟨[0, 1, 7, 8], [], false, 1⟩ ⟨[4], [], false, 1⟩ next k) =
  g_IndexFunc_MacRow_i_MacOk_1_L0_r.B v _ none (fun v' => next (g_IndexFunc_MacRow_i_MacOk_1_L0_sh.enc v')) (fun w => outK g_IndexFunc_MacRow_i_MacOk_1_L0_es k w) := by kernel_rfl
def g_IndexFunc_MacRow_i_MacOk_1_L0_le : LE := leOf 0 g_IndexFunc_MacRow_i_MacOk_1_L0_sh g_IndexFunc_MacRow_i_MacOk_1_L0_es g_IndexFunc_MacRow_i_MacOk_1_L0_r.step (fun v => g_IndexFunc_MacRow_i_MacOk_1_L0_fu v.1.1.1 v.1.2.2.1.1 v.1.2.2.2.1.1 v.2.1.1 v.2.1.2.1)
theorem g_IndexFunc_MacRow_i_MacOk_1_L0_ls (w0 : World) (mo : Mts) (I0 : Nat → Prop) (hmo : mo.length = 1) : LSem Tryd.prog (Sim w0 mo Tryd.f99.ntmps I0) (fun b s k => match Nat.beq 0 b with | true => g_IndexFunc_MacRow_i_MacOk_1_L0_le.run s k | false => none) 0 (nthLoop (bodyOf Tryd.f99) 0 0) :=
  le_sem hmo (lorc := lorcOf []) (ann := g_IndexFunc_MacRow_i_MacOk_1_ann) (keep := ⟨[0, 1, 7, 8], [], false, 1⟩) (kout := ⟨[4], [], false, 1⟩) teFact mixFact (orcOf_ok _) (by kernel_rfl) (allLoops_of (bs := []) (by kernel_rfl) trivial) g_IndexFunc_MacRow_i_MacOk_1_L0_r _ g_IndexFunc_MacRow_i_MacOk_1_L0_lk
def g_IndexFunc_MacRow_i_MacOk_1_L0_f (v0 : List MacRow) (v1 : Int) (v3 : Bytes) (v4 : Int) (v2 : Int) (a : Unit) : Stp (Unit) ((Int)) :=
  letK (α := Bool) (i_MacOk_1 (v0.getD v2.toNat (Ty.zero .macRow)) (⟨v3, v4⟩ : MacRow)) fun c1 =>
  bif c1 then
    .out (v2)
  else
  .next ()
theorem g_IndexFunc_MacRow_i_MacOk_1_L0_st (v0 : List MacRow) (v1 : Int) (v2 : Int) (v3 : Bytes) (v4 : Int) (hlo : 0 ≤ v2) (hhi : v2 < v1) (hN : v1 ≤ 4611686018427387904) (hi0 : v1 ≤ (v0.length : Int)) : g_IndexFunc_MacRow_i_MacOk_1_L0_r.step (g_IndexFunc_MacRow_i_MacOk_1_L0_mk v0 v1 v2 v3 v4) = Stp.elim (fun a' : Unit => some (Sum.inl (g_IndexFunc_MacRow_i_MacOk_1_L0_mk v0 v1 (v2 + 1) v3 v4))) (fun w => some (Sum.inr ((fun p : Int => Sum.inl (g_IndexFunc_MacRow_i_MacOk_1_L0_mx0 p v3 v4)) w))) (g_IndexFunc_MacRow_i_MacOk_1_L0_f v0 v1 v3 v4 v2 ()) := by
  have hw : (IntKind.wrap .i64 (v2 + 1)) = v2 + 1 := wrap64 (by omega) (by omega)
  show g_IndexFunc_MacRow_i_MacOk_1_L0_B v0 v1 v2 v3 v4 (Option (g_IndexFunc_MacRow_i_MacOk_1_L0_sh.T ⊕ WT g_IndexFunc_MacRow_i_MacOk_1_L0_es)) none (fun v' => some (Sum.inl v')) (fun w => some (Sum.inr w)) = _
  unfold g_IndexFunc_MacRow_i_MacOk_1_L0_B g_IndexFunc_MacRow_i_MacOk_1_L0_f
  exact bifG (by simp only [decide_eq_true_eq]; omega) (bifG (by (try simp only [Nat.ble_eq, Bool.and_eq_true, decide_eq_true_eq]); grind [maxSl, maxStr, toBytes_length, toInts_length, List.length_set, wrap64]) (letT (f := (Stp.elim (fun a' : Unit => some (Sum.inl (g_IndexFunc_MacRow_i_MacOk_1_L0_mk v0 v1 (v2 + 1) v3 v4))) (fun w => some (Sum.inr ((fun p : Int => Sum.inl (g_IndexFunc_MacRow_i_MacOk_1_L0_mx0 p v3 v4)) w))))) (fun c1 hc1 => bifT (f := (Stp.elim (fun a' : Unit => some (Sum.inl (g_IndexFunc_MacRow_i_MacOk_1_L0_mk v0 v1 (v2 + 1) v3 v4))) (fun w => some (Sum.inr ((fun p : Int => Sum.inl (g_IndexFunc_MacRow_i_MacOk_1_L0_mx0 p v3 v4)) w))))) (fun b0 => rfl)
      (fun b0 => (by exact congrArg (fun z => some (Sum.inl (g_IndexFunc_MacRow_i_MacOk_1_L0_mk v0 v1 z v3 v4))) hw)))))
theorem g_IndexFunc_MacRow_i_MacOk_1_L0_cl (v0 : List MacRow) (v1 : Int) (v2 : Int) (v3 : Bytes) (v4 : Int) (h0 : 0 ≤ v2) (h1 : v1 ≤ 4611686018427387904) (h2 : v1 ≤ (v0.length : Int)) : loopF g_IndexFunc_MacRow_i_MacOk_1_L0_r.step (g_IndexFunc_MacRow_i_MacOk_1_L0_fu v0 v1 v2 v3 v4) (g_IndexFunc_MacRow_i_MacOk_1_L0_mk v0 v1 v2 v3 v4) = some (Stp.elim (fun a => (fun i a => Sum.inr (g_IndexFunc_MacRow_i_MacOk_1_L0_mx1 v3 v4)) (v2 + 1 * (((Int.toNat (v1 - v2)) : Nat) : Int)) a) (fun p : Int => Sum.inl (g_IndexFunc_MacRow_i_MacOk_1_L0_mx0 p v3 v4)) (forN (g_IndexFunc_MacRow_i_MacOk_1_L0_f v0 v1 v3 v4) 1 (Int.toNat (v1 - v2)) v2 ())) :=
  forN_loop (step := g_IndexFunc_MacRow_i_MacOk_1_L0_r.step) (mk := fun v2 a => g_IndexFunc_MacRow_i_MacOk_1_L0_mk v0 v1 v2 v3 v4) (f := g_IndexFunc_MacRow_i_MacOk_1_L0_f v0 v1 v3 v4) (e := (fun i a => Sum.inr (g_IndexFunc_MacRow_i_MacOk_1_L0_mx1 v3 v4))) (emb := (fun p : Int => Sum.inl (g_IndexFunc_MacRow_i_MacOk_1_L0_mx0 p v3 v4))) (st := 1) (Inv := fun v2 a => True) (Int.toNat (v1 - v2)) v2 () _ (Nat.lt_succ_self _) trivial
    (fun j a hj hv => ⟨g_IndexFunc_MacRow_i_MacOk_1_L0_st v0 v1 (v2 + 1 * (j : Int)) v3 v4 (by omega) (by omega) (by omega) h2, fun _ _ => trivial⟩)
    (fun a hv => by
      show g_IndexFunc_MacRow_i_MacOk_1_L0_B v0 v1 (v2 + 1 * (((Int.toNat (v1 - v2)) : Nat) : Int)) v3 v4 (Option (g_IndexFunc_MacRow_i_MacOk_1_L0_sh.T ⊕ WT g_IndexFunc_MacRow_i_MacOk_1_L0_es)) none (fun v' => some (Sum.inl v')) (fun w => some (Sum.inr w)) = _
      unfold g_IndexFunc_MacRow_i_MacOk_1_L0_B
      exact bifN (by simp only [decide_eq_false_iff_not]; omega) rfl)
def g_IndexFunc_MacRow_i_MacOk_1_N (x0 : List MacRow) (y1_0 : MacRow) (γ : Type) (fail : γ) (k : Int × MacRow → γ) : γ :=
  optK (loopF g_IndexFunc_MacRow_i_MacOk_1_L0_r.step (g_IndexFunc_MacRow_i_MacOk_1_L0_fu x0 (x0.length : Int) 0 y1_0.input y1_0.value) (g_IndexFunc_MacRow_i_MacOk_1_L0_mk x0 (x0.length : Int) 0 y1_0.input y1_0.value)) fail fun w2 =>
    Sum.elim (fun w2 =>
      k (w2.1.1.1, (⟨w2.2.1.1, w2.2.1.2.1⟩ : MacRow)))
    (fun w2 =>
      k ((-1), (⟨w2.2.1.1, w2.2.1.2.1⟩ : MacRow))) w2
def g_IndexFunc_MacRow_i_MacOk_1 (x0 : List MacRow) (y1_0 : MacRow) : Int × MacRow :=
  Stp.elim (fun a3 =>
    ((-1), y1_0))
    (fun p3 =>
      (p3, y1_0))
    (forN (g_IndexFunc_MacRow_i_MacOk_1_L0_f x0 (x0.length : Int) y1_0.input y1_0.value) 1 (Int.toNat ((x0.length : Int) - 0)) 0 ())
theorem g_IndexFunc_MacRow_i_MacOk_1_lk (x0 : List MacRow) (y1_0 : MacRow) : evalFnM te (orcOf (P := Tryd.prog) [i_MacOk_1_e]) (lorcOf [g_IndexFunc_MacRow_i_MacOk_1_L0_le]) g_IndexFunc_MacRow_i_MacOk_1_ann Tryd.f99 (pvs [.sc (.sl .macRow), .fn 91 [0]] (x0, (), ())) (mos [.box [.c .str, .c (.int .i64)]] ((y1_0.input, y1_0.value, ()), ())) =
  g_IndexFunc_MacRow_i_MacOk_1_N x0 y1_0 _ none (fun v => some ([(false, [RC.c (.int .i64 v.1)])] ++ (mos [.box [.c .str, .c (.int .i64)]] ((v.2.input, v.2.value, ()), ())).map encO)) := by kernel_rfl
theorem g_IndexFunc_MacRow_i_MacOk_1_p (x0 : List MacRow) (y1_0 : MacRow) (hx0 : x0.length ≤ 140737488355328) (hx0_e : ∀ y ∈ x0, ∀ c ∈ Ty.cells .macRow y, FactC c) (hy1_0_input : List.length y1_0.input ≤ 4611686018427387904) (hy1_0_value : inK .i64 y1_0.value)  (γ : Type) (fail : γ) (k : Int × MacRow → γ) : g_IndexFunc_MacRow_i_MacOk_1_N x0 y1_0 γ fail k = k (g_IndexFunc_MacRow_i_MacOk_1 x0 y1_0) := by
  unfold g_IndexFunc_MacRow_i_MacOk_1_N g_IndexFunc_MacRow_i_MacOk_1
  refine loopT (f := k) (g_IndexFunc_MacRow_i_MacOk_1_L0_cl x0 (x0.length : Int) 0 y1_0.input y1_0.value ?_ ?_ ?_) (fun a3 => rfl)
      (fun p3 => rfl)
  all_goals ((try simp only [Nat.ble_eq, Bool.and_eq_true, decide_eq_true_eq, g_IndexFunc_MacRow_i_MacOk_1_L0_mx0, g_IndexFunc_MacRow_i_MacOk_1_L0_mx1]); grind [maxSl, maxStr, toBytes_length, toInts_length, List.length_set, wrap64])
theorem g_IndexFunc_MacRow_i_MacOk_1_c (x0 : List MacRow) (y1_0 : MacRow)  : ConM Tryd.prog 99 (pvs [.sc (.sl .macRow), .fn 91 [0]] (x0, (), ())) (mos [.box [.c .str, .c (.int .i64)]] ((y1_0.input, y1_0.value, ()), ())) [rv (.sc (.int .i64)) [] (g_IndexFunc_MacRow_i_MacOk_1 x0 y1_0).1] (mos [.box [.c .str, .c (.int .i64)]] ((((g_IndexFunc_MacRow_i_MacOk_1 x0 y1_0).2).input, ((g_IndexFunc_MacRow_i_MacOk_1 x0 y1_0).2).value, ()), ())) := by
  refine ConM.of_facts (enters_of Tryd.func99 rfl (by kernel_rfl)) fun hf hg => ?_
  replace hf := factAt hf
  refine evalFn_conLM teFact mixFact (orcOf_ok _) Tryd.func99 ?_ (bs := [0]) ?_ ?_ ?_ rfl (fun w0 mo I0 hmo => ⟨lsem_of_lorc (g_IndexFunc_MacRow_i_MacOk_1_L0_ls w0 mo I0 hmo) ?_, trivial⟩) ((g_IndexFunc_MacRow_i_MacOk_1_lk x0 y1_0).trans (g_IndexFunc_MacRow_i_MacOk_1_p x0 y1_0 ((hf 0 0 rfl rfl).len) (fun y hy => (hf 0 0 rfl rfl).elem hy) ((mbAt hg 0 0 rfl rfl).slen) ((mbAt hg 0 1 rfl rfl).rng) _ _ _))
  all_goals (kernel_rfl)
noncomputable def g_IndexFunc_MacRow_i_MacOk_1_e : Ent1 Tryd.prog := entM 99 [.sc (.sl .macRow), .fn 91 [0]] [.box [.c .str, .c (.int .i64)]] (fun x y => true) (fun x y => (g_IndexFunc_MacRow_i_MacOk_1 x.1 (⟨y.1.1, y.1.2.1⟩ : MacRow))) (fun v => [rv (.sc (.int .i64)) [] v.1]) (fun x y v => (mos [.box [.c .str, .c (.int .i64)]] ((v.2.input, v.2.value, ()), ()))) (fun x y hx => g_IndexFunc_MacRow_i_MacOk_1_c x.1 (⟨y.1.1, y.1.2.1⟩ : MacRow))


/-- slices.ContainsFunc[[]impl.MacRow,impl.MacRow] -/
def g_ContainsFunc_MacRow_i_MacOk_1_N (x0 : List MacRow) (y1_0 : MacRow) (γ : Type) (fail : γ) (k : Bool × MacRow → γ) : γ :=
  letK (α := Int × MacRow) (g_IndexFunc_MacRow_i_MacOk_1 x0 y1_0) fun c1 =>
  k ((decide (0 ≤ c1.1)), c1.2)
def g_ContainsFunc_MacRow_i_MacOk_1 (x0 : List MacRow) (y1_0 : MacRow) : Bool × MacRow :=
  letK (α := Int × MacRow) (g_IndexFunc_MacRow_i_MacOk_1 x0 y1_0) fun c1 =>
  ((decide (0 ≤ c1.1)), c1.2)
theorem g_ContainsFunc_MacRow_i_MacOk_1_lk (x0 : List MacRow) (y1_0 : MacRow) : evalFnM te (orcOf (P := Tryd.prog) [g_IndexFunc_MacRow_i_MacOk_1_e]) lorc0 [] Tryd.f90 (pvs [.sc (.sl .macRow), .fn 91 [0]] (x0, (), ())) (mos [.box [.c .str, .c (.int .i64)]] ((y1_0.input, y1_0.value, ()), ())) =
  g_ContainsFunc_MacRow_i_MacOk_1_N x0 y1_0 _ none (fun v => some ([(false, [RC.c (.bool v.1)])] ++ (mos [.box [.c .str, .c (.int .i64)]] ((v.2.input, v.2.value, ()), ())).map encO)) := by kernel_rfl
theorem g_ContainsFunc_MacRow_i_MacOk_1_p (x0 : List MacRow) (y1_0 : MacRow)   (γ : Type) (fail : γ) (k : Bool × MacRow → γ) : g_ContainsFunc_MacRow_i_MacOk_1_N x0 y1_0 γ fail k = k (g_ContainsFunc_MacRow_i_MacOk_1 x0 y1_0) := by
  unfold g_ContainsFunc_MacRow_i_MacOk_1_N g_ContainsFunc_MacRow_i_MacOk_1
  exact letT (f := k) (fun c1 hc1 => rfl)
theorem g_ContainsFunc_MacRow_i_MacOk_1_c (x0 : List MacRow) (y1_0 : MacRow)  : ConM Tryd.prog 90 (pvs [.sc (.sl .macRow), .fn 91 [0]] (x0, (), ())) (mos [.box [.c .str, .c (.int .i64)]] ((y1_0.input, y1_0.value, ()), ())) [rv (.sc .bool) [] (g_ContainsFunc_MacRow_i_MacOk_1 x0 y1_0).1] (mos [.box [.c .str, .c (.int .i64)]] ((((g_ContainsFunc_MacRow_i_MacOk_1 x0 y1_0).2).input, ((g_ContainsFunc_MacRow_i_MacOk_1 x0 y1_0).2).value, ()), ())) := by
  refine evalFn_conLM teFact mixFact (orcOf_ok _) Tryd.func90 ?_ (bs := []) ?_ ?_ ?_ rfl (fun w0 mo I0 hmo => trivial) ((g_ContainsFunc_MacRow_i_MacOk_1_lk x0 y1_0).trans (g_ContainsFunc_MacRow_i_MacOk_1_p x0 y1_0  _ _ _))
  all_goals (kernel_rfl)
noncomputable def g_ContainsFunc_MacRow_i_MacOk_1_e : Ent1 Tryd.prog := entM 90 [.sc (.sl .macRow), .fn 91 [0]] [.box [.c .str, .c (.int .i64)]] (fun x y => true) (fun x y => (g_ContainsFunc_MacRow_i_MacOk_1 x.1 (⟨y.1.1, y.1.2.1⟩ : MacRow))) (fun v => [rv (.sc .bool) [] v.1]) (fun x y v => (mos [.box [.c .str, .c (.int .i64)]] ((v.2.input, v.2.value, ()), ()))) (fun x y hx => g_ContainsFunc_MacRow_i_MacOk_1_c x.1 (⟨y.1.1, y.1.2.1⟩ : MacRow))


/-- impl.MacOk -/
def i_MacOk_ann : List (Nat × Keep) := [(0, ⟨[1, 27, 28, 29], [], false, 0⟩)]
def i_MacOk_L0_sh : Sh := ⟨[(1, false, [.ptr 0 0]), (27, false, [.sl .arg .macRow]), (28, false, [.int .i64]), (29, false, [.int .i64])], [.box [.bool, .int .u64, .int .u64, .sl .arg .macRow]]⟩
def i_MacOk_L0_es : List (Ex × Sh) := [(.ret, ⟨[(2, false, [.bool])], []⟩), (.exit 0, ⟨[(2, false, [.undef])], []⟩)]
def i_MacOk_L0_mk (v0 : List MacRow) (v1 : Int) (v2 : Int) (v3 : Bool) (v4 : Int) (v5 : Int) (v6 : List MacRow) : i_MacOk_L0_sh.T := ((((), ()), ((v0, ()), ((v1, ()), ((v2, ()), ())))), ((v3, (v4, (v5, (v6, ())))), ()))
def i_MacOk_L0_mx0 (y0 : Bool) : Sh.T ⟨[(2, false, [.bool])], []⟩ := (((y0, ()), ()), ())
def i_MacOk_L0_mx1  : Sh.T ⟨[(2, false, [.undef])], []⟩ := ((((), ()), ()), ())
def i_MacOk_L0_B (v0 : List MacRow) (v1 : Int) (v2 : Int) (v3 : Bool) (v4 : Int) (v5 : Int) (v6 : List MacRow) (γ : Type) (fail : γ) (next : i_MacOk_L0_sh.T → γ) (out : WT i_MacOk_L0_es → γ) : γ :=
  bif (decide (v2 < v1)) then
    bif ((decide (0 ≤ v2)) && (decide (v2 < (v0.length : Int)))) then
    letK (α := Bool) (i_within ((v0.getD v2.toNat (Ty.zero .macRow)).value) 0 16777215) fun c1 =>
    bif (!c1) then
      out (Sum.inl (i_MacOk_L0_mx0 false))
    else
    bif ((decide (0 ≤ v2)) && (decide (v2 ≤ (v6.length : Int)))) then
    letK (α := Bool × MacRow) (g_ContainsFunc_MacRow_i_MacOk_1 ((v6.take v2.toNat).drop 0) (v0.getD v2.toNat (Ty.zero .macRow))) fun c2 =>
    bif c2.1 then
      out (Sum.inl (i_MacOk_L0_mx0 false))
    else
    next (i_MacOk_L0_mk v0 v1 (IntKind.wrap .i64 (v2 + 1)) v3 v4 v5 v6)
    else fail
    else fail
  else
  out (Sum.inr (i_MacOk_L0_mx1 ))
theorem i_MacOk_L0_par (v0 : List MacRow) (v1 : Int) (v2 : Int) (v3 : Bool) (v4 : Int) (v5 : Int) (v6 : List MacRow) (γ : Type) (fail : γ) (next : i_MacOk_L0_sh.T → γ) (out : WT i_MacOk_L0_es → γ) : i_MacOk_L0_B v0 v1 v2 v3 v4 v5 v6 γ fail next out = optK (i_MacOk_L0_B v0 v1 v2 v3 v4 v5 v6 _ none (fun v' => some (.inl v')) (fun w => some (.inr w))) fail (fun r => Sum.elim next out r) := by
  unfold i_MacOk_L0_B
  repeat' (first | refine letT (f := (fun o => optK o fail (fun r => Sum.elim next out r))) (fun _ _ => ?_) | refine bifT (f := (fun o => optK o fail (fun r => Sum.elim next out r))) (fun _ => ?_) (fun _ => ?_) | rfl)
def i_MacOk_L0_r : Round i_MacOk_L0_sh.T (WT i_MacOk_L0_es) where
  B v γ fail next out := i_MacOk_L0_B v.1.2.1.1 v.1.2.2.1.1 v.1.2.2.2.1.1 v.2.1.1 v.2.1.2.1 v.2.1.2.2.1 v.2.1.2.2.2.1 γ fail next out
  par v γ fail next out := i_MacOk_L0_par v.1.2.1.1 v.1.2.2.1.1 v.1.2.2.2.1.1 v.2.1.1 v.2.1.2.1 v.2.1.2.2.1 v.2.1.2.2.2.1 γ fail next out
def i_MacOk_L0_fu (v0 : List MacRow) (v1 : Int) (v2 : Int) (v3 : Bool) (v4 : Int) (v5 : Int) (v6 : List MacRow) : Nat := (Int.toNat (v1 - v2)) + 1
theorem i_MacOk_L0_lk (v : i_MacOk_L0_sh.T) (next : St → Option Res) (k : Ex → St → Option Res) : evalK te (orcOf (P := Tryd.prog) [i_within_e, g_ContainsFunc_MacRow_i_MacOk_1_e]) (lorcOf []) Tryd.f76.ntmps i_MacOk_ann (nthLoop (bodyOf Tryd.f76) 0 0) 0 (i_MacOk_L0_sh.enc v) (endK ⟨[1, 27, 28, 29], [], false, 0⟩ ⟨[2], [], false, 0⟩ next k) =
  i_MacOk_L0_r.B v _ none (fun v' => next (i_MacOk_L0_sh.enc v')) (fun w => outK i_MacOk_L0_es k w) := by kernel_rfl
def i_MacOk_L0_le : LE := leOf 0 i_MacOk_L0_sh i_MacOk_L0_es i_MacOk_L0_r.step (fun v => i_MacOk_L0_fu v.1.2.1.1 v.1.2.2.1.1 v.1.2.2.2.1.1 v.2.1.1 v.2.1.2.1 v.2.1.2.2.1 v.2.1.2.2.2.1)
theorem i_MacOk_L0_ls (w0 : World) (mo : Mts) (I0 : Nat → Prop) (hmo : mo.length = 0) : LSem Tryd.prog (Sim w0 mo Tryd.f76.ntmps I0) (fun b s k => match Nat.beq 0 b with | true => i_MacOk_L0_le.run s k | false => none) 0 (nthLoop (bodyOf Tryd.f76) 0 0) :=
  le_sem hmo (lorc := lorcOf []) (ann := i_MacOk_ann) (keep := ⟨[1, 27, 28, 29], [], false, 0⟩) (kout := ⟨[2], [], false, 0⟩) teFact mixFact (orcOf_ok _) (by kernel_rfl) (allLoops_of (bs := []) (by kernel_rfl) trivial) i_MacOk_L0_r _ i_MacOk_L0_lk
def i_MacOk_L0_f (v0 : List MacRow) (v1 : Int) (v3 : Bool) (v4 : Int) (v5 : Int) (v6 : List MacRow) (v2 : Int) (a : Unit) : Stp (Unit) ((Unit)) :=
  letK (α := Bool) (i_within ((v0.getD v2.toNat (Ty.zero .macRow)).value) 0 16777215) fun c1 =>
  bif (!c1) then
    .out (())
  else
  letK (α := Bool × MacRow) (g_ContainsFunc_MacRow_i_MacOk_1 ((v6.take v2.toNat).drop 0) (v0.getD v2.toNat (Ty.zero .macRow))) fun c2 =>
  bif c2.1 then
    .out (())
  else
  .next ()
theorem i_MacOk_L0_st (v0 : List MacRow) (v1 : Int) (v2 : Int) (v3 : Bool) (v4 : Int) (v5 : Int) (v6 : List MacRow) (hlo : 0 ≤ v2) (hhi : v2 < v1) (hN : v1 ≤ 4611686018427387904) (hi0 : v1 ≤ (v0.length : Int)) (hi1 : v1 ≤ (v6.length : Int)) : i_MacOk_L0_r.step (i_MacOk_L0_mk v0 v1 v2 v3 v4 v5 v6) = Stp.elim (fun a' : Unit => some (Sum.inl (i_MacOk_L0_mk v0 v1 (v2 + 1) v3 v4 v5 v6))) (fun w => some (Sum.inr ((fun p : Unit => Sum.inl (i_MacOk_L0_mx0 false)) w))) (i_MacOk_L0_f v0 v1 v3 v4 v5 v6 v2 ()) := by
  have hw : (IntKind.wrap .i64 (v2 + 1)) = v2 + 1 := wrap64 (by omega) (by omega)
  show i_MacOk_L0_B v0 v1 v2 v3 v4 v5 v6 (Option (i_MacOk_L0_sh.T ⊕ WT i_MacOk_L0_es)) none (fun v' => some (Sum.inl v')) (fun w => some (Sum.inr w)) = _
  unfold i_MacOk_L0_B i_MacOk_L0_f
  refine bifG (by simp only [decide_eq_true_eq]; omega) (bifG ?_ (letT (f := (Stp.elim (fun a' : Unit => some (Sum.inl (i_MacOk_L0_mk v0 v1 (v2 + 1) v3 v4 v5 v6))) (fun w => some (Sum.inr ((fun p : Unit => Sum.inl (i_MacOk_L0_mx0 false)) w))))) (fun c1 hc1 => bifT (f := (Stp.elim (fun a' : Unit => some (Sum.inl (i_MacOk_L0_mk v0 v1 (v2 + 1) v3 v4 v5 v6))) (fun w => some (Sum.inr ((fun p : Unit => Sum.inl (i_MacOk_L0_mx0 false)) w))))) (fun b0 => rfl)
      (fun b0 => bifG ?_ (letT (f := (Stp.elim (fun a' : Unit => some (Sum.inl (i_MacOk_L0_mk v0 v1 (v2 + 1) v3 v4 v5 v6))) (fun w => some (Sum.inr ((fun p : Unit => Sum.inl (i_MacOk_L0_mx0 false)) w))))) (fun c2 hc2 => bifT (f := (Stp.elim (fun a' : Unit => some (Sum.inl (i_MacOk_L0_mk v0 v1 (v2 + 1) v3 v4 v5 v6))) (fun w => some (Sum.inr ((fun p : Unit => Sum.inl (i_MacOk_L0_mx0 false)) w))))) (fun b1 => rfl)
      (fun b1 => (by exact congrArg (fun z => some (Sum.inl (i_MacOk_L0_mk v0 v1 z v3 v4 v5 v6))) hw))))))))
  all_goals ((try simp only [Nat.ble_eq, Bool.and_eq_true, decide_eq_true_eq]); grind [maxSl, maxStr, toBytes_length, toInts_length, List.length_set, wrap64])
theorem i_MacOk_L0_cl (v0 : List MacRow) (v1 : Int) (v2 : Int) (v3 : Bool) (v4 : Int) (v5 : Int) (v6 : List MacRow) (h0 : 0 ≤ v2) (h1 : v1 ≤ 4611686018427387904) (h2 : v1 ≤ (v0.length : Int)) (h3 : v1 ≤ (v6.length : Int)) : loopF i_MacOk_L0_r.step (i_MacOk_L0_fu v0 v1 v2 v3 v4 v5 v6) (i_MacOk_L0_mk v0 v1 v2 v3 v4 v5 v6) = some (Stp.elim (fun a => (fun i a => Sum.inr (i_MacOk_L0_mx1 )) (v2 + 1 * (((Int.toNat (v1 - v2)) : Nat) : Int)) a) (fun p : Unit => Sum.inl (i_MacOk_L0_mx0 false)) (forN (i_MacOk_L0_f v0 v1 v3 v4 v5 v6) 1 (Int.toNat (v1 - v2)) v2 ())) :=
  forN_loop (step := i_MacOk_L0_r.step) (mk := fun v2 a => i_MacOk_L0_mk v0 v1 v2 v3 v4 v5 v6) (f := i_MacOk_L0_f v0 v1 v3 v4 v5 v6) (e := (fun i a => Sum.inr (i_MacOk_L0_mx1 ))) (emb := (fun p : Unit => Sum.inl (i_MacOk_L0_mx0 false))) (st := 1) (Inv := fun v2 a => True) (Int.toNat (v1 - v2)) v2 () _ (Nat.lt_succ_self _) trivial
    (fun j a hj hv => ⟨i_MacOk_L0_st v0 v1 (v2 + 1 * (j : Int)) v3 v4 v5 v6 (by omega) (by omega) (by omega) h2 h3, fun _ _ => trivial⟩)
    (fun a hv => by
      show i_MacOk_L0_B v0 v1 (v2 + 1 * (((Int.toNat (v1 - v2)) : Nat) : Int)) v3 v4 v5 v6 (Option (i_MacOk_L0_sh.T ⊕ WT i_MacOk_L0_es)) none (fun v' => some (Sum.inl v')) (fun w => some (Sum.inr w)) = _
      unfold i_MacOk_L0_B
      exact bifN (by simp only [decide_eq_false_iff_not]; omega) rfl)
def i_MacOk_N (x0 : Mac) (γ : Type) (fail : γ) (k : Bool → γ) : γ :=
  bif (!x0.use) then
    k ((x0.rows.length : Int) == 0)
  else
  bif (x0.k != 0) then
    k false
  else
  bif (x0.l != 0) then
    k false
  else
  bif (decide (64 < (x0.rows.length : Int))) then
    k false
  else
  optK (loopF i_MacOk_L0_r.step (i_MacOk_L0_fu x0.rows (x0.rows.length : Int) 0 x0.use x0.k x0.l x0.rows) (i_MacOk_L0_mk x0.rows (x0.rows.length : Int) 0 x0.use x0.k x0.l x0.rows)) fail fun w3 =>
    Sum.elim (fun w3 =>
      k w3.1.1.1)
    (fun w3 =>
      k true) w3
def i_MacOk (x0 : Mac) : Bool :=
  bif (!x0.use) then
    ((x0.rows.length : Int) == 0)
  else
  bif (x0.k != 0) then
    false
  else
  bif (x0.l != 0) then
    false
  else
  bif (decide (64 < (x0.rows.length : Int))) then
    false
  else
  Stp.elim (fun a4 =>
    true)
    (fun p4 =>
      false)
    (forN (i_MacOk_L0_f x0.rows (x0.rows.length : Int) x0.use x0.k x0.l x0.rows) 1 (Int.toNat ((x0.rows.length : Int) - 0)) 0 ())
theorem i_MacOk_lk (x0 : Mac) : evalFn te (orcOf (P := Tryd.prog) [i_within_e, g_ContainsFunc_MacRow_i_MacOk_1_e]) (lorcOf [i_MacOk_L0_le]) i_MacOk_ann Tryd.f76 (pvs [.st .mac] (x0, ())) =
  i_MacOk_N x0 _ none (fun v => some [(false, [RC.c (.bool v)])]) := by kernel_rfl
theorem i_MacOk_p (x0 : Mac) (hx0_k : inK .u64 x0.k) (hx0_l : inK .u64 x0.l) (hx0_rows : x0.rows.length ≤ 140737488355328) (hx0_rows_e : ∀ y ∈ x0.rows, ∀ c ∈ Ty.cells .macRow y, FactC c)  (γ : Type) (fail : γ) (k : Bool → γ) : i_MacOk_N x0 γ fail k = k (i_MacOk x0) := by
  unfold i_MacOk_N i_MacOk
  refine bifT (f := k) (fun b0 => rfl)
      (fun b0 => bifT (f := k) (fun b1 => rfl)
      (fun b1 => bifT (f := k) (fun b2 => rfl)
      (fun b2 => bifT (f := k) (fun b3 => rfl)
      (fun b3 => loopT (f := k) (i_MacOk_L0_cl x0.rows (x0.rows.length : Int) 0 x0.use x0.k x0.l x0.rows ?_ ?_ ?_ ?_) (fun a4 => rfl)
      (fun p4 => rfl)))))
  all_goals ((try simp only [Nat.ble_eq, Bool.and_eq_true, decide_eq_true_eq, i_MacOk_L0_mx0, i_MacOk_L0_mx1]); grind [maxSl, maxStr, toBytes_length, toInts_length, List.length_set, wrap64])
theorem i_MacOk_c (x0 : Mac)  : Con Tryd.prog 76 (pvs [.st .mac] (x0, ())) [rv (.sc .bool) [] (i_MacOk x0)] := by
  refine Con.of_facts (enters_of Tryd.func76 rfl (by kernel_rfl)) fun hf => ?_
  replace hf := factAt hf
  refine evalFn_conL teFact mixFact (orcOf_ok _) Tryd.func76 ?_ (bs := [0]) ?_ ?_ (fun w0 mo I0 hmo => ⟨lsem_of_lorc (i_MacOk_L0_ls w0 mo I0 hmo) ?_, trivial⟩) ((i_MacOk_lk x0).trans (i_MacOk_p x0 ((hf 0 1 rfl rfl).rng) ((hf 0 2 rfl rfl).rng) ((hf 0 3 rfl rfl).len) (fun y hy => (hf 0 3 rfl rfl).elem hy) _ _ _))
  all_goals (kernel_rfl)
noncomputable def i_MacOk_e : Ent1 Tryd.prog := entA 76 [.st .mac] (fun x => (i_MacOk x.1)) (fun v => [rv (.sc .bool) [] v]) (fun x => i_MacOk_c x.1)


end Go.Proofs.YtcjbalpokdgicaaDoor
