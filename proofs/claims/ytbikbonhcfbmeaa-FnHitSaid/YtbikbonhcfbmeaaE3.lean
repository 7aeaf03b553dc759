/-
  Contracts of functions and plain laws (printed by a program): each theorem says what a function of the program returns; conditions are its hypotheses.
-/
import Derived.Test.YtbikbonhcfbmeaaE2
set_option maxRecDepth 4000
set_option linter.unusedVariables false
set_option linter.unusedSimpArgs false
namespace Go.Proofs.Ytbikbonhcfbmeaa
open Go Go.RowKit

/-- spec.l31Args -/
def s_l31Args_ann : List (Nat × Keep) := [(0, ⟨[0, 4, 5, 6, 7], [], false, 1⟩)]
def s_l31Args_L0_sh : Sh := ⟨[(0, false, [.ptr 0 0]), (4, false, [.int .i64]), (5, false, [.own 1]), (6, false, [.int .i64]), (7, false, [.int .i64])], [.box [.sl .any .u8, .int .i64, .int .i64], .arr .issu false true]⟩
def s_l31Args_L0_es : List (Ex × Sh) := [(.exit 0, ⟨[(0, false, [.ptr 0 0]), (2, false, [.undef]), (3, false, [.undef]), (4, false, [.int .i64]), (5, false, [.own 1])], [.box [.sl .any .u8, .int .i64, .int .i64], .arr .issu false true]⟩)]
def s_l31Args_L0_mk (v0 : Int) (v1 : Int) (v2 : Int) (v3 : List Int) (v4 : Int) (v5 : Int) (v6 : List Issu) : s_l31Args_L0_sh.T := ((((), ()), ((v0, ()), (((), ()), ((v1, ()), ((v2, ()), ()))))), ((v3, (v4, (v5, ()))), (v6, ())))
def s_l31Args_L0_mx0 (y0 : Int) (y1 : List Int) (y2 : Int) (y3 : Int) (y4 : List Issu) : Sh.T ⟨[(0, false, [.ptr 0 0]), (2, false, [.undef]), (3, false, [.undef]), (4, false, [.int .i64]), (5, false, [.own 1])], [.box [.sl .any .u8, .int .i64, .int .i64], .arr .issu false true]⟩ := ((((), ()), (((), ()), (((), ()), ((y0, ()), (((), ()), ()))))), ((y1, (y2, (y3, ()))), (y4, ())))
def s_l31Args_L0_B (v0 : Int) (v1 : Int) (v2 : Int) (v3 : List Int) (v4 : Int) (v5 : Int) (v6 : List Issu) (γ : Type) (fail : γ) (next : s_l31Args_L0_sh.T → γ) (out : WT s_l31Args_L0_es → γ) : γ :=
  bif (decide (v2 < v1)) then
    bif (decide (0 ≤ (⟨v3, v4, v5⟩ : Curs).i ∧ (⟨v3, v4, v5⟩ : Curs).b.length ≤ 1048576)) then
    letK (α := Issu × Curs) (s_l31Guess (⟨v3, v4, v5⟩ : Curs) v0) fun c3 =>
    bif (decide (0 ≤ c3.2.i ∧ c3.2.b.length ≤ 1048576)) then
    letK (α := Bool × Curs) (s_l1Once c3.2 10) fun c4 =>
    bif c4.1 then
      bif (decide (0 ≤ c4.2.i ∧ c4.2.b.length ≤ 1048576)) then
      letK (α := Int × Curs) (s_l4Place c4.2) fun c5 =>
      bif (Nat.ble ((2 * (v6.length + 1) + 1024) * 40) maxSl) then
      next (s_l31Args_L0_mk v0 v1 (IntKind.wrap .i64 (v2 + 1)) c5.2.b c5.2.i c5.2.h (v6 ++ [({ c3.1 with cookie := c5.1 } : Issu)]))
      else fail
      else fail
    else
    bif (Nat.ble ((2 * (v6.length + 1) + 1024) * 40) maxSl) then
    next (s_l31Args_L0_mk v0 v1 (IntKind.wrap .i64 (v2 + 1)) c4.2.b c4.2.i c4.2.h (v6 ++ [c3.1]))
    else fail
    else fail
    else fail
  else
  out (s_l31Args_L0_mx0 v0 v3 v4 v5 v6)
theorem s_l31Args_L0_par (v0 : Int) (v1 : Int) (v2 : Int) (v3 : List Int) (v4 : Int) (v5 : Int) (v6 : List Issu) (γ : Type) (fail : γ) (next : s_l31Args_L0_sh.T → γ) (out : WT s_l31Args_L0_es → γ) : s_l31Args_L0_B v0 v1 v2 v3 v4 v5 v6 γ fail next out = optK (s_l31Args_L0_B v0 v1 v2 v3 v4 v5 v6 _ none (fun v' => some (.inl v')) (fun w => some (.inr w))) fail (fun r => Sum.elim next out r) := by
  unfold s_l31Args_L0_B
  exact bifT (f := (fun o => optK o fail (fun r => Sum.elim next out r))) (fun _ => bifT (f := (fun o => optK o fail (fun r => Sum.elim next out r))) (fun _ => letT (f := (fun o => optK o fail (fun r => Sum.elim next out r))) (fun c3 _ => bifT (f := (fun o => optK o fail (fun r => Sum.elim next out r))) (fun _ => letT (f := (fun o => optK o fail (fun r => Sum.elim next out r))) (fun c4 _ => bifT (f := (fun o => optK o fail (fun r => Sum.elim next out r))) (fun _ => bifT (f := (fun o => optK o fail (fun r => Sum.elim next out r))) (fun _ => letT (f := (fun o => optK o fail (fun r => Sum.elim next out r))) (fun c5 _ => bifT (f := (fun o => optK o fail (fun r => Sum.elim next out r))) (fun _ => rfl) (fun _ => rfl))) (fun _ => rfl))
      (fun _ => bifT (f := (fun o => optK o fail (fun r => Sum.elim next out r))) (fun _ => rfl) (fun _ => rfl)))) (fun _ => rfl))) (fun _ => rfl))
      (fun _ => rfl)
def s_l31Args_L0_r : Round s_l31Args_L0_sh.T (WT s_l31Args_L0_es) where
  B v γ fail next out := s_l31Args_L0_B v.1.2.1.1 v.1.2.2.2.1.1 v.1.2.2.2.2.1.1 v.2.1.1 v.2.1.2.1 v.2.1.2.2.1 v.2.2.1 γ fail next out
  par v γ fail next out := s_l31Args_L0_par v.1.2.1.1 v.1.2.2.2.1.1 v.1.2.2.2.2.1.1 v.2.1.1 v.2.1.2.1 v.2.1.2.2.1 v.2.2.1 γ fail next out
def s_l31Args_L0_fu (v0 : Int) (v1 : Int) (v2 : Int) (v3 : List Int) (v4 : Int) (v5 : Int) (v6 : List Issu) : Nat := (Int.toNat (v1 - v2)) + 1
theorem s_l31Args_L0_lk (v : s_l31Args_L0_sh.T) (next : St → Option Res) (k : Ex → St → Option Res) : evalK te (orcOf (P := Try.prog) [s_l1PickInt_e, s_l1Below_e, s_l31Guess_e, s_l1Once_e, s_l4Place_e, s_l12Bent_e]) (lorcOf []) Try.f60.ntmps s_l31Args_ann (nthLoop (bodyOf Try.f60) 0 0) 0 (s_l31Args_L0_sh.enc v) (endK ⟨[0, 4, 5, 6, 7], [], false, 1⟩ ⟨[0, 2, 3, 4, 5], [], false, 1⟩ next k) =
  s_l31Args_L0_r.B v _ none (fun v' => next (s_l31Args_L0_sh.enc v')) (fun w => outK s_l31Args_L0_es k w) := by kernel_rfl
def s_l31Args_L0_le : LE := leOf 0 s_l31Args_L0_sh s_l31Args_L0_es s_l31Args_L0_r.step (fun v => s_l31Args_L0_fu v.1.2.1.1 v.1.2.2.2.1.1 v.1.2.2.2.2.1.1 v.2.1.1 v.2.1.2.1 v.2.1.2.2.1 v.2.2.1)
theorem s_l31Args_L0_ls (w0 : World) (mo : Mts) (I0 : Nat → Prop) (hmo : mo.length = 1) : LSem Try.prog (Sim w0 mo Try.f60.ntmps I0) (fun b s k => match Nat.beq 0 b with | true => s_l31Args_L0_le.run s k | false => none) 0 (nthLoop (bodyOf Try.f60) 0 0) :=
  le_sem hmo (lorc := lorcOf []) (ann := s_l31Args_ann) (keep := ⟨[0, 4, 5, 6, 7], [], false, 1⟩) (kout := ⟨[0, 2, 3, 4, 5], [], false, 1⟩) teFact mixFact (orcOf_ok _) (by kernel_rfl) (allLoops_of (bs := []) (by kernel_rfl) trivial) s_l31Args_L0_r _ s_l31Args_L0_lk
def s_l31Args_L0_f (v0 : Int) (v1 : Int) (v2 : Int) (a : List Int × Int × Int × List Issu) : Stp (List Int × Int × Int × List Issu) (Empty) :=
  letK (α := Issu × Curs) (s_l31Guess (⟨a.1, a.2.1, a.2.2.1⟩ : Curs) v0) fun c3 =>
  letK (α := Bool × Curs) (s_l1Once c3.2 10) fun c4 =>
  bif c4.1 then
    letK (α := Int × Curs) (s_l4Place c4.2) fun c5 =>
    .next (c5.2.b, c5.2.i, c5.2.h, (a.2.2.2 ++ [({ c3.1 with cookie := c5.1 } : Issu)]))
  else
  .next (c4.2.b, c4.2.i, c4.2.h, (a.2.2.2 ++ [c3.1]))
theorem s_l31Args_L0_st (v0 : Int) (v1 : Int) (v2 : Int) (v3 : List Int) (v4 : Int) (v5 : Int) (v6 : List Issu) (hlo : 0 ≤ v2) (hhi : v2 < v1) (hN : v1 ≤ 4611686018427387904) (hi0 : v1 ≤ 1048576) (hinv : 0 ≤ v4 ∧ v3.length ≤ 1048576 ∧ (v6.length : Int) ≤ v2) : s_l31Args_L0_r.step (s_l31Args_L0_mk v0 v1 v2 v3 v4 v5 v6) = Stp.elim (fun a' : List Int × Int × Int × List Issu => some (Sum.inl (s_l31Args_L0_mk v0 v1 (v2 + 1) a'.1 a'.2.1 a'.2.2.1 a'.2.2.2))) (fun w => some (Sum.inr ((fun p : Empty => nomatch p) w))) (s_l31Args_L0_f v0 v1 v2 (v3, v4, v5, v6)) := by
  have hw : (IntKind.wrap .i64 (v2 + 1)) = v2 + 1 := wrap64 (by omega) (by omega)
  show s_l31Args_L0_B v0 v1 v2 v3 v4 v5 v6 (Option (s_l31Args_L0_sh.T ⊕ WT s_l31Args_L0_es)) none (fun v' => some (Sum.inl v')) (fun w => some (Sum.inr w)) = _
  unfold s_l31Args_L0_B s_l31Args_L0_f
  exact bifG (by simp only [decide_eq_true_eq]; omega) (bifG (by (try simp only [Nat.ble_eq, Bool.and_eq_true, decide_eq_true_eq]); grind [maxSl, maxStr, toBytes_length, toInts_length, List.length_set, wrap64, s_l1PickInt_cur, s_l1Below_rng, s_l1Below_cur, s_l31Guess_cur, s_l1Once_cur, s_l4Place_cur, s_l12Bent_cur]) (letT (f := (Stp.elim (fun a' : List Int × Int × Int × List Issu => some (Sum.inl (s_l31Args_L0_mk v0 v1 (v2 + 1) a'.1 a'.2.1 a'.2.2.1 a'.2.2.2))) (fun w => some (Sum.inr ((fun p : Empty => nomatch p) w))))) (fun (c3 : Issu × Curs) hc3 => have kc3 : 0 ≤ c3.2.i ∧ c3.2.b.length ≤ 1048576 := (by rw [hc3]; exact s_l31Guess_cur _ _ (by first | assumption | exact ⟨by assumption, by assumption⟩ | grind [maxSl, wrap64, s_l31Args_L0_mx0])); bifG (by (try simp only [Nat.ble_eq, Bool.and_eq_true, decide_eq_true_eq]); grind [maxSl, maxStr, toBytes_length, toInts_length, List.length_set, wrap64, s_l1PickInt_cur, s_l1Below_rng, s_l1Below_cur, s_l31Guess_cur, s_l1Once_cur, s_l4Place_cur, s_l12Bent_cur]) (letT (f := (Stp.elim (fun a' : List Int × Int × Int × List Issu => some (Sum.inl (s_l31Args_L0_mk v0 v1 (v2 + 1) a'.1 a'.2.1 a'.2.2.1 a'.2.2.2))) (fun w => some (Sum.inr ((fun p : Empty => nomatch p) w))))) (fun (c4 : Bool × Curs) hc4 => have kc4 : 0 ≤ c4.2.i ∧ c4.2.b.length ≤ 1048576 := (by rw [hc4]; exact s_l1Once_cur _ _ (by first | assumption | exact ⟨by assumption, by assumption⟩ | grind [maxSl, wrap64, s_l31Args_L0_mx0])); bifT (f := (Stp.elim (fun a' : List Int × Int × Int × List Issu => some (Sum.inl (s_l31Args_L0_mk v0 v1 (v2 + 1) a'.1 a'.2.1 a'.2.2.1 a'.2.2.2))) (fun w => some (Sum.inr ((fun p : Empty => nomatch p) w))))) (fun b0 => bifG (by (try simp only [Nat.ble_eq, Bool.and_eq_true, decide_eq_true_eq]); grind [maxSl, maxStr, toBytes_length, toInts_length, List.length_set, wrap64, s_l1PickInt_cur, s_l1Below_rng, s_l1Below_cur, s_l31Guess_cur, s_l1Once_cur, s_l4Place_cur, s_l12Bent_cur]) (letT (f := (Stp.elim (fun a' : List Int × Int × Int × List Issu => some (Sum.inl (s_l31Args_L0_mk v0 v1 (v2 + 1) a'.1 a'.2.1 a'.2.2.1 a'.2.2.2))) (fun w => some (Sum.inr ((fun p : Empty => nomatch p) w))))) (fun (c5 : Int × Curs) hc5 => have kc5 : 0 ≤ c5.2.i ∧ c5.2.b.length ≤ 1048576 := (by rw [hc5]; exact s_l4Place_cur _ (by first | assumption | exact ⟨by assumption, by assumption⟩ | grind [maxSl, wrap64, s_l31Args_L0_mx0])); bifG (by (try simp only [Nat.ble_eq, Bool.and_eq_true, decide_eq_true_eq]); grind [maxSl, maxStr, toBytes_length, toInts_length, List.length_set, wrap64, s_l1PickInt_cur, s_l1Below_rng, s_l1Below_cur, s_l31Guess_cur, s_l1Once_cur, s_l4Place_cur, s_l12Bent_cur]) ((by exact congrArg (fun z => some (Sum.inl (s_l31Args_L0_mk v0 v1 z c5.2.b c5.2.i c5.2.h (v6 ++ [({ c3.1 with cookie := c5.1 } : Issu)])))) hw)))))
      (fun b0 => bifG (by (try simp only [Nat.ble_eq, Bool.and_eq_true, decide_eq_true_eq]); grind [maxSl, maxStr, toBytes_length, toInts_length, List.length_set, wrap64, s_l1PickInt_cur, s_l1Below_rng, s_l1Below_cur, s_l31Guess_cur, s_l1Once_cur, s_l4Place_cur, s_l12Bent_cur]) ((by exact congrArg (fun z => some (Sum.inl (s_l31Args_L0_mk v0 v1 z c4.2.b c4.2.i c4.2.h (v6 ++ [c3.1])))) hw))))))))
theorem s_l31Args_L0_cl (v0 : Int) (v1 : Int) (v2 : Int) (v3 : List Int) (v4 : Int) (v5 : Int) (v6 : List Issu) (h0 : 0 ≤ v2) (h1 : v1 ≤ 4611686018427387904) (h2 : v1 ≤ 1048576) (h3 : 0 ≤ v4 ∧ v3.length ≤ 1048576 ∧ (v6.length : Int) ≤ v2) : loopF s_l31Args_L0_r.step (s_l31Args_L0_fu v0 v1 v2 v3 v4 v5 v6) (s_l31Args_L0_mk v0 v1 v2 v3 v4 v5 v6) = some (Stp.elim (fun a => (fun i a => s_l31Args_L0_mx0 v0 a.1 a.2.1 a.2.2.1 a.2.2.2) (v2 + 1 * (((Int.toNat (v1 - v2)) : Nat) : Int)) a) (fun p : Empty => nomatch p) (forN (s_l31Args_L0_f v0 v1) 1 (Int.toNat (v1 - v2)) v2 (v3, v4, v5, v6))) :=
  forN_loop (step := s_l31Args_L0_r.step) (mk := fun v2 a => s_l31Args_L0_mk v0 v1 v2 a.1 a.2.1 a.2.2.1 a.2.2.2) (f := s_l31Args_L0_f v0 v1) (e := (fun i a => s_l31Args_L0_mx0 v0 a.1 a.2.1 a.2.2.1 a.2.2.2)) (emb := (fun p : Empty => nomatch p)) (st := 1) (Inv := fun v2 a => 0 ≤ a.2.1 ∧ a.1.length ≤ 1048576 ∧ (a.2.2.2.length : Int) ≤ v2) (Int.toNat (v1 - v2)) v2 (v3, v4, v5, v6) _ (Nat.lt_succ_self _) h3
    (fun j a hj hv => ⟨s_l31Args_L0_st v0 v1 (v2 + 1 * (j : Int)) a.1 a.2.1 a.2.2.1 a.2.2.2 (by omega) (by omega) (by omega) h2 hv, by
      intro a' he
      have k1 := s_l31Guess_cur (⟨a.1, a.2.1, a.2.2.1⟩ : Curs) v0 ⟨hv.1, hv.2.1⟩
      have k2 := s_l1Once_cur _ 10 k1
      unfold s_l31Args_L0_f at he
      simp only [letK] at he
      cases hc : (s_l1Once (s_l31Guess (⟨a.1, a.2.1, a.2.2.1⟩ : Curs) v0).2 10).1 <;> rw [hc] at he <;> cases he
      · exact ⟨k2.1, k2.2, by simp only [List.length_append, List.length_singleton]; have := hv.2.2; omega⟩
      · have k3 := s_l4Place_cur _ k2
        exact ⟨k3.1, k3.2, by simp only [List.length_append, List.length_singleton]; have := hv.2.2; omega⟩⟩)
    (fun a hv => by
      show s_l31Args_L0_B v0 v1 (v2 + 1 * (((Int.toNat (v1 - v2)) : Nat) : Int)) a.1 a.2.1 a.2.2.1 a.2.2.2 (Option (s_l31Args_L0_sh.T ⊕ WT s_l31Args_L0_es)) none (fun v' => some (Sum.inl v')) (fun w => some (Sum.inr w)) = _
      unfold s_l31Args_L0_B
      exact bifN (by simp only [decide_eq_false_iff_not]; omega) rfl)
theorem s_l31Args_L0_nx (v0 : Int) (v1 : Int) (v2 : Int) (v3 : List Int) (v4 : Int) (v5 : Int) (v6 : List Issu) (h0 : 0 ≤ v2) (h1 : v1 ≤ 4611686018427387904) (h2 : v1 ≤ 1048576) (h3 : 0 ≤ v4 ∧ v3.length ≤ 1048576 ∧ (v6.length : Int) ≤ v2) : ∀ a', forN (s_l31Args_L0_f v0 v1) 1 (Int.toNat (v1 - v2)) v2 (v3, v4, v5, v6) = .next a' → 0 ≤ a'.2.1 ∧ a'.1.length ≤ 1048576 ∧ (a'.2.2.2.length : Int) ≤ (v2 + 1 * (((Int.toNat (v1 - v2)) : Nat) : Int)) :=
  forN_inv (f := s_l31Args_L0_f v0 v1) (st := 1) (Inv := fun v2 a => 0 ≤ a.2.1 ∧ a.1.length ≤ 1048576 ∧ (a.2.2.2.length : Int) ≤ v2) (Int.toNat (v1 - v2)) v2 (v3, v4, v5, v6) h3
    (fun j a hj hv => by
      intro a' he
      have k1 := s_l31Guess_cur (⟨a.1, a.2.1, a.2.2.1⟩ : Curs) v0 ⟨hv.1, hv.2.1⟩
      have k2 := s_l1Once_cur _ 10 k1
      unfold s_l31Args_L0_f at he
      simp only [letK] at he
      cases hc : (s_l1Once (s_l31Guess (⟨a.1, a.2.1, a.2.2.1⟩ : Curs) v0).2 10).1 <;> rw [hc] at he <;> cases he
      · exact ⟨k2.1, k2.2, by simp only [List.length_append, List.length_singleton]; have := hv.2.2; omega⟩
      · have k3 := s_l4Place_cur _ k2
        exact ⟨k3.1, k3.2, by simp only [List.length_append, List.length_singleton]; have := hv.2.2; omega⟩)
def s_l31Args_N (y0 : Curs) (γ : Type) (fail : γ) (k : Int × List Issu × Curs → γ) : γ :=
  bif (decide ((0 ≤ y0.i ∧ y0.b.length ≤ 1048576) ∧ 0 < ([0, 1, 31, 32, 33, 4294967295] : List Int).length)) then
  letK (α := Int × Curs) (s_l1PickInt y0 [0, 1, 31, 32, 33, 4294967295]) fun c1 =>
  bif (decide (0 ≤ c1.2.i ∧ c1.2.b.length ≤ 1048576)) then
  letK (α := Int × Curs) (s_l1Below c1.2 5) fun c2 =>
  optK (loopF s_l31Args_L0_r.step (s_l31Args_L0_fu c1.1 c2.1 0 c2.2.b c2.2.i c2.2.h []) (s_l31Args_L0_mk c1.1 c2.1 0 c2.2.b c2.2.i c2.2.h [])) fail fun w6 =>
    bif (decide (0 ≤ (⟨w6.2.1.1, w6.2.1.2.1, w6.2.1.2.2.1⟩ : Curs).i ∧ (⟨w6.2.1.1, w6.2.1.2.1, w6.2.1.2.2.1⟩ : Curs).b.length ≤ 1048576)) then
    letK (α := Bool × Curs) (s_l1Once (⟨w6.2.1.1, w6.2.1.2.1, w6.2.1.2.2.1⟩ : Curs) 12) fun c7 =>
    bif c7.1 then
      bif (decide ((0 ≤ c7.2.i ∧ c7.2.b.length ≤ 1048576) ∧ 0 < ([(-1), 4294967296] : List Int).length)) then
      letK (α := Int × Curs) (s_l1PickInt c7.2 [(-1), 4294967296]) fun c8 =>
      bif (decide (0 ≤ c8.2.i ∧ c8.2.b.length ≤ 1048576)) then
      letK (α := Bool × Curs) (s_l1Once c8.2 12) fun c9 =>
      bif c9.1 then
        bif (decide (0 ≤ c9.2.i ∧ c9.2.b.length ≤ 1048576)) then
        letK (α := Tupl × Curs) (s_l12Bent c9.2) fun c10 =>
        bif (decide (0 ≤ c10.2.i ∧ c10.2.b.length ≤ 1048576)) then
        letK (α := Int × Curs) (s_l4Place c10.2) fun c11 =>
        bif (Nat.ble ((2 * (w6.2.2.1.length + 1) + 1024) * 40) maxSl) then
        k (c8.1, (w6.2.2.1 ++ [(⟨c10.1, c11.1, 0⟩ : Issu)]), c11.2)
        else fail
        else fail
        else fail
      else
      k (c8.1, w6.2.2.1, c9.2)
      else fail
      else fail
    else
    bif (decide (0 ≤ c7.2.i ∧ c7.2.b.length ≤ 1048576)) then
    letK (α := Bool × Curs) (s_l1Once c7.2 12) fun c12 =>
    bif c12.1 then
      bif (decide (0 ≤ c12.2.i ∧ c12.2.b.length ≤ 1048576)) then
      letK (α := Tupl × Curs) (s_l12Bent c12.2) fun c13 =>
      bif (decide (0 ≤ c13.2.i ∧ c13.2.b.length ≤ 1048576)) then
      letK (α := Int × Curs) (s_l4Place c13.2) fun c14 =>
      bif (Nat.ble ((2 * (w6.2.2.1.length + 1) + 1024) * 40) maxSl) then
      k (w6.1.2.2.2.1.1, (w6.2.2.1 ++ [(⟨c13.1, c14.1, 0⟩ : Issu)]), c14.2)
      else fail
      else fail
      else fail
    else
    k (w6.1.2.2.2.1.1, w6.2.2.1, c12.2)
    else fail
    else fail
  else fail
  else fail
def s_l31Args (y0 : Curs) : Int × List Issu × Curs :=
  letK (α := Int × Curs) (s_l1PickInt y0 [0, 1, 31, 32, 33, 4294967295]) fun c1 =>
  letK (α := Int × Curs) (s_l1Below c1.2 5) fun c2 =>
  Stp.elim (fun a15 =>
    letK (α := Bool × Curs) (s_l1Once (⟨a15.1, a15.2.1, a15.2.2.1⟩ : Curs) 12) fun c16 =>
    bif c16.1 then
      letK (α := Int × Curs) (s_l1PickInt c16.2 [(-1), 4294967296]) fun c17 =>
      letK (α := Bool × Curs) (s_l1Once c17.2 12) fun c18 =>
      bif c18.1 then
        letK (α := Tupl × Curs) (s_l12Bent c18.2) fun c19 =>
        letK (α := Int × Curs) (s_l4Place c19.2) fun c20 =>
        (c17.1, (a15.2.2.2 ++ [(⟨c19.1, c20.1, 0⟩ : Issu)]), c20.2)
      else
      (c17.1, a15.2.2.2, c18.2)
    else
    letK (α := Bool × Curs) (s_l1Once c16.2 12) fun c21 =>
    bif c21.1 then
      letK (α := Tupl × Curs) (s_l12Bent c21.2) fun c22 =>
      letK (α := Int × Curs) (s_l4Place c22.2) fun c23 =>
      (c1.1, (a15.2.2.2 ++ [(⟨c22.1, c23.1, 0⟩ : Issu)]), c23.2)
    else
    (c1.1, a15.2.2.2, c21.2))
    (fun p : Empty => nomatch p)
    (forN (s_l31Args_L0_f c1.1 c2.1) 1 (Int.toNat (c2.1 - 0)) 0 (c2.2.b, c2.2.i, c2.2.h, []))
theorem s_l31Args_lk (y0 : Curs) : evalFnM te (orcOf (P := Try.prog) [s_l1PickInt_e, s_l1Below_e, s_l31Guess_e, s_l1Once_e, s_l4Place_e, s_l12Bent_e]) (lorcOf [s_l31Args_L0_le]) s_l31Args_ann Try.f60 (pvs [.wr false [.ptr 0]] ((), ())) (mos [.box [.c (.sl .u8), .c (.int .i64), .c (.int .i64)]] ((y0.b, y0.i, y0.h, ()), ())) =
  s_l31Args_N y0 _ none (fun v => some ([(false, [RC.c (.int .i64 v.1)]), (false, [RC.own true .issu v.2.1])] ++ (mos [.box [.c (.sl .u8), .c (.int .i64), .c (.int .i64)]] ((v.2.2.b, v.2.2.i, v.2.2.h, ()), ())).map encO)) := by kernel_rfl
theorem s_l31Args_p (y0 : Curs) (hy0_b : y0.b.length ≤ 140737488355328) (hy0_i : inK .i64 y0.i) (hy0_h : inK .i64 y0.h) (hp : 0 ≤ y0.i ∧ y0.b.length ≤ 1048576) (γ : Type) (fail : γ) (k : Int × List Issu × Curs → γ) : s_l31Args_N y0 γ fail k = k (s_l31Args y0) := by
  unfold s_l31Args_N s_l31Args
  exact bifG (by (try simp only [Nat.ble_eq, Bool.and_eq_true, decide_eq_true_eq, s_l31Args_L0_mx0]); grind [maxSl, maxStr, toBytes_length, toInts_length, List.length_set, wrap64, s_l1PickInt_cur, s_l1Below_rng, s_l1Below_cur, s_l31Guess_cur, s_l1Once_cur, s_l4Place_cur, s_l12Bent_cur]) (letT (f := k) (fun c1 hc1 => have kc1 : 0 ≤ c1.2.i ∧ c1.2.b.length ≤ 1048576 := (by rw [hc1]; exact s_l1PickInt_cur _ _ (by first | assumption | exact ⟨by assumption, by assumption⟩ | grind [maxSl, wrap64, s_l31Args_L0_mx0]) (by first | assumption | exact ⟨by assumption, by assumption⟩ | grind [maxSl, wrap64, s_l31Args_L0_mx0])); bifG (by (try simp only [Nat.ble_eq, Bool.and_eq_true, decide_eq_true_eq, s_l31Args_L0_mx0]); grind [maxSl, maxStr, toBytes_length, toInts_length, List.length_set, wrap64, s_l1PickInt_cur, s_l1Below_rng, s_l1Below_cur, s_l31Guess_cur, s_l1Once_cur, s_l4Place_cur, s_l12Bent_cur]) (letT (f := k) (fun c2 hc2 => have rc2 := s_l1Below_rng c1.2 5 (by first | assumption | exact ⟨by assumption, by assumption⟩ | grind [maxSl, wrap64, s_l31Args_L0_mx0]); have kc2 : 0 ≤ c2.2.i ∧ c2.2.b.length ≤ 1048576 := (by rw [hc2]; exact s_l1Below_cur _ _ (by first | assumption | exact ⟨by assumption, by assumption⟩ | grind [maxSl, wrap64, s_l31Args_L0_mx0])); loopX (f := k) (s_l31Args_L0_cl c1.1 c2.1 0 c2.2.b c2.2.i c2.2.h [] (by (try simp only [Nat.ble_eq, Bool.and_eq_true, decide_eq_true_eq, s_l31Args_L0_mx0]); grind [maxSl, maxStr, toBytes_length, toInts_length, List.length_set, wrap64, s_l1PickInt_cur, s_l1Below_rng, s_l1Below_cur, s_l31Guess_cur, s_l1Once_cur, s_l4Place_cur, s_l12Bent_cur]) (by (try simp only [Nat.ble_eq, Bool.and_eq_true, decide_eq_true_eq, s_l31Args_L0_mx0]); grind [maxSl, maxStr, toBytes_length, toInts_length, List.length_set, wrap64, s_l1PickInt_cur, s_l1Below_rng, s_l1Below_cur, s_l31Guess_cur, s_l1Once_cur, s_l4Place_cur, s_l12Bent_cur]) (by (try simp only [Nat.ble_eq, Bool.and_eq_true, decide_eq_true_eq, s_l31Args_L0_mx0]); grind [maxSl, maxStr, toBytes_length, toInts_length, List.length_set, wrap64, s_l1PickInt_cur, s_l1Below_rng, s_l1Below_cur, s_l31Guess_cur, s_l1Once_cur, s_l4Place_cur, s_l12Bent_cur]) (by (try simp only [Nat.ble_eq, Bool.and_eq_true, decide_eq_true_eq, s_l31Args_L0_mx0]); grind [maxSl, maxStr, toBytes_length, toInts_length, List.length_set, wrap64, s_l1PickInt_cur, s_l1Below_rng, s_l1Below_cur, s_l31Guess_cur, s_l1Once_cur, s_l4Place_cur, s_l12Bent_cur])) (fun a15 ha15 => have ia15 := s_l31Args_L0_nx c1.1 c2.1 0 c2.2.b c2.2.i c2.2.h [] (by (try simp only [Nat.ble_eq, Bool.and_eq_true, decide_eq_true_eq, s_l31Args_L0_mx0]); grind [maxSl, maxStr, toBytes_length, toInts_length, List.length_set, wrap64, s_l1PickInt_cur, s_l1Below_rng, s_l1Below_cur, s_l31Guess_cur, s_l1Once_cur, s_l4Place_cur, s_l12Bent_cur]) (by (try simp only [Nat.ble_eq, Bool.and_eq_true, decide_eq_true_eq, s_l31Args_L0_mx0]); grind [maxSl, maxStr, toBytes_length, toInts_length, List.length_set, wrap64, s_l1PickInt_cur, s_l1Below_rng, s_l1Below_cur, s_l31Guess_cur, s_l1Once_cur, s_l4Place_cur, s_l12Bent_cur]) (by (try simp only [Nat.ble_eq, Bool.and_eq_true, decide_eq_true_eq, s_l31Args_L0_mx0]); grind [maxSl, maxStr, toBytes_length, toInts_length, List.length_set, wrap64, s_l1PickInt_cur, s_l1Below_rng, s_l1Below_cur, s_l31Guess_cur, s_l1Once_cur, s_l4Place_cur, s_l12Bent_cur]) (by (try simp only [Nat.ble_eq, Bool.and_eq_true, decide_eq_true_eq, s_l31Args_L0_mx0]); grind [maxSl, maxStr, toBytes_length, toInts_length, List.length_set, wrap64, s_l1PickInt_cur, s_l1Below_rng, s_l1Below_cur, s_l31Guess_cur, s_l1Once_cur, s_l4Place_cur, s_l12Bent_cur]) _ ha15; bifG (by (try simp only [Nat.ble_eq, Bool.and_eq_true, decide_eq_true_eq, s_l31Args_L0_mx0]); grind [maxSl, maxStr, toBytes_length, toInts_length, List.length_set, wrap64, s_l1PickInt_cur, s_l1Below_rng, s_l1Below_cur, s_l31Guess_cur, s_l1Once_cur, s_l4Place_cur, s_l12Bent_cur]) (letT (f := k) (fun c16 hc16 => have kc16 : 0 ≤ c16.2.i ∧ c16.2.b.length ≤ 1048576 := (by rw [hc16]; exact s_l1Once_cur _ _ (by first | assumption | exact ⟨by assumption, by assumption⟩ | grind [maxSl, wrap64, s_l31Args_L0_mx0])); bifT (f := k) (fun b0 => bifG (by (try simp only [Nat.ble_eq, Bool.and_eq_true, decide_eq_true_eq, s_l31Args_L0_mx0]); grind [maxSl, maxStr, toBytes_length, toInts_length, List.length_set, wrap64, s_l1PickInt_cur, s_l1Below_rng, s_l1Below_cur, s_l31Guess_cur, s_l1Once_cur, s_l4Place_cur, s_l12Bent_cur]) (letT (f := k) (fun c17 hc17 => have kc17 : 0 ≤ c17.2.i ∧ c17.2.b.length ≤ 1048576 := (by rw [hc17]; exact s_l1PickInt_cur _ _ (by first | assumption | exact ⟨by assumption, by assumption⟩ | grind [maxSl, wrap64, s_l31Args_L0_mx0]) (by first | assumption | exact ⟨by assumption, by assumption⟩ | grind [maxSl, wrap64, s_l31Args_L0_mx0])); bifG (by (try simp only [Nat.ble_eq, Bool.and_eq_true, decide_eq_true_eq, s_l31Args_L0_mx0]); grind [maxSl, maxStr, toBytes_length, toInts_length, List.length_set, wrap64, s_l1PickInt_cur, s_l1Below_rng, s_l1Below_cur, s_l31Guess_cur, s_l1Once_cur, s_l4Place_cur, s_l12Bent_cur]) (letT (f := k) (fun c18 hc18 => have kc18 : 0 ≤ c18.2.i ∧ c18.2.b.length ≤ 1048576 := (by rw [hc18]; exact s_l1Once_cur _ _ (by first | assumption | exact ⟨by assumption, by assumption⟩ | grind [maxSl, wrap64, s_l31Args_L0_mx0])); bifT (f := k) (fun b1 => bifG (by (try simp only [Nat.ble_eq, Bool.and_eq_true, decide_eq_true_eq, s_l31Args_L0_mx0]); grind [maxSl, maxStr, toBytes_length, toInts_length, List.length_set, wrap64, s_l1PickInt_cur, s_l1Below_rng, s_l1Below_cur, s_l31Guess_cur, s_l1Once_cur, s_l4Place_cur, s_l12Bent_cur]) (letT (f := k) (fun c19 hc19 => have kc19 : 0 ≤ c19.2.i ∧ c19.2.b.length ≤ 1048576 := (by rw [hc19]; exact s_l12Bent_cur _ (by first | assumption | exact ⟨by assumption, by assumption⟩ | grind [maxSl, wrap64, s_l31Args_L0_mx0])); bifG (by (try simp only [Nat.ble_eq, Bool.and_eq_true, decide_eq_true_eq, s_l31Args_L0_mx0]); grind [maxSl, maxStr, toBytes_length, toInts_length, List.length_set, wrap64, s_l1PickInt_cur, s_l1Below_rng, s_l1Below_cur, s_l31Guess_cur, s_l1Once_cur, s_l4Place_cur, s_l12Bent_cur]) (letT (f := k) (fun c20 hc20 => have kc20 : 0 ≤ c20.2.i ∧ c20.2.b.length ≤ 1048576 := (by rw [hc20]; exact s_l4Place_cur _ (by first | assumption | exact ⟨by assumption, by assumption⟩ | grind [maxSl, wrap64, s_l31Args_L0_mx0])); bifG (by (try simp only [Nat.ble_eq, Bool.and_eq_true, decide_eq_true_eq, s_l31Args_L0_mx0]); grind [maxSl, maxStr, toBytes_length, toInts_length, List.length_set, wrap64, s_l1PickInt_cur, s_l1Below_rng, s_l1Below_cur, s_l31Guess_cur, s_l1Once_cur, s_l4Place_cur, s_l12Bent_cur]) (rfl))))))
      (fun b1 => rfl))))))
      (fun b0 => bifG (by (try simp only [Nat.ble_eq, Bool.and_eq_true, decide_eq_true_eq, s_l31Args_L0_mx0]); grind [maxSl, maxStr, toBytes_length, toInts_length, List.length_set, wrap64, s_l1PickInt_cur, s_l1Below_rng, s_l1Below_cur, s_l31Guess_cur, s_l1Once_cur, s_l4Place_cur, s_l12Bent_cur]) (letT (f := k) (fun c21 hc21 => have kc21 : 0 ≤ c21.2.i ∧ c21.2.b.length ≤ 1048576 := (by rw [hc21]; exact s_l1Once_cur _ _ (by first | assumption | exact ⟨by assumption, by assumption⟩ | grind [maxSl, wrap64, s_l31Args_L0_mx0])); bifT (f := k) (fun b1 => bifG (by (try simp only [Nat.ble_eq, Bool.and_eq_true, decide_eq_true_eq, s_l31Args_L0_mx0]); grind [maxSl, maxStr, toBytes_length, toInts_length, List.length_set, wrap64, s_l1PickInt_cur, s_l1Below_rng, s_l1Below_cur, s_l31Guess_cur, s_l1Once_cur, s_l4Place_cur, s_l12Bent_cur]) (letT (f := k) (fun c22 hc22 => have kc22 : 0 ≤ c22.2.i ∧ c22.2.b.length ≤ 1048576 := (by rw [hc22]; exact s_l12Bent_cur _ (by first | assumption | exact ⟨by assumption, by assumption⟩ | grind [maxSl, wrap64, s_l31Args_L0_mx0])); bifG (by (try simp only [Nat.ble_eq, Bool.and_eq_true, decide_eq_true_eq, s_l31Args_L0_mx0]); grind [maxSl, maxStr, toBytes_length, toInts_length, List.length_set, wrap64, s_l1PickInt_cur, s_l1Below_rng, s_l1Below_cur, s_l31Guess_cur, s_l1Once_cur, s_l4Place_cur, s_l12Bent_cur]) (letT (f := k) (fun c23 hc23 => have kc23 : 0 ≤ c23.2.i ∧ c23.2.b.length ≤ 1048576 := (by rw [hc23]; exact s_l4Place_cur _ (by first | assumption | exact ⟨by assumption, by assumption⟩ | grind [maxSl, wrap64, s_l31Args_L0_mx0])); bifG (by (try simp only [Nat.ble_eq, Bool.and_eq_true, decide_eq_true_eq, s_l31Args_L0_mx0]); grind [maxSl, maxStr, toBytes_length, toInts_length, List.length_set, wrap64, s_l1PickInt_cur, s_l1Below_rng, s_l1Below_cur, s_l31Guess_cur, s_l1Once_cur, s_l4Place_cur, s_l12Bent_cur]) (rfl))))))
      (fun b1 => rfl)))))))
      (fun p : Empty => nomatch p)))))
theorem s_l31Args_c (y0 : Curs) (hp : 0 ≤ y0.i ∧ y0.b.length ≤ 1048576) : ConM Try.prog 60 (pvs [.wr false [.ptr 0]] ((), ())) (mos [.box [.c (.sl .u8), .c (.int .i64), .c (.int .i64)]] ((y0.b, y0.i, y0.h, ()), ())) [rv (.sc (.int .i64)) [] (s_l31Args y0).1, rv (.sc (.sl .issu)) [.o true] (s_l31Args y0).2.1] (mos [.box [.c (.sl .u8), .c (.int .i64), .c (.int .i64)]] ((((s_l31Args y0).2.2).b, ((s_l31Args y0).2.2).i, ((s_l31Args y0).2.2).h, ()), ())) := by
  refine ConM.of_facts (enters_of Try.func60 rfl (by kernel_rfl)) fun hf hg => ?_
  replace hf := factAt hf
  exact evalFn_conLM teFact mixFact (orcOf_ok _) Try.func60 (by kernel_rfl) (bs := [0]) (by kernel_rfl) (by kernel_rfl) (by kernel_rfl) rfl (fun w0 mo I0 hmo => ⟨lsem_of_lorc (s_l31Args_L0_ls w0 mo I0 hmo) (by kernel_rfl), trivial⟩) ((s_l31Args_lk y0).trans (s_l31Args_p y0 ((mbAt hg 0 0 rfl rfl).len) ((mbAt hg 0 1 rfl rfl).rng) ((mbAt hg 0 2 rfl rfl).rng) hp _ _ _))
noncomputable def s_l31Args_e : Ent1 Try.prog := entM 60 [.wr false [.ptr 0]] [.box [.c (.sl .u8), .c (.int .i64), .c (.int .i64)]] (fun x y => (decide (0 ≤ (⟨y.1.1, y.1.2.1, y.1.2.2.1⟩ : Curs).i ∧ (⟨y.1.1, y.1.2.1, y.1.2.2.1⟩ : Curs).b.length ≤ 1048576))) (fun x y => (s_l31Args (⟨y.1.1, y.1.2.1, y.1.2.2.1⟩ : Curs))) (fun v => [rv (.sc (.int .i64)) [] v.1, rv (.sc (.sl .issu)) [.o true] v.2.1]) (fun x y v => (mos [.box [.c (.sl .u8), .c (.int .i64), .c (.int .i64)]] ((v.2.2.b, v.2.2.i, v.2.2.h, ()), ()))) (fun x y hx => s_l31Args_c (⟨y.1.1, y.1.2.1, y.1.2.2.1⟩ : Curs) (of_decide_eq_true hx))

theorem s_l31Args_cur (y0 : Curs)  (hc0 : 0 ≤ y0.i ∧ y0.b.length ≤ 1048576) : 0 ≤ (s_l31Args y0).2.2.i ∧ (s_l31Args y0).2.2.b.length ≤ 1048576 := by
  unfold s_l31Args
  exact letP (P := (fun v : Int × List Issu × Curs => 0 ≤ v.2.2.i ∧ v.2.2.b.length ≤ 1048576)) (fun c1 hc1 => have kc1 : 0 ≤ c1.2.i ∧ c1.2.b.length ≤ 1048576 := (by rw [hc1]; exact s_l1PickInt_cur _ _ (by first | assumption | exact ⟨by assumption, by assumption⟩ | grind [maxSl, wrap64, s_l31Args_L0_mx0]) (by first | assumption | exact ⟨by assumption, by assumption⟩ | grind [maxSl, wrap64, s_l31Args_L0_mx0])); letP (P := (fun v : Int × List Issu × Curs => 0 ≤ v.2.2.i ∧ v.2.2.b.length ≤ 1048576)) (fun c2 hc2 => have rc2 := s_l1Below_rng c1.2 5 (by first | assumption | exact ⟨by assumption, by assumption⟩ | grind [maxSl, wrap64, s_l31Args_L0_mx0]); have kc2 : 0 ≤ c2.2.i ∧ c2.2.b.length ≤ 1048576 := (by rw [hc2]; exact s_l1Below_cur _ _ (by first | assumption | exact ⟨by assumption, by assumption⟩ | grind [maxSl, wrap64, s_l31Args_L0_mx0])); loopP (P := (fun v : Int × List Issu × Curs => 0 ≤ v.2.2.i ∧ v.2.2.b.length ≤ 1048576)) (fun a15 ha15 => have ia15 := s_l31Args_L0_nx c1.1 c2.1 0 c2.2.b c2.2.i c2.2.h [] (by (try simp only [Nat.ble_eq, Bool.and_eq_true, decide_eq_true_eq, s_l31Args_L0_mx0]); grind [maxSl, maxStr, toBytes_length, toInts_length, List.length_set, wrap64, s_l1PickInt_cur, s_l1Below_rng, s_l1Below_cur, s_l31Guess_cur, s_l1Once_cur, s_l4Place_cur, s_l12Bent_cur]) (by (try simp only [Nat.ble_eq, Bool.and_eq_true, decide_eq_true_eq, s_l31Args_L0_mx0]); grind [maxSl, maxStr, toBytes_length, toInts_length, List.length_set, wrap64, s_l1PickInt_cur, s_l1Below_rng, s_l1Below_cur, s_l31Guess_cur, s_l1Once_cur, s_l4Place_cur, s_l12Bent_cur]) (by (try simp only [Nat.ble_eq, Bool.and_eq_true, decide_eq_true_eq, s_l31Args_L0_mx0]); grind [maxSl, maxStr, toBytes_length, toInts_length, List.length_set, wrap64, s_l1PickInt_cur, s_l1Below_rng, s_l1Below_cur, s_l31Guess_cur, s_l1Once_cur, s_l4Place_cur, s_l12Bent_cur]) (by (try simp only [Nat.ble_eq, Bool.and_eq_true, decide_eq_true_eq, s_l31Args_L0_mx0]); grind [maxSl, maxStr, toBytes_length, toInts_length, List.length_set, wrap64, s_l1PickInt_cur, s_l1Below_rng, s_l1Below_cur, s_l31Guess_cur, s_l1Once_cur, s_l4Place_cur, s_l12Bent_cur]) _ ha15; letP (P := (fun v : Int × List Issu × Curs => 0 ≤ v.2.2.i ∧ v.2.2.b.length ≤ 1048576)) (fun c16 hc16 => have kc16 : 0 ≤ c16.2.i ∧ c16.2.b.length ≤ 1048576 := (by rw [hc16]; exact s_l1Once_cur _ _ (by first | assumption | exact ⟨by assumption, by assumption⟩ | grind [maxSl, wrap64, s_l31Args_L0_mx0])); bifP (P := (fun v : Int × List Issu × Curs => 0 ≤ v.2.2.i ∧ v.2.2.b.length ≤ 1048576)) (fun b0 => letP (P := (fun v : Int × List Issu × Curs => 0 ≤ v.2.2.i ∧ v.2.2.b.length ≤ 1048576)) (fun c17 hc17 => have kc17 : 0 ≤ c17.2.i ∧ c17.2.b.length ≤ 1048576 := (by rw [hc17]; exact s_l1PickInt_cur _ _ (by first | assumption | exact ⟨by assumption, by assumption⟩ | grind [maxSl, wrap64, s_l31Args_L0_mx0]) (by first | assumption | exact ⟨by assumption, by assumption⟩ | grind [maxSl, wrap64, s_l31Args_L0_mx0])); letP (P := (fun v : Int × List Issu × Curs => 0 ≤ v.2.2.i ∧ v.2.2.b.length ≤ 1048576)) (fun c18 hc18 => have kc18 : 0 ≤ c18.2.i ∧ c18.2.b.length ≤ 1048576 := (by rw [hc18]; exact s_l1Once_cur _ _ (by first | assumption | exact ⟨by assumption, by assumption⟩ | grind [maxSl, wrap64, s_l31Args_L0_mx0])); bifP (P := (fun v : Int × List Issu × Curs => 0 ≤ v.2.2.i ∧ v.2.2.b.length ≤ 1048576)) (fun b1 => letP (P := (fun v : Int × List Issu × Curs => 0 ≤ v.2.2.i ∧ v.2.2.b.length ≤ 1048576)) (fun c19 hc19 => have kc19 : 0 ≤ c19.2.i ∧ c19.2.b.length ≤ 1048576 := (by rw [hc19]; exact s_l12Bent_cur _ (by first | assumption | exact ⟨by assumption, by assumption⟩ | grind [maxSl, wrap64, s_l31Args_L0_mx0])); letP (P := (fun v : Int × List Issu × Curs => 0 ≤ v.2.2.i ∧ v.2.2.b.length ≤ 1048576)) (fun c20 hc20 => have kc20 : 0 ≤ c20.2.i ∧ c20.2.b.length ≤ 1048576 := (by rw [hc20]; exact s_l4Place_cur _ (by first | assumption | exact ⟨by assumption, by assumption⟩ | grind [maxSl, wrap64, s_l31Args_L0_mx0])); (by (try simp only [Nat.ble_eq, Bool.and_eq_true, decide_eq_true_eq, s_l31Args_L0_mx0]); grind [maxSl, maxStr, toBytes_length, toInts_length, List.length_set, wrap64, s_l1PickInt_cur, s_l1Below_rng, s_l1Below_cur, s_l31Guess_cur, s_l1Once_cur, s_l4Place_cur, s_l12Bent_cur]))))
      (fun b1 => (by (try simp only [Nat.ble_eq, Bool.and_eq_true, decide_eq_true_eq, s_l31Args_L0_mx0]); grind [maxSl, maxStr, toBytes_length, toInts_length, List.length_set, wrap64, s_l1PickInt_cur, s_l1Below_rng, s_l1Below_cur, s_l31Guess_cur, s_l1Once_cur, s_l4Place_cur, s_l12Bent_cur])))))
      (fun b0 => letP (P := (fun v : Int × List Issu × Curs => 0 ≤ v.2.2.i ∧ v.2.2.b.length ≤ 1048576)) (fun c21 hc21 => have kc21 : 0 ≤ c21.2.i ∧ c21.2.b.length ≤ 1048576 := (by rw [hc21]; exact s_l1Once_cur _ _ (by first | assumption | exact ⟨by assumption, by assumption⟩ | grind [maxSl, wrap64, s_l31Args_L0_mx0])); bifP (P := (fun v : Int × List Issu × Curs => 0 ≤ v.2.2.i ∧ v.2.2.b.length ≤ 1048576)) (fun b1 => letP (P := (fun v : Int × List Issu × Curs => 0 ≤ v.2.2.i ∧ v.2.2.b.length ≤ 1048576)) (fun c22 hc22 => have kc22 : 0 ≤ c22.2.i ∧ c22.2.b.length ≤ 1048576 := (by rw [hc22]; exact s_l12Bent_cur _ (by first | assumption | exact ⟨by assumption, by assumption⟩ | grind [maxSl, wrap64, s_l31Args_L0_mx0])); letP (P := (fun v : Int × List Issu × Curs => 0 ≤ v.2.2.i ∧ v.2.2.b.length ≤ 1048576)) (fun c23 hc23 => have kc23 : 0 ≤ c23.2.i ∧ c23.2.b.length ≤ 1048576 := (by rw [hc23]; exact s_l4Place_cur _ (by first | assumption | exact ⟨by assumption, by assumption⟩ | grind [maxSl, wrap64, s_l31Args_L0_mx0])); (by (try simp only [Nat.ble_eq, Bool.and_eq_true, decide_eq_true_eq, s_l31Args_L0_mx0]); grind [maxSl, maxStr, toBytes_length, toInts_length, List.length_set, wrap64, s_l1PickInt_cur, s_l1Below_rng, s_l1Below_cur, s_l31Guess_cur, s_l1Once_cur, s_l4Place_cur, s_l12Bent_cur]))))
      (fun b1 => (by (try simp only [Nat.ble_eq, Bool.and_eq_true, decide_eq_true_eq, s_l31Args_L0_mx0]); grind [maxSl, maxStr, toBytes_length, toInts_length, List.length_set, wrap64, s_l1PickInt_cur, s_l1Below_rng, s_l1Below_cur, s_l31Guess_cur, s_l1Once_cur, s_l4Place_cur, s_l12Bent_cur]))))))
      (fun p _ => nomatch p)))
theorem s_l31Args_len (y0 : Curs) (hp : 0 ≤ y0.i ∧ y0.b.length ≤ 1048576)  : (fun v : Int × List Issu × Curs => v.2.1.length ≤ 8) (s_l31Args y0) := by
  unfold s_l31Args
  exact letP (P := (fun v : Int × List Issu × Curs => v.2.1.length ≤ 8)) (fun c1 hc1 => have kc1 : 0 ≤ c1.2.i ∧ c1.2.b.length ≤ 1048576 := (by rw [hc1]; exact s_l1PickInt_cur _ _ (by first | assumption | exact ⟨by assumption, by assumption⟩ | grind [maxSl, wrap64, s_l31Args_L0_mx0]) (by first | assumption | exact ⟨by assumption, by assumption⟩ | grind [maxSl, wrap64, s_l31Args_L0_mx0])); letP (P := (fun v : Int × List Issu × Curs => v.2.1.length ≤ 8)) (fun c2 hc2 => have rc2 := s_l1Below_rng c1.2 5 (by first | assumption | exact ⟨by assumption, by assumption⟩ | grind [maxSl, wrap64, s_l31Args_L0_mx0]); have kc2 : 0 ≤ c2.2.i ∧ c2.2.b.length ≤ 1048576 := (by rw [hc2]; exact s_l1Below_cur _ _ (by first | assumption | exact ⟨by assumption, by assumption⟩ | grind [maxSl, wrap64, s_l31Args_L0_mx0])); loopP (P := (fun v : Int × List Issu × Curs => v.2.1.length ≤ 8)) (fun a15 ha15 => have ia15 := s_l31Args_L0_nx c1.1 c2.1 0 c2.2.b c2.2.i c2.2.h [] (by (try simp only [Nat.ble_eq, Bool.and_eq_true, decide_eq_true_eq, s_l31Args_L0_mx0]); grind [maxSl, maxStr, toBytes_length, toInts_length, List.length_set, wrap64, s_l1PickInt_cur, s_l1Below_rng, s_l1Below_cur, s_l31Guess_cur, s_l1Once_cur, s_l4Place_cur, s_l12Bent_cur]) (by (try simp only [Nat.ble_eq, Bool.and_eq_true, decide_eq_true_eq, s_l31Args_L0_mx0]); grind [maxSl, maxStr, toBytes_length, toInts_length, List.length_set, wrap64, s_l1PickInt_cur, s_l1Below_rng, s_l1Below_cur, s_l31Guess_cur, s_l1Once_cur, s_l4Place_cur, s_l12Bent_cur]) (by (try simp only [Nat.ble_eq, Bool.and_eq_true, decide_eq_true_eq, s_l31Args_L0_mx0]); grind [maxSl, maxStr, toBytes_length, toInts_length, List.length_set, wrap64, s_l1PickInt_cur, s_l1Below_rng, s_l1Below_cur, s_l31Guess_cur, s_l1Once_cur, s_l4Place_cur, s_l12Bent_cur]) (by (try simp only [Nat.ble_eq, Bool.and_eq_true, decide_eq_true_eq, s_l31Args_L0_mx0]); grind [maxSl, maxStr, toBytes_length, toInts_length, List.length_set, wrap64, s_l1PickInt_cur, s_l1Below_rng, s_l1Below_cur, s_l31Guess_cur, s_l1Once_cur, s_l4Place_cur, s_l12Bent_cur]) _ ha15; letP (P := (fun v : Int × List Issu × Curs => v.2.1.length ≤ 8)) (fun c16 hc16 => have kc16 : 0 ≤ c16.2.i ∧ c16.2.b.length ≤ 1048576 := (by rw [hc16]; exact s_l1Once_cur _ _ (by first | assumption | exact ⟨by assumption, by assumption⟩ | grind [maxSl, wrap64, s_l31Args_L0_mx0])); bifP (P := (fun v : Int × List Issu × Curs => v.2.1.length ≤ 8)) (fun b0 => letP (P := (fun v : Int × List Issu × Curs => v.2.1.length ≤ 8)) (fun c17 hc17 => have kc17 : 0 ≤ c17.2.i ∧ c17.2.b.length ≤ 1048576 := (by rw [hc17]; exact s_l1PickInt_cur _ _ (by first | assumption | exact ⟨by assumption, by assumption⟩ | grind [maxSl, wrap64, s_l31Args_L0_mx0]) (by first | assumption | exact ⟨by assumption, by assumption⟩ | grind [maxSl, wrap64, s_l31Args_L0_mx0])); letP (P := (fun v : Int × List Issu × Curs => v.2.1.length ≤ 8)) (fun c18 hc18 => have kc18 : 0 ≤ c18.2.i ∧ c18.2.b.length ≤ 1048576 := (by rw [hc18]; exact s_l1Once_cur _ _ (by first | assumption | exact ⟨by assumption, by assumption⟩ | grind [maxSl, wrap64, s_l31Args_L0_mx0])); bifP (P := (fun v : Int × List Issu × Curs => v.2.1.length ≤ 8)) (fun b1 => letP (P := (fun v : Int × List Issu × Curs => v.2.1.length ≤ 8)) (fun c19 hc19 => have kc19 : 0 ≤ c19.2.i ∧ c19.2.b.length ≤ 1048576 := (by rw [hc19]; exact s_l12Bent_cur _ (by first | assumption | exact ⟨by assumption, by assumption⟩ | grind [maxSl, wrap64, s_l31Args_L0_mx0])); letP (P := (fun v : Int × List Issu × Curs => v.2.1.length ≤ 8)) (fun c20 hc20 => have kc20 : 0 ≤ c20.2.i ∧ c20.2.b.length ≤ 1048576 := (by rw [hc20]; exact s_l4Place_cur _ (by first | assumption | exact ⟨by assumption, by assumption⟩ | grind [maxSl, wrap64, s_l31Args_L0_mx0])); (by (try simp only [Nat.ble_eq, Bool.and_eq_true, decide_eq_true_eq, s_l31Args_L0_mx0]); grind [maxSl, maxStr, toBytes_length, toInts_length, List.length_set, wrap64, s_l1PickInt_cur, s_l1Below_rng, s_l1Below_cur, s_l31Guess_cur, s_l1Once_cur, s_l4Place_cur, s_l12Bent_cur]))))
      (fun b1 => (by (try simp only [Nat.ble_eq, Bool.and_eq_true, decide_eq_true_eq, s_l31Args_L0_mx0]); grind [maxSl, maxStr, toBytes_length, toInts_length, List.length_set, wrap64, s_l1PickInt_cur, s_l1Below_rng, s_l1Below_cur, s_l31Guess_cur, s_l1Once_cur, s_l4Place_cur, s_l12Bent_cur])))))
      (fun b0 => letP (P := (fun v : Int × List Issu × Curs => v.2.1.length ≤ 8)) (fun c21 hc21 => have kc21 : 0 ≤ c21.2.i ∧ c21.2.b.length ≤ 1048576 := (by rw [hc21]; exact s_l1Once_cur _ _ (by first | assumption | exact ⟨by assumption, by assumption⟩ | grind [maxSl, wrap64, s_l31Args_L0_mx0])); bifP (P := (fun v : Int × List Issu × Curs => v.2.1.length ≤ 8)) (fun b1 => letP (P := (fun v : Int × List Issu × Curs => v.2.1.length ≤ 8)) (fun c22 hc22 => have kc22 : 0 ≤ c22.2.i ∧ c22.2.b.length ≤ 1048576 := (by rw [hc22]; exact s_l12Bent_cur _ (by first | assumption | exact ⟨by assumption, by assumption⟩ | grind [maxSl, wrap64, s_l31Args_L0_mx0])); letP (P := (fun v : Int × List Issu × Curs => v.2.1.length ≤ 8)) (fun c23 hc23 => have kc23 : 0 ≤ c23.2.i ∧ c23.2.b.length ≤ 1048576 := (by rw [hc23]; exact s_l4Place_cur _ (by first | assumption | exact ⟨by assumption, by assumption⟩ | grind [maxSl, wrap64, s_l31Args_L0_mx0])); (by (try simp only [Nat.ble_eq, Bool.and_eq_true, decide_eq_true_eq, s_l31Args_L0_mx0]); grind [maxSl, maxStr, toBytes_length, toInts_length, List.length_set, wrap64, s_l1PickInt_cur, s_l1Below_rng, s_l1Below_cur, s_l31Guess_cur, s_l1Once_cur, s_l4Place_cur, s_l12Bent_cur]))))
      (fun b1 => (by (try simp only [Nat.ble_eq, Bool.and_eq_true, decide_eq_true_eq, s_l31Args_L0_mx0]); grind [maxSl, maxStr, toBytes_length, toInts_length, List.length_set, wrap64, s_l1PickInt_cur, s_l1Below_rng, s_l1Below_cur, s_l31Guess_cur, s_l1Once_cur, s_l4Place_cur, s_l12Bent_cur]))))))
      (fun p _ => nomatch p)))

/-- spec.l10Key -/
def s_l10Key_ann : List (Nat × Keep) := [(1, ⟨[0, 3, 4], [], false, 1⟩)]
def s_l10Key_L0_sh : Sh := ⟨[(0, false, [.ptr 0 0]), (3, false, [.int .u64]), (4, false, [.int .i64])], [.box [.sl .any .u8, .int .i64, .int .i64]]⟩
def s_l10Key_L0_es : List (Ex × Sh) := [(.exit 1, ⟨[(2, false, [.undef]), (3, false, [.int .u64])], [.box [.sl .any .u8, .int .i64, .int .i64]]⟩)]
def s_l10Key_L0_mk (v0 : Int) (v1 : Int) (v2 : List Int) (v3 : Int) (v4 : Int) : s_l10Key_L0_sh.T := ((((), ()), ((v0, ()), ((v1, ()), ()))), ((v2, (v3, (v4, ()))), ()))
def s_l10Key_L0_mx0 (y0 : Int) (y1 : List Int) (y2 : Int) (y3 : Int) : Sh.T ⟨[(2, false, [.undef]), (3, false, [.int .u64])], [.box [.sl .any .u8, .int .i64, .int .i64]]⟩ := ((((), ()), ((y0, ()), ())), ((y1, (y2, (y3, ()))), ()))
def s_l10Key_L0_B (v0 : Int) (v1 : Int) (v2 : List Int) (v3 : Int) (v4 : Int) (γ : Type) (fail : γ) (next : s_l10Key_L0_sh.T → γ) (out : WT s_l10Key_L0_es → γ) : γ :=
  bif (decide (v1 < 8)) then
    bif (decide (0 ≤ (⟨v2, v3, v4⟩ : Curs).i ∧ (⟨v2, v3, v4⟩ : Curs).b.length ≤ 1048576)) then
    letK (α := Int × Curs) (s_l1Byte (⟨v2, v3, v4⟩ : Curs)) fun c2 =>
    letK (α := Int) (bits .or .u64 (IntKind.wrap .u64 (v0 * 256)) (IntKind.wrap .u64 c2.1)) fun e3 =>
    next (s_l10Key_L0_mk e3 (IntKind.wrap .i64 (v1 + 1)) c2.2.b c2.2.i c2.2.h)
    else fail
  else
  out (s_l10Key_L0_mx0 v0 v2 v3 v4)
theorem s_l10Key_L0_par (v0 : Int) (v1 : Int) (v2 : List Int) (v3 : Int) (v4 : Int) (γ : Type) (fail : γ) (next : s_l10Key_L0_sh.T → γ) (out : WT s_l10Key_L0_es → γ) : s_l10Key_L0_B v0 v1 v2 v3 v4 γ fail next out = optK (s_l10Key_L0_B v0 v1 v2 v3 v4 _ none (fun v' => some (.inl v')) (fun w => some (.inr w))) fail (fun r => Sum.elim next out r) := by
  unfold s_l10Key_L0_B
  exact bifT (f := (fun o => optK o fail (fun r => Sum.elim next out r))) (fun _ => bifT (f := (fun o => optK o fail (fun r => Sum.elim next out r))) (fun _ => letT (f := (fun o => optK o fail (fun r => Sum.elim next out r))) (fun c2 _ => letT (f := (fun o => optK o fail (fun r => Sum.elim next out r))) (fun e3 _ => rfl))) (fun _ => rfl))
      (fun _ => rfl)
def s_l10Key_L0_r : Round s_l10Key_L0_sh.T (WT s_l10Key_L0_es) where
  B v γ fail next out := s_l10Key_L0_B v.1.2.1.1 v.1.2.2.1.1 v.2.1.1 v.2.1.2.1 v.2.1.2.2.1 γ fail next out
  par v γ fail next out := s_l10Key_L0_par v.1.2.1.1 v.1.2.2.1.1 v.2.1.1 v.2.1.2.1 v.2.1.2.2.1 γ fail next out
def s_l10Key_L0_fu (v0 : Int) (v1 : Int) (v2 : List Int) (v3 : Int) (v4 : Int) : Nat := (Int.toNat (8 - v1)) + 1
theorem s_l10Key_L0_lk (v : s_l10Key_L0_sh.T) (next : St → Option Res) (k : Ex → St → Option Res) : evalK te (orcOf (P := Try.prog) [s_l1Below_e, s_l1Byte_e]) (lorcOf []) Try.f98.ntmps s_l10Key_ann (nthLoop (bodyOf Try.f98) 0 0) 1 (s_l10Key_L0_sh.enc v) (endK ⟨[0, 3, 4], [], false, 1⟩ ⟨[2, 3], [], false, 1⟩ next k) =
  s_l10Key_L0_r.B v _ none (fun v' => next (s_l10Key_L0_sh.enc v')) (fun w => outK s_l10Key_L0_es k w) := by kernel_rfl
def s_l10Key_L0_le : LE := leOf 1 s_l10Key_L0_sh s_l10Key_L0_es s_l10Key_L0_r.step (fun v => s_l10Key_L0_fu v.1.2.1.1 v.1.2.2.1.1 v.2.1.1 v.2.1.2.1 v.2.1.2.2.1)
theorem s_l10Key_L0_ls (w0 : World) (mo : Mts) (I0 : Nat → Prop) (hmo : mo.length = 1) : LSem Try.prog (Sim w0 mo Try.f98.ntmps I0) (fun b s k => match Nat.beq 1 b with | true => s_l10Key_L0_le.run s k | false => none) 1 (nthLoop (bodyOf Try.f98) 0 0) :=
  le_sem hmo (lorc := lorcOf []) (ann := s_l10Key_ann) (keep := ⟨[0, 3, 4], [], false, 1⟩) (kout := ⟨[2, 3], [], false, 1⟩) teFact mixFact (orcOf_ok _) (by kernel_rfl) (allLoops_of (bs := []) (by kernel_rfl) trivial) s_l10Key_L0_r _ s_l10Key_L0_lk
def s_l10Key_L0_f  (v1 : Int) (a : Int × List Int × Int × Int) : Stp (Int × List Int × Int × Int) (Empty) :=
  letK (α := Int × Curs) (s_l1Byte (⟨a.2.1, a.2.2.1, a.2.2.2⟩ : Curs)) fun c2 =>
  letK (α := Int) (bits .or .u64 (IntKind.wrap .u64 (a.1 * 256)) (IntKind.wrap .u64 c2.1)) fun e3 =>
  .next (e3, c2.2.b, c2.2.i, c2.2.h)
theorem s_l10Key_L0_st (v0 : Int) (v1 : Int) (v2 : List Int) (v3 : Int) (v4 : Int) (hlo : 0 ≤ v1) (hhi : v1 < 8) (hN : 8 ≤ 4611686018427387904) (hinv : 0 ≤ v3 ∧ v2.length ≤ 1048576) : s_l10Key_L0_r.step (s_l10Key_L0_mk v0 v1 v2 v3 v4) = Stp.elim (fun a' : Int × List Int × Int × Int => some (Sum.inl (s_l10Key_L0_mk a'.1 (v1 + 1) a'.2.1 a'.2.2.1 a'.2.2.2))) (fun w => some (Sum.inr ((fun p : Empty => nomatch p) w))) (s_l10Key_L0_f  v1 (v0, v2, v3, v4)) := by
  have hw : (IntKind.wrap .i64 (v1 + 1)) = v1 + 1 := wrap64 (by omega) (by omega)
  show s_l10Key_L0_B v0 v1 v2 v3 v4 (Option (s_l10Key_L0_sh.T ⊕ WT s_l10Key_L0_es)) none (fun v' => some (Sum.inl v')) (fun w => some (Sum.inr w)) = _
  unfold s_l10Key_L0_B s_l10Key_L0_f
  exact bifG (by simp only [decide_eq_true_eq]; omega) (bifG (by (try simp only [Nat.ble_eq, Bool.and_eq_true, decide_eq_true_eq]); grind [maxSl, maxStr, toBytes_length, toInts_length, List.length_set, wrap64, s_l1Below_rng, s_l1Below_cur, s_l1Byte_rng, s_l1Byte_cur]) (letT (f := (Stp.elim (fun a' : Int × List Int × Int × Int => some (Sum.inl (s_l10Key_L0_mk a'.1 (v1 + 1) a'.2.1 a'.2.2.1 a'.2.2.2))) (fun w => some (Sum.inr ((fun p : Empty => nomatch p) w))))) (fun (c2 : Int × Curs) hc2 => have rc2 := s_l1Byte_rng (⟨v2, v3, v4⟩ : Curs) (by first | assumption | exact ⟨by assumption, by assumption⟩ | grind [maxSl, wrap64, s_l10Key_L0_mx0]); have kc2 : 0 ≤ c2.2.i ∧ c2.2.b.length ≤ 1048576 := (by rw [hc2]; exact s_l1Byte_cur _ (by first | assumption | exact ⟨by assumption, by assumption⟩ | grind [maxSl, wrap64, s_l10Key_L0_mx0])); letT (f := (Stp.elim (fun a' : Int × List Int × Int × Int => some (Sum.inl (s_l10Key_L0_mk a'.1 (v1 + 1) a'.2.1 a'.2.2.1 a'.2.2.2))) (fun w => some (Sum.inr ((fun p : Empty => nomatch p) w))))) (fun e3 he3 => (by exact congrArg (fun z => some (Sum.inl (s_l10Key_L0_mk e3 z c2.2.b c2.2.i c2.2.h))) hw)))))
theorem s_l10Key_L0_cl (v0 : Int) (v1 : Int) (v2 : List Int) (v3 : Int) (v4 : Int) (h0 : 0 ≤ v1) (h1 : 8 ≤ 4611686018427387904) (h2 : 0 ≤ v3 ∧ v2.length ≤ 1048576) : loopF s_l10Key_L0_r.step (s_l10Key_L0_fu v0 v1 v2 v3 v4) (s_l10Key_L0_mk v0 v1 v2 v3 v4) = some (Stp.elim (fun a => (fun i a => s_l10Key_L0_mx0 a.1 a.2.1 a.2.2.1 a.2.2.2) (v1 + 1 * (((Int.toNat (8 - v1)) : Nat) : Int)) a) (fun p : Empty => nomatch p) (forN (s_l10Key_L0_f ) 1 (Int.toNat (8 - v1)) v1 (v0, v2, v3, v4))) :=
  forN_loop (step := s_l10Key_L0_r.step) (mk := fun v1 a => s_l10Key_L0_mk a.1 v1 a.2.1 a.2.2.1 a.2.2.2) (f := s_l10Key_L0_f ) (e := (fun i a => s_l10Key_L0_mx0 a.1 a.2.1 a.2.2.1 a.2.2.2)) (emb := (fun p : Empty => nomatch p)) (st := 1) (Inv := fun v1 a => 0 ≤ a.2.2.1 ∧ a.2.1.length ≤ 1048576) (Int.toNat (8 - v1)) v1 (v0, v2, v3, v4) _ (Nat.lt_succ_self _) h2
    (fun j a hj hv => ⟨s_l10Key_L0_st a.1 (v1 + 1 * (j : Int)) a.2.1 a.2.2.1 a.2.2.2 (by omega) (by omega) (by omega) hv, by
      intro a' he
      unfold s_l10Key_L0_f at he
      simp only [letK] at he
      cases he
      exact s_l1Byte_cur _ hv⟩)
    (fun a hv => by
      show s_l10Key_L0_B a.1 (v1 + 1 * (((Int.toNat (8 - v1)) : Nat) : Int)) a.2.1 a.2.2.1 a.2.2.2 (Option (s_l10Key_L0_sh.T ⊕ WT s_l10Key_L0_es)) none (fun v' => some (Sum.inl v')) (fun w => some (Sum.inr w)) = _
      unfold s_l10Key_L0_B
      exact bifN (by simp only [decide_eq_false_iff_not]; omega) rfl)
theorem s_l10Key_L0_nx (v0 : Int) (v1 : Int) (v2 : List Int) (v3 : Int) (v4 : Int) (h0 : 0 ≤ v1) (h1 : 8 ≤ 4611686018427387904) (h2 : 0 ≤ v3 ∧ v2.length ≤ 1048576) : ∀ a', forN (s_l10Key_L0_f ) 1 (Int.toNat (8 - v1)) v1 (v0, v2, v3, v4) = .next a' → 0 ≤ a'.2.2.1 ∧ a'.2.1.length ≤ 1048576 :=
  forN_inv (f := s_l10Key_L0_f ) (st := 1) (Inv := fun v1 a => 0 ≤ a.2.2.1 ∧ a.2.1.length ≤ 1048576) (Int.toNat (8 - v1)) v1 (v0, v2, v3, v4) h2
    (fun j a hj hv => by
      intro a' he
      unfold s_l10Key_L0_f at he
      simp only [letK] at he
      cases he
      exact s_l1Byte_cur _ hv)
def s_l10Key_N (y0 : Curs) (γ : Type) (fail : γ) (k : Int × Curs → γ) : γ :=
  bif (decide (0 ≤ y0.i ∧ y0.b.length ≤ 1048576)) then
  letK (α := Int × Curs) (s_l1Below y0 3) fun c1 =>
  bif (c1.1 == 0) then
    k (0, c1.2)
  else
  bif (c1.1 == 1) then
    k (506097522914230528, c1.2)
  else
  optK (loopF s_l10Key_L0_r.step (s_l10Key_L0_fu 0 0 c1.2.b c1.2.i c1.2.h) (s_l10Key_L0_mk 0 0 c1.2.b c1.2.i c1.2.h)) fail fun w4 =>
    k (w4.1.2.1.1, (⟨w4.2.1.1, w4.2.1.2.1, w4.2.1.2.2.1⟩ : Curs))
  else fail
def s_l10Key (y0 : Curs) : Int × Curs :=
  letK (α := Int × Curs) (s_l1Below y0 3) fun c1 =>
  bif (c1.1 == 0) then
    (0, c1.2)
  else
  bif (c1.1 == 1) then
    (506097522914230528, c1.2)
  else
  Stp.elim (fun a5 =>
    (a5.1, (⟨a5.2.1, a5.2.2.1, a5.2.2.2⟩ : Curs)))
    (fun p : Empty => nomatch p)
    (forN (s_l10Key_L0_f) 1 (Int.toNat (8 - 0)) 0 (0, c1.2.b, c1.2.i, c1.2.h))
theorem s_l10Key_lk (y0 : Curs) : evalFnM te (orcOf (P := Try.prog) [s_l1Below_e, s_l1Byte_e]) (lorcOf [s_l10Key_L0_le]) s_l10Key_ann Try.f98 (pvs [.wr false [.ptr 0]] ((), ())) (mos [.box [.c (.sl .u8), .c (.int .i64), .c (.int .i64)]] ((y0.b, y0.i, y0.h, ()), ())) =
  s_l10Key_N y0 _ none (fun v => some ([(false, [RC.c (.int .u64 v.1)])] ++ (mos [.box [.c (.sl .u8), .c (.int .i64), .c (.int .i64)]] ((v.2.b, v.2.i, v.2.h, ()), ())).map encO)) := by kernel_rfl
theorem s_l10Key_p (y0 : Curs) (hy0_b : y0.b.length ≤ 140737488355328) (hy0_i : inK .i64 y0.i) (hy0_h : inK .i64 y0.h) (hp : 0 ≤ y0.i ∧ y0.b.length ≤ 1048576) (γ : Type) (fail : γ) (k : Int × Curs → γ) : s_l10Key_N y0 γ fail k = k (s_l10Key y0) := by
  unfold s_l10Key_N s_l10Key
  exact bifG (by (try simp only [Nat.ble_eq, Bool.and_eq_true, decide_eq_true_eq, s_l10Key_L0_mx0]); grind [maxSl, maxStr, toBytes_length, toInts_length, List.length_set, wrap64, s_l1Below_rng, s_l1Below_cur, s_l1Byte_rng, s_l1Byte_cur]) (letT (f := k) (fun c1 hc1 => have rc1 := s_l1Below_rng y0 3 (by first | assumption | exact ⟨by assumption, by assumption⟩ | grind [maxSl, wrap64, s_l10Key_L0_mx0]); have kc1 : 0 ≤ c1.2.i ∧ c1.2.b.length ≤ 1048576 := (by rw [hc1]; exact s_l1Below_cur _ _ (by first | assumption | exact ⟨by assumption, by assumption⟩ | grind [maxSl, wrap64, s_l10Key_L0_mx0])); bifT (f := k) (fun b0 => rfl)
      (fun b0 => bifT (f := k) (fun b1 => rfl)
      (fun b1 => loopX (f := k) (s_l10Key_L0_cl 0 0 c1.2.b c1.2.i c1.2.h (by (try simp only [Nat.ble_eq, Bool.and_eq_true, decide_eq_true_eq, s_l10Key_L0_mx0]); grind [maxSl, maxStr, toBytes_length, toInts_length, List.length_set, wrap64, s_l1Below_rng, s_l1Below_cur, s_l1Byte_rng, s_l1Byte_cur]) (by (try simp only [Nat.ble_eq, Bool.and_eq_true, decide_eq_true_eq, s_l10Key_L0_mx0]); grind [maxSl, maxStr, toBytes_length, toInts_length, List.length_set, wrap64, s_l1Below_rng, s_l1Below_cur, s_l1Byte_rng, s_l1Byte_cur]) (by (try simp only [Nat.ble_eq, Bool.and_eq_true, decide_eq_true_eq, s_l10Key_L0_mx0]); grind [maxSl, maxStr, toBytes_length, toInts_length, List.length_set, wrap64, s_l1Below_rng, s_l1Below_cur, s_l1Byte_rng, s_l1Byte_cur])) (fun a5 ha5 => have ia5 := s_l10Key_L0_nx 0 0 c1.2.b c1.2.i c1.2.h (by (try simp only [Nat.ble_eq, Bool.and_eq_true, decide_eq_true_eq, s_l10Key_L0_mx0]); grind [maxSl, maxStr, toBytes_length, toInts_length, List.length_set, wrap64, s_l1Below_rng, s_l1Below_cur, s_l1Byte_rng, s_l1Byte_cur]) (by (try simp only [Nat.ble_eq, Bool.and_eq_true, decide_eq_true_eq, s_l10Key_L0_mx0]); grind [maxSl, maxStr, toBytes_length, toInts_length, List.length_set, wrap64, s_l1Below_rng, s_l1Below_cur, s_l1Byte_rng, s_l1Byte_cur]) (by (try simp only [Nat.ble_eq, Bool.and_eq_true, decide_eq_true_eq, s_l10Key_L0_mx0]); grind [maxSl, maxStr, toBytes_length, toInts_length, List.length_set, wrap64, s_l1Below_rng, s_l1Below_cur, s_l1Byte_rng, s_l1Byte_cur]) _ ha5; rfl)
      (fun p : Empty => nomatch p)))))
theorem s_l10Key_c (y0 : Curs) (hp : 0 ≤ y0.i ∧ y0.b.length ≤ 1048576) : ConM Try.prog 98 (pvs [.wr false [.ptr 0]] ((), ())) (mos [.box [.c (.sl .u8), .c (.int .i64), .c (.int .i64)]] ((y0.b, y0.i, y0.h, ()), ())) [rv (.sc (.int .u64)) [] (s_l10Key y0).1] (mos [.box [.c (.sl .u8), .c (.int .i64), .c (.int .i64)]] ((((s_l10Key y0).2).b, ((s_l10Key y0).2).i, ((s_l10Key y0).2).h, ()), ())) := by
  refine ConM.of_facts (enters_of Try.func98 rfl (by kernel_rfl)) fun hf hg => ?_
  replace hf := factAt hf
  exact evalFn_conLM teFact mixFact (orcOf_ok _) Try.func98 (by kernel_rfl) (bs := [1]) (by kernel_rfl) (by kernel_rfl) (by kernel_rfl) rfl (fun w0 mo I0 hmo => ⟨lsem_of_lorc (s_l10Key_L0_ls w0 mo I0 hmo) (by kernel_rfl), trivial⟩) ((s_l10Key_lk y0).trans (s_l10Key_p y0 ((mbAt hg 0 0 rfl rfl).len) ((mbAt hg 0 1 rfl rfl).rng) ((mbAt hg 0 2 rfl rfl).rng) hp _ _ _))
noncomputable def s_l10Key_e : Ent1 Try.prog := entM 98 [.wr false [.ptr 0]] [.box [.c (.sl .u8), .c (.int .i64), .c (.int .i64)]] (fun x y => (decide (0 ≤ (⟨y.1.1, y.1.2.1, y.1.2.2.1⟩ : Curs).i ∧ (⟨y.1.1, y.1.2.1, y.1.2.2.1⟩ : Curs).b.length ≤ 1048576))) (fun x y => (s_l10Key (⟨y.1.1, y.1.2.1, y.1.2.2.1⟩ : Curs))) (fun v => [rv (.sc (.int .u64)) [] v.1]) (fun x y v => (mos [.box [.c (.sl .u8), .c (.int .i64), .c (.int .i64)]] ((v.2.b, v.2.i, v.2.h, ()), ()))) (fun x y hx => s_l10Key_c (⟨y.1.1, y.1.2.1, y.1.2.2.1⟩ : Curs) (of_decide_eq_true hx))

theorem s_l10Key_cur (y0 : Curs)  (hc0 : 0 ≤ y0.i ∧ y0.b.length ≤ 1048576) : 0 ≤ (s_l10Key y0).2.i ∧ (s_l10Key y0).2.b.length ≤ 1048576 := by
  unfold s_l10Key
  exact letP (P := (fun v : Int × Curs => 0 ≤ v.2.i ∧ v.2.b.length ≤ 1048576)) (fun c1 hc1 => have rc1 := s_l1Below_rng y0 3 (by first | assumption | exact ⟨by assumption, by assumption⟩ | grind [maxSl, wrap64, s_l10Key_L0_mx0]); have kc1 : 0 ≤ c1.2.i ∧ c1.2.b.length ≤ 1048576 := (by rw [hc1]; exact s_l1Below_cur _ _ (by first | assumption | exact ⟨by assumption, by assumption⟩ | grind [maxSl, wrap64, s_l10Key_L0_mx0])); bifP (P := (fun v : Int × Curs => 0 ≤ v.2.i ∧ v.2.b.length ≤ 1048576)) (fun b0 => (by (try simp only [Nat.ble_eq, Bool.and_eq_true, decide_eq_true_eq, s_l10Key_L0_mx0]); grind [maxSl, maxStr, toBytes_length, toInts_length, List.length_set, wrap64, s_l1Below_rng, s_l1Below_cur, s_l1Byte_rng, s_l1Byte_cur]))
      (fun b0 => bifP (P := (fun v : Int × Curs => 0 ≤ v.2.i ∧ v.2.b.length ≤ 1048576)) (fun b1 => (by (try simp only [Nat.ble_eq, Bool.and_eq_true, decide_eq_true_eq, s_l10Key_L0_mx0]); grind [maxSl, maxStr, toBytes_length, toInts_length, List.length_set, wrap64, s_l1Below_rng, s_l1Below_cur, s_l1Byte_rng, s_l1Byte_cur]))
      (fun b1 => loopP (P := (fun v : Int × Curs => 0 ≤ v.2.i ∧ v.2.b.length ≤ 1048576)) (fun a5 ha5 => have ia5 := s_l10Key_L0_nx 0 0 c1.2.b c1.2.i c1.2.h (by (try simp only [Nat.ble_eq, Bool.and_eq_true, decide_eq_true_eq, s_l10Key_L0_mx0]); grind [maxSl, maxStr, toBytes_length, toInts_length, List.length_set, wrap64, s_l1Below_rng, s_l1Below_cur, s_l1Byte_rng, s_l1Byte_cur]) (by (try simp only [Nat.ble_eq, Bool.and_eq_true, decide_eq_true_eq, s_l10Key_L0_mx0]); grind [maxSl, maxStr, toBytes_length, toInts_length, List.length_set, wrap64, s_l1Below_rng, s_l1Below_cur, s_l1Byte_rng, s_l1Byte_cur]) (by (try simp only [Nat.ble_eq, Bool.and_eq_true, decide_eq_true_eq, s_l10Key_L0_mx0]); grind [maxSl, maxStr, toBytes_length, toInts_length, List.length_set, wrap64, s_l1Below_rng, s_l1Below_cur, s_l1Byte_rng, s_l1Byte_cur]) _ ha5; (by (try simp only [Nat.ble_eq, Bool.and_eq_true, decide_eq_true_eq, s_l10Key_L0_mx0]); grind [maxSl, maxStr, toBytes_length, toInts_length, List.length_set, wrap64, s_l1Below_rng, s_l1Below_cur, s_l1Byte_rng, s_l1Byte_cur]))
      (fun p _ => nomatch p))))

/-- spec.l13Keys -/
def s_l13Keys_N (y0 : Curs) (γ : Type) (fail : γ) (k : Keys × Curs → γ) : γ :=
  bif (decide ((0 ≤ y0.i ∧ y0.b.length ≤ 1048576) ∧ 0 < ([0, 1, 2, 30, 31, 32, 33, 4294967295] : List Int).length)) then
  letK (α := Int × Curs) (s_l1PickInt y0 [0, 1, 2, 30, 31, 32, 33, 4294967295]) fun c1 =>
  bif (decide (0 ≤ c1.2.i ∧ c1.2.b.length ≤ 1048576)) then
  letK (α := Int × Curs) (s_l10Key c1.2) fun c2 =>
  bif (decide (0 ≤ c2.2.i ∧ c2.2.b.length ≤ 1048576)) then
  letK (α := Int × Curs) (s_l10Key c2.2) fun c3 =>
  letK (α := Mac) (s_KeyMac c2.1 c3.1) fun c4 =>
  bif (decide (0 < c1.1)) then
    bif (decide (0 ≤ c3.2.i ∧ c3.2.b.length ≤ 1048576)) then
    letK (α := Bool × Curs) (s_l1Once c3.2 2) fun c5 =>
    bif c5.1 then
      bif (decide (0 ≤ c5.2.i ∧ c5.2.b.length ≤ 1048576)) then
      letK (α := Int × Curs) (s_l10Key c5.2) fun c6 =>
      bif (decide (0 ≤ c6.2.i ∧ c6.2.b.length ≤ 1048576)) then
      letK (α := Int × Curs) (s_l10Key c6.2) fun c7 =>
      letK (α := Mac) (s_KeyMac c6.1 c7.1) fun c8 =>
      bif (decide (0 ≤ c7.2.i ∧ c7.2.b.length ≤ 1048576)) then
      letK (α := Bool × Curs) (s_l1Once c7.2 3) fun c9 =>
      bif c9.1 then
        bif (decide (([] : List MacRow).length ≤ 4294967296)) then
        letK (α := Mac) (s_TableMac []) fun c10 =>
        k ((⟨c1.1, c10, c8, true⟩ : Keys), c9.2)
        else fail
      else
      k ((⟨c1.1, c4, c8, true⟩ : Keys), c9.2)
      else fail
      else fail
      else fail
    else
    bif (decide (0 ≤ c5.2.i ∧ c5.2.b.length ≤ 1048576)) then
    letK (α := Bool × Curs) (s_l1Once c5.2 3) fun c11 =>
    bif c11.1 then
      bif (decide (([] : List MacRow).length ≤ 4294967296)) then
      letK (α := Mac) (s_TableMac []) fun c12 =>
      k ((⟨c1.1, c12, ⟨false, 0, 0, []⟩, false⟩ : Keys), c11.2)
      else fail
    else
    k ((⟨c1.1, c4, ⟨false, 0, 0, []⟩, false⟩ : Keys), c11.2)
    else fail
    else fail
  else
  bif (decide (0 ≤ c3.2.i ∧ c3.2.b.length ≤ 1048576)) then
  letK (α := Bool × Curs) (s_l1Once c3.2 3) fun c13 =>
  bif c13.1 then
    bif (decide (([] : List MacRow).length ≤ 4294967296)) then
    letK (α := Mac) (s_TableMac []) fun c14 =>
    k ((⟨c1.1, c14, ⟨false, 0, 0, []⟩, false⟩ : Keys), c13.2)
    else fail
  else
  k ((⟨c1.1, c4, ⟨false, 0, 0, []⟩, false⟩ : Keys), c13.2)
  else fail
  else fail
  else fail
  else fail
def s_l13Keys (y0 : Curs) : Keys × Curs :=
  letK (α := Int × Curs) (s_l1PickInt y0 [0, 1, 2, 30, 31, 32, 33, 4294967295]) fun c1 =>
  letK (α := Int × Curs) (s_l10Key c1.2) fun c2 =>
  letK (α := Int × Curs) (s_l10Key c2.2) fun c3 =>
  letK (α := Mac) (s_KeyMac c2.1 c3.1) fun c4 =>
  bif (decide (0 < c1.1)) then
    letK (α := Bool × Curs) (s_l1Once c3.2 2) fun c5 =>
    bif c5.1 then
      letK (α := Int × Curs) (s_l10Key c5.2) fun c6 =>
      letK (α := Int × Curs) (s_l10Key c6.2) fun c7 =>
      letK (α := Mac) (s_KeyMac c6.1 c7.1) fun c8 =>
      letK (α := Bool × Curs) (s_l1Once c7.2 3) fun c9 =>
      bif c9.1 then
        letK (α := Mac) (s_TableMac []) fun c10 =>
        ((⟨c1.1, c10, c8, true⟩ : Keys), c9.2)
      else
      ((⟨c1.1, c4, c8, true⟩ : Keys), c9.2)
    else
    letK (α := Bool × Curs) (s_l1Once c5.2 3) fun c11 =>
    bif c11.1 then
      letK (α := Mac) (s_TableMac []) fun c12 =>
      ((⟨c1.1, c12, ⟨false, 0, 0, []⟩, false⟩ : Keys), c11.2)
    else
    ((⟨c1.1, c4, ⟨false, 0, 0, []⟩, false⟩ : Keys), c11.2)
  else
  letK (α := Bool × Curs) (s_l1Once c3.2 3) fun c13 =>
  bif c13.1 then
    letK (α := Mac) (s_TableMac []) fun c14 =>
    ((⟨c1.1, c14, ⟨false, 0, 0, []⟩, false⟩ : Keys), c13.2)
  else
  ((⟨c1.1, c4, ⟨false, 0, 0, []⟩, false⟩ : Keys), c13.2)
theorem s_l13Keys_lk (y0 : Curs) : evalFnM te (orcOf (P := Try.prog) [s_l1PickInt_e, s_l10Key_e, s_KeyMac_e, s_l1Once_e, s_TableMac_e]) lorc0 [] Try.f109 (pvs [.wr false [.ptr 0]] ((), ())) (mos [.box [.c (.sl .u8), .c (.int .i64), .c (.int .i64)]] ((y0.b, y0.i, y0.h, ()), ())) =
  s_l13Keys_N y0 _ none (fun v => some ([(true, [RC.c (.int .i64 v.1.epoch), RC.c (.bool v.1.now.use), RC.c (.int .u64 v.1.now.k), RC.c (.int .u64 v.1.now.l), RC.own true .macRow v.1.now.rows, RC.c (.bool v.1.before.use), RC.c (.int .u64 v.1.before.k), RC.c (.int .u64 v.1.before.l), RC.own true .macRow v.1.before.rows, RC.c (.bool v.1.two)])] ++ (mos [.box [.c (.sl .u8), .c (.int .i64), .c (.int .i64)]] ((v.2.b, v.2.i, v.2.h, ()), ())).map encO)) := by kernel_rfl
theorem s_l13Keys_p (y0 : Curs) (hy0_b : y0.b.length ≤ 140737488355328) (hy0_i : inK .i64 y0.i) (hy0_h : inK .i64 y0.h) (hp : 0 ≤ y0.i ∧ y0.b.length ≤ 1048576) (γ : Type) (fail : γ) (k : Keys × Curs → γ) : s_l13Keys_N y0 γ fail k = k (s_l13Keys y0) := by
  unfold s_l13Keys_N s_l13Keys
  exact bifG (by (try simp only [Nat.ble_eq, Bool.and_eq_true, decide_eq_true_eq]); grind [maxSl, maxStr, toBytes_length, toInts_length, List.length_set, wrap64, s_l1PickInt_cur, s_l10Key_cur, s_KeyMac_len, s_l1Once_cur, s_TableMac_len]) (letT (f := k) (fun c1 hc1 => have kc1 : 0 ≤ c1.2.i ∧ c1.2.b.length ≤ 1048576 := (by rw [hc1]; exact s_l1PickInt_cur _ _ (by first | assumption | exact ⟨by assumption, by assumption⟩ | grind [maxSl, wrap64]) (by first | assumption | exact ⟨by assumption, by assumption⟩ | grind [maxSl, wrap64])); bifG (by (try simp only [Nat.ble_eq, Bool.and_eq_true, decide_eq_true_eq]); grind [maxSl, maxStr, toBytes_length, toInts_length, List.length_set, wrap64, s_l1PickInt_cur, s_l10Key_cur, s_KeyMac_len, s_l1Once_cur, s_TableMac_len]) (letT (f := k) (fun c2 hc2 => have kc2 : 0 ≤ c2.2.i ∧ c2.2.b.length ≤ 1048576 := (by rw [hc2]; exact s_l10Key_cur _ (by first | assumption | exact ⟨by assumption, by assumption⟩ | grind [maxSl, wrap64])); bifG (by (try simp only [Nat.ble_eq, Bool.and_eq_true, decide_eq_true_eq]); grind [maxSl, maxStr, toBytes_length, toInts_length, List.length_set, wrap64, s_l1PickInt_cur, s_l10Key_cur, s_KeyMac_len, s_l1Once_cur, s_TableMac_len]) (letT (f := k) (fun c3 hc3 => have kc3 : 0 ≤ c3.2.i ∧ c3.2.b.length ≤ 1048576 := (by rw [hc3]; exact s_l10Key_cur _ (by first | assumption | exact ⟨by assumption, by assumption⟩ | grind [maxSl, wrap64])); letT (f := k) (fun c4 hc4 => bifT (f := k) (fun b0 => bifG (by (try simp only [Nat.ble_eq, Bool.and_eq_true, decide_eq_true_eq]); grind [maxSl, maxStr, toBytes_length, toInts_length, List.length_set, wrap64, s_l1PickInt_cur, s_l10Key_cur, s_KeyMac_len, s_l1Once_cur, s_TableMac_len]) (letT (f := k) (fun c5 hc5 => have kc5 : 0 ≤ c5.2.i ∧ c5.2.b.length ≤ 1048576 := (by rw [hc5]; exact s_l1Once_cur _ _ (by first | assumption | exact ⟨by assumption, by assumption⟩ | grind [maxSl, wrap64])); bifT (f := k) (fun b1 => bifG (by (try simp only [Nat.ble_eq, Bool.and_eq_true, decide_eq_true_eq]); grind [maxSl, maxStr, toBytes_length, toInts_length, List.length_set, wrap64, s_l1PickInt_cur, s_l10Key_cur, s_KeyMac_len, s_l1Once_cur, s_TableMac_len]) (letT (f := k) (fun c6 hc6 => have kc6 : 0 ≤ c6.2.i ∧ c6.2.b.length ≤ 1048576 := (by rw [hc6]; exact s_l10Key_cur _ (by first | assumption | exact ⟨by assumption, by assumption⟩ | grind [maxSl, wrap64])); bifG (by (try simp only [Nat.ble_eq, Bool.and_eq_true, decide_eq_true_eq]); grind [maxSl, maxStr, toBytes_length, toInts_length, List.length_set, wrap64, s_l1PickInt_cur, s_l10Key_cur, s_KeyMac_len, s_l1Once_cur, s_TableMac_len]) (letT (f := k) (fun c7 hc7 => have kc7 : 0 ≤ c7.2.i ∧ c7.2.b.length ≤ 1048576 := (by rw [hc7]; exact s_l10Key_cur _ (by first | assumption | exact ⟨by assumption, by assumption⟩ | grind [maxSl, wrap64])); letT (f := k) (fun c8 hc8 => bifG (by (try simp only [Nat.ble_eq, Bool.and_eq_true, decide_eq_true_eq]); grind [maxSl, maxStr, toBytes_length, toInts_length, List.length_set, wrap64, s_l1PickInt_cur, s_l10Key_cur, s_KeyMac_len, s_l1Once_cur, s_TableMac_len]) (letT (f := k) (fun c9 hc9 => have kc9 : 0 ≤ c9.2.i ∧ c9.2.b.length ≤ 1048576 := (by rw [hc9]; exact s_l1Once_cur _ _ (by first | assumption | exact ⟨by assumption, by assumption⟩ | grind [maxSl, wrap64])); bifT (f := k) (fun b2 => bifG (by (try simp only [Nat.ble_eq, Bool.and_eq_true, decide_eq_true_eq]); grind [maxSl, maxStr, toBytes_length, toInts_length, List.length_set, wrap64, s_l1PickInt_cur, s_l10Key_cur, s_KeyMac_len, s_l1Once_cur, s_TableMac_len]) (letT (f := k) (fun c10 hc10 => rfl)))
      (fun b2 => rfl)))))))))
      (fun b1 => bifG (by (try simp only [Nat.ble_eq, Bool.and_eq_true, decide_eq_true_eq]); grind [maxSl, maxStr, toBytes_length, toInts_length, List.length_set, wrap64, s_l1PickInt_cur, s_l10Key_cur, s_KeyMac_len, s_l1Once_cur, s_TableMac_len]) (letT (f := k) (fun c11 hc11 => have kc11 : 0 ≤ c11.2.i ∧ c11.2.b.length ≤ 1048576 := (by rw [hc11]; exact s_l1Once_cur _ _ (by first | assumption | exact ⟨by assumption, by assumption⟩ | grind [maxSl, wrap64])); bifT (f := k) (fun b2 => bifG (by (try simp only [Nat.ble_eq, Bool.and_eq_true, decide_eq_true_eq]); grind [maxSl, maxStr, toBytes_length, toInts_length, List.length_set, wrap64, s_l1PickInt_cur, s_l10Key_cur, s_KeyMac_len, s_l1Once_cur, s_TableMac_len]) (letT (f := k) (fun c12 hc12 => rfl)))
      (fun b2 => rfl)))))))
      (fun b0 => bifG (by (try simp only [Nat.ble_eq, Bool.and_eq_true, decide_eq_true_eq]); grind [maxSl, maxStr, toBytes_length, toInts_length, List.length_set, wrap64, s_l1PickInt_cur, s_l10Key_cur, s_KeyMac_len, s_l1Once_cur, s_TableMac_len]) (letT (f := k) (fun c13 hc13 => have kc13 : 0 ≤ c13.2.i ∧ c13.2.b.length ≤ 1048576 := (by rw [hc13]; exact s_l1Once_cur _ _ (by first | assumption | exact ⟨by assumption, by assumption⟩ | grind [maxSl, wrap64])); bifT (f := k) (fun b1 => bifG (by (try simp only [Nat.ble_eq, Bool.and_eq_true, decide_eq_true_eq]); grind [maxSl, maxStr, toBytes_length, toInts_length, List.length_set, wrap64, s_l1PickInt_cur, s_l10Key_cur, s_KeyMac_len, s_l1Once_cur, s_TableMac_len]) (letT (f := k) (fun c14 hc14 => rfl)))
      (fun b1 => rfl)))))))))))
theorem s_l13Keys_c (y0 : Curs) (hp : 0 ≤ y0.i ∧ y0.b.length ≤ 1048576) : ConM Try.prog 109 (pvs [.wr false [.ptr 0]] ((), ())) (mos [.box [.c (.sl .u8), .c (.int .i64), .c (.int .i64)]] ((y0.b, y0.i, y0.h, ()), ())) [rv (.st .keys) [.c, .c, .c, .c, .o true, .c, .c, .c, .o true, .c] (s_l13Keys y0).1] (mos [.box [.c (.sl .u8), .c (.int .i64), .c (.int .i64)]] ((((s_l13Keys y0).2).b, ((s_l13Keys y0).2).i, ((s_l13Keys y0).2).h, ()), ())) := by
  refine ConM.of_facts (enters_of Try.func109 rfl (by kernel_rfl)) fun hf hg => ?_
  replace hf := factAt hf
  exact evalFn_conLM teFact mixFact (orcOf_ok _) Try.func109 (by kernel_rfl) (bs := []) (by kernel_rfl) (by kernel_rfl) (by kernel_rfl) rfl (fun w0 mo I0 hmo => trivial) ((s_l13Keys_lk y0).trans (s_l13Keys_p y0 ((mbAt hg 0 0 rfl rfl).len) ((mbAt hg 0 1 rfl rfl).rng) ((mbAt hg 0 2 rfl rfl).rng) hp _ _ _))
noncomputable def s_l13Keys_e : Ent1 Try.prog := entM 109 [.wr false [.ptr 0]] [.box [.c (.sl .u8), .c (.int .i64), .c (.int .i64)]] (fun x y => (decide (0 ≤ (⟨y.1.1, y.1.2.1, y.1.2.2.1⟩ : Curs).i ∧ (⟨y.1.1, y.1.2.1, y.1.2.2.1⟩ : Curs).b.length ≤ 1048576))) (fun x y => (s_l13Keys (⟨y.1.1, y.1.2.1, y.1.2.2.1⟩ : Curs))) (fun v => [rv (.st .keys) [.c, .c, .c, .c, .o true, .c, .c, .c, .o true, .c] v.1]) (fun x y v => (mos [.box [.c (.sl .u8), .c (.int .i64), .c (.int .i64)]] ((v.2.b, v.2.i, v.2.h, ()), ()))) (fun x y hx => s_l13Keys_c (⟨y.1.1, y.1.2.1, y.1.2.2.1⟩ : Curs) (of_decide_eq_true hx))

theorem s_l13Keys_cur (y0 : Curs)  (hc0 : 0 ≤ y0.i ∧ y0.b.length ≤ 1048576) : 0 ≤ (s_l13Keys y0).2.i ∧ (s_l13Keys y0).2.b.length ≤ 1048576 := by
  unfold s_l13Keys
  exact letP (P := (fun v : Keys × Curs => 0 ≤ v.2.i ∧ v.2.b.length ≤ 1048576)) (fun c1 hc1 => have kc1 : 0 ≤ c1.2.i ∧ c1.2.b.length ≤ 1048576 := (by rw [hc1]; exact s_l1PickInt_cur _ _ (by first | assumption | exact ⟨by assumption, by assumption⟩ | grind [maxSl, wrap64]) (by first | assumption | exact ⟨by assumption, by assumption⟩ | grind [maxSl, wrap64])); letP (P := (fun v : Keys × Curs => 0 ≤ v.2.i ∧ v.2.b.length ≤ 1048576)) (fun c2 hc2 => have kc2 : 0 ≤ c2.2.i ∧ c2.2.b.length ≤ 1048576 := (by rw [hc2]; exact s_l10Key_cur _ (by first | assumption | exact ⟨by assumption, by assumption⟩ | grind [maxSl, wrap64])); letP (P := (fun v : Keys × Curs => 0 ≤ v.2.i ∧ v.2.b.length ≤ 1048576)) (fun c3 hc3 => have kc3 : 0 ≤ c3.2.i ∧ c3.2.b.length ≤ 1048576 := (by rw [hc3]; exact s_l10Key_cur _ (by first | assumption | exact ⟨by assumption, by assumption⟩ | grind [maxSl, wrap64])); letP (P := (fun v : Keys × Curs => 0 ≤ v.2.i ∧ v.2.b.length ≤ 1048576)) (fun c4 hc4 => bifP (P := (fun v : Keys × Curs => 0 ≤ v.2.i ∧ v.2.b.length ≤ 1048576)) (fun b0 => letP (P := (fun v : Keys × Curs => 0 ≤ v.2.i ∧ v.2.b.length ≤ 1048576)) (fun c5 hc5 => have kc5 : 0 ≤ c5.2.i ∧ c5.2.b.length ≤ 1048576 := (by rw [hc5]; exact s_l1Once_cur _ _ (by first | assumption | exact ⟨by assumption, by assumption⟩ | grind [maxSl, wrap64])); bifP (P := (fun v : Keys × Curs => 0 ≤ v.2.i ∧ v.2.b.length ≤ 1048576)) (fun b1 => letP (P := (fun v : Keys × Curs => 0 ≤ v.2.i ∧ v.2.b.length ≤ 1048576)) (fun c6 hc6 => have kc6 : 0 ≤ c6.2.i ∧ c6.2.b.length ≤ 1048576 := (by rw [hc6]; exact s_l10Key_cur _ (by first | assumption | exact ⟨by assumption, by assumption⟩ | grind [maxSl, wrap64])); letP (P := (fun v : Keys × Curs => 0 ≤ v.2.i ∧ v.2.b.length ≤ 1048576)) (fun c7 hc7 => have kc7 : 0 ≤ c7.2.i ∧ c7.2.b.length ≤ 1048576 := (by rw [hc7]; exact s_l10Key_cur _ (by first | assumption | exact ⟨by assumption, by assumption⟩ | grind [maxSl, wrap64])); letP (P := (fun v : Keys × Curs => 0 ≤ v.2.i ∧ v.2.b.length ≤ 1048576)) (fun c8 hc8 => letP (P := (fun v : Keys × Curs => 0 ≤ v.2.i ∧ v.2.b.length ≤ 1048576)) (fun c9 hc9 => have kc9 : 0 ≤ c9.2.i ∧ c9.2.b.length ≤ 1048576 := (by rw [hc9]; exact s_l1Once_cur _ _ (by first | assumption | exact ⟨by assumption, by assumption⟩ | grind [maxSl, wrap64])); bifP (P := (fun v : Keys × Curs => 0 ≤ v.2.i ∧ v.2.b.length ≤ 1048576)) (fun b2 => letP (P := (fun v : Keys × Curs => 0 ≤ v.2.i ∧ v.2.b.length ≤ 1048576)) (fun c10 hc10 => (by (try simp only [Nat.ble_eq, Bool.and_eq_true, decide_eq_true_eq]); grind [maxSl, maxStr, toBytes_length, toInts_length, List.length_set, wrap64, s_l1PickInt_cur, s_l10Key_cur, s_KeyMac_len, s_l1Once_cur, s_TableMac_len])))
      (fun b2 => (by (try simp only [Nat.ble_eq, Bool.and_eq_true, decide_eq_true_eq]); grind [maxSl, maxStr, toBytes_length, toInts_length, List.length_set, wrap64, s_l1PickInt_cur, s_l10Key_cur, s_KeyMac_len, s_l1Once_cur, s_TableMac_len])))))))
      (fun b1 => letP (P := (fun v : Keys × Curs => 0 ≤ v.2.i ∧ v.2.b.length ≤ 1048576)) (fun c11 hc11 => have kc11 : 0 ≤ c11.2.i ∧ c11.2.b.length ≤ 1048576 := (by rw [hc11]; exact s_l1Once_cur _ _ (by first | assumption | exact ⟨by assumption, by assumption⟩ | grind [maxSl, wrap64])); bifP (P := (fun v : Keys × Curs => 0 ≤ v.2.i ∧ v.2.b.length ≤ 1048576)) (fun b2 => letP (P := (fun v : Keys × Curs => 0 ≤ v.2.i ∧ v.2.b.length ≤ 1048576)) (fun c12 hc12 => (by (try simp only [Nat.ble_eq, Bool.and_eq_true, decide_eq_true_eq]); grind [maxSl, maxStr, toBytes_length, toInts_length, List.length_set, wrap64, s_l1PickInt_cur, s_l10Key_cur, s_KeyMac_len, s_l1Once_cur, s_TableMac_len])))
      (fun b2 => (by (try simp only [Nat.ble_eq, Bool.and_eq_true, decide_eq_true_eq]); grind [maxSl, maxStr, toBytes_length, toInts_length, List.length_set, wrap64, s_l1PickInt_cur, s_l10Key_cur, s_KeyMac_len, s_l1Once_cur, s_TableMac_len]))))))
      (fun b0 => letP (P := (fun v : Keys × Curs => 0 ≤ v.2.i ∧ v.2.b.length ≤ 1048576)) (fun c13 hc13 => have kc13 : 0 ≤ c13.2.i ∧ c13.2.b.length ≤ 1048576 := (by rw [hc13]; exact s_l1Once_cur _ _ (by first | assumption | exact ⟨by assumption, by assumption⟩ | grind [maxSl, wrap64])); bifP (P := (fun v : Keys × Curs => 0 ≤ v.2.i ∧ v.2.b.length ≤ 1048576)) (fun b1 => letP (P := (fun v : Keys × Curs => 0 ≤ v.2.i ∧ v.2.b.length ≤ 1048576)) (fun c14 hc14 => (by (try simp only [Nat.ble_eq, Bool.and_eq_true, decide_eq_true_eq]); grind [maxSl, maxStr, toBytes_length, toInts_length, List.length_set, wrap64, s_l1PickInt_cur, s_l10Key_cur, s_KeyMac_len, s_l1Once_cur, s_TableMac_len])))
      (fun b1 => (by (try simp only [Nat.ble_eq, Bool.and_eq_true, decide_eq_true_eq]); grind [maxSl, maxStr, toBytes_length, toInts_length, List.length_set, wrap64, s_l1PickInt_cur, s_l10Key_cur, s_KeyMac_len, s_l1Once_cur, s_TableMac_len]))))))))
theorem s_l13Keys_len (y0 : Curs) (hp : 0 ≤ y0.i ∧ y0.b.length ≤ 1048576)  : (fun v : Keys × Curs => v.1.now.rows.length ≤ 8 ∧ v.1.before.rows.length ≤ 8) (s_l13Keys y0) := by
  unfold s_l13Keys
  exact letP (P := (fun v : Keys × Curs => v.1.now.rows.length ≤ 8 ∧ v.1.before.rows.length ≤ 8)) (fun c1 hc1 => have kc1 : 0 ≤ c1.2.i ∧ c1.2.b.length ≤ 1048576 := (by rw [hc1]; exact s_l1PickInt_cur _ _ (by first | assumption | exact ⟨by assumption, by assumption⟩ | grind [maxSl, wrap64]) (by first | assumption | exact ⟨by assumption, by assumption⟩ | grind [maxSl, wrap64])); letP (P := (fun v : Keys × Curs => v.1.now.rows.length ≤ 8 ∧ v.1.before.rows.length ≤ 8)) (fun c2 hc2 => have kc2 : 0 ≤ c2.2.i ∧ c2.2.b.length ≤ 1048576 := (by rw [hc2]; exact s_l10Key_cur _ (by first | assumption | exact ⟨by assumption, by assumption⟩ | grind [maxSl, wrap64])); letP (P := (fun v : Keys × Curs => v.1.now.rows.length ≤ 8 ∧ v.1.before.rows.length ≤ 8)) (fun c3 hc3 => have kc3 : 0 ≤ c3.2.i ∧ c3.2.b.length ≤ 1048576 := (by rw [hc3]; exact s_l10Key_cur _ (by first | assumption | exact ⟨by assumption, by assumption⟩ | grind [maxSl, wrap64])); letP (P := (fun v : Keys × Curs => v.1.now.rows.length ≤ 8 ∧ v.1.before.rows.length ≤ 8)) (fun c4 hc4 => bifP (P := (fun v : Keys × Curs => v.1.now.rows.length ≤ 8 ∧ v.1.before.rows.length ≤ 8)) (fun b0 => letP (P := (fun v : Keys × Curs => v.1.now.rows.length ≤ 8 ∧ v.1.before.rows.length ≤ 8)) (fun c5 hc5 => have kc5 : 0 ≤ c5.2.i ∧ c5.2.b.length ≤ 1048576 := (by rw [hc5]; exact s_l1Once_cur _ _ (by first | assumption | exact ⟨by assumption, by assumption⟩ | grind [maxSl, wrap64])); bifP (P := (fun v : Keys × Curs => v.1.now.rows.length ≤ 8 ∧ v.1.before.rows.length ≤ 8)) (fun b1 => letP (P := (fun v : Keys × Curs => v.1.now.rows.length ≤ 8 ∧ v.1.before.rows.length ≤ 8)) (fun c6 hc6 => have kc6 : 0 ≤ c6.2.i ∧ c6.2.b.length ≤ 1048576 := (by rw [hc6]; exact s_l10Key_cur _ (by first | assumption | exact ⟨by assumption, by assumption⟩ | grind [maxSl, wrap64])); letP (P := (fun v : Keys × Curs => v.1.now.rows.length ≤ 8 ∧ v.1.before.rows.length ≤ 8)) (fun c7 hc7 => have kc7 : 0 ≤ c7.2.i ∧ c7.2.b.length ≤ 1048576 := (by rw [hc7]; exact s_l10Key_cur _ (by first | assumption | exact ⟨by assumption, by assumption⟩ | grind [maxSl, wrap64])); letP (P := (fun v : Keys × Curs => v.1.now.rows.length ≤ 8 ∧ v.1.before.rows.length ≤ 8)) (fun c8 hc8 => letP (P := (fun v : Keys × Curs => v.1.now.rows.length ≤ 8 ∧ v.1.before.rows.length ≤ 8)) (fun c9 hc9 => have kc9 : 0 ≤ c9.2.i ∧ c9.2.b.length ≤ 1048576 := (by rw [hc9]; exact s_l1Once_cur _ _ (by first | assumption | exact ⟨by assumption, by assumption⟩ | grind [maxSl, wrap64])); bifP (P := (fun v : Keys × Curs => v.1.now.rows.length ≤ 8 ∧ v.1.before.rows.length ≤ 8)) (fun b2 => letP (P := (fun v : Keys × Curs => v.1.now.rows.length ≤ 8 ∧ v.1.before.rows.length ≤ 8)) (fun c10 hc10 => (by (try simp only [Nat.ble_eq, Bool.and_eq_true, decide_eq_true_eq]); grind [maxSl, maxStr, toBytes_length, toInts_length, List.length_set, wrap64, s_l1PickInt_cur, s_l10Key_cur, s_KeyMac_len, s_l1Once_cur, s_TableMac_len])))
      (fun b2 => (by (try simp only [Nat.ble_eq, Bool.and_eq_true, decide_eq_true_eq]); grind [maxSl, maxStr, toBytes_length, toInts_length, List.length_set, wrap64, s_l1PickInt_cur, s_l10Key_cur, s_KeyMac_len, s_l1Once_cur, s_TableMac_len])))))))
      (fun b1 => letP (P := (fun v : Keys × Curs => v.1.now.rows.length ≤ 8 ∧ v.1.before.rows.length ≤ 8)) (fun c11 hc11 => have kc11 : 0 ≤ c11.2.i ∧ c11.2.b.length ≤ 1048576 := (by rw [hc11]; exact s_l1Once_cur _ _ (by first | assumption | exact ⟨by assumption, by assumption⟩ | grind [maxSl, wrap64])); bifP (P := (fun v : Keys × Curs => v.1.now.rows.length ≤ 8 ∧ v.1.before.rows.length ≤ 8)) (fun b2 => letP (P := (fun v : Keys × Curs => v.1.now.rows.length ≤ 8 ∧ v.1.before.rows.length ≤ 8)) (fun c12 hc12 => (by (try simp only [Nat.ble_eq, Bool.and_eq_true, decide_eq_true_eq]); grind [maxSl, maxStr, toBytes_length, toInts_length, List.length_set, wrap64, s_l1PickInt_cur, s_l10Key_cur, s_KeyMac_len, s_l1Once_cur, s_TableMac_len])))
      (fun b2 => (by (try simp only [Nat.ble_eq, Bool.and_eq_true, decide_eq_true_eq]); grind [maxSl, maxStr, toBytes_length, toInts_length, List.length_set, wrap64, s_l1PickInt_cur, s_l10Key_cur, s_KeyMac_len, s_l1Once_cur, s_TableMac_len]))))))
      (fun b0 => letP (P := (fun v : Keys × Curs => v.1.now.rows.length ≤ 8 ∧ v.1.before.rows.length ≤ 8)) (fun c13 hc13 => have kc13 : 0 ≤ c13.2.i ∧ c13.2.b.length ≤ 1048576 := (by rw [hc13]; exact s_l1Once_cur _ _ (by first | assumption | exact ⟨by assumption, by assumption⟩ | grind [maxSl, wrap64])); bifP (P := (fun v : Keys × Curs => v.1.now.rows.length ≤ 8 ∧ v.1.before.rows.length ≤ 8)) (fun b1 => letP (P := (fun v : Keys × Curs => v.1.now.rows.length ≤ 8 ∧ v.1.before.rows.length ≤ 8)) (fun c14 hc14 => (by (try simp only [Nat.ble_eq, Bool.and_eq_true, decide_eq_true_eq]); grind [maxSl, maxStr, toBytes_length, toInts_length, List.length_set, wrap64, s_l1PickInt_cur, s_l10Key_cur, s_KeyMac_len, s_l1Once_cur, s_TableMac_len])))
      (fun b1 => (by (try simp only [Nat.ble_eq, Bool.and_eq_true, decide_eq_true_eq]); grind [maxSl, maxStr, toBytes_length, toInts_length, List.length_set, wrap64, s_l1PickInt_cur, s_l10Key_cur, s_KeyMac_len, s_l1Once_cur, s_TableMac_len]))))))))

/-- spec.l1Pick -/
def s_l1Pick_N (y0 : Curs) (x1 : List Bytes) (γ : Type) (fail : γ) (k : Bytes × Curs → γ) : γ :=
  bif (decide (0 ≤ y0.i ∧ y0.b.length ≤ 1048576)) then
  letK (α := Int × Curs) (s_l1Below y0 (x1.length : Int)) fun c1 =>
  bif ((decide (0 ≤ c1.1)) && (decide (c1.1 < (x1.length : Int)))) then
  k ((x1.getD c1.1.toNat []), c1.2)
  else fail
  else fail
def s_l1Pick (y0 : Curs) (x1 : List Bytes) : Bytes × Curs :=
  letK (α := Int × Curs) (s_l1Below y0 (x1.length : Int)) fun c1 =>
  ((x1.getD c1.1.toNat []), c1.2)
theorem s_l1Pick_lk (y0 : Curs) (x1 : List Bytes) : evalFnM te (orcOf (P := Try.prog) [s_l1Below_e]) lorc0 [] Try.f173 (pvs [.wr false [.ptr 0], .sc (.sl .str)] ((), x1, ())) (mos [.box [.c (.sl .u8), .c (.int .i64), .c (.int .i64)]] ((y0.b, y0.i, y0.h, ()), ())) =
  s_l1Pick_N y0 x1 _ none (fun v => some ([(false, [RC.c (.str v.1)])] ++ (mos [.box [.c (.sl .u8), .c (.int .i64), .c (.int .i64)]] ((v.2.b, v.2.i, v.2.h, ()), ())).map encO)) := by kernel_rfl
theorem s_l1Pick_p (y0 : Curs) (x1 : List Bytes) (hx1 : x1.length ≤ 140737488355328) (hx1_e : ∀ y ∈ x1, List.length y ≤ 4611686018427387904) (hy0_b : y0.b.length ≤ 140737488355328) (hy0_i : inK .i64 y0.i) (hy0_h : inK .i64 y0.h) (hp : (0 ≤ y0.i ∧ y0.b.length ≤ 1048576) ∧ 0 < x1.length) (γ : Type) (fail : γ) (k : Bytes × Curs → γ) : s_l1Pick_N y0 x1 γ fail k = k (s_l1Pick y0 x1) := by
  unfold s_l1Pick_N s_l1Pick
  exact bifG (by (try simp only [Nat.ble_eq, Bool.and_eq_true, decide_eq_true_eq]); grind [maxSl, maxStr, toBytes_length, toInts_length, List.length_set, wrap64, s_l1Below_rng, s_l1Below_cur]) (letT (f := k) (fun c1 hc1 => have rc1 := s_l1Below_rng y0 (x1.length : Int) (by first | assumption | exact ⟨by assumption, by assumption⟩ | grind [maxSl, wrap64]); have kc1 : 0 ≤ c1.2.i ∧ c1.2.b.length ≤ 1048576 := (by rw [hc1]; exact s_l1Below_cur _ _ (by first | assumption | exact ⟨by assumption, by assumption⟩ | grind [maxSl, wrap64])); bifG (by (try simp only [Nat.ble_eq, Bool.and_eq_true, decide_eq_true_eq]); grind [maxSl, maxStr, toBytes_length, toInts_length, List.length_set, wrap64, s_l1Below_rng, s_l1Below_cur]) (rfl)))
theorem s_l1Pick_c (y0 : Curs) (x1 : List Bytes) (hp : (0 ≤ y0.i ∧ y0.b.length ≤ 1048576) ∧ 0 < x1.length) : ConM Try.prog 173 (pvs [.wr false [.ptr 0], .sc (.sl .str)] ((), x1, ())) (mos [.box [.c (.sl .u8), .c (.int .i64), .c (.int .i64)]] ((y0.b, y0.i, y0.h, ()), ())) [rv (.sc .str) [] (s_l1Pick y0 x1).1] (mos [.box [.c (.sl .u8), .c (.int .i64), .c (.int .i64)]] ((((s_l1Pick y0 x1).2).b, ((s_l1Pick y0 x1).2).i, ((s_l1Pick y0 x1).2).h, ()), ())) := by
  refine ConM.of_facts (enters_of Try.func173 rfl (by kernel_rfl)) fun hf hg => ?_
  replace hf := factAt hf
  exact evalFn_conLM teFact mixFact (orcOf_ok _) Try.func173 (by kernel_rfl) (bs := []) (by kernel_rfl) (by kernel_rfl) (by kernel_rfl) rfl (fun w0 mo I0 hmo => trivial) ((s_l1Pick_lk y0 x1).trans (s_l1Pick_p y0 x1 ((hf 1 0 rfl rfl).len) (fun y hy => ((hf 1 0 rfl rfl).elem hy (.str y) List.mem_cons_self).slen) ((mbAt hg 0 0 rfl rfl).len) ((mbAt hg 0 1 rfl rfl).rng) ((mbAt hg 0 2 rfl rfl).rng) hp _ _ _))
noncomputable def s_l1Pick_e : Ent1 Try.prog := entM 173 [.wr false [.ptr 0], .sc (.sl .str)] [.box [.c (.sl .u8), .c (.int .i64), .c (.int .i64)]] (fun x y => (decide ((0 ≤ (⟨y.1.1, y.1.2.1, y.1.2.2.1⟩ : Curs).i ∧ (⟨y.1.1, y.1.2.1, y.1.2.2.1⟩ : Curs).b.length ≤ 1048576) ∧ 0 < x.2.1.length))) (fun x y => (s_l1Pick (⟨y.1.1, y.1.2.1, y.1.2.2.1⟩ : Curs) x.2.1)) (fun v => [rv (.sc .str) [] v.1]) (fun x y v => (mos [.box [.c (.sl .u8), .c (.int .i64), .c (.int .i64)]] ((v.2.b, v.2.i, v.2.h, ()), ()))) (fun x y hx => s_l1Pick_c (⟨y.1.1, y.1.2.1, y.1.2.2.1⟩ : Curs) x.2.1 (of_decide_eq_true hx))

theorem s_l1Pick_cur (y0 : Curs) (x1 : List Bytes) (hp : (0 ≤ y0.i ∧ y0.b.length ≤ 1048576) ∧ 0 < x1.length) (hc0 : 0 ≤ y0.i ∧ y0.b.length ≤ 1048576) : 0 ≤ (s_l1Pick y0 x1).2.i ∧ (s_l1Pick y0 x1).2.b.length ≤ 1048576 := by
  unfold s_l1Pick
  exact letP (P := (fun v : Bytes × Curs => 0 ≤ v.2.i ∧ v.2.b.length ≤ 1048576)) (fun c1 hc1 => have rc1 := s_l1Below_rng y0 (x1.length : Int) (by first | assumption | exact ⟨by assumption, by assumption⟩ | grind [maxSl, wrap64]); have kc1 : 0 ≤ c1.2.i ∧ c1.2.b.length ≤ 1048576 := (by rw [hc1]; exact s_l1Below_cur _ _ (by first | assumption | exact ⟨by assumption, by assumption⟩ | grind [maxSl, wrap64])); (by (try simp only [Nat.ble_eq, Bool.and_eq_true, decide_eq_true_eq]); grind [maxSl, maxStr, toBytes_length, toInts_length, List.length_set, wrap64, s_l1Below_rng, s_l1Below_cur]))

/-- spec.l11Rows -/
def s_l11Rows_ann : List (Nat × Keep) := [(0, ⟨[0, 3, 4, 5], [], false, 1⟩)]
def s_l11Rows_L0_sh : Sh := ⟨[(0, false, [.ptr 0 0]), (3, false, [.own 1]), (4, false, [.int .i64]), (5, false, [.int .i64])], [.box [.sl .any .u8, .int .i64, .int .i64], .arr .macRow false true]⟩
def s_l11Rows_L0_es : List (Ex × Sh) := [(.exit 0, ⟨[(0, false, [.ptr 0 0]), (2, false, [.undef]), (3, false, [.own 1]), (4, false, [.int .i64])], [.box [.sl .any .u8, .int .i64, .int .i64], .arr .macRow false true]⟩)]
def s_l11Rows_L0_mk (v0 : Int) (v1 : Int) (v2 : List Int) (v3 : Int) (v4 : Int) (v5 : List MacRow) : s_l11Rows_L0_sh.T := ((((), ()), (((), ()), ((v0, ()), ((v1, ()), ())))), ((v2, (v3, (v4, ()))), (v5, ())))
def s_l11Rows_L0_mx0 (y0 : Int) (y1 : List Int) (y2 : Int) (y3 : Int) (y4 : List MacRow) : Sh.T ⟨[(0, false, [.ptr 0 0]), (2, false, [.undef]), (3, false, [.own 1]), (4, false, [.int .i64])], [.box [.sl .any .u8, .int .i64, .int .i64], .arr .macRow false true]⟩ := ((((), ()), (((), ()), (((), ()), ((y0, ()), ())))), ((y1, (y2, (y3, ()))), (y4, ())))
def s_l11Rows_L0_B (v0 : Int) (v1 : Int) (v2 : List Int) (v3 : Int) (v4 : Int) (v5 : List MacRow) (γ : Type) (fail : γ) (next : s_l11Rows_L0_sh.T → γ) (out : WT s_l11Rows_L0_es → γ) : γ :=
  bif (decide (v1 < v0)) then
    bif (decide ((0 ≤ (⟨v2, v3, v4⟩ : Curs).i ∧ (⟨v2, v3, v4⟩ : Curs).b.length ≤ 1048576) ∧ 0 < ([[], [97], [98], [99, 100], [97]] : List Bytes).length)) then
    letK (α := Bytes × Curs) (s_l1Pick (⟨v2, v3, v4⟩ : Curs) [[], [97], [98], [99, 100], [97]]) fun c2 =>
    bif (decide (0 ≤ c2.2.i ∧ c2.2.b.length ≤ 1048576)) then
    letK (α := Int × Curs) (s_l1Below c2.2 16777216) fun c3 =>
    bif (decide ((0 ≤ c3.2.i ∧ c3.2.b.length ≤ 1048576) ∧ 0 < ([0, 1, 5, 16777215, c3.1] : List Int).length)) then
    letK (α := Int × Curs) (s_l1PickInt c3.2 [0, 1, 5, 16777215, c3.1]) fun c4 =>
    bif (Nat.ble ((2 * (v5.length + 1) + 1024) * 24) maxSl) then
    next (s_l11Rows_L0_mk v0 (IntKind.wrap .i64 (v1 + 1)) c4.2.b c4.2.i c4.2.h (v5 ++ [(⟨c2.1, c4.1⟩ : MacRow)]))
    else fail
    else fail
    else fail
    else fail
  else
  out (s_l11Rows_L0_mx0 v0 v2 v3 v4 v5)
theorem s_l11Rows_L0_par (v0 : Int) (v1 : Int) (v2 : List Int) (v3 : Int) (v4 : Int) (v5 : List MacRow) (γ : Type) (fail : γ) (next : s_l11Rows_L0_sh.T → γ) (out : WT s_l11Rows_L0_es → γ) : s_l11Rows_L0_B v0 v1 v2 v3 v4 v5 γ fail next out = optK (s_l11Rows_L0_B v0 v1 v2 v3 v4 v5 _ none (fun v' => some (.inl v')) (fun w => some (.inr w))) fail (fun r => Sum.elim next out r) := by
  unfold s_l11Rows_L0_B
  exact bifT (f := (fun o => optK o fail (fun r => Sum.elim next out r))) (fun _ => bifT (f := (fun o => optK o fail (fun r => Sum.elim next out r))) (fun _ => letT (f := (fun o => optK o fail (fun r => Sum.elim next out r))) (fun c2 _ => bifT (f := (fun o => optK o fail (fun r => Sum.elim next out r))) (fun _ => letT (f := (fun o => optK o fail (fun r => Sum.elim next out r))) (fun c3 _ => bifT (f := (fun o => optK o fail (fun r => Sum.elim next out r))) (fun _ => letT (f := (fun o => optK o fail (fun r => Sum.elim next out r))) (fun c4 _ => bifT (f := (fun o => optK o fail (fun r => Sum.elim next out r))) (fun _ => rfl) (fun _ => rfl))) (fun _ => rfl))) (fun _ => rfl))) (fun _ => rfl))
      (fun _ => rfl)
def s_l11Rows_L0_r : Round s_l11Rows_L0_sh.T (WT s_l11Rows_L0_es) where
  B v γ fail next out := s_l11Rows_L0_B v.1.2.2.1.1 v.1.2.2.2.1.1 v.2.1.1 v.2.1.2.1 v.2.1.2.2.1 v.2.2.1 γ fail next out
  par v γ fail next out := s_l11Rows_L0_par v.1.2.2.1.1 v.1.2.2.2.1.1 v.2.1.1 v.2.1.2.1 v.2.1.2.2.1 v.2.2.1 γ fail next out
def s_l11Rows_L0_fu (v0 : Int) (v1 : Int) (v2 : List Int) (v3 : Int) (v4 : Int) (v5 : List MacRow) : Nat := (Int.toNat (v0 - v1)) + 1
theorem s_l11Rows_L0_lk (v : s_l11Rows_L0_sh.T) (next : St → Option Res) (k : Ex → St → Option Res) : evalK te (orcOf (P := Try.prog) [s_l1Below_e, s_l1Pick_e, s_l1PickInt_e, s_l1Once_e, s_l1Whole_e]) (lorcOf []) Try.f148.ntmps s_l11Rows_ann (nthLoop (bodyOf Try.f148) 0 0) 0 (s_l11Rows_L0_sh.enc v) (endK ⟨[0, 3, 4, 5], [], false, 1⟩ ⟨[0, 2, 3, 4], [], false, 1⟩ next k) =
  s_l11Rows_L0_r.B v _ none (fun v' => next (s_l11Rows_L0_sh.enc v')) (fun w => outK s_l11Rows_L0_es k w) := by kernel_rfl
def s_l11Rows_L0_le : LE := leOf 0 s_l11Rows_L0_sh s_l11Rows_L0_es s_l11Rows_L0_r.step (fun v => s_l11Rows_L0_fu v.1.2.2.1.1 v.1.2.2.2.1.1 v.2.1.1 v.2.1.2.1 v.2.1.2.2.1 v.2.2.1)
theorem s_l11Rows_L0_ls (w0 : World) (mo : Mts) (I0 : Nat → Prop) (hmo : mo.length = 1) : LSem Try.prog (Sim w0 mo Try.f148.ntmps I0) (fun b s k => match Nat.beq 0 b with | true => s_l11Rows_L0_le.run s k | false => none) 0 (nthLoop (bodyOf Try.f148) 0 0) :=
  le_sem hmo (lorc := lorcOf []) (ann := s_l11Rows_ann) (keep := ⟨[0, 3, 4, 5], [], false, 1⟩) (kout := ⟨[0, 2, 3, 4], [], false, 1⟩) teFact mixFact (orcOf_ok _) (by kernel_rfl) (allLoops_of (bs := []) (by kernel_rfl) trivial) s_l11Rows_L0_r _ s_l11Rows_L0_lk
def s_l11Rows_L0_f (v0 : Int) (v1 : Int) (a : List Int × Int × Int × List MacRow) : Stp (List Int × Int × Int × List MacRow) (Empty) :=
  letK (α := Bytes × Curs) (s_l1Pick (⟨a.1, a.2.1, a.2.2.1⟩ : Curs) [[], [97], [98], [99, 100], [97]]) fun c2 =>
  letK (α := Int × Curs) (s_l1Below c2.2 16777216) fun c3 =>
  letK (α := Int × Curs) (s_l1PickInt c3.2 [0, 1, 5, 16777215, c3.1]) fun c4 =>
  .next (c4.2.b, c4.2.i, c4.2.h, (a.2.2.2 ++ [(⟨c2.1, c4.1⟩ : MacRow)]))
theorem s_l11Rows_L0_st (v0 : Int) (v1 : Int) (v2 : List Int) (v3 : Int) (v4 : Int) (v5 : List MacRow) (hlo : 0 ≤ v1) (hhi : v1 < v0) (hN : v0 ≤ 4611686018427387904) (hi0 : v0 ≤ 1024) (hinv : 0 ≤ v3 ∧ v2.length ≤ 1048576 ∧ (v5.length : Int) = v1) : s_l11Rows_L0_r.step (s_l11Rows_L0_mk v0 v1 v2 v3 v4 v5) = Stp.elim (fun a' : List Int × Int × Int × List MacRow => some (Sum.inl (s_l11Rows_L0_mk v0 (v1 + 1) a'.1 a'.2.1 a'.2.2.1 a'.2.2.2))) (fun w => some (Sum.inr ((fun p : Empty => nomatch p) w))) (s_l11Rows_L0_f v0 v1 (v2, v3, v4, v5)) := by
  have hw : (IntKind.wrap .i64 (v1 + 1)) = v1 + 1 := wrap64 (by omega) (by omega)
  show s_l11Rows_L0_B v0 v1 v2 v3 v4 v5 (Option (s_l11Rows_L0_sh.T ⊕ WT s_l11Rows_L0_es)) none (fun v' => some (Sum.inl v')) (fun w => some (Sum.inr w)) = _
  unfold s_l11Rows_L0_B s_l11Rows_L0_f
  exact bifG (by simp only [decide_eq_true_eq]; omega) (bifG (by (try simp only [Nat.ble_eq, Bool.and_eq_true, decide_eq_true_eq]); grind [maxSl, maxStr, toBytes_length, toInts_length, List.length_set, wrap64, s_l1Below_rng, s_l1Below_cur, s_l1Pick_cur, s_l1PickInt_cur, s_l1Once_cur, s_l1Whole_cur]) (letT (f := (Stp.elim (fun a' : List Int × Int × Int × List MacRow => some (Sum.inl (s_l11Rows_L0_mk v0 (v1 + 1) a'.1 a'.2.1 a'.2.2.1 a'.2.2.2))) (fun w => some (Sum.inr ((fun p : Empty => nomatch p) w))))) (fun (c2 : Bytes × Curs) hc2 => have kc2 : 0 ≤ c2.2.i ∧ c2.2.b.length ≤ 1048576 := (by rw [hc2]; exact s_l1Pick_cur _ _ (by first | assumption | exact ⟨by assumption, by assumption⟩ | grind [maxSl, wrap64, s_l11Rows_L0_mx0]) (by first | assumption | exact ⟨by assumption, by assumption⟩ | grind [maxSl, wrap64, s_l11Rows_L0_mx0])); bifG (by (try simp only [Nat.ble_eq, Bool.and_eq_true, decide_eq_true_eq]); grind [maxSl, maxStr, toBytes_length, toInts_length, List.length_set, wrap64, s_l1Below_rng, s_l1Below_cur, s_l1Pick_cur, s_l1PickInt_cur, s_l1Once_cur, s_l1Whole_cur]) (letT (f := (Stp.elim (fun a' : List Int × Int × Int × List MacRow => some (Sum.inl (s_l11Rows_L0_mk v0 (v1 + 1) a'.1 a'.2.1 a'.2.2.1 a'.2.2.2))) (fun w => some (Sum.inr ((fun p : Empty => nomatch p) w))))) (fun (c3 : Int × Curs) hc3 => have rc3 := s_l1Below_rng c2.2 16777216 (by first | assumption | exact ⟨by assumption, by assumption⟩ | grind [maxSl, wrap64, s_l11Rows_L0_mx0]); have kc3 : 0 ≤ c3.2.i ∧ c3.2.b.length ≤ 1048576 := (by rw [hc3]; exact s_l1Below_cur _ _ (by first | assumption | exact ⟨by assumption, by assumption⟩ | grind [maxSl, wrap64, s_l11Rows_L0_mx0])); bifG (by (try simp only [Nat.ble_eq, Bool.and_eq_true, decide_eq_true_eq]); grind [maxSl, maxStr, toBytes_length, toInts_length, List.length_set, wrap64, s_l1Below_rng, s_l1Below_cur, s_l1Pick_cur, s_l1PickInt_cur, s_l1Once_cur, s_l1Whole_cur]) (letT (f := (Stp.elim (fun a' : List Int × Int × Int × List MacRow => some (Sum.inl (s_l11Rows_L0_mk v0 (v1 + 1) a'.1 a'.2.1 a'.2.2.1 a'.2.2.2))) (fun w => some (Sum.inr ((fun p : Empty => nomatch p) w))))) (fun (c4 : Int × Curs) hc4 => have kc4 : 0 ≤ c4.2.i ∧ c4.2.b.length ≤ 1048576 := (by rw [hc4]; exact s_l1PickInt_cur _ _ (by first | assumption | exact ⟨by assumption, by assumption⟩ | grind [maxSl, wrap64, s_l11Rows_L0_mx0]) (by first | assumption | exact ⟨by assumption, by assumption⟩ | grind [maxSl, wrap64, s_l11Rows_L0_mx0])); bifG (by (try simp only [Nat.ble_eq, Bool.and_eq_true, decide_eq_true_eq]); grind [maxSl, maxStr, toBytes_length, toInts_length, List.length_set, wrap64, s_l1Below_rng, s_l1Below_cur, s_l1Pick_cur, s_l1PickInt_cur, s_l1Once_cur, s_l1Whole_cur]) ((by exact congrArg (fun z => some (Sum.inl (s_l11Rows_L0_mk v0 z c4.2.b c4.2.i c4.2.h (v5 ++ [(⟨c2.1, c4.1⟩ : MacRow)])))) hw)))))))))
theorem s_l11Rows_L0_cl (v0 : Int) (v1 : Int) (v2 : List Int) (v3 : Int) (v4 : Int) (v5 : List MacRow) (h0 : 0 ≤ v1) (h1 : v0 ≤ 4611686018427387904) (h2 : v0 ≤ 1024) (h3 : 0 ≤ v3 ∧ v2.length ≤ 1048576 ∧ (v5.length : Int) = v1) : loopF s_l11Rows_L0_r.step (s_l11Rows_L0_fu v0 v1 v2 v3 v4 v5) (s_l11Rows_L0_mk v0 v1 v2 v3 v4 v5) = some (Stp.elim (fun a => (fun i a => s_l11Rows_L0_mx0 v0 a.1 a.2.1 a.2.2.1 a.2.2.2) (v1 + 1 * (((Int.toNat (v0 - v1)) : Nat) : Int)) a) (fun p : Empty => nomatch p) (forN (s_l11Rows_L0_f v0) 1 (Int.toNat (v0 - v1)) v1 (v2, v3, v4, v5))) :=
  forN_loop (step := s_l11Rows_L0_r.step) (mk := fun v1 a => s_l11Rows_L0_mk v0 v1 a.1 a.2.1 a.2.2.1 a.2.2.2) (f := s_l11Rows_L0_f v0) (e := (fun i a => s_l11Rows_L0_mx0 v0 a.1 a.2.1 a.2.2.1 a.2.2.2)) (emb := (fun p : Empty => nomatch p)) (st := 1) (Inv := fun v1 a => 0 ≤ a.2.1 ∧ a.1.length ≤ 1048576 ∧ (a.2.2.2.length : Int) = v1) (Int.toNat (v0 - v1)) v1 (v2, v3, v4, v5) _ (Nat.lt_succ_self _) h3
    (fun j a hj hv => ⟨s_l11Rows_L0_st v0 (v1 + 1 * (j : Int)) a.1 a.2.1 a.2.2.1 a.2.2.2 (by omega) (by omega) (by omega) h2 hv, by
      intro a' he
      have k1 := s_l1Pick_cur (⟨a.1, a.2.1, a.2.2.1⟩ : Curs) [[], [97], [98], [99, 100], [97]] ⟨⟨hv.1, hv.2.1⟩, by decide⟩ ⟨hv.1, hv.2.1⟩
      have k2 := s_l1Below_cur _ 16777216 k1
      have k3 := s_l1PickInt_cur _ [0, 1, 5, 16777215, (s_l1Below (s_l1Pick (⟨a.1, a.2.1, a.2.2.1⟩ : Curs) [[], [97], [98], [99, 100], [97]]).2 16777216).1] ⟨k2, by simp⟩ k2
      unfold s_l11Rows_L0_f at he
      simp only [letK] at he
      cases he
      exact ⟨k3.1, k3.2, by simp only [List.length_append, List.length_singleton]; have := hv.2.2; omega⟩⟩)
    (fun a hv => by
      show s_l11Rows_L0_B v0 (v1 + 1 * (((Int.toNat (v0 - v1)) : Nat) : Int)) a.1 a.2.1 a.2.2.1 a.2.2.2 (Option (s_l11Rows_L0_sh.T ⊕ WT s_l11Rows_L0_es)) none (fun v' => some (Sum.inl v')) (fun w => some (Sum.inr w)) = _
      unfold s_l11Rows_L0_B
      exact bifN (by simp only [decide_eq_false_iff_not]; omega) rfl)
theorem s_l11Rows_L0_nx (v0 : Int) (v1 : Int) (v2 : List Int) (v3 : Int) (v4 : Int) (v5 : List MacRow) (h0 : 0 ≤ v1) (h1 : v0 ≤ 4611686018427387904) (h2 : v0 ≤ 1024) (h3 : 0 ≤ v3 ∧ v2.length ≤ 1048576 ∧ (v5.length : Int) = v1) : ∀ a', forN (s_l11Rows_L0_f v0) 1 (Int.toNat (v0 - v1)) v1 (v2, v3, v4, v5) = .next a' → 0 ≤ a'.2.1 ∧ a'.1.length ≤ 1048576 ∧ (a'.2.2.2.length : Int) = (v1 + 1 * (((Int.toNat (v0 - v1)) : Nat) : Int)) :=
  forN_inv (f := s_l11Rows_L0_f v0) (st := 1) (Inv := fun v1 a => 0 ≤ a.2.1 ∧ a.1.length ≤ 1048576 ∧ (a.2.2.2.length : Int) = v1) (Int.toNat (v0 - v1)) v1 (v2, v3, v4, v5) h3
    (fun j a hj hv => by
      intro a' he
      have k1 := s_l1Pick_cur (⟨a.1, a.2.1, a.2.2.1⟩ : Curs) [[], [97], [98], [99, 100], [97]] ⟨⟨hv.1, hv.2.1⟩, by decide⟩ ⟨hv.1, hv.2.1⟩
      have k2 := s_l1Below_cur _ 16777216 k1
      have k3 := s_l1PickInt_cur _ [0, 1, 5, 16777215, (s_l1Below (s_l1Pick (⟨a.1, a.2.1, a.2.2.1⟩ : Curs) [[], [97], [98], [99, 100], [97]]).2 16777216).1] ⟨k2, by simp⟩ k2
      unfold s_l11Rows_L0_f at he
      simp only [letK] at he
      cases he
      exact ⟨k3.1, k3.2, by simp only [List.length_append, List.length_singleton]; have := hv.2.2; omega⟩)
def s_l11Rows_N (y0 : Curs) (γ : Type) (fail : γ) (k : List MacRow × Curs → γ) : γ :=
  bif (decide (0 ≤ y0.i ∧ y0.b.length ≤ 1048576)) then
  letK (α := Int × Curs) (s_l1Below y0 5) fun c1 =>
  optK (loopF s_l11Rows_L0_r.step (s_l11Rows_L0_fu c1.1 0 c1.2.b c1.2.i c1.2.h []) (s_l11Rows_L0_mk c1.1 0 c1.2.b c1.2.i c1.2.h [])) fail fun w5 =>
    bif (decide (0 < w5.1.2.2.2.1.1)) then
      bif (decide (0 ≤ (⟨w5.2.1.1, w5.2.1.2.1, w5.2.1.2.2.1⟩ : Curs).i ∧ (⟨w5.2.1.1, w5.2.1.2.1, w5.2.1.2.2.1⟩ : Curs).b.length ≤ 1048576)) then
      letK (α := Bool × Curs) (s_l1Once (⟨w5.2.1.1, w5.2.1.2.1, w5.2.1.2.2.1⟩ : Curs) 6) fun c6 =>
      bif c6.1 then
        bif (decide (0 ≤ c6.2.i ∧ c6.2.b.length ≤ 1048576)) then
        letK (α := Int × Curs) (s_l1Whole c6.2) fun c7 =>
        bif (decide (0 < (w5.2.2.1.length : Int))) then
        k ((w5.2.2.1.set 0 (⟨(w5.2.2.1.getD 0 (Ty.zero .macRow)).input, c7.1⟩ : MacRow)), c7.2)
        else fail
        else fail
      else
      k (w5.2.2.1, c6.2)
      else fail
    else
    k (w5.2.2.1, (⟨w5.2.1.1, w5.2.1.2.1, w5.2.1.2.2.1⟩ : Curs))
  else fail
def s_l11Rows (y0 : Curs) : List MacRow × Curs :=
  letK (α := Int × Curs) (s_l1Below y0 5) fun c1 =>
  Stp.elim (fun a8 =>
    bif (decide (0 < c1.1)) then
      letK (α := Bool × Curs) (s_l1Once (⟨a8.1, a8.2.1, a8.2.2.1⟩ : Curs) 6) fun c9 =>
      bif c9.1 then
        letK (α := Int × Curs) (s_l1Whole c9.2) fun c10 =>
        ((a8.2.2.2.set 0 (⟨(a8.2.2.2.getD 0 (Ty.zero .macRow)).input, c10.1⟩ : MacRow)), c10.2)
      else
      (a8.2.2.2, c9.2)
    else
    (a8.2.2.2, (⟨a8.1, a8.2.1, a8.2.2.1⟩ : Curs)))
    (fun p : Empty => nomatch p)
    (forN (s_l11Rows_L0_f c1.1) 1 (Int.toNat (c1.1 - 0)) 0 (c1.2.b, c1.2.i, c1.2.h, []))
theorem s_l11Rows_lk (y0 : Curs) : evalFnM te (orcOf (P := Try.prog) [s_l1Below_e, s_l1Pick_e, s_l1PickInt_e, s_l1Once_e, s_l1Whole_e]) (lorcOf [s_l11Rows_L0_le]) s_l11Rows_ann Try.f148 (pvs [.wr false [.ptr 0]] ((), ())) (mos [.box [.c (.sl .u8), .c (.int .i64), .c (.int .i64)]] ((y0.b, y0.i, y0.h, ()), ())) =
  s_l11Rows_N y0 _ none (fun v => some ([(false, [RC.own true .macRow v.1])] ++ (mos [.box [.c (.sl .u8), .c (.int .i64), .c (.int .i64)]] ((v.2.b, v.2.i, v.2.h, ()), ())).map encO)) := by kernel_rfl
theorem s_l11Rows_p (y0 : Curs) (hy0_b : y0.b.length ≤ 140737488355328) (hy0_i : inK .i64 y0.i) (hy0_h : inK .i64 y0.h) (hp : 0 ≤ y0.i ∧ y0.b.length ≤ 1048576) (γ : Type) (fail : γ) (k : List MacRow × Curs → γ) : s_l11Rows_N y0 γ fail k = k (s_l11Rows y0) := by
  unfold s_l11Rows_N s_l11Rows
  exact bifG (by first | ((try simp only [Nat.ble_eq, Bool.and_eq_true, decide_eq_true_eq, s_l11Rows_L0_mx0]); grind [maxSl, maxStr, s_l1Below_rng, s_l11Rows_L0_mx0]) | (have h0 := ia8.2.2; have h1 := of_decide_eq_true b0; simp only [decide_eq_true_eq]; change 0 < (a8.2.2.2.length : Int); change 0 < c1.1 at h1; omega)) (letT (f := k) (fun c1 hc1 => have rc1 := s_l1Below_rng y0 5 (by first | assumption | exact ⟨by assumption, by assumption⟩ | grind [maxSl, wrap64, s_l11Rows_L0_mx0]); have kc1 : 0 ≤ c1.2.i ∧ c1.2.b.length ≤ 1048576 := (by rw [hc1]; exact s_l1Below_cur _ _ (by first | assumption | exact ⟨by assumption, by assumption⟩ | grind [maxSl, wrap64, s_l11Rows_L0_mx0])); loopX (f := k) (s_l11Rows_L0_cl c1.1 0 c1.2.b c1.2.i c1.2.h [] (by first | ((try simp only [Nat.ble_eq, Bool.and_eq_true, decide_eq_true_eq, s_l11Rows_L0_mx0]); grind [maxSl, maxStr, s_l1Below_rng, s_l11Rows_L0_mx0]) | (have h0 := ia8.2.2; have h1 := of_decide_eq_true b0; simp only [decide_eq_true_eq]; change 0 < (a8.2.2.2.length : Int); change 0 < c1.1 at h1; omega)) (by first | ((try simp only [Nat.ble_eq, Bool.and_eq_true, decide_eq_true_eq, s_l11Rows_L0_mx0]); grind [maxSl, maxStr, s_l1Below_rng, s_l11Rows_L0_mx0]) | (have h0 := ia8.2.2; have h1 := of_decide_eq_true b0; simp only [decide_eq_true_eq]; change 0 < (a8.2.2.2.length : Int); change 0 < c1.1 at h1; omega)) (by first | ((try simp only [Nat.ble_eq, Bool.and_eq_true, decide_eq_true_eq, s_l11Rows_L0_mx0]); grind [maxSl, maxStr, s_l1Below_rng, s_l11Rows_L0_mx0]) | (have h0 := ia8.2.2; have h1 := of_decide_eq_true b0; simp only [decide_eq_true_eq]; change 0 < (a8.2.2.2.length : Int); change 0 < c1.1 at h1; omega)) (by first | ((try simp only [Nat.ble_eq, Bool.and_eq_true, decide_eq_true_eq, s_l11Rows_L0_mx0]); grind [maxSl, maxStr, s_l1Below_rng, s_l11Rows_L0_mx0]) | (have h0 := ia8.2.2; have h1 := of_decide_eq_true b0; simp only [decide_eq_true_eq]; change 0 < (a8.2.2.2.length : Int); change 0 < c1.1 at h1; omega))) (fun a8 ha8 => have ia8 := s_l11Rows_L0_nx c1.1 0 c1.2.b c1.2.i c1.2.h [] (by first | ((try simp only [Nat.ble_eq, Bool.and_eq_true, decide_eq_true_eq, s_l11Rows_L0_mx0]); grind [maxSl, maxStr, s_l1Below_rng, s_l11Rows_L0_mx0]) | (have h0 := ia8.2.2; have h1 := of_decide_eq_true b0; simp only [decide_eq_true_eq]; change 0 < (a8.2.2.2.length : Int); change 0 < c1.1 at h1; omega)) (by first | ((try simp only [Nat.ble_eq, Bool.and_eq_true, decide_eq_true_eq, s_l11Rows_L0_mx0]); grind [maxSl, maxStr, s_l1Below_rng, s_l11Rows_L0_mx0]) | (have h0 := ia8.2.2; have h1 := of_decide_eq_true b0; simp only [decide_eq_true_eq]; change 0 < (a8.2.2.2.length : Int); change 0 < c1.1 at h1; omega)) (by first | ((try simp only [Nat.ble_eq, Bool.and_eq_true, decide_eq_true_eq, s_l11Rows_L0_mx0]); grind [maxSl, maxStr, s_l1Below_rng, s_l11Rows_L0_mx0]) | (have h0 := ia8.2.2; have h1 := of_decide_eq_true b0; simp only [decide_eq_true_eq]; change 0 < (a8.2.2.2.length : Int); change 0 < c1.1 at h1; omega)) (by first | ((try simp only [Nat.ble_eq, Bool.and_eq_true, decide_eq_true_eq, s_l11Rows_L0_mx0]); grind [maxSl, maxStr, s_l1Below_rng, s_l11Rows_L0_mx0]) | (have h0 := ia8.2.2; have h1 := of_decide_eq_true b0; simp only [decide_eq_true_eq]; change 0 < (a8.2.2.2.length : Int); change 0 < c1.1 at h1; omega)) _ ha8; bifT (f := k) (fun b0 => bifG (by first | ((try simp only [Nat.ble_eq, Bool.and_eq_true, decide_eq_true_eq, s_l11Rows_L0_mx0]); grind [maxSl, maxStr, s_l1Below_rng, s_l11Rows_L0_mx0]) | (have h0 := ia8.2.2; have h1 := of_decide_eq_true b0; simp only [decide_eq_true_eq]; change 0 < (a8.2.2.2.length : Int); change 0 < c1.1 at h1; omega)) (letT (f := k) (fun c9 hc9 => have kc9 : 0 ≤ c9.2.i ∧ c9.2.b.length ≤ 1048576 := (by rw [hc9]; exact s_l1Once_cur _ _ (by first | assumption | exact ⟨by assumption, by assumption⟩ | grind [maxSl, wrap64, s_l11Rows_L0_mx0])); bifT (f := k) (fun b1 => bifG (by first | ((try simp only [Nat.ble_eq, Bool.and_eq_true, decide_eq_true_eq, s_l11Rows_L0_mx0]); grind [maxSl, maxStr, s_l1Below_rng, s_l11Rows_L0_mx0]) | (have h0 := ia8.2.2; have h1 := of_decide_eq_true b0; simp only [decide_eq_true_eq]; change 0 < (a8.2.2.2.length : Int); change 0 < c1.1 at h1; omega)) (letT (f := k) (fun c10 hc10 => have kc10 : 0 ≤ c10.2.i ∧ c10.2.b.length ≤ 1048576 := (by rw [hc10]; exact s_l1Whole_cur _ (by first | assumption | exact ⟨by assumption, by assumption⟩ | grind [maxSl, wrap64, s_l11Rows_L0_mx0])); bifG (by first | ((try simp only [Nat.ble_eq, Bool.and_eq_true, decide_eq_true_eq, s_l11Rows_L0_mx0]); grind [maxSl, maxStr, s_l1Below_rng, s_l11Rows_L0_mx0]) | (have h0 := ia8.2.2; have h1 := of_decide_eq_true b0; simp only [decide_eq_true_eq]; change 0 < (a8.2.2.2.length : Int); change 0 < c1.1 at h1; omega)) (rfl))))
      (fun b1 => rfl))))
      (fun b0 => rfl))
      (fun p : Empty => nomatch p)))
theorem s_l11Rows_c (y0 : Curs) (hp : 0 ≤ y0.i ∧ y0.b.length ≤ 1048576) : ConM Try.prog 148 (pvs [.wr false [.ptr 0]] ((), ())) (mos [.box [.c (.sl .u8), .c (.int .i64), .c (.int .i64)]] ((y0.b, y0.i, y0.h, ()), ())) [rv (.sc (.sl .macRow)) [.o true] (s_l11Rows y0).1] (mos [.box [.c (.sl .u8), .c (.int .i64), .c (.int .i64)]] ((((s_l11Rows y0).2).b, ((s_l11Rows y0).2).i, ((s_l11Rows y0).2).h, ()), ())) := by
  refine ConM.of_facts (enters_of Try.func148 rfl (by kernel_rfl)) fun hf hg => ?_
  replace hf := factAt hf
  exact evalFn_conLM teFact mixFact (orcOf_ok _) Try.func148 (by kernel_rfl) (bs := [0]) (by kernel_rfl) (by kernel_rfl) (by kernel_rfl) rfl (fun w0 mo I0 hmo => ⟨lsem_of_lorc (s_l11Rows_L0_ls w0 mo I0 hmo) (by kernel_rfl), trivial⟩) ((s_l11Rows_lk y0).trans (s_l11Rows_p y0 ((mbAt hg 0 0 rfl rfl).len) ((mbAt hg 0 1 rfl rfl).rng) ((mbAt hg 0 2 rfl rfl).rng) hp _ _ _))
noncomputable def s_l11Rows_e : Ent1 Try.prog := entM 148 [.wr false [.ptr 0]] [.box [.c (.sl .u8), .c (.int .i64), .c (.int .i64)]] (fun x y => (decide (0 ≤ (⟨y.1.1, y.1.2.1, y.1.2.2.1⟩ : Curs).i ∧ (⟨y.1.1, y.1.2.1, y.1.2.2.1⟩ : Curs).b.length ≤ 1048576))) (fun x y => (s_l11Rows (⟨y.1.1, y.1.2.1, y.1.2.2.1⟩ : Curs))) (fun v => [rv (.sc (.sl .macRow)) [.o true] v.1]) (fun x y v => (mos [.box [.c (.sl .u8), .c (.int .i64), .c (.int .i64)]] ((v.2.b, v.2.i, v.2.h, ()), ()))) (fun x y hx => s_l11Rows_c (⟨y.1.1, y.1.2.1, y.1.2.2.1⟩ : Curs) (of_decide_eq_true hx))

theorem s_l11Rows_cur (y0 : Curs)  (hc0 : 0 ≤ y0.i ∧ y0.b.length ≤ 1048576) : 0 ≤ (s_l11Rows y0).2.i ∧ (s_l11Rows y0).2.b.length ≤ 1048576 := by
  unfold s_l11Rows
  exact letP (P := (fun v : List MacRow × Curs => 0 ≤ v.2.i ∧ v.2.b.length ≤ 1048576)) (fun c1 hc1 => have rc1 := s_l1Below_rng y0 5 (by first | assumption | exact ⟨by assumption, by assumption⟩ | grind [maxSl, wrap64, s_l11Rows_L0_mx0]); have kc1 : 0 ≤ c1.2.i ∧ c1.2.b.length ≤ 1048576 := (by rw [hc1]; exact s_l1Below_cur _ _ (by first | assumption | exact ⟨by assumption, by assumption⟩ | grind [maxSl, wrap64, s_l11Rows_L0_mx0])); loopP (P := (fun v : List MacRow × Curs => 0 ≤ v.2.i ∧ v.2.b.length ≤ 1048576)) (fun a8 ha8 => have ia8 := s_l11Rows_L0_nx c1.1 0 c1.2.b c1.2.i c1.2.h [] (by (try simp only [Nat.ble_eq, Bool.and_eq_true, decide_eq_true_eq, s_l11Rows_L0_mx0]); grind [maxSl, maxStr, toBytes_length, toInts_length, List.length_set, wrap64, s_l1Below_rng, s_l1Below_cur, s_l1Pick_cur, s_l1PickInt_cur, s_l1Once_cur, s_l1Whole_cur]) (by (try simp only [Nat.ble_eq, Bool.and_eq_true, decide_eq_true_eq, s_l11Rows_L0_mx0]); grind [maxSl, maxStr, toBytes_length, toInts_length, List.length_set, wrap64, s_l1Below_rng, s_l1Below_cur, s_l1Pick_cur, s_l1PickInt_cur, s_l1Once_cur, s_l1Whole_cur]) (by (try simp only [Nat.ble_eq, Bool.and_eq_true, decide_eq_true_eq, s_l11Rows_L0_mx0]); grind [maxSl, maxStr, toBytes_length, toInts_length, List.length_set, wrap64, s_l1Below_rng, s_l1Below_cur, s_l1Pick_cur, s_l1PickInt_cur, s_l1Once_cur, s_l1Whole_cur]) (by (try simp only [Nat.ble_eq, Bool.and_eq_true, decide_eq_true_eq, s_l11Rows_L0_mx0]); grind [maxSl, maxStr, toBytes_length, toInts_length, List.length_set, wrap64, s_l1Below_rng, s_l1Below_cur, s_l1Pick_cur, s_l1PickInt_cur, s_l1Once_cur, s_l1Whole_cur]) _ ha8; bifP (P := (fun v : List MacRow × Curs => 0 ≤ v.2.i ∧ v.2.b.length ≤ 1048576)) (fun b0 => letP (P := (fun v : List MacRow × Curs => 0 ≤ v.2.i ∧ v.2.b.length ≤ 1048576)) (fun c9 hc9 => have kc9 : 0 ≤ c9.2.i ∧ c9.2.b.length ≤ 1048576 := (by rw [hc9]; exact s_l1Once_cur _ _ (by first | assumption | exact ⟨by assumption, by assumption⟩ | grind [maxSl, wrap64, s_l11Rows_L0_mx0])); bifP (P := (fun v : List MacRow × Curs => 0 ≤ v.2.i ∧ v.2.b.length ≤ 1048576)) (fun b1 => letP (P := (fun v : List MacRow × Curs => 0 ≤ v.2.i ∧ v.2.b.length ≤ 1048576)) (fun c10 hc10 => have kc10 : 0 ≤ c10.2.i ∧ c10.2.b.length ≤ 1048576 := (by rw [hc10]; exact s_l1Whole_cur _ (by first | assumption | exact ⟨by assumption, by assumption⟩ | grind [maxSl, wrap64, s_l11Rows_L0_mx0])); (by (try simp only [Nat.ble_eq, Bool.and_eq_true, decide_eq_true_eq, s_l11Rows_L0_mx0]); grind [maxSl, maxStr, toBytes_length, toInts_length, List.length_set, wrap64, s_l1Below_rng, s_l1Below_cur, s_l1Pick_cur, s_l1PickInt_cur, s_l1Once_cur, s_l1Whole_cur])))
      (fun b1 => (by (try simp only [Nat.ble_eq, Bool.and_eq_true, decide_eq_true_eq, s_l11Rows_L0_mx0]); grind [maxSl, maxStr, toBytes_length, toInts_length, List.length_set, wrap64, s_l1Below_rng, s_l1Below_cur, s_l1Pick_cur, s_l1PickInt_cur, s_l1Once_cur, s_l1Whole_cur]))))
      (fun b0 => (by (try simp only [Nat.ble_eq, Bool.and_eq_true, decide_eq_true_eq, s_l11Rows_L0_mx0]); grind [maxSl, maxStr, toBytes_length, toInts_length, List.length_set, wrap64, s_l1Below_rng, s_l1Below_cur, s_l1Pick_cur, s_l1PickInt_cur, s_l1Once_cur, s_l1Whole_cur])))
      (fun p _ => nomatch p))
theorem s_l11Rows_len (y0 : Curs) (hp : 0 ≤ y0.i ∧ y0.b.length ≤ 1048576)  : (fun v : List MacRow × Curs => v.1.length ≤ 5) (s_l11Rows y0) := by
  unfold s_l11Rows
  exact letP (P := (fun v : List MacRow × Curs => v.1.length ≤ 5)) (fun c1 hc1 => have rc1 := s_l1Below_rng y0 5 (by first | assumption | exact ⟨by assumption, by assumption⟩ | grind [maxSl, wrap64, s_l11Rows_L0_mx0]); have kc1 : 0 ≤ c1.2.i ∧ c1.2.b.length ≤ 1048576 := (by rw [hc1]; exact s_l1Below_cur _ _ (by first | assumption | exact ⟨by assumption, by assumption⟩ | grind [maxSl, wrap64, s_l11Rows_L0_mx0])); loopP (P := (fun v : List MacRow × Curs => v.1.length ≤ 5)) (fun a8 ha8 => have ia8 := s_l11Rows_L0_nx c1.1 0 c1.2.b c1.2.i c1.2.h [] (by (try simp only [Nat.ble_eq, Bool.and_eq_true, decide_eq_true_eq, s_l11Rows_L0_mx0]); grind [maxSl, maxStr, toBytes_length, toInts_length, List.length_set, wrap64, s_l1Below_rng, s_l1Below_cur, s_l1Pick_cur, s_l1PickInt_cur, s_l1Once_cur, s_l1Whole_cur]) (by (try simp only [Nat.ble_eq, Bool.and_eq_true, decide_eq_true_eq, s_l11Rows_L0_mx0]); grind [maxSl, maxStr, toBytes_length, toInts_length, List.length_set, wrap64, s_l1Below_rng, s_l1Below_cur, s_l1Pick_cur, s_l1PickInt_cur, s_l1Once_cur, s_l1Whole_cur]) (by (try simp only [Nat.ble_eq, Bool.and_eq_true, decide_eq_true_eq, s_l11Rows_L0_mx0]); grind [maxSl, maxStr, toBytes_length, toInts_length, List.length_set, wrap64, s_l1Below_rng, s_l1Below_cur, s_l1Pick_cur, s_l1PickInt_cur, s_l1Once_cur, s_l1Whole_cur]) (by (try simp only [Nat.ble_eq, Bool.and_eq_true, decide_eq_true_eq, s_l11Rows_L0_mx0]); grind [maxSl, maxStr, toBytes_length, toInts_length, List.length_set, wrap64, s_l1Below_rng, s_l1Below_cur, s_l1Pick_cur, s_l1PickInt_cur, s_l1Once_cur, s_l1Whole_cur]) _ ha8; bifP (P := (fun v : List MacRow × Curs => v.1.length ≤ 5)) (fun b0 => letP (P := (fun v : List MacRow × Curs => v.1.length ≤ 5)) (fun c9 hc9 => have kc9 : 0 ≤ c9.2.i ∧ c9.2.b.length ≤ 1048576 := (by rw [hc9]; exact s_l1Once_cur _ _ (by first | assumption | exact ⟨by assumption, by assumption⟩ | grind [maxSl, wrap64, s_l11Rows_L0_mx0])); bifP (P := (fun v : List MacRow × Curs => v.1.length ≤ 5)) (fun b1 => letP (P := (fun v : List MacRow × Curs => v.1.length ≤ 5)) (fun c10 hc10 => have kc10 : 0 ≤ c10.2.i ∧ c10.2.b.length ≤ 1048576 := (by rw [hc10]; exact s_l1Whole_cur _ (by first | assumption | exact ⟨by assumption, by assumption⟩ | grind [maxSl, wrap64, s_l11Rows_L0_mx0])); (by (try simp only [Nat.ble_eq, Bool.and_eq_true, decide_eq_true_eq, s_l11Rows_L0_mx0]); grind [maxSl, maxStr, toBytes_length, toInts_length, List.length_set, wrap64, s_l1Below_rng, s_l1Below_cur, s_l1Pick_cur, s_l1PickInt_cur, s_l1Once_cur, s_l1Whole_cur])))
      (fun b1 => (by (try simp only [Nat.ble_eq, Bool.and_eq_true, decide_eq_true_eq, s_l11Rows_L0_mx0]); grind [maxSl, maxStr, toBytes_length, toInts_length, List.length_set, wrap64, s_l1Below_rng, s_l1Below_cur, s_l1Pick_cur, s_l1PickInt_cur, s_l1Once_cur, s_l1Whole_cur]))))
      (fun b0 => (by (try simp only [Nat.ble_eq, Bool.and_eq_true, decide_eq_true_eq, s_l11Rows_L0_mx0]); grind [maxSl, maxStr, toBytes_length, toInts_length, List.length_set, wrap64, s_l1Below_rng, s_l1Below_cur, s_l1Pick_cur, s_l1PickInt_cur, s_l1Once_cur, s_l1Whole_cur])))
      (fun p _ => nomatch p))

/-- spec.l11Mac -/
def s_l11Mac_N (y0 : Curs) (γ : Type) (fail : γ) (k : Mac × Curs → γ) : γ :=
  bif (decide (0 ≤ y0.i ∧ y0.b.length ≤ 1048576)) then
  letK (α := Bool × Curs) (s_l1Once y0 2) fun c1 =>
  bif c1.1 then
    bif (decide (0 ≤ c1.2.i ∧ c1.2.b.length ≤ 1048576)) then
    letK (α := List MacRow × Curs) (s_l11Rows c1.2) fun c2 =>
    bif (decide (c2.1.length ≤ 4294967296)) then
    letK (α := Mac) (s_TableMac c2.1) fun c3 =>
    k (c3, c2.2)
    else fail
    else fail
  else
  bif (decide (0 ≤ c1.2.i ∧ c1.2.b.length ≤ 1048576)) then
  letK (α := Int × Curs) (s_l10Key c1.2) fun c4 =>
  bif (decide (0 ≤ c4.2.i ∧ c4.2.b.length ≤ 1048576)) then
  letK (α := Int × Curs) (s_l10Key c4.2) fun c5 =>
  letK (α := Mac) (s_KeyMac c4.1 c5.1) fun c6 =>
  bif (decide (0 ≤ c5.2.i ∧ c5.2.b.length ≤ 1048576)) then
  letK (α := Int × Curs) (s_l1Below c5.2 10) fun c7 =>
  bif (c7.1 == 0) then
    k (({ c6 with use := true } : Mac), c7.2)
  else
  bif (c7.1 == 1) then
    bif (decide (0 ≤ c7.2.i ∧ c7.2.b.length ≤ 1048576)) then
    letK (α := List MacRow × Curs) (s_l11Rows c7.2) fun c8 =>
    k (({ c6 with rows := c8.1 } : Mac), c8.2)
    else fail
  else
  k (c6, c7.2)
  else fail
  else fail
  else fail
  else fail
def s_l11Mac (y0 : Curs) : Mac × Curs :=
  letK (α := Bool × Curs) (s_l1Once y0 2) fun c1 =>
  bif c1.1 then
    letK (α := List MacRow × Curs) (s_l11Rows c1.2) fun c2 =>
    letK (α := Mac) (s_TableMac c2.1) fun c3 =>
    (c3, c2.2)
  else
  letK (α := Int × Curs) (s_l10Key c1.2) fun c4 =>
  letK (α := Int × Curs) (s_l10Key c4.2) fun c5 =>
  letK (α := Mac) (s_KeyMac c4.1 c5.1) fun c6 =>
  letK (α := Int × Curs) (s_l1Below c5.2 10) fun c7 =>
  bif (c7.1 == 0) then
    (({ c6 with use := true } : Mac), c7.2)
  else
  bif (c7.1 == 1) then
    letK (α := List MacRow × Curs) (s_l11Rows c7.2) fun c8 =>
    (({ c6 with rows := c8.1 } : Mac), c8.2)
  else
  (c6, c7.2)
theorem s_l11Mac_lk (y0 : Curs) : evalFnM te (orcOf (P := Try.prog) [s_l1Once_e, s_l11Rows_e, s_TableMac_e, s_l10Key_e, s_KeyMac_e, s_l1Below_e]) lorc0 [] Try.f110 (pvs [.wr false [.ptr 0]] ((), ())) (mos [.box [.c (.sl .u8), .c (.int .i64), .c (.int .i64)]] ((y0.b, y0.i, y0.h, ()), ())) =
  s_l11Mac_N y0 _ none (fun v => some ([(true, [RC.c (.bool v.1.use), RC.c (.int .u64 v.1.k), RC.c (.int .u64 v.1.l), RC.own true .macRow v.1.rows])] ++ (mos [.box [.c (.sl .u8), .c (.int .i64), .c (.int .i64)]] ((v.2.b, v.2.i, v.2.h, ()), ())).map encO)) := by kernel_rfl
theorem s_l11Mac_p (y0 : Curs) (hy0_b : y0.b.length ≤ 140737488355328) (hy0_i : inK .i64 y0.i) (hy0_h : inK .i64 y0.h) (hp : 0 ≤ y0.i ∧ y0.b.length ≤ 1048576) (γ : Type) (fail : γ) (k : Mac × Curs → γ) : s_l11Mac_N y0 γ fail k = k (s_l11Mac y0) := by
  unfold s_l11Mac_N s_l11Mac
  exact bifG (by (try simp only [Nat.ble_eq, Bool.and_eq_true, decide_eq_true_eq]); grind [maxSl, maxStr, toBytes_length, toInts_length, List.length_set, wrap64, s_l1Once_cur, s_l11Rows_len, s_l11Rows_cur, s_TableMac_len, s_l10Key_cur, s_KeyMac_len, s_l1Below_rng, s_l1Below_cur]) (letT (f := k) (fun c1 hc1 => have kc1 : 0 ≤ c1.2.i ∧ c1.2.b.length ≤ 1048576 := (by rw [hc1]; exact s_l1Once_cur _ _ (by first | assumption | exact ⟨by assumption, by assumption⟩ | grind [maxSl, wrap64])); bifT (f := k) (fun b0 => bifG (by (try simp only [Nat.ble_eq, Bool.and_eq_true, decide_eq_true_eq]); grind [maxSl, maxStr, toBytes_length, toInts_length, List.length_set, wrap64, s_l1Once_cur, s_l11Rows_len, s_l11Rows_cur, s_TableMac_len, s_l10Key_cur, s_KeyMac_len, s_l1Below_rng, s_l1Below_cur]) (letT (f := k) (fun c2 hc2 => have rc2 := s_l11Rows_len c1.2 (by first | assumption | exact ⟨by assumption, by assumption⟩ | grind [maxSl, wrap64]); have kc2 : 0 ≤ c2.2.i ∧ c2.2.b.length ≤ 1048576 := (by rw [hc2]; exact s_l11Rows_cur _ (by first | assumption | exact ⟨by assumption, by assumption⟩ | grind [maxSl, wrap64])); bifG (by (try simp only [Nat.ble_eq, Bool.and_eq_true, decide_eq_true_eq]); grind [maxSl, maxStr, toBytes_length, toInts_length, List.length_set, wrap64, s_l1Once_cur, s_l11Rows_len, s_l11Rows_cur, s_TableMac_len, s_l10Key_cur, s_KeyMac_len, s_l1Below_rng, s_l1Below_cur]) (letT (f := k) (fun c3 hc3 => rfl)))))
      (fun b0 => bifG (by (try simp only [Nat.ble_eq, Bool.and_eq_true, decide_eq_true_eq]); grind [maxSl, maxStr, toBytes_length, toInts_length, List.length_set, wrap64, s_l1Once_cur, s_l11Rows_len, s_l11Rows_cur, s_TableMac_len, s_l10Key_cur, s_KeyMac_len, s_l1Below_rng, s_l1Below_cur]) (letT (f := k) (fun c4 hc4 => have kc4 : 0 ≤ c4.2.i ∧ c4.2.b.length ≤ 1048576 := (by rw [hc4]; exact s_l10Key_cur _ (by first | assumption | exact ⟨by assumption, by assumption⟩ | grind [maxSl, wrap64])); bifG (by (try simp only [Nat.ble_eq, Bool.and_eq_true, decide_eq_true_eq]); grind [maxSl, maxStr, toBytes_length, toInts_length, List.length_set, wrap64, s_l1Once_cur, s_l11Rows_len, s_l11Rows_cur, s_TableMac_len, s_l10Key_cur, s_KeyMac_len, s_l1Below_rng, s_l1Below_cur]) (letT (f := k) (fun c5 hc5 => have kc5 : 0 ≤ c5.2.i ∧ c5.2.b.length ≤ 1048576 := (by rw [hc5]; exact s_l10Key_cur _ (by first | assumption | exact ⟨by assumption, by assumption⟩ | grind [maxSl, wrap64])); letT (f := k) (fun c6 hc6 => bifG (by (try simp only [Nat.ble_eq, Bool.and_eq_true, decide_eq_true_eq]); grind [maxSl, maxStr, toBytes_length, toInts_length, List.length_set, wrap64, s_l1Once_cur, s_l11Rows_len, s_l11Rows_cur, s_TableMac_len, s_l10Key_cur, s_KeyMac_len, s_l1Below_rng, s_l1Below_cur]) (letT (f := k) (fun c7 hc7 => have rc7 := s_l1Below_rng c5.2 10 (by first | assumption | exact ⟨by assumption, by assumption⟩ | grind [maxSl, wrap64]); have kc7 : 0 ≤ c7.2.i ∧ c7.2.b.length ≤ 1048576 := (by rw [hc7]; exact s_l1Below_cur _ _ (by first | assumption | exact ⟨by assumption, by assumption⟩ | grind [maxSl, wrap64])); bifT (f := k) (fun b1 => rfl)
      (fun b1 => bifT (f := k) (fun b2 => bifG (by (try simp only [Nat.ble_eq, Bool.and_eq_true, decide_eq_true_eq]); grind [maxSl, maxStr, toBytes_length, toInts_length, List.length_set, wrap64, s_l1Once_cur, s_l11Rows_len, s_l11Rows_cur, s_TableMac_len, s_l10Key_cur, s_KeyMac_len, s_l1Below_rng, s_l1Below_cur]) (letT (f := k) (fun c8 hc8 => have rc8 := s_l11Rows_len c7.2 (by first | assumption | exact ⟨by assumption, by assumption⟩ | grind [maxSl, wrap64]); have kc8 : 0 ≤ c8.2.i ∧ c8.2.b.length ≤ 1048576 := (by rw [hc8]; exact s_l11Rows_cur _ (by first | assumption | exact ⟨by assumption, by assumption⟩ | grind [maxSl, wrap64])); rfl)))
      (fun b2 => rfl))))))))))))
theorem s_l11Mac_c (y0 : Curs) (hp : 0 ≤ y0.i ∧ y0.b.length ≤ 1048576) : ConM Try.prog 110 (pvs [.wr false [.ptr 0]] ((), ())) (mos [.box [.c (.sl .u8), .c (.int .i64), .c (.int .i64)]] ((y0.b, y0.i, y0.h, ()), ())) [rv (.st .mac) [.c, .c, .c, .o true] (s_l11Mac y0).1] (mos [.box [.c (.sl .u8), .c (.int .i64), .c (.int .i64)]] ((((s_l11Mac y0).2).b, ((s_l11Mac y0).2).i, ((s_l11Mac y0).2).h, ()), ())) := by
  refine ConM.of_facts (enters_of Try.func110 rfl (by kernel_rfl)) fun hf hg => ?_
  replace hf := factAt hf
  exact evalFn_conLM teFact mixFact (orcOf_ok _) Try.func110 (by kernel_rfl) (bs := []) (by kernel_rfl) (by kernel_rfl) (by kernel_rfl) rfl (fun w0 mo I0 hmo => trivial) ((s_l11Mac_lk y0).trans (s_l11Mac_p y0 ((mbAt hg 0 0 rfl rfl).len) ((mbAt hg 0 1 rfl rfl).rng) ((mbAt hg 0 2 rfl rfl).rng) hp _ _ _))
noncomputable def s_l11Mac_e : Ent1 Try.prog := entM 110 [.wr false [.ptr 0]] [.box [.c (.sl .u8), .c (.int .i64), .c (.int .i64)]] (fun x y => (decide (0 ≤ (⟨y.1.1, y.1.2.1, y.1.2.2.1⟩ : Curs).i ∧ (⟨y.1.1, y.1.2.1, y.1.2.2.1⟩ : Curs).b.length ≤ 1048576))) (fun x y => (s_l11Mac (⟨y.1.1, y.1.2.1, y.1.2.2.1⟩ : Curs))) (fun v => [rv (.st .mac) [.c, .c, .c, .o true] v.1]) (fun x y v => (mos [.box [.c (.sl .u8), .c (.int .i64), .c (.int .i64)]] ((v.2.b, v.2.i, v.2.h, ()), ()))) (fun x y hx => s_l11Mac_c (⟨y.1.1, y.1.2.1, y.1.2.2.1⟩ : Curs) (of_decide_eq_true hx))

theorem s_l11Mac_cur (y0 : Curs)  (hc0 : 0 ≤ y0.i ∧ y0.b.length ≤ 1048576) : 0 ≤ (s_l11Mac y0).2.i ∧ (s_l11Mac y0).2.b.length ≤ 1048576 := by
  unfold s_l11Mac
  exact letP (P := (fun v : Mac × Curs => 0 ≤ v.2.i ∧ v.2.b.length ≤ 1048576)) (fun c1 hc1 => have kc1 : 0 ≤ c1.2.i ∧ c1.2.b.length ≤ 1048576 := (by rw [hc1]; exact s_l1Once_cur _ _ (by first | assumption | exact ⟨by assumption, by assumption⟩ | grind [maxSl, wrap64])); bifP (P := (fun v : Mac × Curs => 0 ≤ v.2.i ∧ v.2.b.length ≤ 1048576)) (fun b0 => letP (P := (fun v : Mac × Curs => 0 ≤ v.2.i ∧ v.2.b.length ≤ 1048576)) (fun c2 hc2 => have rc2 := s_l11Rows_len c1.2 (by first | assumption | exact ⟨by assumption, by assumption⟩ | grind [maxSl, wrap64]); have kc2 : 0 ≤ c2.2.i ∧ c2.2.b.length ≤ 1048576 := (by rw [hc2]; exact s_l11Rows_cur _ (by first | assumption | exact ⟨by assumption, by assumption⟩ | grind [maxSl, wrap64])); letP (P := (fun v : Mac × Curs => 0 ≤ v.2.i ∧ v.2.b.length ≤ 1048576)) (fun c3 hc3 => (by (try simp only [Nat.ble_eq, Bool.and_eq_true, decide_eq_true_eq]); grind [maxSl, maxStr, toBytes_length, toInts_length, List.length_set, wrap64, s_l1Once_cur, s_l11Rows_len, s_l11Rows_cur, s_TableMac_len, s_l10Key_cur, s_KeyMac_len, s_l1Below_rng, s_l1Below_cur]))))
      (fun b0 => letP (P := (fun v : Mac × Curs => 0 ≤ v.2.i ∧ v.2.b.length ≤ 1048576)) (fun c4 hc4 => have kc4 : 0 ≤ c4.2.i ∧ c4.2.b.length ≤ 1048576 := (by rw [hc4]; exact s_l10Key_cur _ (by first | assumption | exact ⟨by assumption, by assumption⟩ | grind [maxSl, wrap64])); letP (P := (fun v : Mac × Curs => 0 ≤ v.2.i ∧ v.2.b.length ≤ 1048576)) (fun c5 hc5 => have kc5 : 0 ≤ c5.2.i ∧ c5.2.b.length ≤ 1048576 := (by rw [hc5]; exact s_l10Key_cur _ (by first | assumption | exact ⟨by assumption, by assumption⟩ | grind [maxSl, wrap64])); letP (P := (fun v : Mac × Curs => 0 ≤ v.2.i ∧ v.2.b.length ≤ 1048576)) (fun c6 hc6 => letP (P := (fun v : Mac × Curs => 0 ≤ v.2.i ∧ v.2.b.length ≤ 1048576)) (fun c7 hc7 => have rc7 := s_l1Below_rng c5.2 10 (by first | assumption | exact ⟨by assumption, by assumption⟩ | grind [maxSl, wrap64]); have kc7 : 0 ≤ c7.2.i ∧ c7.2.b.length ≤ 1048576 := (by rw [hc7]; exact s_l1Below_cur _ _ (by first | assumption | exact ⟨by assumption, by assumption⟩ | grind [maxSl, wrap64])); bifP (P := (fun v : Mac × Curs => 0 ≤ v.2.i ∧ v.2.b.length ≤ 1048576)) (fun b1 => (by (try simp only [Nat.ble_eq, Bool.and_eq_true, decide_eq_true_eq]); grind [maxSl, maxStr, toBytes_length, toInts_length, List.length_set, wrap64, s_l1Once_cur, s_l11Rows_len, s_l11Rows_cur, s_TableMac_len, s_l10Key_cur, s_KeyMac_len, s_l1Below_rng, s_l1Below_cur]))
      (fun b1 => bifP (P := (fun v : Mac × Curs => 0 ≤ v.2.i ∧ v.2.b.length ≤ 1048576)) (fun b2 => letP (P := (fun v : Mac × Curs => 0 ≤ v.2.i ∧ v.2.b.length ≤ 1048576)) (fun c8 hc8 => have rc8 := s_l11Rows_len c7.2 (by first | assumption | exact ⟨by assumption, by assumption⟩ | grind [maxSl, wrap64]); have kc8 : 0 ≤ c8.2.i ∧ c8.2.b.length ≤ 1048576 := (by rw [hc8]; exact s_l11Rows_cur _ (by first | assumption | exact ⟨by assumption, by assumption⟩ | grind [maxSl, wrap64])); (by (try simp only [Nat.ble_eq, Bool.and_eq_true, decide_eq_true_eq]); grind [maxSl, maxStr, toBytes_length, toInts_length, List.length_set, wrap64, s_l1Once_cur, s_l11Rows_len, s_l11Rows_cur, s_TableMac_len, s_l10Key_cur, s_KeyMac_len, s_l1Below_rng, s_l1Below_cur])))
      (fun b2 => (by (try simp only [Nat.ble_eq, Bool.and_eq_true, decide_eq_true_eq]); grind [maxSl, maxStr, toBytes_length, toInts_length, List.length_set, wrap64, s_l1Once_cur, s_l11Rows_len, s_l11Rows_cur, s_TableMac_len, s_l10Key_cur, s_KeyMac_len, s_l1Below_rng, s_l1Below_cur])))))))))
theorem s_l11Mac_len (y0 : Curs) (hp : 0 ≤ y0.i ∧ y0.b.length ≤ 1048576)  : (fun v : Mac × Curs => v.1.rows.length ≤ 5) (s_l11Mac y0) := by
  unfold s_l11Mac
  exact letP (P := (fun v : Mac × Curs => v.1.rows.length ≤ 5)) (fun c1 hc1 => have kc1 : 0 ≤ c1.2.i ∧ c1.2.b.length ≤ 1048576 := (by rw [hc1]; exact s_l1Once_cur _ _ (by first | assumption | exact ⟨by assumption, by assumption⟩ | grind [maxSl, wrap64])); bifP (P := (fun v : Mac × Curs => v.1.rows.length ≤ 5)) (fun b0 => letP (P := (fun v : Mac × Curs => v.1.rows.length ≤ 5)) (fun c2 hc2 => have rc2 := s_l11Rows_len c1.2 (by first | assumption | exact ⟨by assumption, by assumption⟩ | grind [maxSl, wrap64]); have kc2 : 0 ≤ c2.2.i ∧ c2.2.b.length ≤ 1048576 := (by rw [hc2]; exact s_l11Rows_cur _ (by first | assumption | exact ⟨by assumption, by assumption⟩ | grind [maxSl, wrap64])); letP (P := (fun v : Mac × Curs => v.1.rows.length ≤ 5)) (fun c3 hc3 => (by (try simp only [Nat.ble_eq, Bool.and_eq_true, decide_eq_true_eq]); grind [maxSl, maxStr, toBytes_length, toInts_length, List.length_set, wrap64, s_l1Once_cur, s_l11Rows_len, s_l11Rows_cur, s_TableMac_len, s_l10Key_cur, s_KeyMac_len, s_l1Below_rng, s_l1Below_cur]))))
      (fun b0 => letP (P := (fun v : Mac × Curs => v.1.rows.length ≤ 5)) (fun c4 hc4 => have kc4 : 0 ≤ c4.2.i ∧ c4.2.b.length ≤ 1048576 := (by rw [hc4]; exact s_l10Key_cur _ (by first | assumption | exact ⟨by assumption, by assumption⟩ | grind [maxSl, wrap64])); letP (P := (fun v : Mac × Curs => v.1.rows.length ≤ 5)) (fun c5 hc5 => have kc5 : 0 ≤ c5.2.i ∧ c5.2.b.length ≤ 1048576 := (by rw [hc5]; exact s_l10Key_cur _ (by first | assumption | exact ⟨by assumption, by assumption⟩ | grind [maxSl, wrap64])); letP (P := (fun v : Mac × Curs => v.1.rows.length ≤ 5)) (fun c6 hc6 => letP (P := (fun v : Mac × Curs => v.1.rows.length ≤ 5)) (fun c7 hc7 => have rc7 := s_l1Below_rng c5.2 10 (by first | assumption | exact ⟨by assumption, by assumption⟩ | grind [maxSl, wrap64]); have kc7 : 0 ≤ c7.2.i ∧ c7.2.b.length ≤ 1048576 := (by rw [hc7]; exact s_l1Below_cur _ _ (by first | assumption | exact ⟨by assumption, by assumption⟩ | grind [maxSl, wrap64])); bifP (P := (fun v : Mac × Curs => v.1.rows.length ≤ 5)) (fun b1 => (by (try simp only [Nat.ble_eq, Bool.and_eq_true, decide_eq_true_eq]); grind [maxSl, maxStr, toBytes_length, toInts_length, List.length_set, wrap64, s_l1Once_cur, s_l11Rows_len, s_l11Rows_cur, s_TableMac_len, s_l10Key_cur, s_KeyMac_len, s_l1Below_rng, s_l1Below_cur]))
      (fun b1 => bifP (P := (fun v : Mac × Curs => v.1.rows.length ≤ 5)) (fun b2 => letP (P := (fun v : Mac × Curs => v.1.rows.length ≤ 5)) (fun c8 hc8 => have rc8 := s_l11Rows_len c7.2 (by first | assumption | exact ⟨by assumption, by assumption⟩ | grind [maxSl, wrap64]); have kc8 : 0 ≤ c8.2.i ∧ c8.2.b.length ≤ 1048576 := (by rw [hc8]; exact s_l11Rows_cur _ (by first | assumption | exact ⟨by assumption, by assumption⟩ | grind [maxSl, wrap64])); (by (try simp only [Nat.ble_eq, Bool.and_eq_true, decide_eq_true_eq]); grind [maxSl, maxStr, toBytes_length, toInts_length, List.length_set, wrap64, s_l1Once_cur, s_l11Rows_len, s_l11Rows_cur, s_TableMac_len, s_l10Key_cur, s_KeyMac_len, s_l1Below_rng, s_l1Below_cur])))
      (fun b2 => (by (try simp only [Nat.ble_eq, Bool.and_eq_true, decide_eq_true_eq]); grind [maxSl, maxStr, toBytes_length, toInts_length, List.length_set, wrap64, s_l1Once_cur, s_l11Rows_len, s_l11Rows_cur, s_TableMac_len, s_l10Key_cur, s_KeyMac_len, s_l1Below_rng, s_l1Below_cur])))))))))

/-- spec.l13Bent -/
def s_l13Bent_N (y0 : Curs) (γ : Type) (fail : γ) (k : Keys × Curs → γ) : γ :=
  bif (decide (0 ≤ y0.i ∧ y0.b.length ≤ 1048576)) then
  letK (α := Keys × Curs) (s_l13Keys y0) fun c1 =>
  bif (decide (0 ≤ c1.2.i ∧ c1.2.b.length ≤ 1048576)) then
  letK (α := Int × Curs) (s_l1Below c1.2 10) fun c2 =>
  bif (c2.1 == 0) then
    bif (decide ((0 ≤ c2.2.i ∧ c2.2.b.length ≤ 1048576) ∧ 0 < ([(-1), 0, 4294967296] : List Int).length)) then
    letK (α := Int × Curs) (s_l1PickInt c2.2 [(-1), 0, 4294967296]) fun c3 =>
    k (({ c1.1 with epoch := c3.1 } : Keys), c3.2)
    else fail
  else
  bif (c2.1 == 1) then
    k (({ c1.1 with two := (!c1.1.two) } : Keys), c2.2)
  else
  bif (c2.1 == 2) then
    bif (decide (0 ≤ c2.2.i ∧ c2.2.b.length ≤ 1048576)) then
    letK (α := Mac × Curs) (s_l11Mac c2.2) fun c4 =>
    k (({ c1.1 with now.use := c4.1.use, now.k := c4.1.k, now.l := c4.1.l, now.rows := c4.1.rows } : Keys), c4.2)
    else fail
  else
  bif (c2.1 == 3) then
    bif (decide (0 ≤ c2.2.i ∧ c2.2.b.length ≤ 1048576)) then
    letK (α := Mac × Curs) (s_l11Mac c2.2) fun c5 =>
    k (({ c1.1 with before.use := c5.1.use, before.k := c5.1.k, before.l := c5.1.l, before.rows := c5.1.rows } : Keys), c5.2)
    else fail
  else
  k (c1.1, c2.2)
  else fail
  else fail
def s_l13Bent (y0 : Curs) : Keys × Curs :=
  letK (α := Keys × Curs) (s_l13Keys y0) fun c1 =>
  letK (α := Int × Curs) (s_l1Below c1.2 10) fun c2 =>
  bif (c2.1 == 0) then
    letK (α := Int × Curs) (s_l1PickInt c2.2 [(-1), 0, 4294967296]) fun c3 =>
    (({ c1.1 with epoch := c3.1 } : Keys), c3.2)
  else
  bif (c2.1 == 1) then
    (({ c1.1 with two := (!c1.1.two) } : Keys), c2.2)
  else
  bif (c2.1 == 2) then
    letK (α := Mac × Curs) (s_l11Mac c2.2) fun c4 =>
    (({ c1.1 with now.use := c4.1.use, now.k := c4.1.k, now.l := c4.1.l, now.rows := c4.1.rows } : Keys), c4.2)
  else
  bif (c2.1 == 3) then
    letK (α := Mac × Curs) (s_l11Mac c2.2) fun c5 =>
    (({ c1.1 with before.use := c5.1.use, before.k := c5.1.k, before.l := c5.1.l, before.rows := c5.1.rows } : Keys), c5.2)
  else
  (c1.1, c2.2)
theorem s_l13Bent_lk (y0 : Curs) : evalFnM te (orcOf (P := Try.prog) [s_l13Keys_e, s_l1Below_e, s_l1PickInt_e, s_l11Mac_e]) lorc0 [] Try.f64 (pvs [.wr false [.ptr 0]] ((), ())) (mos [.box [.c (.sl .u8), .c (.int .i64), .c (.int .i64)]] ((y0.b, y0.i, y0.h, ()), ())) =
  s_l13Bent_N y0 _ none (fun v => some ([(true, [RC.c (.int .i64 v.1.epoch), RC.c (.bool v.1.now.use), RC.c (.int .u64 v.1.now.k), RC.c (.int .u64 v.1.now.l), RC.own true .macRow v.1.now.rows, RC.c (.bool v.1.before.use), RC.c (.int .u64 v.1.before.k), RC.c (.int .u64 v.1.before.l), RC.own true .macRow v.1.before.rows, RC.c (.bool v.1.two)])] ++ (mos [.box [.c (.sl .u8), .c (.int .i64), .c (.int .i64)]] ((v.2.b, v.2.i, v.2.h, ()), ())).map encO)) := by kernel_rfl
theorem s_l13Bent_p (y0 : Curs) (hy0_b : y0.b.length ≤ 140737488355328) (hy0_i : inK .i64 y0.i) (hy0_h : inK .i64 y0.h) (hp : 0 ≤ y0.i ∧ y0.b.length ≤ 1048576) (γ : Type) (fail : γ) (k : Keys × Curs → γ) : s_l13Bent_N y0 γ fail k = k (s_l13Bent y0) := by
  unfold s_l13Bent_N s_l13Bent
  exact bifG (by (try simp only [Nat.ble_eq, Bool.and_eq_true, decide_eq_true_eq]); grind [maxSl, maxStr, toBytes_length, toInts_length, List.length_set, wrap64, s_l13Keys_len, s_l13Keys_cur, s_l1Below_rng, s_l1Below_cur, s_l1PickInt_cur, s_l11Mac_len, s_l11Mac_cur]) (letT (f := k) (fun c1 hc1 => have rc1 := s_l13Keys_len y0 (by first | assumption | exact ⟨by assumption, by assumption⟩ | grind [maxSl, wrap64]); have kc1 : 0 ≤ c1.2.i ∧ c1.2.b.length ≤ 1048576 := (by rw [hc1]; exact s_l13Keys_cur _ (by first | assumption | exact ⟨by assumption, by assumption⟩ | grind [maxSl, wrap64])); bifG (by (try simp only [Nat.ble_eq, Bool.and_eq_true, decide_eq_true_eq]); grind [maxSl, maxStr, toBytes_length, toInts_length, List.length_set, wrap64, s_l13Keys_len, s_l13Keys_cur, s_l1Below_rng, s_l1Below_cur, s_l1PickInt_cur, s_l11Mac_len, s_l11Mac_cur]) (letT (f := k) (fun c2 hc2 => have rc2 := s_l1Below_rng c1.2 10 (by first | assumption | exact ⟨by assumption, by assumption⟩ | grind [maxSl, wrap64]); have kc2 : 0 ≤ c2.2.i ∧ c2.2.b.length ≤ 1048576 := (by rw [hc2]; exact s_l1Below_cur _ _ (by first | assumption | exact ⟨by assumption, by assumption⟩ | grind [maxSl, wrap64])); bifT (f := k) (fun b0 => bifG (by (try simp only [Nat.ble_eq, Bool.and_eq_true, decide_eq_true_eq]); grind [maxSl, maxStr, toBytes_length, toInts_length, List.length_set, wrap64, s_l13Keys_len, s_l13Keys_cur, s_l1Below_rng, s_l1Below_cur, s_l1PickInt_cur, s_l11Mac_len, s_l11Mac_cur]) (letT (f := k) (fun c3 hc3 => have kc3 : 0 ≤ c3.2.i ∧ c3.2.b.length ≤ 1048576 := (by rw [hc3]; exact s_l1PickInt_cur _ _ (by first | assumption | exact ⟨by assumption, by assumption⟩ | grind [maxSl, wrap64]) (by first | assumption | exact ⟨by assumption, by assumption⟩ | grind [maxSl, wrap64])); rfl)))
      (fun b0 => bifT (f := k) (fun b1 => rfl)
      (fun b1 => bifT (f := k) (fun b2 => bifG (by (try simp only [Nat.ble_eq, Bool.and_eq_true, decide_eq_true_eq]); grind [maxSl, maxStr, toBytes_length, toInts_length, List.length_set, wrap64, s_l13Keys_len, s_l13Keys_cur, s_l1Below_rng, s_l1Below_cur, s_l1PickInt_cur, s_l11Mac_len, s_l11Mac_cur]) (letT (f := k) (fun c4 hc4 => have rc4 := s_l11Mac_len c2.2 (by first | assumption | exact ⟨by assumption, by assumption⟩ | grind [maxSl, wrap64]); have kc4 : 0 ≤ c4.2.i ∧ c4.2.b.length ≤ 1048576 := (by rw [hc4]; exact s_l11Mac_cur _ (by first | assumption | exact ⟨by assumption, by assumption⟩ | grind [maxSl, wrap64])); rfl)))
      (fun b2 => bifT (f := k) (fun b3 => bifG (by (try simp only [Nat.ble_eq, Bool.and_eq_true, decide_eq_true_eq]); grind [maxSl, maxStr, toBytes_length, toInts_length, List.length_set, wrap64, s_l13Keys_len, s_l13Keys_cur, s_l1Below_rng, s_l1Below_cur, s_l1PickInt_cur, s_l11Mac_len, s_l11Mac_cur]) (letT (f := k) (fun c5 hc5 => have rc5 := s_l11Mac_len c2.2 (by first | assumption | exact ⟨by assumption, by assumption⟩ | grind [maxSl, wrap64]); have kc5 : 0 ≤ c5.2.i ∧ c5.2.b.length ≤ 1048576 := (by rw [hc5]; exact s_l11Mac_cur _ (by first | assumption | exact ⟨by assumption, by assumption⟩ | grind [maxSl, wrap64])); rfl)))
      (fun b3 => rfl))))))))
theorem s_l13Bent_c (y0 : Curs) (hp : 0 ≤ y0.i ∧ y0.b.length ≤ 1048576) : ConM Try.prog 64 (pvs [.wr false [.ptr 0]] ((), ())) (mos [.box [.c (.sl .u8), .c (.int .i64), .c (.int .i64)]] ((y0.b, y0.i, y0.h, ()), ())) [rv (.st .keys) [.c, .c, .c, .c, .o true, .c, .c, .c, .o true, .c] (s_l13Bent y0).1] (mos [.box [.c (.sl .u8), .c (.int .i64), .c (.int .i64)]] ((((s_l13Bent y0).2).b, ((s_l13Bent y0).2).i, ((s_l13Bent y0).2).h, ()), ())) := by
  refine ConM.of_facts (enters_of Try.func64 rfl (by kernel_rfl)) fun hf hg => ?_
  replace hf := factAt hf
  exact evalFn_conLM teFact mixFact (orcOf_ok _) Try.func64 (by kernel_rfl) (bs := []) (by kernel_rfl) (by kernel_rfl) (by kernel_rfl) rfl (fun w0 mo I0 hmo => trivial) ((s_l13Bent_lk y0).trans (s_l13Bent_p y0 ((mbAt hg 0 0 rfl rfl).len) ((mbAt hg 0 1 rfl rfl).rng) ((mbAt hg 0 2 rfl rfl).rng) hp _ _ _))
noncomputable def s_l13Bent_e : Ent1 Try.prog := entM 64 [.wr false [.ptr 0]] [.box [.c (.sl .u8), .c (.int .i64), .c (.int .i64)]] (fun x y => (decide (0 ≤ (⟨y.1.1, y.1.2.1, y.1.2.2.1⟩ : Curs).i ∧ (⟨y.1.1, y.1.2.1, y.1.2.2.1⟩ : Curs).b.length ≤ 1048576))) (fun x y => (s_l13Bent (⟨y.1.1, y.1.2.1, y.1.2.2.1⟩ : Curs))) (fun v => [rv (.st .keys) [.c, .c, .c, .c, .o true, .c, .c, .c, .o true, .c] v.1]) (fun x y v => (mos [.box [.c (.sl .u8), .c (.int .i64), .c (.int .i64)]] ((v.2.b, v.2.i, v.2.h, ()), ()))) (fun x y hx => s_l13Bent_c (⟨y.1.1, y.1.2.1, y.1.2.2.1⟩ : Curs) (of_decide_eq_true hx))

theorem s_l13Bent_cur (y0 : Curs)  (hc0 : 0 ≤ y0.i ∧ y0.b.length ≤ 1048576) : 0 ≤ (s_l13Bent y0).2.i ∧ (s_l13Bent y0).2.b.length ≤ 1048576 := by
  unfold s_l13Bent
  exact letP (P := (fun v : Keys × Curs => 0 ≤ v.2.i ∧ v.2.b.length ≤ 1048576)) (fun c1 hc1 => have rc1 := s_l13Keys_len y0 (by first | assumption | exact ⟨by assumption, by assumption⟩ | grind [maxSl, wrap64]); have kc1 : 0 ≤ c1.2.i ∧ c1.2.b.length ≤ 1048576 := (by rw [hc1]; exact s_l13Keys_cur _ (by first | assumption | exact ⟨by assumption, by assumption⟩ | grind [maxSl, wrap64])); letP (P := (fun v : Keys × Curs => 0 ≤ v.2.i ∧ v.2.b.length ≤ 1048576)) (fun c2 hc2 => have rc2 := s_l1Below_rng c1.2 10 (by first | assumption | exact ⟨by assumption, by assumption⟩ | grind [maxSl, wrap64]); have kc2 : 0 ≤ c2.2.i ∧ c2.2.b.length ≤ 1048576 := (by rw [hc2]; exact s_l1Below_cur _ _ (by first | assumption | exact ⟨by assumption, by assumption⟩ | grind [maxSl, wrap64])); bifP (P := (fun v : Keys × Curs => 0 ≤ v.2.i ∧ v.2.b.length ≤ 1048576)) (fun b0 => letP (P := (fun v : Keys × Curs => 0 ≤ v.2.i ∧ v.2.b.length ≤ 1048576)) (fun c3 hc3 => have kc3 : 0 ≤ c3.2.i ∧ c3.2.b.length ≤ 1048576 := (by rw [hc3]; exact s_l1PickInt_cur _ _ (by first | assumption | exact ⟨by assumption, by assumption⟩ | grind [maxSl, wrap64]) (by first | assumption | exact ⟨by assumption, by assumption⟩ | grind [maxSl, wrap64])); (by (try simp only [Nat.ble_eq, Bool.and_eq_true, decide_eq_true_eq]); grind [maxSl, maxStr, toBytes_length, toInts_length, List.length_set, wrap64, s_l13Keys_len, s_l13Keys_cur, s_l1Below_rng, s_l1Below_cur, s_l1PickInt_cur, s_l11Mac_len, s_l11Mac_cur])))
      (fun b0 => bifP (P := (fun v : Keys × Curs => 0 ≤ v.2.i ∧ v.2.b.length ≤ 1048576)) (fun b1 => (by (try simp only [Nat.ble_eq, Bool.and_eq_true, decide_eq_true_eq]); grind [maxSl, maxStr, toBytes_length, toInts_length, List.length_set, wrap64, s_l13Keys_len, s_l13Keys_cur, s_l1Below_rng, s_l1Below_cur, s_l1PickInt_cur, s_l11Mac_len, s_l11Mac_cur]))
      (fun b1 => bifP (P := (fun v : Keys × Curs => 0 ≤ v.2.i ∧ v.2.b.length ≤ 1048576)) (fun b2 => letP (P := (fun v : Keys × Curs => 0 ≤ v.2.i ∧ v.2.b.length ≤ 1048576)) (fun c4 hc4 => have rc4 := s_l11Mac_len c2.2 (by first | assumption | exact ⟨by assumption, by assumption⟩ | grind [maxSl, wrap64]); have kc4 : 0 ≤ c4.2.i ∧ c4.2.b.length ≤ 1048576 := (by rw [hc4]; exact s_l11Mac_cur _ (by first | assumption | exact ⟨by assumption, by assumption⟩ | grind [maxSl, wrap64])); (by (try simp only [Nat.ble_eq, Bool.and_eq_true, decide_eq_true_eq]); grind [maxSl, maxStr, toBytes_length, toInts_length, List.length_set, wrap64, s_l13Keys_len, s_l13Keys_cur, s_l1Below_rng, s_l1Below_cur, s_l1PickInt_cur, s_l11Mac_len, s_l11Mac_cur])))
      (fun b2 => bifP (P := (fun v : Keys × Curs => 0 ≤ v.2.i ∧ v.2.b.length ≤ 1048576)) (fun b3 => letP (P := (fun v : Keys × Curs => 0 ≤ v.2.i ∧ v.2.b.length ≤ 1048576)) (fun c5 hc5 => have rc5 := s_l11Mac_len c2.2 (by first | assumption | exact ⟨by assumption, by assumption⟩ | grind [maxSl, wrap64]); have kc5 : 0 ≤ c5.2.i ∧ c5.2.b.length ≤ 1048576 := (by rw [hc5]; exact s_l11Mac_cur _ (by first | assumption | exact ⟨by assumption, by assumption⟩ | grind [maxSl, wrap64])); (by (try simp only [Nat.ble_eq, Bool.and_eq_true, decide_eq_true_eq]); grind [maxSl, maxStr, toBytes_length, toInts_length, List.length_set, wrap64, s_l13Keys_len, s_l13Keys_cur, s_l1Below_rng, s_l1Below_cur, s_l1PickInt_cur, s_l11Mac_len, s_l11Mac_cur])))
      (fun b3 => (by (try simp only [Nat.ble_eq, Bool.and_eq_true, decide_eq_true_eq]); grind [maxSl, maxStr, toBytes_length, toInts_length, List.length_set, wrap64, s_l13Keys_len, s_l13Keys_cur, s_l1Below_rng, s_l1Below_cur, s_l1PickInt_cur, s_l11Mac_len, s_l11Mac_cur])))))))
theorem s_l13Bent_len (y0 : Curs) (hp : 0 ≤ y0.i ∧ y0.b.length ≤ 1048576)  : (fun v : Keys × Curs => v.1.now.rows.length ≤ 8 ∧ v.1.before.rows.length ≤ 8) (s_l13Bent y0) := by
  unfold s_l13Bent
  exact letP (P := (fun v : Keys × Curs => v.1.now.rows.length ≤ 8 ∧ v.1.before.rows.length ≤ 8)) (fun c1 hc1 => have rc1 := s_l13Keys_len y0 (by first | assumption | exact ⟨by assumption, by assumption⟩ | grind [maxSl, wrap64]); have kc1 : 0 ≤ c1.2.i ∧ c1.2.b.length ≤ 1048576 := (by rw [hc1]; exact s_l13Keys_cur _ (by first | assumption | exact ⟨by assumption, by assumption⟩ | grind [maxSl, wrap64])); letP (P := (fun v : Keys × Curs => v.1.now.rows.length ≤ 8 ∧ v.1.before.rows.length ≤ 8)) (fun c2 hc2 => have rc2 := s_l1Below_rng c1.2 10 (by first | assumption | exact ⟨by assumption, by assumption⟩ | grind [maxSl, wrap64]); have kc2 : 0 ≤ c2.2.i ∧ c2.2.b.length ≤ 1048576 := (by rw [hc2]; exact s_l1Below_cur _ _ (by first | assumption | exact ⟨by assumption, by assumption⟩ | grind [maxSl, wrap64])); bifP (P := (fun v : Keys × Curs => v.1.now.rows.length ≤ 8 ∧ v.1.before.rows.length ≤ 8)) (fun b0 => letP (P := (fun v : Keys × Curs => v.1.now.rows.length ≤ 8 ∧ v.1.before.rows.length ≤ 8)) (fun c3 hc3 => have kc3 : 0 ≤ c3.2.i ∧ c3.2.b.length ≤ 1048576 := (by rw [hc3]; exact s_l1PickInt_cur _ _ (by first | assumption | exact ⟨by assumption, by assumption⟩ | grind [maxSl, wrap64]) (by first | assumption | exact ⟨by assumption, by assumption⟩ | grind [maxSl, wrap64])); (by (try simp only [Nat.ble_eq, Bool.and_eq_true, decide_eq_true_eq]); grind [maxSl, maxStr, toBytes_length, toInts_length, List.length_set, wrap64, s_l13Keys_len, s_l13Keys_cur, s_l1Below_rng, s_l1Below_cur, s_l1PickInt_cur, s_l11Mac_len, s_l11Mac_cur])))
      (fun b0 => bifP (P := (fun v : Keys × Curs => v.1.now.rows.length ≤ 8 ∧ v.1.before.rows.length ≤ 8)) (fun b1 => (by (try simp only [Nat.ble_eq, Bool.and_eq_true, decide_eq_true_eq]); grind [maxSl, maxStr, toBytes_length, toInts_length, List.length_set, wrap64, s_l13Keys_len, s_l13Keys_cur, s_l1Below_rng, s_l1Below_cur, s_l1PickInt_cur, s_l11Mac_len, s_l11Mac_cur]))
      (fun b1 => bifP (P := (fun v : Keys × Curs => v.1.now.rows.length ≤ 8 ∧ v.1.before.rows.length ≤ 8)) (fun b2 => letP (P := (fun v : Keys × Curs => v.1.now.rows.length ≤ 8 ∧ v.1.before.rows.length ≤ 8)) (fun c4 hc4 => have rc4 := s_l11Mac_len c2.2 (by first | assumption | exact ⟨by assumption, by assumption⟩ | grind [maxSl, wrap64]); have kc4 : 0 ≤ c4.2.i ∧ c4.2.b.length ≤ 1048576 := (by rw [hc4]; exact s_l11Mac_cur _ (by first | assumption | exact ⟨by assumption, by assumption⟩ | grind [maxSl, wrap64])); (by (try simp only [Nat.ble_eq, Bool.and_eq_true, decide_eq_true_eq]); grind [maxSl, maxStr, toBytes_length, toInts_length, List.length_set, wrap64, s_l13Keys_len, s_l13Keys_cur, s_l1Below_rng, s_l1Below_cur, s_l1PickInt_cur, s_l11Mac_len, s_l11Mac_cur])))
      (fun b2 => bifP (P := (fun v : Keys × Curs => v.1.now.rows.length ≤ 8 ∧ v.1.before.rows.length ≤ 8)) (fun b3 => letP (P := (fun v : Keys × Curs => v.1.now.rows.length ≤ 8 ∧ v.1.before.rows.length ≤ 8)) (fun c5 hc5 => have rc5 := s_l11Mac_len c2.2 (by first | assumption | exact ⟨by assumption, by assumption⟩ | grind [maxSl, wrap64]); have kc5 : 0 ≤ c5.2.i ∧ c5.2.b.length ≤ 1048576 := (by rw [hc5]; exact s_l11Mac_cur _ (by first | assumption | exact ⟨by assumption, by assumption⟩ | grind [maxSl, wrap64])); (by (try simp only [Nat.ble_eq, Bool.and_eq_true, decide_eq_true_eq]); grind [maxSl, maxStr, toBytes_length, toInts_length, List.length_set, wrap64, s_l13Keys_len, s_l13Keys_cur, s_l1Below_rng, s_l1Below_cur, s_l1PickInt_cur, s_l11Mac_len, s_l11Mac_cur])))
      (fun b3 => (by (try simp only [Nat.ble_eq, Bool.and_eq_true, decide_eq_true_eq]); grind [maxSl, maxStr, toBytes_length, toInts_length, List.length_set, wrap64, s_l13Keys_len, s_l13Keys_cur, s_l1Below_rng, s_l1Below_cur, s_l1PickInt_cur, s_l11Mac_len, s_l11Mac_cur])))))))

/-- spec.DrawHitBy -/
def s_DrawHitBy_N (x0 : List Int) (γ : Type) (fail : γ) (k : Keys × List Issu → γ) : γ :=
  letK (α := Curs) (s_l1New x0) fun c1 =>
  bif (decide (0 ≤ c1.i ∧ c1.b.length ≤ 1048576)) then
  letK (α := Int × List Issu × Curs) (s_l31Args c1) fun c2 =>
  bif (decide (c2.2.1.length ≤ 4294967296)) then
  letK (α := List Bytes) (s_GuessInputs c2.1 c2.2.1) fun c3 =>
  bif (decide (0 ≤ c2.2.2.i ∧ c2.2.2.b.length ≤ 1048576)) then
  letK (α := Int × Curs) (s_l1Below c2.2.2 4) fun c4 =>
  bif (decide (0 ≤ c4.2.i ∧ c4.2.b.length ≤ 1048576)) then
  letK (α := Int × Curs) (s_l1Below c4.2 99) fun c5 =>
  bif (decide (c3.length ≤ 4294967296)) then
  letK (α := Mac) (s_Assigned c3 (IntKind.wrap .i64 (1 + c4.1)) c5.1) fun c6 =>
  bif (decide (0 ≤ c5.2.i ∧ c5.2.b.length ≤ 1048576)) then
  letK (α := Bool × Curs) (s_l1Once c5.2 6) fun c7 =>
  bif c7.1 then
    bif (decide (0 ≤ c7.2.i ∧ c7.2.b.length ≤ 1048576)) then
    letK (α := Keys × Curs) (s_l13Bent c7.2) fun c8 =>
    k (c8.1, c2.2.1)
    else fail
  else
  k ((⟨c2.1, c6, ⟨false, 0, 0, []⟩, false⟩ : Keys), c2.2.1)
  else fail
  else fail
  else fail
  else fail
  else fail
  else fail
def s_DrawHitBy (x0 : List Int) : Keys × List Issu :=
  letK (α := Curs) (s_l1New x0) fun c1 =>
  letK (α := Int × List Issu × Curs) (s_l31Args c1) fun c2 =>
  letK (α := List Bytes) (s_GuessInputs c2.1 c2.2.1) fun c3 =>
  letK (α := Int × Curs) (s_l1Below c2.2.2 4) fun c4 =>
  letK (α := Int × Curs) (s_l1Below c4.2 99) fun c5 =>
  letK (α := Mac) (s_Assigned c3 (IntKind.wrap .i64 (1 + c4.1)) c5.1) fun c6 =>
  letK (α := Bool × Curs) (s_l1Once c5.2 6) fun c7 =>
  bif c7.1 then
    letK (α := Keys × Curs) (s_l13Bent c7.2) fun c8 =>
    (c8.1, c2.2.1)
  else
  ((⟨c2.1, c6, ⟨false, 0, 0, []⟩, false⟩ : Keys), c2.2.1)
theorem s_DrawHitBy_lk (x0 : List Int) : evalFn te (orcOf (P := Try.prog) [s_l1New_e, s_l31Args_e, s_GuessInputs_e, s_l1Below_e, s_Assigned_e, s_l1Once_e, s_l13Bent_e]) lorc0 [] Try.f19 (pvs [.sc (.sl .u8)] (x0, ())) =
  s_DrawHitBy_N x0 _ none (fun v => some [(true, [RC.c (.int .i64 v.1.epoch), RC.c (.bool v.1.now.use), RC.c (.int .u64 v.1.now.k), RC.c (.int .u64 v.1.now.l), RC.own true .macRow v.1.now.rows, RC.c (.bool v.1.before.use), RC.c (.int .u64 v.1.before.k), RC.c (.int .u64 v.1.before.l), RC.own true .macRow v.1.before.rows, RC.c (.bool v.1.two)]), (false, [RC.own true .issu v.2])]) := by kernel_rfl
theorem s_DrawHitBy_p (x0 : List Int) (hx0 : x0.length ≤ 140737488355328) (hp : x0.length ≤ 1048576) (γ : Type) (fail : γ) (k : Keys × List Issu → γ) : s_DrawHitBy_N x0 γ fail k = k (s_DrawHitBy x0) := by
  unfold s_DrawHitBy_N s_DrawHitBy
  exact letT (f := k) (fun c1 hc1 => have kc1 : 0 ≤ c1.i ∧ c1.b.length ≤ 1048576 := (by rw [hc1]; exact s_l1New_cur _ (by first | assumption | exact ⟨by assumption, by assumption⟩ | grind [maxSl, wrap64])); bifG (by (try simp only [Nat.ble_eq, Bool.and_eq_true, decide_eq_true_eq]); grind [maxSl, maxStr, toBytes_length, toInts_length, List.length_set, wrap64, s_l1New_cur, s_l31Args_len, s_l31Args_cur, s_GuessInputs_len, s_l1Below_rng, s_l1Below_cur, s_Assigned_len, s_l1Once_cur, s_l13Bent_len, s_l13Bent_cur]) (letT (f := k) (fun c2 hc2 => have kc2 : 0 ≤ c2.2.2.i ∧ c2.2.2.b.length ≤ 1048576 := (by rw [hc2]; exact s_l31Args_cur _ (by first | assumption | exact ⟨by assumption, by assumption⟩ | grind [maxSl, wrap64])); bifG (by (try simp only [Nat.ble_eq, Bool.and_eq_true, decide_eq_true_eq]); grind [maxSl, maxStr, toBytes_length, toInts_length, List.length_set, wrap64, s_l1New_cur, s_l31Args_len, s_l31Args_cur, s_GuessInputs_len, s_l1Below_rng, s_l1Below_cur, s_Assigned_len, s_l1Once_cur, s_l13Bent_len, s_l13Bent_cur]) (letT (f := k) (fun c3 hc3 => bifG (by (try simp only [Nat.ble_eq, Bool.and_eq_true, decide_eq_true_eq]); grind [maxSl, maxStr, toBytes_length, toInts_length, List.length_set, wrap64, s_l1New_cur, s_l31Args_len, s_l31Args_cur, s_GuessInputs_len, s_l1Below_rng, s_l1Below_cur, s_Assigned_len, s_l1Once_cur, s_l13Bent_len, s_l13Bent_cur]) (letT (f := k) (fun c4 hc4 => have rc4 := s_l1Below_rng c2.2.2 4 (by first | assumption | exact ⟨by assumption, by assumption⟩ | grind [maxSl, wrap64]); have kc4 : 0 ≤ c4.2.i ∧ c4.2.b.length ≤ 1048576 := (by rw [hc4]; exact s_l1Below_cur _ _ (by first | assumption | exact ⟨by assumption, by assumption⟩ | grind [maxSl, wrap64])); bifG (by (try simp only [Nat.ble_eq, Bool.and_eq_true, decide_eq_true_eq]); grind [maxSl, maxStr, toBytes_length, toInts_length, List.length_set, wrap64, s_l1New_cur, s_l31Args_len, s_l31Args_cur, s_GuessInputs_len, s_l1Below_rng, s_l1Below_cur, s_Assigned_len, s_l1Once_cur, s_l13Bent_len, s_l13Bent_cur]) (letT (f := k) (fun c5 hc5 => have rc5 := s_l1Below_rng c4.2 99 (by first | assumption | exact ⟨by assumption, by assumption⟩ | grind [maxSl, wrap64]); have kc5 : 0 ≤ c5.2.i ∧ c5.2.b.length ≤ 1048576 := (by rw [hc5]; exact s_l1Below_cur _ _ (by first | assumption | exact ⟨by assumption, by assumption⟩ | grind [maxSl, wrap64])); bifG (by (try simp only [Nat.ble_eq, Bool.and_eq_true, decide_eq_true_eq]); grind [maxSl, maxStr, toBytes_length, toInts_length, List.length_set, wrap64, s_l1New_cur, s_l31Args_len, s_l31Args_cur, s_GuessInputs_len, s_l1Below_rng, s_l1Below_cur, s_Assigned_len, s_l1Once_cur, s_l13Bent_len, s_l13Bent_cur]) (letT (f := k) (fun c6 hc6 => bifG (by (try simp only [Nat.ble_eq, Bool.and_eq_true, decide_eq_true_eq]); grind [maxSl, maxStr, toBytes_length, toInts_length, List.length_set, wrap64, s_l1New_cur, s_l31Args_len, s_l31Args_cur, s_GuessInputs_len, s_l1Below_rng, s_l1Below_cur, s_Assigned_len, s_l1Once_cur, s_l13Bent_len, s_l13Bent_cur]) (letT (f := k) (fun c7 hc7 => have kc7 : 0 ≤ c7.2.i ∧ c7.2.b.length ≤ 1048576 := (by rw [hc7]; exact s_l1Once_cur _ _ (by first | assumption | exact ⟨by assumption, by assumption⟩ | grind [maxSl, wrap64])); bifT (f := k) (fun b0 => bifG (by (try simp only [Nat.ble_eq, Bool.and_eq_true, decide_eq_true_eq]); grind [maxSl, maxStr, toBytes_length, toInts_length, List.length_set, wrap64, s_l1New_cur, s_l31Args_len, s_l31Args_cur, s_GuessInputs_len, s_l1Below_rng, s_l1Below_cur, s_Assigned_len, s_l1Once_cur, s_l13Bent_len, s_l13Bent_cur]) (letT (f := k) (fun c8 hc8 => have rc8 := s_l13Bent_len c7.2 (by first | assumption | exact ⟨by assumption, by assumption⟩ | grind [maxSl, wrap64]); have kc8 : 0 ≤ c8.2.i ∧ c8.2.b.length ≤ 1048576 := (by rw [hc8]; exact s_l13Bent_cur _ (by first | assumption | exact ⟨by assumption, by assumption⟩ | grind [maxSl, wrap64])); rfl)))
      (fun b0 => rfl))))))))))))))
theorem s_DrawHitBy_c (x0 : List Int) (hp : x0.length ≤ 1048576) : Con Try.prog 19 (pvs [.sc (.sl .u8)] (x0, ())) [rv (.st .keys) [.c, .c, .c, .c, .o true, .c, .c, .c, .o true, .c] (s_DrawHitBy x0).1, rv (.sc (.sl .issu)) [.o true] (s_DrawHitBy x0).2] := by
  refine Con.of_facts (enters_of Try.func19 rfl (by kernel_rfl)) fun hf => ?_
  replace hf := factAt hf
  exact evalFn_con0 teFact mixFact (orcOf_ok _) Try.func19 (by kernel_rfl) ((s_DrawHitBy_lk x0).trans (s_DrawHitBy_p x0 ((hf 0 0 rfl rfl).len) hp _ _ _))
noncomputable def s_DrawHitBy_e : Ent1 Try.prog := entP 19 [.sc (.sl .u8)] (fun x => (decide (x.1.length ≤ 1048576))) (fun x => (s_DrawHitBy x.1)) (fun v => [rv (.st .keys) [.c, .c, .c, .c, .o true, .c, .c, .c, .o true, .c] v.1, rv (.sc (.sl .issu)) [.o true] v.2]) (fun x hx => s_DrawHitBy_c x.1 (of_decide_eq_true hx))

theorem s_DrawHitBy_len (x0 : List Int) (hp : x0.length ≤ 1048576)  : (fun v : Keys × List Issu => v.1.now.rows.length ≤ 8 ∧ v.1.before.rows.length ≤ 8 ∧ v.2.length ≤ 8) (s_DrawHitBy x0) := by
  unfold s_DrawHitBy
  exact letP (P := (fun v : Keys × List Issu => v.1.now.rows.length ≤ 8 ∧ v.1.before.rows.length ≤ 8 ∧ v.2.length ≤ 8)) (fun c1 hc1 => have kc1 : 0 ≤ c1.i ∧ c1.b.length ≤ 1048576 := (by rw [hc1]; exact s_l1New_cur _ (by first | assumption | exact ⟨by assumption, by assumption⟩ | grind [maxSl, wrap64])); letP (P := (fun v : Keys × List Issu => v.1.now.rows.length ≤ 8 ∧ v.1.before.rows.length ≤ 8 ∧ v.2.length ≤ 8)) (fun c2 hc2 => have kc2 : 0 ≤ c2.2.2.i ∧ c2.2.2.b.length ≤ 1048576 := (by rw [hc2]; exact s_l31Args_cur _ (by first | assumption | exact ⟨by assumption, by assumption⟩ | grind [maxSl, wrap64])); letP (P := (fun v : Keys × List Issu => v.1.now.rows.length ≤ 8 ∧ v.1.before.rows.length ≤ 8 ∧ v.2.length ≤ 8)) (fun c3 hc3 => letP (P := (fun v : Keys × List Issu => v.1.now.rows.length ≤ 8 ∧ v.1.before.rows.length ≤ 8 ∧ v.2.length ≤ 8)) (fun c4 hc4 => have rc4 := s_l1Below_rng c2.2.2 4 (by first | assumption | exact ⟨by assumption, by assumption⟩ | grind [maxSl, wrap64]); have kc4 : 0 ≤ c4.2.i ∧ c4.2.b.length ≤ 1048576 := (by rw [hc4]; exact s_l1Below_cur _ _ (by first | assumption | exact ⟨by assumption, by assumption⟩ | grind [maxSl, wrap64])); letP (P := (fun v : Keys × List Issu => v.1.now.rows.length ≤ 8 ∧ v.1.before.rows.length ≤ 8 ∧ v.2.length ≤ 8)) (fun c5 hc5 => have rc5 := s_l1Below_rng c4.2 99 (by first | assumption | exact ⟨by assumption, by assumption⟩ | grind [maxSl, wrap64]); have kc5 : 0 ≤ c5.2.i ∧ c5.2.b.length ≤ 1048576 := (by rw [hc5]; exact s_l1Below_cur _ _ (by first | assumption | exact ⟨by assumption, by assumption⟩ | grind [maxSl, wrap64])); letP (P := (fun v : Keys × List Issu => v.1.now.rows.length ≤ 8 ∧ v.1.before.rows.length ≤ 8 ∧ v.2.length ≤ 8)) (fun c6 hc6 => letP (P := (fun v : Keys × List Issu => v.1.now.rows.length ≤ 8 ∧ v.1.before.rows.length ≤ 8 ∧ v.2.length ≤ 8)) (fun c7 hc7 => have kc7 : 0 ≤ c7.2.i ∧ c7.2.b.length ≤ 1048576 := (by rw [hc7]; exact s_l1Once_cur _ _ (by first | assumption | exact ⟨by assumption, by assumption⟩ | grind [maxSl, wrap64])); bifP (P := (fun v : Keys × List Issu => v.1.now.rows.length ≤ 8 ∧ v.1.before.rows.length ≤ 8 ∧ v.2.length ≤ 8)) (fun b0 => letP (P := (fun v : Keys × List Issu => v.1.now.rows.length ≤ 8 ∧ v.1.before.rows.length ≤ 8 ∧ v.2.length ≤ 8)) (fun c8 hc8 => have rc8 := s_l13Bent_len c7.2 (by first | assumption | exact ⟨by assumption, by assumption⟩ | grind [maxSl, wrap64]); have kc8 : 0 ≤ c8.2.i ∧ c8.2.b.length ≤ 1048576 := (by rw [hc8]; exact s_l13Bent_cur _ (by first | assumption | exact ⟨by assumption, by assumption⟩ | grind [maxSl, wrap64])); (by (try simp only [Nat.ble_eq, Bool.and_eq_true, decide_eq_true_eq]); grind [maxSl, maxStr, toBytes_length, toInts_length, List.length_set, wrap64, s_l1New_cur, s_l31Args_len, s_l31Args_cur, s_GuessInputs_len, s_l1Below_rng, s_l1Below_cur, s_Assigned_len, s_l1Once_cur, s_l13Bent_len, s_l13Bent_cur])))
      (fun b0 => (by (try simp only [Nat.ble_eq, Bool.and_eq_true, decide_eq_true_eq]); grind [maxSl, maxStr, toBytes_length, toInts_length, List.length_set, wrap64, s_l1New_cur, s_l31Args_len, s_l31Args_cur, s_GuessInputs_len, s_l1Below_rng, s_l1Below_cur, s_Assigned_len, s_l1Once_cur, s_l13Bent_len, s_l13Bent_cur])))))))))

/-- laws.FnHit -/
def w_FnHit_N (x0 : List Int) (γ : Type) (fail : γ) (k : Bool → γ) : γ :=
  letK (α := Bool) (w_big x0) fun c1 =>
  bif c1 then
    k true
  else
  bif (decide (x0.length ≤ 1048576)) then
  letK (α := Keys × List Issu) (s_DrawHitBy x0) fun c2 =>
  bif (decide (c2.1.now.rows.length ≤ 4294967296 ∧ c2.1.before.rows.length ≤ 4294967296 ∧ c2.2.length ≤ 4294967296)) then
  letK (α := Bool) (i_HitBy c2.1 c2.2) fun c3 =>
  bif (decide (c2.1.now.rows.length ≤ 4294967296 ∧ c2.1.before.rows.length ≤ 4294967296 ∧ c2.2.length ≤ 4294967296)) then
  letK (α := Bool) (s_HitBy c2.1 c2.2) fun c4 =>
  bif (!(c3 == c4)) then
    k false
  else
  bif (decide (0 ≤ 2)) then
  letK (α := Int) (w_at0 x0 2) fun c5 =>
  bif ((IntKind.wrap .i64 ((c2.2.length : Int) + 1)) != 0) then
  bif ((decide (0 ≤ (c5.tmod (IntKind.wrap .i64 ((c2.2.length : Int) + 1))))) && (decide ((c5.tmod (IntKind.wrap .i64 ((c2.2.length : Int) + 1))) ≤ (c2.2.length : Int)))) then
  bif (decide (c2.1.now.rows.length ≤ 4294967296 ∧ c2.1.before.rows.length ≤ 4294967296 ∧ ((c2.2.take ((c5.tmod (IntKind.wrap .i64 ((c2.2.length : Int) + 1))).toNat)).drop 0).length ≤ 4294967296)) then
  letK (α := Bool) (i_HitBy c2.1 ((c2.2.take ((c5.tmod (IntKind.wrap .i64 ((c2.2.length : Int) + 1))).toNat)).drop 0)) fun c6 =>
  bif c6 then
    k (c3 == true)
  else
  bif (((decide (0 ≤ (c5.tmod (IntKind.wrap .i64 ((c2.2.length : Int) + 1))))) && (decide ((c5.tmod (IntKind.wrap .i64 ((c2.2.length : Int) + 1))) ≤ (c2.2.length : Int)))) && (decide ((c2.2.length : Int) ≤ (c2.2.length : Int)))) then
  bif (decide (c2.1.now.rows.length ≤ 4294967296 ∧ c2.1.before.rows.length ≤ 4294967296 ∧ ((c2.2.take ((c2.2.length : Int).toNat)).drop ((c5.tmod (IntKind.wrap .i64 ((c2.2.length : Int) + 1))).toNat)).length ≤ 4294967296)) then
  letK (α := Bool) (i_HitBy c2.1 ((c2.2.take ((c2.2.length : Int).toNat)).drop ((c5.tmod (IntKind.wrap .i64 ((c2.2.length : Int) + 1))).toNat))) fun c7 =>
  k (c3 == c7)
  else fail
  else fail
  else fail
  else fail
  else fail
  else fail
  else fail
  else fail
  else fail
def w_FnHit (x0 : List Int) : Bool :=
  letK (α := Bool) (w_big x0) fun c1 =>
  bif c1 then
    true
  else
  letK (α := Keys × List Issu) (s_DrawHitBy x0) fun c2 =>
  letK (α := Bool) (i_HitBy c2.1 c2.2) fun c3 =>
  letK (α := Bool) (s_HitBy c2.1 c2.2) fun c4 =>
  bif (!(c3 == c4)) then
    false
  else
  letK (α := Int) (w_at0 x0 2) fun c5 =>
  letK (α := Bool) (i_HitBy c2.1 ((c2.2.take ((c5.tmod (IntKind.wrap .i64 ((c2.2.length : Int) + 1))).toNat)).drop 0)) fun c6 =>
  bif c6 then
    (c3 == true)
  else
  letK (α := Bool) (i_HitBy c2.1 ((c2.2.take ((c2.2.length : Int).toNat)).drop ((c5.tmod (IntKind.wrap .i64 ((c2.2.length : Int) + 1))).toNat))) fun c7 =>
  (c3 == c7)
theorem w_FnHit_lk (x0 : List Int) : evalFn te (orcOf (P := Try.prog) [w_big_e, s_DrawHitBy_e, i_HitBy_e, s_HitBy_e, w_at0_e]) lorc0 [] Try.f4 (pvs [.sc (.sl .u8)] (x0, ())) =
  w_FnHit_N x0 _ none (fun v => some [(false, [RC.c (.bool v)])]) := by kernel_rfl
theorem w_FnHit_p (x0 : List Int) (hx0 : x0.length ≤ 140737488355328) (hx0_el : ∀ y ∈ x0, 0 ≤ y ∧ y ≤ 255)  (γ : Type) (fail : γ) (k : Bool → γ) : w_FnHit_N x0 γ fail k = k (w_FnHit x0) := by
  unfold w_FnHit_N w_FnHit
  exact letT (f := k) (fun c1 hc1 => bifT (f := k) (fun b0 => rfl)
      (fun b0 => bifG (by (try simp only [Nat.ble_eq, Bool.and_eq_true, decide_eq_true_eq]); first | grind [maxSl, w_big, s_DrawHitBy_len] | (have hl : x0.length ≤ 1048576 := (by grind [w_big]); have r := (s_DrawHitBy_len x0 hl).2.2; rw [← hc2] at r; have r3 := (s_DrawHitBy_len x0 hl); rw [← hc2] at r3; first | (rw [wrap64 (by omega) (by omega)]; simp only [bne_iff_ne, ne_eq]; omega) | (have q := w_at0_nn x0 2 hx0_el (by decide) hx0; rw [← hc5] at q; rw [wrap64 (by omega) (by omega)]; have q1 := tmod_nn (b := (c2.2.length : Int) + 1) q; have q2 := tmod_lt (a := c5) (b := (c2.2.length : Int) + 1) (by omega); first | omega | (refine ⟨⟨q1, by omega⟩, Int.le_refl _⟩)) | (simp only [List.length_drop, List.length_take]; omega))) (letT (f := k) (fun c2 hc2 => bifG (by (try simp only [Nat.ble_eq, Bool.and_eq_true, decide_eq_true_eq]); first | grind [maxSl, w_big, s_DrawHitBy_len] | (have hl : x0.length ≤ 1048576 := (by grind [w_big]); have r := (s_DrawHitBy_len x0 hl).2.2; rw [← hc2] at r; have r3 := (s_DrawHitBy_len x0 hl); rw [← hc2] at r3; first | (rw [wrap64 (by omega) (by omega)]; simp only [bne_iff_ne, ne_eq]; omega) | (have q := w_at0_nn x0 2 hx0_el (by decide) hx0; rw [← hc5] at q; rw [wrap64 (by omega) (by omega)]; have q1 := tmod_nn (b := (c2.2.length : Int) + 1) q; have q2 := tmod_lt (a := c5) (b := (c2.2.length : Int) + 1) (by omega); first | omega | (refine ⟨⟨q1, by omega⟩, Int.le_refl _⟩)) | (simp only [List.length_drop, List.length_take]; omega))) (letT (f := k) (fun c3 hc3 => bifG (by (try simp only [Nat.ble_eq, Bool.and_eq_true, decide_eq_true_eq]); first | grind [maxSl, w_big, s_DrawHitBy_len] | (have hl : x0.length ≤ 1048576 := (by grind [w_big]); have r := (s_DrawHitBy_len x0 hl).2.2; rw [← hc2] at r; have r3 := (s_DrawHitBy_len x0 hl); rw [← hc2] at r3; first | (rw [wrap64 (by omega) (by omega)]; simp only [bne_iff_ne, ne_eq]; omega) | (have q := w_at0_nn x0 2 hx0_el (by decide) hx0; rw [← hc5] at q; rw [wrap64 (by omega) (by omega)]; have q1 := tmod_nn (b := (c2.2.length : Int) + 1) q; have q2 := tmod_lt (a := c5) (b := (c2.2.length : Int) + 1) (by omega); first | omega | (refine ⟨⟨q1, by omega⟩, Int.le_refl _⟩)) | (simp only [List.length_drop, List.length_take]; omega))) (letT (f := k) (fun c4 hc4 => bifT (f := k) (fun b1 => rfl)
      (fun b1 => bifG (by (try simp only [Nat.ble_eq, Bool.and_eq_true, decide_eq_true_eq]); first | grind [maxSl, w_big, s_DrawHitBy_len] | (have hl : x0.length ≤ 1048576 := (by grind [w_big]); have r := (s_DrawHitBy_len x0 hl).2.2; rw [← hc2] at r; have r3 := (s_DrawHitBy_len x0 hl); rw [← hc2] at r3; first | (rw [wrap64 (by omega) (by omega)]; simp only [bne_iff_ne, ne_eq]; omega) | (have q := w_at0_nn x0 2 hx0_el (by decide) hx0; rw [← hc5] at q; rw [wrap64 (by omega) (by omega)]; have q1 := tmod_nn (b := (c2.2.length : Int) + 1) q; have q2 := tmod_lt (a := c5) (b := (c2.2.length : Int) + 1) (by omega); first | omega | (refine ⟨⟨q1, by omega⟩, Int.le_refl _⟩)) | (simp only [List.length_drop, List.length_take]; omega))) (letT (f := k) (fun c5 hc5 => bifG (by (try simp only [Nat.ble_eq, Bool.and_eq_true, decide_eq_true_eq]); first | grind [maxSl, w_big, s_DrawHitBy_len] | (have hl : x0.length ≤ 1048576 := (by grind [w_big]); have r := (s_DrawHitBy_len x0 hl).2.2; rw [← hc2] at r; have r3 := (s_DrawHitBy_len x0 hl); rw [← hc2] at r3; first | (rw [wrap64 (by omega) (by omega)]; simp only [bne_iff_ne, ne_eq]; omega) | (have q := w_at0_nn x0 2 hx0_el (by decide) hx0; rw [← hc5] at q; rw [wrap64 (by omega) (by omega)]; have q1 := tmod_nn (b := (c2.2.length : Int) + 1) q; have q2 := tmod_lt (a := c5) (b := (c2.2.length : Int) + 1) (by omega); first | omega | (refine ⟨⟨q1, by omega⟩, Int.le_refl _⟩)) | (simp only [List.length_drop, List.length_take]; omega))) (bifG (by (try simp only [Nat.ble_eq, Bool.and_eq_true, decide_eq_true_eq]); first | grind [maxSl, w_big, s_DrawHitBy_len] | (have hl : x0.length ≤ 1048576 := (by grind [w_big]); have r := (s_DrawHitBy_len x0 hl).2.2; rw [← hc2] at r; have r3 := (s_DrawHitBy_len x0 hl); rw [← hc2] at r3; first | (rw [wrap64 (by omega) (by omega)]; simp only [bne_iff_ne, ne_eq]; omega) | (have q := w_at0_nn x0 2 hx0_el (by decide) hx0; rw [← hc5] at q; rw [wrap64 (by omega) (by omega)]; have q1 := tmod_nn (b := (c2.2.length : Int) + 1) q; have q2 := tmod_lt (a := c5) (b := (c2.2.length : Int) + 1) (by omega); first | omega | (refine ⟨⟨q1, by omega⟩, Int.le_refl _⟩)) | (simp only [List.length_drop, List.length_take]; omega))) (bifG (by (try simp only [Nat.ble_eq, Bool.and_eq_true, decide_eq_true_eq]); first | grind [maxSl, w_big, s_DrawHitBy_len] | (have hl : x0.length ≤ 1048576 := (by grind [w_big]); have r := (s_DrawHitBy_len x0 hl).2.2; rw [← hc2] at r; have r3 := (s_DrawHitBy_len x0 hl); rw [← hc2] at r3; first | (rw [wrap64 (by omega) (by omega)]; simp only [bne_iff_ne, ne_eq]; omega) | (have q := w_at0_nn x0 2 hx0_el (by decide) hx0; rw [← hc5] at q; rw [wrap64 (by omega) (by omega)]; have q1 := tmod_nn (b := (c2.2.length : Int) + 1) q; have q2 := tmod_lt (a := c5) (b := (c2.2.length : Int) + 1) (by omega); first | omega | (refine ⟨⟨q1, by omega⟩, Int.le_refl _⟩)) | (simp only [List.length_drop, List.length_take]; omega))) (letT (f := k) (fun c6 hc6 => bifT (f := k) (fun b2 => rfl)
      (fun b2 => bifG (by (try simp only [Nat.ble_eq, Bool.and_eq_true, decide_eq_true_eq]); first | grind [maxSl, w_big, s_DrawHitBy_len] | (have hl : x0.length ≤ 1048576 := (by grind [w_big]); have r := (s_DrawHitBy_len x0 hl).2.2; rw [← hc2] at r; have r3 := (s_DrawHitBy_len x0 hl); rw [← hc2] at r3; first | (rw [wrap64 (by omega) (by omega)]; simp only [bne_iff_ne, ne_eq]; omega) | (have q := w_at0_nn x0 2 hx0_el (by decide) hx0; rw [← hc5] at q; rw [wrap64 (by omega) (by omega)]; have q1 := tmod_nn (b := (c2.2.length : Int) + 1) q; have q2 := tmod_lt (a := c5) (b := (c2.2.length : Int) + 1) (by omega); first | omega | (refine ⟨⟨q1, by omega⟩, Int.le_refl _⟩)) | (simp only [List.length_drop, List.length_take]; omega))) (bifG (by (try simp only [Nat.ble_eq, Bool.and_eq_true, decide_eq_true_eq]); first | grind [maxSl, w_big, s_DrawHitBy_len] | (have hl : x0.length ≤ 1048576 := (by grind [w_big]); have r := (s_DrawHitBy_len x0 hl).2.2; rw [← hc2] at r; have r3 := (s_DrawHitBy_len x0 hl); rw [← hc2] at r3; first | (rw [wrap64 (by omega) (by omega)]; simp only [bne_iff_ne, ne_eq]; omega) | (have q := w_at0_nn x0 2 hx0_el (by decide) hx0; rw [← hc5] at q; rw [wrap64 (by omega) (by omega)]; have q1 := tmod_nn (b := (c2.2.length : Int) + 1) q; have q2 := tmod_lt (a := c5) (b := (c2.2.length : Int) + 1) (by omega); first | omega | (refine ⟨⟨q1, by omega⟩, Int.le_refl _⟩)) | (simp only [List.length_drop, List.length_take]; omega))) (letT (f := k) (fun c7 hc7 => rfl)))))))))))))))))))
theorem w_FnHit_c (x0 : List Int)  : Con Try.prog 4 (pvs [.sc (.sl .u8)] (x0, ())) [rv (.sc .bool) [] (w_FnHit x0)] := by
  refine Con.of_facts (enters_of Try.func4 rfl (by kernel_rfl)) fun hf => ?_
  replace hf := factAt hf
  exact evalFn_con0 teFact mixFact (orcOf_ok _) Try.func4 (by kernel_rfl) ((w_FnHit_lk x0).trans (w_FnHit_p x0 ((hf 0 0 rfl rfl).len) (fun y hy => have h := ((hf 0 0 rfl rfl).elem hy (.int .u8 y) List.mem_cons_self).rng; ⟨h.1, h.2⟩) _ _ _))
noncomputable def w_FnHit_e : Ent1 Try.prog := entA 4 [.sc (.sl .u8)] (fun x => (w_FnHit x.1)) (fun v => [rv (.sc .bool) [] v]) (fun x => w_FnHit_c x.1)



theorem s_WordOk_eq (n b : Int) : s_WordOk n b = bif s_l1In b 1 62 then s_l1In n 0 (IntKind.wrap .i64 ((IntKind.wrap .i64 (1 * 2 ^ (min (IntKind.wrap .u64 b).toNat 64))) - 1)) else false := by
  simp only [s_WordOk, letK]
theorem i_WordOk_eq (n b : Int) : i_WordOk n b = bif i_within b 1 62 then i_within n 0 (IntKind.wrap .i64 ((IntKind.wrap .i64 (1 * 2 ^ (min b.toNat 64))) - 1)) else false := by
  simp only [i_WordOk, letK]
theorem q_WordOk (n b : Int) : s_WordOk n b = i_WordOk n b := by
  rw [s_WordOk_eq, i_WordOk_eq, s_l1In_eq, i_within_eq]
  cases h : (decide (1 ≤ b) && decide (b ≤ 62)) with
  | false => rw [cond_false, cond_false]
  | true =>
    have h1 : 1 ≤ b ∧ b ≤ 62 := by simpa using h
    have h2 : IntKind.u64.wrap b = b := by rw [wrapU_def]; exact Int.emod_eq_of_lt (by omega) (by omega)
    rw [h2, cond_true, cond_true, s_l1In_eq, i_within_eq]


theorem q_within (a b c : Int) : s_l1In a b c = i_within a b c := by rw [s_l1In_eq, i_within_eq]


theorem q_TupleOk (x : Tupl) : s_TupleOk x = i_TupleOk x := by simp only [s_TupleOk, i_TupleOk, q_WordOk]


theorem forN_congrI {A W : Type} {f g : Int → A → Stp A W} {st : Int} {P : A → Prop} (h : ∀ i a, P a → f i a = g i a) (hp : ∀ i a a', P a → f i a = .next a' → P a') : ∀ (k : Nat) (i : Int) (a : A), P a → forN f st k i a = forN g st k i a
  | 0, _, _, _ => rfl
  | k + 1, i, a, ha => by
    simp only [forN, ← h i a ha]
    cases hf : f i a with
    | out w => rfl
    | next a' => simp only [Stp.elim]; exact forN_congrI h hp k _ _ (hp i a a' ha hf)


theorem q_SameMac (x y : Mac) : s_SameMac x y = i_SameMac x y := by
  unfold s_SameMac i_SameMac g_Equal_MacRow letK
  rw [show forN (s_SameMac_L0_f x.use x.k x.l x.rows y.use y.k y.l y.rows) 1 (Int.toNat ((x.rows.length : Int) - 0)) 0 () = forN (g_Equal_MacRow_L0_f x.rows y.rows (x.rows.length : Int)) 1 (Int.toNat ((x.rows.length : Int) - 0)) 0 () from forN_congr (fun _ _ => rfl) _ _ _]
  have e1 : (x.k != y.k) = !(x.k == y.k) := rfl
  have e2 : (x.l != y.l) = !(x.l == y.l) := rfl
  rw [e1, e2]
  cases (x.use == y.use) <;> cases (x.k == y.k) <;> cases (x.l == y.l) <;> rfl
theorem SameMac_refl (x : Mac) : i_SameMac x x = true := by
  unfold i_SameMac g_Equal_MacRow letK
  rw [toNat_sub0, forN_list x.rows _ rfl (F := fun j y a => bif (fun _ => false) y then .out () else .next ()) (by
    intro j y a h
    simp [g_Equal_MacRow_L0_f])]
  rw [listN_all x.rows 0 (by simp)]
  simp [Stp.elim]
theorem SameMac_none (x : Mac) (h : i_SameMac x ⟨false, 0, 0, []⟩ = true) : x = ⟨false, 0, 0, []⟩ := by
  unfold i_SameMac g_Equal_MacRow letK at h
  obtain ⟨u, k, l, r⟩ := x
  cases r with
  | nil => simp [forN, Stp.elim] at h; obtain ⟨h1, h2, h3⟩ := h; subst h1; subst h2; subst h3; rfl
  | cons a b =>
    have : (((a :: b).length : Int) != (([] : List MacRow).length : Int)) = true := by simp; omega
    simp only [this, cond_true] at h
    revert h
    cases (u == false) <;> cases (k == 0) <;> cases (l == 0) <;> simp


theorem forN_ext {A W : Type} {f g : Int → A → Stp A W} : ∀ (k : Nat) (i : Nat) (a : A), (∀ j a, j < i + k → f (j : Int) a = g (j : Int) a) → forN f 1 k (i : Int) a = forN g 1 k (i : Int) a
  | 0, _, _, _ => rfl
  | k + 1, i, a, h => by
    simp only [forN, h i a (by omega)]
    cases g (i : Int) a with
    | out w => rfl
    | next a' => simp only [Stp.elim]; rw [show ((i : Int) + 1) = ((i + 1 : Nat) : Int) by omega]; exact forN_ext k (i + 1) a' (fun j a hj => h j a (by omega))
theorem MacOk_in (r : List MacRow) (u : Bool) (k l : Int) (j : Nat) (hj : j < r.length) :
    Stp.elim (γ := Stp Unit Unit) (fun a3 => .next ()) (fun p3 => .out ()) (forN (s_MacOk_L0_0_f (j : Int) u k l r) 1 (Int.toNat ((j : Int) - 0)) 0 ()) =
    bif (g_ContainsFunc_MacRow_i_MacOk_1 ((r.take j).drop 0) (r.getD j (Ty.zero .macRow))).1 then .out () else .next () := by
  let p : MacRow → Bool := fun y => y.input == (r.getD j (Ty.zero .macRow)).input
  unfold g_ContainsFunc_MacRow_i_MacOk_1 g_IndexFunc_MacRow_i_MacOk_1
  rw [List.drop_zero]
  have hl : (r.take j).length = j := by rw [List.length_take]; omega
  rw [forN_list (r.take j) _ (by rw [hl]; simp) (F := fun q y a => bif p y then .out () else .next ()) (by
    intro q y a h
    have hq : q < j := by
      have := (List.getElem?_eq_some_iff.1 h).1; omega
    have h2 : r[q]? = some y := by rw [List.getElem?_take] at h; simpa [hq] using h
    simp only [s_MacOk_L0_0_f, toNat_cast, getD_some h2, p])]
  rw [forN_list (r.take j) _ (by simp) (F := fun q y a => bif p y then .out (q : Int) else .next ()) (by
    intro q y a h
    simp only [g_IndexFunc_MacRow_i_MacOk_1_L0_f, letK, i_MacOk_1, toNat_cast, getD_some h, p])]
  rw [listN_find (w := fun _ _ => ()), listN_find (w := fun j _ => (j : Int))]
  simp only [letK]
  cases h : (r.take j).findIdx? p with
  | none => simp [Stp.elim]
  | some i =>
    have := (List.findIdx?_eq_some_iff_getElem.1 h).1
    simp only [List.getElem?_eq_getElem this, Stp.elim]
    simp
theorem q_MacOk (x : Mac) : s_MacOk x = i_MacOk x := by
  unfold s_MacOk i_MacOk
  have e : forN (s_MacOk_L0_f x.use x.k x.l x.rows) 1 (Int.toNat ((x.rows.length : Int) - 0)) 0 () = forN (i_MacOk_L0_f x.rows (x.rows.length : Int) x.use x.k x.l x.rows) 1 (Int.toNat ((x.rows.length : Int) - 0)) 0 () := by
    rw [toNat_sub0]
    refine forN_ext x.rows.length 0 () (fun j a hj => ?_)
    have := MacOk_in x.rows x.use x.k x.l j (by omega)
    simp only [s_MacOk_L0_f, i_MacOk_L0_f, letK, toNat_cast, q_within] at this ⊢
    rw [this]
  rw [e]
  have e1 : (x.k != 0) = !(x.k == 0) := rfl
  have e2 : (x.l != 0) = !(x.l == 0) := rfl
  have e3 : decide (64 < (x.rows.length : Int)) = !decide ((x.rows.length : Int) ≤ 64) := by
    rcases Int.lt_or_le 64 (x.rows.length : Int) with h | h
    · simp [h, show ¬ ((x.rows.length : Int) ≤ 64) by omega]
    · simp [h, show ¬ (64 < (x.rows.length : Int)) by omega]
  rw [e1, e2, e3]
  cases x.use with
  | false => rfl
  | true =>
    cases forN (i_MacOk_L0_f x.rows (x.rows.length : Int) true x.k x.l x.rows) 1 (Int.toNat ((x.rows.length : Int) - 0)) 0 () <;> cases (x.k == 0) <;> cases (x.l == 0) <;> cases decide ((x.rows.length : Int) ≤ 64) <;> rfl


theorem q_PutWord (n b : Int) : s_PutWord n b = i_PutWord n b := by
  unfold s_PutWord i_PutWord
  simp only [letK, q_within, q_WordOk]
  cases h1 : i_within b 1 6 with
  | false => rfl
  | true =>
    simp only [Bool.not_true, cond_false]
    cases h2 : i_WordOk n (IntKind.wrap .i64 (8 * b)) with
    | false => rfl
    | true =>
      simp only [Bool.not_true, cond_false]
      have hb : 0 ≤ n ∧ n ≤ 9223372036854775807 := by
        rw [i_WordOk_eq, i_within_eq, i_within_eq] at h2
        revert h2
        cases (decide (1 ≤ IntKind.wrap .i64 (8 * b)) && decide (IntKind.wrap .i64 (8 * b) ≤ 62)) with
        | false => simp
        | true =>
          simp only [cond_true, Bool.and_eq_true, decide_eq_true_eq]
          generalize (IntKind.wrap .i64 (1 * 2 ^ (min (IntKind.wrap .i64 (8 * b)).toNat 64))) = z
          rw [wrap64_def]
          omega
      have e : ∀ k i r, forN s_PutWord_L0_f (-1) k i (n, r) = forN i_PutWord_L0_f (-1) k i (n, r) := by
       intro k i r
       refine forN_congrI (P := fun a => 0 ≤ a.1 ∧ a.1 ≤ 9223372036854775807) (fun i a ha => ?_) (fun i a a' ha he => ?_) k i (n, r) hb
       · unfold s_PutWord_L0_f i_PutWord_L0_f
         rw [(tdiv_pos 256).1 ha.1, (tmod_pos 256).1 ha.1, wrap64 (by omega) (by omega), Int.fdiv_eq_ediv_of_nonneg a.1 (by omega), wrap8_def, wrap8_def, Int.emod_emod]
       · unfold s_PutWord_L0_f at he
         cases he
         show 0 ≤ IntKind.wrap .i64 (a.1.tdiv 256) ∧ _
         rw [(tdiv_pos 256).1 ha.1, wrap64 (by omega) (by omega)]
         omega
      rw [e]
      all_goals rfl


theorem q_CookieParts (x : Int) : s_CookieParts x = i_CookieParts x := by simp only [s_CookieParts, i_CookieParts, q_WordOk]


theorem q_MacInput (x : Tupl) (a b c : Int) : s_MacInput x a b c = i_MacInput x a b c := by simp only [s_MacInput, i_MacInput, q_PutWord, q_TupleOk, q_WordOk, q_within]

theorem WordOk32 (n : Int) : i_WordOk n 32 = (decide (0 ≤ n) && decide (n ≤ 4294967295)) := by
  rw [i_WordOk_eq, i_within_eq, i_within_eq]
  rfl
theorem q_KeysOk (k : Keys) : s_KeysOk k = i_KeysOk k := by
  unfold s_KeysOk i_KeysOk
  simp only [q_WordOk, q_MacOk, q_SameMac, WordOk32, i_within_eq, letK_eq]
  obtain ⟨e, n, b, t⟩ := k
  simp only []
  cases t <;> cases i_MacOk n <;> cases i_MacOk b <;> simp
  rw [Bool.eq_iff_iff]
  simp
  omega

theorem rot_eq (x n : Int) (h : bits .and .u64 (IntKind.wrap .u64 n) 63 = n) : mb_RotateLeft64 x n = s_l10Turn x n := by
  simp only [mb_RotateLeft64, s_l10Turn, letK, h]
theorem q_SipRound (x : Sipr) : s_SipRound x = i_SipRound x := by
  simp only [s_SipRound, i_SipRound, rot_eq _ 13 (by decide +kernel), rot_eq _ 16 (by decide +kernel), rot_eq _ 17 (by decide +kernel), rot_eq _ 21 (by decide +kernel), rot_eq _ 32 (by decide +kernel)]

theorem wraps_u64 (n : Int) (h0 : 0 ≤ n) (h1 : n < 2 ^ 64) : IntKind.u64.wrap n = n := by rw [wrapU_def]; omega
theorem or8 (a b : Int) (ha : 0 ≤ a) (ha1 : a < 72057594037927936) (hb : 0 ≤ b) (hb1 : b < 256) : bits .or .u64 (IntKind.wrap .u64 (a * 256)) (IntKind.wrap .u64 b) = a * 256 + b := by
  rw [wraps_u64 _ (by omega) (by omega), wraps_u64 _ (by omega) (by omega)]
  exact bits_join .u64 64 (by decide) wraps_u64 8 _ _ (by omega) (by omega) (by omega) (by omega) (by omega) (by omega)
/-- bytes from the k-th down, as digits -/
def Rd8 (g : Nat → Int) : Nat → Int → Int
  | 0, a => a
  | k + 1, a => Rd8 g k (a * 256 + g k)
theorem Rd8_congr {g h : Nat → Int} : ∀ (k : Nat) (a : Int), (∀ j, j < k → g j = h j) → Rd8 g k a = Rd8 h k a
  | 0, _, _ => rfl
  | k + 1, a, e => by simp only [Rd8, e k (Nat.lt_succ_self _)]; exact Rd8_congr k _ fun j hj => e j (by omega)
theorem Rd8_lin {g : Nat → Int} : ∀ (k : Nat) (a : Int), Rd8 g k a = a * 256 ^ k + Rd8 g k 0
  | 0, a => by simp [Rd8]
  | k + 1, a => by
    simp only [Rd8]
    rw [Rd8_lin k (a * 256 + g k), Rd8_lin k (0 * 256 + g k), Int.pow_succ, Int.add_mul, Int.zero_mul, Int.zero_add, Int.mul_assoc, Int.mul_comm 256 (256 ^ k), Int.add_assoc]
theorem pow256 (k : Nat) : (1 : Int) ≤ 256 ^ k := by
  have := Int.pow_pos (n := 256) (m := k) (by decide)
  omega
theorem Rd8_bd {g : Nat → Int} (hg : ∀ k, 0 ≤ g k ∧ g k ≤ 255) : ∀ (k : Nat), 0 ≤ Rd8 g k 0 ∧ Rd8 g k 0 < 256 ^ k
  | 0 => by simp [Rd8]
  | k + 1 => by
    have h := Rd8_bd hg k
    simp only [Rd8]
    rw [Rd8_lin, Int.zero_mul, Int.zero_add, Int.pow_succ]
    have h1 := hg k
    have h2 := pow256 k
    have h3 : 0 ≤ g k * 256 ^ k := Int.mul_nonneg h1.1 (by omega)
    have h4 : g k * 256 ^ k ≤ 255 * 256 ^ k := Int.mul_le_mul_of_nonneg_right h1.2 (by omega)
    omega
theorem low_forN {f : Int → Int → Stp Int Empty} {g : Nat → Int} (hg : ∀ k, 0 ≤ g k ∧ g k ≤ 255) (hf : ∀ (k : Nat) a, f (k : Int) a = .next (bits .or .u64 (IntKind.wrap .u64 (a * 256)) (IntKind.wrap .u64 (g k)))) :
    ∀ (k : Nat) (a : Int), 0 ≤ a → (a + 1) * 256 ^ k ≤ 18446744073709551616 → forN f (-1) k ((k : Int) - 1) a = .next (Rd8 g k a)
  | 0, a, _, _ => rfl
  | k + 1, a, h0, h1 => by
    have hp := pow256 k
    rw [Int.pow_succ, Int.mul_comm (256 ^ k) 256, ← Int.mul_assoc] at h1
    have h2 : (a + 1) * 256 * 1 ≤ (a + 1) * 256 * 256 ^ k := Int.mul_le_mul_of_nonneg_left hp (by omega)
    have h3 := hg k
    simp only [forN, Rd8]
    rw [show ((k + 1 : Nat) : Int) - 1 = (k : Int) by omega, hf, or8 a (g k) h0 (by omega) h3.1 (by omega)]
    simp only [Stp.elim]
    rw [show (k : Int) + -1 = (k : Int) - 1 by omega]
    refine low_forN hg hf k _ (by omega) ?_
    have h4 : (a * 256 + g k + 1) * 256 ^ k ≤ (a + 1) * 256 * 256 ^ k := Int.mul_le_mul_of_nonneg_right (by omega) (by omega)
    omega
theorem byteAt_le (s : Bytes) (k : Nat) : 0 ≤ byteAt s k ∧ byteAt s k ≤ 255 := byteAt_rng s k
theorem l10Low_eq (s : Bytes) (h : s.length ≤ 8) : s_l10Low s = Rd8 (byteAt s) s.length 0 := by
  unfold s_l10Low
  rw [wrap64 (by omega) (by omega)]
  rw [show Int.toNat ((s.length : Int) - 1 - 0 + 1) = s.length by omega]
  rw [low_forN (g := byteAt s) (byteAt_le s) (fun k a => rfl) s.length 0 (by omega) ?_]
  · rfl
  · have : ∀ k : Nat, k ≤ 8 → (0 + 1 : Int) * 256 ^ k ≤ 18446744073709551616 := by decide
    exact this _ h
theorem little_eq (l : List Int) (h : ∀ k, 0 ≤ l.getD k 0 ∧ l.getD k 0 ≤ 255) : i_little l = Rd8 (fun k => l.getD k 0) 8 0 := by
  unfold i_little
  rw [show Int.toNat (7 - 0 + 1) = 8 from rfl, show (7 : Int) = ((8 : Nat) : Int) - 1 from rfl]
  rw [low_forN (g := fun k => l.getD k 0) h (fun k a => rfl) 8 0 (by omega) (by decide)]
  rfl

theorem q_SipWord (x : Sipr) (m : Int) : s_SipWord x m = i_SipWord x m := by
  simp only [s_SipWord, i_SipWord, q_SipRound]
theorem q_SipStart (k l : Int) : s_SipStart k l = i_SipStart k l := by simp only [s_SipStart, i_SipStart]
theorem q_SipEnd (x : Sipr) : s_SipEnd x = i_SipEnd x := by
  simp only [s_SipEnd, i_SipEnd, q_SipRound, show Int.toNat (4 - 0) = 4 from rfl, forN, i_SipEnd_L0_f, letK, Stp.elim]

theorem whileN_sim {A B W W' : Type} [Inhabited W] [Inhabited W'] {f : A → Stp A W} {g : B → Stp B W'} {R : A → B → Prop} {Q : W → W' → Prop} {ma : A → Nat} {mb : B → Nat}
    (h : ∀ a b, R a b → (∃ a' b', f a = .next a' ∧ g b = .next b' ∧ R a' b' ∧ ma a' < ma a ∧ mb b' < mb b) ∨ (∃ w w', f a = .out w ∧ g b = .out w' ∧ Q w w')) :
    ∀ (m m' : Nat) (a : A) (b : B), ma a < m → mb b < m' → R a b → Q (whileN f m a) (whileN g m' b)
  | 0, _, _, _, h1, _, _ => absurd h1 (Nat.not_lt_zero _)
  | _ + 1, 0, _, _, _, h2, _ => absurd h2 (Nat.not_lt_zero _)
  | m + 1, m' + 1, a, b, h1, h2, hr => by
    rcases h a b hr with ⟨a', b', e1, e2, hr', l1, l2⟩ | ⟨w, w', e1, e2, hq⟩
    · simp only [whileN, e1, e2, Stp.elim]
      exact whileN_sim h m m' a' b' (by omega) (by omega) hr'
    · simp only [whileN, e1, e2, Stp.elim]
      exact hq
theorem Rd8_succ {g : Nat → Int} (k : Nat) (a : Int) : Rd8 g (k + 1) a = Rd8 g k (a * 256 + g k) := rfl
theorem gset_len {α : Type} {xs : List α} {j : Nat} (h : j < xs.length) (v z : α) : (xs.set j v).getD j z = v := by
  simp [List.getD, List.getElem?_set, h]
theorem toInts_getD (s : Bytes) (k : Nat) : (toInts s).getD k 0 = byteAt s k := by
  simp only [toInts, byteAt, List.getD, List.getElem?_map]
  cases s[k]? <;> rfl
theorem byteAt_drop (s : Bytes) (n k : Nat) : byteAt (s.drop n) k = byteAt s (n + k) := by
  simp only [byteAt, List.getD, List.getElem?_drop]
theorem byteAt_take (s : Bytes) (n k : Nat) (h : k < n) : byteAt (s.take n) k = byteAt s k := by
  simp only [byteAt, List.getD, List.getElem?_take, if_pos h]
theorem byteAt_over (s : Bytes) (k : Nat) (h : s.length ≤ k) : byteAt s k = 0 := by
  simp [byteAt, List.getD, h]
theorem Rd8_pad {g : Nat → Int} (r : Nat) : ∀ (m : Nat), (∀ j, r ≤ j → j < r + m → g j = 0) → Rd8 g (r + m) 0 = Rd8 g r 0
  | 0, _ => rfl
  | m + 1, h => by
    rw [show r + (m + 1) = (r + m) + 1 from rfl]
    simp only [Rd8]
    rw [h (r + m) (by omega) (by omega)]
    exact Rd8_pad r m fun j h1 h2 => h j h1 (by omega)
theorem bits_or_comm (k : IntKind) (a b : Int) : bits .or k a b = bits .or k b a := by
  simp only [bits, BitVec.or_comm]
def SipR (x : Bytes) (a : Int × Int × Int × Int × Int) (b : List Int × Int × Int × Int × Int) : Prop := 0 ≤ a.1 ∧ a.1 ≤ x.length ∧ b.1 = toInts (x.drop a.1.toNat) ∧ a.2 = b.2
theorem toInts_drop (s : Bytes) (n : Nat) : (toInts s).drop n = toInts (s.drop n) := by simp [toInts]
theorem Sip_loops (x : Bytes) (hx : x.length ≤ 4294967296) (z : Sipr) : SipR x (s_SipHash_L0_w x (x.length : Int) 0 z.a z.b z.c z.d) (i_SipHash_L0_w x (toInts x) z.a z.b z.c z.d) ∧ (x.length : Int) < (s_SipHash_L0_w x (x.length : Int) 0 z.a z.b z.c z.d).1 + 8 := by
    unfold s_SipHash_L0_w i_SipHash_L0_w
    refine whileN_sim (R := SipR x) (Q := fun w w' => SipR x w w' ∧ (x.length : Int) < w.1 + 8) (ma := fun a => Int.toNat ((x.length : Int) - a.1)) (mb := fun b => b.1.length) ?_ _ _ _ _ ?_ ?_ ?_
    · intro a b hr
      obtain ⟨h1, h2, h3, h4⟩ := hr
      have hb : (b.1.length : Int) = (x.length : Int) - a.1 := by rw [h3, toInts_length, List.length_drop]; omega
      unfold s_SipHash_L0_f i_SipHash_L0_f
      rw [wrap64 (by omega) (by omega)]
      cases hd : decide (a.1 + 8 ≤ (x.length : Int)) with
      | true =>
        simp only [decide_eq_true_eq] at hd
        rw [show decide (8 ≤ (b.1.length : Int)) = true by simp only [decide_eq_true_eq]; omega]
        refine .inl ⟨_, _, rfl, rfl, ⟨?_, ?_, ?_, ?_⟩, ?_, ?_⟩
        · simp only []; omega
        · simp only []; omega
        · simp only []
          rw [toNat_cast, List.take_length, h3, toInts_drop, List.drop_drop, show (a.1 + 8).toNat = a.1.toNat + 8 by omega]
        · have e : s_l10Low ((x.take (a.1 + 8).toNat).drop a.1.toNat) = i_little b.1 := by
            have hl : ((x.take (a.1 + 8).toNat).drop a.1.toNat).length = 8 := by rw [List.length_drop, List.length_take]; omega
            rw [l10Low_eq _ (by omega), hl, little_eq _ (fun k => by rw [h3, toInts_getD]; exact byteAt_le _ _)]
            refine Rd8_congr 8 0 fun j hj => ?_
            rw [h3, toInts_getD, byteAt_drop, byteAt_drop, byteAt_take _ _ _ (by omega)]
          simp only [letK, e, h4]
          rw [q_SipWord]
        · simp only []; omega
        · simp only [toNat_cast, List.take_length, List.length_drop]; omega
      | false =>
        simp only [decide_eq_false_iff_not] at hd
        rw [show decide (8 ≤ (b.1.length : Int)) = false by simp only [decide_eq_false_iff_not]; omega]
        exact .inr ⟨_, _, rfl, rfl, ⟨h1, h2, h3, h4⟩, by show (x.length : Int) < a.1 + 8; omega⟩
    · exact Nat.lt_succ_self _
    · exact Nat.lt_succ_self _
    · exact ⟨by simp, by simp, by simp, rfl⟩
theorem Sip_last (x : Bytes) (hx : x.length ≤ 4294967296) (p : Int) (q : List Int) (h1 : 0 ≤ p) (h2 : p ≤ x.length) (h3 : q = toInts (x.drop p.toNat)) (h5 : (x.length : Int) < p + 8) :
    bits .or .u64 (s_l10Low (x.drop p.toNat)) (IntKind.wrap .u64 ((IntKind.wrap .u64 ((x.length : Int).tmod 256)) * 72057594037927936)) = i_little ((q ++ (List.replicate 8 0).drop q.length).set 7 (IntKind.wrap .u8 (x.length : Int))) := by
  have hl : (x.drop p.toNat).length = x.length - p.toNat := by simp
  have hq : q.length = x.length - p.toNat := by rw [h3, toInts_length, hl]
  generalize hy : x.drop p.toNat = y at h3 hl
  have hy8 : y.length ≤ 7 := by omega
  rw [l10Low_eq y (by omega)]
  have hb7 : IntKind.u8.wrap (x.length : Int) = (x.length : Int) % 256 := wrap8_def _
  have hm : IntKind.u64.wrap ((x.length : Int).tmod 256) = (x.length : Int) % 256 := by
    rw [(tmod_pos 256).1 (by omega), wraps_u64 _ (by omega) (by omega)]
  rw [hb7, hm]
  have hg : ∀ k, ((q ++ (List.replicate 8 (0 : Int)).drop q.length).set 7 ((x.length : Int) % 256)).getD k 0 = if k = 7 then (x.length : Int) % 256 else byteAt y k := by
    intro k
    by_cases e : k = 7
    · subst e
      rw [if_pos rfl]
      exact gset_len (by simp; omega) _ _
    · rw [if_neg e, List.getD, List.getElem?_set_ne (by omega)]
      by_cases hk : k < q.length
      · rw [List.getElem?_append_left hk, h3, ← List.getD_eq_getElem?_getD, toInts_getD]
      · rw [List.getElem?_append_right (by omega), List.getElem?_drop, List.getElem?_replicate, byteAt_over y k (by omega)]
        split <;> rfl
  rw [little_eq _ (fun k => by
    rw [hg]
    split
    · omega
    · exact byteAt_le _ _)]
  have hbd := Rd8_bd (g := byteAt y) (byteAt_le y) y.length
  have hp7 : (256 : Int) ^ y.length ≤ 72057594037927936 := by
    have : ∀ k : Nat, k ≤ 7 → (256 : Int) ^ k ≤ 72057594037927936 := by decide
    exact this _ hy8
  have e1 : Rd8 (fun k => ((q ++ (List.replicate 8 (0 : Int)).drop q.length).set 7 ((x.length : Int) % 256)).getD k 0) 8 0 = ((x.length : Int) % 256) * 72057594037927936 + Rd8 (byteAt y) y.length 0 := by
    refine (Rd8_succ 7 0).trans ?_
    rw [hg 7, if_pos rfl, Rd8_lin, Int.zero_mul, Int.zero_add, show (256 : Int) ^ 7 = 72057594037927936 from rfl]
    congr 1
    rw [Rd8_congr 7 0 (h := byteAt y) fun j hj => by rw [hg, if_neg (by omega)]]
    have := Rd8_pad (g := byteAt y) y.length (7 - y.length) fun j h1 _ => byteAt_over y j h1
    rw [show y.length + (7 - y.length) = 7 by omega] at this
    exact this
  rw [e1, bits_or_comm, wraps_u64 ((x.length : Int) % 256 * 72057594037927936) (by omega) (by omega)]
  exact bits_join .u64 64 (by decide) wraps_u64 56 _ _ (by omega) (by omega) (by omega) (by omega) (by omega) (by omega)
theorem s_SipHash_eq (k l : Int) (x : Bytes) : s_SipHash k l x = (fun p : Int × Int × Int × Int × Int => s_SipEnd (s_SipWord ⟨p.2.1, p.2.2.1, p.2.2.2.1, p.2.2.2.2⟩ (bits .or .u64 (s_l10Low ((x.take ((x.length : Int).toNat)).drop p.1.toNat)) (IntKind.wrap .u64 ((IntKind.wrap .u64 ((x.length : Int).tmod 256)) * 72057594037927936))))) (s_SipHash_L0_w x (x.length : Int) 0 (s_SipStart k l).a (s_SipStart k l).b (s_SipStart k l).c (s_SipStart k l).d) := by
  unfold s_SipHash
  simp only [letK_eq]
theorem i_SipHash_eq (k l : Int) (x : Bytes) : i_SipHash k l x = (fun p : List Int × Int × Int × Int × Int => i_SipEnd (i_SipWord ⟨p.2.1, p.2.2.1, p.2.2.2.1, p.2.2.2.2⟩ (i_little (((p.1.take 8) ++ (List.replicate 8 0).drop (p.1.take 8).length).set 7 (IntKind.wrap .u8 (x.length : Int)))))) (i_SipHash_L0_w x (toInts x) (i_SipStart k l).a (i_SipStart k l).b (i_SipStart k l).c (i_SipStart k l).d) := by
  unfold i_SipHash
  simp only [letK_eq, List.length_replicate]
theorem q_SipHash (k l : Int) (x : Bytes) (hx : x.length ≤ 4294967296) : s_SipHash k l x = i_SipHash k l x := by
  rw [s_SipHash_eq, i_SipHash_eq, q_SipStart]
  generalize i_SipStart k l = z
  have key := Sip_loops x hx z
  generalize s_SipHash_L0_w x (x.length : Int) 0 z.a z.b z.c z.d = p at key
  generalize i_SipHash_L0_w x (toInts x) z.a z.b z.c z.d = q at key
  obtain ⟨⟨h1, h2, h3, h4⟩, h5⟩ := key
  have hq : q.1.length = x.length - p.1.toNat := by rw [h3, toInts_length, List.length_drop]
  have ht : q.1.take 8 = q.1 := List.take_of_length_le (by omega)
  simp only [ht, h4]
  rw [q_SipEnd, q_SipWord, show ((x.take (x.length : Int).toNat).drop p.1.toNat) = x.drop p.1.toNat by rw [toNat_cast, List.take_length]]
  rw [Sip_last x hx p.1 q.1 h1 h2 h3 h5]

theorem q_MacOf (m : Mac) (x : Bytes) (hx : x.length ≤ 4294967296) : s_MacOf m x = i_MacOf m x := by
  unfold s_MacOf i_MacOf
  rw [q_SipHash _ _ _ hx]
  rw [show forN (s_MacOf_L0_f x m.use m.k m.l m.rows) 1 (Int.toNat ((m.rows.length : Int) - 0)) 0 () = forN (i_MacOf_L0_f x m.rows (m.rows.length : Int)) 1 (Int.toNat ((m.rows.length : Int) - 0)) 0 () from forN_congr (fun i a => by
    unfold s_MacOf_L0_f i_MacOf_L0_f
    generalize (m.rows.getD i.toNat (Ty.zero .macRow)) = r
    cases (r.input == x) with
    | false => rfl
    | true =>
      simp only [cond_true, letK_eq]
      have h1 := tmod_pos (a := r.value) 16777216
      rcases Int.lt_or_le r.value 0 with h | h
      · have e := h1.2 h
        generalize r.value.tmod 16777216 = t at e
        rw [wrap64 (by omega) (by omega)]
        cases hd : decide (t < 0) with
        | true => simp only [decide_eq_true_eq] at hd; simp only [cond_true]; rw [(tmod_pos 16777216).1 (by omega), Int.emod_eq_of_lt (by omega) (by omega)]
        | false => simp only [decide_eq_false_iff_not] at hd; simp only [cond_false]; rw [(tmod_pos 16777216).1 (by omega), show t = 0 by omega]; rfl
      · have e := h1.1 h
        generalize r.value.tmod 16777216 = t at e
        rw [wrap64 (by omega) (by omega)]
        cases hd : decide (t < 0) with
        | true => simp only [decide_eq_true_eq] at hd; omega
        | false => simp only [cond_false]; rw [(tmod_pos 16777216).1 (by omega)]; congr 1; omega) _ _ _]

theorem PutWord_len (n b : Int) : (i_PutWord n b).length ≤ 6 := i_PutWord_len n b
theorem MacInput_len (t : Tupl) (a b c : Int) : (i_MacInput t a b c).length ≤ 36 := by
  have h : ∀ n b, (i_PutWord n b).length ≤ 6 := PutWord_len
  unfold i_MacInput
  simp only [letK_eq]
  cases i_TupleOk t <;> cases i_WordOk a 32 <;> cases i_WordOk b 32 <;> cases i_within c 0 7 <;> simp only [Bool.not_true, Bool.not_false, cond_true, cond_false, List.length_nil] <;> try omega
  have h1 := h t.ip 4
  have h2 := h t.port 2
  have h3 := h t.my 2
  have h4 := h a 4
  have h5 := h b 4
  have h6 := h c 1
  simp only [List.length_append]
  omega
theorem q_CookieOf (m : Mac) (t : Tupl) (a b c : Int) : s_CookieOf m t a b c = i_CookieOf m t a b c := by
  unfold s_CookieOf i_CookieOf
  rw [q_MacInput]
  have := MacInput_len t a b c
  generalize i_MacInput t a b c = x at *
  simp only [letK_eq, q_MacOf m x (by omega)]
theorem q_SecretOf (k : Keys) (e : Int) : s_SecretOf k e = i_SecretOf k e := by
  unfold s_SecretOf i_SecretOf
  simp only [s_l11Copy, i_cloneMac, g_Clone_MacRow, letK_eq, List.nil_append]

theorem cc_loop (f : Int → Unit → Stp Unit (Int ⊕ Unit)) (g : Int → Unit → Stp Unit Int) (E : Int) (h0 : 0 ≤ E) (h1 : E ≤ 4294967295)
    (hfg : ∀ e, E - 1 ≤ e → f e () = Stp.elim (fun _ => .next ()) (fun w => .out (.inl w)) (g e ())) (hend : ∀ e, e < E - 1 → f e () = .out (.inr ())) (i : Int) :
    Stp.elim (fun _ => ((0 : Int), (0 : Int), false)) (Sum.elim (fun p => (p, i, true)) (fun _ => (0, 0, false))) (forN f (-1) (Int.toNat (E - 0 + 1)) E ()) =
    Stp.elim (fun _ => (0, 0, false)) (fun p => (p, i, true)) (forN g (-1) (Int.toNat (E - (if 0 < (IntKind.wrap .i64 (E - 1)) then (IntKind.wrap .i64 (E - 1)) else 0) + 1)) E ()) := by
  rw [wrap64 (by omega) (by omega)]
  rcases (show E = 0 ∨ E = 1 ∨ 2 ≤ E by omega) with rfl | rfl | h
  · rw [if_neg (by omega), show Int.toNat (0 - 0 + 1) = 1 from rfl]
    simp only [forN, hfg 0 (by omega)]
    cases g 0 () <;> rfl
  · rw [if_neg (by omega), show Int.toNat (1 - 0 + 1) = 2 from rfl]
    simp only [forN, hfg 1 (by omega), show (1 : Int) + -1 = 0 from rfl, hfg 0 (by omega)]
    cases g 1 () with
    | out w => rfl
    | next a => simp only [Stp.elim]; cases g 0 () <;> rfl
  · rw [if_pos (by omega), show Int.toNat (E - (E - 1) + 1) = 2 by omega]
    obtain ⟨m, hm⟩ : ∃ m : Nat, Int.toNat (E - 0 + 1) = m + 3 := ⟨Int.toNat (E - 2), by omega⟩
    rw [hm]
    simp only [forN, hfg E (by omega), hfg (E + -1) (by omega), hend (E + -1 + -1) (by omega)]
    cases g E () with
    | out w => rfl
    | next a => simp only [Stp.elim]; cases g (E + -1) () <;> rfl
theorem CookieParts_neg (x : Int) : decide ((i_CookieParts x).2.1 < 0) = !i_WordOk x 32 := by
  unfold i_CookieParts
  simp only [letK_eq, WordOk32]
  cases hd : (decide (0 ≤ x) && decide (x ≤ 4294967295)) with
  | false => rfl
  | true =>
    simp only [Bool.and_eq_true, decide_eq_true_eq] at hd
    simp only [Bool.not_true, cond_false]
    rw [(tdiv_pos 16777216).1 hd.1, wrap64 (by omega) (by omega), (tmod_pos 8).1 (by omega)]
    simp only [decide_eq_false_iff_not]
    omega
theorem KeysOk_epoch (k : Keys) (h : i_KeysOk k = true) : 0 ≤ k.epoch ∧ k.epoch ≤ 4294967295 := by
  rw [← q_KeysOk] at h
  unfold s_KeysOk at h
  simp only [q_WordOk, WordOk32, letK_eq] at h
  revert h
  cases hd : (decide (0 ≤ k.epoch) && decide (k.epoch ≤ 4294967295)) with
  | false => intro h; cases h
  | true => intro _; simpa using hd
theorem q_CheckCookie (k : Keys) (t : Tupl) (a b : Int) : s_CheckCookie k t a b = i_CheckCookie k t a b := by
  unfold s_CheckCookie i_CheckCookie
  simp only [letK_eq, q_KeysOk, q_CookieParts, CookieParts_neg]
  cases hk : i_KeysOk k with
  | false => rfl
  | true =>
    simp only [Bool.not_true, cond_false]
    cases i_WordOk b 32 with
    | false => rfl
    | true =>
      simp only [Bool.not_true, cond_false]
      have he := KeysOk_epoch k hk
      refine cc_loop _ _ k.epoch he.1 he.2 (fun e h => ?_) (fun e h => ?_) _
      · unfold s_CheckCookie_L0_f i_CheckCookie_L0_f
        rw [wrap64 (by omega) (by omega)]
        simp only [letK_eq, q_SecretOf, q_CookieOf, decide_eq_true h, cond_true]
        cases (i_SecretOf k e).2 with
        | false => rfl
        | true =>
          simp only [cond_true]
          cases (i_CookieOf (i_SecretOf k e).1 t a e (i_CookieParts b).2.1 == b) <;> rfl
      · unfold s_CheckCookie_L0_f
        rw [wrap64 (by omega) (by omega)]
        simp only [decide_eq_false (show ¬ (k.epoch - 1 ≤ e) by omega), cond_false]

def hitP (k : Keys) (x : Issu) : Bool := (i_CheckCookie k x.tuple x.seq x.cookie).2.2
theorem i_HitBy_any (k : Keys) (xs : List Issu) : i_HitBy k xs = xs.any (hitP k) := by
  unfold i_HitBy g_ContainsFunc_Issue_i_HitBy_1 g_IndexFunc_Issue_i_HitBy_1
  rw [toNat_sub0, forN_list xs _ rfl (F := fun j y a => bif hitP k y then .out (j : Int) else .next ()) (by
    intro j y a h
    simp only [g_IndexFunc_Issue_i_HitBy_1_L0_f, letK_eq, i_HitBy_1, toNat_cast, getD_some h, hitP])]
  rw [listN_find (w := fun j _ => (j : Int))]
  simp only [letK_eq]
  cases h : xs.findIdx? (hitP k) with
  | none =>
    rw [List.findIdx?_eq_none_iff] at h
    simp only [Stp.elim]
    symm
    show xs.any (hitP k) = false
    rw [List.any_eq_false]
    intro x hx
    simp [h x hx]
  | some i =>
    obtain ⟨h1, h2, _⟩ := List.findIdx?_eq_some_iff_getElem.1 h
    simp only [List.getElem?_eq_getElem h1, Stp.elim]
    symm
    have : xs.any (hitP k) = true := by rw [List.any_eq_true]; exact ⟨xs[i], List.getElem_mem h1, h2⟩
    rw [this]
    simp
theorem s_HitBy_any (k : Keys) (xs : List Issu) : s_HitBy k xs = xs.any (hitP k) := by
  unfold s_HitBy
  rw [toNat_sub0, forN_list xs _ rfl (F := fun j y a => bif hitP k y then .out () else .next ()) (by
    intro j y a h
    simp only [s_HitBy_L0_f, letK_eq, q_CheckCookie, toNat_cast, getD_some h, hitP])]
  rw [listN_find (w := fun j _ => ())]
  cases h : xs.findIdx? (hitP k) with
  | none =>
    rw [List.findIdx?_eq_none_iff] at h
    simp only [Stp.elim]
    symm
    rw [List.any_eq_false]
    intro x hx
    simp [h x hx]
  | some i =>
    obtain ⟨h1, h2, _⟩ := List.findIdx?_eq_some_iff_getElem.1 h
    simp only [List.getElem?_eq_getElem h1, Stp.elim]
    symm
    rw [List.any_eq_true]; exact ⟨xs[i], List.getElem_mem h1, h2⟩
theorem q_HitBy (k : Keys) (xs : List Issu) : s_HitBy k xs = i_HitBy k xs := by rw [s_HitBy_any, i_HitBy_any]

theorem t_FnHit (x : List Int) : w_FnHit x = true := by
  unfold w_FnHit
  simp only [letK_eq, q_HitBy, i_HitBy_any, beq_self_eq_true, Bool.not_true, cond_false, List.drop_zero, toNat_cast, List.take_length]
  cases w_big x with
  | true => rfl
  | false =>
    simp only [cond_false]
    generalize (Int.tmod _ _).toNat = n
    generalize s_DrawHitBy x = d
    have e : d.2.any (hitP d.1) = ((d.2.take n).any (hitP d.1) || (d.2.drop n).any (hitP d.1)) := by
      rw [← List.any_append, List.take_append_drop]
    rw [e]
    cases (d.2.take n).any (hitP d.1) <;> simp

end Go.Proofs.Ytbikbonhcfbmeaa
