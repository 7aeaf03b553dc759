/-
  Contracts of functions and plain laws (printed by a program): each theorem says what a function of the program returns; conditions are its hypotheses.
-/
import Derived.Test.YtbikbonhcfbmeaaD1
set_option maxRecDepth 4000
set_option linter.unusedVariables false
set_option linter.unusedSimpArgs false
namespace Go.Proofs.Ytbikbonhcfbmeaa
open Go Go.RowKit

/-- spec.l1Whole -/
def s_l1Whole_N (y0 : Curs) (γ : Type) (fail : γ) (k : Int × Curs → γ) : γ :=
  bif (decide (0 ≤ y0.i ∧ y0.b.length ≤ 1048576)) then
  letK (α := Int × Curs) (s_l1Below y0 3) fun c1 =>
  bif (c1.1 == 0) then
    bif (decide ((0 ≤ c1.2.i ∧ c1.2.b.length ≤ 1048576) ∧ 0 < ([0, 1, (-1), 9, 10, 999999999999, 1000000000000, 9223372036854775807, 4294967295, 4294967296, 65535, 65536, (-9223372036854775808)] : List Int).length)) then
    letK (α := Int × Curs) (s_l1PickInt c1.2 [0, 1, (-1), 9, 10, 999999999999, 1000000000000, 9223372036854775807, 4294967295, 4294967296, 65535, 65536, (-9223372036854775808)]) fun c2 =>
    k (c2.1, c2.2)
    else fail
  else
  bif (c1.1 == 1) then
    bif (decide (0 ≤ c1.2.i ∧ c1.2.b.length ≤ 1048576)) then
    letK (α := Int × Curs) (s_l1Below c1.2 1000000) fun c3 =>
    k ((IntKind.wrap .i64 (c3.1 - 500000)), c3.2)
    else fail
  else
  bif (decide (0 ≤ c1.2.i ∧ c1.2.b.length ≤ 1048576)) then
  letK (α := Int × Curs) (s_l1Below c1.2 20) fun c4 =>
  k (c4.1, c4.2)
  else fail
  else fail
def s_l1Whole (y0 : Curs) : Int × Curs :=
  letK (α := Int × Curs) (s_l1Below y0 3) fun c1 =>
  bif (c1.1 == 0) then
    letK (α := Int × Curs) (s_l1PickInt c1.2 [0, 1, (-1), 9, 10, 999999999999, 1000000000000, 9223372036854775807, 4294967295, 4294967296, 65535, 65536, (-9223372036854775808)]) fun c2 =>
    (c2.1, c2.2)
  else
  bif (c1.1 == 1) then
    letK (α := Int × Curs) (s_l1Below c1.2 1000000) fun c3 =>
    ((IntKind.wrap .i64 (c3.1 - 500000)), c3.2)
  else
  letK (α := Int × Curs) (s_l1Below c1.2 20) fun c4 =>
  (c4.1, c4.2)
theorem s_l1Whole_lk (y0 : Curs) : evalFnM te (orcOf (P := Try.prog) [s_l1Below_e, s_l1PickInt_e]) lorc0 [] Try.f146 (pvs [.wr false [.ptr 0]] ((), ())) (mos [.box [.c (.sl .u8), .c (.int .i64), .c (.int .i64)]] ((y0.b, y0.i, y0.h, ()), ())) =
  s_l1Whole_N y0 _ none (fun v => some ([(false, [RC.c (.int .i64 v.1)])] ++ (mos [.box [.c (.sl .u8), .c (.int .i64), .c (.int .i64)]] ((v.2.b, v.2.i, v.2.h, ()), ())).map encO)) := by kernel_rfl
theorem s_l1Whole_p (y0 : Curs) (hy0_b : y0.b.length ≤ 140737488355328) (hy0_i : inK .i64 y0.i) (hy0_h : inK .i64 y0.h) (hp : 0 ≤ y0.i ∧ y0.b.length ≤ 1048576) (γ : Type) (fail : γ) (k : Int × Curs → γ) : s_l1Whole_N y0 γ fail k = k (s_l1Whole y0) := by
  unfold s_l1Whole_N s_l1Whole
  exact bifG (by (try simp only [Nat.ble_eq, Bool.and_eq_true, decide_eq_true_eq]); grind [maxSl, maxStr, toBytes_length, toInts_length, List.length_set, wrap64, s_l1Below_rng, s_l1Below_cur, s_l1PickInt_cur]) (letT (f := k) (fun c1 hc1 => have rc1 := s_l1Below_rng y0 3 (by first | assumption | exact ⟨by assumption, by assumption⟩ | grind [maxSl, wrap64]); have kc1 : 0 ≤ c1.2.i ∧ c1.2.b.length ≤ 1048576 := (by rw [hc1]; exact s_l1Below_cur _ _ (by first | assumption | exact ⟨by assumption, by assumption⟩ | grind [maxSl, wrap64])); bifT (f := k) (fun b0 => bifG (by (try simp only [Nat.ble_eq, Bool.and_eq_true, decide_eq_true_eq]); grind [maxSl, maxStr, toBytes_length, toInts_length, List.length_set, wrap64, s_l1Below_rng, s_l1Below_cur, s_l1PickInt_cur]) (letT (f := k) (fun c2 hc2 => have kc2 : 0 ≤ c2.2.i ∧ c2.2.b.length ≤ 1048576 := (by rw [hc2]; exact s_l1PickInt_cur _ _ (by first | assumption | exact ⟨by assumption, by assumption⟩ | grind [maxSl, wrap64]) (by first | assumption | exact ⟨by assumption, by assumption⟩ | grind [maxSl, wrap64])); rfl)))
      (fun b0 => bifT (f := k) (fun b1 => bifG (by (try simp only [Nat.ble_eq, Bool.and_eq_true, decide_eq_true_eq]); grind [maxSl, maxStr, toBytes_length, toInts_length, List.length_set, wrap64, s_l1Below_rng, s_l1Below_cur, s_l1PickInt_cur]) (letT (f := k) (fun c3 hc3 => have rc3 := s_l1Below_rng c1.2 1000000 (by first | assumption | exact ⟨by assumption, by assumption⟩ | grind [maxSl, wrap64]); have kc3 : 0 ≤ c3.2.i ∧ c3.2.b.length ≤ 1048576 := (by rw [hc3]; exact s_l1Below_cur _ _ (by first | assumption | exact ⟨by assumption, by assumption⟩ | grind [maxSl, wrap64])); rfl)))
      (fun b1 => bifG (by (try simp only [Nat.ble_eq, Bool.and_eq_true, decide_eq_true_eq]); grind [maxSl, maxStr, toBytes_length, toInts_length, List.length_set, wrap64, s_l1Below_rng, s_l1Below_cur, s_l1PickInt_cur]) (letT (f := k) (fun c4 hc4 => have rc4 := s_l1Below_rng c1.2 20 (by first | assumption | exact ⟨by assumption, by assumption⟩ | grind [maxSl, wrap64]); have kc4 : 0 ≤ c4.2.i ∧ c4.2.b.length ≤ 1048576 := (by rw [hc4]; exact s_l1Below_cur _ _ (by first | assumption | exact ⟨by assumption, by assumption⟩ | grind [maxSl, wrap64])); rfl))))))
theorem s_l1Whole_c (y0 : Curs) (hp : 0 ≤ y0.i ∧ y0.b.length ≤ 1048576) : ConM Try.prog 146 (pvs [.wr false [.ptr 0]] ((), ())) (mos [.box [.c (.sl .u8), .c (.int .i64), .c (.int .i64)]] ((y0.b, y0.i, y0.h, ()), ())) [rv (.sc (.int .i64)) [] (s_l1Whole y0).1] (mos [.box [.c (.sl .u8), .c (.int .i64), .c (.int .i64)]] ((((s_l1Whole y0).2).b, ((s_l1Whole y0).2).i, ((s_l1Whole y0).2).h, ()), ())) := by
  refine ConM.of_facts (enters_of Try.func146 rfl (by kernel_rfl)) fun hf hg => ?_
  replace hf := factAt hf
  exact evalFn_conLM teFact mixFact (orcOf_ok _) Try.func146 (by kernel_rfl) (bs := []) (by kernel_rfl) (by kernel_rfl) (by kernel_rfl) rfl (fun w0 mo I0 hmo => trivial) ((s_l1Whole_lk y0).trans (s_l1Whole_p y0 ((mbAt hg 0 0 rfl rfl).len) ((mbAt hg 0 1 rfl rfl).rng) ((mbAt hg 0 2 rfl rfl).rng) hp _ _ _))
noncomputable def s_l1Whole_e : Ent1 Try.prog := entM 146 [.wr false [.ptr 0]] [.box [.c (.sl .u8), .c (.int .i64), .c (.int .i64)]] (fun x y => (decide (0 ≤ (⟨y.1.1, y.1.2.1, y.1.2.2.1⟩ : Curs).i ∧ (⟨y.1.1, y.1.2.1, y.1.2.2.1⟩ : Curs).b.length ≤ 1048576))) (fun x y => (s_l1Whole (⟨y.1.1, y.1.2.1, y.1.2.2.1⟩ : Curs))) (fun v => [rv (.sc (.int .i64)) [] v.1]) (fun x y v => (mos [.box [.c (.sl .u8), .c (.int .i64), .c (.int .i64)]] ((v.2.b, v.2.i, v.2.h, ()), ()))) (fun x y hx => s_l1Whole_c (⟨y.1.1, y.1.2.1, y.1.2.2.1⟩ : Curs) (of_decide_eq_true hx))

theorem s_l1Whole_cur (y0 : Curs)  (hc0 : 0 ≤ y0.i ∧ y0.b.length ≤ 1048576) : 0 ≤ (s_l1Whole y0).2.i ∧ (s_l1Whole y0).2.b.length ≤ 1048576 := by
  unfold s_l1Whole
  exact letP (P := (fun v : Int × Curs => 0 ≤ v.2.i ∧ v.2.b.length ≤ 1048576)) (fun c1 hc1 => have rc1 := s_l1Below_rng y0 3 (by first | assumption | exact ⟨by assumption, by assumption⟩ | grind [maxSl, wrap64]); have kc1 : 0 ≤ c1.2.i ∧ c1.2.b.length ≤ 1048576 := (by rw [hc1]; exact s_l1Below_cur _ _ (by first | assumption | exact ⟨by assumption, by assumption⟩ | grind [maxSl, wrap64])); bifP (P := (fun v : Int × Curs => 0 ≤ v.2.i ∧ v.2.b.length ≤ 1048576)) (fun b0 => letP (P := (fun v : Int × Curs => 0 ≤ v.2.i ∧ v.2.b.length ≤ 1048576)) (fun c2 hc2 => have kc2 : 0 ≤ c2.2.i ∧ c2.2.b.length ≤ 1048576 := (by rw [hc2]; exact s_l1PickInt_cur _ _ (by first | assumption | exact ⟨by assumption, by assumption⟩ | grind [maxSl, wrap64]) (by first | assumption | exact ⟨by assumption, by assumption⟩ | grind [maxSl, wrap64])); (by (try simp only [Nat.ble_eq, Bool.and_eq_true, decide_eq_true_eq]); grind [maxSl, maxStr, toBytes_length, toInts_length, List.length_set, wrap64, s_l1Below_rng, s_l1Below_cur, s_l1PickInt_cur])))
      (fun b0 => bifP (P := (fun v : Int × Curs => 0 ≤ v.2.i ∧ v.2.b.length ≤ 1048576)) (fun b1 => letP (P := (fun v : Int × Curs => 0 ≤ v.2.i ∧ v.2.b.length ≤ 1048576)) (fun c3 hc3 => have rc3 := s_l1Below_rng c1.2 1000000 (by first | assumption | exact ⟨by assumption, by assumption⟩ | grind [maxSl, wrap64]); have kc3 : 0 ≤ c3.2.i ∧ c3.2.b.length ≤ 1048576 := (by rw [hc3]; exact s_l1Below_cur _ _ (by first | assumption | exact ⟨by assumption, by assumption⟩ | grind [maxSl, wrap64])); (by (try simp only [Nat.ble_eq, Bool.and_eq_true, decide_eq_true_eq]); grind [maxSl, maxStr, toBytes_length, toInts_length, List.length_set, wrap64, s_l1Below_rng, s_l1Below_cur, s_l1PickInt_cur])))
      (fun b1 => letP (P := (fun v : Int × Curs => 0 ≤ v.2.i ∧ v.2.b.length ≤ 1048576)) (fun c4 hc4 => have rc4 := s_l1Below_rng c1.2 20 (by first | assumption | exact ⟨by assumption, by assumption⟩ | grind [maxSl, wrap64]); have kc4 : 0 ≤ c4.2.i ∧ c4.2.b.length ≤ 1048576 := (by rw [hc4]; exact s_l1Below_cur _ _ (by first | assumption | exact ⟨by assumption, by assumption⟩ | grind [maxSl, wrap64])); (by (try simp only [Nat.ble_eq, Bool.and_eq_true, decide_eq_true_eq]); grind [maxSl, maxStr, toBytes_length, toInts_length, List.length_set, wrap64, s_l1Below_rng, s_l1Below_cur, s_l1PickInt_cur])))))

/-- spec.l2Word -/
def s_l2Word_N (y0 : Curs) (γ : Type) (fail : γ) (k : Int × Curs → γ) : γ :=
  bif (decide (0 ≤ y0.i ∧ y0.b.length ≤ 1048576)) then
  letK (α := Int × Curs) (s_l1Below y0 3) fun c1 =>
  bif (c1.1 == 0) then
    bif (decide (0 ≤ c1.2.i ∧ c1.2.b.length ≤ 1048576)) then
    letK (α := Int × Curs) (s_l1Whole c1.2) fun c2 =>
    k (c2.1, c2.2)
    else fail
  else
  bif (c1.1 == 1) then
    bif (decide ((0 ≤ c1.2.i ∧ c1.2.b.length ≤ 1048576) ∧ 0 < ([0, 1, 255, 256, 65535, 65536, 16777215, 4294967295, 4294967296, 281474976710655, 281474976710656] : List Int).length)) then
    letK (α := Int × Curs) (s_l1PickInt c1.2 [0, 1, 255, 256, 65535, 65536, 16777215, 4294967295, 4294967296, 281474976710655, 281474976710656]) fun c3 =>
    k (c3.1, c3.2)
    else fail
  else
  bif (decide (0 ≤ c1.2.i ∧ c1.2.b.length ≤ 1048576)) then
  letK (α := Int × Curs) (s_l1Below c1.2 65536) fun c4 =>
  k (c4.1, c4.2)
  else fail
  else fail
def s_l2Word (y0 : Curs) : Int × Curs :=
  letK (α := Int × Curs) (s_l1Below y0 3) fun c1 =>
  bif (c1.1 == 0) then
    letK (α := Int × Curs) (s_l1Whole c1.2) fun c2 =>
    (c2.1, c2.2)
  else
  bif (c1.1 == 1) then
    letK (α := Int × Curs) (s_l1PickInt c1.2 [0, 1, 255, 256, 65535, 65536, 16777215, 4294967295, 4294967296, 281474976710655, 281474976710656]) fun c3 =>
    (c3.1, c3.2)
  else
  letK (α := Int × Curs) (s_l1Below c1.2 65536) fun c4 =>
  (c4.1, c4.2)
theorem s_l2Word_lk (y0 : Curs) : evalFnM te (orcOf (P := Try.prog) [s_l1Below_e, s_l1Whole_e, s_l1PickInt_e]) lorc0 [] Try.f95 (pvs [.wr false [.ptr 0]] ((), ())) (mos [.box [.c (.sl .u8), .c (.int .i64), .c (.int .i64)]] ((y0.b, y0.i, y0.h, ()), ())) =
  s_l2Word_N y0 _ none (fun v => some ([(false, [RC.c (.int .i64 v.1)])] ++ (mos [.box [.c (.sl .u8), .c (.int .i64), .c (.int .i64)]] ((v.2.b, v.2.i, v.2.h, ()), ())).map encO)) := by kernel_rfl
theorem s_l2Word_p (y0 : Curs) (hy0_b : y0.b.length ≤ 140737488355328) (hy0_i : inK .i64 y0.i) (hy0_h : inK .i64 y0.h) (hp : 0 ≤ y0.i ∧ y0.b.length ≤ 1048576) (γ : Type) (fail : γ) (k : Int × Curs → γ) : s_l2Word_N y0 γ fail k = k (s_l2Word y0) := by
  unfold s_l2Word_N s_l2Word
  exact bifG (by (try simp only [Nat.ble_eq, Bool.and_eq_true, decide_eq_true_eq]); grind [maxSl, maxStr, toBytes_length, toInts_length, List.length_set, wrap64, s_l1Below_rng, s_l1Below_cur, s_l1Whole_cur, s_l1PickInt_cur]) (letT (f := k) (fun c1 hc1 => have rc1 := s_l1Below_rng y0 3 (by first | assumption | exact ⟨by assumption, by assumption⟩ | grind [maxSl, wrap64]); have kc1 : 0 ≤ c1.2.i ∧ c1.2.b.length ≤ 1048576 := (by rw [hc1]; exact s_l1Below_cur _ _ (by first | assumption | exact ⟨by assumption, by assumption⟩ | grind [maxSl, wrap64])); bifT (f := k) (fun b0 => bifG (by (try simp only [Nat.ble_eq, Bool.and_eq_true, decide_eq_true_eq]); grind [maxSl, maxStr, toBytes_length, toInts_length, List.length_set, wrap64, s_l1Below_rng, s_l1Below_cur, s_l1Whole_cur, s_l1PickInt_cur]) (letT (f := k) (fun c2 hc2 => have kc2 : 0 ≤ c2.2.i ∧ c2.2.b.length ≤ 1048576 := (by rw [hc2]; exact s_l1Whole_cur _ (by first | assumption | exact ⟨by assumption, by assumption⟩ | grind [maxSl, wrap64])); rfl)))
      (fun b0 => bifT (f := k) (fun b1 => bifG (by (try simp only [Nat.ble_eq, Bool.and_eq_true, decide_eq_true_eq]); grind [maxSl, maxStr, toBytes_length, toInts_length, List.length_set, wrap64, s_l1Below_rng, s_l1Below_cur, s_l1Whole_cur, s_l1PickInt_cur]) (letT (f := k) (fun c3 hc3 => have kc3 : 0 ≤ c3.2.i ∧ c3.2.b.length ≤ 1048576 := (by rw [hc3]; exact s_l1PickInt_cur _ _ (by first | assumption | exact ⟨by assumption, by assumption⟩ | grind [maxSl, wrap64]) (by first | assumption | exact ⟨by assumption, by assumption⟩ | grind [maxSl, wrap64])); rfl)))
      (fun b1 => bifG (by (try simp only [Nat.ble_eq, Bool.and_eq_true, decide_eq_true_eq]); grind [maxSl, maxStr, toBytes_length, toInts_length, List.length_set, wrap64, s_l1Below_rng, s_l1Below_cur, s_l1Whole_cur, s_l1PickInt_cur]) (letT (f := k) (fun c4 hc4 => have rc4 := s_l1Below_rng c1.2 65536 (by first | assumption | exact ⟨by assumption, by assumption⟩ | grind [maxSl, wrap64]); have kc4 : 0 ≤ c4.2.i ∧ c4.2.b.length ≤ 1048576 := (by rw [hc4]; exact s_l1Below_cur _ _ (by first | assumption | exact ⟨by assumption, by assumption⟩ | grind [maxSl, wrap64])); rfl))))))
theorem s_l2Word_c (y0 : Curs) (hp : 0 ≤ y0.i ∧ y0.b.length ≤ 1048576) : ConM Try.prog 95 (pvs [.wr false [.ptr 0]] ((), ())) (mos [.box [.c (.sl .u8), .c (.int .i64), .c (.int .i64)]] ((y0.b, y0.i, y0.h, ()), ())) [rv (.sc (.int .i64)) [] (s_l2Word y0).1] (mos [.box [.c (.sl .u8), .c (.int .i64), .c (.int .i64)]] ((((s_l2Word y0).2).b, ((s_l2Word y0).2).i, ((s_l2Word y0).2).h, ()), ())) := by
  refine ConM.of_facts (enters_of Try.func95 rfl (by kernel_rfl)) fun hf hg => ?_
  replace hf := factAt hf
  exact evalFn_conLM teFact mixFact (orcOf_ok _) Try.func95 (by kernel_rfl) (bs := []) (by kernel_rfl) (by kernel_rfl) (by kernel_rfl) rfl (fun w0 mo I0 hmo => trivial) ((s_l2Word_lk y0).trans (s_l2Word_p y0 ((mbAt hg 0 0 rfl rfl).len) ((mbAt hg 0 1 rfl rfl).rng) ((mbAt hg 0 2 rfl rfl).rng) hp _ _ _))
noncomputable def s_l2Word_e : Ent1 Try.prog := entM 95 [.wr false [.ptr 0]] [.box [.c (.sl .u8), .c (.int .i64), .c (.int .i64)]] (fun x y => (decide (0 ≤ (⟨y.1.1, y.1.2.1, y.1.2.2.1⟩ : Curs).i ∧ (⟨y.1.1, y.1.2.1, y.1.2.2.1⟩ : Curs).b.length ≤ 1048576))) (fun x y => (s_l2Word (⟨y.1.1, y.1.2.1, y.1.2.2.1⟩ : Curs))) (fun v => [rv (.sc (.int .i64)) [] v.1]) (fun x y v => (mos [.box [.c (.sl .u8), .c (.int .i64), .c (.int .i64)]] ((v.2.b, v.2.i, v.2.h, ()), ()))) (fun x y hx => s_l2Word_c (⟨y.1.1, y.1.2.1, y.1.2.2.1⟩ : Curs) (of_decide_eq_true hx))

theorem s_l2Word_cur (y0 : Curs)  (hc0 : 0 ≤ y0.i ∧ y0.b.length ≤ 1048576) : 0 ≤ (s_l2Word y0).2.i ∧ (s_l2Word y0).2.b.length ≤ 1048576 := by
  unfold s_l2Word
  exact letP (P := (fun v : Int × Curs => 0 ≤ v.2.i ∧ v.2.b.length ≤ 1048576)) (fun c1 hc1 => have rc1 := s_l1Below_rng y0 3 (by first | assumption | exact ⟨by assumption, by assumption⟩ | grind [maxSl, wrap64]); have kc1 : 0 ≤ c1.2.i ∧ c1.2.b.length ≤ 1048576 := (by rw [hc1]; exact s_l1Below_cur _ _ (by first | assumption | exact ⟨by assumption, by assumption⟩ | grind [maxSl, wrap64])); bifP (P := (fun v : Int × Curs => 0 ≤ v.2.i ∧ v.2.b.length ≤ 1048576)) (fun b0 => letP (P := (fun v : Int × Curs => 0 ≤ v.2.i ∧ v.2.b.length ≤ 1048576)) (fun c2 hc2 => have kc2 : 0 ≤ c2.2.i ∧ c2.2.b.length ≤ 1048576 := (by rw [hc2]; exact s_l1Whole_cur _ (by first | assumption | exact ⟨by assumption, by assumption⟩ | grind [maxSl, wrap64])); (by (try simp only [Nat.ble_eq, Bool.and_eq_true, decide_eq_true_eq]); grind [maxSl, maxStr, toBytes_length, toInts_length, List.length_set, wrap64, s_l1Below_rng, s_l1Below_cur, s_l1Whole_cur, s_l1PickInt_cur])))
      (fun b0 => bifP (P := (fun v : Int × Curs => 0 ≤ v.2.i ∧ v.2.b.length ≤ 1048576)) (fun b1 => letP (P := (fun v : Int × Curs => 0 ≤ v.2.i ∧ v.2.b.length ≤ 1048576)) (fun c3 hc3 => have kc3 : 0 ≤ c3.2.i ∧ c3.2.b.length ≤ 1048576 := (by rw [hc3]; exact s_l1PickInt_cur _ _ (by first | assumption | exact ⟨by assumption, by assumption⟩ | grind [maxSl, wrap64]) (by first | assumption | exact ⟨by assumption, by assumption⟩ | grind [maxSl, wrap64])); (by (try simp only [Nat.ble_eq, Bool.and_eq_true, decide_eq_true_eq]); grind [maxSl, maxStr, toBytes_length, toInts_length, List.length_set, wrap64, s_l1Below_rng, s_l1Below_cur, s_l1Whole_cur, s_l1PickInt_cur])))
      (fun b1 => letP (P := (fun v : Int × Curs => 0 ≤ v.2.i ∧ v.2.b.length ≤ 1048576)) (fun c4 hc4 => have rc4 := s_l1Below_rng c1.2 65536 (by first | assumption | exact ⟨by assumption, by assumption⟩ | grind [maxSl, wrap64]); have kc4 : 0 ≤ c4.2.i ∧ c4.2.b.length ≤ 1048576 := (by rw [hc4]; exact s_l1Below_cur _ _ (by first | assumption | exact ⟨by assumption, by assumption⟩ | grind [maxSl, wrap64])); (by (try simp only [Nat.ble_eq, Bool.and_eq_true, decide_eq_true_eq]); grind [maxSl, maxStr, toBytes_length, toInts_length, List.length_set, wrap64, s_l1Below_rng, s_l1Below_cur, s_l1Whole_cur, s_l1PickInt_cur])))))

/-- spec.l4Place -/
def s_l4Place_N (y0 : Curs) (γ : Type) (fail : γ) (k : Int × Curs → γ) : γ :=
  bif (decide (0 ≤ y0.i ∧ y0.b.length ≤ 1048576)) then
  letK (α := Bool × Curs) (s_l1Once y0 12) fun c1 =>
  bif c1.1 then
    bif (decide (0 ≤ c1.2.i ∧ c1.2.b.length ≤ 1048576)) then
    letK (α := Int × Curs) (s_l1Whole c1.2) fun c2 =>
    k (c2.1, c2.2)
    else fail
  else
  bif (decide (0 ≤ c1.2.i ∧ c1.2.b.length ≤ 1048576)) then
  letK (α := Int × Curs) (s_l2Deep c1.2) fun c3 =>
  k (c3.1, c3.2)
  else fail
  else fail
def s_l4Place (y0 : Curs) : Int × Curs :=
  letK (α := Bool × Curs) (s_l1Once y0 12) fun c1 =>
  bif c1.1 then
    letK (α := Int × Curs) (s_l1Whole c1.2) fun c2 =>
    (c2.1, c2.2)
  else
  letK (α := Int × Curs) (s_l2Deep c1.2) fun c3 =>
  (c3.1, c3.2)
theorem s_l4Place_lk (y0 : Curs) : evalFnM te (orcOf (P := Try.prog) [s_l1Once_e, s_l1Whole_e, s_l2Deep_e]) lorc0 [] Try.f101 (pvs [.wr false [.ptr 0]] ((), ())) (mos [.box [.c (.sl .u8), .c (.int .i64), .c (.int .i64)]] ((y0.b, y0.i, y0.h, ()), ())) =
  s_l4Place_N y0 _ none (fun v => some ([(false, [RC.c (.int .i64 v.1)])] ++ (mos [.box [.c (.sl .u8), .c (.int .i64), .c (.int .i64)]] ((v.2.b, v.2.i, v.2.h, ()), ())).map encO)) := by kernel_rfl
theorem s_l4Place_p (y0 : Curs) (hy0_b : y0.b.length ≤ 140737488355328) (hy0_i : inK .i64 y0.i) (hy0_h : inK .i64 y0.h) (hp : 0 ≤ y0.i ∧ y0.b.length ≤ 1048576) (γ : Type) (fail : γ) (k : Int × Curs → γ) : s_l4Place_N y0 γ fail k = k (s_l4Place y0) := by
  unfold s_l4Place_N s_l4Place
  exact bifG (by (try simp only [Nat.ble_eq, Bool.and_eq_true, decide_eq_true_eq]); grind [maxSl, maxStr, toBytes_length, toInts_length, List.length_set, wrap64, s_l1Once_cur, s_l1Whole_cur, s_l2Deep_cur]) (letT (f := k) (fun c1 hc1 => have kc1 : 0 ≤ c1.2.i ∧ c1.2.b.length ≤ 1048576 := (by rw [hc1]; exact s_l1Once_cur _ _ (by first | assumption | exact ⟨by assumption, by assumption⟩ | grind [maxSl, wrap64])); bifT (f := k) (fun b0 => bifG (by (try simp only [Nat.ble_eq, Bool.and_eq_true, decide_eq_true_eq]); grind [maxSl, maxStr, toBytes_length, toInts_length, List.length_set, wrap64, s_l1Once_cur, s_l1Whole_cur, s_l2Deep_cur]) (letT (f := k) (fun c2 hc2 => have kc2 : 0 ≤ c2.2.i ∧ c2.2.b.length ≤ 1048576 := (by rw [hc2]; exact s_l1Whole_cur _ (by first | assumption | exact ⟨by assumption, by assumption⟩ | grind [maxSl, wrap64])); rfl)))
      (fun b0 => bifG (by (try simp only [Nat.ble_eq, Bool.and_eq_true, decide_eq_true_eq]); grind [maxSl, maxStr, toBytes_length, toInts_length, List.length_set, wrap64, s_l1Once_cur, s_l1Whole_cur, s_l2Deep_cur]) (letT (f := k) (fun c3 hc3 => have kc3 : 0 ≤ c3.2.i ∧ c3.2.b.length ≤ 1048576 := (by rw [hc3]; exact s_l2Deep_cur _ (by first | assumption | exact ⟨by assumption, by assumption⟩ | grind [maxSl, wrap64])); rfl)))))
theorem s_l4Place_c (y0 : Curs) (hp : 0 ≤ y0.i ∧ y0.b.length ≤ 1048576) : ConM Try.prog 101 (pvs [.wr false [.ptr 0]] ((), ())) (mos [.box [.c (.sl .u8), .c (.int .i64), .c (.int .i64)]] ((y0.b, y0.i, y0.h, ()), ())) [rv (.sc (.int .i64)) [] (s_l4Place y0).1] (mos [.box [.c (.sl .u8), .c (.int .i64), .c (.int .i64)]] ((((s_l4Place y0).2).b, ((s_l4Place y0).2).i, ((s_l4Place y0).2).h, ()), ())) := by
  refine ConM.of_facts (enters_of Try.func101 rfl (by kernel_rfl)) fun hf hg => ?_
  replace hf := factAt hf
  exact evalFn_conLM teFact mixFact (orcOf_ok _) Try.func101 (by kernel_rfl) (bs := []) (by kernel_rfl) (by kernel_rfl) (by kernel_rfl) rfl (fun w0 mo I0 hmo => trivial) ((s_l4Place_lk y0).trans (s_l4Place_p y0 ((mbAt hg 0 0 rfl rfl).len) ((mbAt hg 0 1 rfl rfl).rng) ((mbAt hg 0 2 rfl rfl).rng) hp _ _ _))
noncomputable def s_l4Place_e : Ent1 Try.prog := entM 101 [.wr false [.ptr 0]] [.box [.c (.sl .u8), .c (.int .i64), .c (.int .i64)]] (fun x y => (decide (0 ≤ (⟨y.1.1, y.1.2.1, y.1.2.2.1⟩ : Curs).i ∧ (⟨y.1.1, y.1.2.1, y.1.2.2.1⟩ : Curs).b.length ≤ 1048576))) (fun x y => (s_l4Place (⟨y.1.1, y.1.2.1, y.1.2.2.1⟩ : Curs))) (fun v => [rv (.sc (.int .i64)) [] v.1]) (fun x y v => (mos [.box [.c (.sl .u8), .c (.int .i64), .c (.int .i64)]] ((v.2.b, v.2.i, v.2.h, ()), ()))) (fun x y hx => s_l4Place_c (⟨y.1.1, y.1.2.1, y.1.2.2.1⟩ : Curs) (of_decide_eq_true hx))

theorem s_l4Place_cur (y0 : Curs)  (hc0 : 0 ≤ y0.i ∧ y0.b.length ≤ 1048576) : 0 ≤ (s_l4Place y0).2.i ∧ (s_l4Place y0).2.b.length ≤ 1048576 := by
  unfold s_l4Place
  exact letP (P := (fun v : Int × Curs => 0 ≤ v.2.i ∧ v.2.b.length ≤ 1048576)) (fun c1 hc1 => have kc1 : 0 ≤ c1.2.i ∧ c1.2.b.length ≤ 1048576 := (by rw [hc1]; exact s_l1Once_cur _ _ (by first | assumption | exact ⟨by assumption, by assumption⟩ | grind [maxSl, wrap64])); bifP (P := (fun v : Int × Curs => 0 ≤ v.2.i ∧ v.2.b.length ≤ 1048576)) (fun b0 => letP (P := (fun v : Int × Curs => 0 ≤ v.2.i ∧ v.2.b.length ≤ 1048576)) (fun c2 hc2 => have kc2 : 0 ≤ c2.2.i ∧ c2.2.b.length ≤ 1048576 := (by rw [hc2]; exact s_l1Whole_cur _ (by first | assumption | exact ⟨by assumption, by assumption⟩ | grind [maxSl, wrap64])); (by (try simp only [Nat.ble_eq, Bool.and_eq_true, decide_eq_true_eq]); grind [maxSl, maxStr, toBytes_length, toInts_length, List.length_set, wrap64, s_l1Once_cur, s_l1Whole_cur, s_l2Deep_cur])))
      (fun b0 => letP (P := (fun v : Int × Curs => 0 ≤ v.2.i ∧ v.2.b.length ≤ 1048576)) (fun c3 hc3 => have kc3 : 0 ≤ c3.2.i ∧ c3.2.b.length ≤ 1048576 := (by rw [hc3]; exact s_l2Deep_cur _ (by first | assumption | exact ⟨by assumption, by assumption⟩ | grind [maxSl, wrap64])); (by (try simp only [Nat.ble_eq, Bool.and_eq_true, decide_eq_true_eq]); grind [maxSl, maxStr, toBytes_length, toInts_length, List.length_set, wrap64, s_l1Once_cur, s_l1Whole_cur, s_l2Deep_cur]))))

/-- spec.l12Bent -/
def s_l12Bent_N (y0 : Curs) (γ : Type) (fail : γ) (k : Tupl × Curs → γ) : γ :=
  bif (decide (0 ≤ y0.i ∧ y0.b.length ≤ 1048576)) then
  letK (α := Tupl × Curs) (s_l12Tuple y0) fun c1 =>
  bif (decide (0 ≤ c1.2.i ∧ c1.2.b.length ≤ 1048576)) then
  letK (α := Int × Curs) (s_l1Below c1.2 10) fun c2 =>
  bif (c2.1 == 0) then
    bif (decide (0 ≤ c2.2.i ∧ c2.2.b.length ≤ 1048576)) then
    letK (α := Int × Curs) (s_l2Word c2.2) fun c3 =>
    k (({ c1.1 with ip := c3.1 } : Tupl), c3.2)
    else fail
  else
  bif (c2.1 == 1) then
    bif (decide (0 ≤ c2.2.i ∧ c2.2.b.length ≤ 1048576)) then
    letK (α := Int × Curs) (s_l2Word c2.2) fun c4 =>
    k (({ c1.1 with port := c4.1 } : Tupl), c4.2)
    else fail
  else
  bif (c2.1 == 2) then
    bif (decide (0 ≤ c2.2.i ∧ c2.2.b.length ≤ 1048576)) then
    letK (α := Int × Curs) (s_l2Word c2.2) fun c5 =>
    k (({ c1.1 with my := c5.1 } : Tupl), c5.2)
    else fail
  else
  k (c1.1, c2.2)
  else fail
  else fail
def s_l12Bent (y0 : Curs) : Tupl × Curs :=
  letK (α := Tupl × Curs) (s_l12Tuple y0) fun c1 =>
  letK (α := Int × Curs) (s_l1Below c1.2 10) fun c2 =>
  bif (c2.1 == 0) then
    letK (α := Int × Curs) (s_l2Word c2.2) fun c3 =>
    (({ c1.1 with ip := c3.1 } : Tupl), c3.2)
  else
  bif (c2.1 == 1) then
    letK (α := Int × Curs) (s_l2Word c2.2) fun c4 =>
    (({ c1.1 with port := c4.1 } : Tupl), c4.2)
  else
  bif (c2.1 == 2) then
    letK (α := Int × Curs) (s_l2Word c2.2) fun c5 =>
    (({ c1.1 with my := c5.1 } : Tupl), c5.2)
  else
  (c1.1, c2.2)
theorem s_l12Bent_lk (y0 : Curs) : evalFnM te (orcOf (P := Try.prog) [s_l12Tuple_e, s_l1Below_e, s_l2Word_e]) lorc0 [] Try.f94 (pvs [.wr false [.ptr 0]] ((), ())) (mos [.box [.c (.sl .u8), .c (.int .i64), .c (.int .i64)]] ((y0.b, y0.i, y0.h, ()), ())) =
  s_l12Bent_N y0 _ none (fun v => some ([(true, [RC.c (.int .i64 v.1.ip), RC.c (.int .i64 v.1.port), RC.c (.int .i64 v.1.my)])] ++ (mos [.box [.c (.sl .u8), .c (.int .i64), .c (.int .i64)]] ((v.2.b, v.2.i, v.2.h, ()), ())).map encO)) := by kernel_rfl
theorem s_l12Bent_p (y0 : Curs) (hy0_b : y0.b.length ≤ 140737488355328) (hy0_i : inK .i64 y0.i) (hy0_h : inK .i64 y0.h) (hp : 0 ≤ y0.i ∧ y0.b.length ≤ 1048576) (γ : Type) (fail : γ) (k : Tupl × Curs → γ) : s_l12Bent_N y0 γ fail k = k (s_l12Bent y0) := by
  unfold s_l12Bent_N s_l12Bent
  exact bifG (by (try simp only [Nat.ble_eq, Bool.and_eq_true, decide_eq_true_eq]); grind [maxSl, maxStr, toBytes_length, toInts_length, List.length_set, wrap64, s_l12Tuple_cur, s_l1Below_rng, s_l1Below_cur, s_l2Word_cur]) (letT (f := k) (fun c1 hc1 => have kc1 : 0 ≤ c1.2.i ∧ c1.2.b.length ≤ 1048576 := (by rw [hc1]; exact s_l12Tuple_cur _ (by first | assumption | exact ⟨by assumption, by assumption⟩ | grind [maxSl, wrap64])); bifG (by (try simp only [Nat.ble_eq, Bool.and_eq_true, decide_eq_true_eq]); grind [maxSl, maxStr, toBytes_length, toInts_length, List.length_set, wrap64, s_l12Tuple_cur, s_l1Below_rng, s_l1Below_cur, s_l2Word_cur]) (letT (f := k) (fun c2 hc2 => have rc2 := s_l1Below_rng c1.2 10 (by first | assumption | exact ⟨by assumption, by assumption⟩ | grind [maxSl, wrap64]); have kc2 : 0 ≤ c2.2.i ∧ c2.2.b.length ≤ 1048576 := (by rw [hc2]; exact s_l1Below_cur _ _ (by first | assumption | exact ⟨by assumption, by assumption⟩ | grind [maxSl, wrap64])); bifT (f := k) (fun b0 => bifG (by (try simp only [Nat.ble_eq, Bool.and_eq_true, decide_eq_true_eq]); grind [maxSl, maxStr, toBytes_length, toInts_length, List.length_set, wrap64, s_l12Tuple_cur, s_l1Below_rng, s_l1Below_cur, s_l2Word_cur]) (letT (f := k) (fun c3 hc3 => have kc3 : 0 ≤ c3.2.i ∧ c3.2.b.length ≤ 1048576 := (by rw [hc3]; exact s_l2Word_cur _ (by first | assumption | exact ⟨by assumption, by assumption⟩ | grind [maxSl, wrap64])); rfl)))
      (fun b0 => bifT (f := k) (fun b1 => bifG (by (try simp only [Nat.ble_eq, Bool.and_eq_true, decide_eq_true_eq]); grind [maxSl, maxStr, toBytes_length, toInts_length, List.length_set, wrap64, s_l12Tuple_cur, s_l1Below_rng, s_l1Below_cur, s_l2Word_cur]) (letT (f := k) (fun c4 hc4 => have kc4 : 0 ≤ c4.2.i ∧ c4.2.b.length ≤ 1048576 := (by rw [hc4]; exact s_l2Word_cur _ (by first | assumption | exact ⟨by assumption, by assumption⟩ | grind [maxSl, wrap64])); rfl)))
      (fun b1 => bifT (f := k) (fun b2 => bifG (by (try simp only [Nat.ble_eq, Bool.and_eq_true, decide_eq_true_eq]); grind [maxSl, maxStr, toBytes_length, toInts_length, List.length_set, wrap64, s_l12Tuple_cur, s_l1Below_rng, s_l1Below_cur, s_l2Word_cur]) (letT (f := k) (fun c5 hc5 => have kc5 : 0 ≤ c5.2.i ∧ c5.2.b.length ≤ 1048576 := (by rw [hc5]; exact s_l2Word_cur _ (by first | assumption | exact ⟨by assumption, by assumption⟩ | grind [maxSl, wrap64])); rfl)))
      (fun b2 => rfl)))))))
theorem s_l12Bent_c (y0 : Curs) (hp : 0 ≤ y0.i ∧ y0.b.length ≤ 1048576) : ConM Try.prog 94 (pvs [.wr false [.ptr 0]] ((), ())) (mos [.box [.c (.sl .u8), .c (.int .i64), .c (.int .i64)]] ((y0.b, y0.i, y0.h, ()), ())) [rv (.st .tupl) [] (s_l12Bent y0).1] (mos [.box [.c (.sl .u8), .c (.int .i64), .c (.int .i64)]] ((((s_l12Bent y0).2).b, ((s_l12Bent y0).2).i, ((s_l12Bent y0).2).h, ()), ())) := by
  refine ConM.of_facts (enters_of Try.func94 rfl (by kernel_rfl)) fun hf hg => ?_
  replace hf := factAt hf
  exact evalFn_conLM teFact mixFact (orcOf_ok _) Try.func94 (by kernel_rfl) (bs := []) (by kernel_rfl) (by kernel_rfl) (by kernel_rfl) rfl (fun w0 mo I0 hmo => trivial) ((s_l12Bent_lk y0).trans (s_l12Bent_p y0 ((mbAt hg 0 0 rfl rfl).len) ((mbAt hg 0 1 rfl rfl).rng) ((mbAt hg 0 2 rfl rfl).rng) hp _ _ _))
noncomputable def s_l12Bent_e : Ent1 Try.prog := entM 94 [.wr false [.ptr 0]] [.box [.c (.sl .u8), .c (.int .i64), .c (.int .i64)]] (fun x y => (decide (0 ≤ (⟨y.1.1, y.1.2.1, y.1.2.2.1⟩ : Curs).i ∧ (⟨y.1.1, y.1.2.1, y.1.2.2.1⟩ : Curs).b.length ≤ 1048576))) (fun x y => (s_l12Bent (⟨y.1.1, y.1.2.1, y.1.2.2.1⟩ : Curs))) (fun v => [rv (.st .tupl) [] v.1]) (fun x y v => (mos [.box [.c (.sl .u8), .c (.int .i64), .c (.int .i64)]] ((v.2.b, v.2.i, v.2.h, ()), ()))) (fun x y hx => s_l12Bent_c (⟨y.1.1, y.1.2.1, y.1.2.2.1⟩ : Curs) (of_decide_eq_true hx))

theorem s_l12Bent_cur (y0 : Curs)  (hc0 : 0 ≤ y0.i ∧ y0.b.length ≤ 1048576) : 0 ≤ (s_l12Bent y0).2.i ∧ (s_l12Bent y0).2.b.length ≤ 1048576 := by
  unfold s_l12Bent
  exact letP (P := (fun v : Tupl × Curs => 0 ≤ v.2.i ∧ v.2.b.length ≤ 1048576)) (fun c1 hc1 => have kc1 : 0 ≤ c1.2.i ∧ c1.2.b.length ≤ 1048576 := (by rw [hc1]; exact s_l12Tuple_cur _ (by first | assumption | exact ⟨by assumption, by assumption⟩ | grind [maxSl, wrap64])); letP (P := (fun v : Tupl × Curs => 0 ≤ v.2.i ∧ v.2.b.length ≤ 1048576)) (fun c2 hc2 => have rc2 := s_l1Below_rng c1.2 10 (by first | assumption | exact ⟨by assumption, by assumption⟩ | grind [maxSl, wrap64]); have kc2 : 0 ≤ c2.2.i ∧ c2.2.b.length ≤ 1048576 := (by rw [hc2]; exact s_l1Below_cur _ _ (by first | assumption | exact ⟨by assumption, by assumption⟩ | grind [maxSl, wrap64])); bifP (P := (fun v : Tupl × Curs => 0 ≤ v.2.i ∧ v.2.b.length ≤ 1048576)) (fun b0 => letP (P := (fun v : Tupl × Curs => 0 ≤ v.2.i ∧ v.2.b.length ≤ 1048576)) (fun c3 hc3 => have kc3 : 0 ≤ c3.2.i ∧ c3.2.b.length ≤ 1048576 := (by rw [hc3]; exact s_l2Word_cur _ (by first | assumption | exact ⟨by assumption, by assumption⟩ | grind [maxSl, wrap64])); (by (try simp only [Nat.ble_eq, Bool.and_eq_true, decide_eq_true_eq]); grind [maxSl, maxStr, toBytes_length, toInts_length, List.length_set, wrap64, s_l12Tuple_cur, s_l1Below_rng, s_l1Below_cur, s_l2Word_cur])))
      (fun b0 => bifP (P := (fun v : Tupl × Curs => 0 ≤ v.2.i ∧ v.2.b.length ≤ 1048576)) (fun b1 => letP (P := (fun v : Tupl × Curs => 0 ≤ v.2.i ∧ v.2.b.length ≤ 1048576)) (fun c4 hc4 => have kc4 : 0 ≤ c4.2.i ∧ c4.2.b.length ≤ 1048576 := (by rw [hc4]; exact s_l2Word_cur _ (by first | assumption | exact ⟨by assumption, by assumption⟩ | grind [maxSl, wrap64])); (by (try simp only [Nat.ble_eq, Bool.and_eq_true, decide_eq_true_eq]); grind [maxSl, maxStr, toBytes_length, toInts_length, List.length_set, wrap64, s_l12Tuple_cur, s_l1Below_rng, s_l1Below_cur, s_l2Word_cur])))
      (fun b1 => bifP (P := (fun v : Tupl × Curs => 0 ≤ v.2.i ∧ v.2.b.length ≤ 1048576)) (fun b2 => letP (P := (fun v : Tupl × Curs => 0 ≤ v.2.i ∧ v.2.b.length ≤ 1048576)) (fun c5 hc5 => have kc5 : 0 ≤ c5.2.i ∧ c5.2.b.length ≤ 1048576 := (by rw [hc5]; exact s_l2Word_cur _ (by first | assumption | exact ⟨by assumption, by assumption⟩ | grind [maxSl, wrap64])); (by (try simp only [Nat.ble_eq, Bool.and_eq_true, decide_eq_true_eq]); grind [maxSl, maxStr, toBytes_length, toInts_length, List.length_set, wrap64, s_l12Tuple_cur, s_l1Below_rng, s_l1Below_cur, s_l2Word_cur])))
      (fun b2 => (by (try simp only [Nat.ble_eq, Bool.and_eq_true, decide_eq_true_eq]); grind [maxSl, maxStr, toBytes_length, toInts_length, List.length_set, wrap64, s_l12Tuple_cur, s_l1Below_rng, s_l1Below_cur, s_l2Word_cur]))))))

/-- spec.l8Bent -/
def s_l8Bent_N (y0 : Curs) (γ : Type) (fail : γ) (k : Opti × Curs → γ) : γ :=
  bif (decide (0 ≤ y0.i ∧ y0.b.length ≤ 1048576)) then
  letK (α := Opti × Curs) (s_l8Options y0) fun c1 =>
  bif (decide (0 ≤ c1.2.i ∧ c1.2.b.length ≤ 1048576)) then
  letK (α := Int × Curs) (s_l1Below c1.2 10) fun c2 =>
  bif (c2.1 == 0) then
    bif (decide (0 ≤ c2.2.i ∧ c2.2.b.length ≤ 1048576)) then
    letK (α := Int × Curs) (s_l2Word c2.2) fun c3 =>
    k (({ c1.1 with mss := c3.1 } : Opti), c3.2)
    else fail
  else
  bif (c2.1 == 1) then
    bif (decide ((0 ≤ c2.2.i ∧ c2.2.b.length ≤ 1048576) ∧ 0 < ([(-2), (-1), 14, 15] : List Int).length)) then
    letK (α := Int × Curs) (s_l1PickInt c2.2 [(-2), (-1), 14, 15]) fun c4 =>
    k (({ c1.1 with scale := c4.1 } : Opti), c4.2)
    else fail
  else
  bif (c2.1 == 2) then
    k (({ c1.1 with stamp := (!c1.1.stamp) } : Opti), c2.2)
  else
  bif (c2.1 == 3) then
    bif (decide (0 ≤ c2.2.i ∧ c2.2.b.length ≤ 1048576)) then
    letK (α := Int × Curs) (s_l2Word c2.2) fun c5 =>
    k (({ c1.1 with val := c5.1 } : Opti), c5.2)
    else fail
  else
  k (c1.1, c2.2)
  else fail
  else fail
def s_l8Bent (y0 : Curs) : Opti × Curs :=
  letK (α := Opti × Curs) (s_l8Options y0) fun c1 =>
  letK (α := Int × Curs) (s_l1Below c1.2 10) fun c2 =>
  bif (c2.1 == 0) then
    letK (α := Int × Curs) (s_l2Word c2.2) fun c3 =>
    (({ c1.1 with mss := c3.1 } : Opti), c3.2)
  else
  bif (c2.1 == 1) then
    letK (α := Int × Curs) (s_l1PickInt c2.2 [(-2), (-1), 14, 15]) fun c4 =>
    (({ c1.1 with scale := c4.1 } : Opti), c4.2)
  else
  bif (c2.1 == 2) then
    (({ c1.1 with stamp := (!c1.1.stamp) } : Opti), c2.2)
  else
  bif (c2.1 == 3) then
    letK (α := Int × Curs) (s_l2Word c2.2) fun c5 =>
    (({ c1.1 with val := c5.1 } : Opti), c5.2)
  else
  (c1.1, c2.2)
theorem s_l8Bent_lk (y0 : Curs) : evalFnM te (orcOf (P := Try.prog) [s_l8Options_e, s_l1Below_e, s_l2Word_e, s_l1PickInt_e]) lorc0 [] Try.f96 (pvs [.wr false [.ptr 0]] ((), ())) (mos [.box [.c (.sl .u8), .c (.int .i64), .c (.int .i64)]] ((y0.b, y0.i, y0.h, ()), ())) =
  s_l8Bent_N y0 _ none (fun v => some ([(true, [RC.c (.int .i64 v.1.mss), RC.c (.int .i64 v.1.scale), RC.c (.bool v.1.sack), RC.c (.bool v.1.stamp), RC.c (.int .i64 v.1.val), RC.c (.int .i64 v.1.echo)])] ++ (mos [.box [.c (.sl .u8), .c (.int .i64), .c (.int .i64)]] ((v.2.b, v.2.i, v.2.h, ()), ())).map encO)) := by kernel_rfl
theorem s_l8Bent_p (y0 : Curs) (hy0_b : y0.b.length ≤ 140737488355328) (hy0_i : inK .i64 y0.i) (hy0_h : inK .i64 y0.h) (hp : 0 ≤ y0.i ∧ y0.b.length ≤ 1048576) (γ : Type) (fail : γ) (k : Opti × Curs → γ) : s_l8Bent_N y0 γ fail k = k (s_l8Bent y0) := by
  unfold s_l8Bent_N s_l8Bent
  exact bifG (by (try simp only [Nat.ble_eq, Bool.and_eq_true, decide_eq_true_eq]); grind [maxSl, maxStr, toBytes_length, toInts_length, List.length_set, wrap64, s_l8Options_cur, s_l1Below_rng, s_l1Below_cur, s_l2Word_cur, s_l1PickInt_cur]) (letT (f := k) (fun c1 hc1 => have kc1 : 0 ≤ c1.2.i ∧ c1.2.b.length ≤ 1048576 := (by rw [hc1]; exact s_l8Options_cur _ (by first | assumption | exact ⟨by assumption, by assumption⟩ | grind [maxSl, wrap64])); bifG (by (try simp only [Nat.ble_eq, Bool.and_eq_true, decide_eq_true_eq]); grind [maxSl, maxStr, toBytes_length, toInts_length, List.length_set, wrap64, s_l8Options_cur, s_l1Below_rng, s_l1Below_cur, s_l2Word_cur, s_l1PickInt_cur]) (letT (f := k) (fun c2 hc2 => have rc2 := s_l1Below_rng c1.2 10 (by first | assumption | exact ⟨by assumption, by assumption⟩ | grind [maxSl, wrap64]); have kc2 : 0 ≤ c2.2.i ∧ c2.2.b.length ≤ 1048576 := (by rw [hc2]; exact s_l1Below_cur _ _ (by first | assumption | exact ⟨by assumption, by assumption⟩ | grind [maxSl, wrap64])); bifT (f := k) (fun b0 => bifG (by (try simp only [Nat.ble_eq, Bool.and_eq_true, decide_eq_true_eq]); grind [maxSl, maxStr, toBytes_length, toInts_length, List.length_set, wrap64, s_l8Options_cur, s_l1Below_rng, s_l1Below_cur, s_l2Word_cur, s_l1PickInt_cur]) (letT (f := k) (fun c3 hc3 => have kc3 : 0 ≤ c3.2.i ∧ c3.2.b.length ≤ 1048576 := (by rw [hc3]; exact s_l2Word_cur _ (by first | assumption | exact ⟨by assumption, by assumption⟩ | grind [maxSl, wrap64])); rfl)))
      (fun b0 => bifT (f := k) (fun b1 => bifG (by (try simp only [Nat.ble_eq, Bool.and_eq_true, decide_eq_true_eq]); grind [maxSl, maxStr, toBytes_length, toInts_length, List.length_set, wrap64, s_l8Options_cur, s_l1Below_rng, s_l1Below_cur, s_l2Word_cur, s_l1PickInt_cur]) (letT (f := k) (fun c4 hc4 => have kc4 : 0 ≤ c4.2.i ∧ c4.2.b.length ≤ 1048576 := (by rw [hc4]; exact s_l1PickInt_cur _ _ (by first | assumption | exact ⟨by assumption, by assumption⟩ | grind [maxSl, wrap64]) (by first | assumption | exact ⟨by assumption, by assumption⟩ | grind [maxSl, wrap64])); rfl)))
      (fun b1 => bifT (f := k) (fun b2 => rfl)
      (fun b2 => bifT (f := k) (fun b3 => bifG (by (try simp only [Nat.ble_eq, Bool.and_eq_true, decide_eq_true_eq]); grind [maxSl, maxStr, toBytes_length, toInts_length, List.length_set, wrap64, s_l8Options_cur, s_l1Below_rng, s_l1Below_cur, s_l2Word_cur, s_l1PickInt_cur]) (letT (f := k) (fun c5 hc5 => have kc5 : 0 ≤ c5.2.i ∧ c5.2.b.length ≤ 1048576 := (by rw [hc5]; exact s_l2Word_cur _ (by first | assumption | exact ⟨by assumption, by assumption⟩ | grind [maxSl, wrap64])); rfl)))
      (fun b3 => rfl))))))))
theorem s_l8Bent_c (y0 : Curs) (hp : 0 ≤ y0.i ∧ y0.b.length ≤ 1048576) : ConM Try.prog 96 (pvs [.wr false [.ptr 0]] ((), ())) (mos [.box [.c (.sl .u8), .c (.int .i64), .c (.int .i64)]] ((y0.b, y0.i, y0.h, ()), ())) [rv (.st .opti) [] (s_l8Bent y0).1] (mos [.box [.c (.sl .u8), .c (.int .i64), .c (.int .i64)]] ((((s_l8Bent y0).2).b, ((s_l8Bent y0).2).i, ((s_l8Bent y0).2).h, ()), ())) := by
  refine ConM.of_facts (enters_of Try.func96 rfl (by kernel_rfl)) fun hf hg => ?_
  replace hf := factAt hf
  exact evalFn_conLM teFact mixFact (orcOf_ok _) Try.func96 (by kernel_rfl) (bs := []) (by kernel_rfl) (by kernel_rfl) (by kernel_rfl) rfl (fun w0 mo I0 hmo => trivial) ((s_l8Bent_lk y0).trans (s_l8Bent_p y0 ((mbAt hg 0 0 rfl rfl).len) ((mbAt hg 0 1 rfl rfl).rng) ((mbAt hg 0 2 rfl rfl).rng) hp _ _ _))
noncomputable def s_l8Bent_e : Ent1 Try.prog := entM 96 [.wr false [.ptr 0]] [.box [.c (.sl .u8), .c (.int .i64), .c (.int .i64)]] (fun x y => (decide (0 ≤ (⟨y.1.1, y.1.2.1, y.1.2.2.1⟩ : Curs).i ∧ (⟨y.1.1, y.1.2.1, y.1.2.2.1⟩ : Curs).b.length ≤ 1048576))) (fun x y => (s_l8Bent (⟨y.1.1, y.1.2.1, y.1.2.2.1⟩ : Curs))) (fun v => [rv (.st .opti) [] v.1]) (fun x y v => (mos [.box [.c (.sl .u8), .c (.int .i64), .c (.int .i64)]] ((v.2.b, v.2.i, v.2.h, ()), ()))) (fun x y hx => s_l8Bent_c (⟨y.1.1, y.1.2.1, y.1.2.2.1⟩ : Curs) (of_decide_eq_true hx))

theorem s_l8Bent_cur (y0 : Curs)  (hc0 : 0 ≤ y0.i ∧ y0.b.length ≤ 1048576) : 0 ≤ (s_l8Bent y0).2.i ∧ (s_l8Bent y0).2.b.length ≤ 1048576 := by
  unfold s_l8Bent
  exact letP (P := (fun v : Opti × Curs => 0 ≤ v.2.i ∧ v.2.b.length ≤ 1048576)) (fun c1 hc1 => have kc1 : 0 ≤ c1.2.i ∧ c1.2.b.length ≤ 1048576 := (by rw [hc1]; exact s_l8Options_cur _ (by first | assumption | exact ⟨by assumption, by assumption⟩ | grind [maxSl, wrap64])); letP (P := (fun v : Opti × Curs => 0 ≤ v.2.i ∧ v.2.b.length ≤ 1048576)) (fun c2 hc2 => have rc2 := s_l1Below_rng c1.2 10 (by first | assumption | exact ⟨by assumption, by assumption⟩ | grind [maxSl, wrap64]); have kc2 : 0 ≤ c2.2.i ∧ c2.2.b.length ≤ 1048576 := (by rw [hc2]; exact s_l1Below_cur _ _ (by first | assumption | exact ⟨by assumption, by assumption⟩ | grind [maxSl, wrap64])); bifP (P := (fun v : Opti × Curs => 0 ≤ v.2.i ∧ v.2.b.length ≤ 1048576)) (fun b0 => letP (P := (fun v : Opti × Curs => 0 ≤ v.2.i ∧ v.2.b.length ≤ 1048576)) (fun c3 hc3 => have kc3 : 0 ≤ c3.2.i ∧ c3.2.b.length ≤ 1048576 := (by rw [hc3]; exact s_l2Word_cur _ (by first | assumption | exact ⟨by assumption, by assumption⟩ | grind [maxSl, wrap64])); (by (try simp only [Nat.ble_eq, Bool.and_eq_true, decide_eq_true_eq]); grind [maxSl, maxStr, toBytes_length, toInts_length, List.length_set, wrap64, s_l8Options_cur, s_l1Below_rng, s_l1Below_cur, s_l2Word_cur, s_l1PickInt_cur])))
      (fun b0 => bifP (P := (fun v : Opti × Curs => 0 ≤ v.2.i ∧ v.2.b.length ≤ 1048576)) (fun b1 => letP (P := (fun v : Opti × Curs => 0 ≤ v.2.i ∧ v.2.b.length ≤ 1048576)) (fun c4 hc4 => have kc4 : 0 ≤ c4.2.i ∧ c4.2.b.length ≤ 1048576 := (by rw [hc4]; exact s_l1PickInt_cur _ _ (by first | assumption | exact ⟨by assumption, by assumption⟩ | grind [maxSl, wrap64]) (by first | assumption | exact ⟨by assumption, by assumption⟩ | grind [maxSl, wrap64])); (by (try simp only [Nat.ble_eq, Bool.and_eq_true, decide_eq_true_eq]); grind [maxSl, maxStr, toBytes_length, toInts_length, List.length_set, wrap64, s_l8Options_cur, s_l1Below_rng, s_l1Below_cur, s_l2Word_cur, s_l1PickInt_cur])))
      (fun b1 => bifP (P := (fun v : Opti × Curs => 0 ≤ v.2.i ∧ v.2.b.length ≤ 1048576)) (fun b2 => (by (try simp only [Nat.ble_eq, Bool.and_eq_true, decide_eq_true_eq]); grind [maxSl, maxStr, toBytes_length, toInts_length, List.length_set, wrap64, s_l8Options_cur, s_l1Below_rng, s_l1Below_cur, s_l2Word_cur, s_l1PickInt_cur]))
      (fun b2 => bifP (P := (fun v : Opti × Curs => 0 ≤ v.2.i ∧ v.2.b.length ≤ 1048576)) (fun b3 => letP (P := (fun v : Opti × Curs => 0 ≤ v.2.i ∧ v.2.b.length ≤ 1048576)) (fun c5 hc5 => have kc5 : 0 ≤ c5.2.i ∧ c5.2.b.length ≤ 1048576 := (by rw [hc5]; exact s_l2Word_cur _ (by first | assumption | exact ⟨by assumption, by assumption⟩ | grind [maxSl, wrap64])); (by (try simp only [Nat.ble_eq, Bool.and_eq_true, decide_eq_true_eq]); grind [maxSl, maxStr, toBytes_length, toInts_length, List.length_set, wrap64, s_l8Options_cur, s_l1Below_rng, s_l1Below_cur, s_l2Word_cur, s_l1PickInt_cur])))
      (fun b3 => (by (try simp only [Nat.ble_eq, Bool.and_eq_true, decide_eq_true_eq]); grind [maxSl, maxStr, toBytes_length, toInts_length, List.length_set, wrap64, s_l8Options_cur, s_l1Below_rng, s_l1Below_cur, s_l2Word_cur, s_l1PickInt_cur])))))))

/-- spec.l32Bent -/
def s_l32Bent_N (y0 : Curs) (γ : Type) (fail : γ) (k : Clie × Curs → γ) : γ :=
  bif (decide (0 ≤ y0.i ∧ y0.b.length ≤ 1048576)) then
  letK (α := Clie × Curs) (s_l32Client y0) fun c1 =>
  bif (decide (0 ≤ c1.2.i ∧ c1.2.b.length ≤ 1048576)) then
  letK (α := Int × Curs) (s_l1Below c1.2 10) fun c2 =>
  bif (c2.1 == 0) then
    bif (decide (0 ≤ c2.2.i ∧ c2.2.b.length ≤ 1048576)) then
    letK (α := Tupl × Curs) (s_l12Bent c2.2) fun c3 =>
    k (({ c1.1 with tuple.ip := c3.1.ip, tuple.port := c3.1.port, tuple.my := c3.1.my } : Clie), c3.2)
    else fail
  else
  bif (c2.1 == 1) then
    bif (decide (0 ≤ c2.2.i ∧ c2.2.b.length ≤ 1048576)) then
    letK (α := Int × Curs) (s_l2Word c2.2) fun c4 =>
    k (({ c1.1 with isn := c4.1 } : Clie), c4.2)
    else fail
  else
  bif (c2.1 == 2) then
    bif (decide (0 ≤ c2.2.i ∧ c2.2.b.length ≤ 1048576)) then
    letK (α := Opti × Curs) (s_l8Bent c2.2) fun c5 =>
    k ((⟨c1.1.tuple, c1.1.isn, c5.1, c1.1.window⟩ : Clie), c5.2)
    else fail
  else
  bif (c2.1 == 3) then
    bif (decide (0 ≤ c2.2.i ∧ c2.2.b.length ≤ 1048576)) then
    letK (α := Int × Curs) (s_l2Word c2.2) fun c6 =>
    k (({ c1.1 with window := c6.1 } : Clie), c6.2)
    else fail
  else
  k (c1.1, c2.2)
  else fail
  else fail
def s_l32Bent (y0 : Curs) : Clie × Curs :=
  letK (α := Clie × Curs) (s_l32Client y0) fun c1 =>
  letK (α := Int × Curs) (s_l1Below c1.2 10) fun c2 =>
  bif (c2.1 == 0) then
    letK (α := Tupl × Curs) (s_l12Bent c2.2) fun c3 =>
    (({ c1.1 with tuple.ip := c3.1.ip, tuple.port := c3.1.port, tuple.my := c3.1.my } : Clie), c3.2)
  else
  bif (c2.1 == 1) then
    letK (α := Int × Curs) (s_l2Word c2.2) fun c4 =>
    (({ c1.1 with isn := c4.1 } : Clie), c4.2)
  else
  bif (c2.1 == 2) then
    letK (α := Opti × Curs) (s_l8Bent c2.2) fun c5 =>
    ((⟨c1.1.tuple, c1.1.isn, c5.1, c1.1.window⟩ : Clie), c5.2)
  else
  bif (c2.1 == 3) then
    letK (α := Int × Curs) (s_l2Word c2.2) fun c6 =>
    (({ c1.1 with window := c6.1 } : Clie), c6.2)
  else
  (c1.1, c2.2)
theorem s_l32Bent_lk (y0 : Curs) : evalFnM te (orcOf (P := Try.prog) [s_l32Client_e, s_l1Below_e, s_l12Bent_e, s_l2Word_e, s_l8Bent_e]) lorc0 [] Try.f40 (pvs [.wr false [.ptr 0]] ((), ())) (mos [.box [.c (.sl .u8), .c (.int .i64), .c (.int .i64)]] ((y0.b, y0.i, y0.h, ()), ())) =
  s_l32Bent_N y0 _ none (fun v => some ([(true, [RC.c (.int .i64 v.1.tuple.ip), RC.c (.int .i64 v.1.tuple.port), RC.c (.int .i64 v.1.tuple.my), RC.c (.int .i64 v.1.isn), RC.c (.int .i64 v.1.opts.mss), RC.c (.int .i64 v.1.opts.scale), RC.c (.bool v.1.opts.sack), RC.c (.bool v.1.opts.stamp), RC.c (.int .i64 v.1.opts.val), RC.c (.int .i64 v.1.opts.echo), RC.c (.int .i64 v.1.window)])] ++ (mos [.box [.c (.sl .u8), .c (.int .i64), .c (.int .i64)]] ((v.2.b, v.2.i, v.2.h, ()), ())).map encO)) := by kernel_rfl
theorem s_l32Bent_p (y0 : Curs) (hy0_b : y0.b.length ≤ 140737488355328) (hy0_i : inK .i64 y0.i) (hy0_h : inK .i64 y0.h) (hp : 0 ≤ y0.i ∧ y0.b.length ≤ 1048576) (γ : Type) (fail : γ) (k : Clie × Curs → γ) : s_l32Bent_N y0 γ fail k = k (s_l32Bent y0) := by
  unfold s_l32Bent_N s_l32Bent
  exact bifG (by (try simp only [Nat.ble_eq, Bool.and_eq_true, decide_eq_true_eq]); grind [maxSl, maxStr, toBytes_length, toInts_length, List.length_set, wrap64, s_l32Client_cur, s_l1Below_rng, s_l1Below_cur, s_l12Bent_cur, s_l2Word_cur, s_l8Bent_cur]) (letT (f := k) (fun c1 hc1 => have kc1 : 0 ≤ c1.2.i ∧ c1.2.b.length ≤ 1048576 := (by rw [hc1]; exact s_l32Client_cur _ (by first | assumption | exact ⟨by assumption, by assumption⟩ | grind [maxSl, wrap64])); bifG (by (try simp only [Nat.ble_eq, Bool.and_eq_true, decide_eq_true_eq]); grind [maxSl, maxStr, toBytes_length, toInts_length, List.length_set, wrap64, s_l32Client_cur, s_l1Below_rng, s_l1Below_cur, s_l12Bent_cur, s_l2Word_cur, s_l8Bent_cur]) (letT (f := k) (fun c2 hc2 => have rc2 := s_l1Below_rng c1.2 10 (by first | assumption | exact ⟨by assumption, by assumption⟩ | grind [maxSl, wrap64]); have kc2 : 0 ≤ c2.2.i ∧ c2.2.b.length ≤ 1048576 := (by rw [hc2]; exact s_l1Below_cur _ _ (by first | assumption | exact ⟨by assumption, by assumption⟩ | grind [maxSl, wrap64])); bifT (f := k) (fun b0 => bifG (by (try simp only [Nat.ble_eq, Bool.and_eq_true, decide_eq_true_eq]); grind [maxSl, maxStr, toBytes_length, toInts_length, List.length_set, wrap64, s_l32Client_cur, s_l1Below_rng, s_l1Below_cur, s_l12Bent_cur, s_l2Word_cur, s_l8Bent_cur]) (letT (f := k) (fun c3 hc3 => have kc3 : 0 ≤ c3.2.i ∧ c3.2.b.length ≤ 1048576 := (by rw [hc3]; exact s_l12Bent_cur _ (by first | assumption | exact ⟨by assumption, by assumption⟩ | grind [maxSl, wrap64])); rfl)))
      (fun b0 => bifT (f := k) (fun b1 => bifG (by (try simp only [Nat.ble_eq, Bool.and_eq_true, decide_eq_true_eq]); grind [maxSl, maxStr, toBytes_length, toInts_length, List.length_set, wrap64, s_l32Client_cur, s_l1Below_rng, s_l1Below_cur, s_l12Bent_cur, s_l2Word_cur, s_l8Bent_cur]) (letT (f := k) (fun c4 hc4 => have kc4 : 0 ≤ c4.2.i ∧ c4.2.b.length ≤ 1048576 := (by rw [hc4]; exact s_l2Word_cur _ (by first | assumption | exact ⟨by assumption, by assumption⟩ | grind [maxSl, wrap64])); rfl)))
      (fun b1 => bifT (f := k) (fun b2 => bifG (by (try simp only [Nat.ble_eq, Bool.and_eq_true, decide_eq_true_eq]); grind [maxSl, maxStr, toBytes_length, toInts_length, List.length_set, wrap64, s_l32Client_cur, s_l1Below_rng, s_l1Below_cur, s_l12Bent_cur, s_l2Word_cur, s_l8Bent_cur]) (letT (f := k) (fun c5 hc5 => have kc5 : 0 ≤ c5.2.i ∧ c5.2.b.length ≤ 1048576 := (by rw [hc5]; exact s_l8Bent_cur _ (by first | assumption | exact ⟨by assumption, by assumption⟩ | grind [maxSl, wrap64])); rfl)))
      (fun b2 => bifT (f := k) (fun b3 => bifG (by (try simp only [Nat.ble_eq, Bool.and_eq_true, decide_eq_true_eq]); grind [maxSl, maxStr, toBytes_length, toInts_length, List.length_set, wrap64, s_l32Client_cur, s_l1Below_rng, s_l1Below_cur, s_l12Bent_cur, s_l2Word_cur, s_l8Bent_cur]) (letT (f := k) (fun c6 hc6 => have kc6 : 0 ≤ c6.2.i ∧ c6.2.b.length ≤ 1048576 := (by rw [hc6]; exact s_l2Word_cur _ (by first | assumption | exact ⟨by assumption, by assumption⟩ | grind [maxSl, wrap64])); rfl)))
      (fun b3 => rfl))))))))
theorem s_l32Bent_c (y0 : Curs) (hp : 0 ≤ y0.i ∧ y0.b.length ≤ 1048576) : ConM Try.prog 40 (pvs [.wr false [.ptr 0]] ((), ())) (mos [.box [.c (.sl .u8), .c (.int .i64), .c (.int .i64)]] ((y0.b, y0.i, y0.h, ()), ())) [rv (.st .clie) [] (s_l32Bent y0).1] (mos [.box [.c (.sl .u8), .c (.int .i64), .c (.int .i64)]] ((((s_l32Bent y0).2).b, ((s_l32Bent y0).2).i, ((s_l32Bent y0).2).h, ()), ())) := by
  refine ConM.of_facts (enters_of Try.func40 rfl (by kernel_rfl)) fun hf hg => ?_
  replace hf := factAt hf
  exact evalFn_conLM teFact mixFact (orcOf_ok _) Try.func40 (by kernel_rfl) (bs := []) (by kernel_rfl) (by kernel_rfl) (by kernel_rfl) rfl (fun w0 mo I0 hmo => trivial) ((s_l32Bent_lk y0).trans (s_l32Bent_p y0 ((mbAt hg 0 0 rfl rfl).len) ((mbAt hg 0 1 rfl rfl).rng) ((mbAt hg 0 2 rfl rfl).rng) hp _ _ _))
noncomputable def s_l32Bent_e : Ent1 Try.prog := entM 40 [.wr false [.ptr 0]] [.box [.c (.sl .u8), .c (.int .i64), .c (.int .i64)]] (fun x y => (decide (0 ≤ (⟨y.1.1, y.1.2.1, y.1.2.2.1⟩ : Curs).i ∧ (⟨y.1.1, y.1.2.1, y.1.2.2.1⟩ : Curs).b.length ≤ 1048576))) (fun x y => (s_l32Bent (⟨y.1.1, y.1.2.1, y.1.2.2.1⟩ : Curs))) (fun v => [rv (.st .clie) [] v.1]) (fun x y v => (mos [.box [.c (.sl .u8), .c (.int .i64), .c (.int .i64)]] ((v.2.b, v.2.i, v.2.h, ()), ()))) (fun x y hx => s_l32Bent_c (⟨y.1.1, y.1.2.1, y.1.2.2.1⟩ : Curs) (of_decide_eq_true hx))

theorem s_l32Bent_cur (y0 : Curs)  (hc0 : 0 ≤ y0.i ∧ y0.b.length ≤ 1048576) : 0 ≤ (s_l32Bent y0).2.i ∧ (s_l32Bent y0).2.b.length ≤ 1048576 := by
  unfold s_l32Bent
  exact letP (P := (fun v : Clie × Curs => 0 ≤ v.2.i ∧ v.2.b.length ≤ 1048576)) (fun c1 hc1 => have kc1 : 0 ≤ c1.2.i ∧ c1.2.b.length ≤ 1048576 := (by rw [hc1]; exact s_l32Client_cur _ (by first | assumption | exact ⟨by assumption, by assumption⟩ | grind [maxSl, wrap64])); letP (P := (fun v : Clie × Curs => 0 ≤ v.2.i ∧ v.2.b.length ≤ 1048576)) (fun c2 hc2 => have rc2 := s_l1Below_rng c1.2 10 (by first | assumption | exact ⟨by assumption, by assumption⟩ | grind [maxSl, wrap64]); have kc2 : 0 ≤ c2.2.i ∧ c2.2.b.length ≤ 1048576 := (by rw [hc2]; exact s_l1Below_cur _ _ (by first | assumption | exact ⟨by assumption, by assumption⟩ | grind [maxSl, wrap64])); bifP (P := (fun v : Clie × Curs => 0 ≤ v.2.i ∧ v.2.b.length ≤ 1048576)) (fun b0 => letP (P := (fun v : Clie × Curs => 0 ≤ v.2.i ∧ v.2.b.length ≤ 1048576)) (fun c3 hc3 => have kc3 : 0 ≤ c3.2.i ∧ c3.2.b.length ≤ 1048576 := (by rw [hc3]; exact s_l12Bent_cur _ (by first | assumption | exact ⟨by assumption, by assumption⟩ | grind [maxSl, wrap64])); (by (try simp only [Nat.ble_eq, Bool.and_eq_true, decide_eq_true_eq]); grind [maxSl, maxStr, toBytes_length, toInts_length, List.length_set, wrap64, s_l32Client_cur, s_l1Below_rng, s_l1Below_cur, s_l12Bent_cur, s_l2Word_cur, s_l8Bent_cur])))
      (fun b0 => bifP (P := (fun v : Clie × Curs => 0 ≤ v.2.i ∧ v.2.b.length ≤ 1048576)) (fun b1 => letP (P := (fun v : Clie × Curs => 0 ≤ v.2.i ∧ v.2.b.length ≤ 1048576)) (fun c4 hc4 => have kc4 : 0 ≤ c4.2.i ∧ c4.2.b.length ≤ 1048576 := (by rw [hc4]; exact s_l2Word_cur _ (by first | assumption | exact ⟨by assumption, by assumption⟩ | grind [maxSl, wrap64])); (by (try simp only [Nat.ble_eq, Bool.and_eq_true, decide_eq_true_eq]); grind [maxSl, maxStr, toBytes_length, toInts_length, List.length_set, wrap64, s_l32Client_cur, s_l1Below_rng, s_l1Below_cur, s_l12Bent_cur, s_l2Word_cur, s_l8Bent_cur])))
      (fun b1 => bifP (P := (fun v : Clie × Curs => 0 ≤ v.2.i ∧ v.2.b.length ≤ 1048576)) (fun b2 => letP (P := (fun v : Clie × Curs => 0 ≤ v.2.i ∧ v.2.b.length ≤ 1048576)) (fun c5 hc5 => have kc5 : 0 ≤ c5.2.i ∧ c5.2.b.length ≤ 1048576 := (by rw [hc5]; exact s_l8Bent_cur _ (by first | assumption | exact ⟨by assumption, by assumption⟩ | grind [maxSl, wrap64])); (by (try simp only [Nat.ble_eq, Bool.and_eq_true, decide_eq_true_eq]); grind [maxSl, maxStr, toBytes_length, toInts_length, List.length_set, wrap64, s_l32Client_cur, s_l1Below_rng, s_l1Below_cur, s_l12Bent_cur, s_l2Word_cur, s_l8Bent_cur])))
      (fun b2 => bifP (P := (fun v : Clie × Curs => 0 ≤ v.2.i ∧ v.2.b.length ≤ 1048576)) (fun b3 => letP (P := (fun v : Clie × Curs => 0 ≤ v.2.i ∧ v.2.b.length ≤ 1048576)) (fun c6 hc6 => have kc6 : 0 ≤ c6.2.i ∧ c6.2.b.length ≤ 1048576 := (by rw [hc6]; exact s_l2Word_cur _ (by first | assumption | exact ⟨by assumption, by assumption⟩ | grind [maxSl, wrap64])); (by (try simp only [Nat.ble_eq, Bool.and_eq_true, decide_eq_true_eq]); grind [maxSl, maxStr, toBytes_length, toInts_length, List.length_set, wrap64, s_l32Client_cur, s_l1Below_rng, s_l1Below_cur, s_l12Bent_cur, s_l2Word_cur, s_l8Bent_cur])))
      (fun b3 => (by (try simp only [Nat.ble_eq, Bool.and_eq_true, decide_eq_true_eq]); grind [maxSl, maxStr, toBytes_length, toInts_length, List.length_set, wrap64, s_l32Client_cur, s_l1Below_rng, s_l1Below_cur, s_l12Bent_cur, s_l2Word_cur, s_l8Bent_cur])))))))

/-- spec.l10Key -/
def s_l10Key_ann : List (Nat × Keep) := [(1, ⟨[0, 3, 4], [], false, 1⟩)]
def s_l10Key_L0_sh : Sh := ⟨[(0, false, [.ptr 0 0]), (3, false, [.int .u64]), (4, false, [.int .i64])], [.box [.sl .any .u8, .int .i64, .int .i64]]⟩
def s_l10Key_L0_es : List (Ex × Sh) := [(.exit 1, ⟨[(2, false, [.undef]), (3, false, [.int .u64])], [.box [.sl .any .u8, .int .i64, .int .i64]]⟩)]
def s_l10Key_L0_mk (v0 : Int) (v1 : Int) (v2 : List Int) (v3 : Int) (v4 : Int) : s_l10Key_L0_sh.T := ((((), ()), ((v0, ()), ((v1, ()), ()))), ((v2, (v3, (v4, ()))), ()))
def s_l10Key_L0_mx0 (y0 : Int) (y1 : List Int) (y2 : Int) (y3 : Int) : Sh.T ⟨[(2, false, [.undef]), (3, false, [.int .u64])], [.box [.sl .any .u8, .int .i64, .int .i64]]⟩ := ((((), ()), ((y0, ()), ())), ((y1, (y2, (y3, ()))), ()))
def s_l10Key_L0_B (v0 : Int) (v1 : Int) (v2 : List Int) (v3 : Int) (v4 : Int) (γ : Type) (fail : γ) (next : s_l10Key_L0_sh.T → γ) (out : WT s_l10Key_L0_es → γ) : γ :=
  bif (decide (v1 < 8)) then
    bif (decide (0 ≤ (⟨v2, v3, v4⟩ : Curs).i ∧ (⟨v2, v3, v4⟩ : Curs).b.length ≤ 1048576)) then
    letK (α := Int × Curs) (s_l1Byte (⟨v2, v3, v4⟩ : Curs)) fun c2 =>
    letK (α := Int) (bits .or .u64 (IntKind.wrap .u64 (v0 * 256)) (IntKind.wrap .u64 c2.1)) fun e3 =>
    next (s_l10Key_L0_mk e3 (IntKind.wrap .i64 (v1 + 1)) c2.2.b c2.2.i c2.2.h)
    else fail
  else
  out (s_l10Key_L0_mx0 v0 v2 v3 v4)
theorem s_l10Key_L0_par (v0 : Int) (v1 : Int) (v2 : List Int) (v3 : Int) (v4 : Int) (γ : Type) (fail : γ) (next : s_l10Key_L0_sh.T → γ) (out : WT s_l10Key_L0_es → γ) : s_l10Key_L0_B v0 v1 v2 v3 v4 γ fail next out = optK (s_l10Key_L0_B v0 v1 v2 v3 v4 _ none (fun v' => some (.inl v')) (fun w => some (.inr w))) fail (fun r => Sum.elim next out r) := by
  unfold s_l10Key_L0_B
  exact bifT (f := (fun o => optK o fail (fun r => Sum.elim next out r))) (fun _ => bifT (f := (fun o => optK o fail (fun r => Sum.elim next out r))) (fun _ => letT (f := (fun o => optK o fail (fun r => Sum.elim next out r))) (fun c2 _ => letT (f := (fun o => optK o fail (fun r => Sum.elim next out r))) (fun e3 _ => rfl))) (fun _ => rfl))
      (fun _ => rfl)
def s_l10Key_L0_r : Round s_l10Key_L0_sh.T (WT s_l10Key_L0_es) where
  B v γ fail next out := s_l10Key_L0_B v.1.2.1.1 v.1.2.2.1.1 v.2.1.1 v.2.1.2.1 v.2.1.2.2.1 γ fail next out
  par v γ fail next out := s_l10Key_L0_par v.1.2.1.1 v.1.2.2.1.1 v.2.1.1 v.2.1.2.1 v.2.1.2.2.1 γ fail next out
def s_l10Key_L0_fu (v0 : Int) (v1 : Int) (v2 : List Int) (v3 : Int) (v4 : Int) : Nat := (Int.toNat (8 - v1)) + 1
theorem s_l10Key_L0_lk (v : s_l10Key_L0_sh.T) (next : St → Option Res) (k : Ex → St → Option Res) : evalK te (orcOf (P := Try.prog) [s_l1Below_e, s_l1Byte_e]) (lorcOf []) Try.f98.ntmps s_l10Key_ann (nthLoop (bodyOf Try.f98) 0 0) 1 (s_l10Key_L0_sh.enc v) (endK ⟨[0, 3, 4], [], false, 1⟩ ⟨[2, 3], [], false, 1⟩ next k) =
  s_l10Key_L0_r.B v _ none (fun v' => next (s_l10Key_L0_sh.enc v')) (fun w => outK s_l10Key_L0_es k w) := by kernel_rfl
def s_l10Key_L0_le : LE := leOf 1 s_l10Key_L0_sh s_l10Key_L0_es s_l10Key_L0_r.step (fun v => s_l10Key_L0_fu v.1.2.1.1 v.1.2.2.1.1 v.2.1.1 v.2.1.2.1 v.2.1.2.2.1)
theorem s_l10Key_L0_ls (w0 : World) (mo : Mts) (I0 : Nat → Prop) (hmo : mo.length = 1) : LSem Try.prog (Sim w0 mo Try.f98.ntmps I0) (fun b s k => match Nat.beq 1 b with | true => s_l10Key_L0_le.run s k | false => none) 1 (nthLoop (bodyOf Try.f98) 0 0) :=
  le_sem hmo (lorc := lorcOf []) (ann := s_l10Key_ann) (keep := ⟨[0, 3, 4], [], false, 1⟩) (kout := ⟨[2, 3], [], false, 1⟩) teFact mixFact (orcOf_ok _) (by kernel_rfl) (allLoops_of (bs := []) (by kernel_rfl) trivial) s_l10Key_L0_r _ s_l10Key_L0_lk
def s_l10Key_L0_f  (v1 : Int) (a : Int × List Int × Int × Int) : Stp (Int × List Int × Int × Int) (Empty) :=
  letK (α := Int × Curs) (s_l1Byte (⟨a.2.1, a.2.2.1, a.2.2.2⟩ : Curs)) fun c2 =>
  letK (α := Int) (bits .or .u64 (IntKind.wrap .u64 (a.1 * 256)) (IntKind.wrap .u64 c2.1)) fun e3 =>
  .next (e3, c2.2.b, c2.2.i, c2.2.h)
theorem s_l10Key_L0_st (v0 : Int) (v1 : Int) (v2 : List Int) (v3 : Int) (v4 : Int) (hlo : 0 ≤ v1) (hhi : v1 < 8) (hN : 8 ≤ 4611686018427387904) (hinv : 0 ≤ v3 ∧ v2.length ≤ 1048576) : s_l10Key_L0_r.step (s_l10Key_L0_mk v0 v1 v2 v3 v4) = Stp.elim (fun a' : Int × List Int × Int × Int => some (Sum.inl (s_l10Key_L0_mk a'.1 (v1 + 1) a'.2.1 a'.2.2.1 a'.2.2.2))) (fun w => some (Sum.inr ((fun p : Empty => nomatch p) w))) (s_l10Key_L0_f  v1 (v0, v2, v3, v4)) := by
  have hw : (IntKind.wrap .i64 (v1 + 1)) = v1 + 1 := wrap64 (by omega) (by omega)
  show s_l10Key_L0_B v0 v1 v2 v3 v4 (Option (s_l10Key_L0_sh.T ⊕ WT s_l10Key_L0_es)) none (fun v' => some (Sum.inl v')) (fun w => some (Sum.inr w)) = _
  unfold s_l10Key_L0_B s_l10Key_L0_f
  exact bifG (by simp only [decide_eq_true_eq]; omega) (bifG (by (try simp only [Nat.ble_eq, Bool.and_eq_true, decide_eq_true_eq]); grind [maxSl, maxStr, toBytes_length, toInts_length, List.length_set, wrap64, s_l1Below_rng, s_l1Below_cur, s_l1Byte_rng, s_l1Byte_cur]) (letT (f := (Stp.elim (fun a' : Int × List Int × Int × Int => some (Sum.inl (s_l10Key_L0_mk a'.1 (v1 + 1) a'.2.1 a'.2.2.1 a'.2.2.2))) (fun w => some (Sum.inr ((fun p : Empty => nomatch p) w))))) (fun (c2 : Int × Curs) hc2 => have rc2 := s_l1Byte_rng (⟨v2, v3, v4⟩ : Curs) (by first | assumption | exact ⟨by assumption, by assumption⟩ | grind [maxSl, wrap64, s_l10Key_L0_mx0]); have kc2 : 0 ≤ c2.2.i ∧ c2.2.b.length ≤ 1048576 := (by rw [hc2]; exact s_l1Byte_cur _ (by first | assumption | exact ⟨by assumption, by assumption⟩ | grind [maxSl, wrap64, s_l10Key_L0_mx0])); letT (f := (Stp.elim (fun a' : Int × List Int × Int × Int => some (Sum.inl (s_l10Key_L0_mk a'.1 (v1 + 1) a'.2.1 a'.2.2.1 a'.2.2.2))) (fun w => some (Sum.inr ((fun p : Empty => nomatch p) w))))) (fun e3 he3 => (by exact congrArg (fun z => some (Sum.inl (s_l10Key_L0_mk e3 z c2.2.b c2.2.i c2.2.h))) hw)))))
theorem s_l10Key_L0_cl (v0 : Int) (v1 : Int) (v2 : List Int) (v3 : Int) (v4 : Int) (h0 : 0 ≤ v1) (h1 : 8 ≤ 4611686018427387904) (h2 : 0 ≤ v3 ∧ v2.length ≤ 1048576) : loopF s_l10Key_L0_r.step (s_l10Key_L0_fu v0 v1 v2 v3 v4) (s_l10Key_L0_mk v0 v1 v2 v3 v4) = some (Stp.elim (fun a => (fun i a => s_l10Key_L0_mx0 a.1 a.2.1 a.2.2.1 a.2.2.2) (v1 + 1 * (((Int.toNat (8 - v1)) : Nat) : Int)) a) (fun p : Empty => nomatch p) (forN (s_l10Key_L0_f ) 1 (Int.toNat (8 - v1)) v1 (v0, v2, v3, v4))) :=
  forN_loop (step := s_l10Key_L0_r.step) (mk := fun v1 a => s_l10Key_L0_mk a.1 v1 a.2.1 a.2.2.1 a.2.2.2) (f := s_l10Key_L0_f ) (e := (fun i a => s_l10Key_L0_mx0 a.1 a.2.1 a.2.2.1 a.2.2.2)) (emb := (fun p : Empty => nomatch p)) (st := 1) (Inv := fun v1 a => 0 ≤ a.2.2.1 ∧ a.2.1.length ≤ 1048576) (Int.toNat (8 - v1)) v1 (v0, v2, v3, v4) _ (Nat.lt_succ_self _) h2
    (fun j a hj hv => ⟨s_l10Key_L0_st a.1 (v1 + 1 * (j : Int)) a.2.1 a.2.2.1 a.2.2.2 (by omega) (by omega) (by omega) hv, by
      intro a' he
      unfold s_l10Key_L0_f at he
      simp only [letK] at he
      cases he
      exact s_l1Byte_cur _ hv⟩)
    (fun a hv => by
      show s_l10Key_L0_B a.1 (v1 + 1 * (((Int.toNat (8 - v1)) : Nat) : Int)) a.2.1 a.2.2.1 a.2.2.2 (Option (s_l10Key_L0_sh.T ⊕ WT s_l10Key_L0_es)) none (fun v' => some (Sum.inl v')) (fun w => some (Sum.inr w)) = _
      unfold s_l10Key_L0_B
      exact bifN (by simp only [decide_eq_false_iff_not]; omega) rfl)
theorem s_l10Key_L0_nx (v0 : Int) (v1 : Int) (v2 : List Int) (v3 : Int) (v4 : Int) (h0 : 0 ≤ v1) (h1 : 8 ≤ 4611686018427387904) (h2 : 0 ≤ v3 ∧ v2.length ≤ 1048576) : ∀ a', forN (s_l10Key_L0_f ) 1 (Int.toNat (8 - v1)) v1 (v0, v2, v3, v4) = .next a' → 0 ≤ a'.2.2.1 ∧ a'.2.1.length ≤ 1048576 :=
  forN_inv (f := s_l10Key_L0_f ) (st := 1) (Inv := fun v1 a => 0 ≤ a.2.2.1 ∧ a.2.1.length ≤ 1048576) (Int.toNat (8 - v1)) v1 (v0, v2, v3, v4) h2
    (fun j a hj hv => by
      intro a' he
      unfold s_l10Key_L0_f at he
      simp only [letK] at he
      cases he
      exact s_l1Byte_cur _ hv)
def s_l10Key_N (y0 : Curs) (γ : Type) (fail : γ) (k : Int × Curs → γ) : γ :=
  bif (decide (0 ≤ y0.i ∧ y0.b.length ≤ 1048576)) then
  letK (α := Int × Curs) (s_l1Below y0 3) fun c1 =>
  bif (c1.1 == 0) then
    k (0, c1.2)
  else
  bif (c1.1 == 1) then
    k (506097522914230528, c1.2)
  else
  optK (loopF s_l10Key_L0_r.step (s_l10Key_L0_fu 0 0 c1.2.b c1.2.i c1.2.h) (s_l10Key_L0_mk 0 0 c1.2.b c1.2.i c1.2.h)) fail fun w4 =>
    k (w4.1.2.1.1, (⟨w4.2.1.1, w4.2.1.2.1, w4.2.1.2.2.1⟩ : Curs))
  else fail
def s_l10Key (y0 : Curs) : Int × Curs :=
  letK (α := Int × Curs) (s_l1Below y0 3) fun c1 =>
  bif (c1.1 == 0) then
    (0, c1.2)
  else
  bif (c1.1 == 1) then
    (506097522914230528, c1.2)
  else
  Stp.elim (fun a5 =>
    (a5.1, (⟨a5.2.1, a5.2.2.1, a5.2.2.2⟩ : Curs)))
    (fun p : Empty => nomatch p)
    (forN (s_l10Key_L0_f) 1 (Int.toNat (8 - 0)) 0 (0, c1.2.b, c1.2.i, c1.2.h))
theorem s_l10Key_lk (y0 : Curs) : evalFnM te (orcOf (P := Try.prog) [s_l1Below_e, s_l1Byte_e]) (lorcOf [s_l10Key_L0_le]) s_l10Key_ann Try.f98 (pvs [.wr false [.ptr 0]] ((), ())) (mos [.box [.c (.sl .u8), .c (.int .i64), .c (.int .i64)]] ((y0.b, y0.i, y0.h, ()), ())) =
  s_l10Key_N y0 _ none (fun v => some ([(false, [RC.c (.int .u64 v.1)])] ++ (mos [.box [.c (.sl .u8), .c (.int .i64), .c (.int .i64)]] ((v.2.b, v.2.i, v.2.h, ()), ())).map encO)) := by kernel_rfl
theorem s_l10Key_p (y0 : Curs) (hy0_b : y0.b.length ≤ 140737488355328) (hy0_i : inK .i64 y0.i) (hy0_h : inK .i64 y0.h) (hp : 0 ≤ y0.i ∧ y0.b.length ≤ 1048576) (γ : Type) (fail : γ) (k : Int × Curs → γ) : s_l10Key_N y0 γ fail k = k (s_l10Key y0) := by
  unfold s_l10Key_N s_l10Key
  exact bifG (by (try simp only [Nat.ble_eq, Bool.and_eq_true, decide_eq_true_eq, s_l10Key_L0_mx0]); grind [maxSl, maxStr, toBytes_length, toInts_length, List.length_set, wrap64, s_l1Below_rng, s_l1Below_cur, s_l1Byte_rng, s_l1Byte_cur]) (letT (f := k) (fun c1 hc1 => have rc1 := s_l1Below_rng y0 3 (by first | assumption | exact ⟨by assumption, by assumption⟩ | grind [maxSl, wrap64, s_l10Key_L0_mx0]); have kc1 : 0 ≤ c1.2.i ∧ c1.2.b.length ≤ 1048576 := (by rw [hc1]; exact s_l1Below_cur _ _ (by first | assumption | exact ⟨by assumption, by assumption⟩ | grind [maxSl, wrap64, s_l10Key_L0_mx0])); bifT (f := k) (fun b0 => rfl)
      (fun b0 => bifT (f := k) (fun b1 => rfl)
      (fun b1 => loopX (f := k) (s_l10Key_L0_cl 0 0 c1.2.b c1.2.i c1.2.h (by (try simp only [Nat.ble_eq, Bool.and_eq_true, decide_eq_true_eq, s_l10Key_L0_mx0]); grind [maxSl, maxStr, toBytes_length, toInts_length, List.length_set, wrap64, s_l1Below_rng, s_l1Below_cur, s_l1Byte_rng, s_l1Byte_cur]) (by (try simp only [Nat.ble_eq, Bool.and_eq_true, decide_eq_true_eq, s_l10Key_L0_mx0]); grind [maxSl, maxStr, toBytes_length, toInts_length, List.length_set, wrap64, s_l1Below_rng, s_l1Below_cur, s_l1Byte_rng, s_l1Byte_cur]) (by (try simp only [Nat.ble_eq, Bool.and_eq_true, decide_eq_true_eq, s_l10Key_L0_mx0]); grind [maxSl, maxStr, toBytes_length, toInts_length, List.length_set, wrap64, s_l1Below_rng, s_l1Below_cur, s_l1Byte_rng, s_l1Byte_cur])) (fun a5 ha5 => have ia5 := s_l10Key_L0_nx 0 0 c1.2.b c1.2.i c1.2.h (by (try simp only [Nat.ble_eq, Bool.and_eq_true, decide_eq_true_eq, s_l10Key_L0_mx0]); grind [maxSl, maxStr, toBytes_length, toInts_length, List.length_set, wrap64, s_l1Below_rng, s_l1Below_cur, s_l1Byte_rng, s_l1Byte_cur]) (by (try simp only [Nat.ble_eq, Bool.and_eq_true, decide_eq_true_eq, s_l10Key_L0_mx0]); grind [maxSl, maxStr, toBytes_length, toInts_length, List.length_set, wrap64, s_l1Below_rng, s_l1Below_cur, s_l1Byte_rng, s_l1Byte_cur]) (by (try simp only [Nat.ble_eq, Bool.and_eq_true, decide_eq_true_eq, s_l10Key_L0_mx0]); grind [maxSl, maxStr, toBytes_length, toInts_length, List.length_set, wrap64, s_l1Below_rng, s_l1Below_cur, s_l1Byte_rng, s_l1Byte_cur]) _ ha5; rfl)
      (fun p : Empty => nomatch p)))))
theorem s_l10Key_c (y0 : Curs) (hp : 0 ≤ y0.i ∧ y0.b.length ≤ 1048576) : ConM Try.prog 98 (pvs [.wr false [.ptr 0]] ((), ())) (mos [.box [.c (.sl .u8), .c (.int .i64), .c (.int .i64)]] ((y0.b, y0.i, y0.h, ()), ())) [rv (.sc (.int .u64)) [] (s_l10Key y0).1] (mos [.box [.c (.sl .u8), .c (.int .i64), .c (.int .i64)]] ((((s_l10Key y0).2).b, ((s_l10Key y0).2).i, ((s_l10Key y0).2).h, ()), ())) := by
  refine ConM.of_facts (enters_of Try.func98 rfl (by kernel_rfl)) fun hf hg => ?_
  replace hf := factAt hf
  exact evalFn_conLM teFact mixFact (orcOf_ok _) Try.func98 (by kernel_rfl) (bs := [1]) (by kernel_rfl) (by kernel_rfl) (by kernel_rfl) rfl (fun w0 mo I0 hmo => ⟨lsem_of_lorc (s_l10Key_L0_ls w0 mo I0 hmo) (by kernel_rfl), trivial⟩) ((s_l10Key_lk y0).trans (s_l10Key_p y0 ((mbAt hg 0 0 rfl rfl).len) ((mbAt hg 0 1 rfl rfl).rng) ((mbAt hg 0 2 rfl rfl).rng) hp _ _ _))
noncomputable def s_l10Key_e : Ent1 Try.prog := entM 98 [.wr false [.ptr 0]] [.box [.c (.sl .u8), .c (.int .i64), .c (.int .i64)]] (fun x y => (decide (0 ≤ (⟨y.1.1, y.1.2.1, y.1.2.2.1⟩ : Curs).i ∧ (⟨y.1.1, y.1.2.1, y.1.2.2.1⟩ : Curs).b.length ≤ 1048576))) (fun x y => (s_l10Key (⟨y.1.1, y.1.2.1, y.1.2.2.1⟩ : Curs))) (fun v => [rv (.sc (.int .u64)) [] v.1]) (fun x y v => (mos [.box [.c (.sl .u8), .c (.int .i64), .c (.int .i64)]] ((v.2.b, v.2.i, v.2.h, ()), ()))) (fun x y hx => s_l10Key_c (⟨y.1.1, y.1.2.1, y.1.2.2.1⟩ : Curs) (of_decide_eq_true hx))

theorem s_l10Key_cur (y0 : Curs)  (hc0 : 0 ≤ y0.i ∧ y0.b.length ≤ 1048576) : 0 ≤ (s_l10Key y0).2.i ∧ (s_l10Key y0).2.b.length ≤ 1048576 := by
  unfold s_l10Key
  exact letP (P := (fun v : Int × Curs => 0 ≤ v.2.i ∧ v.2.b.length ≤ 1048576)) (fun c1 hc1 => have rc1 := s_l1Below_rng y0 3 (by first | assumption | exact ⟨by assumption, by assumption⟩ | grind [maxSl, wrap64, s_l10Key_L0_mx0]); have kc1 : 0 ≤ c1.2.i ∧ c1.2.b.length ≤ 1048576 := (by rw [hc1]; exact s_l1Below_cur _ _ (by first | assumption | exact ⟨by assumption, by assumption⟩ | grind [maxSl, wrap64, s_l10Key_L0_mx0])); bifP (P := (fun v : Int × Curs => 0 ≤ v.2.i ∧ v.2.b.length ≤ 1048576)) (fun b0 => (by (try simp only [Nat.ble_eq, Bool.and_eq_true, decide_eq_true_eq, s_l10Key_L0_mx0]); grind [maxSl, maxStr, toBytes_length, toInts_length, List.length_set, wrap64, s_l1Below_rng, s_l1Below_cur, s_l1Byte_rng, s_l1Byte_cur]))
      (fun b0 => bifP (P := (fun v : Int × Curs => 0 ≤ v.2.i ∧ v.2.b.length ≤ 1048576)) (fun b1 => (by (try simp only [Nat.ble_eq, Bool.and_eq_true, decide_eq_true_eq, s_l10Key_L0_mx0]); grind [maxSl, maxStr, toBytes_length, toInts_length, List.length_set, wrap64, s_l1Below_rng, s_l1Below_cur, s_l1Byte_rng, s_l1Byte_cur]))
      (fun b1 => loopP (P := (fun v : Int × Curs => 0 ≤ v.2.i ∧ v.2.b.length ≤ 1048576)) (fun a5 ha5 => have ia5 := s_l10Key_L0_nx 0 0 c1.2.b c1.2.i c1.2.h (by (try simp only [Nat.ble_eq, Bool.and_eq_true, decide_eq_true_eq, s_l10Key_L0_mx0]); grind [maxSl, maxStr, toBytes_length, toInts_length, List.length_set, wrap64, s_l1Below_rng, s_l1Below_cur, s_l1Byte_rng, s_l1Byte_cur]) (by (try simp only [Nat.ble_eq, Bool.and_eq_true, decide_eq_true_eq, s_l10Key_L0_mx0]); grind [maxSl, maxStr, toBytes_length, toInts_length, List.length_set, wrap64, s_l1Below_rng, s_l1Below_cur, s_l1Byte_rng, s_l1Byte_cur]) (by (try simp only [Nat.ble_eq, Bool.and_eq_true, decide_eq_true_eq, s_l10Key_L0_mx0]); grind [maxSl, maxStr, toBytes_length, toInts_length, List.length_set, wrap64, s_l1Below_rng, s_l1Below_cur, s_l1Byte_rng, s_l1Byte_cur]) _ ha5; (by (try simp only [Nat.ble_eq, Bool.and_eq_true, decide_eq_true_eq, s_l10Key_L0_mx0]); grind [maxSl, maxStr, toBytes_length, toInts_length, List.length_set, wrap64, s_l1Below_rng, s_l1Below_cur, s_l1Byte_rng, s_l1Byte_cur]))
      (fun p _ => nomatch p))))

/-- spec.l26Keys -/
def s_l26Keys_N (y0 : Curs) (γ : Type) (fail : γ) (k : Keys × Curs → γ) : γ :=
  bif (decide (0 ≤ y0.i ∧ y0.b.length ≤ 1048576)) then
  letK (α := Int × Curs) (s_l1Below y0 40) fun c1 =>
  bif (decide (0 ≤ c1.2.i ∧ c1.2.b.length ≤ 1048576)) then
  letK (α := Int × Curs) (s_l10Key c1.2) fun c2 =>
  bif (decide (0 ≤ c2.2.i ∧ c2.2.b.length ≤ 1048576)) then
  letK (α := Int × Curs) (s_l10Key c2.2) fun c3 =>
  letK (α := Mac) (s_KeyMac c2.1 c3.1) fun c4 =>
  bif (decide (0 < c1.1)) then
    bif (decide (0 ≤ c3.2.i ∧ c3.2.b.length ≤ 1048576)) then
    letK (α := Bool × Curs) (s_l1Once c3.2 2) fun c5 =>
    bif c5.1 then
      bif (decide (0 ≤ c5.2.i ∧ c5.2.b.length ≤ 1048576)) then
      letK (α := Int × Curs) (s_l10Key c5.2) fun c6 =>
      letK (α := Mac) (s_KeyMac c6.1 5) fun c7 =>
      k ((⟨c1.1, c4, c7, true⟩ : Keys), c6.2)
      else fail
    else
    k ((⟨c1.1, c4, ⟨false, 0, 0, []⟩, false⟩ : Keys), c5.2)
    else fail
  else
  k ((⟨c1.1, c4, ⟨false, 0, 0, []⟩, false⟩ : Keys), c3.2)
  else fail
  else fail
  else fail
def s_l26Keys (y0 : Curs) : Keys × Curs :=
  letK (α := Int × Curs) (s_l1Below y0 40) fun c1 =>
  letK (α := Int × Curs) (s_l10Key c1.2) fun c2 =>
  letK (α := Int × Curs) (s_l10Key c2.2) fun c3 =>
  letK (α := Mac) (s_KeyMac c2.1 c3.1) fun c4 =>
  bif (decide (0 < c1.1)) then
    letK (α := Bool × Curs) (s_l1Once c3.2 2) fun c5 =>
    bif c5.1 then
      letK (α := Int × Curs) (s_l10Key c5.2) fun c6 =>
      letK (α := Mac) (s_KeyMac c6.1 5) fun c7 =>
      ((⟨c1.1, c4, c7, true⟩ : Keys), c6.2)
    else
    ((⟨c1.1, c4, ⟨false, 0, 0, []⟩, false⟩ : Keys), c5.2)
  else
  ((⟨c1.1, c4, ⟨false, 0, 0, []⟩, false⟩ : Keys), c3.2)
theorem s_l26Keys_lk (y0 : Curs) : evalFnM te (orcOf (P := Try.prog) [s_l1Below_e, s_l10Key_e, s_KeyMac_e, s_l1Once_e]) lorc0 [] Try.f41 (pvs [.wr false [.ptr 0]] ((), ())) (mos [.box [.c (.sl .u8), .c (.int .i64), .c (.int .i64)]] ((y0.b, y0.i, y0.h, ()), ())) =
  s_l26Keys_N y0 _ none (fun v => some ([(true, [RC.c (.int .i64 v.1.epoch), RC.c (.bool v.1.now.use), RC.c (.int .u64 v.1.now.k), RC.c (.int .u64 v.1.now.l), RC.own true .macRow v.1.now.rows, RC.c (.bool v.1.before.use), RC.c (.int .u64 v.1.before.k), RC.c (.int .u64 v.1.before.l), RC.own true .macRow v.1.before.rows, RC.c (.bool v.1.two)])] ++ (mos [.box [.c (.sl .u8), .c (.int .i64), .c (.int .i64)]] ((v.2.b, v.2.i, v.2.h, ()), ())).map encO)) := by kernel_rfl
theorem s_l26Keys_p (y0 : Curs) (hy0_b : y0.b.length ≤ 140737488355328) (hy0_i : inK .i64 y0.i) (hy0_h : inK .i64 y0.h) (hp : 0 ≤ y0.i ∧ y0.b.length ≤ 1048576) (γ : Type) (fail : γ) (k : Keys × Curs → γ) : s_l26Keys_N y0 γ fail k = k (s_l26Keys y0) := by
  unfold s_l26Keys_N s_l26Keys
  exact bifG (by (try simp only [Nat.ble_eq, Bool.and_eq_true, decide_eq_true_eq]); grind [maxSl, maxStr, toBytes_length, toInts_length, List.length_set, wrap64, s_l1Below_rng, s_l1Below_cur, s_l10Key_cur, s_KeyMac_len, s_l1Once_cur]) (letT (f := k) (fun c1 hc1 => have rc1 := s_l1Below_rng y0 40 (by first | assumption | exact ⟨by assumption, by assumption⟩ | grind [maxSl, wrap64]); have kc1 : 0 ≤ c1.2.i ∧ c1.2.b.length ≤ 1048576 := (by rw [hc1]; exact s_l1Below_cur _ _ (by first | assumption | exact ⟨by assumption, by assumption⟩ | grind [maxSl, wrap64])); bifG (by (try simp only [Nat.ble_eq, Bool.and_eq_true, decide_eq_true_eq]); grind [maxSl, maxStr, toBytes_length, toInts_length, List.length_set, wrap64, s_l1Below_rng, s_l1Below_cur, s_l10Key_cur, s_KeyMac_len, s_l1Once_cur]) (letT (f := k) (fun c2 hc2 => have kc2 : 0 ≤ c2.2.i ∧ c2.2.b.length ≤ 1048576 := (by rw [hc2]; exact s_l10Key_cur _ (by first | assumption | exact ⟨by assumption, by assumption⟩ | grind [maxSl, wrap64])); bifG (by (try simp only [Nat.ble_eq, Bool.and_eq_true, decide_eq_true_eq]); grind [maxSl, maxStr, toBytes_length, toInts_length, List.length_set, wrap64, s_l1Below_rng, s_l1Below_cur, s_l10Key_cur, s_KeyMac_len, s_l1Once_cur]) (letT (f := k) (fun c3 hc3 => have kc3 : 0 ≤ c3.2.i ∧ c3.2.b.length ≤ 1048576 := (by rw [hc3]; exact s_l10Key_cur _ (by first | assumption | exact ⟨by assumption, by assumption⟩ | grind [maxSl, wrap64])); letT (f := k) (fun c4 hc4 => bifT (f := k) (fun b0 => bifG (by (try simp only [Nat.ble_eq, Bool.and_eq_true, decide_eq_true_eq]); grind [maxSl, maxStr, toBytes_length, toInts_length, List.length_set, wrap64, s_l1Below_rng, s_l1Below_cur, s_l10Key_cur, s_KeyMac_len, s_l1Once_cur]) (letT (f := k) (fun c5 hc5 => have kc5 : 0 ≤ c5.2.i ∧ c5.2.b.length ≤ 1048576 := (by rw [hc5]; exact s_l1Once_cur _ _ (by first | assumption | exact ⟨by assumption, by assumption⟩ | grind [maxSl, wrap64])); bifT (f := k) (fun b1 => bifG (by (try simp only [Nat.ble_eq, Bool.and_eq_true, decide_eq_true_eq]); grind [maxSl, maxStr, toBytes_length, toInts_length, List.length_set, wrap64, s_l1Below_rng, s_l1Below_cur, s_l10Key_cur, s_KeyMac_len, s_l1Once_cur]) (letT (f := k) (fun c6 hc6 => have kc6 : 0 ≤ c6.2.i ∧ c6.2.b.length ≤ 1048576 := (by rw [hc6]; exact s_l10Key_cur _ (by first | assumption | exact ⟨by assumption, by assumption⟩ | grind [maxSl, wrap64])); letT (f := k) (fun c7 hc7 => rfl))))
      (fun b1 => rfl))))
      (fun b0 => rfl))))))))
theorem s_l26Keys_c (y0 : Curs) (hp : 0 ≤ y0.i ∧ y0.b.length ≤ 1048576) : ConM Try.prog 41 (pvs [.wr false [.ptr 0]] ((), ())) (mos [.box [.c (.sl .u8), .c (.int .i64), .c (.int .i64)]] ((y0.b, y0.i, y0.h, ()), ())) [rv (.st .keys) [.c, .c, .c, .c, .o true, .c, .c, .c, .o true, .c] (s_l26Keys y0).1] (mos [.box [.c (.sl .u8), .c (.int .i64), .c (.int .i64)]] ((((s_l26Keys y0).2).b, ((s_l26Keys y0).2).i, ((s_l26Keys y0).2).h, ()), ())) := by
  refine ConM.of_facts (enters_of Try.func41 rfl (by kernel_rfl)) fun hf hg => ?_
  replace hf := factAt hf
  exact evalFn_conLM teFact mixFact (orcOf_ok _) Try.func41 (by kernel_rfl) (bs := []) (by kernel_rfl) (by kernel_rfl) (by kernel_rfl) rfl (fun w0 mo I0 hmo => trivial) ((s_l26Keys_lk y0).trans (s_l26Keys_p y0 ((mbAt hg 0 0 rfl rfl).len) ((mbAt hg 0 1 rfl rfl).rng) ((mbAt hg 0 2 rfl rfl).rng) hp _ _ _))
noncomputable def s_l26Keys_e : Ent1 Try.prog := entM 41 [.wr false [.ptr 0]] [.box [.c (.sl .u8), .c (.int .i64), .c (.int .i64)]] (fun x y => (decide (0 ≤ (⟨y.1.1, y.1.2.1, y.1.2.2.1⟩ : Curs).i ∧ (⟨y.1.1, y.1.2.1, y.1.2.2.1⟩ : Curs).b.length ≤ 1048576))) (fun x y => (s_l26Keys (⟨y.1.1, y.1.2.1, y.1.2.2.1⟩ : Curs))) (fun v => [rv (.st .keys) [.c, .c, .c, .c, .o true, .c, .c, .c, .o true, .c] v.1]) (fun x y v => (mos [.box [.c (.sl .u8), .c (.int .i64), .c (.int .i64)]] ((v.2.b, v.2.i, v.2.h, ()), ()))) (fun x y hx => s_l26Keys_c (⟨y.1.1, y.1.2.1, y.1.2.2.1⟩ : Curs) (of_decide_eq_true hx))

theorem s_l26Keys_cur (y0 : Curs)  (hc0 : 0 ≤ y0.i ∧ y0.b.length ≤ 1048576) : 0 ≤ (s_l26Keys y0).2.i ∧ (s_l26Keys y0).2.b.length ≤ 1048576 := by
  unfold s_l26Keys
  exact letP (P := (fun v : Keys × Curs => 0 ≤ v.2.i ∧ v.2.b.length ≤ 1048576)) (fun c1 hc1 => have rc1 := s_l1Below_rng y0 40 (by first | assumption | exact ⟨by assumption, by assumption⟩ | grind [maxSl, wrap64]); have kc1 : 0 ≤ c1.2.i ∧ c1.2.b.length ≤ 1048576 := (by rw [hc1]; exact s_l1Below_cur _ _ (by first | assumption | exact ⟨by assumption, by assumption⟩ | grind [maxSl, wrap64])); letP (P := (fun v : Keys × Curs => 0 ≤ v.2.i ∧ v.2.b.length ≤ 1048576)) (fun c2 hc2 => have kc2 : 0 ≤ c2.2.i ∧ c2.2.b.length ≤ 1048576 := (by rw [hc2]; exact s_l10Key_cur _ (by first | assumption | exact ⟨by assumption, by assumption⟩ | grind [maxSl, wrap64])); letP (P := (fun v : Keys × Curs => 0 ≤ v.2.i ∧ v.2.b.length ≤ 1048576)) (fun c3 hc3 => have kc3 : 0 ≤ c3.2.i ∧ c3.2.b.length ≤ 1048576 := (by rw [hc3]; exact s_l10Key_cur _ (by first | assumption | exact ⟨by assumption, by assumption⟩ | grind [maxSl, wrap64])); letP (P := (fun v : Keys × Curs => 0 ≤ v.2.i ∧ v.2.b.length ≤ 1048576)) (fun c4 hc4 => bifP (P := (fun v : Keys × Curs => 0 ≤ v.2.i ∧ v.2.b.length ≤ 1048576)) (fun b0 => letP (P := (fun v : Keys × Curs => 0 ≤ v.2.i ∧ v.2.b.length ≤ 1048576)) (fun c5 hc5 => have kc5 : 0 ≤ c5.2.i ∧ c5.2.b.length ≤ 1048576 := (by rw [hc5]; exact s_l1Once_cur _ _ (by first | assumption | exact ⟨by assumption, by assumption⟩ | grind [maxSl, wrap64])); bifP (P := (fun v : Keys × Curs => 0 ≤ v.2.i ∧ v.2.b.length ≤ 1048576)) (fun b1 => letP (P := (fun v : Keys × Curs => 0 ≤ v.2.i ∧ v.2.b.length ≤ 1048576)) (fun c6 hc6 => have kc6 : 0 ≤ c6.2.i ∧ c6.2.b.length ≤ 1048576 := (by rw [hc6]; exact s_l10Key_cur _ (by first | assumption | exact ⟨by assumption, by assumption⟩ | grind [maxSl, wrap64])); letP (P := (fun v : Keys × Curs => 0 ≤ v.2.i ∧ v.2.b.length ≤ 1048576)) (fun c7 hc7 => (by (try simp only [Nat.ble_eq, Bool.and_eq_true, decide_eq_true_eq]); grind [maxSl, maxStr, toBytes_length, toInts_length, List.length_set, wrap64, s_l1Below_rng, s_l1Below_cur, s_l10Key_cur, s_KeyMac_len, s_l1Once_cur]))))
      (fun b1 => (by (try simp only [Nat.ble_eq, Bool.and_eq_true, decide_eq_true_eq]); grind [maxSl, maxStr, toBytes_length, toInts_length, List.length_set, wrap64, s_l1Below_rng, s_l1Below_cur, s_l10Key_cur, s_KeyMac_len, s_l1Once_cur]))))
      (fun b0 => (by (try simp only [Nat.ble_eq, Bool.and_eq_true, decide_eq_true_eq]); grind [maxSl, maxStr, toBytes_length, toInts_length, List.length_set, wrap64, s_l1Below_rng, s_l1Below_cur, s_l10Key_cur, s_KeyMac_len, s_l1Once_cur]))))))
theorem s_l26Keys_len (y0 : Curs) (hp : 0 ≤ y0.i ∧ y0.b.length ≤ 1048576)  : (fun v : Keys × Curs => v.1.now.rows.length ≤ 8 ∧ v.1.before.rows.length ≤ 8) (s_l26Keys y0) := by
  unfold s_l26Keys
  exact letP (P := (fun v : Keys × Curs => v.1.now.rows.length ≤ 8 ∧ v.1.before.rows.length ≤ 8)) (fun c1 hc1 => have rc1 := s_l1Below_rng y0 40 (by first | assumption | exact ⟨by assumption, by assumption⟩ | grind [maxSl, wrap64]); have kc1 : 0 ≤ c1.2.i ∧ c1.2.b.length ≤ 1048576 := (by rw [hc1]; exact s_l1Below_cur _ _ (by first | assumption | exact ⟨by assumption, by assumption⟩ | grind [maxSl, wrap64])); letP (P := (fun v : Keys × Curs => v.1.now.rows.length ≤ 8 ∧ v.1.before.rows.length ≤ 8)) (fun c2 hc2 => have kc2 : 0 ≤ c2.2.i ∧ c2.2.b.length ≤ 1048576 := (by rw [hc2]; exact s_l10Key_cur _ (by first | assumption | exact ⟨by assumption, by assumption⟩ | grind [maxSl, wrap64])); letP (P := (fun v : Keys × Curs => v.1.now.rows.length ≤ 8 ∧ v.1.before.rows.length ≤ 8)) (fun c3 hc3 => have kc3 : 0 ≤ c3.2.i ∧ c3.2.b.length ≤ 1048576 := (by rw [hc3]; exact s_l10Key_cur _ (by first | assumption | exact ⟨by assumption, by assumption⟩ | grind [maxSl, wrap64])); letP (P := (fun v : Keys × Curs => v.1.now.rows.length ≤ 8 ∧ v.1.before.rows.length ≤ 8)) (fun c4 hc4 => bifP (P := (fun v : Keys × Curs => v.1.now.rows.length ≤ 8 ∧ v.1.before.rows.length ≤ 8)) (fun b0 => letP (P := (fun v : Keys × Curs => v.1.now.rows.length ≤ 8 ∧ v.1.before.rows.length ≤ 8)) (fun c5 hc5 => have kc5 : 0 ≤ c5.2.i ∧ c5.2.b.length ≤ 1048576 := (by rw [hc5]; exact s_l1Once_cur _ _ (by first | assumption | exact ⟨by assumption, by assumption⟩ | grind [maxSl, wrap64])); bifP (P := (fun v : Keys × Curs => v.1.now.rows.length ≤ 8 ∧ v.1.before.rows.length ≤ 8)) (fun b1 => letP (P := (fun v : Keys × Curs => v.1.now.rows.length ≤ 8 ∧ v.1.before.rows.length ≤ 8)) (fun c6 hc6 => have kc6 : 0 ≤ c6.2.i ∧ c6.2.b.length ≤ 1048576 := (by rw [hc6]; exact s_l10Key_cur _ (by first | assumption | exact ⟨by assumption, by assumption⟩ | grind [maxSl, wrap64])); letP (P := (fun v : Keys × Curs => v.1.now.rows.length ≤ 8 ∧ v.1.before.rows.length ≤ 8)) (fun c7 hc7 => (by (try simp only [Nat.ble_eq, Bool.and_eq_true, decide_eq_true_eq]); grind [maxSl, maxStr, toBytes_length, toInts_length, List.length_set, wrap64, s_l1Below_rng, s_l1Below_cur, s_l10Key_cur, s_KeyMac_len, s_l1Once_cur]))))
      (fun b1 => (by (try simp only [Nat.ble_eq, Bool.and_eq_true, decide_eq_true_eq]); grind [maxSl, maxStr, toBytes_length, toInts_length, List.length_set, wrap64, s_l1Below_rng, s_l1Below_cur, s_l10Key_cur, s_KeyMac_len, s_l1Once_cur]))))
      (fun b0 => (by (try simp only [Nat.ble_eq, Bool.and_eq_true, decide_eq_true_eq]); grind [maxSl, maxStr, toBytes_length, toInts_length, List.length_set, wrap64, s_l1Below_rng, s_l1Below_cur, s_l10Key_cur, s_KeyMac_len, s_l1Once_cur]))))))

/-- spec.l9Flags -/
def s_l9Flags_N (y0 : Curs) (γ : Type) (fail : γ) (k : Int × Curs → γ) : γ :=
  bif (decide (0 ≤ y0.i ∧ y0.b.length ≤ 1048576)) then
  letK (α := Int × Curs) (s_l1Below y0 64) fun c1 =>
  bif (decide ((0 ≤ c1.2.i ∧ c1.2.b.length ≤ 1048576) ∧ 0 < ([2, 16, 16, 18, 24, 17, 4, 20, 0, c1.1] : List Int).length)) then
  letK (α := Int × Curs) (s_l1PickInt c1.2 [2, 16, 16, 18, 24, 17, 4, 20, 0, c1.1]) fun c2 =>
  k (c2.1, c2.2)
  else fail
  else fail
def s_l9Flags (y0 : Curs) : Int × Curs :=
  letK (α := Int × Curs) (s_l1Below y0 64) fun c1 =>
  letK (α := Int × Curs) (s_l1PickInt c1.2 [2, 16, 16, 18, 24, 17, 4, 20, 0, c1.1]) fun c2 =>
  (c2.1, c2.2)
theorem s_l9Flags_lk (y0 : Curs) : evalFnM te (orcOf (P := Try.prog) [s_l1Below_e, s_l1PickInt_e]) lorc0 [] Try.f43 (pvs [.wr false [.ptr 0]] ((), ())) (mos [.box [.c (.sl .u8), .c (.int .i64), .c (.int .i64)]] ((y0.b, y0.i, y0.h, ()), ())) =
  s_l9Flags_N y0 _ none (fun v => some ([(false, [RC.c (.int .i64 v.1)])] ++ (mos [.box [.c (.sl .u8), .c (.int .i64), .c (.int .i64)]] ((v.2.b, v.2.i, v.2.h, ()), ())).map encO)) := by kernel_rfl
theorem s_l9Flags_p (y0 : Curs) (hy0_b : y0.b.length ≤ 140737488355328) (hy0_i : inK .i64 y0.i) (hy0_h : inK .i64 y0.h) (hp : 0 ≤ y0.i ∧ y0.b.length ≤ 1048576) (γ : Type) (fail : γ) (k : Int × Curs → γ) : s_l9Flags_N y0 γ fail k = k (s_l9Flags y0) := by
  unfold s_l9Flags_N s_l9Flags
  exact bifG (by (try simp only [Nat.ble_eq, Bool.and_eq_true, decide_eq_true_eq]); grind [maxSl, maxStr, toBytes_length, toInts_length, List.length_set, wrap64, s_l1Below_rng, s_l1Below_cur, s_l1PickInt_cur]) (letT (f := k) (fun c1 hc1 => have rc1 := s_l1Below_rng y0 64 (by first | assumption | exact ⟨by assumption, by assumption⟩ | grind [maxSl, wrap64]); have kc1 : 0 ≤ c1.2.i ∧ c1.2.b.length ≤ 1048576 := (by rw [hc1]; exact s_l1Below_cur _ _ (by first | assumption | exact ⟨by assumption, by assumption⟩ | grind [maxSl, wrap64])); bifG (by (try simp only [Nat.ble_eq, Bool.and_eq_true, decide_eq_true_eq]); grind [maxSl, maxStr, toBytes_length, toInts_length, List.length_set, wrap64, s_l1Below_rng, s_l1Below_cur, s_l1PickInt_cur]) (letT (f := k) (fun c2 hc2 => have kc2 : 0 ≤ c2.2.i ∧ c2.2.b.length ≤ 1048576 := (by rw [hc2]; exact s_l1PickInt_cur _ _ (by first | assumption | exact ⟨by assumption, by assumption⟩ | grind [maxSl, wrap64]) (by first | assumption | exact ⟨by assumption, by assumption⟩ | grind [maxSl, wrap64])); rfl))))
theorem s_l9Flags_c (y0 : Curs) (hp : 0 ≤ y0.i ∧ y0.b.length ≤ 1048576) : ConM Try.prog 43 (pvs [.wr false [.ptr 0]] ((), ())) (mos [.box [.c (.sl .u8), .c (.int .i64), .c (.int .i64)]] ((y0.b, y0.i, y0.h, ()), ())) [rv (.sc (.int .i64)) [] (s_l9Flags y0).1] (mos [.box [.c (.sl .u8), .c (.int .i64), .c (.int .i64)]] ((((s_l9Flags y0).2).b, ((s_l9Flags y0).2).i, ((s_l9Flags y0).2).h, ()), ())) := by
  refine ConM.of_facts (enters_of Try.func43 rfl (by kernel_rfl)) fun hf hg => ?_
  replace hf := factAt hf
  exact evalFn_conLM teFact mixFact (orcOf_ok _) Try.func43 (by kernel_rfl) (bs := []) (by kernel_rfl) (by kernel_rfl) (by kernel_rfl) rfl (fun w0 mo I0 hmo => trivial) ((s_l9Flags_lk y0).trans (s_l9Flags_p y0 ((mbAt hg 0 0 rfl rfl).len) ((mbAt hg 0 1 rfl rfl).rng) ((mbAt hg 0 2 rfl rfl).rng) hp _ _ _))
noncomputable def s_l9Flags_e : Ent1 Try.prog := entM 43 [.wr false [.ptr 0]] [.box [.c (.sl .u8), .c (.int .i64), .c (.int .i64)]] (fun x y => (decide (0 ≤ (⟨y.1.1, y.1.2.1, y.1.2.2.1⟩ : Curs).i ∧ (⟨y.1.1, y.1.2.1, y.1.2.2.1⟩ : Curs).b.length ≤ 1048576))) (fun x y => (s_l9Flags (⟨y.1.1, y.1.2.1, y.1.2.2.1⟩ : Curs))) (fun v => [rv (.sc (.int .i64)) [] v.1]) (fun x y v => (mos [.box [.c (.sl .u8), .c (.int .i64), .c (.int .i64)]] ((v.2.b, v.2.i, v.2.h, ()), ()))) (fun x y hx => s_l9Flags_c (⟨y.1.1, y.1.2.1, y.1.2.2.1⟩ : Curs) (of_decide_eq_true hx))

theorem s_l9Flags_cur (y0 : Curs)  (hc0 : 0 ≤ y0.i ∧ y0.b.length ≤ 1048576) : 0 ≤ (s_l9Flags y0).2.i ∧ (s_l9Flags y0).2.b.length ≤ 1048576 := by
  unfold s_l9Flags
  exact letP (P := (fun v : Int × Curs => 0 ≤ v.2.i ∧ v.2.b.length ≤ 1048576)) (fun c1 hc1 => have rc1 := s_l1Below_rng y0 64 (by first | assumption | exact ⟨by assumption, by assumption⟩ | grind [maxSl, wrap64]); have kc1 : 0 ≤ c1.2.i ∧ c1.2.b.length ≤ 1048576 := (by rw [hc1]; exact s_l1Below_cur _ _ (by first | assumption | exact ⟨by assumption, by assumption⟩ | grind [maxSl, wrap64])); letP (P := (fun v : Int × Curs => 0 ≤ v.2.i ∧ v.2.b.length ≤ 1048576)) (fun c2 hc2 => have kc2 : 0 ≤ c2.2.i ∧ c2.2.b.length ≤ 1048576 := (by rw [hc2]; exact s_l1PickInt_cur _ _ (by first | assumption | exact ⟨by assumption, by assumption⟩ | grind [maxSl, wrap64]) (by first | assumption | exact ⟨by assumption, by assumption⟩ | grind [maxSl, wrap64])); (by (try simp only [Nat.ble_eq, Bool.and_eq_true, decide_eq_true_eq]); grind [maxSl, maxStr, toBytes_length, toInts_length, List.length_set, wrap64, s_l1Below_rng, s_l1Below_cur, s_l1PickInt_cur])))

/-- spec.l4Near -/
def s_l4Near_N (y0 : Curs) (x1 : Int) (γ : Type) (fail : γ) (k : Int × Curs → γ) : γ :=
  bif (decide (0 ≤ y0.i ∧ y0.b.length ≤ 1048576)) then
  letK (α := Int × Curs) (s_l1Below y0 4) fun c1 =>
  bif (c1.1 == 0) then
    bif (decide (0 ≤ c1.2.i ∧ c1.2.b.length ≤ 1048576)) then
    letK (α := Int × Curs) (s_l4Place c1.2) fun c2 =>
    k (c2.1, c2.2)
    else fail
  else
  bif (c1.1 == 1) then
    bif (decide ((0 ≤ c1.2.i ∧ c1.2.b.length ≤ 1048576) ∧ 0 < ([2147483647, 2147483648, (-1), 1, 0] : List Int).length)) then
    letK (α := Int × Curs) (s_l1PickInt c1.2 [2147483647, 2147483648, (-1), 1, 0]) fun c3 =>
    letK (α := Int) (s_SeqAdd x1 c3.1) fun c4 =>
    k (c4, c3.2)
    else fail
  else
  bif (decide (0 ≤ c1.2.i ∧ c1.2.b.length ≤ 1048576)) then
  letK (α := Int × Curs) (s_l1Below c1.2 41) fun c5 =>
  letK (α := Int) (s_SeqAdd x1 (IntKind.wrap .i64 (c5.1 - 20))) fun c6 =>
  k (c6, c5.2)
  else fail
  else fail
def s_l4Near (y0 : Curs) (x1 : Int) : Int × Curs :=
  letK (α := Int × Curs) (s_l1Below y0 4) fun c1 =>
  bif (c1.1 == 0) then
    letK (α := Int × Curs) (s_l4Place c1.2) fun c2 =>
    (c2.1, c2.2)
  else
  bif (c1.1 == 1) then
    letK (α := Int × Curs) (s_l1PickInt c1.2 [2147483647, 2147483648, (-1), 1, 0]) fun c3 =>
    letK (α := Int) (s_SeqAdd x1 c3.1) fun c4 =>
    (c4, c3.2)
  else
  letK (α := Int × Curs) (s_l1Below c1.2 41) fun c5 =>
  letK (α := Int) (s_SeqAdd x1 (IntKind.wrap .i64 (c5.1 - 20))) fun c6 =>
  (c6, c5.2)
theorem s_l4Near_lk (y0 : Curs) (x1 : Int) : evalFnM te (orcOf (P := Try.prog) [s_l1Below_e, s_l4Place_e, s_l1PickInt_e, s_SeqAdd_e]) lorc0 [] Try.f44 (pvs [.wr false [.ptr 0], .sc (.int .i64)] ((), x1, ())) (mos [.box [.c (.sl .u8), .c (.int .i64), .c (.int .i64)]] ((y0.b, y0.i, y0.h, ()), ())) =
  s_l4Near_N y0 x1 _ none (fun v => some ([(false, [RC.c (.int .i64 v.1)])] ++ (mos [.box [.c (.sl .u8), .c (.int .i64), .c (.int .i64)]] ((v.2.b, v.2.i, v.2.h, ()), ())).map encO)) := by kernel_rfl
theorem s_l4Near_p (y0 : Curs) (x1 : Int) (hx1 : inK .i64 x1) (hy0_b : y0.b.length ≤ 140737488355328) (hy0_i : inK .i64 y0.i) (hy0_h : inK .i64 y0.h) (hp : 0 ≤ y0.i ∧ y0.b.length ≤ 1048576) (γ : Type) (fail : γ) (k : Int × Curs → γ) : s_l4Near_N y0 x1 γ fail k = k (s_l4Near y0 x1) := by
  unfold s_l4Near_N s_l4Near
  exact bifG (by (try simp only [Nat.ble_eq, Bool.and_eq_true, decide_eq_true_eq]); grind [maxSl, maxStr, toBytes_length, toInts_length, List.length_set, wrap64, s_l1Below_rng, s_l1Below_cur, s_l4Place_cur, s_l1PickInt_cur]) (letT (f := k) (fun c1 hc1 => have rc1 := s_l1Below_rng y0 4 (by first | assumption | exact ⟨by assumption, by assumption⟩ | grind [maxSl, wrap64]); have kc1 : 0 ≤ c1.2.i ∧ c1.2.b.length ≤ 1048576 := (by rw [hc1]; exact s_l1Below_cur _ _ (by first | assumption | exact ⟨by assumption, by assumption⟩ | grind [maxSl, wrap64])); bifT (f := k) (fun b0 => bifG (by (try simp only [Nat.ble_eq, Bool.and_eq_true, decide_eq_true_eq]); grind [maxSl, maxStr, toBytes_length, toInts_length, List.length_set, wrap64, s_l1Below_rng, s_l1Below_cur, s_l4Place_cur, s_l1PickInt_cur]) (letT (f := k) (fun c2 hc2 => have kc2 : 0 ≤ c2.2.i ∧ c2.2.b.length ≤ 1048576 := (by rw [hc2]; exact s_l4Place_cur _ (by first | assumption | exact ⟨by assumption, by assumption⟩ | grind [maxSl, wrap64])); rfl)))
      (fun b0 => bifT (f := k) (fun b1 => bifG (by (try simp only [Nat.ble_eq, Bool.and_eq_true, decide_eq_true_eq]); grind [maxSl, maxStr, toBytes_length, toInts_length, List.length_set, wrap64, s_l1Below_rng, s_l1Below_cur, s_l4Place_cur, s_l1PickInt_cur]) (letT (f := k) (fun c3 hc3 => have kc3 : 0 ≤ c3.2.i ∧ c3.2.b.length ≤ 1048576 := (by rw [hc3]; exact s_l1PickInt_cur _ _ (by first | assumption | exact ⟨by assumption, by assumption⟩ | grind [maxSl, wrap64]) (by first | assumption | exact ⟨by assumption, by assumption⟩ | grind [maxSl, wrap64])); letT (f := k) (fun c4 hc4 => rfl))))
      (fun b1 => bifG (by (try simp only [Nat.ble_eq, Bool.and_eq_true, decide_eq_true_eq]); grind [maxSl, maxStr, toBytes_length, toInts_length, List.length_set, wrap64, s_l1Below_rng, s_l1Below_cur, s_l4Place_cur, s_l1PickInt_cur]) (letT (f := k) (fun c5 hc5 => have rc5 := s_l1Below_rng c1.2 41 (by first | assumption | exact ⟨by assumption, by assumption⟩ | grind [maxSl, wrap64]); have kc5 : 0 ≤ c5.2.i ∧ c5.2.b.length ≤ 1048576 := (by rw [hc5]; exact s_l1Below_cur _ _ (by first | assumption | exact ⟨by assumption, by assumption⟩ | grind [maxSl, wrap64])); letT (f := k) (fun c6 hc6 => rfl)))))))
theorem s_l4Near_c (y0 : Curs) (x1 : Int) (hp : 0 ≤ y0.i ∧ y0.b.length ≤ 1048576) : ConM Try.prog 44 (pvs [.wr false [.ptr 0], .sc (.int .i64)] ((), x1, ())) (mos [.box [.c (.sl .u8), .c (.int .i64), .c (.int .i64)]] ((y0.b, y0.i, y0.h, ()), ())) [rv (.sc (.int .i64)) [] (s_l4Near y0 x1).1] (mos [.box [.c (.sl .u8), .c (.int .i64), .c (.int .i64)]] ((((s_l4Near y0 x1).2).b, ((s_l4Near y0 x1).2).i, ((s_l4Near y0 x1).2).h, ()), ())) := by
  refine ConM.of_facts (enters_of Try.func44 rfl (by kernel_rfl)) fun hf hg => ?_
  replace hf := factAt hf
  exact evalFn_conLM teFact mixFact (orcOf_ok _) Try.func44 (by kernel_rfl) (bs := []) (by kernel_rfl) (by kernel_rfl) (by kernel_rfl) rfl (fun w0 mo I0 hmo => trivial) ((s_l4Near_lk y0 x1).trans (s_l4Near_p y0 x1 ((hf 1 0 rfl rfl).rng) ((mbAt hg 0 0 rfl rfl).len) ((mbAt hg 0 1 rfl rfl).rng) ((mbAt hg 0 2 rfl rfl).rng) hp _ _ _))
noncomputable def s_l4Near_e : Ent1 Try.prog := entM 44 [.wr false [.ptr 0], .sc (.int .i64)] [.box [.c (.sl .u8), .c (.int .i64), .c (.int .i64)]] (fun x y => (decide (0 ≤ (⟨y.1.1, y.1.2.1, y.1.2.2.1⟩ : Curs).i ∧ (⟨y.1.1, y.1.2.1, y.1.2.2.1⟩ : Curs).b.length ≤ 1048576))) (fun x y => (s_l4Near (⟨y.1.1, y.1.2.1, y.1.2.2.1⟩ : Curs) x.2.1)) (fun v => [rv (.sc (.int .i64)) [] v.1]) (fun x y v => (mos [.box [.c (.sl .u8), .c (.int .i64), .c (.int .i64)]] ((v.2.b, v.2.i, v.2.h, ()), ()))) (fun x y hx => s_l4Near_c (⟨y.1.1, y.1.2.1, y.1.2.2.1⟩ : Curs) x.2.1 (of_decide_eq_true hx))

theorem s_l4Near_cur (y0 : Curs) (x1 : Int)  (hc0 : 0 ≤ y0.i ∧ y0.b.length ≤ 1048576) : 0 ≤ (s_l4Near y0 x1).2.i ∧ (s_l4Near y0 x1).2.b.length ≤ 1048576 := by
  unfold s_l4Near
  exact letP (P := (fun v : Int × Curs => 0 ≤ v.2.i ∧ v.2.b.length ≤ 1048576)) (fun c1 hc1 => have rc1 := s_l1Below_rng y0 4 (by first | assumption | exact ⟨by assumption, by assumption⟩ | grind [maxSl, wrap64]); have kc1 : 0 ≤ c1.2.i ∧ c1.2.b.length ≤ 1048576 := (by rw [hc1]; exact s_l1Below_cur _ _ (by first | assumption | exact ⟨by assumption, by assumption⟩ | grind [maxSl, wrap64])); bifP (P := (fun v : Int × Curs => 0 ≤ v.2.i ∧ v.2.b.length ≤ 1048576)) (fun b0 => letP (P := (fun v : Int × Curs => 0 ≤ v.2.i ∧ v.2.b.length ≤ 1048576)) (fun c2 hc2 => have kc2 : 0 ≤ c2.2.i ∧ c2.2.b.length ≤ 1048576 := (by rw [hc2]; exact s_l4Place_cur _ (by first | assumption | exact ⟨by assumption, by assumption⟩ | grind [maxSl, wrap64])); (by (try simp only [Nat.ble_eq, Bool.and_eq_true, decide_eq_true_eq]); grind [maxSl, maxStr, toBytes_length, toInts_length, List.length_set, wrap64, s_l1Below_rng, s_l1Below_cur, s_l4Place_cur, s_l1PickInt_cur])))
      (fun b0 => bifP (P := (fun v : Int × Curs => 0 ≤ v.2.i ∧ v.2.b.length ≤ 1048576)) (fun b1 => letP (P := (fun v : Int × Curs => 0 ≤ v.2.i ∧ v.2.b.length ≤ 1048576)) (fun c3 hc3 => have kc3 : 0 ≤ c3.2.i ∧ c3.2.b.length ≤ 1048576 := (by rw [hc3]; exact s_l1PickInt_cur _ _ (by first | assumption | exact ⟨by assumption, by assumption⟩ | grind [maxSl, wrap64]) (by first | assumption | exact ⟨by assumption, by assumption⟩ | grind [maxSl, wrap64])); letP (P := (fun v : Int × Curs => 0 ≤ v.2.i ∧ v.2.b.length ≤ 1048576)) (fun c4 hc4 => (by (try simp only [Nat.ble_eq, Bool.and_eq_true, decide_eq_true_eq]); grind [maxSl, maxStr, toBytes_length, toInts_length, List.length_set, wrap64, s_l1Below_rng, s_l1Below_cur, s_l4Place_cur, s_l1PickInt_cur]))))
      (fun b1 => letP (P := (fun v : Int × Curs => 0 ≤ v.2.i ∧ v.2.b.length ≤ 1048576)) (fun c5 hc5 => have rc5 := s_l1Below_rng c1.2 41 (by first | assumption | exact ⟨by assumption, by assumption⟩ | grind [maxSl, wrap64]); have kc5 : 0 ≤ c5.2.i ∧ c5.2.b.length ≤ 1048576 := (by rw [hc5]; exact s_l1Below_cur _ _ (by first | assumption | exact ⟨by assumption, by assumption⟩ | grind [maxSl, wrap64])); letP (P := (fun v : Int × Curs => 0 ≤ v.2.i ∧ v.2.b.length ≤ 1048576)) (fun c6 hc6 => (by (try simp only [Nat.ble_eq, Bool.and_eq_true, decide_eq_true_eq]); grind [maxSl, maxStr, toBytes_length, toInts_length, List.length_set, wrap64, s_l1Below_rng, s_l1Below_cur, s_l4Place_cur, s_l1PickInt_cur]))))))

/-- spec.DrawReplyTo -/
def s_DrawReplyTo_N (x0 : List Int) (γ : Type) (fail : γ) (k : Clie × Segm → γ) : γ :=
  letK (α := Curs) (s_l1New x0) fun c1 =>
  bif (decide (0 ≤ c1.i ∧ c1.b.length ≤ 1048576)) then
  letK (α := Clie × Curs) (s_l32Bent c1) fun c2 =>
  bif (decide (0 ≤ c2.2.i ∧ c2.2.b.length ≤ 1048576)) then
  letK (α := Keys × Curs) (s_l26Keys c2.2) fun c3 =>
  letK (α := Segm) (s_Knock c2.1) fun c4 =>
  bif (decide ((⟨0, 0, c3.1, ⟨0, 0, 0, 0⟩, [], ⟨[], []⟩, 0⟩ : Door).keys.now.rows.length ≤ 4294967296 ∧ (⟨0, 0, c3.1, ⟨0, 0, 0, 0⟩, [], ⟨[], []⟩, 0⟩ : Door).keys.before.rows.length ≤ 4294967296 ∧ (⟨0, 0, c3.1, ⟨0, 0, 0, 0⟩, [], ⟨[], []⟩, 0⟩ : Door).halves.length ≤ 4294967296 ∧ (⟨0, 0, c3.1, ⟨0, 0, 0, 0⟩, [], ⟨[], []⟩, 0⟩ : Door).table.conns.length ≤ 4294967296 ∧ (⟨0, 0, c3.1, ⟨0, 0, 0, 0⟩, [], ⟨[], []⟩, 0⟩ : Door).table.waiting.length ≤ 4294967296 ∧ c4.body.length ≤ 4294967296)) then
  letK (α := Segm) (s_SynAck (⟨0, 0, c3.1, ⟨0, 0, 0, 0⟩, [], ⟨[], []⟩, 0⟩ : Door) c2.1.tuple c4) fun c5 =>
  bif (decide (0 ≤ c3.2.i ∧ c3.2.b.length ≤ 1048576)) then
  letK (α := Int × Curs) (s_l1Below c3.2 6) fun c6 =>
  bif (c6.1 == 0) then
    bif (decide (0 ≤ c6.2.i ∧ c6.2.b.length ≤ 1048576)) then
    letK (α := Int × Curs) (s_l9Flags c6.2) fun c7 =>
    k (c2.1, ({ c5 with flags := c7.1 } : Segm))
    else fail
  else
  bif (c6.1 == 1) then
    bif (decide (0 ≤ c6.2.i ∧ c6.2.b.length ≤ 1048576)) then
    letK (α := Int × Curs) (s_l4Near c6.2 c5.ack) fun c8 =>
    k (c2.1, ({ c5 with ack := c8.1 } : Segm))
    else fail
  else
  k (c2.1, c5)
  else fail
  else fail
  else fail
  else fail
def s_DrawReplyTo (x0 : List Int) : Clie × Segm :=
  letK (α := Curs) (s_l1New x0) fun c1 =>
  letK (α := Clie × Curs) (s_l32Bent c1) fun c2 =>
  letK (α := Keys × Curs) (s_l26Keys c2.2) fun c3 =>
  letK (α := Segm) (s_Knock c2.1) fun c4 =>
  letK (α := Segm) (s_SynAck (⟨0, 0, c3.1, ⟨0, 0, 0, 0⟩, [], ⟨[], []⟩, 0⟩ : Door) c2.1.tuple c4) fun c5 =>
  letK (α := Int × Curs) (s_l1Below c3.2 6) fun c6 =>
  bif (c6.1 == 0) then
    letK (α := Int × Curs) (s_l9Flags c6.2) fun c7 =>
    (c2.1, ({ c5 with flags := c7.1 } : Segm))
  else
  bif (c6.1 == 1) then
    letK (α := Int × Curs) (s_l4Near c6.2 c5.ack) fun c8 =>
    (c2.1, ({ c5 with ack := c8.1 } : Segm))
  else
  (c2.1, c5)
theorem s_DrawReplyTo_lk (x0 : List Int) : evalFn te (orcOf (P := Try.prog) [s_l1New_e, s_l32Bent_e, s_l26Keys_e, s_Knock_e, s_SynAck_e, s_l1Below_e, s_l9Flags_e, s_l4Near_e]) lorc0 [] Try.f9 (pvs [.sc (.sl .u8)] (x0, ())) =
  s_DrawReplyTo_N x0 _ none (fun v => some [(true, [RC.c (.int .i64 v.1.tuple.ip), RC.c (.int .i64 v.1.tuple.port), RC.c (.int .i64 v.1.tuple.my), RC.c (.int .i64 v.1.isn), RC.c (.int .i64 v.1.opts.mss), RC.c (.int .i64 v.1.opts.scale), RC.c (.bool v.1.opts.sack), RC.c (.bool v.1.opts.stamp), RC.c (.int .i64 v.1.opts.val), RC.c (.int .i64 v.1.opts.echo), RC.c (.int .i64 v.1.window)]), (true, [RC.c (.int .i64 v.2.from_), RC.c (.int .i64 v.2.to), RC.c (.int .i64 v.2.seq), RC.c (.int .i64 v.2.ack), RC.c (.int .i64 v.2.flags), RC.c (.int .i64 v.2.window), RC.c (.int .i64 v.2.opts.mss), RC.c (.int .i64 v.2.opts.scale), RC.c (.bool v.2.opts.sack), RC.c (.bool v.2.opts.stamp), RC.c (.int .i64 v.2.opts.val), RC.c (.int .i64 v.2.opts.echo), RC.c (.str v.2.body)])]) := by kernel_rfl
theorem s_DrawReplyTo_p (x0 : List Int) (hx0 : x0.length ≤ 140737488355328) (hp : x0.length ≤ 1048576) (γ : Type) (fail : γ) (k : Clie × Segm → γ) : s_DrawReplyTo_N x0 γ fail k = k (s_DrawReplyTo x0) := by
  unfold s_DrawReplyTo_N s_DrawReplyTo
  exact letT (f := k) (fun c1 hc1 => have kc1 : 0 ≤ c1.i ∧ c1.b.length ≤ 1048576 := (by rw [hc1]; exact s_l1New_cur _ (by first | assumption | exact ⟨by assumption, by assumption⟩ | grind [maxSl, wrap64])); bifG (by (try simp only [Nat.ble_eq, Bool.and_eq_true, decide_eq_true_eq]); grind [maxSl, maxStr, toBytes_length, toInts_length, List.length_set, wrap64, s_l1New_cur, s_l32Bent_cur, s_l26Keys_len, s_l26Keys_cur, s_Knock_len, s_l1Below_rng, s_l1Below_cur, s_l9Flags_cur, s_l4Near_cur]) (letT (f := k) (fun c2 hc2 => have kc2 : 0 ≤ c2.2.i ∧ c2.2.b.length ≤ 1048576 := (by rw [hc2]; exact s_l32Bent_cur _ (by first | assumption | exact ⟨by assumption, by assumption⟩ | grind [maxSl, wrap64])); bifG (by (try simp only [Nat.ble_eq, Bool.and_eq_true, decide_eq_true_eq]); grind [maxSl, maxStr, toBytes_length, toInts_length, List.length_set, wrap64, s_l1New_cur, s_l32Bent_cur, s_l26Keys_len, s_l26Keys_cur, s_Knock_len, s_l1Below_rng, s_l1Below_cur, s_l9Flags_cur, s_l4Near_cur]) (letT (f := k) (fun c3 hc3 => have kc3 : 0 ≤ c3.2.i ∧ c3.2.b.length ≤ 1048576 := (by rw [hc3]; exact s_l26Keys_cur _ (by first | assumption | exact ⟨by assumption, by assumption⟩ | grind [maxSl, wrap64])); letT (f := k) (fun c4 hc4 => bifG (by (try simp only [Nat.ble_eq, Bool.and_eq_true, decide_eq_true_eq]); grind [maxSl, maxStr, toBytes_length, toInts_length, List.length_set, wrap64, s_l1New_cur, s_l32Bent_cur, s_l26Keys_len, s_l26Keys_cur, s_Knock_len, s_l1Below_rng, s_l1Below_cur, s_l9Flags_cur, s_l4Near_cur]) (letT (f := k) (fun c5 hc5 => bifG (by (try simp only [Nat.ble_eq, Bool.and_eq_true, decide_eq_true_eq]); grind [maxSl, maxStr, toBytes_length, toInts_length, List.length_set, wrap64, s_l1New_cur, s_l32Bent_cur, s_l26Keys_len, s_l26Keys_cur, s_Knock_len, s_l1Below_rng, s_l1Below_cur, s_l9Flags_cur, s_l4Near_cur]) (letT (f := k) (fun c6 hc6 => have rc6 := s_l1Below_rng c3.2 6 (by first | assumption | exact ⟨by assumption, by assumption⟩ | grind [maxSl, wrap64]); have kc6 : 0 ≤ c6.2.i ∧ c6.2.b.length ≤ 1048576 := (by rw [hc6]; exact s_l1Below_cur _ _ (by first | assumption | exact ⟨by assumption, by assumption⟩ | grind [maxSl, wrap64])); bifT (f := k) (fun b0 => bifG (by (try simp only [Nat.ble_eq, Bool.and_eq_true, decide_eq_true_eq]); grind [maxSl, maxStr, toBytes_length, toInts_length, List.length_set, wrap64, s_l1New_cur, s_l32Bent_cur, s_l26Keys_len, s_l26Keys_cur, s_Knock_len, s_l1Below_rng, s_l1Below_cur, s_l9Flags_cur, s_l4Near_cur]) (letT (f := k) (fun c7 hc7 => have kc7 : 0 ≤ c7.2.i ∧ c7.2.b.length ≤ 1048576 := (by rw [hc7]; exact s_l9Flags_cur _ (by first | assumption | exact ⟨by assumption, by assumption⟩ | grind [maxSl, wrap64])); rfl)))
      (fun b0 => bifT (f := k) (fun b1 => bifG (by (try simp only [Nat.ble_eq, Bool.and_eq_true, decide_eq_true_eq]); grind [maxSl, maxStr, toBytes_length, toInts_length, List.length_set, wrap64, s_l1New_cur, s_l32Bent_cur, s_l26Keys_len, s_l26Keys_cur, s_Knock_len, s_l1Below_rng, s_l1Below_cur, s_l9Flags_cur, s_l4Near_cur]) (letT (f := k) (fun c8 hc8 => have kc8 : 0 ≤ c8.2.i ∧ c8.2.b.length ≤ 1048576 := (by rw [hc8]; exact s_l4Near_cur _ _ (by first | assumption | exact ⟨by assumption, by assumption⟩ | grind [maxSl, wrap64])); rfl)))
      (fun b1 => rfl))))))))))))
theorem s_DrawReplyTo_c (x0 : List Int) (hp : x0.length ≤ 1048576) : Con Try.prog 9 (pvs [.sc (.sl .u8)] (x0, ())) [rv (.st .clie) [] (s_DrawReplyTo x0).1, rv (.st .segm) [] (s_DrawReplyTo x0).2] := by
  refine Con.of_facts (enters_of Try.func9 rfl (by kernel_rfl)) fun hf => ?_
  replace hf := factAt hf
  exact evalFn_con0 teFact mixFact (orcOf_ok _) Try.func9 (by kernel_rfl) ((s_DrawReplyTo_lk x0).trans (s_DrawReplyTo_p x0 ((hf 0 0 rfl rfl).len) hp _ _ _))
noncomputable def s_DrawReplyTo_e : Ent1 Try.prog := entP 9 [.sc (.sl .u8)] (fun x => (decide (x.1.length ≤ 1048576))) (fun x => (s_DrawReplyTo x.1)) (fun v => [rv (.st .clie) [] v.1, rv (.st .segm) [] v.2]) (fun x hx => s_DrawReplyTo_c x.1 (of_decide_eq_true hx))


/-- laws.FnClient -/
def w_FnClient_N (x0 : List Int) (γ : Type) (fail : γ) (k : Bool → γ) : γ :=
  letK (α := Bool) (w_big x0) fun c1 =>
  bif c1 then
    k true
  else
  bif (decide (x0.length ≤ 1048576)) then
  letK (α := Clie × Segm) (s_DrawReplyTo x0) fun c2 =>
  letK (α := Segm × Bool) (i_ReplyTo c2.1 c2.2) fun c3 =>
  letK (α := Segm × Bool) (s_ReplyTo c2.1 c2.2) fun c4 =>
  bif (!(c3.2 == c4.2)) then
    k false
  else
  bif (!((c3.1.from_ == c4.1.from_) && ((c3.1.to == c4.1.to) && ((c3.1.seq == c4.1.seq) && ((c3.1.ack == c4.1.ack) && ((c3.1.flags == c4.1.flags) && ((c3.1.window == c4.1.window) && (((c3.1.opts.mss == c4.1.opts.mss) && ((c3.1.opts.scale == c4.1.opts.scale) && ((c3.1.opts.sack == c4.1.opts.sack) && ((c3.1.opts.stamp == c4.1.opts.stamp) && ((c3.1.opts.val == c4.1.opts.val) && ((c3.1.opts.echo == c4.1.opts.echo) && true)))))) && ((c3.1.body == c4.1.body) && true))))))))) then
    k false
  else
  letK (α := Segm) (i_Knock c2.1) fun c5 =>
  letK (α := Segm) (s_Knock c2.1) fun c6 =>
  bif (!((c5.from_ == c6.from_) && ((c5.to == c6.to) && ((c5.seq == c6.seq) && ((c5.ack == c6.ack) && ((c5.flags == c6.flags) && ((c5.window == c6.window) && (((c5.opts.mss == c6.opts.mss) && ((c5.opts.scale == c6.opts.scale) && ((c5.opts.sack == c6.opts.sack) && ((c5.opts.stamp == c6.opts.stamp) && ((c5.opts.val == c6.opts.val) && ((c5.opts.echo == c6.opts.echo) && true)))))) && ((c5.body == c6.body) && true))))))))) then
    k false
  else
  letK (α := Bool) (i_ClientOk c2.1) fun c7 =>
  letK (α := Bool) (s_ClientOk c2.1) fun c8 =>
  bif (!(c7 == c8)) then
    k false
  else
  bif (!c3.2) then
    k true
  else
  letK (α := Int) (s_SeqAdd c5.seq 1) fun c9 =>
  bif (c2.2.ack == c9) then
    bif (c3.1.seq == c2.2.ack) then
      letK (α := Int) (s_SeqAdd c2.2.seq 1) fun c10 =>
      bif (c3.1.ack == c10) then
        letK (α := Opti) (i_Granted c2.1.opts) fun c11 =>
        letK (α := Opti) (s_Granted c2.1.opts) fun c12 =>
        k ((c11.mss == c12.mss) && ((c11.scale == c12.scale) && ((c11.sack == c12.sack) && ((c11.stamp == c12.stamp) && ((c11.val == c12.val) && ((c11.echo == c12.echo) && true))))))
      else
      k false
    else
    k false
  else
  k false
  else fail
def w_FnClient (x0 : List Int) : Bool :=
  letK (α := Bool) (w_big x0) fun c1 =>
  bif c1 then
    true
  else
  letK (α := Clie × Segm) (s_DrawReplyTo x0) fun c2 =>
  letK (α := Segm × Bool) (i_ReplyTo c2.1 c2.2) fun c3 =>
  letK (α := Segm × Bool) (s_ReplyTo c2.1 c2.2) fun c4 =>
  bif (!(c3.2 == c4.2)) then
    false
  else
  bif (!((c3.1.from_ == c4.1.from_) && ((c3.1.to == c4.1.to) && ((c3.1.seq == c4.1.seq) && ((c3.1.ack == c4.1.ack) && ((c3.1.flags == c4.1.flags) && ((c3.1.window == c4.1.window) && (((c3.1.opts.mss == c4.1.opts.mss) && ((c3.1.opts.scale == c4.1.opts.scale) && ((c3.1.opts.sack == c4.1.opts.sack) && ((c3.1.opts.stamp == c4.1.opts.stamp) && ((c3.1.opts.val == c4.1.opts.val) && ((c3.1.opts.echo == c4.1.opts.echo) && true)))))) && ((c3.1.body == c4.1.body) && true))))))))) then
    false
  else
  letK (α := Segm) (i_Knock c2.1) fun c5 =>
  letK (α := Segm) (s_Knock c2.1) fun c6 =>
  bif (!((c5.from_ == c6.from_) && ((c5.to == c6.to) && ((c5.seq == c6.seq) && ((c5.ack == c6.ack) && ((c5.flags == c6.flags) && ((c5.window == c6.window) && (((c5.opts.mss == c6.opts.mss) && ((c5.opts.scale == c6.opts.scale) && ((c5.opts.sack == c6.opts.sack) && ((c5.opts.stamp == c6.opts.stamp) && ((c5.opts.val == c6.opts.val) && ((c5.opts.echo == c6.opts.echo) && true)))))) && ((c5.body == c6.body) && true))))))))) then
    false
  else
  letK (α := Bool) (i_ClientOk c2.1) fun c7 =>
  letK (α := Bool) (s_ClientOk c2.1) fun c8 =>
  bif (!(c7 == c8)) then
    false
  else
  bif (!c3.2) then
    true
  else
  letK (α := Int) (s_SeqAdd c5.seq 1) fun c9 =>
  bif (c2.2.ack == c9) then
    bif (c3.1.seq == c2.2.ack) then
      letK (α := Int) (s_SeqAdd c2.2.seq 1) fun c10 =>
      bif (c3.1.ack == c10) then
        letK (α := Opti) (i_Granted c2.1.opts) fun c11 =>
        letK (α := Opti) (s_Granted c2.1.opts) fun c12 =>
        ((c11.mss == c12.mss) && ((c11.scale == c12.scale) && ((c11.sack == c12.sack) && ((c11.stamp == c12.stamp) && ((c11.val == c12.val) && ((c11.echo == c12.echo) && true))))))
      else
      false
    else
    false
  else
  false
theorem w_FnClient_lk (x0 : List Int) : evalFn te (orcOf (P := Try.prog) [w_big_e, s_DrawReplyTo_e, i_ReplyTo_e, s_ReplyTo_e, i_Knock_e, s_Knock_e, i_ClientOk_e, s_ClientOk_e, s_SeqAdd_e, i_Granted_e, s_Granted_e]) lorc0 [] Try.f3 (pvs [.sc (.sl .u8)] (x0, ())) =
  w_FnClient_N x0 _ none (fun v => some [(false, [RC.c (.bool v)])]) := by kernel_rfl
theorem w_FnClient_p (x0 : List Int) (hx0 : x0.length ≤ 140737488355328)  (γ : Type) (fail : γ) (k : Bool → γ) : w_FnClient_N x0 γ fail k = k (w_FnClient x0) := by
  unfold w_FnClient_N w_FnClient
  exact letT (f := k) (fun c1 hc1 => bifT (f := k) (fun b0 => rfl)
      (fun b0 => bifG (by (try simp only [Nat.ble_eq, Bool.and_eq_true, decide_eq_true_eq]); grind [maxSl, maxStr, toBytes_length, toInts_length, List.length_set, wrap64, w_big, s_Knock_len]) (letT (f := k) (fun c2 hc2 => letT (f := k) (fun c3 hc3 => letT (f := k) (fun c4 hc4 => bifT (f := k) (fun b1 => rfl)
      (fun b1 => bifT (f := k) (fun b2 => rfl)
      (fun b2 => letT (f := k) (fun c5 hc5 => letT (f := k) (fun c6 hc6 => bifT (f := k) (fun b3 => rfl)
      (fun b3 => letT (f := k) (fun c7 hc7 => letT (f := k) (fun c8 hc8 => bifT (f := k) (fun b4 => rfl)
      (fun b4 => bifT (f := k) (fun b5 => rfl)
      (fun b5 => letT (f := k) (fun c9 hc9 => bifT (f := k) (fun b6 => bifT (f := k) (fun b7 => letT (f := k) (fun c10 hc10 => bifT (f := k) (fun b8 => letT (f := k) (fun c11 hc11 => letT (f := k) (fun c12 hc12 => rfl)))
      (fun b8 => rfl)))
      (fun b7 => rfl))
      (fun b6 => rfl)))))))))))))))))
theorem w_FnClient_c (x0 : List Int)  : Con Try.prog 3 (pvs [.sc (.sl .u8)] (x0, ())) [rv (.sc .bool) [] (w_FnClient x0)] := by
  refine Con.of_facts (enters_of Try.func3 rfl (by kernel_rfl)) fun hf => ?_
  replace hf := factAt hf
  exact evalFn_con0 teFact mixFact (orcOf_ok _) Try.func3 (by kernel_rfl) ((w_FnClient_lk x0).trans (w_FnClient_p x0 ((hf 0 0 rfl rfl).len) _ _ _))
noncomputable def w_FnClient_e : Ent1 Try.prog := entA 3 [.sc (.sl .u8)] (fun x => (w_FnClient x.1)) (fun v => [rv (.sc .bool) [] v]) (fun x => w_FnClient_c x.1)



theorem s_WordOk_eq (n b : Int) : s_WordOk n b = bif s_l1In b 1 62 then s_l1In n 0 (IntKind.wrap .i64 ((IntKind.wrap .i64 (1 * 2 ^ (min (IntKind.wrap .u64 b).toNat 64))) - 1)) else false := by
  simp only [s_WordOk, letK]
theorem i_WordOk_eq (n b : Int) : i_WordOk n b = bif i_within b 1 62 then i_within n 0 (IntKind.wrap .i64 ((IntKind.wrap .i64 (1 * 2 ^ (min b.toNat 64))) - 1)) else false := by
  simp only [i_WordOk, letK]
theorem q_WordOk (n b : Int) : s_WordOk n b = i_WordOk n b := by
  rw [s_WordOk_eq, i_WordOk_eq, s_l1In_eq, i_within_eq]
  cases h : (decide (1 ≤ b) && decide (b ≤ 62)) with
  | false => rw [cond_false, cond_false]
  | true =>
    have h1 : 1 ≤ b ∧ b ≤ 62 := by simpa using h
    have h2 : IntKind.u64.wrap b = b := by rw [wrapU_def]; exact Int.emod_eq_of_lt (by omega) (by omega)
    rw [h2, cond_true, cond_true, s_l1In_eq, i_within_eq]


theorem q_within (a b c : Int) : s_l1In a b c = i_within a b c := by rw [s_l1In_eq, i_within_eq]


theorem q_TupleOk (x : Tupl) : s_TupleOk x = i_TupleOk x := by simp only [s_TupleOk, i_TupleOk, q_WordOk]


theorem q_OptionsOk (x : Opti) : s_OptionsOk x = i_OptionsOk x := by simp only [s_OptionsOk, i_OptionsOk, q_WordOk, q_within]


theorem q_ClientOk (x : Clie) : s_ClientOk x = i_ClientOk x := by simp only [s_ClientOk, i_ClientOk, q_WordOk, q_TupleOk, q_OptionsOk]


theorem q_MssOf (x : Int) : s_MssOf x = i_MssOf x := by simp only [s_MssOf, i_MssOf, q_within]


theorem q_mss : i_MssOf 0 = 64 ∧ i_MssOf 1 = 256 ∧ i_MssOf 2 = 536 ∧ i_MssOf 3 = 1024 ∧ i_MssOf 4 = 1300 ∧ i_MssOf 5 = 1400 ∧ i_MssOf 6 = 1440 ∧ i_MssOf 7 = 1460 := by
  simp [i_MssOf, letK, i_within_eq]
theorem q_MssIndex (x : Int) : s_MssIndex x = i_MssIndex x := by
  obtain ⟨h0, h1, h2, h3, h4, h5, h6, h7⟩ := q_mss
  unfold s_MssIndex i_MssIndex
  simp only [show Int.toNat (8 - 0) = 8 from rfl, show Int.toNat (7 - 0) = 7 from rfl, forN, s_MssIndex_L0_f, i_MssIndex_L0_f, letK, q_MssOf]
  simp only [show (0 : Int) + 1 = 1 from rfl, show (1 : Int) + 1 = 2 from rfl, show (2 : Int) + 1 = 3 from rfl, show (3 : Int) + 1 = 4 from rfl, show (4 : Int) + 1 = 5 from rfl, show (5 : Int) + 1 = 6 from rfl, show (6 : Int) + 1 = 7 from rfl,
    show (7 : Int) + -1 = 6 from rfl, show (6 : Int) + -1 = 5 from rfl, show (5 : Int) + -1 = 4 from rfl, show (4 : Int) + -1 = 3 from rfl, show (3 : Int) + -1 = 2 from rfl, show (2 : Int) + -1 = 1 from rfl, h0, h1, h2, h3, h4, h5, h6, h7]
  rcases Int.lt_or_le x 64 with g | g
  · simp [show ¬ (64 ≤ x) by omega, show ¬ (256 ≤ x) by omega, show ¬ (536 ≤ x) by omega, show ¬ (1024 ≤ x) by omega, show ¬ (1300 ≤ x) by omega, show ¬ (1400 ≤ x) by omega, show ¬ (1440 ≤ x) by omega, show ¬ (1460 ≤ x) by omega, Stp.elim]
  rcases Int.lt_or_le x 256 with g1 | g1
  · simp [g, show ¬ (256 ≤ x) by omega, show ¬ (536 ≤ x) by omega, show ¬ (1024 ≤ x) by omega, show ¬ (1300 ≤ x) by omega, show ¬ (1400 ≤ x) by omega, show ¬ (1440 ≤ x) by omega, show ¬ (1460 ≤ x) by omega, Stp.elim]
  rcases Int.lt_or_le x 536 with g2 | g2
  · simp [g, g1, show ¬ (536 ≤ x) by omega, show ¬ (1024 ≤ x) by omega, show ¬ (1300 ≤ x) by omega, show ¬ (1400 ≤ x) by omega, show ¬ (1440 ≤ x) by omega, show ¬ (1460 ≤ x) by omega, Stp.elim]
  rcases Int.lt_or_le x 1024 with g3 | g3
  · simp [g, g1, g2, show ¬ (1024 ≤ x) by omega, show ¬ (1300 ≤ x) by omega, show ¬ (1400 ≤ x) by omega, show ¬ (1440 ≤ x) by omega, show ¬ (1460 ≤ x) by omega, Stp.elim]
  rcases Int.lt_or_le x 1300 with g4 | g4
  · simp [g, g1, g2, g3, show ¬ (1300 ≤ x) by omega, show ¬ (1400 ≤ x) by omega, show ¬ (1440 ≤ x) by omega, show ¬ (1460 ≤ x) by omega, Stp.elim]
  rcases Int.lt_or_le x 1400 with g5 | g5
  · simp [g, g1, g2, g3, g4, show ¬ (1400 ≤ x) by omega, show ¬ (1440 ≤ x) by omega, show ¬ (1460 ≤ x) by omega, Stp.elim]
  rcases Int.lt_or_le x 1440 with g6 | g6
  · simp [g, g1, g2, g3, g4, g5, show ¬ (1440 ≤ x) by omega, show ¬ (1460 ≤ x) by omega, Stp.elim]
  rcases Int.lt_or_le x 1460 with g7 | g7
  · simp [g, g1, g2, g3, g4, g5, g6, show ¬ (1460 ≤ x) by omega, Stp.elim]
  · simp [g, g1, g2, g3, g4, g5, g6, g7, Stp.elim]


theorem l4Rest_eq (x : Int) : s_l4Rest x = x % 4294967296 := by
  unfold s_l4Rest
  rcases Int.lt_or_le x 0 with h | h
  · rw [(tmod_pos 4294967296).2 h, wrap64_def]
    cases hd : decide (-(-x % 4294967296) < 0) with
    | true => simp only [decide_eq_true_eq] at hd; simp only [cond_true]; omega
    | false => simp only [decide_eq_false_iff_not] at hd; simp only [cond_false]; omega
  · rw [(tmod_pos 4294967296).1 h, wrap64_def]
    cases hd : decide (x % 4294967296 < 0) with
    | true => simp only [decide_eq_true_eq] at hd; omega
    | false => rfl


theorem iSeqAdd_eq (a b : Int) : i_SeqAdd a b = (a + b) % 4294967296 := by
  unfold i_SeqAdd
  rw [i64_mask32, wrap64_def]; omega
theorem q_SeqAdd (a b : Int) : s_SeqAdd a b = i_SeqAdd a b := by
  rw [iSeqAdd_eq]
  simp only [s_SeqAdd, letK, l4Rest_eq, wrap64_def]; omega


theorem q_NoOptions : s_NoOptions = i_NoOptions := rfl
theorem q_Granted (x : Opti) : s_Granted x = i_Granted x := by
  simp only [s_Granted, i_Granted, q_MssIndex, q_MssOf, q_SeqAdd, q_NoOptions, i_peerMss, letK]
  cases x.mss == 0 <;> rfl


theorem q_ReplyTo (c : Clie) (g : Segm) : s_ReplyTo c g = i_ReplyTo c g := by
  simp only [s_ReplyTo, i_ReplyTo, q_SeqAdd, q_NoOptions, letK]

theorem q_Knock (c : Clie) : s_Knock c = i_Knock c := by
  unfold s_Knock i_Knock
  simp only [letK_eq]
theorem ReplyTo_ok (c : Clie) (g : Segm) (h : (i_ReplyTo c g).2 = true) : g.ack = i_SeqAdd (i_Knock c).seq 1 ∧ (i_ReplyTo c g).1.seq = g.ack ∧ (i_ReplyTo c g).1.ack = i_SeqAdd g.seq 1 := by
  revert h
  unfold i_ReplyTo i_Knock
  simp only [letK_eq]
  cases (g.flags != 18) with
  | true => intro h; cases h
  | false =>
    cases ha : (g.ack != i_SeqAdd c.isn 1) with
    | true => intro h; cases h
    | false =>
      have ha : g.ack = i_SeqAdd c.isn 1 := by simpa using ha
      simp only [cond_false]
      cases c.opts.stamp <;> cases g.opts.stamp <;> intro _ <;> exact ⟨ha, ha.symm, rfl⟩
theorem t_FnClient (x : List Int) : w_FnClient x = true := by
  unfold w_FnClient
  simp only [letK_eq, q_ReplyTo, q_ClientOk, q_Granted, q_SeqAdd, q_Knock, beq_self_eq_true, Bool.not_true, cond_false, Bool.and_self]
  cases w_big x with
  | true => rfl
  | false =>
    simp only [cond_false]
    generalize s_DrawReplyTo x = d
    cases h : (i_ReplyTo d.1 d.2).2 with
    | false => rfl
    | true =>
      obtain ⟨h1, h2, h3⟩ := ReplyTo_ok d.1 d.2 h
      simp only [Bool.not_true, cond_false]
      rw [h3, h2, ← h1]
      simp

end Go.Proofs.Ytbikbonhcfbmeaa
