/-
  Contracts of functions and plain laws (printed by a program): each theorem says what a function of the program returns; conditions are its hypotheses.
-/
import Derived.Test.YtbikbonhcfbmeaaBase
set_option maxRecDepth 4000
set_option linter.unusedVariables false
set_option linter.unusedSimpArgs false
namespace Go.Proofs.Ytbikbonhcfbmeaa
open Go Go.RowKit

/-- laws.szSegment -/
def w_szSegment_N (x0 : Segm) (x1 : Int) (γ : Type) (fail : γ) (k : Int → γ) : γ :=
  bif (decide ((IntKind.wrap .i64 (x1 - (x0.body.length : Int))) < 0)) then
    k (-1)
  else
  k (IntKind.wrap .i64 (x1 - (x0.body.length : Int)))
def w_szSegment (x0 : Segm) (x1 : Int) : Int :=
  bif (decide ((IntKind.wrap .i64 (x1 - (x0.body.length : Int))) < 0)) then
    (-1)
  else
  (IntKind.wrap .i64 (x1 - (x0.body.length : Int)))
theorem w_szSegment_lk (x0 : Segm) (x1 : Int) : evalFn te (orcOf (P := Try.prog) []) lorc0 [] Try.f33 (pvs [.st .segm, .sc (.int .i64)] (x0, x1, ())) =
  w_szSegment_N x0 x1 _ none (fun v => some [(false, [RC.c (.int .i64 v)])]) := by kernel_rfl
theorem w_szSegment_p (x0 : Segm) (x1 : Int)   (γ : Type) (fail : γ) (k : Int → γ) : w_szSegment_N x0 x1 γ fail k = k (w_szSegment x0 x1) := by
  unfold w_szSegment_N w_szSegment
  exact bifT (f := k) (fun b0 => rfl)
      (fun b0 => rfl)
theorem w_szSegment_c (x0 : Segm) (x1 : Int)  : Con Try.prog 33 (pvs [.st .segm, .sc (.int .i64)] (x0, x1, ())) [rv (.sc (.int .i64)) [] (w_szSegment x0 x1)] := by
  exact evalFn_con0 teFact mixFact (orcOf_ok _) Try.func33 (by kernel_rfl) ((w_szSegment_lk x0 x1).trans (w_szSegment_p x0 x1  _ _ _))
noncomputable def w_szSegment_e : Ent1 Try.prog := entA 33 [.st .segm, .sc (.int .i64)] (fun x => (w_szSegment x.1 x.2.1)) (fun v => [rv (.sc (.int .i64)) [] v]) (fun x => w_szSegment_c x.1 x.2.1)

theorem w_szSegment_sm (x0 : Segm) (x1 : Int)  (hn : 0 ≤ x1 ∧ x1 ≤ 1048576) (hx0_body : List.length x0.body ≤ 4611686018427387904) : (fun v : Int => 0 ≤ v → v ≤ 1048576 ∧ List.length x0.body ≤ 1048576) (w_szSegment x0 x1) := by
  unfold w_szSegment
  exact bifP (P := (fun v : Int => 0 ≤ v → v ≤ 1048576 ∧ List.length x0.body ≤ 1048576)) (fun b0 => (by (try simp only [Nat.ble_eq, Bool.and_eq_true, decide_eq_true_eq]); grind [maxSl, maxStr, toBytes_length, toInts_length, List.length_set, wrap64]))
      (fun b0 => (by (try simp only [Nat.ble_eq, Bool.and_eq_true, decide_eq_true_eq]); grind [maxSl, maxStr, toBytes_length, toInts_length, List.length_set, wrap64]))

/-- laws.toTuple -/
def w_toTuple_N (x0 : Tupl) (γ : Type) (fail : γ) (k : Tupl → γ) : γ :=
  k x0
def w_toTuple (x0 : Tupl) : Tupl :=
  x0
theorem w_toTuple_lk (x0 : Tupl) : evalFn te (orcOf (P := Try.prog) []) lorc0 [] Try.f35 (pvs [.st .tupl] (x0, ())) =
  w_toTuple_N x0 _ none (fun v => some [(true, [RC.c (.int .i64 v.ip), RC.c (.int .i64 v.port), RC.c (.int .i64 v.my)])]) := by kernel_rfl
theorem w_toTuple_p (x0 : Tupl)   (γ : Type) (fail : γ) (k : Tupl → γ) : w_toTuple_N x0 γ fail k = k (w_toTuple x0) := by
  unfold w_toTuple_N w_toTuple
  exact rfl
theorem w_toTuple_c (x0 : Tupl)  : Con Try.prog 35 (pvs [.st .tupl] (x0, ())) [rv (.st .tupl) [] (w_toTuple x0)] := by
  exact evalFn_con0 teFact mixFact (orcOf_ok _) Try.func35 (by kernel_rfl) ((w_toTuple_lk x0).trans (w_toTuple_p x0  _ _ _))
noncomputable def w_toTuple_e : Ent1 Try.prog := entA 35 [.st .tupl] (fun x => (w_toTuple x.1)) (fun v => [rv (.st .tupl) [] v]) (fun x => w_toTuple_c x.1)


/-- impl.SeqAdd -/
def i_SeqAdd_N (x0 : Int) (x1 : Int) (γ : Type) (fail : γ) (k : Int → γ) : γ :=
  k (bits .and .i64 (IntKind.wrap .i64 (x0 + x1)) 4294967295)
def i_SeqAdd (x0 : Int) (x1 : Int) : Int :=
  (bits .and .i64 (IntKind.wrap .i64 (x0 + x1)) 4294967295)
theorem i_SeqAdd_lk (x0 : Int) (x1 : Int) : evalFn te (orcOf (P := Try.prog) []) lorc0 [] Try.f45 (pvs [.sc (.int .i64), .sc (.int .i64)] (x0, x1, ())) =
  i_SeqAdd_N x0 x1 _ none (fun v => some [(false, [RC.c (.int .i64 v)])]) := by kernel_rfl
theorem i_SeqAdd_p (x0 : Int) (x1 : Int)   (γ : Type) (fail : γ) (k : Int → γ) : i_SeqAdd_N x0 x1 γ fail k = k (i_SeqAdd x0 x1) := by
  unfold i_SeqAdd_N i_SeqAdd
  exact rfl
theorem i_SeqAdd_c (x0 : Int) (x1 : Int)  : Con Try.prog 45 (pvs [.sc (.int .i64), .sc (.int .i64)] (x0, x1, ())) [rv (.sc (.int .i64)) [] (i_SeqAdd x0 x1)] := by
  exact evalFn_con0 teFact mixFact (orcOf_ok _) Try.func45 (by kernel_rfl) ((i_SeqAdd_lk x0 x1).trans (i_SeqAdd_p x0 x1  _ _ _))
noncomputable def i_SeqAdd_e : Ent1 Try.prog := entA 45 [.sc (.int .i64), .sc (.int .i64)] (fun x => (i_SeqAdd x.1 x.2.1)) (fun v => [rv (.sc (.int .i64)) [] v]) (fun x => i_SeqAdd_c x.1 x.2.1)


/-- spec.l4Rest -/
def s_l4Rest_N (x0 : Int) (γ : Type) (fail : γ) (k : Int → γ) : γ :=
  bif (decide ((x0.tmod 4294967296) < 0)) then
    k (IntKind.wrap .i64 ((x0.tmod 4294967296) + 4294967296))
  else
  k (x0.tmod 4294967296)
def s_l4Rest (x0 : Int) : Int :=
  bif (decide ((x0.tmod 4294967296) < 0)) then
    (IntKind.wrap .i64 ((x0.tmod 4294967296) + 4294967296))
  else
  (x0.tmod 4294967296)
theorem s_l4Rest_lk (x0 : Int) : evalFn te (orcOf (P := Try.prog) []) lorc0 [] Try.f54 (pvs [.sc (.int .i64)] (x0, ())) =
  s_l4Rest_N x0 _ none (fun v => some [(false, [RC.c (.int .i64 v)])]) := by kernel_rfl
theorem s_l4Rest_p (x0 : Int)   (γ : Type) (fail : γ) (k : Int → γ) : s_l4Rest_N x0 γ fail k = k (s_l4Rest x0) := by
  unfold s_l4Rest_N s_l4Rest
  exact bifT (f := k) (fun b0 => rfl)
      (fun b0 => rfl)
theorem s_l4Rest_c (x0 : Int)  : Con Try.prog 54 (pvs [.sc (.int .i64)] (x0, ())) [rv (.sc (.int .i64)) [] (s_l4Rest x0)] := by
  exact evalFn_con0 teFact mixFact (orcOf_ok _) Try.func54 (by kernel_rfl) ((s_l4Rest_lk x0).trans (s_l4Rest_p x0  _ _ _))
noncomputable def s_l4Rest_e : Ent1 Try.prog := entA 54 [.sc (.int .i64)] (fun x => (s_l4Rest x.1)) (fun v => [rv (.sc (.int .i64)) [] v]) (fun x => s_l4Rest_c x.1)


/-- impl.peerMss -/
def i_peerMss_N (x0 : Opti) (γ : Type) (fail : γ) (k : Int → γ) : γ :=
  bif (x0.mss == 0) then
    k 536
  else
  k x0.mss
def i_peerMss (x0 : Opti) : Int :=
  bif (x0.mss == 0) then
    536
  else
  x0.mss
theorem i_peerMss_lk (x0 : Opti) : evalFn te (orcOf (P := Try.prog) []) lorc0 [] Try.f57 (pvs [.st .opti] (x0, ())) =
  i_peerMss_N x0 _ none (fun v => some [(false, [RC.c (.int .i64 v)])]) := by kernel_rfl
theorem i_peerMss_p (x0 : Opti)   (γ : Type) (fail : γ) (k : Int → γ) : i_peerMss_N x0 γ fail k = k (i_peerMss x0) := by
  unfold i_peerMss_N i_peerMss
  exact bifT (f := k) (fun b0 => rfl)
      (fun b0 => rfl)
theorem i_peerMss_c (x0 : Opti)  : Con Try.prog 57 (pvs [.st .opti] (x0, ())) [rv (.sc (.int .i64)) [] (i_peerMss x0)] := by
  exact evalFn_con0 teFact mixFact (orcOf_ok _) Try.func57 (by kernel_rfl) ((i_peerMss_lk x0).trans (i_peerMss_p x0  _ _ _))
noncomputable def i_peerMss_e : Ent1 Try.prog := entA 57 [.st .opti] (fun x => (i_peerMss x.1)) (fun v => [rv (.sc (.int .i64)) [] v]) (fun x => i_peerMss_c x.1)


/-- laws.szHalfS -/
def w_szHalfS_N (x0 : List Half) (x1 : Int) (γ : Type) (fail : γ) (k : Int → γ) : γ :=
  bif (decide ((IntKind.wrap .i64 (x1 - (x0.length : Int))) < 0)) then
    k (-1)
  else
  k (IntKind.wrap .i64 (x1 - (x0.length : Int)))
def w_szHalfS (x0 : List Half) (x1 : Int) : Int :=
  bif (decide ((IntKind.wrap .i64 (x1 - (x0.length : Int))) < 0)) then
    (-1)
  else
  (IntKind.wrap .i64 (x1 - (x0.length : Int)))
theorem w_szHalfS_lk (x0 : List Half) (x1 : Int) : evalFn te (orcOf (P := Try.prog) []) lorc0 [] Try.f70 (pvs [.sc (.sl .half), .sc (.int .i64)] (x0, x1, ())) =
  w_szHalfS_N x0 x1 _ none (fun v => some [(false, [RC.c (.int .i64 v)])]) := by kernel_rfl
theorem w_szHalfS_p (x0 : List Half) (x1 : Int)   (γ : Type) (fail : γ) (k : Int → γ) : w_szHalfS_N x0 x1 γ fail k = k (w_szHalfS x0 x1) := by
  unfold w_szHalfS_N w_szHalfS
  exact bifT (f := k) (fun b0 => rfl)
      (fun b0 => rfl)
theorem w_szHalfS_c (x0 : List Half) (x1 : Int)  : Con Try.prog 70 (pvs [.sc (.sl .half), .sc (.int .i64)] (x0, x1, ())) [rv (.sc (.int .i64)) [] (w_szHalfS x0 x1)] := by
  exact evalFn_con0 teFact mixFact (orcOf_ok _) Try.func70 (by kernel_rfl) ((w_szHalfS_lk x0 x1).trans (w_szHalfS_p x0 x1  _ _ _))
noncomputable def w_szHalfS_e : Ent1 Try.prog := entA 70 [.sc (.sl .half), .sc (.int .i64)] (fun x => (w_szHalfS x.1 x.2.1)) (fun v => [rv (.sc (.int .i64)) [] v]) (fun x => w_szHalfS_c x.1 x.2.1)


/-- laws.toLimits -/
def w_toLimits_N (x0 : Limi) (γ : Type) (fail : γ) (k : Limi → γ) : γ :=
  k x0
def w_toLimits (x0 : Limi) : Limi :=
  x0
theorem w_toLimits_lk (x0 : Limi) : evalFn te (orcOf (P := Try.prog) []) lorc0 [] Try.f73 (pvs [.st .limi] (x0, ())) =
  w_toLimits_N x0 _ none (fun v => some [(true, [RC.c (.int .i64 v.halves), RC.c (.int .i64 v.waiting), RC.c (.int .i64 v.conns), RC.c (.int .i64 v.chal)])]) := by kernel_rfl
theorem w_toLimits_p (x0 : Limi)   (γ : Type) (fail : γ) (k : Limi → γ) : w_toLimits_N x0 γ fail k = k (w_toLimits x0) := by
  unfold w_toLimits_N w_toLimits
  exact rfl
theorem w_toLimits_c (x0 : Limi)  : Con Try.prog 73 (pvs [.st .limi] (x0, ())) [rv (.st .limi) [] (w_toLimits x0)] := by
  exact evalFn_con0 teFact mixFact (orcOf_ok _) Try.func73 (by kernel_rfl) ((w_toLimits_lk x0).trans (w_toLimits_p x0  _ _ _))
noncomputable def w_toLimits_e : Ent1 Try.prog := entA 73 [.st .limi] (fun x => (w_toLimits x.1)) (fun v => [rv (.st .limi) [] v]) (fun x => w_toLimits_c x.1)


/-- laws.eqLimits -/
def w_eqLimits_N (x0 : Limi) (x1 : Limi) (γ : Type) (fail : γ) (k : Bool → γ) : γ :=
  bif (x0.halves != x1.halves) then
    k false
  else
  bif (x0.waiting != x1.waiting) then
    k false
  else
  bif (x0.conns != x1.conns) then
    k false
  else
  bif (x0.chal != x1.chal) then
    k false
  else
  k true
def w_eqLimits (x0 : Limi) (x1 : Limi) : Bool :=
  bif (x0.halves != x1.halves) then
    false
  else
  bif (x0.waiting != x1.waiting) then
    false
  else
  bif (x0.conns != x1.conns) then
    false
  else
  bif (x0.chal != x1.chal) then
    false
  else
  true
theorem w_eqLimits_lk (x0 : Limi) (x1 : Limi) : evalFn te (orcOf (P := Try.prog) []) lorc0 [] Try.f77 (pvs [.st .limi, .st .limi] (x0, x1, ())) =
  w_eqLimits_N x0 x1 _ none (fun v => some [(false, [RC.c (.bool v)])]) := by kernel_rfl
theorem w_eqLimits_p (x0 : Limi) (x1 : Limi)   (γ : Type) (fail : γ) (k : Bool → γ) : w_eqLimits_N x0 x1 γ fail k = k (w_eqLimits x0 x1) := by
  unfold w_eqLimits_N w_eqLimits
  exact bifT (f := k) (fun b0 => rfl)
      (fun b0 => bifT (f := k) (fun b1 => rfl)
      (fun b1 => bifT (f := k) (fun b2 => rfl)
      (fun b2 => bifT (f := k) (fun b3 => rfl)
      (fun b3 => rfl))))
theorem w_eqLimits_c (x0 : Limi) (x1 : Limi)  : Con Try.prog 77 (pvs [.st .limi, .st .limi] (x0, x1, ())) [rv (.sc .bool) [] (w_eqLimits x0 x1)] := by
  exact evalFn_con0 teFact mixFact (orcOf_ok _) Try.func77 (by kernel_rfl) ((w_eqLimits_lk x0 x1).trans (w_eqLimits_p x0 x1  _ _ _))
noncomputable def w_eqLimits_e : Ent1 Try.prog := entA 77 [.st .limi, .st .limi] (fun x => (w_eqLimits x.1 x.2.1)) (fun v => [rv (.sc .bool) [] v]) (fun x => w_eqLimits_c x.1 x.2.1)


/-- laws.toOptions -/
def w_toOptions_N (x0 : Opti) (γ : Type) (fail : γ) (k : Opti → γ) : γ :=
  k x0
def w_toOptions (x0 : Opti) : Opti :=
  x0
theorem w_toOptions_lk (x0 : Opti) : evalFn te (orcOf (P := Try.prog) []) lorc0 [] Try.f89 (pvs [.st .opti] (x0, ())) =
  w_toOptions_N x0 _ none (fun v => some [(true, [RC.c (.int .i64 v.mss), RC.c (.int .i64 v.scale), RC.c (.bool v.sack), RC.c (.bool v.stamp), RC.c (.int .i64 v.val), RC.c (.int .i64 v.echo)])]) := by kernel_rfl
theorem w_toOptions_p (x0 : Opti)   (γ : Type) (fail : γ) (k : Opti → γ) : w_toOptions_N x0 γ fail k = k (w_toOptions x0) := by
  unfold w_toOptions_N w_toOptions
  exact rfl
theorem w_toOptions_c (x0 : Opti)  : Con Try.prog 89 (pvs [.st .opti] (x0, ())) [rv (.st .opti) [] (w_toOptions x0)] := by
  exact evalFn_con0 teFact mixFact (orcOf_ok _) Try.func89 (by kernel_rfl) ((w_toOptions_lk x0).trans (w_toOptions_p x0  _ _ _))
noncomputable def w_toOptions_e : Ent1 Try.prog := entA 89 [.st .opti] (fun x => (w_toOptions x.1)) (fun v => [rv (.st .opti) [] v]) (fun x => w_toOptions_c x.1)


/-- laws.eqOptions -/
def w_eqOptions_N (x0 : Opti) (x1 : Opti) (γ : Type) (fail : γ) (k : Bool → γ) : γ :=
  bif (x0.mss != x1.mss) then
    k false
  else
  bif (x0.scale != x1.scale) then
    k false
  else
  bif (!(x0.sack == x1.sack)) then
    k false
  else
  bif (!(x0.stamp == x1.stamp)) then
    k false
  else
  bif (x0.val != x1.val) then
    k false
  else
  bif (x0.echo != x1.echo) then
    k false
  else
  k true
def w_eqOptions (x0 : Opti) (x1 : Opti) : Bool :=
  bif (x0.mss != x1.mss) then
    false
  else
  bif (x0.scale != x1.scale) then
    false
  else
  bif (!(x0.sack == x1.sack)) then
    false
  else
  bif (!(x0.stamp == x1.stamp)) then
    false
  else
  bif (x0.val != x1.val) then
    false
  else
  bif (x0.echo != x1.echo) then
    false
  else
  true
theorem w_eqOptions_lk (x0 : Opti) (x1 : Opti) : evalFn te (orcOf (P := Try.prog) []) lorc0 [] Try.f92 (pvs [.st .opti, .st .opti] (x0, x1, ())) =
  w_eqOptions_N x0 x1 _ none (fun v => some [(false, [RC.c (.bool v)])]) := by kernel_rfl
theorem w_eqOptions_p (x0 : Opti) (x1 : Opti)   (γ : Type) (fail : γ) (k : Bool → γ) : w_eqOptions_N x0 x1 γ fail k = k (w_eqOptions x0 x1) := by
  unfold w_eqOptions_N w_eqOptions
  exact bifT (f := k) (fun b0 => rfl)
      (fun b0 => bifT (f := k) (fun b1 => rfl)
      (fun b1 => bifT (f := k) (fun b2 => rfl)
      (fun b2 => bifT (f := k) (fun b3 => rfl)
      (fun b3 => bifT (f := k) (fun b4 => rfl)
      (fun b4 => bifT (f := k) (fun b5 => rfl)
      (fun b5 => rfl))))))
theorem w_eqOptions_c (x0 : Opti) (x1 : Opti)  : Con Try.prog 92 (pvs [.st .opti, .st .opti] (x0, x1, ())) [rv (.sc .bool) [] (w_eqOptions x0 x1)] := by
  exact evalFn_con0 teFact mixFact (orcOf_ok _) Try.func92 (by kernel_rfl) ((w_eqOptions_lk x0 x1).trans (w_eqOptions_p x0 x1  _ _ _))
noncomputable def w_eqOptions_e : Ent1 Try.prog := entA 92 [.st .opti, .st .opti] (fun x => (w_eqOptions x.1 x.2.1)) (fun v => [rv (.sc .bool) [] v]) (fun x => w_eqOptions_c x.1 x.2.1)


/-- impl.within -/
def i_within_N (x0 : Int) (x1 : Int) (x2 : Int) (γ : Type) (fail : γ) (k : Bool → γ) : γ :=
  bif (decide (x1 ≤ x0)) then
    k (decide (x0 ≤ x2))
  else
  k false
def i_within (x0 : Int) (x1 : Int) (x2 : Int) : Bool :=
  bif (decide (x1 ≤ x0)) then
    (decide (x0 ≤ x2))
  else
  false
theorem i_within_lk (x0 : Int) (x1 : Int) (x2 : Int) : evalFn te (orcOf (P := Try.prog) []) lorc0 [] Try.f102 (pvs [.sc (.int .i64), .sc (.int .i64), .sc (.int .i64)] (x0, x1, x2, ())) =
  i_within_N x0 x1 x2 _ none (fun v => some [(false, [RC.c (.bool v)])]) := by kernel_rfl
theorem i_within_p (x0 : Int) (x1 : Int) (x2 : Int)   (γ : Type) (fail : γ) (k : Bool → γ) : i_within_N x0 x1 x2 γ fail k = k (i_within x0 x1 x2) := by
  unfold i_within_N i_within
  exact bifT (f := k) (fun b0 => rfl)
      (fun b0 => rfl)
theorem i_within_c (x0 : Int) (x1 : Int) (x2 : Int)  : Con Try.prog 102 (pvs [.sc (.int .i64), .sc (.int .i64), .sc (.int .i64)] (x0, x1, x2, ())) [rv (.sc .bool) [] (i_within x0 x1 x2)] := by
  exact evalFn_con0 teFact mixFact (orcOf_ok _) Try.func102 (by kernel_rfl) ((i_within_lk x0 x1 x2).trans (i_within_p x0 x1 x2  _ _ _))
noncomputable def i_within_e : Ent1 Try.prog := entA 102 [.sc (.int .i64), .sc (.int .i64), .sc (.int .i64)] (fun x => (i_within x.1 x.2.1 x.2.2.1)) (fun v => [rv (.sc .bool) [] v]) (fun x => i_within_c x.1 x.2.1 x.2.2.1)

theorem i_within_eq (n lo hi : Int) : i_within n lo hi = (decide (lo ≤ n) && decide (n ≤ hi)) := by
  unfold i_within
  cases decide (lo ≤ n) <;> rfl


/-- spec.l1In -/
def s_l1In_N (x0 : Int) (x1 : Int) (x2 : Int) (γ : Type) (fail : γ) (k : Bool → γ) : γ :=
  bif (decide (x1 ≤ x0)) then
    k (decide (x0 ≤ x2))
  else
  k false
def s_l1In (x0 : Int) (x1 : Int) (x2 : Int) : Bool :=
  bif (decide (x1 ≤ x0)) then
    (decide (x0 ≤ x2))
  else
  false
theorem s_l1In_lk (x0 : Int) (x1 : Int) (x2 : Int) : evalFn te (orcOf (P := Try.prog) []) lorc0 [] Try.f103 (pvs [.sc (.int .i64), .sc (.int .i64), .sc (.int .i64)] (x0, x1, x2, ())) =
  s_l1In_N x0 x1 x2 _ none (fun v => some [(false, [RC.c (.bool v)])]) := by kernel_rfl
theorem s_l1In_p (x0 : Int) (x1 : Int) (x2 : Int)   (γ : Type) (fail : γ) (k : Bool → γ) : s_l1In_N x0 x1 x2 γ fail k = k (s_l1In x0 x1 x2) := by
  unfold s_l1In_N s_l1In
  exact bifT (f := k) (fun b0 => rfl)
      (fun b0 => rfl)
theorem s_l1In_c (x0 : Int) (x1 : Int) (x2 : Int)  : Con Try.prog 103 (pvs [.sc (.int .i64), .sc (.int .i64), .sc (.int .i64)] (x0, x1, x2, ())) [rv (.sc .bool) [] (s_l1In x0 x1 x2)] := by
  exact evalFn_con0 teFact mixFact (orcOf_ok _) Try.func103 (by kernel_rfl) ((s_l1In_lk x0 x1 x2).trans (s_l1In_p x0 x1 x2  _ _ _))
noncomputable def s_l1In_e : Ent1 Try.prog := entA 103 [.sc (.int .i64), .sc (.int .i64), .sc (.int .i64)] (fun x => (s_l1In x.1 x.2.1 x.2.2.1)) (fun v => [rv (.sc .bool) [] v]) (fun x => s_l1In_c x.1 x.2.1 x.2.2.1)

theorem s_l1In_eq (n lo hi : Int) : s_l1In n lo hi = (decide (lo ≤ n) && decide (n ≤ hi)) := by
  unfold s_l1In
  cases decide (lo ≤ n) <;> rfl


/-- laws.szTupleS -/
def w_szTupleS_N (x0 : List Tupl) (x1 : Int) (γ : Type) (fail : γ) (k : Int → γ) : γ :=
  bif (decide ((IntKind.wrap .i64 (x1 - (x0.length : Int))) < 0)) then
    k (-1)
  else
  k (IntKind.wrap .i64 (x1 - (x0.length : Int)))
def w_szTupleS (x0 : List Tupl) (x1 : Int) : Int :=
  bif (decide ((IntKind.wrap .i64 (x1 - (x0.length : Int))) < 0)) then
    (-1)
  else
  (IntKind.wrap .i64 (x1 - (x0.length : Int)))
theorem w_szTupleS_lk (x0 : List Tupl) (x1 : Int) : evalFn te (orcOf (P := Try.prog) []) lorc0 [] Try.f121 (pvs [.sc (.sl .tupl), .sc (.int .i64)] (x0, x1, ())) =
  w_szTupleS_N x0 x1 _ none (fun v => some [(false, [RC.c (.int .i64 v)])]) := by kernel_rfl
theorem w_szTupleS_p (x0 : List Tupl) (x1 : Int)   (γ : Type) (fail : γ) (k : Int → γ) : w_szTupleS_N x0 x1 γ fail k = k (w_szTupleS x0 x1) := by
  unfold w_szTupleS_N w_szTupleS
  exact bifT (f := k) (fun b0 => rfl)
      (fun b0 => rfl)
theorem w_szTupleS_c (x0 : List Tupl) (x1 : Int)  : Con Try.prog 121 (pvs [.sc (.sl .tupl), .sc (.int .i64)] (x0, x1, ())) [rv (.sc (.int .i64)) [] (w_szTupleS x0 x1)] := by
  exact evalFn_con0 teFact mixFact (orcOf_ok _) Try.func121 (by kernel_rfl) ((w_szTupleS_lk x0 x1).trans (w_szTupleS_p x0 x1  _ _ _))
noncomputable def w_szTupleS_e : Ent1 Try.prog := entA 121 [.sc (.sl .tupl), .sc (.int .i64)] (fun x => (w_szTupleS x.1 x.2.1)) (fun v => [rv (.sc (.int .i64)) [] v]) (fun x => w_szTupleS_c x.1 x.2.1)


/-- laws.toHalf -/
def w_toHalf_N (x0 : Half) (γ : Type) (fail : γ) (k : Half → γ) : γ :=
  letK (α := Tupl) (w_toTuple x0.tuple) fun c1 =>
  letK (α := Opti) (w_toOptions x0.opts) fun c2 =>
  k (⟨c1, x0.iss, x0.irs, c2, x0.age, x0.window⟩ : Half)
def w_toHalf (x0 : Half) : Half :=
  letK (α := Tupl) (w_toTuple x0.tuple) fun c1 =>
  letK (α := Opti) (w_toOptions x0.opts) fun c2 =>
  (⟨c1, x0.iss, x0.irs, c2, x0.age, x0.window⟩ : Half)
theorem w_toHalf_lk (x0 : Half) : evalFn te (orcOf (P := Try.prog) [w_toTuple_e, w_toOptions_e]) lorc0 [] Try.f123 (pvs [.st .half] (x0, ())) =
  w_toHalf_N x0 _ none (fun v => some [(true, [RC.c (.int .i64 v.tuple.ip), RC.c (.int .i64 v.tuple.port), RC.c (.int .i64 v.tuple.my), RC.c (.int .i64 v.iss), RC.c (.int .i64 v.irs), RC.c (.int .i64 v.opts.mss), RC.c (.int .i64 v.opts.scale), RC.c (.bool v.opts.sack), RC.c (.bool v.opts.stamp), RC.c (.int .i64 v.opts.val), RC.c (.int .i64 v.opts.echo), RC.c (.int .i64 v.age), RC.c (.int .i64 v.window)])]) := by kernel_rfl
theorem w_toHalf_p (x0 : Half)   (γ : Type) (fail : γ) (k : Half → γ) : w_toHalf_N x0 γ fail k = k (w_toHalf x0) := by
  unfold w_toHalf_N w_toHalf
  exact letT (f := k) (fun c1 hc1 => letT (f := k) (fun c2 hc2 => rfl))
theorem w_toHalf_c (x0 : Half)  : Con Try.prog 123 (pvs [.st .half] (x0, ())) [rv (.st .half) [] (w_toHalf x0)] := by
  exact evalFn_con0 teFact mixFact (orcOf_ok _) Try.func123 (by kernel_rfl) ((w_toHalf_lk x0).trans (w_toHalf_p x0  _ _ _))
noncomputable def w_toHalf_e : Ent1 Try.prog := entA 123 [.st .half] (fun x => (w_toHalf x.1)) (fun v => [rv (.st .half) [] v]) (fun x => w_toHalf_c x.1)


/-- laws.toTupleS -/
def w_toTupleS_ann : List (Nat × Keep) := [(0, ⟨[0, 3, 4], [], false, 0⟩)]
def w_toTupleS_L0_sh : Sh := ⟨[(0, false, [.sl .arg .tupl]), (3, false, [.own 0]), (4, false, [.int .i64])], [.arr .tupl false true]⟩
def w_toTupleS_L0_es : List (Ex × Sh) := [(.exit 0, ⟨[(2, false, [.undef]), (3, false, [.own 0])], [.arr .tupl false true]⟩)]
def w_toTupleS_L0_mk (v0 : List Tupl) (v1 : Int) (v2 : List Tupl) : w_toTupleS_L0_sh.T := (((v0, ()), (((), ()), ((v1, ()), ()))), (v2, ()))
def w_toTupleS_L0_mx0 (y0 : List Tupl) : Sh.T ⟨[(2, false, [.undef]), (3, false, [.own 0])], [.arr .tupl false true]⟩ := ((((), ()), (((), ()), ())), (y0, ()))
def w_toTupleS_L0_B (v0 : List Tupl) (v1 : Int) (v2 : List Tupl) (γ : Type) (fail : γ) (next : w_toTupleS_L0_sh.T → γ) (out : WT w_toTupleS_L0_es → γ) : γ :=
  bif (decide (v1 < (v0.length : Int))) then
    bif ((decide (0 ≤ v1)) && (decide (v1 < (v0.length : Int)))) then
    letK (α := Tupl) (w_toTuple (v0.getD v1.toNat (Ty.zero .tupl))) fun c1 =>
    bif ((decide (0 ≤ v1)) && (decide (v1 < (v2.length : Int)))) then
    next (w_toTupleS_L0_mk v0 (IntKind.wrap .i64 (v1 + 1)) (v2.set v1.toNat c1))
    else fail
    else fail
  else
  out (w_toTupleS_L0_mx0 v2)
theorem w_toTupleS_L0_par (v0 : List Tupl) (v1 : Int) (v2 : List Tupl) (γ : Type) (fail : γ) (next : w_toTupleS_L0_sh.T → γ) (out : WT w_toTupleS_L0_es → γ) : w_toTupleS_L0_B v0 v1 v2 γ fail next out = optK (w_toTupleS_L0_B v0 v1 v2 _ none (fun v' => some (.inl v')) (fun w => some (.inr w))) fail (fun r => Sum.elim next out r) := by
  unfold w_toTupleS_L0_B
  exact bifT (f := (fun o => optK o fail (fun r => Sum.elim next out r))) (fun _ => bifT (f := (fun o => optK o fail (fun r => Sum.elim next out r))) (fun _ => letT (f := (fun o => optK o fail (fun r => Sum.elim next out r))) (fun c1 _ => bifT (f := (fun o => optK o fail (fun r => Sum.elim next out r))) (fun _ => rfl) (fun _ => rfl))) (fun _ => rfl))
      (fun _ => rfl)
def w_toTupleS_L0_r : Round w_toTupleS_L0_sh.T (WT w_toTupleS_L0_es) where
  B v γ fail next out := w_toTupleS_L0_B v.1.1.1 v.1.2.2.1.1 v.2.1 γ fail next out
  par v γ fail next out := w_toTupleS_L0_par v.1.1.1 v.1.2.2.1.1 v.2.1 γ fail next out
def w_toTupleS_L0_fu (v0 : List Tupl) (v1 : Int) (v2 : List Tupl) : Nat := (Int.toNat ((v0.length : Int) - v1)) + 1
theorem w_toTupleS_L0_lk (v : w_toTupleS_L0_sh.T) (next : St → Option Res) (k : Ex → St → Option Res) : evalK te (orcOf (P := Try.prog) [w_toTuple_e]) (lorcOf []) Try.f125.ntmps w_toTupleS_ann (nthLoop (bodyOf Try.f125) 0 0) 0 (w_toTupleS_L0_sh.enc v) (endK ⟨[0, 3, 4], [], false, 0⟩ ⟨[2, 3], [], false, 0⟩ next k) =
  w_toTupleS_L0_r.B v _ none (fun v' => next (w_toTupleS_L0_sh.enc v')) (fun w => outK w_toTupleS_L0_es k w) := by kernel_rfl
def w_toTupleS_L0_le : LE := leOf 0 w_toTupleS_L0_sh w_toTupleS_L0_es w_toTupleS_L0_r.step (fun v => w_toTupleS_L0_fu v.1.1.1 v.1.2.2.1.1 v.2.1)
theorem w_toTupleS_L0_ls (w0 : World) (mo : Mts) (I0 : Nat → Prop) (hmo : mo.length = 0) : LSem Try.prog (Sim w0 mo Try.f125.ntmps I0) (fun b s k => match Nat.beq 0 b with | true => w_toTupleS_L0_le.run s k | false => none) 0 (nthLoop (bodyOf Try.f125) 0 0) :=
  le_sem hmo (lorc := lorcOf []) (ann := w_toTupleS_ann) (keep := ⟨[0, 3, 4], [], false, 0⟩) (kout := ⟨[2, 3], [], false, 0⟩) teFact mixFact (orcOf_ok _) (by kernel_rfl) (allLoops_of (bs := []) (by kernel_rfl) trivial) w_toTupleS_L0_r _ w_toTupleS_L0_lk
def w_toTupleS_L0_f (v0 : List Tupl) (v1 : Int) (a : List Tupl) : Stp (List Tupl) (Empty) :=
  letK (α := Tupl) (w_toTuple (v0.getD v1.toNat (Ty.zero .tupl))) fun c1 =>
  .next (a.set v1.toNat c1)
theorem w_toTupleS_L0_st (v0 : List Tupl) (v1 : Int) (v2 : List Tupl) (hlo : 0 ≤ v1) (hhi : v1 < (v0.length : Int)) (hN : (v0.length : Int) ≤ 4611686018427387904) (hinv : (v0.length : Int) ≤ (v2.length : Int)) : w_toTupleS_L0_r.step (w_toTupleS_L0_mk v0 v1 v2) = Stp.elim (fun a' : List Tupl => some (Sum.inl (w_toTupleS_L0_mk v0 (v1 + 1) a'))) (fun w => some (Sum.inr ((fun p : Empty => nomatch p) w))) (w_toTupleS_L0_f v0 v1 v2) := by
  have hw : (IntKind.wrap .i64 (v1 + 1)) = v1 + 1 := wrap64 (by omega) (by omega)
  show w_toTupleS_L0_B v0 v1 v2 (Option (w_toTupleS_L0_sh.T ⊕ WT w_toTupleS_L0_es)) none (fun v' => some (Sum.inl v')) (fun w => some (Sum.inr w)) = _
  unfold w_toTupleS_L0_B w_toTupleS_L0_f
  exact bifG (by simp only [decide_eq_true_eq]; omega) (bifG (by (try simp only [Nat.ble_eq, Bool.and_eq_true, decide_eq_true_eq]); grind [maxSl, maxStr, toBytes_length, toInts_length, List.length_set, wrap64]) (letT (f := (Stp.elim (fun a' : List Tupl => some (Sum.inl (w_toTupleS_L0_mk v0 (v1 + 1) a'))) (fun w => some (Sum.inr ((fun p : Empty => nomatch p) w))))) (fun c1 hc1 => bifG (by (try simp only [Nat.ble_eq, Bool.and_eq_true, decide_eq_true_eq]); grind [maxSl, maxStr, toBytes_length, toInts_length, List.length_set, wrap64]) ((by exact congrArg (fun z => some (Sum.inl (w_toTupleS_L0_mk v0 z (v2.set v1.toNat c1)))) hw)))))
theorem w_toTupleS_L0_cl (v0 : List Tupl) (v1 : Int) (v2 : List Tupl) (h0 : 0 ≤ v1) (h1 : (v0.length : Int) ≤ 4611686018427387904) (h2 : (v0.length : Int) ≤ (v2.length : Int)) : loopF w_toTupleS_L0_r.step (w_toTupleS_L0_fu v0 v1 v2) (w_toTupleS_L0_mk v0 v1 v2) = some (Stp.elim (fun a => (fun i a => w_toTupleS_L0_mx0 a) (v1 + 1 * (((Int.toNat ((v0.length : Int) - v1)) : Nat) : Int)) a) (fun p : Empty => nomatch p) (forN (w_toTupleS_L0_f v0) 1 (Int.toNat ((v0.length : Int) - v1)) v1 v2)) :=
  forN_loop (step := w_toTupleS_L0_r.step) (mk := fun v1 a => w_toTupleS_L0_mk v0 v1 a) (f := w_toTupleS_L0_f v0) (e := (fun i a => w_toTupleS_L0_mx0 a)) (emb := (fun p : Empty => nomatch p)) (st := 1) (Inv := fun v1 a => (v0.length : Int) ≤ (a.length : Int)) (Int.toNat ((v0.length : Int) - v1)) v1 v2 _ (Nat.lt_succ_self _) h2
    (fun j a hj hv => ⟨w_toTupleS_L0_st v0 (v1 + 1 * (j : Int)) a (by omega) (by omega) (by omega) hv, by
      intro a' he
      grind [w_toTupleS_L0_f, letK, Stp.elim, wrap64, List.length_set]⟩)
    (fun a hv => by
      show w_toTupleS_L0_B v0 (v1 + 1 * (((Int.toNat ((v0.length : Int) - v1)) : Nat) : Int)) a (Option (w_toTupleS_L0_sh.T ⊕ WT w_toTupleS_L0_es)) none (fun v' => some (Sum.inl v')) (fun w => some (Sum.inr w)) = _
      unfold w_toTupleS_L0_B
      exact bifN (by simp only [decide_eq_false_iff_not]; omega) rfl)
theorem w_toTupleS_L0_nx (v0 : List Tupl) (v1 : Int) (v2 : List Tupl) (h0 : 0 ≤ v1) (h1 : (v0.length : Int) ≤ 4611686018427387904) (h2 : (v0.length : Int) ≤ (v2.length : Int)) : ∀ a', forN (w_toTupleS_L0_f v0) 1 (Int.toNat ((v0.length : Int) - v1)) v1 v2 = .next a' → (v0.length : Int) ≤ (a'.length : Int) :=
  forN_inv (f := w_toTupleS_L0_f v0) (st := 1) (Inv := fun v1 a => (v0.length : Int) ≤ (a.length : Int)) (Int.toNat ((v0.length : Int) - v1)) v1 v2 h2
    (fun j a hj hv => by
      intro a' he
      grind [w_toTupleS_L0_f, letK, Stp.elim, wrap64, List.length_set])
def w_toTupleS_N (x0 : List Tupl) (γ : Type) (fail : γ) (k : List Tupl → γ) : γ :=
  bif ((((decide (0 ≤ (x0.length : Int))) && (decide ((x0.length : Int) = (x0.length : Int)))) && (decide ((x0.length : Int) * 24 ≤ (maxSl : Int)))) && (decide ((x0.length : Int) ≤ (maxSl : Int)))) then
  optK (loopF w_toTupleS_L0_r.step (w_toTupleS_L0_fu x0 0 (List.replicate ((x0.length : Int).toNat) (⟨0, 0, 0⟩ : Tupl))) (w_toTupleS_L0_mk x0 0 (List.replicate ((x0.length : Int).toNat) (⟨0, 0, 0⟩ : Tupl)))) fail fun w2 =>
    k w2.2.1
  else fail
def w_toTupleS (x0 : List Tupl) : List Tupl :=
  Stp.elim (fun a3 =>
    a3)
    (fun p : Empty => nomatch p)
    (forN (w_toTupleS_L0_f x0) 1 (Int.toNat ((x0.length : Int) - 0)) 0 (List.replicate ((x0.length : Int).toNat) (⟨0, 0, 0⟩ : Tupl)))
theorem w_toTupleS_lk (x0 : List Tupl) : evalFn te (orcOf (P := Try.prog) [w_toTuple_e]) (lorcOf [w_toTupleS_L0_le]) w_toTupleS_ann Try.f125 (pvs [.sc (.sl .tupl)] (x0, ())) =
  w_toTupleS_N x0 _ none (fun v => some [(false, [RC.own true .tupl v])]) := by kernel_rfl
theorem w_toTupleS_p (x0 : List Tupl) (hx0 : x0.length ≤ 140737488355328) (hp : x0.length ≤ 4294967296) (γ : Type) (fail : γ) (k : List Tupl → γ) : w_toTupleS_N x0 γ fail k = k (w_toTupleS x0) := by
  unfold w_toTupleS_N w_toTupleS
  exact bifG (by (try simp only [Nat.ble_eq, Bool.and_eq_true, decide_eq_true_eq, w_toTupleS_L0_mx0]); grind [maxSl, maxStr, toBytes_length, toInts_length, List.length_set, wrap64]) (loopX (f := k) (w_toTupleS_L0_cl x0 0 (List.replicate ((x0.length : Int).toNat) (⟨0, 0, 0⟩ : Tupl)) (by (try simp only [Nat.ble_eq, Bool.and_eq_true, decide_eq_true_eq, w_toTupleS_L0_mx0]); grind [maxSl, maxStr, toBytes_length, toInts_length, List.length_set, wrap64]) (by (try simp only [Nat.ble_eq, Bool.and_eq_true, decide_eq_true_eq, w_toTupleS_L0_mx0]); grind [maxSl, maxStr, toBytes_length, toInts_length, List.length_set, wrap64]) (by (try simp only [Nat.ble_eq, Bool.and_eq_true, decide_eq_true_eq, w_toTupleS_L0_mx0]); grind [maxSl, maxStr, toBytes_length, toInts_length, List.length_set, wrap64])) (fun a3 ha3 => have ia3 := w_toTupleS_L0_nx x0 0 (List.replicate ((x0.length : Int).toNat) (⟨0, 0, 0⟩ : Tupl)) (by (try simp only [Nat.ble_eq, Bool.and_eq_true, decide_eq_true_eq, w_toTupleS_L0_mx0]); grind [maxSl, maxStr, toBytes_length, toInts_length, List.length_set, wrap64]) (by (try simp only [Nat.ble_eq, Bool.and_eq_true, decide_eq_true_eq, w_toTupleS_L0_mx0]); grind [maxSl, maxStr, toBytes_length, toInts_length, List.length_set, wrap64]) (by (try simp only [Nat.ble_eq, Bool.and_eq_true, decide_eq_true_eq, w_toTupleS_L0_mx0]); grind [maxSl, maxStr, toBytes_length, toInts_length, List.length_set, wrap64]) _ ha3; rfl)
      (fun p : Empty => nomatch p))
theorem w_toTupleS_c (x0 : List Tupl) (hp : x0.length ≤ 4294967296) : Con Try.prog 125 (pvs [.sc (.sl .tupl)] (x0, ())) [rv (.sc (.sl .tupl)) [.o true] (w_toTupleS x0)] := by
  refine Con.of_facts (enters_of Try.func125 rfl (by kernel_rfl)) fun hf => ?_
  replace hf := factAt hf
  exact evalFn_conL teFact mixFact (orcOf_ok _) Try.func125 (by kernel_rfl) (bs := [0]) (by kernel_rfl) (by kernel_rfl) (fun w0 mo I0 hmo => ⟨lsem_of_lorc (w_toTupleS_L0_ls w0 mo I0 hmo) (by kernel_rfl), trivial⟩) ((w_toTupleS_lk x0).trans (w_toTupleS_p x0 ((hf 0 0 rfl rfl).len) hp _ _ _))
noncomputable def w_toTupleS_e : Ent1 Try.prog := entP 125 [.sc (.sl .tupl)] (fun x => (decide (x.1.length ≤ 4294967296))) (fun x => (w_toTupleS x.1)) (fun v => [rv (.sc (.sl .tupl)) [.o true] v]) (fun x hx => w_toTupleS_c x.1 (of_decide_eq_true hx))


/-- spec.l1Max -/
def s_l1Max_N (x0 : Int) (x1 : Int) (γ : Type) (fail : γ) (k : Int → γ) : γ :=
  bif (decide (x1 < x0)) then
    k x0
  else
  k x1
def s_l1Max (x0 : Int) (x1 : Int) : Int :=
  bif (decide (x1 < x0)) then
    x0
  else
  x1
theorem s_l1Max_lk (x0 : Int) (x1 : Int) : evalFn te (orcOf (P := Try.prog) []) lorc0 [] Try.f140 (pvs [.sc (.int .i64), .sc (.int .i64)] (x0, x1, ())) =
  s_l1Max_N x0 x1 _ none (fun v => some [(false, [RC.c (.int .i64 v)])]) := by kernel_rfl
theorem s_l1Max_p (x0 : Int) (x1 : Int)   (γ : Type) (fail : γ) (k : Int → γ) : s_l1Max_N x0 x1 γ fail k = k (s_l1Max x0 x1) := by
  unfold s_l1Max_N s_l1Max
  exact bifT (f := k) (fun b0 => rfl)
      (fun b0 => rfl)
theorem s_l1Max_c (x0 : Int) (x1 : Int)  : Con Try.prog 140 (pvs [.sc (.int .i64), .sc (.int .i64)] (x0, x1, ())) [rv (.sc (.int .i64)) [] (s_l1Max x0 x1)] := by
  exact evalFn_con0 teFact mixFact (orcOf_ok _) Try.func140 (by kernel_rfl) ((s_l1Max_lk x0 x1).trans (s_l1Max_p x0 x1  _ _ _))
noncomputable def s_l1Max_e : Ent1 Try.prog := entA 140 [.sc (.int .i64), .sc (.int .i64)] (fun x => (s_l1Max x.1 x.2.1)) (fun v => [rv (.sc (.int .i64)) [] v]) (fun x => s_l1Max_c x.1 x.2.1)


/-- spec.StampOf -/
def s_StampOf_N (x0 : Int) (x1 : Int) (x2 : Bool) (γ : Type) (fail : γ) (k : Int → γ) : γ :=
  bif x2 then
    letK (α := Bool) (s_l1In x1 0 14) fun c1 =>
    bif c1 then
      letK (α := Int) (s_l4Rest x0) fun c2 =>
      letK (α := Int) (IntKind.wrap .i64 ((IntKind.wrap .i64 (c2 * 64)) + (IntKind.wrap .i64 (48 + x1)))) fun e3 =>
      letK (α := Int) (s_l4Rest e3) fun c4 =>
      k c4
    else
    letK (α := Int) (s_l4Rest x0) fun c5 =>
    letK (α := Int) (s_l4Rest (IntKind.wrap .i64 ((IntKind.wrap .i64 (c5 * 64)) + 63))) fun c6 =>
    k c6
  else
  letK (α := Bool) (s_l1In x1 0 14) fun c7 =>
  bif c7 then
    letK (α := Int) (s_l4Rest x0) fun c8 =>
    letK (α := Int) (IntKind.wrap .i64 ((IntKind.wrap .i64 (c8 * 64)) + (IntKind.wrap .i64 (32 + x1)))) fun e9 =>
    letK (α := Int) (s_l4Rest e9) fun c10 =>
    k c10
  else
  letK (α := Int) (s_l4Rest x0) fun c11 =>
  letK (α := Int) (s_l4Rest (IntKind.wrap .i64 ((IntKind.wrap .i64 (c11 * 64)) + 47))) fun c12 =>
  k c12
def s_StampOf (x0 : Int) (x1 : Int) (x2 : Bool) : Int :=
  bif x2 then
    letK (α := Bool) (s_l1In x1 0 14) fun c1 =>
    bif c1 then
      letK (α := Int) (s_l4Rest x0) fun c2 =>
      letK (α := Int) (IntKind.wrap .i64 ((IntKind.wrap .i64 (c2 * 64)) + (IntKind.wrap .i64 (48 + x1)))) fun e3 =>
      letK (α := Int) (s_l4Rest e3) fun c4 =>
      c4
    else
    letK (α := Int) (s_l4Rest x0) fun c5 =>
    letK (α := Int) (s_l4Rest (IntKind.wrap .i64 ((IntKind.wrap .i64 (c5 * 64)) + 63))) fun c6 =>
    c6
  else
  letK (α := Bool) (s_l1In x1 0 14) fun c7 =>
  bif c7 then
    letK (α := Int) (s_l4Rest x0) fun c8 =>
    letK (α := Int) (IntKind.wrap .i64 ((IntKind.wrap .i64 (c8 * 64)) + (IntKind.wrap .i64 (32 + x1)))) fun e9 =>
    letK (α := Int) (s_l4Rest e9) fun c10 =>
    c10
  else
  letK (α := Int) (s_l4Rest x0) fun c11 =>
  letK (α := Int) (s_l4Rest (IntKind.wrap .i64 ((IntKind.wrap .i64 (c11 * 64)) + 47))) fun c12 =>
  c12
theorem s_StampOf_lk (x0 : Int) (x1 : Int) (x2 : Bool) : evalFn te (orcOf (P := Try.prog) [s_l1In_e, s_l4Rest_e]) lorc0 [] Try.f141 (pvs [.sc (.int .i64), .sc (.int .i64), .sc .bool] (x0, x1, x2, ())) =
  s_StampOf_N x0 x1 x2 _ none (fun v => some [(false, [RC.c (.int .i64 v)])]) := by kernel_rfl
theorem s_StampOf_p (x0 : Int) (x1 : Int) (x2 : Bool)   (γ : Type) (fail : γ) (k : Int → γ) : s_StampOf_N x0 x1 x2 γ fail k = k (s_StampOf x0 x1 x2) := by
  unfold s_StampOf_N s_StampOf
  exact bifT (f := k) (fun b0 => letT (f := k) (fun c1 hc1 => bifT (f := k) (fun b1 => letT (f := k) (fun c2 hc2 => letT (f := k) (fun e3 he3 => letT (f := k) (fun c4 hc4 => rfl))))
      (fun b1 => letT (f := k) (fun c5 hc5 => letT (f := k) (fun c6 hc6 => rfl)))))
      (fun b0 => letT (f := k) (fun c7 hc7 => bifT (f := k) (fun b1 => letT (f := k) (fun c8 hc8 => letT (f := k) (fun e9 he9 => letT (f := k) (fun c10 hc10 => rfl))))
      (fun b1 => letT (f := k) (fun c11 hc11 => letT (f := k) (fun c12 hc12 => rfl)))))
theorem s_StampOf_c (x0 : Int) (x1 : Int) (x2 : Bool)  : Con Try.prog 141 (pvs [.sc (.int .i64), .sc (.int .i64), .sc .bool] (x0, x1, x2, ())) [rv (.sc (.int .i64)) [] (s_StampOf x0 x1 x2)] := by
  exact evalFn_con0 teFact mixFact (orcOf_ok _) Try.func141 (by kernel_rfl) ((s_StampOf_lk x0 x1 x2).trans (s_StampOf_p x0 x1 x2  _ _ _))
noncomputable def s_StampOf_e : Ent1 Try.prog := entA 141 [.sc (.int .i64), .sc (.int .i64), .sc .bool] (fun x => (s_StampOf x.1 x.2.1 x.2.2.1)) (fun v => [rv (.sc (.int .i64)) [] v]) (fun x => s_StampOf_c x.1 x.2.1 x.2.2.1)


/-- impl.StampOf -/
def i_StampOf_N (x0 : Int) (x1 : Int) (x2 : Bool) (γ : Type) (fail : γ) (k : Int → γ) : γ :=
  bif x2 then
    letK (α := Int) (IntKind.wrap .i64 ((IntKind.wrap .i64 ((IntKind.wrap .i64 (x0 * 64)) + 32)) + 16)) fun e1 =>
    letK (α := Bool) (i_within x1 0 14) fun c2 =>
    bif (!c2) then
      k (bits .and .i64 (IntKind.wrap .i64 (e1 + 15)) 4294967295)
    else
    k (bits .and .i64 (IntKind.wrap .i64 (e1 + x1)) 4294967295)
  else
  letK (α := Bool) (i_within x1 0 14) fun c3 =>
  bif (!c3) then
    letK (α := Int) (IntKind.wrap .i64 ((IntKind.wrap .i64 ((IntKind.wrap .i64 (x0 * 64)) + 32)) + 15)) fun e4 =>
    k (bits .and .i64 e4 4294967295)
  else
  letK (α := Int) (IntKind.wrap .i64 ((IntKind.wrap .i64 ((IntKind.wrap .i64 (x0 * 64)) + 32)) + x1)) fun e5 =>
  k (bits .and .i64 e5 4294967295)
def i_StampOf (x0 : Int) (x1 : Int) (x2 : Bool) : Int :=
  bif x2 then
    letK (α := Int) (IntKind.wrap .i64 ((IntKind.wrap .i64 ((IntKind.wrap .i64 (x0 * 64)) + 32)) + 16)) fun e1 =>
    letK (α := Bool) (i_within x1 0 14) fun c2 =>
    bif (!c2) then
      (bits .and .i64 (IntKind.wrap .i64 (e1 + 15)) 4294967295)
    else
    (bits .and .i64 (IntKind.wrap .i64 (e1 + x1)) 4294967295)
  else
  letK (α := Bool) (i_within x1 0 14) fun c3 =>
  bif (!c3) then
    letK (α := Int) (IntKind.wrap .i64 ((IntKind.wrap .i64 ((IntKind.wrap .i64 (x0 * 64)) + 32)) + 15)) fun e4 =>
    (bits .and .i64 e4 4294967295)
  else
  letK (α := Int) (IntKind.wrap .i64 ((IntKind.wrap .i64 ((IntKind.wrap .i64 (x0 * 64)) + 32)) + x1)) fun e5 =>
  (bits .and .i64 e5 4294967295)
theorem i_StampOf_lk (x0 : Int) (x1 : Int) (x2 : Bool) : evalFn te (orcOf (P := Try.prog) [i_within_e]) lorc0 [] Try.f142 (pvs [.sc (.int .i64), .sc (.int .i64), .sc .bool] (x0, x1, x2, ())) =
  i_StampOf_N x0 x1 x2 _ none (fun v => some [(false, [RC.c (.int .i64 v)])]) := by kernel_rfl
theorem i_StampOf_p (x0 : Int) (x1 : Int) (x2 : Bool)   (γ : Type) (fail : γ) (k : Int → γ) : i_StampOf_N x0 x1 x2 γ fail k = k (i_StampOf x0 x1 x2) := by
  unfold i_StampOf_N i_StampOf
  exact bifT (f := k) (fun b0 => letT (f := k) (fun e1 he1 => letT (f := k) (fun c2 hc2 => bifT (f := k) (fun b1 => rfl)
      (fun b1 => rfl))))
      (fun b0 => letT (f := k) (fun c3 hc3 => bifT (f := k) (fun b1 => letT (f := k) (fun e4 he4 => rfl))
      (fun b1 => letT (f := k) (fun e5 he5 => rfl))))
theorem i_StampOf_c (x0 : Int) (x1 : Int) (x2 : Bool)  : Con Try.prog 142 (pvs [.sc (.int .i64), .sc (.int .i64), .sc .bool] (x0, x1, x2, ())) [rv (.sc (.int .i64)) [] (i_StampOf x0 x1 x2)] := by
  exact evalFn_con0 teFact mixFact (orcOf_ok _) Try.func142 (by kernel_rfl) ((i_StampOf_lk x0 x1 x2).trans (i_StampOf_p x0 x1 x2  _ _ _))
noncomputable def i_StampOf_e : Ent1 Try.prog := entA 142 [.sc (.int .i64), .sc (.int .i64), .sc .bool] (fun x => (i_StampOf x.1 x.2.1 x.2.2.1)) (fun v => [rv (.sc (.int .i64)) [] v]) (fun x => i_StampOf_c x.1 x.2.1 x.2.2.1)


/-- spec.l11Copy -/
def s_l11Copy_N (x0 : Mac) (γ : Type) (fail : γ) (k : Mac → γ) : γ :=
  bif (Nat.ble ((2 * (0 + x0.rows.length) + 1024) * 24) maxSl) then
  k ({ x0 with rows := ([] ++ x0.rows) } : Mac)
  else fail
def s_l11Copy (x0 : Mac) : Mac :=
  ({ x0 with rows := ([] ++ x0.rows) } : Mac)
theorem s_l11Copy_lk (x0 : Mac) : evalFn te (orcOf (P := Try.prog) []) lorc0 [] Try.f156 (pvs [.st .mac] (x0, ())) =
  s_l11Copy_N x0 _ none (fun v => some [(true, [RC.c (.bool v.use), RC.c (.int .u64 v.k), RC.c (.int .u64 v.l), RC.own true .macRow v.rows])]) := by kernel_rfl
theorem s_l11Copy_p (x0 : Mac) (hx0_k : inK .u64 x0.k) (hx0_l : inK .u64 x0.l) (hx0_rows : x0.rows.length ≤ 140737488355328) (hx0_rows_e : ∀ y ∈ x0.rows, ∀ c ∈ Ty.cells .macRow y, FactC c) (hp : x0.rows.length ≤ 4294967296) (γ : Type) (fail : γ) (k : Mac → γ) : s_l11Copy_N x0 γ fail k = k (s_l11Copy x0) := by
  unfold s_l11Copy_N s_l11Copy
  exact bifG (by (try simp only [Nat.ble_eq, Bool.and_eq_true, decide_eq_true_eq]); grind [maxSl, maxStr, toBytes_length, toInts_length, List.length_set, wrap64]) (rfl)
theorem s_l11Copy_c (x0 : Mac) (hp : x0.rows.length ≤ 4294967296) : Con Try.prog 156 (pvs [.st .mac] (x0, ())) [rv (.st .mac) [.c, .c, .c, .o true] (s_l11Copy x0)] := by
  refine Con.of_facts (enters_of Try.func156 rfl (by kernel_rfl)) fun hf => ?_
  replace hf := factAt hf
  exact evalFn_con0 teFact mixFact (orcOf_ok _) Try.func156 (by kernel_rfl) ((s_l11Copy_lk x0).trans (s_l11Copy_p x0 ((hf 0 1 rfl rfl).rng) ((hf 0 2 rfl rfl).rng) ((hf 0 3 rfl rfl).len) (fun y hy => (hf 0 3 rfl rfl).elem hy) hp _ _ _))
noncomputable def s_l11Copy_e : Ent1 Try.prog := entP 156 [.st .mac] (fun x => (decide (x.1.rows.length ≤ 4294967296))) (fun x => (s_l11Copy x.1)) (fun v => [rv (.st .mac) [.c, .c, .c, .o true] v]) (fun x hx => s_l11Copy_c x.1 (of_decide_eq_true hx))

theorem s_l11Copy_len (x0 : Mac) (hp : x0.rows.length ≤ 4294967296)  : (fun v : Mac => v.rows.length ≤ x0.rows.length) (s_l11Copy x0) := by
  unfold s_l11Copy
  exact (by simp)

/-- laws.eqTuple -/
def w_eqTuple_N (x0 : Tupl) (x1 : Tupl) (γ : Type) (fail : γ) (k : Bool → γ) : γ :=
  bif (x0.ip != x1.ip) then
    k false
  else
  bif (x0.port != x1.port) then
    k false
  else
  bif (x0.my != x1.my) then
    k false
  else
  k true
def w_eqTuple (x0 : Tupl) (x1 : Tupl) : Bool :=
  bif (x0.ip != x1.ip) then
    false
  else
  bif (x0.port != x1.port) then
    false
  else
  bif (x0.my != x1.my) then
    false
  else
  true
theorem w_eqTuple_lk (x0 : Tupl) (x1 : Tupl) : evalFn te (orcOf (P := Try.prog) []) lorc0 [] Try.f163 (pvs [.st .tupl, .st .tupl] (x0, x1, ())) =
  w_eqTuple_N x0 x1 _ none (fun v => some [(false, [RC.c (.bool v)])]) := by kernel_rfl
theorem w_eqTuple_p (x0 : Tupl) (x1 : Tupl)   (γ : Type) (fail : γ) (k : Bool → γ) : w_eqTuple_N x0 x1 γ fail k = k (w_eqTuple x0 x1) := by
  unfold w_eqTuple_N w_eqTuple
  exact bifT (f := k) (fun b0 => rfl)
      (fun b0 => bifT (f := k) (fun b1 => rfl)
      (fun b1 => bifT (f := k) (fun b2 => rfl)
      (fun b2 => rfl)))
theorem w_eqTuple_c (x0 : Tupl) (x1 : Tupl)  : Con Try.prog 163 (pvs [.st .tupl, .st .tupl] (x0, x1, ())) [rv (.sc .bool) [] (w_eqTuple x0 x1)] := by
  exact evalFn_con0 teFact mixFact (orcOf_ok _) Try.func163 (by kernel_rfl) ((w_eqTuple_lk x0 x1).trans (w_eqTuple_p x0 x1  _ _ _))
noncomputable def w_eqTuple_e : Ent1 Try.prog := entA 163 [.st .tupl, .st .tupl] (fun x => (w_eqTuple x.1 x.2.1)) (fun v => [rv (.sc .bool) [] v]) (fun x => w_eqTuple_c x.1 x.2.1)


/-- slices.Clone[[]impl.MacRow,impl.MacRow] -/
def g_Clone_MacRow (x0 : List MacRow) : List MacRow := x0
theorem g_Clone_MacRow_c (x0 : List MacRow) (hp : x0.length ≤ 4294967296) : Con Try.prog 177 (pvs [.sc (.sl .macRow)] (x0, ())) [rv (.sc (.sl .macRow)) [.o true] (g_Clone_MacRow x0)] := by
  refine Con.byNil (t := .macRow) (xs := x0) (fun h => ?_) ?_
  · subst h
    exact evalFn_con0 teFact mixFact (orcOf_ok []) Try.func177 (by kernel_rfl) (by kernel_rfl)
  · exact evalFn_con0 teFact mixFact (orcOf_ok []) Try.func177 (by kernel_rfl) (Eq.trans (b := bif Nat.ble ((2 * (0 + x0.length) + 1024) * 24) maxSl then some [rv (.sc (.sl .macRow)) [.o true] (g_Clone_MacRow x0)] else none) (by kernel_rfl) (bifG (by simp only [Nat.ble_eq, maxSl]; omega) rfl))
noncomputable def g_Clone_MacRow_e : Ent1 Try.prog := entP 177 [.sc (.sl .macRow)] (fun x => (decide (x.1.length ≤ 4294967296))) (fun x => g_Clone_MacRow x.1) (fun v => [rv (.sc (.sl .macRow)) [.o true] v]) (fun x hx => g_Clone_MacRow_c x.1 (of_decide_eq_true hx))


/-- laws.szMacRow -/
def w_szMacRow_N (x0 : MacRow) (x1 : Int) (γ : Type) (fail : γ) (k : Int → γ) : γ :=
  bif (decide ((IntKind.wrap .i64 (x1 - (x0.input.length : Int))) < 0)) then
    k (-1)
  else
  k (IntKind.wrap .i64 (x1 - (x0.input.length : Int)))
def w_szMacRow (x0 : MacRow) (x1 : Int) : Int :=
  bif (decide ((IntKind.wrap .i64 (x1 - (x0.input.length : Int))) < 0)) then
    (-1)
  else
  (IntKind.wrap .i64 (x1 - (x0.input.length : Int)))
theorem w_szMacRow_lk (x0 : MacRow) (x1 : Int) : evalFn te (orcOf (P := Try.prog) []) lorc0 [] Try.f181 (pvs [.st .macRow, .sc (.int .i64)] (x0, x1, ())) =
  w_szMacRow_N x0 x1 _ none (fun v => some [(false, [RC.c (.int .i64 v)])]) := by kernel_rfl
theorem w_szMacRow_p (x0 : MacRow) (x1 : Int)   (γ : Type) (fail : γ) (k : Int → γ) : w_szMacRow_N x0 x1 γ fail k = k (w_szMacRow x0 x1) := by
  unfold w_szMacRow_N w_szMacRow
  exact bifT (f := k) (fun b0 => rfl)
      (fun b0 => rfl)
theorem w_szMacRow_c (x0 : MacRow) (x1 : Int)  : Con Try.prog 181 (pvs [.st .macRow, .sc (.int .i64)] (x0, x1, ())) [rv (.sc (.int .i64)) [] (w_szMacRow x0 x1)] := by
  exact evalFn_con0 teFact mixFact (orcOf_ok _) Try.func181 (by kernel_rfl) ((w_szMacRow_lk x0 x1).trans (w_szMacRow_p x0 x1  _ _ _))
noncomputable def w_szMacRow_e : Ent1 Try.prog := entA 181 [.st .macRow, .sc (.int .i64)] (fun x => (w_szMacRow x.1 x.2.1)) (fun v => [rv (.sc (.int .i64)) [] v]) (fun x => w_szMacRow_c x.1 x.2.1)

theorem w_szMacRow_sm (x0 : MacRow) (x1 : Int)  (hn : 0 ≤ x1 ∧ x1 ≤ 1048576) (hx0_input : List.length x0.input ≤ 4611686018427387904) : (fun v : Int => 0 ≤ v → v ≤ 1048576 ∧ List.length x0.input ≤ 1048576) (w_szMacRow x0 x1) := by
  unfold w_szMacRow
  exact bifP (P := (fun v : Int => 0 ≤ v → v ≤ 1048576 ∧ List.length x0.input ≤ 1048576)) (fun b0 => (by (try simp only [Nat.ble_eq, Bool.and_eq_true, decide_eq_true_eq]); grind [maxSl, maxStr, toBytes_length, toInts_length, List.length_set, wrap64]))
      (fun b0 => (by (try simp only [Nat.ble_eq, Bool.and_eq_true, decide_eq_true_eq]); grind [maxSl, maxStr, toBytes_length, toInts_length, List.length_set, wrap64]))

/-- laws.szSender -/
def w_szSender_N (x0 : Sndr) (x1 : Int) (γ : Type) (fail : γ) (k : Int → γ) : γ :=
  bif (decide ((IntKind.wrap .i64 (x1 - (x0.data.length : Int))) < 0)) then
    k (-1)
  else
  k (IntKind.wrap .i64 (x1 - (x0.data.length : Int)))
def w_szSender (x0 : Sndr) (x1 : Int) : Int :=
  bif (decide ((IntKind.wrap .i64 (x1 - (x0.data.length : Int))) < 0)) then
    (-1)
  else
  (IntKind.wrap .i64 (x1 - (x0.data.length : Int)))
theorem w_szSender_lk (x0 : Sndr) (x1 : Int) : evalFn te (orcOf (P := Try.prog) []) lorc0 [] Try.f182 (pvs [.st .sndr, .sc (.int .i64)] (x0, x1, ())) =
  w_szSender_N x0 x1 _ none (fun v => some [(false, [RC.c (.int .i64 v)])]) := by kernel_rfl
theorem w_szSender_p (x0 : Sndr) (x1 : Int)   (γ : Type) (fail : γ) (k : Int → γ) : w_szSender_N x0 x1 γ fail k = k (w_szSender x0 x1) := by
  unfold w_szSender_N w_szSender
  exact bifT (f := k) (fun b0 => rfl)
      (fun b0 => rfl)
theorem w_szSender_c (x0 : Sndr) (x1 : Int)  : Con Try.prog 182 (pvs [.st .sndr, .sc (.int .i64)] (x0, x1, ())) [rv (.sc (.int .i64)) [] (w_szSender x0 x1)] := by
  exact evalFn_con0 teFact mixFact (orcOf_ok _) Try.func182 (by kernel_rfl) ((w_szSender_lk x0 x1).trans (w_szSender_p x0 x1  _ _ _))
noncomputable def w_szSender_e : Ent1 Try.prog := entA 182 [.st .sndr, .sc (.int .i64)] (fun x => (w_szSender x.1 x.2.1)) (fun v => [rv (.sc (.int .i64)) [] v]) (fun x => w_szSender_c x.1 x.2.1)

theorem w_szSender_sm (x0 : Sndr) (x1 : Int)  (hn : 0 ≤ x1 ∧ x1 ≤ 1048576) (hx0_data : List.length x0.data ≤ 4611686018427387904) : (fun v : Int => 0 ≤ v → v ≤ 1048576 ∧ List.length x0.data ≤ 1048576) (w_szSender x0 x1) := by
  unfold w_szSender
  exact bifP (P := (fun v : Int => 0 ≤ v → v ≤ 1048576 ∧ List.length x0.data ≤ 1048576)) (fun b0 => (by (try simp only [Nat.ble_eq, Bool.and_eq_true, decide_eq_true_eq]); grind [maxSl, maxStr, toBytes_length, toInts_length, List.length_set, wrap64]))
      (fun b0 => (by (try simp only [Nat.ble_eq, Bool.and_eq_true, decide_eq_true_eq]); grind [maxSl, maxStr, toBytes_length, toInts_length, List.length_set, wrap64]))

/-- laws.toMacRow -/
def w_toMacRow_N (x0 : MacRow) (γ : Type) (fail : γ) (k : MacRow → γ) : γ :=
  k x0
def w_toMacRow (x0 : MacRow) : MacRow :=
  x0
theorem w_toMacRow_lk (x0 : MacRow) : evalFn te (orcOf (P := Try.prog) []) lorc0 [] Try.f184 (pvs [.st .macRow] (x0, ())) =
  w_toMacRow_N x0 _ none (fun v => some [(true, [RC.c (.str v.input), RC.c (.int .i64 v.value)])]) := by kernel_rfl
theorem w_toMacRow_p (x0 : MacRow)   (γ : Type) (fail : γ) (k : MacRow → γ) : w_toMacRow_N x0 γ fail k = k (w_toMacRow x0) := by
  unfold w_toMacRow_N w_toMacRow
  exact rfl
theorem w_toMacRow_c (x0 : MacRow)  : Con Try.prog 184 (pvs [.st .macRow] (x0, ())) [rv (.st .macRow) [] (w_toMacRow x0)] := by
  exact evalFn_con0 teFact mixFact (orcOf_ok _) Try.func184 (by kernel_rfl) ((w_toMacRow_lk x0).trans (w_toMacRow_p x0  _ _ _))
noncomputable def w_toMacRow_e : Ent1 Try.prog := entA 184 [.st .macRow] (fun x => (w_toMacRow x.1)) (fun v => [rv (.st .macRow) [] v]) (fun x => w_toMacRow_c x.1)


/-- laws.toSender -/
def w_toSender_N (x0 : Sndr) (γ : Type) (fail : γ) (k : Sndr → γ) : γ :=
  k x0
def w_toSender (x0 : Sndr) : Sndr :=
  x0
theorem w_toSender_lk (x0 : Sndr) : evalFn te (orcOf (P := Try.prog) []) lorc0 [] Try.f185 (pvs [.st .sndr] (x0, ())) =
  w_toSender_N x0 _ none (fun v => some [(true, [RC.c (.int .i64 v.una), RC.c (.str v.data), RC.c (.int .i64 v.sent), RC.c (.bool v.fin), RC.c (.bool v.finSent), RC.c (.bool v.done)])]) := by kernel_rfl
theorem w_toSender_p (x0 : Sndr)   (γ : Type) (fail : γ) (k : Sndr → γ) : w_toSender_N x0 γ fail k = k (w_toSender x0) := by
  unfold w_toSender_N w_toSender
  exact rfl
theorem w_toSender_c (x0 : Sndr)  : Con Try.prog 185 (pvs [.st .sndr] (x0, ())) [rv (.st .sndr) [] (w_toSender x0)] := by
  exact evalFn_con0 teFact mixFact (orcOf_ok _) Try.func185 (by kernel_rfl) ((w_toSender_lk x0).trans (w_toSender_p x0  _ _ _))
noncomputable def w_toSender_e : Ent1 Try.prog := entA 185 [.st .sndr] (fun x => (w_toSender x.1)) (fun v => [rv (.st .sndr) [] v]) (fun x => w_toSender_c x.1)


/-- laws.eqMacRow -/
def w_eqMacRow_N (x0 : MacRow) (x1 : MacRow) (γ : Type) (fail : γ) (k : Bool → γ) : γ :=
  bif (!(x0.input == x1.input)) then
    k false
  else
  bif (x0.value != x1.value) then
    k false
  else
  k true
def w_eqMacRow (x0 : MacRow) (x1 : MacRow) : Bool :=
  bif (!(x0.input == x1.input)) then
    false
  else
  bif (x0.value != x1.value) then
    false
  else
  true
theorem w_eqMacRow_lk (x0 : MacRow) (x1 : MacRow) : evalFn te (orcOf (P := Try.prog) []) lorc0 [] Try.f187 (pvs [.st .macRow, .st .macRow] (x0, x1, ())) =
  w_eqMacRow_N x0 x1 _ none (fun v => some [(false, [RC.c (.bool v)])]) := by kernel_rfl
theorem w_eqMacRow_p (x0 : MacRow) (x1 : MacRow)   (γ : Type) (fail : γ) (k : Bool → γ) : w_eqMacRow_N x0 x1 γ fail k = k (w_eqMacRow x0 x1) := by
  unfold w_eqMacRow_N w_eqMacRow
  exact bifT (f := k) (fun b0 => rfl)
      (fun b0 => bifT (f := k) (fun b1 => rfl)
      (fun b1 => rfl))
theorem w_eqMacRow_c (x0 : MacRow) (x1 : MacRow)  : Con Try.prog 187 (pvs [.st .macRow, .st .macRow] (x0, x1, ())) [rv (.sc .bool) [] (w_eqMacRow x0 x1)] := by
  exact evalFn_con0 teFact mixFact (orcOf_ok _) Try.func187 (by kernel_rfl) ((w_eqMacRow_lk x0 x1).trans (w_eqMacRow_p x0 x1  _ _ _))
noncomputable def w_eqMacRow_e : Ent1 Try.prog := entA 187 [.st .macRow, .st .macRow] (fun x => (w_eqMacRow x.1 x.2.1)) (fun v => [rv (.sc .bool) [] v]) (fun x => w_eqMacRow_c x.1 x.2.1)


/-- laws.eqSender -/
def w_eqSender_N (x0 : Sndr) (x1 : Sndr) (γ : Type) (fail : γ) (k : Bool → γ) : γ :=
  bif (x0.una != x1.una) then
    k false
  else
  bif (!(x0.data == x1.data)) then
    k false
  else
  bif (x0.sent != x1.sent) then
    k false
  else
  bif (!(x0.fin == x1.fin)) then
    k false
  else
  bif (!(x0.finSent == x1.finSent)) then
    k false
  else
  bif (!(x0.done == x1.done)) then
    k false
  else
  k true
def w_eqSender (x0 : Sndr) (x1 : Sndr) : Bool :=
  bif (x0.una != x1.una) then
    false
  else
  bif (!(x0.data == x1.data)) then
    false
  else
  bif (x0.sent != x1.sent) then
    false
  else
  bif (!(x0.fin == x1.fin)) then
    false
  else
  bif (!(x0.finSent == x1.finSent)) then
    false
  else
  bif (!(x0.done == x1.done)) then
    false
  else
  true
theorem w_eqSender_lk (x0 : Sndr) (x1 : Sndr) : evalFn te (orcOf (P := Try.prog) []) lorc0 [] Try.f188 (pvs [.st .sndr, .st .sndr] (x0, x1, ())) =
  w_eqSender_N x0 x1 _ none (fun v => some [(false, [RC.c (.bool v)])]) := by kernel_rfl
theorem w_eqSender_p (x0 : Sndr) (x1 : Sndr)   (γ : Type) (fail : γ) (k : Bool → γ) : w_eqSender_N x0 x1 γ fail k = k (w_eqSender x0 x1) := by
  unfold w_eqSender_N w_eqSender
  exact bifT (f := k) (fun b0 => rfl)
      (fun b0 => bifT (f := k) (fun b1 => rfl)
      (fun b1 => bifT (f := k) (fun b2 => rfl)
      (fun b2 => bifT (f := k) (fun b3 => rfl)
      (fun b3 => bifT (f := k) (fun b4 => rfl)
      (fun b4 => bifT (f := k) (fun b5 => rfl)
      (fun b5 => rfl))))))
theorem w_eqSender_c (x0 : Sndr) (x1 : Sndr)  : Con Try.prog 188 (pvs [.st .sndr, .st .sndr] (x0, x1, ())) [rv (.sc .bool) [] (w_eqSender x0 x1)] := by
  exact evalFn_con0 teFact mixFact (orcOf_ok _) Try.func188 (by kernel_rfl) ((w_eqSender_lk x0 x1).trans (w_eqSender_p x0 x1  _ _ _))
noncomputable def w_eqSender_e : Ent1 Try.prog := entA 188 [.st .sndr, .st .sndr] (fun x => (w_eqSender x.1 x.2.1)) (fun v => [rv (.sc .bool) [] v]) (fun x => w_eqSender_c x.1 x.2.1)


/-- impl.SipStart -/
def i_SipStart_N (x0 : Int) (x1 : Int) (γ : Type) (fail : γ) (k : Sipr → γ) : γ :=
  k (⟨(bits .xor .u64 x0 8317987319222330741), (bits .xor .u64 x1 7237128888997146477), (bits .xor .u64 x0 7816392313619706465), (bits .xor .u64 x1 8387220255154660723)⟩ : Sipr)
def i_SipStart (x0 : Int) (x1 : Int) : Sipr :=
  (⟨(bits .xor .u64 x0 8317987319222330741), (bits .xor .u64 x1 7237128888997146477), (bits .xor .u64 x0 7816392313619706465), (bits .xor .u64 x1 8387220255154660723)⟩ : Sipr)
theorem i_SipStart_lk (x0 : Int) (x1 : Int) : evalFn te (orcOf (P := Try.prog) []) lorc0 [] Try.f193 (pvs [.sc (.int .u64), .sc (.int .u64)] (x0, x1, ())) =
  i_SipStart_N x0 x1 _ none (fun v => some [(true, [RC.c (.int .u64 v.a), RC.c (.int .u64 v.b), RC.c (.int .u64 v.c), RC.c (.int .u64 v.d)])]) := by kernel_rfl
theorem i_SipStart_p (x0 : Int) (x1 : Int)   (γ : Type) (fail : γ) (k : Sipr → γ) : i_SipStart_N x0 x1 γ fail k = k (i_SipStart x0 x1) := by
  unfold i_SipStart_N i_SipStart
  exact rfl
theorem i_SipStart_c (x0 : Int) (x1 : Int)  : Con Try.prog 193 (pvs [.sc (.int .u64), .sc (.int .u64)] (x0, x1, ())) [rv (.st .sipr) [] (i_SipStart x0 x1)] := by
  exact evalFn_con0 teFact mixFact (orcOf_ok _) Try.func193 (by kernel_rfl) ((i_SipStart_lk x0 x1).trans (i_SipStart_p x0 x1  _ _ _))
noncomputable def i_SipStart_e : Ent1 Try.prog := entA 193 [.sc (.int .u64), .sc (.int .u64)] (fun x => (i_SipStart x.1 x.2.1)) (fun v => [rv (.st .sipr) [] v]) (fun x => i_SipStart_c x.1 x.2.1)


/-- impl.little -/
def i_little_ann : List (Nat × Keep) := [(0, ⟨[0, 3, 4], [], false, 0⟩)]
def i_little_L0_sh : Sh := ⟨[(0, false, [.sl .arg .u8]), (3, false, [.int .u64]), (4, false, [.int .i64])], []⟩
def i_little_L0_es : List (Ex × Sh) := [(.exit 0, ⟨[(2, false, [.undef]), (3, false, [.int .u64])], []⟩)]
def i_little_L0_mk (v0 : List Int) (v1 : Int) (v2 : Int) : i_little_L0_sh.T := (((v0, ()), ((v1, ()), ((v2, ()), ()))), ())
def i_little_L0_mx0 (y0 : Int) : Sh.T ⟨[(2, false, [.undef]), (3, false, [.int .u64])], []⟩ := ((((), ()), ((y0, ()), ())), ())
def i_little_L0_B (v0 : List Int) (v1 : Int) (v2 : Int) (γ : Type) (fail : γ) (next : i_little_L0_sh.T → γ) (out : WT i_little_L0_es → γ) : γ :=
  bif (decide (0 ≤ v2)) then
    bif ((decide (0 ≤ v2)) && (decide (v2 < (v0.length : Int)))) then
    letK (α := Int) (bits .or .u64 (IntKind.wrap .u64 (v1 * 256)) (IntKind.wrap .u64 (v0.getD v2.toNat 0))) fun e1 =>
    next (i_little_L0_mk v0 e1 (IntKind.wrap .i64 (v2 - 1)))
    else fail
  else
  out (i_little_L0_mx0 v1)
theorem i_little_L0_par (v0 : List Int) (v1 : Int) (v2 : Int) (γ : Type) (fail : γ) (next : i_little_L0_sh.T → γ) (out : WT i_little_L0_es → γ) : i_little_L0_B v0 v1 v2 γ fail next out = optK (i_little_L0_B v0 v1 v2 _ none (fun v' => some (.inl v')) (fun w => some (.inr w))) fail (fun r => Sum.elim next out r) := by
  unfold i_little_L0_B
  exact bifT (f := (fun o => optK o fail (fun r => Sum.elim next out r))) (fun _ => bifT (f := (fun o => optK o fail (fun r => Sum.elim next out r))) (fun _ => letT (f := (fun o => optK o fail (fun r => Sum.elim next out r))) (fun e1 _ => rfl)) (fun _ => rfl))
      (fun _ => rfl)
def i_little_L0_r : Round i_little_L0_sh.T (WT i_little_L0_es) where
  B v γ fail next out := i_little_L0_B v.1.1.1 v.1.2.1.1 v.1.2.2.1.1 γ fail next out
  par v γ fail next out := i_little_L0_par v.1.1.1 v.1.2.1.1 v.1.2.2.1.1 γ fail next out
def i_little_L0_fu (v0 : List Int) (v1 : Int) (v2 : Int) : Nat := (Int.toNat (v2 - 0 + 1)) + 1
theorem i_little_L0_lk (v : i_little_L0_sh.T) (next : St → Option Res) (k : Ex → St → Option Res) : evalK te (orcOf (P := Try.prog) []) (lorcOf []) Try.f195.ntmps i_little_ann (nthLoop (bodyOf Try.f195) 0 0) 0 (i_little_L0_sh.enc v) (endK ⟨[0, 3, 4], [], false, 0⟩ ⟨[2, 3], [], false, 0⟩ next k) =
  i_little_L0_r.B v _ none (fun v' => next (i_little_L0_sh.enc v')) (fun w => outK i_little_L0_es k w) := by kernel_rfl
def i_little_L0_le : LE := leOf 0 i_little_L0_sh i_little_L0_es i_little_L0_r.step (fun v => i_little_L0_fu v.1.1.1 v.1.2.1.1 v.1.2.2.1.1)
theorem i_little_L0_ls (w0 : World) (mo : Mts) (I0 : Nat → Prop) (hmo : mo.length = 0) : LSem Try.prog (Sim w0 mo Try.f195.ntmps I0) (fun b s k => match Nat.beq 0 b with | true => i_little_L0_le.run s k | false => none) 0 (nthLoop (bodyOf Try.f195) 0 0) :=
  le_sem hmo (lorc := lorcOf []) (ann := i_little_ann) (keep := ⟨[0, 3, 4], [], false, 0⟩) (kout := ⟨[2, 3], [], false, 0⟩) teFact mixFact (orcOf_ok _) (by kernel_rfl) (allLoops_of (bs := []) (by kernel_rfl) trivial) i_little_L0_r _ i_little_L0_lk
def i_little_L0_f (v0 : List Int) (v2 : Int) (a : Int) : Stp (Int) (Empty) :=
  letK (α := Int) (bits .or .u64 (IntKind.wrap .u64 (a * 256)) (IntKind.wrap .u64 (v0.getD v2.toNat 0))) fun e1 =>
  .next e1
theorem i_little_L0_st (v0 : List Int) (v1 : Int) (v2 : Int) (hlo : 0 ≤ v2) (hhi : v2 ≤ 9223372036854775807) (hN : 0 ≤ 0) (hinv : v2 < (v0.length : Int)) : i_little_L0_r.step (i_little_L0_mk v0 v1 v2) = Stp.elim (fun a' : Int => some (Sum.inl (i_little_L0_mk v0 a' (v2 + (-1))))) (fun w => some (Sum.inr ((fun p : Empty => nomatch p) w))) (i_little_L0_f v0 v2 v1) := by
  have hw : (IntKind.wrap .i64 (v2 - 1)) = v2 + (-1) := wrap64 (by omega) (by omega)
  show i_little_L0_B v0 v1 v2 (Option (i_little_L0_sh.T ⊕ WT i_little_L0_es)) none (fun v' => some (Sum.inl v')) (fun w => some (Sum.inr w)) = _
  unfold i_little_L0_B i_little_L0_f
  exact bifG (by simp only [decide_eq_true_eq]; omega) (bifG (by (try simp only [Nat.ble_eq, Bool.and_eq_true, decide_eq_true_eq]); grind [maxSl, maxStr, toBytes_length, toInts_length, List.length_set, wrap64]) (letT (f := (Stp.elim (fun a' : Int => some (Sum.inl (i_little_L0_mk v0 a' (v2 + (-1))))) (fun w => some (Sum.inr ((fun p : Empty => nomatch p) w))))) (fun e1 he1 => (by exact congrArg (fun z => some (Sum.inl (i_little_L0_mk v0 e1 z))) hw))))
theorem i_little_L0_cl (v0 : List Int) (v1 : Int) (v2 : Int) (h0 : v2 ≤ 9223372036854775807) (h1 : 0 ≤ 0) (h2 : v2 < (v0.length : Int)) : loopF i_little_L0_r.step (i_little_L0_fu v0 v1 v2) (i_little_L0_mk v0 v1 v2) = some (Stp.elim (fun a => (fun i a => i_little_L0_mx0 a) (v2 + (-1) * (((Int.toNat (v2 - 0 + 1)) : Nat) : Int)) a) (fun p : Empty => nomatch p) (forN (i_little_L0_f v0) (-1) (Int.toNat (v2 - 0 + 1)) v2 v1)) :=
  forN_loop (step := i_little_L0_r.step) (mk := fun v2 a => i_little_L0_mk v0 a v2) (f := i_little_L0_f v0) (e := (fun i a => i_little_L0_mx0 a)) (emb := (fun p : Empty => nomatch p)) (st := (-1)) (Inv := fun v2 a => v2 < (v0.length : Int)) (Int.toNat (v2 - 0 + 1)) v2 v1 _ (Nat.lt_succ_self _) h2
    (fun j a hj hv => ⟨i_little_L0_st v0 a (v2 + (-1) * (j : Int)) (by omega) (by omega) (by omega) hv, by
      intro a' he
      grind [i_little_L0_f, letK, Stp.elim, wrap64, List.length_set]⟩)
    (fun a hv => by
      show i_little_L0_B v0 a (v2 + (-1) * (((Int.toNat (v2 - 0 + 1)) : Nat) : Int)) (Option (i_little_L0_sh.T ⊕ WT i_little_L0_es)) none (fun v' => some (Sum.inl v')) (fun w => some (Sum.inr w)) = _
      unfold i_little_L0_B
      exact bifN (by simp only [decide_eq_false_iff_not]; omega) rfl)
theorem i_little_L0_nx (v0 : List Int) (v1 : Int) (v2 : Int) (h0 : v2 ≤ 9223372036854775807) (h1 : 0 ≤ 0) (h2 : v2 < (v0.length : Int)) : ∀ a', forN (i_little_L0_f v0) (-1) (Int.toNat (v2 - 0 + 1)) v2 v1 = .next a' → (v2 + (-1) * (((Int.toNat (v2 - 0 + 1)) : Nat) : Int)) < (v0.length : Int) :=
  forN_inv (f := i_little_L0_f v0) (st := (-1)) (Inv := fun v2 a => v2 < (v0.length : Int)) (Int.toNat (v2 - 0 + 1)) v2 v1 h2
    (fun j a hj hv => by
      intro a' he
      grind [i_little_L0_f, letK, Stp.elim, wrap64, List.length_set])
def i_little_N (x0 : List Int) (γ : Type) (fail : γ) (k : Int → γ) : γ :=
  optK (loopF i_little_L0_r.step (i_little_L0_fu x0 0 7) (i_little_L0_mk x0 0 7)) fail fun w2 =>
    k w2.1.2.1.1
def i_little (x0 : List Int) : Int :=
  Stp.elim (fun a3 =>
    a3)
    (fun p : Empty => nomatch p)
    (forN (i_little_L0_f x0) (-1) (Int.toNat (7 - 0 + 1)) 7 0)
theorem i_little_lk (x0 : List Int) : evalFn te (orcOf (P := Try.prog) []) (lorcOf [i_little_L0_le]) i_little_ann Try.f195 (pvs [.sc (.sl .u8)] (x0, ())) =
  i_little_N x0 _ none (fun v => some [(false, [RC.c (.int .u64 v)])]) := by kernel_rfl
theorem i_little_p (x0 : List Int) (hx0 : x0.length ≤ 140737488355328) (hp : 8 ≤ x0.length) (γ : Type) (fail : γ) (k : Int → γ) : i_little_N x0 γ fail k = k (i_little x0) := by
  unfold i_little_N i_little
  exact loopX (f := k) (i_little_L0_cl x0 0 7 (by (try simp only [Nat.ble_eq, Bool.and_eq_true, decide_eq_true_eq, i_little_L0_mx0]); grind [maxSl, maxStr, toBytes_length, toInts_length, List.length_set, wrap64]) (by (try simp only [Nat.ble_eq, Bool.and_eq_true, decide_eq_true_eq, i_little_L0_mx0]); grind [maxSl, maxStr, toBytes_length, toInts_length, List.length_set, wrap64]) (by (try simp only [Nat.ble_eq, Bool.and_eq_true, decide_eq_true_eq, i_little_L0_mx0]); grind [maxSl, maxStr, toBytes_length, toInts_length, List.length_set, wrap64])) (fun a3 ha3 => have ia3 := i_little_L0_nx x0 0 7 (by (try simp only [Nat.ble_eq, Bool.and_eq_true, decide_eq_true_eq, i_little_L0_mx0]); grind [maxSl, maxStr, toBytes_length, toInts_length, List.length_set, wrap64]) (by (try simp only [Nat.ble_eq, Bool.and_eq_true, decide_eq_true_eq, i_little_L0_mx0]); grind [maxSl, maxStr, toBytes_length, toInts_length, List.length_set, wrap64]) (by (try simp only [Nat.ble_eq, Bool.and_eq_true, decide_eq_true_eq, i_little_L0_mx0]); grind [maxSl, maxStr, toBytes_length, toInts_length, List.length_set, wrap64]) _ ha3; rfl)
      (fun p : Empty => nomatch p)
theorem i_little_c (x0 : List Int) (hp : 8 ≤ x0.length) : Con Try.prog 195 (pvs [.sc (.sl .u8)] (x0, ())) [rv (.sc (.int .u64)) [] (i_little x0)] := by
  refine Con.of_facts (enters_of Try.func195 rfl (by kernel_rfl)) fun hf => ?_
  replace hf := factAt hf
  exact evalFn_conL teFact mixFact (orcOf_ok _) Try.func195 (by kernel_rfl) (bs := [0]) (by kernel_rfl) (by kernel_rfl) (fun w0 mo I0 hmo => ⟨lsem_of_lorc (i_little_L0_ls w0 mo I0 hmo) (by kernel_rfl), trivial⟩) ((i_little_lk x0).trans (i_little_p x0 ((hf 0 0 rfl rfl).len) hp _ _ _))
noncomputable def i_little_e : Ent1 Try.prog := entP 195 [.sc (.sl .u8)] (fun x => (decide (8 ≤ x.1.length))) (fun x => (i_little x.1)) (fun v => [rv (.sc (.int .u64)) [] v]) (fun x hx => i_little_c x.1 (of_decide_eq_true hx))


/-- spec.SipStart -/
def s_SipStart_N (x0 : Int) (x1 : Int) (γ : Type) (fail : γ) (k : Sipr → γ) : γ :=
  k (⟨(bits .xor .u64 x0 8317987319222330741), (bits .xor .u64 x1 7237128888997146477), (bits .xor .u64 x0 7816392313619706465), (bits .xor .u64 x1 8387220255154660723)⟩ : Sipr)
def s_SipStart (x0 : Int) (x1 : Int) : Sipr :=
  (⟨(bits .xor .u64 x0 8317987319222330741), (bits .xor .u64 x1 7237128888997146477), (bits .xor .u64 x0 7816392313619706465), (bits .xor .u64 x1 8387220255154660723)⟩ : Sipr)
theorem s_SipStart_lk (x0 : Int) (x1 : Int) : evalFn te (orcOf (P := Try.prog) []) lorc0 [] Try.f197 (pvs [.sc (.int .u64), .sc (.int .u64)] (x0, x1, ())) =
  s_SipStart_N x0 x1 _ none (fun v => some [(true, [RC.c (.int .u64 v.a), RC.c (.int .u64 v.b), RC.c (.int .u64 v.c), RC.c (.int .u64 v.d)])]) := by kernel_rfl
theorem s_SipStart_p (x0 : Int) (x1 : Int)   (γ : Type) (fail : γ) (k : Sipr → γ) : s_SipStart_N x0 x1 γ fail k = k (s_SipStart x0 x1) := by
  unfold s_SipStart_N s_SipStart
  exact rfl
theorem s_SipStart_c (x0 : Int) (x1 : Int)  : Con Try.prog 197 (pvs [.sc (.int .u64), .sc (.int .u64)] (x0, x1, ())) [rv (.st .sipr) [] (s_SipStart x0 x1)] := by
  exact evalFn_con0 teFact mixFact (orcOf_ok _) Try.func197 (by kernel_rfl) ((s_SipStart_lk x0 x1).trans (s_SipStart_p x0 x1  _ _ _))
noncomputable def s_SipStart_e : Ent1 Try.prog := entA 197 [.sc (.int .u64), .sc (.int .u64)] (fun x => (s_SipStart x.1 x.2.1)) (fun v => [rv (.st .sipr) [] v]) (fun x => s_SipStart_c x.1 x.2.1)


/-- spec.l10Low -/
def s_l10Low_ann : List (Nat × Keep) := [(0, ⟨[0, 3, 4], [], false, 0⟩)]
def s_l10Low_L0_sh : Sh := ⟨[(0, false, [.str]), (3, false, [.int .u64]), (4, false, [.int .i64])], []⟩
def s_l10Low_L0_es : List (Ex × Sh) := [(.exit 0, ⟨[(2, false, [.undef]), (3, false, [.int .u64])], []⟩)]
def s_l10Low_L0_mk (v0 : Bytes) (v1 : Int) (v2 : Int) : s_l10Low_L0_sh.T := (((v0, ()), ((v1, ()), ((v2, ()), ()))), ())
def s_l10Low_L0_mx0 (y0 : Int) : Sh.T ⟨[(2, false, [.undef]), (3, false, [.int .u64])], []⟩ := ((((), ()), ((y0, ()), ())), ())
def s_l10Low_L0_B (v0 : Bytes) (v1 : Int) (v2 : Int) (γ : Type) (fail : γ) (next : s_l10Low_L0_sh.T → γ) (out : WT s_l10Low_L0_es → γ) : γ :=
  bif (decide (0 ≤ v2)) then
    bif ((decide (0 ≤ v2)) && (decide (v2 < (v0.length : Int)))) then
    letK (α := Int) (bits .or .u64 (IntKind.wrap .u64 (v1 * 256)) (IntKind.wrap .u64 (byteAt v0 v2.toNat))) fun e1 =>
    next (s_l10Low_L0_mk v0 e1 (IntKind.wrap .i64 (v2 - 1)))
    else fail
  else
  out (s_l10Low_L0_mx0 v1)
theorem s_l10Low_L0_par (v0 : Bytes) (v1 : Int) (v2 : Int) (γ : Type) (fail : γ) (next : s_l10Low_L0_sh.T → γ) (out : WT s_l10Low_L0_es → γ) : s_l10Low_L0_B v0 v1 v2 γ fail next out = optK (s_l10Low_L0_B v0 v1 v2 _ none (fun v' => some (.inl v')) (fun w => some (.inr w))) fail (fun r => Sum.elim next out r) := by
  unfold s_l10Low_L0_B
  exact bifT (f := (fun o => optK o fail (fun r => Sum.elim next out r))) (fun _ => bifT (f := (fun o => optK o fail (fun r => Sum.elim next out r))) (fun _ => letT (f := (fun o => optK o fail (fun r => Sum.elim next out r))) (fun e1 _ => rfl)) (fun _ => rfl))
      (fun _ => rfl)
def s_l10Low_L0_r : Round s_l10Low_L0_sh.T (WT s_l10Low_L0_es) where
  B v γ fail next out := s_l10Low_L0_B v.1.1.1 v.1.2.1.1 v.1.2.2.1.1 γ fail next out
  par v γ fail next out := s_l10Low_L0_par v.1.1.1 v.1.2.1.1 v.1.2.2.1.1 γ fail next out
def s_l10Low_L0_fu (v0 : Bytes) (v1 : Int) (v2 : Int) : Nat := (Int.toNat (v2 - 0 + 1)) + 1
theorem s_l10Low_L0_lk (v : s_l10Low_L0_sh.T) (next : St → Option Res) (k : Ex → St → Option Res) : evalK te (orcOf (P := Try.prog) []) (lorcOf []) Try.f199.ntmps s_l10Low_ann (nthLoop (bodyOf Try.f199) 0 0) 0 (s_l10Low_L0_sh.enc v) (endK ⟨[0, 3, 4], [], false, 0⟩ ⟨[2, 3], [], false, 0⟩ next k) =
  s_l10Low_L0_r.B v _ none (fun v' => next (s_l10Low_L0_sh.enc v')) (fun w => outK s_l10Low_L0_es k w) := by kernel_rfl
def s_l10Low_L0_le : LE := leOf 0 s_l10Low_L0_sh s_l10Low_L0_es s_l10Low_L0_r.step (fun v => s_l10Low_L0_fu v.1.1.1 v.1.2.1.1 v.1.2.2.1.1)
theorem s_l10Low_L0_ls (w0 : World) (mo : Mts) (I0 : Nat → Prop) (hmo : mo.length = 0) : LSem Try.prog (Sim w0 mo Try.f199.ntmps I0) (fun b s k => match Nat.beq 0 b with | true => s_l10Low_L0_le.run s k | false => none) 0 (nthLoop (bodyOf Try.f199) 0 0) :=
  le_sem hmo (lorc := lorcOf []) (ann := s_l10Low_ann) (keep := ⟨[0, 3, 4], [], false, 0⟩) (kout := ⟨[2, 3], [], false, 0⟩) teFact mixFact (orcOf_ok _) (by kernel_rfl) (allLoops_of (bs := []) (by kernel_rfl) trivial) s_l10Low_L0_r _ s_l10Low_L0_lk
def s_l10Low_L0_f (v0 : Bytes) (v2 : Int) (a : Int) : Stp (Int) (Empty) :=
  letK (α := Int) (bits .or .u64 (IntKind.wrap .u64 (a * 256)) (IntKind.wrap .u64 (byteAt v0 v2.toNat))) fun e1 =>
  .next e1
theorem s_l10Low_L0_st (v0 : Bytes) (v1 : Int) (v2 : Int) (hlo : 0 ≤ v2) (hhi : v2 ≤ 9223372036854775807) (hN : 0 ≤ 0) (hinv : v2 < (v0.length : Int)) : s_l10Low_L0_r.step (s_l10Low_L0_mk v0 v1 v2) = Stp.elim (fun a' : Int => some (Sum.inl (s_l10Low_L0_mk v0 a' (v2 + (-1))))) (fun w => some (Sum.inr ((fun p : Empty => nomatch p) w))) (s_l10Low_L0_f v0 v2 v1) := by
  have hw : (IntKind.wrap .i64 (v2 - 1)) = v2 + (-1) := wrap64 (by omega) (by omega)
  show s_l10Low_L0_B v0 v1 v2 (Option (s_l10Low_L0_sh.T ⊕ WT s_l10Low_L0_es)) none (fun v' => some (Sum.inl v')) (fun w => some (Sum.inr w)) = _
  unfold s_l10Low_L0_B s_l10Low_L0_f
  exact bifG (by simp only [decide_eq_true_eq]; omega) (bifG (by (try simp only [Nat.ble_eq, Bool.and_eq_true, decide_eq_true_eq]); grind [maxSl, maxStr, toBytes_length, toInts_length, List.length_set, wrap64]) (letT (f := (Stp.elim (fun a' : Int => some (Sum.inl (s_l10Low_L0_mk v0 a' (v2 + (-1))))) (fun w => some (Sum.inr ((fun p : Empty => nomatch p) w))))) (fun e1 he1 => (by exact congrArg (fun z => some (Sum.inl (s_l10Low_L0_mk v0 e1 z))) hw))))
theorem s_l10Low_L0_cl (v0 : Bytes) (v1 : Int) (v2 : Int) (h0 : v2 ≤ 9223372036854775807) (h1 : 0 ≤ 0) (h2 : v2 < (v0.length : Int)) : loopF s_l10Low_L0_r.step (s_l10Low_L0_fu v0 v1 v2) (s_l10Low_L0_mk v0 v1 v2) = some (Stp.elim (fun a => (fun i a => s_l10Low_L0_mx0 a) (v2 + (-1) * (((Int.toNat (v2 - 0 + 1)) : Nat) : Int)) a) (fun p : Empty => nomatch p) (forN (s_l10Low_L0_f v0) (-1) (Int.toNat (v2 - 0 + 1)) v2 v1)) :=
  forN_loop (step := s_l10Low_L0_r.step) (mk := fun v2 a => s_l10Low_L0_mk v0 a v2) (f := s_l10Low_L0_f v0) (e := (fun i a => s_l10Low_L0_mx0 a)) (emb := (fun p : Empty => nomatch p)) (st := (-1)) (Inv := fun v2 a => v2 < (v0.length : Int)) (Int.toNat (v2 - 0 + 1)) v2 v1 _ (Nat.lt_succ_self _) h2
    (fun j a hj hv => ⟨s_l10Low_L0_st v0 a (v2 + (-1) * (j : Int)) (by omega) (by omega) (by omega) hv, by
      intro a' he
      grind [s_l10Low_L0_f, letK, Stp.elim, wrap64, List.length_set]⟩)
    (fun a hv => by
      show s_l10Low_L0_B v0 a (v2 + (-1) * (((Int.toNat (v2 - 0 + 1)) : Nat) : Int)) (Option (s_l10Low_L0_sh.T ⊕ WT s_l10Low_L0_es)) none (fun v' => some (Sum.inl v')) (fun w => some (Sum.inr w)) = _
      unfold s_l10Low_L0_B
      exact bifN (by simp only [decide_eq_false_iff_not]; omega) rfl)
theorem s_l10Low_L0_nx (v0 : Bytes) (v1 : Int) (v2 : Int) (h0 : v2 ≤ 9223372036854775807) (h1 : 0 ≤ 0) (h2 : v2 < (v0.length : Int)) : ∀ a', forN (s_l10Low_L0_f v0) (-1) (Int.toNat (v2 - 0 + 1)) v2 v1 = .next a' → (v2 + (-1) * (((Int.toNat (v2 - 0 + 1)) : Nat) : Int)) < (v0.length : Int) :=
  forN_inv (f := s_l10Low_L0_f v0) (st := (-1)) (Inv := fun v2 a => v2 < (v0.length : Int)) (Int.toNat (v2 - 0 + 1)) v2 v1 h2
    (fun j a hj hv => by
      intro a' he
      grind [s_l10Low_L0_f, letK, Stp.elim, wrap64, List.length_set])
def s_l10Low_N (x0 : Bytes) (γ : Type) (fail : γ) (k : Int → γ) : γ :=
  optK (loopF s_l10Low_L0_r.step (s_l10Low_L0_fu x0 0 (IntKind.wrap .i64 ((x0.length : Int) - 1))) (s_l10Low_L0_mk x0 0 (IntKind.wrap .i64 ((x0.length : Int) - 1)))) fail fun w2 =>
    k w2.1.2.1.1
def s_l10Low (x0 : Bytes) : Int :=
  Stp.elim (fun a3 =>
    a3)
    (fun p : Empty => nomatch p)
    (forN (s_l10Low_L0_f x0) (-1) (Int.toNat ((IntKind.wrap .i64 ((x0.length : Int) - 1)) - 0 + 1)) (IntKind.wrap .i64 ((x0.length : Int) - 1)) 0)
theorem s_l10Low_lk (x0 : Bytes) : evalFn te (orcOf (P := Try.prog) []) (lorcOf [s_l10Low_L0_le]) s_l10Low_ann Try.f199 (pvs [.sc .str] (x0, ())) =
  s_l10Low_N x0 _ none (fun v => some [(false, [RC.c (.int .u64 v)])]) := by kernel_rfl
theorem s_l10Low_p (x0 : Bytes) (hx0 : List.length x0 ≤ 4611686018427387904)  (γ : Type) (fail : γ) (k : Int → γ) : s_l10Low_N x0 γ fail k = k (s_l10Low x0) := by
  unfold s_l10Low_N s_l10Low
  exact loopX (f := k) (s_l10Low_L0_cl x0 0 (IntKind.wrap .i64 ((x0.length : Int) - 1)) (by (try simp only [Nat.ble_eq, Bool.and_eq_true, decide_eq_true_eq, s_l10Low_L0_mx0]); grind [maxSl, maxStr, toBytes_length, toInts_length, List.length_set, wrap64]) (by (try simp only [Nat.ble_eq, Bool.and_eq_true, decide_eq_true_eq, s_l10Low_L0_mx0]); grind [maxSl, maxStr, toBytes_length, toInts_length, List.length_set, wrap64]) (by (try simp only [Nat.ble_eq, Bool.and_eq_true, decide_eq_true_eq, s_l10Low_L0_mx0]); grind [maxSl, maxStr, toBytes_length, toInts_length, List.length_set, wrap64])) (fun a3 ha3 => have ia3 := s_l10Low_L0_nx x0 0 (IntKind.wrap .i64 ((x0.length : Int) - 1)) (by (try simp only [Nat.ble_eq, Bool.and_eq_true, decide_eq_true_eq, s_l10Low_L0_mx0]); grind [maxSl, maxStr, toBytes_length, toInts_length, List.length_set, wrap64]) (by (try simp only [Nat.ble_eq, Bool.and_eq_true, decide_eq_true_eq, s_l10Low_L0_mx0]); grind [maxSl, maxStr, toBytes_length, toInts_length, List.length_set, wrap64]) (by (try simp only [Nat.ble_eq, Bool.and_eq_true, decide_eq_true_eq, s_l10Low_L0_mx0]); grind [maxSl, maxStr, toBytes_length, toInts_length, List.length_set, wrap64]) _ ha3; rfl)
      (fun p : Empty => nomatch p)
theorem s_l10Low_c (x0 : Bytes)  : Con Try.prog 199 (pvs [.sc .str] (x0, ())) [rv (.sc (.int .u64)) [] (s_l10Low x0)] := by
  refine Con.of_facts (enters_of Try.func199 rfl (by kernel_rfl)) fun hf => ?_
  replace hf := factAt hf
  exact evalFn_conL teFact mixFact (orcOf_ok _) Try.func199 (by kernel_rfl) (bs := [0]) (by kernel_rfl) (by kernel_rfl) (fun w0 mo I0 hmo => ⟨lsem_of_lorc (s_l10Low_L0_ls w0 mo I0 hmo) (by kernel_rfl), trivial⟩) ((s_l10Low_lk x0).trans (s_l10Low_p x0 ((hf 0 0 rfl rfl).slen) _ _ _))
noncomputable def s_l10Low_e : Ent1 Try.prog := entA 199 [.sc .str] (fun x => (s_l10Low x.1)) (fun v => [rv (.sc (.int .u64)) [] v]) (fun x => s_l10Low_c x.1)


/-- laws.szPiece -/
def w_szPiece_N (x0 : Piec) (x1 : Int) (γ : Type) (fail : γ) (k : Int → γ) : γ :=
  bif (decide ((IntKind.wrap .i64 (x1 - (x0.text.length : Int))) < 0)) then
    k (-1)
  else
  k (IntKind.wrap .i64 (x1 - (x0.text.length : Int)))
def w_szPiece (x0 : Piec) (x1 : Int) : Int :=
  bif (decide ((IntKind.wrap .i64 (x1 - (x0.text.length : Int))) < 0)) then
    (-1)
  else
  (IntKind.wrap .i64 (x1 - (x0.text.length : Int)))
theorem w_szPiece_lk (x0 : Piec) (x1 : Int) : evalFn te (orcOf (P := Try.prog) []) lorc0 [] Try.f207 (pvs [.st .piec, .sc (.int .i64)] (x0, x1, ())) =
  w_szPiece_N x0 x1 _ none (fun v => some [(false, [RC.c (.int .i64 v)])]) := by kernel_rfl
theorem w_szPiece_p (x0 : Piec) (x1 : Int)   (γ : Type) (fail : γ) (k : Int → γ) : w_szPiece_N x0 x1 γ fail k = k (w_szPiece x0 x1) := by
  unfold w_szPiece_N w_szPiece
  exact bifT (f := k) (fun b0 => rfl)
      (fun b0 => rfl)
theorem w_szPiece_c (x0 : Piec) (x1 : Int)  : Con Try.prog 207 (pvs [.st .piec, .sc (.int .i64)] (x0, x1, ())) [rv (.sc (.int .i64)) [] (w_szPiece x0 x1)] := by
  exact evalFn_con0 teFact mixFact (orcOf_ok _) Try.func207 (by kernel_rfl) ((w_szPiece_lk x0 x1).trans (w_szPiece_p x0 x1  _ _ _))
noncomputable def w_szPiece_e : Ent1 Try.prog := entA 207 [.st .piec, .sc (.int .i64)] (fun x => (w_szPiece x.1 x.2.1)) (fun v => [rv (.sc (.int .i64)) [] v]) (fun x => w_szPiece_c x.1 x.2.1)

theorem w_szPiece_sm (x0 : Piec) (x1 : Int)  (hn : 0 ≤ x1 ∧ x1 ≤ 1048576) (hx0_text : List.length x0.text ≤ 4611686018427387904) : (fun v : Int => 0 ≤ v → v ≤ 1048576 ∧ List.length x0.text ≤ 1048576) (w_szPiece x0 x1) := by
  unfold w_szPiece
  exact bifP (P := (fun v : Int => 0 ≤ v → v ≤ 1048576 ∧ List.length x0.text ≤ 1048576)) (fun b0 => (by (try simp only [Nat.ble_eq, Bool.and_eq_true, decide_eq_true_eq]); grind [maxSl, maxStr, toBytes_length, toInts_length, List.length_set, wrap64]))
      (fun b0 => (by (try simp only [Nat.ble_eq, Bool.and_eq_true, decide_eq_true_eq]); grind [maxSl, maxStr, toBytes_length, toInts_length, List.length_set, wrap64]))

/-- laws.toPiece -/
def w_toPiece_N (x0 : Piec) (γ : Type) (fail : γ) (k : Piec → γ) : γ :=
  k x0
def w_toPiece (x0 : Piec) : Piec :=
  x0
theorem w_toPiece_lk (x0 : Piec) : evalFn te (orcOf (P := Try.prog) []) lorc0 [] Try.f208 (pvs [.st .piec] (x0, ())) =
  w_toPiece_N x0 _ none (fun v => some [(true, [RC.c (.int .i64 v.off), RC.c (.str v.text)])]) := by kernel_rfl
theorem w_toPiece_p (x0 : Piec)   (γ : Type) (fail : γ) (k : Piec → γ) : w_toPiece_N x0 γ fail k = k (w_toPiece x0) := by
  unfold w_toPiece_N w_toPiece
  exact rfl
theorem w_toPiece_c (x0 : Piec)  : Con Try.prog 208 (pvs [.st .piec] (x0, ())) [rv (.st .piec) [] (w_toPiece x0)] := by
  exact evalFn_con0 teFact mixFact (orcOf_ok _) Try.func208 (by kernel_rfl) ((w_toPiece_lk x0).trans (w_toPiece_p x0  _ _ _))
noncomputable def w_toPiece_e : Ent1 Try.prog := entA 208 [.st .piec] (fun x => (w_toPiece x.1)) (fun v => [rv (.st .piec) [] v]) (fun x => w_toPiece_c x.1)


/-- laws.eqPiece -/
def w_eqPiece_N (x0 : Piec) (x1 : Piec) (γ : Type) (fail : γ) (k : Bool → γ) : γ :=
  bif (x0.off != x1.off) then
    k false
  else
  bif (!(x0.text == x1.text)) then
    k false
  else
  k true
def w_eqPiece (x0 : Piec) (x1 : Piec) : Bool :=
  bif (x0.off != x1.off) then
    false
  else
  bif (!(x0.text == x1.text)) then
    false
  else
  true
theorem w_eqPiece_lk (x0 : Piec) (x1 : Piec) : evalFn te (orcOf (P := Try.prog) []) lorc0 [] Try.f209 (pvs [.st .piec, .st .piec] (x0, x1, ())) =
  w_eqPiece_N x0 x1 _ none (fun v => some [(false, [RC.c (.bool v)])]) := by kernel_rfl
theorem w_eqPiece_p (x0 : Piec) (x1 : Piec)   (γ : Type) (fail : γ) (k : Bool → γ) : w_eqPiece_N x0 x1 γ fail k = k (w_eqPiece x0 x1) := by
  unfold w_eqPiece_N w_eqPiece
  exact bifT (f := k) (fun b0 => rfl)
      (fun b0 => bifT (f := k) (fun b1 => rfl)
      (fun b1 => rfl))
theorem w_eqPiece_c (x0 : Piec) (x1 : Piec)  : Con Try.prog 209 (pvs [.st .piec, .st .piec] (x0, x1, ())) [rv (.sc .bool) [] (w_eqPiece x0 x1)] := by
  exact evalFn_con0 teFact mixFact (orcOf_ok _) Try.func209 (by kernel_rfl) ((w_eqPiece_lk x0 x1).trans (w_eqPiece_p x0 x1  _ _ _))
noncomputable def w_eqPiece_e : Ent1 Try.prog := entA 209 [.st .piec, .st .piec] (fun x => (w_eqPiece x.1 x.2.1)) (fun v => [rv (.sc .bool) [] v]) (fun x => w_eqPiece_c x.1 x.2.1)


/-- math/bits.RotateLeft64 -/
def mb_RotateLeft64_N (x0 : Int) (x1 : Int) (γ : Type) (fail : γ) (k : Int → γ) : γ :=
  bif (decide (0 ≤ (bits .and .u64 (IntKind.wrap .u64 x1) 63))) then
  letK (α := Int) (IntKind.wrap .u64 (x0 * 2 ^ (min (bits .and .u64 (IntKind.wrap .u64 x1) 63).toNat 64))) fun e1 =>
  bif (decide (0 ≤ (IntKind.wrap .u64 (64 - (bits .and .u64 (IntKind.wrap .u64 x1) 63))))) then
  letK (α := Int) (x0.fdiv (2 ^ (min (IntKind.wrap .u64 (64 - (bits .and .u64 (IntKind.wrap .u64 x1) 63))).toNat 64))) fun e2 =>
  k (bits .or .u64 e1 e2)
  else fail
  else fail
def mb_RotateLeft64 (x0 : Int) (x1 : Int) : Int :=
  letK (α := Int) (IntKind.wrap .u64 (x0 * 2 ^ (min (bits .and .u64 (IntKind.wrap .u64 x1) 63).toNat 64))) fun e1 =>
  letK (α := Int) (x0.fdiv (2 ^ (min (IntKind.wrap .u64 (64 - (bits .and .u64 (IntKind.wrap .u64 x1) 63))).toNat 64))) fun e2 =>
  (bits .or .u64 e1 e2)
theorem mb_RotateLeft64_lk (x0 : Int) (x1 : Int) : evalFn te (orcOf (P := Try.prog) []) lorc0 [] Try.f210 (pvs [.sc (.int .u64), .sc (.int .i64)] (x0, x1, ())) =
  mb_RotateLeft64_N x0 x1 _ none (fun v => some [(false, [RC.c (.int .u64 v)])]) := by kernel_rfl
theorem mb_RotateLeft64_p (x0 : Int) (x1 : Int) (hx0 : inK .u64 x0) (hx1 : inK .i64 x1)  (γ : Type) (fail : γ) (k : Int → γ) : mb_RotateLeft64_N x0 x1 γ fail k = k (mb_RotateLeft64 x0 x1) := by
  unfold mb_RotateLeft64_N mb_RotateLeft64
  exact bifG (by (try simp only [decide_eq_true_eq]); first | exact andMask_nonneg _ | exact wrapU_nonneg _) (letT (f := k) (fun e1 he1 => bifG (by (try simp only [decide_eq_true_eq]); first | exact andMask_nonneg _ | exact wrapU_nonneg _) (letT (f := k) (fun e2 he2 => rfl))))
theorem mb_RotateLeft64_c (x0 : Int) (x1 : Int)  : Con Try.prog 210 (pvs [.sc (.int .u64), .sc (.int .i64)] (x0, x1, ())) [rv (.sc (.int .u64)) [] (mb_RotateLeft64 x0 x1)] := by
  refine Con.of_facts (enters_of Try.func210 rfl (by kernel_rfl)) fun hf => ?_
  replace hf := factAt hf
  exact evalFn_con0 teFact mixFact (orcOf_ok _) Try.func210 (by kernel_rfl) ((mb_RotateLeft64_lk x0 x1).trans (mb_RotateLeft64_p x0 x1 ((hf 0 0 rfl rfl).rng) ((hf 1 0 rfl rfl).rng) _ _ _))
noncomputable def mb_RotateLeft64_e : Ent1 Try.prog := entA 210 [.sc (.int .u64), .sc (.int .i64)] (fun x => (mb_RotateLeft64 x.1 x.2.1)) (fun v => [rv (.sc (.int .u64)) [] v]) (fun x => mb_RotateLeft64_c x.1 x.2.1)


/-- spec.l10Turn -/
def s_l10Turn_N (x0 : Int) (x1 : Int) (γ : Type) (fail : γ) (k : Int → γ) : γ :=
  bif (decide (0 ≤ x1)) then
  bif (decide (0 ≤ (IntKind.wrap .u64 (64 - x1)))) then
  letK (α := Int) (bits .or .u64 (IntKind.wrap .u64 (x0 * 2 ^ (min x1.toNat 64))) (x0.fdiv (2 ^ (min (IntKind.wrap .u64 (64 - x1)).toNat 64)))) fun e1 =>
  k e1
  else fail
  else fail
def s_l10Turn (x0 : Int) (x1 : Int) : Int :=
  letK (α := Int) (bits .or .u64 (IntKind.wrap .u64 (x0 * 2 ^ (min x1.toNat 64))) (x0.fdiv (2 ^ (min (IntKind.wrap .u64 (64 - x1)).toNat 64)))) fun e1 =>
  e1
theorem s_l10Turn_lk (x0 : Int) (x1 : Int) : evalFn te (orcOf (P := Try.prog) []) lorc0 [] Try.f211 (pvs [.sc (.int .u64), .sc (.int .u64)] (x0, x1, ())) =
  s_l10Turn_N x0 x1 _ none (fun v => some [(false, [RC.c (.int .u64 v)])]) := by kernel_rfl
theorem s_l10Turn_p (x0 : Int) (x1 : Int) (hx0 : inK .u64 x0) (hx1 : inK .u64 x1)  (γ : Type) (fail : γ) (k : Int → γ) : s_l10Turn_N x0 x1 γ fail k = k (s_l10Turn x0 x1) := by
  unfold s_l10Turn_N s_l10Turn
  exact bifG (by (try simp only [decide_eq_true_eq]); have hh := inKU64 hx1; first | omega | exact wrapU_nonneg _) (bifG (by (try simp only [decide_eq_true_eq]); have hh := inKU64 hx1; first | omega | exact wrapU_nonneg _) (letT (f := k) (fun e1 he1 => rfl)))
theorem s_l10Turn_c (x0 : Int) (x1 : Int)  : Con Try.prog 211 (pvs [.sc (.int .u64), .sc (.int .u64)] (x0, x1, ())) [rv (.sc (.int .u64)) [] (s_l10Turn x0 x1)] := by
  refine Con.of_facts (enters_of Try.func211 rfl (by kernel_rfl)) fun hf => ?_
  replace hf := factAt hf
  exact evalFn_con0 teFact mixFact (orcOf_ok _) Try.func211 (by kernel_rfl) ((s_l10Turn_lk x0 x1).trans (s_l10Turn_p x0 x1 ((hf 0 0 rfl rfl).rng) ((hf 1 0 rfl rfl).rng) _ _ _))
noncomputable def s_l10Turn_e : Ent1 Try.prog := entA 211 [.sc (.int .u64), .sc (.int .u64)] (fun x => (s_l10Turn x.1 x.2.1)) (fun v => [rv (.sc (.int .u64)) [] v]) (fun x => s_l10Turn_c x.1 x.2.1)


/-- spec.SeqAdd -/
def s_SeqAdd_N (x0 : Int) (x1 : Int) (γ : Type) (fail : γ) (k : Int → γ) : γ :=
  letK (α := Int) (s_l4Rest x0) fun c1 =>
  letK (α := Int) (s_l4Rest x1) fun c2 =>
  letK (α := Int) (s_l4Rest (IntKind.wrap .i64 (c1 + c2))) fun c3 =>
  k c3
def s_SeqAdd (x0 : Int) (x1 : Int) : Int :=
  letK (α := Int) (s_l4Rest x0) fun c1 =>
  letK (α := Int) (s_l4Rest x1) fun c2 =>
  letK (α := Int) (s_l4Rest (IntKind.wrap .i64 (c1 + c2))) fun c3 =>
  c3
theorem s_SeqAdd_lk (x0 : Int) (x1 : Int) : evalFn te (orcOf (P := Try.prog) [s_l4Rest_e]) lorc0 [] Try.f16 (pvs [.sc (.int .i64), .sc (.int .i64)] (x0, x1, ())) =
  s_SeqAdd_N x0 x1 _ none (fun v => some [(false, [RC.c (.int .i64 v)])]) := by kernel_rfl
theorem s_SeqAdd_p (x0 : Int) (x1 : Int)   (γ : Type) (fail : γ) (k : Int → γ) : s_SeqAdd_N x0 x1 γ fail k = k (s_SeqAdd x0 x1) := by
  unfold s_SeqAdd_N s_SeqAdd
  exact letT (f := k) (fun c1 hc1 => letT (f := k) (fun c2 hc2 => letT (f := k) (fun c3 hc3 => rfl)))
theorem s_SeqAdd_c (x0 : Int) (x1 : Int)  : Con Try.prog 16 (pvs [.sc (.int .i64), .sc (.int .i64)] (x0, x1, ())) [rv (.sc (.int .i64)) [] (s_SeqAdd x0 x1)] := by
  exact evalFn_con0 teFact mixFact (orcOf_ok _) Try.func16 (by kernel_rfl) ((s_SeqAdd_lk x0 x1).trans (s_SeqAdd_p x0 x1  _ _ _))
noncomputable def s_SeqAdd_e : Ent1 Try.prog := entA 16 [.sc (.int .i64), .sc (.int .i64)] (fun x => (s_SeqAdd x.1 x.2.1)) (fun v => [rv (.sc (.int .i64)) [] v]) (fun x => s_SeqAdd_c x.1 x.2.1)


/-- laws.toSegment -/
def w_toSegment_N (x0 : Segm) (γ : Type) (fail : γ) (k : Segm → γ) : γ :=
  letK (α := Opti) (w_toOptions x0.opts) fun c1 =>
  k ({ x0 with opts.mss := c1.mss, opts.scale := c1.scale, opts.sack := c1.sack, opts.stamp := c1.stamp, opts.val := c1.val, opts.echo := c1.echo } : Segm)
def w_toSegment (x0 : Segm) : Segm :=
  letK (α := Opti) (w_toOptions x0.opts) fun c1 =>
  ({ x0 with opts.mss := c1.mss, opts.scale := c1.scale, opts.sack := c1.sack, opts.stamp := c1.stamp, opts.val := c1.val, opts.echo := c1.echo } : Segm)
theorem w_toSegment_lk (x0 : Segm) : evalFn te (orcOf (P := Try.prog) [w_toOptions_e]) lorc0 [] Try.f36 (pvs [.st .segm] (x0, ())) =
  w_toSegment_N x0 _ none (fun v => some [(true, [RC.c (.int .i64 v.from_), RC.c (.int .i64 v.to), RC.c (.int .i64 v.seq), RC.c (.int .i64 v.ack), RC.c (.int .i64 v.flags), RC.c (.int .i64 v.window), RC.c (.int .i64 v.opts.mss), RC.c (.int .i64 v.opts.scale), RC.c (.bool v.opts.sack), RC.c (.bool v.opts.stamp), RC.c (.int .i64 v.opts.val), RC.c (.int .i64 v.opts.echo), RC.c (.str v.body)])]) := by kernel_rfl
theorem w_toSegment_p (x0 : Segm)   (γ : Type) (fail : γ) (k : Segm → γ) : w_toSegment_N x0 γ fail k = k (w_toSegment x0) := by
  unfold w_toSegment_N w_toSegment
  exact letT (f := k) (fun c1 hc1 => rfl)
theorem w_toSegment_c (x0 : Segm)  : Con Try.prog 36 (pvs [.st .segm] (x0, ())) [rv (.st .segm) [] (w_toSegment x0)] := by
  exact evalFn_con0 teFact mixFact (orcOf_ok _) Try.func36 (by kernel_rfl) ((w_toSegment_lk x0).trans (w_toSegment_p x0  _ _ _))
noncomputable def w_toSegment_e : Ent1 Try.prog := entA 36 [.st .segm] (fun x => (w_toSegment x.1)) (fun v => [rv (.st .segm) [] v]) (fun x => w_toSegment_c x.1)


/-- laws.eqSegment -/
def w_eqSegment_N (x0 : Segm) (x1 : Segm) (γ : Type) (fail : γ) (k : Bool → γ) : γ :=
  bif (x0.from_ != x1.from_) then
    k false
  else
  bif (x0.to != x1.to) then
    k false
  else
  bif (x0.seq != x1.seq) then
    k false
  else
  bif (x0.ack != x1.ack) then
    k false
  else
  bif (x0.flags != x1.flags) then
    k false
  else
  bif (x0.window != x1.window) then
    k false
  else
  letK (α := Bool) (w_eqOptions x0.opts x1.opts) fun c1 =>
  bif (!c1) then
    k false
  else
  bif (!(x0.body == x1.body)) then
    k false
  else
  k true
def w_eqSegment (x0 : Segm) (x1 : Segm) : Bool :=
  bif (x0.from_ != x1.from_) then
    false
  else
  bif (x0.to != x1.to) then
    false
  else
  bif (x0.seq != x1.seq) then
    false
  else
  bif (x0.ack != x1.ack) then
    false
  else
  bif (x0.flags != x1.flags) then
    false
  else
  bif (x0.window != x1.window) then
    false
  else
  letK (α := Bool) (w_eqOptions x0.opts x1.opts) fun c1 =>
  bif (!c1) then
    false
  else
  bif (!(x0.body == x1.body)) then
    false
  else
  true
theorem w_eqSegment_lk (x0 : Segm) (x1 : Segm) : evalFn te (orcOf (P := Try.prog) [w_eqOptions_e]) lorc0 [] Try.f38 (pvs [.st .segm, .st .segm] (x0, x1, ())) =
  w_eqSegment_N x0 x1 _ none (fun v => some [(false, [RC.c (.bool v)])]) := by kernel_rfl
theorem w_eqSegment_p (x0 : Segm) (x1 : Segm)   (γ : Type) (fail : γ) (k : Bool → γ) : w_eqSegment_N x0 x1 γ fail k = k (w_eqSegment x0 x1) := by
  unfold w_eqSegment_N w_eqSegment
  exact bifT (f := k) (fun b0 => rfl)
      (fun b0 => bifT (f := k) (fun b1 => rfl)
      (fun b1 => bifT (f := k) (fun b2 => rfl)
      (fun b2 => bifT (f := k) (fun b3 => rfl)
      (fun b3 => bifT (f := k) (fun b4 => rfl)
      (fun b4 => bifT (f := k) (fun b5 => rfl)
      (fun b5 => letT (f := k) (fun c1 hc1 => bifT (f := k) (fun b6 => rfl)
      (fun b6 => bifT (f := k) (fun b7 => rfl)
      (fun b7 => rfl)))))))))
theorem w_eqSegment_c (x0 : Segm) (x1 : Segm)  : Con Try.prog 38 (pvs [.st .segm, .st .segm] (x0, x1, ())) [rv (.sc .bool) [] (w_eqSegment x0 x1)] := by
  exact evalFn_con0 teFact mixFact (orcOf_ok _) Try.func38 (by kernel_rfl) ((w_eqSegment_lk x0 x1).trans (w_eqSegment_p x0 x1  _ _ _))
noncomputable def w_eqSegment_e : Ent1 Try.prog := entA 38 [.st .segm, .st .segm] (fun x => (w_eqSegment x.1 x.2.1)) (fun v => [rv (.sc .bool) [] v]) (fun x => w_eqSegment_c x.1 x.2.1)


/-- impl.WordOk -/
def i_WordOk_N (x0 : Int) (x1 : Int) (γ : Type) (fail : γ) (k : Bool → γ) : γ :=
  letK (α := Bool) (i_within x1 1 62) fun c1 =>
  bif c1 then
    bif (decide (0 ≤ x1)) then
    letK (α := Int) (IntKind.wrap .i64 ((IntKind.wrap .i64 (1 * 2 ^ (min x1.toNat 64))) - 1)) fun e2 =>
    letK (α := Bool) (i_within x0 0 e2) fun c3 =>
    k c3
    else fail
  else
  k false
def i_WordOk (x0 : Int) (x1 : Int) : Bool :=
  letK (α := Bool) (i_within x1 1 62) fun c1 =>
  bif c1 then
    letK (α := Int) (IntKind.wrap .i64 ((IntKind.wrap .i64 (1 * 2 ^ (min x1.toNat 64))) - 1)) fun e2 =>
    letK (α := Bool) (i_within x0 0 e2) fun c3 =>
    c3
  else
  false
theorem i_WordOk_lk (x0 : Int) (x1 : Int) : evalFn te (orcOf (P := Try.prog) [i_within_e]) lorc0 [] Try.f50 (pvs [.sc (.int .i64), .sc (.int .i64)] (x0, x1, ())) =
  i_WordOk_N x0 x1 _ none (fun v => some [(false, [RC.c (.bool v)])]) := by kernel_rfl
theorem i_WordOk_p (x0 : Int) (x1 : Int) (hx0 : inK .i64 x0) (hx1 : inK .i64 x1)  (γ : Type) (fail : γ) (k : Bool → γ) : i_WordOk_N x0 x1 γ fail k = k (i_WordOk x0 x1) := by
  unfold i_WordOk_N i_WordOk
  exact letT (f := k) (fun c1 hc1 => bifT (f := k) (fun b0 => bifG (by (try simp only [Nat.ble_eq, Bool.and_eq_true, decide_eq_true_eq]); grind [maxSl, maxStr, toBytes_length, toInts_length, List.length_set, wrap64, i_within_eq]) (letT (f := k) (fun e2 he2 => letT (f := k) (fun c3 hc3 => rfl))))
      (fun b0 => rfl))
theorem i_WordOk_c (x0 : Int) (x1 : Int)  : Con Try.prog 50 (pvs [.sc (.int .i64), .sc (.int .i64)] (x0, x1, ())) [rv (.sc .bool) [] (i_WordOk x0 x1)] := by
  refine Con.of_facts (enters_of Try.func50 rfl (by kernel_rfl)) fun hf => ?_
  replace hf := factAt hf
  exact evalFn_con0 teFact mixFact (orcOf_ok _) Try.func50 (by kernel_rfl) ((i_WordOk_lk x0 x1).trans (i_WordOk_p x0 x1 ((hf 0 0 rfl rfl).rng) ((hf 1 0 rfl rfl).rng) _ _ _))
noncomputable def i_WordOk_e : Ent1 Try.prog := entA 50 [.sc (.int .i64), .sc (.int .i64)] (fun x => (i_WordOk x.1 x.2.1)) (fun v => [rv (.sc .bool) [] v]) (fun x => i_WordOk_c x.1 x.2.1)


/-- spec.WordOk -/
def s_WordOk_N (x0 : Int) (x1 : Int) (γ : Type) (fail : γ) (k : Bool → γ) : γ :=
  letK (α := Bool) (s_l1In x1 1 62) fun c1 =>
  bif c1 then
    bif (decide (0 ≤ (IntKind.wrap .u64 x1))) then
    letK (α := Int) (IntKind.wrap .i64 ((IntKind.wrap .i64 (1 * 2 ^ (min (IntKind.wrap .u64 x1).toNat 64))) - 1)) fun e2 =>
    letK (α := Bool) (s_l1In x0 0 e2) fun c3 =>
    k c3
    else fail
  else
  k false
def s_WordOk (x0 : Int) (x1 : Int) : Bool :=
  letK (α := Bool) (s_l1In x1 1 62) fun c1 =>
  bif c1 then
    letK (α := Int) (IntKind.wrap .i64 ((IntKind.wrap .i64 (1 * 2 ^ (min (IntKind.wrap .u64 x1).toNat 64))) - 1)) fun e2 =>
    letK (α := Bool) (s_l1In x0 0 e2) fun c3 =>
    c3
  else
  false
theorem s_WordOk_lk (x0 : Int) (x1 : Int) : evalFn te (orcOf (P := Try.prog) [s_l1In_e]) lorc0 [] Try.f53 (pvs [.sc (.int .i64), .sc (.int .i64)] (x0, x1, ())) =
  s_WordOk_N x0 x1 _ none (fun v => some [(false, [RC.c (.bool v)])]) := by kernel_rfl
theorem s_WordOk_p (x0 : Int) (x1 : Int) (hx0 : inK .i64 x0) (hx1 : inK .i64 x1)  (γ : Type) (fail : γ) (k : Bool → γ) : s_WordOk_N x0 x1 γ fail k = k (s_WordOk x0 x1) := by
  unfold s_WordOk_N s_WordOk
  exact letT (f := k) (fun c1 hc1 => bifT (f := k) (fun b0 => bifG (by simp only [decide_eq_true_eq]; exact wrapU_nonneg _) (letT (f := k) (fun e2 he2 => letT (f := k) (fun c3 hc3 => rfl))))
      (fun b0 => rfl))
theorem s_WordOk_c (x0 : Int) (x1 : Int)  : Con Try.prog 53 (pvs [.sc (.int .i64), .sc (.int .i64)] (x0, x1, ())) [rv (.sc .bool) [] (s_WordOk x0 x1)] := by
  refine Con.of_facts (enters_of Try.func53 rfl (by kernel_rfl)) fun hf => ?_
  replace hf := factAt hf
  exact evalFn_con0 teFact mixFact (orcOf_ok _) Try.func53 (by kernel_rfl) ((s_WordOk_lk x0 x1).trans (s_WordOk_p x0 x1 ((hf 0 0 rfl rfl).rng) ((hf 1 0 rfl rfl).rng) _ _ _))
noncomputable def s_WordOk_e : Ent1 Try.prog := entA 53 [.sc (.int .i64), .sc (.int .i64)] (fun x => (s_WordOk x.1 x.2.1)) (fun v => [rv (.sc .bool) [] v]) (fun x => s_WordOk_c x.1 x.2.1)


/-- impl.MssOf -/
def i_MssOf_N (x0 : Int) (γ : Type) (fail : γ) (k : Int → γ) : γ :=
  letK (α := Bool) (i_within x0 0 7) fun c1 =>
  bif (!c1) then
    k 0
  else
  bif ((decide (0 ≤ x0)) && (decide (x0 < 8))) then
  k ([64, 256, 536, 1024, 1300, 1400, 1440, 1460].getD x0.toNat 0)
  else fail
def i_MssOf (x0 : Int) : Int :=
  letK (α := Bool) (i_within x0 0 7) fun c1 =>
  bif (!c1) then
    0
  else
  ([64, 256, 536, 1024, 1300, 1400, 1440, 1460].getD x0.toNat 0)
theorem i_MssOf_lk (x0 : Int) : evalFn te (orcOf (P := Try.prog) [i_within_e]) lorc0 [] Try.f55 (pvs [.sc (.int .i64)] (x0, ())) =
  i_MssOf_N x0 _ none (fun v => some [(false, [RC.c (.int .i64 v)])]) := by kernel_rfl
theorem i_MssOf_p (x0 : Int) (hx0 : inK .i64 x0)  (γ : Type) (fail : γ) (k : Int → γ) : i_MssOf_N x0 γ fail k = k (i_MssOf x0) := by
  unfold i_MssOf_N i_MssOf
  exact letT (f := k) (fun c1 hc1 => bifT (f := k) (fun b0 => rfl)
      (fun b0 => bifG (by (try simp only [Nat.ble_eq, Bool.and_eq_true, decide_eq_true_eq]); grind [maxSl, maxStr, toBytes_length, toInts_length, List.length_set, wrap64, i_within_eq]) (rfl)))
theorem i_MssOf_c (x0 : Int)  : Con Try.prog 55 (pvs [.sc (.int .i64)] (x0, ())) [rv (.sc (.int .i64)) [] (i_MssOf x0)] := by
  refine Con.of_facts (enters_of Try.func55 rfl (by kernel_rfl)) fun hf => ?_
  replace hf := factAt hf
  exact evalFn_con0 teFact mixFact (orcOf_ok _) Try.func55 (by kernel_rfl) ((i_MssOf_lk x0).trans (i_MssOf_p x0 ((hf 0 0 rfl rfl).rng) _ _ _))
noncomputable def i_MssOf_e : Ent1 Try.prog := entA 55 [.sc (.int .i64)] (fun x => (i_MssOf x.1)) (fun v => [rv (.sc (.int .i64)) [] v]) (fun x => i_MssOf_c x.1)


/-- impl.MssIndex -/
def i_MssIndex_ann : List (Nat × Keep) := [(0, ⟨[0, 3], [], false, 0⟩)]
def i_MssIndex_L0_sh : Sh := ⟨[(0, false, [.int .i64]), (3, false, [.int .i64])], []⟩
def i_MssIndex_L0_es : List (Ex × Sh) := [(.ret, ⟨[(2, false, [.int .i64])], []⟩), (.exit 0, ⟨[(2, false, [.undef])], []⟩)]
def i_MssIndex_L0_mk (v0 : Int) (v1 : Int) : i_MssIndex_L0_sh.T := (((v0, ()), ((v1, ()), ())), ())
def i_MssIndex_L0_mx0 (y0 : Int) : Sh.T ⟨[(2, false, [.int .i64])], []⟩ := (((y0, ()), ()), ())
def i_MssIndex_L0_mx1  : Sh.T ⟨[(2, false, [.undef])], []⟩ := ((((), ()), ()), ())
def i_MssIndex_L0_B (v0 : Int) (v1 : Int) (γ : Type) (fail : γ) (next : i_MssIndex_L0_sh.T → γ) (out : WT i_MssIndex_L0_es → γ) : γ :=
  bif (decide (0 < v1)) then
    letK (α := Int) (i_MssOf v1) fun c1 =>
    bif (decide (c1 ≤ v0)) then
      out (Sum.inl (i_MssIndex_L0_mx0 v1))
    else
    next (i_MssIndex_L0_mk v0 (IntKind.wrap .i64 (v1 - 1)))
  else
  out (Sum.inr (i_MssIndex_L0_mx1 ))
theorem i_MssIndex_L0_par (v0 : Int) (v1 : Int) (γ : Type) (fail : γ) (next : i_MssIndex_L0_sh.T → γ) (out : WT i_MssIndex_L0_es → γ) : i_MssIndex_L0_B v0 v1 γ fail next out = optK (i_MssIndex_L0_B v0 v1 _ none (fun v' => some (.inl v')) (fun w => some (.inr w))) fail (fun r => Sum.elim next out r) := by
  unfold i_MssIndex_L0_B
  exact bifT (f := (fun o => optK o fail (fun r => Sum.elim next out r))) (fun _ => letT (f := (fun o => optK o fail (fun r => Sum.elim next out r))) (fun c1 _ => bifT (f := (fun o => optK o fail (fun r => Sum.elim next out r))) (fun _ => rfl)
      (fun _ => rfl)))
      (fun _ => rfl)
def i_MssIndex_L0_r : Round i_MssIndex_L0_sh.T (WT i_MssIndex_L0_es) where
  B v γ fail next out := i_MssIndex_L0_B v.1.1.1 v.1.2.1.1 γ fail next out
  par v γ fail next out := i_MssIndex_L0_par v.1.1.1 v.1.2.1.1 γ fail next out
def i_MssIndex_L0_fu (v0 : Int) (v1 : Int) : Nat := (Int.toNat (v1 - 0)) + 1
theorem i_MssIndex_L0_lk (v : i_MssIndex_L0_sh.T) (next : St → Option Res) (k : Ex → St → Option Res) : evalK te (orcOf (P := Try.prog) [i_MssOf_e]) (lorcOf []) Try.f56.ntmps i_MssIndex_ann (nthLoop (bodyOf Try.f56) 0 0) 0 (i_MssIndex_L0_sh.enc v) (endK ⟨[0, 3], [], false, 0⟩ ⟨[2], [], false, 0⟩ next k) =
  i_MssIndex_L0_r.B v _ none (fun v' => next (i_MssIndex_L0_sh.enc v')) (fun w => outK i_MssIndex_L0_es k w) := by kernel_rfl
def i_MssIndex_L0_le : LE := leOf 0 i_MssIndex_L0_sh i_MssIndex_L0_es i_MssIndex_L0_r.step (fun v => i_MssIndex_L0_fu v.1.1.1 v.1.2.1.1)
theorem i_MssIndex_L0_ls (w0 : World) (mo : Mts) (I0 : Nat → Prop) (hmo : mo.length = 0) : LSem Try.prog (Sim w0 mo Try.f56.ntmps I0) (fun b s k => match Nat.beq 0 b with | true => i_MssIndex_L0_le.run s k | false => none) 0 (nthLoop (bodyOf Try.f56) 0 0) :=
  le_sem hmo (lorc := lorcOf []) (ann := i_MssIndex_ann) (keep := ⟨[0, 3], [], false, 0⟩) (kout := ⟨[2], [], false, 0⟩) teFact mixFact (orcOf_ok _) (by kernel_rfl) (allLoops_of (bs := []) (by kernel_rfl) trivial) i_MssIndex_L0_r _ i_MssIndex_L0_lk
def i_MssIndex_L0_f (v0 : Int) (v1 : Int) (a : Unit) : Stp (Unit) ((Int)) :=
  letK (α := Int) (i_MssOf v1) fun c1 =>
  bif (decide (c1 ≤ v0)) then
    .out (v1)
  else
  .next ()
theorem i_MssIndex_L0_st (v0 : Int) (v1 : Int) (hlo : 0 < v1) (hhi : v1 ≤ 9223372036854775807) (hN : 0 ≤ 0) : i_MssIndex_L0_r.step (i_MssIndex_L0_mk v0 v1) = Stp.elim (fun a' : Unit => some (Sum.inl (i_MssIndex_L0_mk v0 (v1 + (-1))))) (fun w => some (Sum.inr ((fun p : Int => Sum.inl (i_MssIndex_L0_mx0 p)) w))) (i_MssIndex_L0_f v0 v1 ()) := by
  have hw : (IntKind.wrap .i64 (v1 - 1)) = v1 + (-1) := wrap64 (by omega) (by omega)
  show i_MssIndex_L0_B v0 v1 (Option (i_MssIndex_L0_sh.T ⊕ WT i_MssIndex_L0_es)) none (fun v' => some (Sum.inl v')) (fun w => some (Sum.inr w)) = _
  unfold i_MssIndex_L0_B i_MssIndex_L0_f
  exact bifG (by simp only [decide_eq_true_eq]; omega) (letT (f := (Stp.elim (fun a' : Unit => some (Sum.inl (i_MssIndex_L0_mk v0 (v1 + (-1))))) (fun w => some (Sum.inr ((fun p : Int => Sum.inl (i_MssIndex_L0_mx0 p)) w))))) (fun c1 hc1 => bifT (f := (Stp.elim (fun a' : Unit => some (Sum.inl (i_MssIndex_L0_mk v0 (v1 + (-1))))) (fun w => some (Sum.inr ((fun p : Int => Sum.inl (i_MssIndex_L0_mx0 p)) w))))) (fun b0 => rfl)
      (fun b0 => (by exact congrArg (fun z => some (Sum.inl (i_MssIndex_L0_mk v0 z))) hw))))
theorem i_MssIndex_L0_cl (v0 : Int) (v1 : Int) (h0 : v1 ≤ 9223372036854775807) (h1 : 0 ≤ 0) : loopF i_MssIndex_L0_r.step (i_MssIndex_L0_fu v0 v1) (i_MssIndex_L0_mk v0 v1) = some (Stp.elim (fun a => (fun i a => Sum.inr (i_MssIndex_L0_mx1 )) (v1 + (-1) * (((Int.toNat (v1 - 0)) : Nat) : Int)) a) (fun p : Int => Sum.inl (i_MssIndex_L0_mx0 p)) (forN (i_MssIndex_L0_f v0) (-1) (Int.toNat (v1 - 0)) v1 ())) :=
  forN_loop (step := i_MssIndex_L0_r.step) (mk := fun v1 a => i_MssIndex_L0_mk v0 v1) (f := i_MssIndex_L0_f v0) (e := (fun i a => Sum.inr (i_MssIndex_L0_mx1 ))) (emb := (fun p : Int => Sum.inl (i_MssIndex_L0_mx0 p))) (st := (-1)) (Inv := fun v1 a => True) (Int.toNat (v1 - 0)) v1 () _ (Nat.lt_succ_self _) trivial
    (fun j a hj hv => ⟨i_MssIndex_L0_st v0 (v1 + (-1) * (j : Int)) (by omega) (by omega) (by omega), fun _ _ => trivial⟩)
    (fun a hv => by
      show i_MssIndex_L0_B v0 (v1 + (-1) * (((Int.toNat (v1 - 0)) : Nat) : Int)) (Option (i_MssIndex_L0_sh.T ⊕ WT i_MssIndex_L0_es)) none (fun v' => some (Sum.inl v')) (fun w => some (Sum.inr w)) = _
      unfold i_MssIndex_L0_B
      exact bifN (by simp only [decide_eq_false_iff_not]; omega) rfl)
def i_MssIndex_N (x0 : Int) (γ : Type) (fail : γ) (k : Int → γ) : γ :=
  optK (loopF i_MssIndex_L0_r.step (i_MssIndex_L0_fu x0 7) (i_MssIndex_L0_mk x0 7)) fail fun w2 =>
    Sum.elim (fun w2 =>
      k w2.1.1.1)
    (fun w2 =>
      k 0) w2
def i_MssIndex (x0 : Int) : Int :=
  Stp.elim (fun a3 =>
    0)
    (fun p3 =>
      p3)
    (forN (i_MssIndex_L0_f x0) (-1) (Int.toNat (7 - 0)) 7 ())
theorem i_MssIndex_lk (x0 : Int) : evalFn te (orcOf (P := Try.prog) [i_MssOf_e]) (lorcOf [i_MssIndex_L0_le]) i_MssIndex_ann Try.f56 (pvs [.sc (.int .i64)] (x0, ())) =
  i_MssIndex_N x0 _ none (fun v => some [(false, [RC.c (.int .i64 v)])]) := by kernel_rfl
theorem i_MssIndex_p (x0 : Int) (hx0 : inK .i64 x0)  (γ : Type) (fail : γ) (k : Int → γ) : i_MssIndex_N x0 γ fail k = k (i_MssIndex x0) := by
  unfold i_MssIndex_N i_MssIndex
  exact loopT (f := k) (i_MssIndex_L0_cl x0 7 (by (try simp only [Nat.ble_eq, Bool.and_eq_true, decide_eq_true_eq, i_MssIndex_L0_mx0, i_MssIndex_L0_mx1]); grind [maxSl, maxStr, toBytes_length, toInts_length, List.length_set, wrap64]) (by (try simp only [Nat.ble_eq, Bool.and_eq_true, decide_eq_true_eq, i_MssIndex_L0_mx0, i_MssIndex_L0_mx1]); grind [maxSl, maxStr, toBytes_length, toInts_length, List.length_set, wrap64])) (fun a3 => rfl)
      (fun p3 => rfl)
theorem i_MssIndex_c (x0 : Int)  : Con Try.prog 56 (pvs [.sc (.int .i64)] (x0, ())) [rv (.sc (.int .i64)) [] (i_MssIndex x0)] := by
  refine Con.of_facts (enters_of Try.func56 rfl (by kernel_rfl)) fun hf => ?_
  replace hf := factAt hf
  exact evalFn_conL teFact mixFact (orcOf_ok _) Try.func56 (by kernel_rfl) (bs := [0]) (by kernel_rfl) (by kernel_rfl) (fun w0 mo I0 hmo => ⟨lsem_of_lorc (i_MssIndex_L0_ls w0 mo I0 hmo) (by kernel_rfl), trivial⟩) ((i_MssIndex_lk x0).trans (i_MssIndex_p x0 ((hf 0 0 rfl rfl).rng) _ _ _))
noncomputable def i_MssIndex_e : Ent1 Try.prog := entA 56 [.sc (.int .i64)] (fun x => (i_MssIndex x.1)) (fun v => [rv (.sc (.int .i64)) [] v]) (fun x => i_MssIndex_c x.1)


/-- spec.MssOf -/
def s_MssOf_N (x0 : Int) (γ : Type) (fail : γ) (k : Int → γ) : γ :=
  letK (α := Bool) (s_l1In x0 0 7) fun c1 =>
  bif (!c1) then
    k 0
  else
  bif ((decide (0 ≤ x0)) && (decide (x0 < 8))) then
  k ([64, 256, 536, 1024, 1300, 1400, 1440, 1460].getD x0.toNat 0)
  else fail
def s_MssOf (x0 : Int) : Int :=
  letK (α := Bool) (s_l1In x0 0 7) fun c1 =>
  bif (!c1) then
    0
  else
  ([64, 256, 536, 1024, 1300, 1400, 1440, 1460].getD x0.toNat 0)
theorem s_MssOf_lk (x0 : Int) : evalFn te (orcOf (P := Try.prog) [s_l1In_e]) lorc0 [] Try.f58 (pvs [.sc (.int .i64)] (x0, ())) =
  s_MssOf_N x0 _ none (fun v => some [(false, [RC.c (.int .i64 v)])]) := by kernel_rfl
theorem s_MssOf_p (x0 : Int) (hx0 : inK .i64 x0)  (γ : Type) (fail : γ) (k : Int → γ) : s_MssOf_N x0 γ fail k = k (s_MssOf x0) := by
  unfold s_MssOf_N s_MssOf
  exact letT (f := k) (fun c1 hc1 => bifT (f := k) (fun b0 => rfl)
      (fun b0 => bifG (by (try simp only [Nat.ble_eq, Bool.and_eq_true, decide_eq_true_eq]); grind [maxSl, maxStr, toBytes_length, toInts_length, List.length_set, wrap64, s_l1In_eq]) (rfl)))
theorem s_MssOf_c (x0 : Int)  : Con Try.prog 58 (pvs [.sc (.int .i64)] (x0, ())) [rv (.sc (.int .i64)) [] (s_MssOf x0)] := by
  refine Con.of_facts (enters_of Try.func58 rfl (by kernel_rfl)) fun hf => ?_
  replace hf := factAt hf
  exact evalFn_con0 teFact mixFact (orcOf_ok _) Try.func58 (by kernel_rfl) ((s_MssOf_lk x0).trans (s_MssOf_p x0 ((hf 0 0 rfl rfl).rng) _ _ _))
noncomputable def s_MssOf_e : Ent1 Try.prog := entA 58 [.sc (.int .i64)] (fun x => (s_MssOf x.1)) (fun v => [rv (.sc (.int .i64)) [] v]) (fun x => s_MssOf_c x.1)


/-- spec.MssIndex -/
def s_MssIndex_ann : List (Nat × Keep) := [(0, ⟨[0, 3, 4], [], false, 0⟩)]
def s_MssIndex_L0_sh : Sh := ⟨[(0, false, [.int .i64]), (3, false, [.int .i64]), (4, false, [.int .i64])], []⟩
def s_MssIndex_L0_es : List (Ex × Sh) := [(.exit 0, ⟨[(2, false, [.undef]), (3, false, [.int .i64])], []⟩)]
def s_MssIndex_L0_mk (v0 : Int) (v1 : Int) (v2 : Int) : s_MssIndex_L0_sh.T := (((v0, ()), ((v1, ()), ((v2, ()), ()))), ())
def s_MssIndex_L0_mx0 (y0 : Int) : Sh.T ⟨[(2, false, [.undef]), (3, false, [.int .i64])], []⟩ := ((((), ()), ((y0, ()), ())), ())
def s_MssIndex_L0_B (v0 : Int) (v1 : Int) (v2 : Int) (γ : Type) (fail : γ) (next : s_MssIndex_L0_sh.T → γ) (out : WT s_MssIndex_L0_es → γ) : γ :=
  bif (decide (v2 < 8)) then
    letK (α := Int) (s_MssOf v2) fun c1 =>
    bif (decide (c1 ≤ v0)) then
      next (s_MssIndex_L0_mk v0 v2 (IntKind.wrap .i64 (v2 + 1)))
    else
    next (s_MssIndex_L0_mk v0 v1 (IntKind.wrap .i64 (v2 + 1)))
  else
  out (s_MssIndex_L0_mx0 v1)
theorem s_MssIndex_L0_par (v0 : Int) (v1 : Int) (v2 : Int) (γ : Type) (fail : γ) (next : s_MssIndex_L0_sh.T → γ) (out : WT s_MssIndex_L0_es → γ) : s_MssIndex_L0_B v0 v1 v2 γ fail next out = optK (s_MssIndex_L0_B v0 v1 v2 _ none (fun v' => some (.inl v')) (fun w => some (.inr w))) fail (fun r => Sum.elim next out r) := by
  unfold s_MssIndex_L0_B
  exact bifT (f := (fun o => optK o fail (fun r => Sum.elim next out r))) (fun _ => letT (f := (fun o => optK o fail (fun r => Sum.elim next out r))) (fun c1 _ => bifT (f := (fun o => optK o fail (fun r => Sum.elim next out r))) (fun _ => rfl)
      (fun _ => rfl)))
      (fun _ => rfl)
def s_MssIndex_L0_r : Round s_MssIndex_L0_sh.T (WT s_MssIndex_L0_es) where
  B v γ fail next out := s_MssIndex_L0_B v.1.1.1 v.1.2.1.1 v.1.2.2.1.1 γ fail next out
  par v γ fail next out := s_MssIndex_L0_par v.1.1.1 v.1.2.1.1 v.1.2.2.1.1 γ fail next out
def s_MssIndex_L0_fu (v0 : Int) (v1 : Int) (v2 : Int) : Nat := (Int.toNat (8 - v2)) + 1
theorem s_MssIndex_L0_lk (v : s_MssIndex_L0_sh.T) (next : St → Option Res) (k : Ex → St → Option Res) : evalK te (orcOf (P := Try.prog) [s_MssOf_e]) (lorcOf []) Try.f59.ntmps s_MssIndex_ann (nthLoop (bodyOf Try.f59) 0 0) 0 (s_MssIndex_L0_sh.enc v) (endK ⟨[0, 3, 4], [], false, 0⟩ ⟨[2, 3], [], false, 0⟩ next k) =
  s_MssIndex_L0_r.B v _ none (fun v' => next (s_MssIndex_L0_sh.enc v')) (fun w => outK s_MssIndex_L0_es k w) := by kernel_rfl
def s_MssIndex_L0_le : LE := leOf 0 s_MssIndex_L0_sh s_MssIndex_L0_es s_MssIndex_L0_r.step (fun v => s_MssIndex_L0_fu v.1.1.1 v.1.2.1.1 v.1.2.2.1.1)
theorem s_MssIndex_L0_ls (w0 : World) (mo : Mts) (I0 : Nat → Prop) (hmo : mo.length = 0) : LSem Try.prog (Sim w0 mo Try.f59.ntmps I0) (fun b s k => match Nat.beq 0 b with | true => s_MssIndex_L0_le.run s k | false => none) 0 (nthLoop (bodyOf Try.f59) 0 0) :=
  le_sem hmo (lorc := lorcOf []) (ann := s_MssIndex_ann) (keep := ⟨[0, 3, 4], [], false, 0⟩) (kout := ⟨[2, 3], [], false, 0⟩) teFact mixFact (orcOf_ok _) (by kernel_rfl) (allLoops_of (bs := []) (by kernel_rfl) trivial) s_MssIndex_L0_r _ s_MssIndex_L0_lk
def s_MssIndex_L0_f (v0 : Int) (v2 : Int) (a : Int) : Stp (Int) (Empty) :=
  letK (α := Int) (s_MssOf v2) fun c1 =>
  bif (decide (c1 ≤ v0)) then
    .next v2
  else
  .next a
theorem s_MssIndex_L0_st (v0 : Int) (v1 : Int) (v2 : Int) (hlo : 0 ≤ v2) (hhi : v2 < 8) (hN : 8 ≤ 4611686018427387904) : s_MssIndex_L0_r.step (s_MssIndex_L0_mk v0 v1 v2) = Stp.elim (fun a' : Int => some (Sum.inl (s_MssIndex_L0_mk v0 a' (v2 + 1)))) (fun w => some (Sum.inr ((fun p : Empty => nomatch p) w))) (s_MssIndex_L0_f v0 v2 v1) := by
  have hw : (IntKind.wrap .i64 (v2 + 1)) = v2 + 1 := wrap64 (by omega) (by omega)
  show s_MssIndex_L0_B v0 v1 v2 (Option (s_MssIndex_L0_sh.T ⊕ WT s_MssIndex_L0_es)) none (fun v' => some (Sum.inl v')) (fun w => some (Sum.inr w)) = _
  unfold s_MssIndex_L0_B s_MssIndex_L0_f
  exact bifG (by simp only [decide_eq_true_eq]; omega) (letT (f := (Stp.elim (fun a' : Int => some (Sum.inl (s_MssIndex_L0_mk v0 a' (v2 + 1)))) (fun w => some (Sum.inr ((fun p : Empty => nomatch p) w))))) (fun c1 hc1 => bifT (f := (Stp.elim (fun a' : Int => some (Sum.inl (s_MssIndex_L0_mk v0 a' (v2 + 1)))) (fun w => some (Sum.inr ((fun p : Empty => nomatch p) w))))) (fun b0 => (by exact congrArg (fun z => some (Sum.inl (s_MssIndex_L0_mk v0 v2 z))) hw))
      (fun b0 => (by exact congrArg (fun z => some (Sum.inl (s_MssIndex_L0_mk v0 v1 z))) hw))))
theorem s_MssIndex_L0_cl (v0 : Int) (v1 : Int) (v2 : Int) (h0 : 0 ≤ v2) (h1 : 8 ≤ 4611686018427387904) : loopF s_MssIndex_L0_r.step (s_MssIndex_L0_fu v0 v1 v2) (s_MssIndex_L0_mk v0 v1 v2) = some (Stp.elim (fun a => (fun i a => s_MssIndex_L0_mx0 a) (v2 + 1 * (((Int.toNat (8 - v2)) : Nat) : Int)) a) (fun p : Empty => nomatch p) (forN (s_MssIndex_L0_f v0) 1 (Int.toNat (8 - v2)) v2 v1)) :=
  forN_loop (step := s_MssIndex_L0_r.step) (mk := fun v2 a => s_MssIndex_L0_mk v0 a v2) (f := s_MssIndex_L0_f v0) (e := (fun i a => s_MssIndex_L0_mx0 a)) (emb := (fun p : Empty => nomatch p)) (st := 1) (Inv := fun v2 a => True) (Int.toNat (8 - v2)) v2 v1 _ (Nat.lt_succ_self _) trivial
    (fun j a hj hv => ⟨s_MssIndex_L0_st v0 a (v2 + 1 * (j : Int)) (by omega) (by omega) (by omega), fun _ _ => trivial⟩)
    (fun a hv => by
      show s_MssIndex_L0_B v0 a (v2 + 1 * (((Int.toNat (8 - v2)) : Nat) : Int)) (Option (s_MssIndex_L0_sh.T ⊕ WT s_MssIndex_L0_es)) none (fun v' => some (Sum.inl v')) (fun w => some (Sum.inr w)) = _
      unfold s_MssIndex_L0_B
      exact bifN (by simp only [decide_eq_false_iff_not]; omega) rfl)
def s_MssIndex_N (x0 : Int) (γ : Type) (fail : γ) (k : Int → γ) : γ :=
  optK (loopF s_MssIndex_L0_r.step (s_MssIndex_L0_fu x0 0 0) (s_MssIndex_L0_mk x0 0 0)) fail fun w2 =>
    k w2.1.2.1.1
def s_MssIndex (x0 : Int) : Int :=
  Stp.elim (fun a3 =>
    a3)
    (fun p : Empty => nomatch p)
    (forN (s_MssIndex_L0_f x0) 1 (Int.toNat (8 - 0)) 0 0)
theorem s_MssIndex_lk (x0 : Int) : evalFn te (orcOf (P := Try.prog) [s_MssOf_e]) (lorcOf [s_MssIndex_L0_le]) s_MssIndex_ann Try.f59 (pvs [.sc (.int .i64)] (x0, ())) =
  s_MssIndex_N x0 _ none (fun v => some [(false, [RC.c (.int .i64 v)])]) := by kernel_rfl
theorem s_MssIndex_p (x0 : Int) (hx0 : inK .i64 x0)  (γ : Type) (fail : γ) (k : Int → γ) : s_MssIndex_N x0 γ fail k = k (s_MssIndex x0) := by
  unfold s_MssIndex_N s_MssIndex
  exact loopT (f := k) (s_MssIndex_L0_cl x0 0 0 (by (try simp only [Nat.ble_eq, Bool.and_eq_true, decide_eq_true_eq, s_MssIndex_L0_mx0]); grind [maxSl, maxStr, toBytes_length, toInts_length, List.length_set, wrap64]) (by (try simp only [Nat.ble_eq, Bool.and_eq_true, decide_eq_true_eq, s_MssIndex_L0_mx0]); grind [maxSl, maxStr, toBytes_length, toInts_length, List.length_set, wrap64])) (fun a3 => rfl)
      (fun p : Empty => nomatch p)
theorem s_MssIndex_c (x0 : Int)  : Con Try.prog 59 (pvs [.sc (.int .i64)] (x0, ())) [rv (.sc (.int .i64)) [] (s_MssIndex x0)] := by
  refine Con.of_facts (enters_of Try.func59 rfl (by kernel_rfl)) fun hf => ?_
  replace hf := factAt hf
  exact evalFn_conL teFact mixFact (orcOf_ok _) Try.func59 (by kernel_rfl) (bs := [0]) (by kernel_rfl) (by kernel_rfl) (fun w0 mo I0 hmo => ⟨lsem_of_lorc (s_MssIndex_L0_ls w0 mo I0 hmo) (by kernel_rfl), trivial⟩) ((s_MssIndex_lk x0).trans (s_MssIndex_p x0 ((hf 0 0 rfl rfl).rng) _ _ _))
noncomputable def s_MssIndex_e : Ent1 Try.prog := entA 59 [.sc (.int .i64)] (fun x => (s_MssIndex x.1)) (fun v => [rv (.sc (.int .i64)) [] v]) (fun x => s_MssIndex_c x.1)


/-- laws.toHalfS -/
def w_toHalfS_ann : List (Nat × Keep) := [(0, ⟨[0, 3, 4], [], false, 0⟩)]
def w_toHalfS_L0_sh : Sh := ⟨[(0, false, [.sl .arg .half]), (3, false, [.own 0]), (4, false, [.int .i64])], [.arr .half false true]⟩
def w_toHalfS_L0_es : List (Ex × Sh) := [(.exit 0, ⟨[(2, false, [.undef]), (3, false, [.own 0])], [.arr .half false true]⟩)]
def w_toHalfS_L0_mk (v0 : List Half) (v1 : Int) (v2 : List Half) : w_toHalfS_L0_sh.T := (((v0, ()), (((), ()), ((v1, ()), ()))), (v2, ()))
def w_toHalfS_L0_mx0 (y0 : List Half) : Sh.T ⟨[(2, false, [.undef]), (3, false, [.own 0])], [.arr .half false true]⟩ := ((((), ()), (((), ()), ())), (y0, ()))
def w_toHalfS_L0_B (v0 : List Half) (v1 : Int) (v2 : List Half) (γ : Type) (fail : γ) (next : w_toHalfS_L0_sh.T → γ) (out : WT w_toHalfS_L0_es → γ) : γ :=
  bif (decide (v1 < (v0.length : Int))) then
    bif ((decide (0 ≤ v1)) && (decide (v1 < (v0.length : Int)))) then
    letK (α := Half) (w_toHalf (v0.getD v1.toNat (Ty.zero .half))) fun c2 =>
    bif ((decide (0 ≤ v1)) && (decide (v1 < (v2.length : Int)))) then
    next (w_toHalfS_L0_mk v0 (IntKind.wrap .i64 (v1 + 1)) (v2.set v1.toNat c2))
    else fail
    else fail
  else
  out (w_toHalfS_L0_mx0 v2)
theorem w_toHalfS_L0_par (v0 : List Half) (v1 : Int) (v2 : List Half) (γ : Type) (fail : γ) (next : w_toHalfS_L0_sh.T → γ) (out : WT w_toHalfS_L0_es → γ) : w_toHalfS_L0_B v0 v1 v2 γ fail next out = optK (w_toHalfS_L0_B v0 v1 v2 _ none (fun v' => some (.inl v')) (fun w => some (.inr w))) fail (fun r => Sum.elim next out r) := by
  unfold w_toHalfS_L0_B
  exact bifT (f := (fun o => optK o fail (fun r => Sum.elim next out r))) (fun _ => bifT (f := (fun o => optK o fail (fun r => Sum.elim next out r))) (fun _ => letT (f := (fun o => optK o fail (fun r => Sum.elim next out r))) (fun c2 _ => bifT (f := (fun o => optK o fail (fun r => Sum.elim next out r))) (fun _ => rfl) (fun _ => rfl))) (fun _ => rfl))
      (fun _ => rfl)
def w_toHalfS_L0_r : Round w_toHalfS_L0_sh.T (WT w_toHalfS_L0_es) where
  B v γ fail next out := w_toHalfS_L0_B v.1.1.1 v.1.2.2.1.1 v.2.1 γ fail next out
  par v γ fail next out := w_toHalfS_L0_par v.1.1.1 v.1.2.2.1.1 v.2.1 γ fail next out
def w_toHalfS_L0_fu (v0 : List Half) (v1 : Int) (v2 : List Half) : Nat := (Int.toNat ((v0.length : Int) - v1)) + 1
theorem w_toHalfS_L0_lk (v : w_toHalfS_L0_sh.T) (next : St → Option Res) (k : Ex → St → Option Res) : evalK te (orcOf (P := Try.prog) [w_toHalf_e]) (lorcOf []) Try.f74.ntmps w_toHalfS_ann (nthLoop (bodyOf Try.f74) 0 0) 0 (w_toHalfS_L0_sh.enc v) (endK ⟨[0, 3, 4], [], false, 0⟩ ⟨[2, 3], [], false, 0⟩ next k) =
  w_toHalfS_L0_r.B v _ none (fun v' => next (w_toHalfS_L0_sh.enc v')) (fun w => outK w_toHalfS_L0_es k w) := by kernel_rfl
def w_toHalfS_L0_le : LE := leOf 0 w_toHalfS_L0_sh w_toHalfS_L0_es w_toHalfS_L0_r.step (fun v => w_toHalfS_L0_fu v.1.1.1 v.1.2.2.1.1 v.2.1)
theorem w_toHalfS_L0_ls (w0 : World) (mo : Mts) (I0 : Nat → Prop) (hmo : mo.length = 0) : LSem Try.prog (Sim w0 mo Try.f74.ntmps I0) (fun b s k => match Nat.beq 0 b with | true => w_toHalfS_L0_le.run s k | false => none) 0 (nthLoop (bodyOf Try.f74) 0 0) :=
  le_sem hmo (lorc := lorcOf []) (ann := w_toHalfS_ann) (keep := ⟨[0, 3, 4], [], false, 0⟩) (kout := ⟨[2, 3], [], false, 0⟩) teFact mixFact (orcOf_ok _) (by kernel_rfl) (allLoops_of (bs := []) (by kernel_rfl) trivial) w_toHalfS_L0_r _ w_toHalfS_L0_lk
def w_toHalfS_L0_f (v0 : List Half) (v1 : Int) (a : List Half) : Stp (List Half) (Empty) :=
  letK (α := Half) (w_toHalf (v0.getD v1.toNat (Ty.zero .half))) fun c2 =>
  .next (a.set v1.toNat c2)
theorem w_toHalfS_L0_st (v0 : List Half) (v1 : Int) (v2 : List Half) (hlo : 0 ≤ v1) (hhi : v1 < (v0.length : Int)) (hN : (v0.length : Int) ≤ 4611686018427387904) (hinv : (v0.length : Int) ≤ (v2.length : Int)) : w_toHalfS_L0_r.step (w_toHalfS_L0_mk v0 v1 v2) = Stp.elim (fun a' : List Half => some (Sum.inl (w_toHalfS_L0_mk v0 (v1 + 1) a'))) (fun w => some (Sum.inr ((fun p : Empty => nomatch p) w))) (w_toHalfS_L0_f v0 v1 v2) := by
  have hw : (IntKind.wrap .i64 (v1 + 1)) = v1 + 1 := wrap64 (by omega) (by omega)
  show w_toHalfS_L0_B v0 v1 v2 (Option (w_toHalfS_L0_sh.T ⊕ WT w_toHalfS_L0_es)) none (fun v' => some (Sum.inl v')) (fun w => some (Sum.inr w)) = _
  unfold w_toHalfS_L0_B w_toHalfS_L0_f
  exact bifG (by simp only [decide_eq_true_eq]; omega) (bifG (by (try simp only [Nat.ble_eq, Bool.and_eq_true, decide_eq_true_eq]); grind [maxSl, maxStr, toBytes_length, toInts_length, List.length_set, wrap64]) (letT (f := (Stp.elim (fun a' : List Half => some (Sum.inl (w_toHalfS_L0_mk v0 (v1 + 1) a'))) (fun w => some (Sum.inr ((fun p : Empty => nomatch p) w))))) (fun c2 hc2 => bifG (by (try simp only [Nat.ble_eq, Bool.and_eq_true, decide_eq_true_eq]); grind [maxSl, maxStr, toBytes_length, toInts_length, List.length_set, wrap64]) ((by exact congrArg (fun z => some (Sum.inl (w_toHalfS_L0_mk v0 z (v2.set v1.toNat c2)))) hw)))))
theorem w_toHalfS_L0_cl (v0 : List Half) (v1 : Int) (v2 : List Half) (h0 : 0 ≤ v1) (h1 : (v0.length : Int) ≤ 4611686018427387904) (h2 : (v0.length : Int) ≤ (v2.length : Int)) : loopF w_toHalfS_L0_r.step (w_toHalfS_L0_fu v0 v1 v2) (w_toHalfS_L0_mk v0 v1 v2) = some (Stp.elim (fun a => (fun i a => w_toHalfS_L0_mx0 a) (v1 + 1 * (((Int.toNat ((v0.length : Int) - v1)) : Nat) : Int)) a) (fun p : Empty => nomatch p) (forN (w_toHalfS_L0_f v0) 1 (Int.toNat ((v0.length : Int) - v1)) v1 v2)) :=
  forN_loop (step := w_toHalfS_L0_r.step) (mk := fun v1 a => w_toHalfS_L0_mk v0 v1 a) (f := w_toHalfS_L0_f v0) (e := (fun i a => w_toHalfS_L0_mx0 a)) (emb := (fun p : Empty => nomatch p)) (st := 1) (Inv := fun v1 a => (v0.length : Int) ≤ (a.length : Int)) (Int.toNat ((v0.length : Int) - v1)) v1 v2 _ (Nat.lt_succ_self _) h2
    (fun j a hj hv => ⟨w_toHalfS_L0_st v0 (v1 + 1 * (j : Int)) a (by omega) (by omega) (by omega) hv, by
      intro a' he
      grind [w_toHalfS_L0_f, letK, Stp.elim, wrap64, List.length_set]⟩)
    (fun a hv => by
      show w_toHalfS_L0_B v0 (v1 + 1 * (((Int.toNat ((v0.length : Int) - v1)) : Nat) : Int)) a (Option (w_toHalfS_L0_sh.T ⊕ WT w_toHalfS_L0_es)) none (fun v' => some (Sum.inl v')) (fun w => some (Sum.inr w)) = _
      unfold w_toHalfS_L0_B
      exact bifN (by simp only [decide_eq_false_iff_not]; omega) rfl)
theorem w_toHalfS_L0_nx (v0 : List Half) (v1 : Int) (v2 : List Half) (h0 : 0 ≤ v1) (h1 : (v0.length : Int) ≤ 4611686018427387904) (h2 : (v0.length : Int) ≤ (v2.length : Int)) : ∀ a', forN (w_toHalfS_L0_f v0) 1 (Int.toNat ((v0.length : Int) - v1)) v1 v2 = .next a' → (v0.length : Int) ≤ (a'.length : Int) :=
  forN_inv (f := w_toHalfS_L0_f v0) (st := 1) (Inv := fun v1 a => (v0.length : Int) ≤ (a.length : Int)) (Int.toNat ((v0.length : Int) - v1)) v1 v2 h2
    (fun j a hj hv => by
      intro a' he
      grind [w_toHalfS_L0_f, letK, Stp.elim, wrap64, List.length_set])
def w_toHalfS_N (x0 : List Half) (γ : Type) (fail : γ) (k : List Half → γ) : γ :=
  bif ((((decide (0 ≤ (x0.length : Int))) && (decide ((x0.length : Int) = (x0.length : Int)))) && (decide ((x0.length : Int) * 96 ≤ (maxSl : Int)))) && (decide ((x0.length : Int) ≤ (maxSl : Int)))) then
  letK (α := List Half) (List.replicate ((x0.length : Int).toNat) (⟨⟨0, 0, 0⟩, 0, 0, ⟨0, 0, false, false, 0, 0⟩, 0, 0⟩ : Half)) fun l1 =>
  optK (loopF w_toHalfS_L0_r.step (w_toHalfS_L0_fu x0 0 l1) (w_toHalfS_L0_mk x0 0 l1)) fail fun w3 =>
    k w3.2.1
  else fail
def w_toHalfS (x0 : List Half) : List Half :=
  letK (α := List Half) (List.replicate ((x0.length : Int).toNat) (⟨⟨0, 0, 0⟩, 0, 0, ⟨0, 0, false, false, 0, 0⟩, 0, 0⟩ : Half)) fun l1 =>
  Stp.elim (fun a4 =>
    a4)
    (fun p : Empty => nomatch p)
    (forN (w_toHalfS_L0_f x0) 1 (Int.toNat ((x0.length : Int) - 0)) 0 l1)
theorem w_toHalfS_lk (x0 : List Half) : evalFn te (orcOf (P := Try.prog) [w_toHalf_e]) (lorcOf [w_toHalfS_L0_le]) w_toHalfS_ann Try.f74 (pvs [.sc (.sl .half)] (x0, ())) =
  w_toHalfS_N x0 _ none (fun v => some [(false, [RC.own true .half v])]) := by kernel_rfl
theorem w_toHalfS_p (x0 : List Half) (hx0 : x0.length ≤ 140737488355328) (hp : x0.length ≤ 4294967296) (γ : Type) (fail : γ) (k : List Half → γ) : w_toHalfS_N x0 γ fail k = k (w_toHalfS x0) := by
  unfold w_toHalfS_N w_toHalfS
  exact bifG (by (try simp only [Nat.ble_eq, Bool.and_eq_true, decide_eq_true_eq, w_toHalfS_L0_mx0]); grind [maxSl, maxStr, toBytes_length, toInts_length, List.length_set, wrap64]) (letT (f := k) (fun l1 hl1 => loopX (f := k) (w_toHalfS_L0_cl x0 0 l1 (by (try simp only [Nat.ble_eq, Bool.and_eq_true, decide_eq_true_eq, w_toHalfS_L0_mx0]); grind [maxSl, maxStr, toBytes_length, toInts_length, List.length_set, wrap64]) (by (try simp only [Nat.ble_eq, Bool.and_eq_true, decide_eq_true_eq, w_toHalfS_L0_mx0]); grind [maxSl, maxStr, toBytes_length, toInts_length, List.length_set, wrap64]) (by (try simp only [Nat.ble_eq, Bool.and_eq_true, decide_eq_true_eq, w_toHalfS_L0_mx0]); grind [maxSl, maxStr, toBytes_length, toInts_length, List.length_set, wrap64])) (fun a4 ha4 => have ia4 := w_toHalfS_L0_nx x0 0 l1 (by (try simp only [Nat.ble_eq, Bool.and_eq_true, decide_eq_true_eq, w_toHalfS_L0_mx0]); grind [maxSl, maxStr, toBytes_length, toInts_length, List.length_set, wrap64]) (by (try simp only [Nat.ble_eq, Bool.and_eq_true, decide_eq_true_eq, w_toHalfS_L0_mx0]); grind [maxSl, maxStr, toBytes_length, toInts_length, List.length_set, wrap64]) (by (try simp only [Nat.ble_eq, Bool.and_eq_true, decide_eq_true_eq, w_toHalfS_L0_mx0]); grind [maxSl, maxStr, toBytes_length, toInts_length, List.length_set, wrap64]) _ ha4; rfl)
      (fun p : Empty => nomatch p)))
theorem w_toHalfS_c (x0 : List Half) (hp : x0.length ≤ 4294967296) : Con Try.prog 74 (pvs [.sc (.sl .half)] (x0, ())) [rv (.sc (.sl .half)) [.o true] (w_toHalfS x0)] := by
  refine Con.of_facts (enters_of Try.func74 rfl (by kernel_rfl)) fun hf => ?_
  replace hf := factAt hf
  exact evalFn_conL teFact mixFact (orcOf_ok _) Try.func74 (by kernel_rfl) (bs := [0]) (by kernel_rfl) (by kernel_rfl) (fun w0 mo I0 hmo => ⟨lsem_of_lorc (w_toHalfS_L0_ls w0 mo I0 hmo) (by kernel_rfl), trivial⟩) ((w_toHalfS_lk x0).trans (w_toHalfS_p x0 ((hf 0 0 rfl rfl).len) hp _ _ _))
noncomputable def w_toHalfS_e : Ent1 Try.prog := entP 74 [.sc (.sl .half)] (fun x => (decide (x.1.length ≤ 4294967296))) (fun x => (w_toHalfS x.1)) (fun v => [rv (.sc (.sl .half)) [.o true] v]) (fun x hx => w_toHalfS_c x.1 (of_decide_eq_true hx))


/-- spec.AnswerOptions -/
def s_AnswerOptions_N (x0 : Opti) (x1 : Int) (γ : Type) (fail : γ) (k : Opti → γ) : γ :=
  bif (!x0.stamp) then
    k (⟨1460, (-1), false, false, 0, 0⟩ : Opti)
  else
  letK (α := Bool) (s_l1In x0.scale 0 14) fun c1 =>
  bif c1 then
    letK (α := Int) (s_StampOf x1 x0.scale x0.sack) fun c2 =>
    k (⟨1460, 0, x0.sack, true, c2, x0.val⟩ : Opti)
  else
  letK (α := Int) (s_StampOf x1 x0.scale x0.sack) fun c3 =>
  k (⟨1460, (-1), x0.sack, true, c3, x0.val⟩ : Opti)
def s_AnswerOptions (x0 : Opti) (x1 : Int) : Opti :=
  bif (!x0.stamp) then
    (⟨1460, (-1), false, false, 0, 0⟩ : Opti)
  else
  letK (α := Bool) (s_l1In x0.scale 0 14) fun c1 =>
  bif c1 then
    letK (α := Int) (s_StampOf x1 x0.scale x0.sack) fun c2 =>
    (⟨1460, 0, x0.sack, true, c2, x0.val⟩ : Opti)
  else
  letK (α := Int) (s_StampOf x1 x0.scale x0.sack) fun c3 =>
  (⟨1460, (-1), x0.sack, true, c3, x0.val⟩ : Opti)
theorem s_AnswerOptions_lk (x0 : Opti) (x1 : Int) : evalFn te (orcOf (P := Try.prog) [s_l1In_e, s_StampOf_e]) lorc0 [] Try.f88 (pvs [.st .opti, .sc (.int .i64)] (x0, x1, ())) =
  s_AnswerOptions_N x0 x1 _ none (fun v => some [(true, [RC.c (.int .i64 v.mss), RC.c (.int .i64 v.scale), RC.c (.bool v.sack), RC.c (.bool v.stamp), RC.c (.int .i64 v.val), RC.c (.int .i64 v.echo)])]) := by kernel_rfl
theorem s_AnswerOptions_p (x0 : Opti) (x1 : Int)   (γ : Type) (fail : γ) (k : Opti → γ) : s_AnswerOptions_N x0 x1 γ fail k = k (s_AnswerOptions x0 x1) := by
  unfold s_AnswerOptions_N s_AnswerOptions
  exact bifT (f := k) (fun b0 => rfl)
      (fun b0 => letT (f := k) (fun c1 hc1 => bifT (f := k) (fun b1 => letT (f := k) (fun c2 hc2 => rfl))
      (fun b1 => letT (f := k) (fun c3 hc3 => rfl))))
theorem s_AnswerOptions_c (x0 : Opti) (x1 : Int)  : Con Try.prog 88 (pvs [.st .opti, .sc (.int .i64)] (x0, x1, ())) [rv (.st .opti) [] (s_AnswerOptions x0 x1)] := by
  exact evalFn_con0 teFact mixFact (orcOf_ok _) Try.func88 (by kernel_rfl) ((s_AnswerOptions_lk x0 x1).trans (s_AnswerOptions_p x0 x1  _ _ _))
noncomputable def s_AnswerOptions_e : Ent1 Try.prog := entA 88 [.st .opti, .sc (.int .i64)] (fun x => (s_AnswerOptions x.1 x.2.1)) (fun v => [rv (.st .opti) [] v]) (fun x => s_AnswerOptions_c x.1 x.2.1)


/-- impl.AnswerOptions -/
def i_AnswerOptions_N (x0 : Opti) (x1 : Int) (γ : Type) (fail : γ) (k : Opti → γ) : γ :=
  bif (!x0.stamp) then
    k (⟨1460, (-1), false, false, 0, 0⟩ : Opti)
  else
  letK (α := Bool) (i_within x0.scale 0 14) fun c1 =>
  bif c1 then
    letK (α := Int) (i_StampOf x1 x0.scale x0.sack) fun c2 =>
    k (⟨1460, 0, x0.sack, true, c2, x0.val⟩ : Opti)
  else
  letK (α := Int) (i_StampOf x1 x0.scale x0.sack) fun c3 =>
  k (⟨1460, (-1), x0.sack, true, c3, x0.val⟩ : Opti)
def i_AnswerOptions (x0 : Opti) (x1 : Int) : Opti :=
  bif (!x0.stamp) then
    (⟨1460, (-1), false, false, 0, 0⟩ : Opti)
  else
  letK (α := Bool) (i_within x0.scale 0 14) fun c1 =>
  bif c1 then
    letK (α := Int) (i_StampOf x1 x0.scale x0.sack) fun c2 =>
    (⟨1460, 0, x0.sack, true, c2, x0.val⟩ : Opti)
  else
  letK (α := Int) (i_StampOf x1 x0.scale x0.sack) fun c3 =>
  (⟨1460, (-1), x0.sack, true, c3, x0.val⟩ : Opti)
theorem i_AnswerOptions_lk (x0 : Opti) (x1 : Int) : evalFn te (orcOf (P := Try.prog) [i_within_e, i_StampOf_e]) lorc0 [] Try.f91 (pvs [.st .opti, .sc (.int .i64)] (x0, x1, ())) =
  i_AnswerOptions_N x0 x1 _ none (fun v => some [(true, [RC.c (.int .i64 v.mss), RC.c (.int .i64 v.scale), RC.c (.bool v.sack), RC.c (.bool v.stamp), RC.c (.int .i64 v.val), RC.c (.int .i64 v.echo)])]) := by kernel_rfl
theorem i_AnswerOptions_p (x0 : Opti) (x1 : Int)   (γ : Type) (fail : γ) (k : Opti → γ) : i_AnswerOptions_N x0 x1 γ fail k = k (i_AnswerOptions x0 x1) := by
  unfold i_AnswerOptions_N i_AnswerOptions
  exact bifT (f := k) (fun b0 => rfl)
      (fun b0 => letT (f := k) (fun c1 hc1 => bifT (f := k) (fun b1 => letT (f := k) (fun c2 hc2 => rfl))
      (fun b1 => letT (f := k) (fun c3 hc3 => rfl))))
theorem i_AnswerOptions_c (x0 : Opti) (x1 : Int)  : Con Try.prog 91 (pvs [.st .opti, .sc (.int .i64)] (x0, x1, ())) [rv (.st .opti) [] (i_AnswerOptions x0 x1)] := by
  exact evalFn_con0 teFact mixFact (orcOf_ok _) Try.func91 (by kernel_rfl) ((i_AnswerOptions_lk x0 x1).trans (i_AnswerOptions_p x0 x1  _ _ _))
noncomputable def i_AnswerOptions_e : Ent1 Try.prog := entA 91 [.st .opti, .sc (.int .i64)] (fun x => (i_AnswerOptions x.1 x.2.1)) (fun v => [rv (.st .opti) [] v]) (fun x => i_AnswerOptions_c x.1 x.2.1)


/-- spec.SecretOf -/
def s_SecretOf_N (x0 : Keys) (x1 : Int) (γ : Type) (fail : γ) (k : Mac × Bool → γ) : γ :=
  bif (x1 == x0.epoch) then
    bif (decide (x0.now.rows.length ≤ 4294967296)) then
    letK (α := Mac) (s_l11Copy x0.now) fun c1 =>
    k (c1, true)
    else fail
  else
  bif x0.two then
    bif (x1 == (IntKind.wrap .i64 (x0.epoch - 1))) then
      bif (decide (x0.before.rows.length ≤ 4294967296)) then
      letK (α := Mac) (s_l11Copy x0.before) fun c2 =>
      k (c2, true)
      else fail
    else
    k ((⟨false, 0, 0, []⟩ : Mac), false)
  else
  k ((⟨false, 0, 0, []⟩ : Mac), false)
def s_SecretOf (x0 : Keys) (x1 : Int) : Mac × Bool :=
  bif (x1 == x0.epoch) then
    letK (α := Mac) (s_l11Copy x0.now) fun c1 =>
    (c1, true)
  else
  bif x0.two then
    bif (x1 == (IntKind.wrap .i64 (x0.epoch - 1))) then
      letK (α := Mac) (s_l11Copy x0.before) fun c2 =>
      (c2, true)
    else
    ((⟨false, 0, 0, []⟩ : Mac), false)
  else
  ((⟨false, 0, 0, []⟩ : Mac), false)
theorem s_SecretOf_lk (x0 : Keys) (x1 : Int) : evalFn te (orcOf (P := Try.prog) [s_l11Copy_e]) lorc0 [] Try.f117 (pvs [.st .keys, .sc (.int .i64)] (x0, x1, ())) =
  s_SecretOf_N x0 x1 _ none (fun v => some [(true, [RC.c (.bool v.1.use), RC.c (.int .u64 v.1.k), RC.c (.int .u64 v.1.l), RC.own true .macRow v.1.rows]), (false, [RC.c (.bool v.2)])]) := by kernel_rfl
theorem s_SecretOf_p (x0 : Keys) (x1 : Int) (hx0_epoch : inK .i64 x0.epoch) (hx0_now_k : inK .u64 x0.now.k) (hx0_now_l : inK .u64 x0.now.l) (hx0_now_rows : x0.now.rows.length ≤ 140737488355328) (hx0_now_rows_e : ∀ y ∈ x0.now.rows, ∀ c ∈ Ty.cells .macRow y, FactC c) (hx0_before_k : inK .u64 x0.before.k) (hx0_before_l : inK .u64 x0.before.l) (hx0_before_rows : x0.before.rows.length ≤ 140737488355328) (hx0_before_rows_e : ∀ y ∈ x0.before.rows, ∀ c ∈ Ty.cells .macRow y, FactC c) (hx1 : inK .i64 x1) (hp : x0.now.rows.length ≤ 4294967296 ∧ x0.before.rows.length ≤ 4294967296) (γ : Type) (fail : γ) (k : Mac × Bool → γ) : s_SecretOf_N x0 x1 γ fail k = k (s_SecretOf x0 x1) := by
  unfold s_SecretOf_N s_SecretOf
  exact bifT (f := k) (fun b0 => bifG (by (try simp only [Nat.ble_eq, Bool.and_eq_true, decide_eq_true_eq]); grind [maxSl, maxStr, toBytes_length, toInts_length, List.length_set, wrap64, s_l11Copy_len]) (letT (f := k) (fun c1 hc1 => rfl)))
      (fun b0 => bifT (f := k) (fun b1 => bifT (f := k) (fun b2 => bifG (by (try simp only [Nat.ble_eq, Bool.and_eq_true, decide_eq_true_eq]); grind [maxSl, maxStr, toBytes_length, toInts_length, List.length_set, wrap64, s_l11Copy_len]) (letT (f := k) (fun c2 hc2 => rfl)))
      (fun b2 => rfl))
      (fun b1 => rfl))
theorem s_SecretOf_c (x0 : Keys) (x1 : Int) (hp : x0.now.rows.length ≤ 4294967296 ∧ x0.before.rows.length ≤ 4294967296) : Con Try.prog 117 (pvs [.st .keys, .sc (.int .i64)] (x0, x1, ())) [rv (.st .mac) [.c, .c, .c, .o true] (s_SecretOf x0 x1).1, rv (.sc .bool) [] (s_SecretOf x0 x1).2] := by
  refine Con.of_facts (enters_of Try.func117 rfl (by kernel_rfl)) fun hf => ?_
  replace hf := factAt hf
  exact evalFn_con0 teFact mixFact (orcOf_ok _) Try.func117 (by kernel_rfl) ((s_SecretOf_lk x0 x1).trans (s_SecretOf_p x0 x1 ((hf 0 0 rfl rfl).rng) ((hf 0 2 rfl rfl).rng) ((hf 0 3 rfl rfl).rng) ((hf 0 4 rfl rfl).len) (fun y hy => (hf 0 4 rfl rfl).elem hy) ((hf 0 6 rfl rfl).rng) ((hf 0 7 rfl rfl).rng) ((hf 0 8 rfl rfl).len) (fun y hy => (hf 0 8 rfl rfl).elem hy) ((hf 1 0 rfl rfl).rng) hp _ _ _))
noncomputable def s_SecretOf_e : Ent1 Try.prog := entP 117 [.st .keys, .sc (.int .i64)] (fun x => (decide (x.1.now.rows.length ≤ 4294967296 ∧ x.1.before.rows.length ≤ 4294967296))) (fun x => (s_SecretOf x.1 x.2.1)) (fun v => [rv (.st .mac) [.c, .c, .c, .o true] v.1, rv (.sc .bool) [] v.2]) (fun x hx => s_SecretOf_c x.1 x.2.1 (of_decide_eq_true hx))

theorem s_SecretOf_len (x0 : Keys) (x1 : Int) (hp : x0.now.rows.length ≤ 4294967296 ∧ x0.before.rows.length ≤ 4294967296) (h : x0.now.rows.length ≤ 4294967296 ∧ x0.before.rows.length ≤ 4294967296) : (fun v : Mac × Bool => v.1.rows.length ≤ 4294967296) (s_SecretOf x0 x1) := by
  unfold s_SecretOf
  exact bifP (P := (fun v : Mac × Bool => v.1.rows.length ≤ 4294967296)) (fun b0 => letP (P := (fun v : Mac × Bool => v.1.rows.length ≤ 4294967296)) (fun c1 hc1 => (by (try simp only [Nat.ble_eq, Bool.and_eq_true, decide_eq_true_eq]); grind [maxSl, maxStr, toBytes_length, toInts_length, List.length_set, wrap64, s_l11Copy_len])))
      (fun b0 => bifP (P := (fun v : Mac × Bool => v.1.rows.length ≤ 4294967296)) (fun b1 => bifP (P := (fun v : Mac × Bool => v.1.rows.length ≤ 4294967296)) (fun b2 => letP (P := (fun v : Mac × Bool => v.1.rows.length ≤ 4294967296)) (fun c2 hc2 => (by (try simp only [Nat.ble_eq, Bool.and_eq_true, decide_eq_true_eq]); grind [maxSl, maxStr, toBytes_length, toInts_length, List.length_set, wrap64, s_l11Copy_len])))
      (fun b2 => (by (try simp only [Nat.ble_eq, Bool.and_eq_true, decide_eq_true_eq]); grind [maxSl, maxStr, toBytes_length, toInts_length, List.length_set, wrap64, s_l11Copy_len])))
      (fun b1 => (by (try simp only [Nat.ble_eq, Bool.and_eq_true, decide_eq_true_eq]); grind [maxSl, maxStr, toBytes_length, toInts_length, List.length_set, wrap64, s_l11Copy_len])))

/-- laws.eqHalf -/
def w_eqHalf_N (x0 : Half) (x1 : Half) (γ : Type) (fail : γ) (k : Bool → γ) : γ :=
  letK (α := Bool) (w_eqTuple x0.tuple x1.tuple) fun c1 =>
  bif (!c1) then
    k false
  else
  bif (x0.iss != x1.iss) then
    k false
  else
  bif (x0.irs != x1.irs) then
    k false
  else
  letK (α := Bool) (w_eqOptions x0.opts x1.opts) fun c2 =>
  bif (!c2) then
    k false
  else
  bif (x0.age != x1.age) then
    k false
  else
  bif (x0.window != x1.window) then
    k false
  else
  k true
def w_eqHalf (x0 : Half) (x1 : Half) : Bool :=
  letK (α := Bool) (w_eqTuple x0.tuple x1.tuple) fun c1 =>
  bif (!c1) then
    false
  else
  bif (x0.iss != x1.iss) then
    false
  else
  bif (x0.irs != x1.irs) then
    false
  else
  letK (α := Bool) (w_eqOptions x0.opts x1.opts) fun c2 =>
  bif (!c2) then
    false
  else
  bif (x0.age != x1.age) then
    false
  else
  bif (x0.window != x1.window) then
    false
  else
  true
theorem w_eqHalf_lk (x0 : Half) (x1 : Half) : evalFn te (orcOf (P := Try.prog) [w_eqTuple_e, w_eqOptions_e]) lorc0 [] Try.f127 (pvs [.st .half, .st .half] (x0, x1, ())) =
  w_eqHalf_N x0 x1 _ none (fun v => some [(false, [RC.c (.bool v)])]) := by kernel_rfl
theorem w_eqHalf_p (x0 : Half) (x1 : Half)   (γ : Type) (fail : γ) (k : Bool → γ) : w_eqHalf_N x0 x1 γ fail k = k (w_eqHalf x0 x1) := by
  unfold w_eqHalf_N w_eqHalf
  exact letT (f := k) (fun c1 hc1 => bifT (f := k) (fun b0 => rfl)
      (fun b0 => bifT (f := k) (fun b1 => rfl)
      (fun b1 => bifT (f := k) (fun b2 => rfl)
      (fun b2 => letT (f := k) (fun c2 hc2 => bifT (f := k) (fun b3 => rfl)
      (fun b3 => bifT (f := k) (fun b4 => rfl)
      (fun b4 => bifT (f := k) (fun b5 => rfl)
      (fun b5 => rfl))))))))
theorem w_eqHalf_c (x0 : Half) (x1 : Half)  : Con Try.prog 127 (pvs [.st .half, .st .half] (x0, x1, ())) [rv (.sc .bool) [] (w_eqHalf x0 x1)] := by
  exact evalFn_con0 teFact mixFact (orcOf_ok _) Try.func127 (by kernel_rfl) ((w_eqHalf_lk x0 x1).trans (w_eqHalf_p x0 x1  _ _ _))
noncomputable def w_eqHalf_e : Ent1 Try.prog := entA 127 [.st .half, .st .half] (fun x => (w_eqHalf x.1 x.2.1)) (fun v => [rv (.sc .bool) [] v]) (fun x => w_eqHalf_c x.1 x.2.1)


/-- laws.eqTupleS -/
def w_eqTupleS_ann : List (Nat × Keep) := [(0, ⟨[0, 1, 5], [], false, 0⟩)]
def w_eqTupleS_L0_sh : Sh := ⟨[(0, false, [.sl .arg .tupl]), (1, false, [.sl .arg .tupl]), (5, false, [.int .i64])], []⟩
def w_eqTupleS_L0_es : List (Ex × Sh) := [(.ret, ⟨[(4, false, [.bool])], []⟩), (.exit 0, ⟨[(4, false, [.undef])], []⟩)]
def w_eqTupleS_L0_mk (v0 : List Tupl) (v1 : List Tupl) (v2 : Int) : w_eqTupleS_L0_sh.T := (((v0, ()), ((v1, ()), ((v2, ()), ()))), ())
def w_eqTupleS_L0_mx0 (y0 : Bool) : Sh.T ⟨[(4, false, [.bool])], []⟩ := (((y0, ()), ()), ())
def w_eqTupleS_L0_mx1  : Sh.T ⟨[(4, false, [.undef])], []⟩ := ((((), ()), ()), ())
def w_eqTupleS_L0_B (v0 : List Tupl) (v1 : List Tupl) (v2 : Int) (γ : Type) (fail : γ) (next : w_eqTupleS_L0_sh.T → γ) (out : WT w_eqTupleS_L0_es → γ) : γ :=
  bif (decide (v2 < (v0.length : Int))) then
    bif ((decide (0 ≤ v2)) && (decide (v2 < (v0.length : Int)))) then
    bif ((decide (0 ≤ v2)) && (decide (v2 < (v1.length : Int)))) then
    letK (α := Bool) (w_eqTuple (v0.getD v2.toNat (Ty.zero .tupl)) (v1.getD v2.toNat (Ty.zero .tupl))) fun c1 =>
    bif (!c1) then
      out (Sum.inl (w_eqTupleS_L0_mx0 false))
    else
    next (w_eqTupleS_L0_mk v0 v1 (IntKind.wrap .i64 (v2 + 1)))
    else fail
    else fail
  else
  out (Sum.inr (w_eqTupleS_L0_mx1 ))
theorem w_eqTupleS_L0_par (v0 : List Tupl) (v1 : List Tupl) (v2 : Int) (γ : Type) (fail : γ) (next : w_eqTupleS_L0_sh.T → γ) (out : WT w_eqTupleS_L0_es → γ) : w_eqTupleS_L0_B v0 v1 v2 γ fail next out = optK (w_eqTupleS_L0_B v0 v1 v2 _ none (fun v' => some (.inl v')) (fun w => some (.inr w))) fail (fun r => Sum.elim next out r) := by
  unfold w_eqTupleS_L0_B
  exact bifT (f := (fun o => optK o fail (fun r => Sum.elim next out r))) (fun _ => bifT (f := (fun o => optK o fail (fun r => Sum.elim next out r))) (fun _ => bifT (f := (fun o => optK o fail (fun r => Sum.elim next out r))) (fun _ => letT (f := (fun o => optK o fail (fun r => Sum.elim next out r))) (fun c1 _ => bifT (f := (fun o => optK o fail (fun r => Sum.elim next out r))) (fun _ => rfl)
      (fun _ => rfl))) (fun _ => rfl)) (fun _ => rfl))
      (fun _ => rfl)
def w_eqTupleS_L0_r : Round w_eqTupleS_L0_sh.T (WT w_eqTupleS_L0_es) where
  B v γ fail next out := w_eqTupleS_L0_B v.1.1.1 v.1.2.1.1 v.1.2.2.1.1 γ fail next out
  par v γ fail next out := w_eqTupleS_L0_par v.1.1.1 v.1.2.1.1 v.1.2.2.1.1 γ fail next out
def w_eqTupleS_L0_fu (v0 : List Tupl) (v1 : List Tupl) (v2 : Int) : Nat := (Int.toNat ((v0.length : Int) - v2)) + 1
theorem w_eqTupleS_L0_lk (v : w_eqTupleS_L0_sh.T) (next : St → Option Res) (k : Ex → St → Option Res) : evalK te (orcOf (P := Try.prog) [w_eqTuple_e]) (lorcOf []) Try.f129.ntmps w_eqTupleS_ann (nthLoop (bodyOf Try.f129) 0 0) 0 (w_eqTupleS_L0_sh.enc v) (endK ⟨[0, 1, 5], [], false, 0⟩ ⟨[4], [], false, 0⟩ next k) =
  w_eqTupleS_L0_r.B v _ none (fun v' => next (w_eqTupleS_L0_sh.enc v')) (fun w => outK w_eqTupleS_L0_es k w) := by kernel_rfl
def w_eqTupleS_L0_le : LE := leOf 0 w_eqTupleS_L0_sh w_eqTupleS_L0_es w_eqTupleS_L0_r.step (fun v => w_eqTupleS_L0_fu v.1.1.1 v.1.2.1.1 v.1.2.2.1.1)
theorem w_eqTupleS_L0_ls (w0 : World) (mo : Mts) (I0 : Nat → Prop) (hmo : mo.length = 0) : LSem Try.prog (Sim w0 mo Try.f129.ntmps I0) (fun b s k => match Nat.beq 0 b with | true => w_eqTupleS_L0_le.run s k | false => none) 0 (nthLoop (bodyOf Try.f129) 0 0) :=
  le_sem hmo (lorc := lorcOf []) (ann := w_eqTupleS_ann) (keep := ⟨[0, 1, 5], [], false, 0⟩) (kout := ⟨[4], [], false, 0⟩) teFact mixFact (orcOf_ok _) (by kernel_rfl) (allLoops_of (bs := []) (by kernel_rfl) trivial) w_eqTupleS_L0_r _ w_eqTupleS_L0_lk
def w_eqTupleS_L0_f (v0 : List Tupl) (v1 : List Tupl) (v2 : Int) (a : Unit) : Stp (Unit) ((Unit)) :=
  letK (α := Bool) (w_eqTuple (v0.getD v2.toNat (Ty.zero .tupl)) (v1.getD v2.toNat (Ty.zero .tupl))) fun c1 =>
  bif (!c1) then
    .out (())
  else
  .next ()
theorem w_eqTupleS_L0_st (v0 : List Tupl) (v1 : List Tupl) (v2 : Int) (hlo : 0 ≤ v2) (hhi : v2 < (v0.length : Int)) (hN : (v0.length : Int) ≤ 4611686018427387904) (hi0 : (v0.length : Int) ≤ (v1.length : Int)) : w_eqTupleS_L0_r.step (w_eqTupleS_L0_mk v0 v1 v2) = Stp.elim (fun a' : Unit => some (Sum.inl (w_eqTupleS_L0_mk v0 v1 (v2 + 1)))) (fun w => some (Sum.inr ((fun p : Unit => Sum.inl (w_eqTupleS_L0_mx0 false)) w))) (w_eqTupleS_L0_f v0 v1 v2 ()) := by
  have hw : (IntKind.wrap .i64 (v2 + 1)) = v2 + 1 := wrap64 (by omega) (by omega)
  show w_eqTupleS_L0_B v0 v1 v2 (Option (w_eqTupleS_L0_sh.T ⊕ WT w_eqTupleS_L0_es)) none (fun v' => some (Sum.inl v')) (fun w => some (Sum.inr w)) = _
  unfold w_eqTupleS_L0_B w_eqTupleS_L0_f
  exact bifG (by simp only [decide_eq_true_eq]; omega) (bifG (by (try simp only [Nat.ble_eq, Bool.and_eq_true, decide_eq_true_eq]); grind [maxSl, maxStr, toBytes_length, toInts_length, List.length_set, wrap64]) (bifG (by (try simp only [Nat.ble_eq, Bool.and_eq_true, decide_eq_true_eq]); grind [maxSl, maxStr, toBytes_length, toInts_length, List.length_set, wrap64]) (letT (f := (Stp.elim (fun a' : Unit => some (Sum.inl (w_eqTupleS_L0_mk v0 v1 (v2 + 1)))) (fun w => some (Sum.inr ((fun p : Unit => Sum.inl (w_eqTupleS_L0_mx0 false)) w))))) (fun c1 hc1 => bifT (f := (Stp.elim (fun a' : Unit => some (Sum.inl (w_eqTupleS_L0_mk v0 v1 (v2 + 1)))) (fun w => some (Sum.inr ((fun p : Unit => Sum.inl (w_eqTupleS_L0_mx0 false)) w))))) (fun b0 => rfl)
      (fun b0 => (by exact congrArg (fun z => some (Sum.inl (w_eqTupleS_L0_mk v0 v1 z))) hw))))))
theorem w_eqTupleS_L0_cl (v0 : List Tupl) (v1 : List Tupl) (v2 : Int) (h0 : 0 ≤ v2) (h1 : (v0.length : Int) ≤ 4611686018427387904) (h2 : (v0.length : Int) ≤ (v1.length : Int)) : loopF w_eqTupleS_L0_r.step (w_eqTupleS_L0_fu v0 v1 v2) (w_eqTupleS_L0_mk v0 v1 v2) = some (Stp.elim (fun a => (fun i a => Sum.inr (w_eqTupleS_L0_mx1 )) (v2 + 1 * (((Int.toNat ((v0.length : Int) - v2)) : Nat) : Int)) a) (fun p : Unit => Sum.inl (w_eqTupleS_L0_mx0 false)) (forN (w_eqTupleS_L0_f v0 v1) 1 (Int.toNat ((v0.length : Int) - v2)) v2 ())) :=
  forN_loop (step := w_eqTupleS_L0_r.step) (mk := fun v2 a => w_eqTupleS_L0_mk v0 v1 v2) (f := w_eqTupleS_L0_f v0 v1) (e := (fun i a => Sum.inr (w_eqTupleS_L0_mx1 ))) (emb := (fun p : Unit => Sum.inl (w_eqTupleS_L0_mx0 false))) (st := 1) (Inv := fun v2 a => True) (Int.toNat ((v0.length : Int) - v2)) v2 () _ (Nat.lt_succ_self _) trivial
    (fun j a hj hv => ⟨w_eqTupleS_L0_st v0 v1 (v2 + 1 * (j : Int)) (by omega) (by omega) (by omega) h2, fun _ _ => trivial⟩)
    (fun a hv => by
      show w_eqTupleS_L0_B v0 v1 (v2 + 1 * (((Int.toNat ((v0.length : Int) - v2)) : Nat) : Int)) (Option (w_eqTupleS_L0_sh.T ⊕ WT w_eqTupleS_L0_es)) none (fun v' => some (Sum.inl v')) (fun w => some (Sum.inr w)) = _
      unfold w_eqTupleS_L0_B
      exact bifN (by simp only [decide_eq_false_iff_not]; omega) rfl)
def w_eqTupleS_N (x0 : List Tupl) (x1 : List Tupl) (γ : Type) (fail : γ) (k : Bool → γ) : γ :=
  bif ((x0.length : Int) != (x1.length : Int)) then
    k false
  else
  optK (loopF w_eqTupleS_L0_r.step (w_eqTupleS_L0_fu x0 x1 0) (w_eqTupleS_L0_mk x0 x1 0)) fail fun w2 =>
    Sum.elim (fun w2 =>
      k w2.1.1.1)
    (fun w2 =>
      k true) w2
def w_eqTupleS (x0 : List Tupl) (x1 : List Tupl) : Bool :=
  bif ((x0.length : Int) != (x1.length : Int)) then
    false
  else
  Stp.elim (fun a3 =>
    true)
    (fun p3 =>
      false)
    (forN (w_eqTupleS_L0_f x0 x1) 1 (Int.toNat ((x0.length : Int) - 0)) 0 ())
theorem w_eqTupleS_lk (x0 : List Tupl) (x1 : List Tupl) : evalFn te (orcOf (P := Try.prog) [w_eqTuple_e]) (lorcOf [w_eqTupleS_L0_le]) w_eqTupleS_ann Try.f129 (pvs [.sc (.sl .tupl), .sc (.sl .tupl)] (x0, x1, ())) =
  w_eqTupleS_N x0 x1 _ none (fun v => some [(false, [RC.c (.bool v)])]) := by kernel_rfl
theorem w_eqTupleS_p (x0 : List Tupl) (x1 : List Tupl) (hx0 : x0.length ≤ 140737488355328) (hx1 : x1.length ≤ 140737488355328)  (γ : Type) (fail : γ) (k : Bool → γ) : w_eqTupleS_N x0 x1 γ fail k = k (w_eqTupleS x0 x1) := by
  unfold w_eqTupleS_N w_eqTupleS
  exact bifT (f := k) (fun b0 => rfl)
      (fun b0 => loopT (f := k) (w_eqTupleS_L0_cl x0 x1 0 (by (try simp only [Nat.ble_eq, Bool.and_eq_true, decide_eq_true_eq, w_eqTupleS_L0_mx0, w_eqTupleS_L0_mx1]); grind [maxSl, maxStr, toBytes_length, toInts_length, List.length_set, wrap64]) (by (try simp only [Nat.ble_eq, Bool.and_eq_true, decide_eq_true_eq, w_eqTupleS_L0_mx0, w_eqTupleS_L0_mx1]); grind [maxSl, maxStr, toBytes_length, toInts_length, List.length_set, wrap64]) (by (try simp only [Nat.ble_eq, Bool.and_eq_true, decide_eq_true_eq, w_eqTupleS_L0_mx0, w_eqTupleS_L0_mx1]); grind [maxSl, maxStr, toBytes_length, toInts_length, List.length_set, wrap64])) (fun a3 => rfl)
      (fun p3 => rfl))
theorem w_eqTupleS_c (x0 : List Tupl) (x1 : List Tupl)  : Con Try.prog 129 (pvs [.sc (.sl .tupl), .sc (.sl .tupl)] (x0, x1, ())) [rv (.sc .bool) [] (w_eqTupleS x0 x1)] := by
  refine Con.of_facts (enters_of Try.func129 rfl (by kernel_rfl)) fun hf => ?_
  replace hf := factAt hf
  exact evalFn_conL teFact mixFact (orcOf_ok _) Try.func129 (by kernel_rfl) (bs := [0]) (by kernel_rfl) (by kernel_rfl) (fun w0 mo I0 hmo => ⟨lsem_of_lorc (w_eqTupleS_L0_ls w0 mo I0 hmo) (by kernel_rfl), trivial⟩) ((w_eqTupleS_lk x0 x1).trans (w_eqTupleS_p x0 x1 ((hf 0 0 rfl rfl).len) ((hf 1 0 rfl rfl).len) _ _ _))
noncomputable def w_eqTupleS_e : Ent1 Try.prog := entA 129 [.sc (.sl .tupl), .sc (.sl .tupl)] (fun x => (w_eqTupleS x.1 x.2.1)) (fun v => [rv (.sc .bool) [] v]) (fun x => w_eqTupleS_c x.1 x.2.1)


/-- spec.PutWord -/
def s_PutWord_ann : List (Nat × Keep) := [(0, ⟨[0, 5, 6], [], false, 0⟩)]
def s_PutWord_L0_sh : Sh := ⟨[(0, false, [.int .i64]), (5, false, [.own 0]), (6, false, [.int .i64])], [.arr .u8 false true]⟩
def s_PutWord_L0_es : List (Ex × Sh) := [(.exit 0, ⟨[(4, false, [.undef]), (5, false, [.own 0])], [.arr .u8 false true]⟩)]
def s_PutWord_L0_mk (v0 : Int) (v1 : Int) (v2 : List Int) : s_PutWord_L0_sh.T := (((v0, ()), (((), ()), ((v1, ()), ()))), (v2, ()))
def s_PutWord_L0_mx0 (y0 : List Int) : Sh.T ⟨[(4, false, [.undef]), (5, false, [.own 0])], [.arr .u8 false true]⟩ := ((((), ()), (((), ()), ())), (y0, ()))
def s_PutWord_L0_B (v0 : Int) (v1 : Int) (v2 : List Int) (γ : Type) (fail : γ) (next : s_PutWord_L0_sh.T → γ) (out : WT s_PutWord_L0_es → γ) : γ :=
  bif (decide (0 ≤ v1)) then
    bif ((decide (0 ≤ v1)) && (decide (v1 < (v2.length : Int)))) then
    next (s_PutWord_L0_mk (IntKind.wrap .i64 (v0.tdiv 256)) (IntKind.wrap .i64 (v1 - 1)) (v2.set v1.toNat (IntKind.wrap .u8 (v0.tmod 256))))
    else fail
  else
  out (s_PutWord_L0_mx0 v2)
theorem s_PutWord_L0_par (v0 : Int) (v1 : Int) (v2 : List Int) (γ : Type) (fail : γ) (next : s_PutWord_L0_sh.T → γ) (out : WT s_PutWord_L0_es → γ) : s_PutWord_L0_B v0 v1 v2 γ fail next out = optK (s_PutWord_L0_B v0 v1 v2 _ none (fun v' => some (.inl v')) (fun w => some (.inr w))) fail (fun r => Sum.elim next out r) := by
  unfold s_PutWord_L0_B
  exact bifT (f := (fun o => optK o fail (fun r => Sum.elim next out r))) (fun _ => bifT (f := (fun o => optK o fail (fun r => Sum.elim next out r))) (fun _ => rfl) (fun _ => rfl))
      (fun _ => rfl)
def s_PutWord_L0_r : Round s_PutWord_L0_sh.T (WT s_PutWord_L0_es) where
  B v γ fail next out := s_PutWord_L0_B v.1.1.1 v.1.2.2.1.1 v.2.1 γ fail next out
  par v γ fail next out := s_PutWord_L0_par v.1.1.1 v.1.2.2.1.1 v.2.1 γ fail next out
def s_PutWord_L0_fu (v0 : Int) (v1 : Int) (v2 : List Int) : Nat := (Int.toNat (v1 - 0 + 1)) + 1
theorem s_PutWord_L0_lk (v : s_PutWord_L0_sh.T) (next : St → Option Res) (k : Ex → St → Option Res) : evalK te (orcOf (P := Try.prog) [s_l1In_e, s_WordOk_e]) (lorcOf []) Try.f147.ntmps s_PutWord_ann (nthLoop (bodyOf Try.f147) 0 0) 0 (s_PutWord_L0_sh.enc v) (endK ⟨[0, 5, 6], [], false, 0⟩ ⟨[4, 5], [], false, 0⟩ next k) =
  s_PutWord_L0_r.B v _ none (fun v' => next (s_PutWord_L0_sh.enc v')) (fun w => outK s_PutWord_L0_es k w) := by kernel_rfl
def s_PutWord_L0_le : LE := leOf 0 s_PutWord_L0_sh s_PutWord_L0_es s_PutWord_L0_r.step (fun v => s_PutWord_L0_fu v.1.1.1 v.1.2.2.1.1 v.2.1)
theorem s_PutWord_L0_ls (w0 : World) (mo : Mts) (I0 : Nat → Prop) (hmo : mo.length = 0) : LSem Try.prog (Sim w0 mo Try.f147.ntmps I0) (fun b s k => match Nat.beq 0 b with | true => s_PutWord_L0_le.run s k | false => none) 0 (nthLoop (bodyOf Try.f147) 0 0) :=
  le_sem hmo (lorc := lorcOf []) (ann := s_PutWord_ann) (keep := ⟨[0, 5, 6], [], false, 0⟩) (kout := ⟨[4, 5], [], false, 0⟩) teFact mixFact (orcOf_ok _) (by kernel_rfl) (allLoops_of (bs := []) (by kernel_rfl) trivial) s_PutWord_L0_r _ s_PutWord_L0_lk
def s_PutWord_L0_f  (v1 : Int) (a : Int × List Int) : Stp (Int × List Int) (Empty) :=
  .next ((IntKind.wrap .i64 (a.1.tdiv 256)), (a.2.set v1.toNat (IntKind.wrap .u8 (a.1.tmod 256))))
theorem s_PutWord_L0_st (v0 : Int) (v1 : Int) (v2 : List Int) (hlo : 0 ≤ v1) (hhi : v1 ≤ 9223372036854775807) (hN : 0 ≤ 0) (hinv : v1 < (v2.length : Int)) : s_PutWord_L0_r.step (s_PutWord_L0_mk v0 v1 v2) = Stp.elim (fun a' : Int × List Int => some (Sum.inl (s_PutWord_L0_mk a'.1 (v1 + (-1)) a'.2))) (fun w => some (Sum.inr ((fun p : Empty => nomatch p) w))) (s_PutWord_L0_f  v1 (v0, v2)) := by
  have hw : (IntKind.wrap .i64 (v1 - 1)) = v1 + (-1) := wrap64 (by omega) (by omega)
  show s_PutWord_L0_B v0 v1 v2 (Option (s_PutWord_L0_sh.T ⊕ WT s_PutWord_L0_es)) none (fun v' => some (Sum.inl v')) (fun w => some (Sum.inr w)) = _
  unfold s_PutWord_L0_B s_PutWord_L0_f
  exact bifG (by simp only [decide_eq_true_eq]; omega) (bifG (by (try simp only [Nat.ble_eq, Bool.and_eq_true, decide_eq_true_eq]); grind [maxSl, maxStr, toBytes_length, toInts_length, List.length_set, wrap64]) ((by exact congrArg (fun z => some (Sum.inl (s_PutWord_L0_mk (IntKind.wrap .i64 (v0.tdiv 256)) z (v2.set v1.toNat (IntKind.wrap .u8 (v0.tmod 256)))))) hw)))
theorem s_PutWord_L0_cl (v0 : Int) (v1 : Int) (v2 : List Int) (h0 : v1 ≤ 9223372036854775807) (h1 : 0 ≤ 0) (h2 : v1 < (v2.length : Int)) : loopF s_PutWord_L0_r.step (s_PutWord_L0_fu v0 v1 v2) (s_PutWord_L0_mk v0 v1 v2) = some (Stp.elim (fun a => (fun i a => s_PutWord_L0_mx0 a.2) (v1 + (-1) * (((Int.toNat (v1 - 0 + 1)) : Nat) : Int)) a) (fun p : Empty => nomatch p) (forN (s_PutWord_L0_f ) (-1) (Int.toNat (v1 - 0 + 1)) v1 (v0, v2))) :=
  forN_loop (step := s_PutWord_L0_r.step) (mk := fun v1 a => s_PutWord_L0_mk a.1 v1 a.2) (f := s_PutWord_L0_f ) (e := (fun i a => s_PutWord_L0_mx0 a.2)) (emb := (fun p : Empty => nomatch p)) (st := (-1)) (Inv := fun v1 a => v1 < (a.2.length : Int)) (Int.toNat (v1 - 0 + 1)) v1 (v0, v2) _ (Nat.lt_succ_self _) h2
    (fun j a hj hv => ⟨s_PutWord_L0_st a.1 (v1 + (-1) * (j : Int)) a.2 (by omega) (by omega) (by omega) hv, by
      intro a' he
      grind [s_PutWord_L0_f, letK, Stp.elim, wrap64, List.length_set]⟩)
    (fun a hv => by
      show s_PutWord_L0_B a.1 (v1 + (-1) * (((Int.toNat (v1 - 0 + 1)) : Nat) : Int)) a.2 (Option (s_PutWord_L0_sh.T ⊕ WT s_PutWord_L0_es)) none (fun v' => some (Sum.inl v')) (fun w => some (Sum.inr w)) = _
      unfold s_PutWord_L0_B
      exact bifN (by simp only [decide_eq_false_iff_not]; omega) rfl)
theorem s_PutWord_L0_nx (v0 : Int) (v1 : Int) (v2 : List Int) (h0 : v1 ≤ 9223372036854775807) (h1 : 0 ≤ 0) (h2 : v1 < (v2.length : Int)) : ∀ a', forN (s_PutWord_L0_f ) (-1) (Int.toNat (v1 - 0 + 1)) v1 (v0, v2) = .next a' → (v1 + (-1) * (((Int.toNat (v1 - 0 + 1)) : Nat) : Int)) < (a'.2.length : Int) :=
  forN_inv (f := s_PutWord_L0_f ) (st := (-1)) (Inv := fun v1 a => v1 < (a.2.length : Int)) (Int.toNat (v1 - 0 + 1)) v1 (v0, v2) h2
    (fun j a hj hv => by
      intro a' he
      grind [s_PutWord_L0_f, letK, Stp.elim, wrap64, List.length_set])
def s_PutWord_N (x0 : Int) (x1 : Int) (γ : Type) (fail : γ) (k : Bytes → γ) : γ :=
  letK (α := Bool) (s_l1In x1 1 6) fun c1 =>
  bif (!c1) then
    k []
  else
  letK (α := Bool) (s_WordOk x0 (IntKind.wrap .i64 (8 * x1))) fun c2 =>
  bif (!c2) then
    k []
  else
  bif ((((decide (0 ≤ x1)) && (decide (x1 = x1))) && (decide (x1 * 1 ≤ (maxSl : Int)))) && (decide (x1 ≤ (maxSl : Int)))) then
  optK (loopF s_PutWord_L0_r.step (s_PutWord_L0_fu x0 (IntKind.wrap .i64 (x1 - 1)) (List.replicate x1.toNat 0)) (s_PutWord_L0_mk x0 (IntKind.wrap .i64 (x1 - 1)) (List.replicate x1.toNat 0))) fail fun w3 =>
    k (toBytes w3.2.1)
  else fail
def s_PutWord (x0 : Int) (x1 : Int) : Bytes :=
  letK (α := Bool) (s_l1In x1 1 6) fun c1 =>
  bif (!c1) then
    []
  else
  letK (α := Bool) (s_WordOk x0 (IntKind.wrap .i64 (8 * x1))) fun c2 =>
  bif (!c2) then
    []
  else
  Stp.elim (fun a4 =>
    (toBytes a4.2))
    (fun p : Empty => nomatch p)
    (forN (s_PutWord_L0_f) (-1) (Int.toNat ((IntKind.wrap .i64 (x1 - 1)) - 0 + 1)) (IntKind.wrap .i64 (x1 - 1)) (x0, (List.replicate x1.toNat 0)))
theorem s_PutWord_lk (x0 : Int) (x1 : Int) : evalFn te (orcOf (P := Try.prog) [s_l1In_e, s_WordOk_e]) (lorcOf [s_PutWord_L0_le]) s_PutWord_ann Try.f147 (pvs [.sc (.int .i64), .sc (.int .i64)] (x0, x1, ())) =
  s_PutWord_N x0 x1 _ none (fun v => some [(false, [RC.c (.str v)])]) := by kernel_rfl
theorem s_PutWord_p (x0 : Int) (x1 : Int) (hx0 : inK .i64 x0) (hx1 : inK .i64 x1)  (γ : Type) (fail : γ) (k : Bytes → γ) : s_PutWord_N x0 x1 γ fail k = k (s_PutWord x0 x1) := by
  unfold s_PutWord_N s_PutWord
  exact letT (f := k) (fun c1 hc1 => bifT (f := k) (fun b0 => rfl)
      (fun b0 => letT (f := k) (fun c2 hc2 => bifT (f := k) (fun b1 => rfl)
      (fun b1 => bifG (by (try simp only [Nat.ble_eq, Bool.and_eq_true, decide_eq_true_eq, s_PutWord_L0_mx0]); grind [maxSl, maxStr, toBytes_length, toInts_length, List.length_set, wrap64, s_l1In_eq, wrap64]) (loopX (f := k) (s_PutWord_L0_cl x0 (IntKind.wrap .i64 (x1 - 1)) (List.replicate x1.toNat 0) (by (try simp only [Nat.ble_eq, Bool.and_eq_true, decide_eq_true_eq, s_PutWord_L0_mx0]); grind [maxSl, maxStr, toBytes_length, toInts_length, List.length_set, wrap64, s_l1In_eq, wrap64]) (by (try simp only [Nat.ble_eq, Bool.and_eq_true, decide_eq_true_eq, s_PutWord_L0_mx0]); grind [maxSl, maxStr, toBytes_length, toInts_length, List.length_set, wrap64, s_l1In_eq, wrap64]) (by (try simp only [Nat.ble_eq, Bool.and_eq_true, decide_eq_true_eq, s_PutWord_L0_mx0]); grind [maxSl, maxStr, toBytes_length, toInts_length, List.length_set, wrap64, s_l1In_eq, wrap64])) (fun a4 ha4 => have ia4 := s_PutWord_L0_nx x0 (IntKind.wrap .i64 (x1 - 1)) (List.replicate x1.toNat 0) (by (try simp only [Nat.ble_eq, Bool.and_eq_true, decide_eq_true_eq, s_PutWord_L0_mx0]); grind [maxSl, maxStr, toBytes_length, toInts_length, List.length_set, wrap64, s_l1In_eq, wrap64]) (by (try simp only [Nat.ble_eq, Bool.and_eq_true, decide_eq_true_eq, s_PutWord_L0_mx0]); grind [maxSl, maxStr, toBytes_length, toInts_length, List.length_set, wrap64, s_l1In_eq, wrap64]) (by (try simp only [Nat.ble_eq, Bool.and_eq_true, decide_eq_true_eq, s_PutWord_L0_mx0]); grind [maxSl, maxStr, toBytes_length, toInts_length, List.length_set, wrap64, s_l1In_eq, wrap64]) _ ha4; rfl)
      (fun p : Empty => nomatch p))))))
theorem s_PutWord_c (x0 : Int) (x1 : Int)  : Con Try.prog 147 (pvs [.sc (.int .i64), .sc (.int .i64)] (x0, x1, ())) [rv (.sc .str) [] (s_PutWord x0 x1)] := by
  refine Con.of_facts (enters_of Try.func147 rfl (by kernel_rfl)) fun hf => ?_
  replace hf := factAt hf
  exact evalFn_conL teFact mixFact (orcOf_ok _) Try.func147 (by kernel_rfl) (bs := [0]) (by kernel_rfl) (by kernel_rfl) (fun w0 mo I0 hmo => ⟨lsem_of_lorc (s_PutWord_L0_ls w0 mo I0 hmo) (by kernel_rfl), trivial⟩) ((s_PutWord_lk x0 x1).trans (s_PutWord_p x0 x1 ((hf 0 0 rfl rfl).rng) ((hf 1 0 rfl rfl).rng) _ _ _))
noncomputable def s_PutWord_e : Ent1 Try.prog := entA 147 [.sc (.int .i64), .sc (.int .i64)] (fun x => (s_PutWord x.1 x.2.1)) (fun v => [rv (.sc .str) [] v]) (fun x => s_PutWord_c x.1 x.2.1)

theorem s_PutWord_len (x0 x1 : Int) : (s_PutWord x0 x1).length ≤ 6 := by
  unfold s_PutWord
  cases hw : s_l1In x1 1 6 with
  | false => simp [letK]
  | true =>
    rw [s_l1In_eq] at hw
    simp only [Bool.and_eq_true, decide_eq_true_eq] at hw
    simp only [letK, Bool.not_true, cond_false]
    cases s_WordOk x0 (IntKind.wrap .i64 (8 * x1)) with
    | false => simp
    | true =>
      simp only [Bool.not_true, cond_false]
      cases hf : forN (s_PutWord_L0_f) (-1) (Int.toNat ((IntKind.wrap .i64 (x1 - 1)) - 0 + 1)) (IntKind.wrap .i64 (x1 - 1)) (x0, (List.replicate x1.toNat 0)) with
      | out p => nomatch p
      | next a =>
        have := forN_inv (Inv := fun _ a => a.2.length = x1.toNat) _ _ _ (by simp) (fun j a _ h a' he => by unfold s_PutWord_L0_f at he; cases he; simpa using h) a hf
        simp only [Stp.elim, toBytes_length]
        omega


/-- impl.cloneMac -/
def i_cloneMac_N (x0 : Mac) (γ : Type) (fail : γ) (k : Mac → γ) : γ :=
  bif (decide (x0.rows.length ≤ 4294967296)) then
  letK (α := List MacRow) (g_Clone_MacRow x0.rows) fun c1 =>
  k ({ x0 with rows := c1 } : Mac)
  else fail
def i_cloneMac (x0 : Mac) : Mac :=
  letK (α := List MacRow) (g_Clone_MacRow x0.rows) fun c1 =>
  ({ x0 with rows := c1 } : Mac)
theorem i_cloneMac_lk (x0 : Mac) : evalFn te (orcOf (P := Try.prog) [g_Clone_MacRow_e]) lorc0 [] Try.f151 (pvs [.st .mac] (x0, ())) =
  i_cloneMac_N x0 _ none (fun v => some [(true, [RC.c (.bool v.use), RC.c (.int .u64 v.k), RC.c (.int .u64 v.l), RC.own true .macRow v.rows])]) := by kernel_rfl
theorem i_cloneMac_p (x0 : Mac) (hx0_k : inK .u64 x0.k) (hx0_l : inK .u64 x0.l) (hx0_rows : x0.rows.length ≤ 140737488355328) (hx0_rows_e : ∀ y ∈ x0.rows, ∀ c ∈ Ty.cells .macRow y, FactC c) (hp : x0.rows.length ≤ 4294967296) (γ : Type) (fail : γ) (k : Mac → γ) : i_cloneMac_N x0 γ fail k = k (i_cloneMac x0) := by
  unfold i_cloneMac_N i_cloneMac
  exact bifG (by (try simp only [Nat.ble_eq, Bool.and_eq_true, decide_eq_true_eq]); grind [maxSl, maxStr, toBytes_length, toInts_length, List.length_set, wrap64]) (letT (f := k) (fun c1 hc1 => rfl))
theorem i_cloneMac_c (x0 : Mac) (hp : x0.rows.length ≤ 4294967296) : Con Try.prog 151 (pvs [.st .mac] (x0, ())) [rv (.st .mac) [.c, .c, .c, .o true] (i_cloneMac x0)] := by
  refine Con.of_facts (enters_of Try.func151 rfl (by kernel_rfl)) fun hf => ?_
  replace hf := factAt hf
  exact evalFn_con0 teFact mixFact (orcOf_ok _) Try.func151 (by kernel_rfl) ((i_cloneMac_lk x0).trans (i_cloneMac_p x0 ((hf 0 1 rfl rfl).rng) ((hf 0 2 rfl rfl).rng) ((hf 0 3 rfl rfl).len) (fun y hy => (hf 0 3 rfl rfl).elem hy) hp _ _ _))
noncomputable def i_cloneMac_e : Ent1 Try.prog := entP 151 [.st .mac] (fun x => (decide (x.1.rows.length ≤ 4294967296))) (fun x => (i_cloneMac x.1)) (fun v => [rv (.st .mac) [.c, .c, .c, .o true] v]) (fun x hx => i_cloneMac_c x.1 (of_decide_eq_true hx))

theorem i_cloneMac_len (x0 : Mac) (hp : x0.rows.length ≤ 4294967296)  : (fun v : Mac => v.rows.length ≤ x0.rows.length) (i_cloneMac x0) := by
  unfold i_cloneMac
  exact letP (P := (fun v : Mac => v.rows.length ≤ x0.rows.length)) (fun c1 hc1 => (by subst_vars; exact Nat.le_refl _))

/-- laws.szMacRowS -/
def w_szMacRowS_ann : List (Nat × Keep) := [(0, ⟨[0, 1, 5], [], false, 0⟩)]
def w_szMacRowS_L0_sh : Sh := ⟨[(0, false, [.sl .arg .macRow]), (1, false, [.int .i64]), (5, false, [.int .i64])], []⟩
def w_szMacRowS_L0_es : List (Ex × Sh) := [(.ret, ⟨[(1, false, [.int .i64]), (4, false, [.int .i64])], []⟩), (.exit 0, ⟨[(1, false, [.int .i64]), (4, false, [.undef])], []⟩)]
def w_szMacRowS_L0_mk (v0 : List MacRow) (v1 : Int) (v2 : Int) : w_szMacRowS_L0_sh.T := (((v0, ()), ((v1, ()), ((v2, ()), ()))), ())
def w_szMacRowS_L0_mx0 (y0 : Int) (y1 : Int) : Sh.T ⟨[(1, false, [.int .i64]), (4, false, [.int .i64])], []⟩ := (((y0, ()), ((y1, ()), ())), ())
def w_szMacRowS_L0_mx1 (y0 : Int) : Sh.T ⟨[(1, false, [.int .i64]), (4, false, [.undef])], []⟩ := (((y0, ()), (((), ()), ())), ())
def w_szMacRowS_L0_B (v0 : List MacRow) (v1 : Int) (v2 : Int) (γ : Type) (fail : γ) (next : w_szMacRowS_L0_sh.T → γ) (out : WT w_szMacRowS_L0_es → γ) : γ :=
  bif (decide (v2 < (v0.length : Int))) then
    bif ((decide (0 ≤ v2)) && (decide (v2 < (v0.length : Int)))) then
    letK (α := Int) (w_szMacRow (v0.getD v2.toNat (Ty.zero .macRow)) v1) fun c1 =>
    bif (decide (c1 < 0)) then
      out (Sum.inl (w_szMacRowS_L0_mx0 c1 (-1)))
    else
    next (w_szMacRowS_L0_mk v0 c1 (IntKind.wrap .i64 (v2 + 1)))
    else fail
  else
  out (Sum.inr (w_szMacRowS_L0_mx1 v1))
theorem w_szMacRowS_L0_par (v0 : List MacRow) (v1 : Int) (v2 : Int) (γ : Type) (fail : γ) (next : w_szMacRowS_L0_sh.T → γ) (out : WT w_szMacRowS_L0_es → γ) : w_szMacRowS_L0_B v0 v1 v2 γ fail next out = optK (w_szMacRowS_L0_B v0 v1 v2 _ none (fun v' => some (.inl v')) (fun w => some (.inr w))) fail (fun r => Sum.elim next out r) := by
  unfold w_szMacRowS_L0_B
  exact bifT (f := (fun o => optK o fail (fun r => Sum.elim next out r))) (fun _ => bifT (f := (fun o => optK o fail (fun r => Sum.elim next out r))) (fun _ => letT (f := (fun o => optK o fail (fun r => Sum.elim next out r))) (fun c1 _ => bifT (f := (fun o => optK o fail (fun r => Sum.elim next out r))) (fun _ => rfl)
      (fun _ => rfl))) (fun _ => rfl))
      (fun _ => rfl)
def w_szMacRowS_L0_r : Round w_szMacRowS_L0_sh.T (WT w_szMacRowS_L0_es) where
  B v γ fail next out := w_szMacRowS_L0_B v.1.1.1 v.1.2.1.1 v.1.2.2.1.1 γ fail next out
  par v γ fail next out := w_szMacRowS_L0_par v.1.1.1 v.1.2.1.1 v.1.2.2.1.1 γ fail next out
def w_szMacRowS_L0_fu (v0 : List MacRow) (v1 : Int) (v2 : Int) : Nat := (Int.toNat ((v0.length : Int) - v2)) + 1
theorem w_szMacRowS_L0_lk (v : w_szMacRowS_L0_sh.T) (next : St → Option Res) (k : Ex → St → Option Res) : evalK te (orcOf (P := Try.prog) [w_szMacRow_e]) (lorcOf []) Try.f158.ntmps w_szMacRowS_ann (nthLoop (bodyOf Try.f158) 0 0) 0 (w_szMacRowS_L0_sh.enc v) (endK ⟨[0, 1, 5], [], false, 0⟩ ⟨[1, 4], [], false, 0⟩ next k) =
  w_szMacRowS_L0_r.B v _ none (fun v' => next (w_szMacRowS_L0_sh.enc v')) (fun w => outK w_szMacRowS_L0_es k w) := by kernel_rfl
def w_szMacRowS_L0_le : LE := leOf 0 w_szMacRowS_L0_sh w_szMacRowS_L0_es w_szMacRowS_L0_r.step (fun v => w_szMacRowS_L0_fu v.1.1.1 v.1.2.1.1 v.1.2.2.1.1)
theorem w_szMacRowS_L0_ls (w0 : World) (mo : Mts) (I0 : Nat → Prop) (hmo : mo.length = 0) : LSem Try.prog (Sim w0 mo Try.f158.ntmps I0) (fun b s k => match Nat.beq 0 b with | true => w_szMacRowS_L0_le.run s k | false => none) 0 (nthLoop (bodyOf Try.f158) 0 0) :=
  le_sem hmo (lorc := lorcOf []) (ann := w_szMacRowS_ann) (keep := ⟨[0, 1, 5], [], false, 0⟩) (kout := ⟨[1, 4], [], false, 0⟩) teFact mixFact (orcOf_ok _) (by kernel_rfl) (allLoops_of (bs := []) (by kernel_rfl) trivial) w_szMacRowS_L0_r _ w_szMacRowS_L0_lk
def w_szMacRowS_L0_f (v0 : List MacRow) (v2 : Int) (a : Int) : Stp (Int) ((Int)) :=
  letK (α := Int) (w_szMacRow (v0.getD v2.toNat (Ty.zero .macRow)) a) fun c1 =>
  bif (decide (c1 < 0)) then
    .out (c1)
  else
  .next c1
theorem w_szMacRowS_L0_st (v0 : List MacRow) (v1 : Int) (v2 : Int) (hlo : 0 ≤ v2) (hhi : v2 < (v0.length : Int)) (hN : (v0.length : Int) ≤ 4611686018427387904) : w_szMacRowS_L0_r.step (w_szMacRowS_L0_mk v0 v1 v2) = Stp.elim (fun a' : Int => some (Sum.inl (w_szMacRowS_L0_mk v0 a' (v2 + 1)))) (fun w => some (Sum.inr ((fun p : Int => Sum.inl (w_szMacRowS_L0_mx0 p (-1))) w))) (w_szMacRowS_L0_f v0 v2 v1) := by
  have hw : (IntKind.wrap .i64 (v2 + 1)) = v2 + 1 := wrap64 (by omega) (by omega)
  show w_szMacRowS_L0_B v0 v1 v2 (Option (w_szMacRowS_L0_sh.T ⊕ WT w_szMacRowS_L0_es)) none (fun v' => some (Sum.inl v')) (fun w => some (Sum.inr w)) = _
  unfold w_szMacRowS_L0_B w_szMacRowS_L0_f
  exact bifG (by simp only [decide_eq_true_eq]; omega) (bifG (by (try simp only [Nat.ble_eq, Bool.and_eq_true, decide_eq_true_eq]); grind [maxSl, maxStr, toBytes_length, toInts_length, List.length_set, wrap64, w_szMacRow_sm]) (letT (f := (Stp.elim (fun a' : Int => some (Sum.inl (w_szMacRowS_L0_mk v0 a' (v2 + 1)))) (fun w => some (Sum.inr ((fun p : Int => Sum.inl (w_szMacRowS_L0_mx0 p (-1))) w))))) (fun c1 hc1 => bifT (f := (Stp.elim (fun a' : Int => some (Sum.inl (w_szMacRowS_L0_mk v0 a' (v2 + 1)))) (fun w => some (Sum.inr ((fun p : Int => Sum.inl (w_szMacRowS_L0_mx0 p (-1))) w))))) (fun b0 => rfl)
      (fun b0 => (by exact congrArg (fun z => some (Sum.inl (w_szMacRowS_L0_mk v0 c1 z))) hw)))))
theorem w_szMacRowS_L0_cl (v0 : List MacRow) (v1 : Int) (v2 : Int) (h0 : 0 ≤ v2) (h1 : (v0.length : Int) ≤ 4611686018427387904) : loopF w_szMacRowS_L0_r.step (w_szMacRowS_L0_fu v0 v1 v2) (w_szMacRowS_L0_mk v0 v1 v2) = some (Stp.elim (fun a => (fun i a => Sum.inr (w_szMacRowS_L0_mx1 a)) (v2 + 1 * (((Int.toNat ((v0.length : Int) - v2)) : Nat) : Int)) a) (fun p : Int => Sum.inl (w_szMacRowS_L0_mx0 p (-1))) (forN (w_szMacRowS_L0_f v0) 1 (Int.toNat ((v0.length : Int) - v2)) v2 v1)) :=
  forN_loop (step := w_szMacRowS_L0_r.step) (mk := fun v2 a => w_szMacRowS_L0_mk v0 a v2) (f := w_szMacRowS_L0_f v0) (e := (fun i a => Sum.inr (w_szMacRowS_L0_mx1 a))) (emb := (fun p : Int => Sum.inl (w_szMacRowS_L0_mx0 p (-1)))) (st := 1) (Inv := fun v2 a => True) (Int.toNat ((v0.length : Int) - v2)) v2 v1 _ (Nat.lt_succ_self _) trivial
    (fun j a hj hv => ⟨w_szMacRowS_L0_st v0 a (v2 + 1 * (j : Int)) (by omega) (by omega) (by omega), fun _ _ => trivial⟩)
    (fun a hv => by
      show w_szMacRowS_L0_B v0 a (v2 + 1 * (((Int.toNat ((v0.length : Int) - v2)) : Nat) : Int)) (Option (w_szMacRowS_L0_sh.T ⊕ WT w_szMacRowS_L0_es)) none (fun v' => some (Sum.inl v')) (fun w => some (Sum.inr w)) = _
      unfold w_szMacRowS_L0_B
      exact bifN (by simp only [decide_eq_false_iff_not]; omega) rfl)
def w_szMacRowS_N (x0 : List MacRow) (x1 : Int) (γ : Type) (fail : γ) (k : Int → γ) : γ :=
  bif (decide ((IntKind.wrap .i64 (x1 - (x0.length : Int))) < 0)) then
    k (-1)
  else
  optK (loopF w_szMacRowS_L0_r.step (w_szMacRowS_L0_fu x0 (IntKind.wrap .i64 (x1 - (x0.length : Int))) 0) (w_szMacRowS_L0_mk x0 (IntKind.wrap .i64 (x1 - (x0.length : Int))) 0)) fail fun w2 =>
    Sum.elim (fun w2 =>
      k w2.1.2.1.1)
    (fun w2 =>
      k w2.1.1.1) w2
def w_szMacRowS (x0 : List MacRow) (x1 : Int) : Int :=
  bif (decide ((IntKind.wrap .i64 (x1 - (x0.length : Int))) < 0)) then
    (-1)
  else
  Stp.elim (fun a3 =>
    a3)
    (fun p3 =>
      (-1))
    (forN (w_szMacRowS_L0_f x0) 1 (Int.toNat ((x0.length : Int) - 0)) 0 (IntKind.wrap .i64 (x1 - (x0.length : Int))))
theorem w_szMacRowS_lk (x0 : List MacRow) (x1 : Int) : evalFn te (orcOf (P := Try.prog) [w_szMacRow_e]) (lorcOf [w_szMacRowS_L0_le]) w_szMacRowS_ann Try.f158 (pvs [.sc (.sl .macRow), .sc (.int .i64)] (x0, x1, ())) =
  w_szMacRowS_N x0 x1 _ none (fun v => some [(false, [RC.c (.int .i64 v)])]) := by kernel_rfl
theorem w_szMacRowS_p (x0 : List MacRow) (x1 : Int) (hx0 : x0.length ≤ 140737488355328) (hx0_e : ∀ y ∈ x0, ∀ c ∈ Ty.cells .macRow y, FactC c) (hx1 : inK .i64 x1)  (γ : Type) (fail : γ) (k : Int → γ) : w_szMacRowS_N x0 x1 γ fail k = k (w_szMacRowS x0 x1) := by
  unfold w_szMacRowS_N w_szMacRowS
  exact bifT (f := k) (fun b0 => rfl)
      (fun b0 => loopT (f := k) (w_szMacRowS_L0_cl x0 (IntKind.wrap .i64 (x1 - (x0.length : Int))) 0 (by (try simp only [Nat.ble_eq, Bool.and_eq_true, decide_eq_true_eq, w_szMacRowS_L0_mx0, w_szMacRowS_L0_mx1]); grind [maxSl, maxStr, toBytes_length, toInts_length, List.length_set, wrap64, w_szMacRow_sm]) (by (try simp only [Nat.ble_eq, Bool.and_eq_true, decide_eq_true_eq, w_szMacRowS_L0_mx0, w_szMacRowS_L0_mx1]); grind [maxSl, maxStr, toBytes_length, toInts_length, List.length_set, wrap64, w_szMacRow_sm])) (fun a3 => rfl)
      (fun p3 => rfl))
theorem w_szMacRowS_c (x0 : List MacRow) (x1 : Int)  : Con Try.prog 158 (pvs [.sc (.sl .macRow), .sc (.int .i64)] (x0, x1, ())) [rv (.sc (.int .i64)) [] (w_szMacRowS x0 x1)] := by
  refine Con.of_facts (enters_of Try.func158 rfl (by kernel_rfl)) fun hf => ?_
  replace hf := factAt hf
  exact evalFn_conL teFact mixFact (orcOf_ok _) Try.func158 (by kernel_rfl) (bs := [0]) (by kernel_rfl) (by kernel_rfl) (fun w0 mo I0 hmo => ⟨lsem_of_lorc (w_szMacRowS_L0_ls w0 mo I0 hmo) (by kernel_rfl), trivial⟩) ((w_szMacRowS_lk x0 x1).trans (w_szMacRowS_p x0 x1 ((hf 0 0 rfl rfl).len) (fun y hy => (hf 0 0 rfl rfl).elem hy) ((hf 1 0 rfl rfl).rng) _ _ _))
noncomputable def w_szMacRowS_e : Ent1 Try.prog := entA 158 [.sc (.sl .macRow), .sc (.int .i64)] (fun x => (w_szMacRowS x.1 x.2.1)) (fun v => [rv (.sc (.int .i64)) [] v]) (fun x => w_szMacRowS_c x.1 x.2.1)


/-- laws.toMacRowS -/
def w_toMacRowS_ann : List (Nat × Keep) := [(0, ⟨[0, 3, 4], [], false, 0⟩)]
def w_toMacRowS_L0_sh : Sh := ⟨[(0, false, [.sl .arg .macRow]), (3, false, [.own 0]), (4, false, [.int .i64])], [.arr .macRow false true]⟩
def w_toMacRowS_L0_es : List (Ex × Sh) := [(.exit 0, ⟨[(2, false, [.undef]), (3, false, [.own 0])], [.arr .macRow false true]⟩)]
def w_toMacRowS_L0_mk (v0 : List MacRow) (v1 : Int) (v2 : List MacRow) : w_toMacRowS_L0_sh.T := (((v0, ()), (((), ()), ((v1, ()), ()))), (v2, ()))
def w_toMacRowS_L0_mx0 (y0 : List MacRow) : Sh.T ⟨[(2, false, [.undef]), (3, false, [.own 0])], [.arr .macRow false true]⟩ := ((((), ()), (((), ()), ())), (y0, ()))
def w_toMacRowS_L0_B (v0 : List MacRow) (v1 : Int) (v2 : List MacRow) (γ : Type) (fail : γ) (next : w_toMacRowS_L0_sh.T → γ) (out : WT w_toMacRowS_L0_es → γ) : γ :=
  bif (decide (v1 < (v0.length : Int))) then
    bif ((decide (0 ≤ v1)) && (decide (v1 < (v0.length : Int)))) then
    letK (α := MacRow) (w_toMacRow (v0.getD v1.toNat (Ty.zero .macRow))) fun c1 =>
    bif ((decide (0 ≤ v1)) && (decide (v1 < (v2.length : Int)))) then
    next (w_toMacRowS_L0_mk v0 (IntKind.wrap .i64 (v1 + 1)) (v2.set v1.toNat c1))
    else fail
    else fail
  else
  out (w_toMacRowS_L0_mx0 v2)
theorem w_toMacRowS_L0_par (v0 : List MacRow) (v1 : Int) (v2 : List MacRow) (γ : Type) (fail : γ) (next : w_toMacRowS_L0_sh.T → γ) (out : WT w_toMacRowS_L0_es → γ) : w_toMacRowS_L0_B v0 v1 v2 γ fail next out = optK (w_toMacRowS_L0_B v0 v1 v2 _ none (fun v' => some (.inl v')) (fun w => some (.inr w))) fail (fun r => Sum.elim next out r) := by
  unfold w_toMacRowS_L0_B
  exact bifT (f := (fun o => optK o fail (fun r => Sum.elim next out r))) (fun _ => bifT (f := (fun o => optK o fail (fun r => Sum.elim next out r))) (fun _ => letT (f := (fun o => optK o fail (fun r => Sum.elim next out r))) (fun c1 _ => bifT (f := (fun o => optK o fail (fun r => Sum.elim next out r))) (fun _ => rfl) (fun _ => rfl))) (fun _ => rfl))
      (fun _ => rfl)
def w_toMacRowS_L0_r : Round w_toMacRowS_L0_sh.T (WT w_toMacRowS_L0_es) where
  B v γ fail next out := w_toMacRowS_L0_B v.1.1.1 v.1.2.2.1.1 v.2.1 γ fail next out
  par v γ fail next out := w_toMacRowS_L0_par v.1.1.1 v.1.2.2.1.1 v.2.1 γ fail next out
def w_toMacRowS_L0_fu (v0 : List MacRow) (v1 : Int) (v2 : List MacRow) : Nat := (Int.toNat ((v0.length : Int) - v1)) + 1
theorem w_toMacRowS_L0_lk (v : w_toMacRowS_L0_sh.T) (next : St → Option Res) (k : Ex → St → Option Res) : evalK te (orcOf (P := Try.prog) [w_toMacRow_e]) (lorcOf []) Try.f160.ntmps w_toMacRowS_ann (nthLoop (bodyOf Try.f160) 0 0) 0 (w_toMacRowS_L0_sh.enc v) (endK ⟨[0, 3, 4], [], false, 0⟩ ⟨[2, 3], [], false, 0⟩ next k) =
  w_toMacRowS_L0_r.B v _ none (fun v' => next (w_toMacRowS_L0_sh.enc v')) (fun w => outK w_toMacRowS_L0_es k w) := by kernel_rfl
def w_toMacRowS_L0_le : LE := leOf 0 w_toMacRowS_L0_sh w_toMacRowS_L0_es w_toMacRowS_L0_r.step (fun v => w_toMacRowS_L0_fu v.1.1.1 v.1.2.2.1.1 v.2.1)
theorem w_toMacRowS_L0_ls (w0 : World) (mo : Mts) (I0 : Nat → Prop) (hmo : mo.length = 0) : LSem Try.prog (Sim w0 mo Try.f160.ntmps I0) (fun b s k => match Nat.beq 0 b with | true => w_toMacRowS_L0_le.run s k | false => none) 0 (nthLoop (bodyOf Try.f160) 0 0) :=
  le_sem hmo (lorc := lorcOf []) (ann := w_toMacRowS_ann) (keep := ⟨[0, 3, 4], [], false, 0⟩) (kout := ⟨[2, 3], [], false, 0⟩) teFact mixFact (orcOf_ok _) (by kernel_rfl) (allLoops_of (bs := []) (by kernel_rfl) trivial) w_toMacRowS_L0_r _ w_toMacRowS_L0_lk
def w_toMacRowS_L0_f (v0 : List MacRow) (v1 : Int) (a : List MacRow) : Stp (List MacRow) (Empty) :=
  letK (α := MacRow) (w_toMacRow (v0.getD v1.toNat (Ty.zero .macRow))) fun c1 =>
  .next (a.set v1.toNat c1)
theorem w_toMacRowS_L0_st (v0 : List MacRow) (v1 : Int) (v2 : List MacRow) (hlo : 0 ≤ v1) (hhi : v1 < (v0.length : Int)) (hN : (v0.length : Int) ≤ 4611686018427387904) (hinv : (v0.length : Int) ≤ (v2.length : Int)) : w_toMacRowS_L0_r.step (w_toMacRowS_L0_mk v0 v1 v2) = Stp.elim (fun a' : List MacRow => some (Sum.inl (w_toMacRowS_L0_mk v0 (v1 + 1) a'))) (fun w => some (Sum.inr ((fun p : Empty => nomatch p) w))) (w_toMacRowS_L0_f v0 v1 v2) := by
  have hw : (IntKind.wrap .i64 (v1 + 1)) = v1 + 1 := wrap64 (by omega) (by omega)
  show w_toMacRowS_L0_B v0 v1 v2 (Option (w_toMacRowS_L0_sh.T ⊕ WT w_toMacRowS_L0_es)) none (fun v' => some (Sum.inl v')) (fun w => some (Sum.inr w)) = _
  unfold w_toMacRowS_L0_B w_toMacRowS_L0_f
  exact bifG (by simp only [decide_eq_true_eq]; omega) (bifG (by (try simp only [Nat.ble_eq, Bool.and_eq_true, decide_eq_true_eq]); grind [maxSl, maxStr, toBytes_length, toInts_length, List.length_set, wrap64]) (letT (f := (Stp.elim (fun a' : List MacRow => some (Sum.inl (w_toMacRowS_L0_mk v0 (v1 + 1) a'))) (fun w => some (Sum.inr ((fun p : Empty => nomatch p) w))))) (fun c1 hc1 => bifG (by (try simp only [Nat.ble_eq, Bool.and_eq_true, decide_eq_true_eq]); grind [maxSl, maxStr, toBytes_length, toInts_length, List.length_set, wrap64]) ((by exact congrArg (fun z => some (Sum.inl (w_toMacRowS_L0_mk v0 z (v2.set v1.toNat c1)))) hw)))))
theorem w_toMacRowS_L0_cl (v0 : List MacRow) (v1 : Int) (v2 : List MacRow) (h0 : 0 ≤ v1) (h1 : (v0.length : Int) ≤ 4611686018427387904) (h2 : (v0.length : Int) ≤ (v2.length : Int)) : loopF w_toMacRowS_L0_r.step (w_toMacRowS_L0_fu v0 v1 v2) (w_toMacRowS_L0_mk v0 v1 v2) = some (Stp.elim (fun a => (fun i a => w_toMacRowS_L0_mx0 a) (v1 + 1 * (((Int.toNat ((v0.length : Int) - v1)) : Nat) : Int)) a) (fun p : Empty => nomatch p) (forN (w_toMacRowS_L0_f v0) 1 (Int.toNat ((v0.length : Int) - v1)) v1 v2)) :=
  forN_loop (step := w_toMacRowS_L0_r.step) (mk := fun v1 a => w_toMacRowS_L0_mk v0 v1 a) (f := w_toMacRowS_L0_f v0) (e := (fun i a => w_toMacRowS_L0_mx0 a)) (emb := (fun p : Empty => nomatch p)) (st := 1) (Inv := fun v1 a => (v0.length : Int) ≤ (a.length : Int)) (Int.toNat ((v0.length : Int) - v1)) v1 v2 _ (Nat.lt_succ_self _) h2
    (fun j a hj hv => ⟨w_toMacRowS_L0_st v0 (v1 + 1 * (j : Int)) a (by omega) (by omega) (by omega) hv, by
      intro a' he
      grind [w_toMacRowS_L0_f, letK, Stp.elim, wrap64, List.length_set]⟩)
    (fun a hv => by
      show w_toMacRowS_L0_B v0 (v1 + 1 * (((Int.toNat ((v0.length : Int) - v1)) : Nat) : Int)) a (Option (w_toMacRowS_L0_sh.T ⊕ WT w_toMacRowS_L0_es)) none (fun v' => some (Sum.inl v')) (fun w => some (Sum.inr w)) = _
      unfold w_toMacRowS_L0_B
      exact bifN (by simp only [decide_eq_false_iff_not]; omega) rfl)
theorem w_toMacRowS_L0_nx (v0 : List MacRow) (v1 : Int) (v2 : List MacRow) (h0 : 0 ≤ v1) (h1 : (v0.length : Int) ≤ 4611686018427387904) (h2 : (v0.length : Int) ≤ (v2.length : Int)) : ∀ a', forN (w_toMacRowS_L0_f v0) 1 (Int.toNat ((v0.length : Int) - v1)) v1 v2 = .next a' → (v0.length : Int) ≤ (a'.length : Int) :=
  forN_inv (f := w_toMacRowS_L0_f v0) (st := 1) (Inv := fun v1 a => (v0.length : Int) ≤ (a.length : Int)) (Int.toNat ((v0.length : Int) - v1)) v1 v2 h2
    (fun j a hj hv => by
      intro a' he
      grind [w_toMacRowS_L0_f, letK, Stp.elim, wrap64, List.length_set])
def w_toMacRowS_N (x0 : List MacRow) (γ : Type) (fail : γ) (k : List MacRow → γ) : γ :=
  bif ((((decide (0 ≤ (x0.length : Int))) && (decide ((x0.length : Int) = (x0.length : Int)))) && (decide ((x0.length : Int) * 24 ≤ (maxSl : Int)))) && (decide ((x0.length : Int) ≤ (maxSl : Int)))) then
  optK (loopF w_toMacRowS_L0_r.step (w_toMacRowS_L0_fu x0 0 (List.replicate ((x0.length : Int).toNat) (⟨[], 0⟩ : MacRow))) (w_toMacRowS_L0_mk x0 0 (List.replicate ((x0.length : Int).toNat) (⟨[], 0⟩ : MacRow)))) fail fun w2 =>
    k w2.2.1
  else fail
def w_toMacRowS (x0 : List MacRow) : List MacRow :=
  Stp.elim (fun a3 =>
    a3)
    (fun p : Empty => nomatch p)
    (forN (w_toMacRowS_L0_f x0) 1 (Int.toNat ((x0.length : Int) - 0)) 0 (List.replicate ((x0.length : Int).toNat) (⟨[], 0⟩ : MacRow)))
theorem w_toMacRowS_lk (x0 : List MacRow) : evalFn te (orcOf (P := Try.prog) [w_toMacRow_e]) (lorcOf [w_toMacRowS_L0_le]) w_toMacRowS_ann Try.f160 (pvs [.sc (.sl .macRow)] (x0, ())) =
  w_toMacRowS_N x0 _ none (fun v => some [(false, [RC.own true .macRow v])]) := by kernel_rfl
theorem w_toMacRowS_p (x0 : List MacRow) (hx0 : x0.length ≤ 140737488355328) (hx0_e : ∀ y ∈ x0, ∀ c ∈ Ty.cells .macRow y, FactC c) (hp : x0.length ≤ 4294967296) (γ : Type) (fail : γ) (k : List MacRow → γ) : w_toMacRowS_N x0 γ fail k = k (w_toMacRowS x0) := by
  unfold w_toMacRowS_N w_toMacRowS
  exact bifG (by (try simp only [Nat.ble_eq, Bool.and_eq_true, decide_eq_true_eq, w_toMacRowS_L0_mx0]); grind [maxSl, maxStr, toBytes_length, toInts_length, List.length_set, wrap64]) (loopX (f := k) (w_toMacRowS_L0_cl x0 0 (List.replicate ((x0.length : Int).toNat) (⟨[], 0⟩ : MacRow)) (by (try simp only [Nat.ble_eq, Bool.and_eq_true, decide_eq_true_eq, w_toMacRowS_L0_mx0]); grind [maxSl, maxStr, toBytes_length, toInts_length, List.length_set, wrap64]) (by (try simp only [Nat.ble_eq, Bool.and_eq_true, decide_eq_true_eq, w_toMacRowS_L0_mx0]); grind [maxSl, maxStr, toBytes_length, toInts_length, List.length_set, wrap64]) (by (try simp only [Nat.ble_eq, Bool.and_eq_true, decide_eq_true_eq, w_toMacRowS_L0_mx0]); grind [maxSl, maxStr, toBytes_length, toInts_length, List.length_set, wrap64])) (fun a3 ha3 => have ia3 := w_toMacRowS_L0_nx x0 0 (List.replicate ((x0.length : Int).toNat) (⟨[], 0⟩ : MacRow)) (by (try simp only [Nat.ble_eq, Bool.and_eq_true, decide_eq_true_eq, w_toMacRowS_L0_mx0]); grind [maxSl, maxStr, toBytes_length, toInts_length, List.length_set, wrap64]) (by (try simp only [Nat.ble_eq, Bool.and_eq_true, decide_eq_true_eq, w_toMacRowS_L0_mx0]); grind [maxSl, maxStr, toBytes_length, toInts_length, List.length_set, wrap64]) (by (try simp only [Nat.ble_eq, Bool.and_eq_true, decide_eq_true_eq, w_toMacRowS_L0_mx0]); grind [maxSl, maxStr, toBytes_length, toInts_length, List.length_set, wrap64]) _ ha3; rfl)
      (fun p : Empty => nomatch p))
theorem w_toMacRowS_c (x0 : List MacRow) (hp : x0.length ≤ 4294967296) : Con Try.prog 160 (pvs [.sc (.sl .macRow)] (x0, ())) [rv (.sc (.sl .macRow)) [.o true] (w_toMacRowS x0)] := by
  refine Con.of_facts (enters_of Try.func160 rfl (by kernel_rfl)) fun hf => ?_
  replace hf := factAt hf
  exact evalFn_conL teFact mixFact (orcOf_ok _) Try.func160 (by kernel_rfl) (bs := [0]) (by kernel_rfl) (by kernel_rfl) (fun w0 mo I0 hmo => ⟨lsem_of_lorc (w_toMacRowS_L0_ls w0 mo I0 hmo) (by kernel_rfl), trivial⟩) ((w_toMacRowS_lk x0).trans (w_toMacRowS_p x0 ((hf 0 0 rfl rfl).len) (fun y hy => (hf 0 0 rfl rfl).elem hy) hp _ _ _))
noncomputable def w_toMacRowS_e : Ent1 Try.prog := entP 160 [.sc (.sl .macRow)] (fun x => (decide (x.1.length ≤ 4294967296))) (fun x => (w_toMacRowS x.1)) (fun v => [rv (.sc (.sl .macRow)) [.o true] v]) (fun x hx => w_toMacRowS_c x.1 (of_decide_eq_true hx))


/-- laws.eqMacRowS -/
def w_eqMacRowS_ann : List (Nat × Keep) := [(0, ⟨[0, 1, 5], [], false, 0⟩)]
def w_eqMacRowS_L0_sh : Sh := ⟨[(0, false, [.sl .arg .macRow]), (1, false, [.sl .arg .macRow]), (5, false, [.int .i64])], []⟩
def w_eqMacRowS_L0_es : List (Ex × Sh) := [(.ret, ⟨[(4, false, [.bool])], []⟩), (.exit 0, ⟨[(4, false, [.undef])], []⟩)]
def w_eqMacRowS_L0_mk (v0 : List MacRow) (v1 : List MacRow) (v2 : Int) : w_eqMacRowS_L0_sh.T := (((v0, ()), ((v1, ()), ((v2, ()), ()))), ())
def w_eqMacRowS_L0_mx0 (y0 : Bool) : Sh.T ⟨[(4, false, [.bool])], []⟩ := (((y0, ()), ()), ())
def w_eqMacRowS_L0_mx1  : Sh.T ⟨[(4, false, [.undef])], []⟩ := ((((), ()), ()), ())
def w_eqMacRowS_L0_B (v0 : List MacRow) (v1 : List MacRow) (v2 : Int) (γ : Type) (fail : γ) (next : w_eqMacRowS_L0_sh.T → γ) (out : WT w_eqMacRowS_L0_es → γ) : γ :=
  bif (decide (v2 < (v0.length : Int))) then
    bif ((decide (0 ≤ v2)) && (decide (v2 < (v0.length : Int)))) then
    bif ((decide (0 ≤ v2)) && (decide (v2 < (v1.length : Int)))) then
    letK (α := Bool) (w_eqMacRow (v0.getD v2.toNat (Ty.zero .macRow)) (v1.getD v2.toNat (Ty.zero .macRow))) fun c1 =>
    bif (!c1) then
      out (Sum.inl (w_eqMacRowS_L0_mx0 false))
    else
    next (w_eqMacRowS_L0_mk v0 v1 (IntKind.wrap .i64 (v2 + 1)))
    else fail
    else fail
  else
  out (Sum.inr (w_eqMacRowS_L0_mx1 ))
theorem w_eqMacRowS_L0_par (v0 : List MacRow) (v1 : List MacRow) (v2 : Int) (γ : Type) (fail : γ) (next : w_eqMacRowS_L0_sh.T → γ) (out : WT w_eqMacRowS_L0_es → γ) : w_eqMacRowS_L0_B v0 v1 v2 γ fail next out = optK (w_eqMacRowS_L0_B v0 v1 v2 _ none (fun v' => some (.inl v')) (fun w => some (.inr w))) fail (fun r => Sum.elim next out r) := by
  unfold w_eqMacRowS_L0_B
  exact bifT (f := (fun o => optK o fail (fun r => Sum.elim next out r))) (fun _ => bifT (f := (fun o => optK o fail (fun r => Sum.elim next out r))) (fun _ => bifT (f := (fun o => optK o fail (fun r => Sum.elim next out r))) (fun _ => letT (f := (fun o => optK o fail (fun r => Sum.elim next out r))) (fun c1 _ => bifT (f := (fun o => optK o fail (fun r => Sum.elim next out r))) (fun _ => rfl)
      (fun _ => rfl))) (fun _ => rfl)) (fun _ => rfl))
      (fun _ => rfl)
def w_eqMacRowS_L0_r : Round w_eqMacRowS_L0_sh.T (WT w_eqMacRowS_L0_es) where
  B v γ fail next out := w_eqMacRowS_L0_B v.1.1.1 v.1.2.1.1 v.1.2.2.1.1 γ fail next out
  par v γ fail next out := w_eqMacRowS_L0_par v.1.1.1 v.1.2.1.1 v.1.2.2.1.1 γ fail next out
def w_eqMacRowS_L0_fu (v0 : List MacRow) (v1 : List MacRow) (v2 : Int) : Nat := (Int.toNat ((v0.length : Int) - v2)) + 1
theorem w_eqMacRowS_L0_lk (v : w_eqMacRowS_L0_sh.T) (next : St → Option Res) (k : Ex → St → Option Res) : evalK te (orcOf (P := Try.prog) [w_eqMacRow_e]) (lorcOf []) Try.f162.ntmps w_eqMacRowS_ann (nthLoop (bodyOf Try.f162) 0 0) 0 (w_eqMacRowS_L0_sh.enc v) (endK ⟨[0, 1, 5], [], false, 0⟩ ⟨[4], [], false, 0⟩ next k) =
  w_eqMacRowS_L0_r.B v _ none (fun v' => next (w_eqMacRowS_L0_sh.enc v')) (fun w => outK w_eqMacRowS_L0_es k w) := by kernel_rfl
def w_eqMacRowS_L0_le : LE := leOf 0 w_eqMacRowS_L0_sh w_eqMacRowS_L0_es w_eqMacRowS_L0_r.step (fun v => w_eqMacRowS_L0_fu v.1.1.1 v.1.2.1.1 v.1.2.2.1.1)
theorem w_eqMacRowS_L0_ls (w0 : World) (mo : Mts) (I0 : Nat → Prop) (hmo : mo.length = 0) : LSem Try.prog (Sim w0 mo Try.f162.ntmps I0) (fun b s k => match Nat.beq 0 b with | true => w_eqMacRowS_L0_le.run s k | false => none) 0 (nthLoop (bodyOf Try.f162) 0 0) :=
  le_sem hmo (lorc := lorcOf []) (ann := w_eqMacRowS_ann) (keep := ⟨[0, 1, 5], [], false, 0⟩) (kout := ⟨[4], [], false, 0⟩) teFact mixFact (orcOf_ok _) (by kernel_rfl) (allLoops_of (bs := []) (by kernel_rfl) trivial) w_eqMacRowS_L0_r _ w_eqMacRowS_L0_lk
def w_eqMacRowS_L0_f (v0 : List MacRow) (v1 : List MacRow) (v2 : Int) (a : Unit) : Stp (Unit) ((Unit)) :=
  letK (α := Bool) (w_eqMacRow (v0.getD v2.toNat (Ty.zero .macRow)) (v1.getD v2.toNat (Ty.zero .macRow))) fun c1 =>
  bif (!c1) then
    .out (())
  else
  .next ()
theorem w_eqMacRowS_L0_st (v0 : List MacRow) (v1 : List MacRow) (v2 : Int) (hlo : 0 ≤ v2) (hhi : v2 < (v0.length : Int)) (hN : (v0.length : Int) ≤ 4611686018427387904) (hi0 : (v0.length : Int) ≤ (v1.length : Int)) : w_eqMacRowS_L0_r.step (w_eqMacRowS_L0_mk v0 v1 v2) = Stp.elim (fun a' : Unit => some (Sum.inl (w_eqMacRowS_L0_mk v0 v1 (v2 + 1)))) (fun w => some (Sum.inr ((fun p : Unit => Sum.inl (w_eqMacRowS_L0_mx0 false)) w))) (w_eqMacRowS_L0_f v0 v1 v2 ()) := by
  have hw : (IntKind.wrap .i64 (v2 + 1)) = v2 + 1 := wrap64 (by omega) (by omega)
  show w_eqMacRowS_L0_B v0 v1 v2 (Option (w_eqMacRowS_L0_sh.T ⊕ WT w_eqMacRowS_L0_es)) none (fun v' => some (Sum.inl v')) (fun w => some (Sum.inr w)) = _
  unfold w_eqMacRowS_L0_B w_eqMacRowS_L0_f
  exact bifG (by simp only [decide_eq_true_eq]; omega) (bifG (by (try simp only [Nat.ble_eq, Bool.and_eq_true, decide_eq_true_eq]); grind [maxSl, maxStr, toBytes_length, toInts_length, List.length_set, wrap64]) (bifG (by (try simp only [Nat.ble_eq, Bool.and_eq_true, decide_eq_true_eq]); grind [maxSl, maxStr, toBytes_length, toInts_length, List.length_set, wrap64]) (letT (f := (Stp.elim (fun a' : Unit => some (Sum.inl (w_eqMacRowS_L0_mk v0 v1 (v2 + 1)))) (fun w => some (Sum.inr ((fun p : Unit => Sum.inl (w_eqMacRowS_L0_mx0 false)) w))))) (fun c1 hc1 => bifT (f := (Stp.elim (fun a' : Unit => some (Sum.inl (w_eqMacRowS_L0_mk v0 v1 (v2 + 1)))) (fun w => some (Sum.inr ((fun p : Unit => Sum.inl (w_eqMacRowS_L0_mx0 false)) w))))) (fun b0 => rfl)
      (fun b0 => (by exact congrArg (fun z => some (Sum.inl (w_eqMacRowS_L0_mk v0 v1 z))) hw))))))
theorem w_eqMacRowS_L0_cl (v0 : List MacRow) (v1 : List MacRow) (v2 : Int) (h0 : 0 ≤ v2) (h1 : (v0.length : Int) ≤ 4611686018427387904) (h2 : (v0.length : Int) ≤ (v1.length : Int)) : loopF w_eqMacRowS_L0_r.step (w_eqMacRowS_L0_fu v0 v1 v2) (w_eqMacRowS_L0_mk v0 v1 v2) = some (Stp.elim (fun a => (fun i a => Sum.inr (w_eqMacRowS_L0_mx1 )) (v2 + 1 * (((Int.toNat ((v0.length : Int) - v2)) : Nat) : Int)) a) (fun p : Unit => Sum.inl (w_eqMacRowS_L0_mx0 false)) (forN (w_eqMacRowS_L0_f v0 v1) 1 (Int.toNat ((v0.length : Int) - v2)) v2 ())) :=
  forN_loop (step := w_eqMacRowS_L0_r.step) (mk := fun v2 a => w_eqMacRowS_L0_mk v0 v1 v2) (f := w_eqMacRowS_L0_f v0 v1) (e := (fun i a => Sum.inr (w_eqMacRowS_L0_mx1 ))) (emb := (fun p : Unit => Sum.inl (w_eqMacRowS_L0_mx0 false))) (st := 1) (Inv := fun v2 a => True) (Int.toNat ((v0.length : Int) - v2)) v2 () _ (Nat.lt_succ_self _) trivial
    (fun j a hj hv => ⟨w_eqMacRowS_L0_st v0 v1 (v2 + 1 * (j : Int)) (by omega) (by omega) (by omega) h2, fun _ _ => trivial⟩)
    (fun a hv => by
      show w_eqMacRowS_L0_B v0 v1 (v2 + 1 * (((Int.toNat ((v0.length : Int) - v2)) : Nat) : Int)) (Option (w_eqMacRowS_L0_sh.T ⊕ WT w_eqMacRowS_L0_es)) none (fun v' => some (Sum.inl v')) (fun w => some (Sum.inr w)) = _
      unfold w_eqMacRowS_L0_B
      exact bifN (by simp only [decide_eq_false_iff_not]; omega) rfl)
def w_eqMacRowS_N (x0 : List MacRow) (x1 : List MacRow) (γ : Type) (fail : γ) (k : Bool → γ) : γ :=
  bif ((x0.length : Int) != (x1.length : Int)) then
    k false
  else
  optK (loopF w_eqMacRowS_L0_r.step (w_eqMacRowS_L0_fu x0 x1 0) (w_eqMacRowS_L0_mk x0 x1 0)) fail fun w2 =>
    Sum.elim (fun w2 =>
      k w2.1.1.1)
    (fun w2 =>
      k true) w2
def w_eqMacRowS (x0 : List MacRow) (x1 : List MacRow) : Bool :=
  bif ((x0.length : Int) != (x1.length : Int)) then
    false
  else
  Stp.elim (fun a3 =>
    true)
    (fun p3 =>
      false)
    (forN (w_eqMacRowS_L0_f x0 x1) 1 (Int.toNat ((x0.length : Int) - 0)) 0 ())
theorem w_eqMacRowS_lk (x0 : List MacRow) (x1 : List MacRow) : evalFn te (orcOf (P := Try.prog) [w_eqMacRow_e]) (lorcOf [w_eqMacRowS_L0_le]) w_eqMacRowS_ann Try.f162 (pvs [.sc (.sl .macRow), .sc (.sl .macRow)] (x0, x1, ())) =
  w_eqMacRowS_N x0 x1 _ none (fun v => some [(false, [RC.c (.bool v)])]) := by kernel_rfl
theorem w_eqMacRowS_p (x0 : List MacRow) (x1 : List MacRow) (hx0 : x0.length ≤ 140737488355328) (hx0_e : ∀ y ∈ x0, ∀ c ∈ Ty.cells .macRow y, FactC c) (hx1 : x1.length ≤ 140737488355328) (hx1_e : ∀ y ∈ x1, ∀ c ∈ Ty.cells .macRow y, FactC c)  (γ : Type) (fail : γ) (k : Bool → γ) : w_eqMacRowS_N x0 x1 γ fail k = k (w_eqMacRowS x0 x1) := by
  unfold w_eqMacRowS_N w_eqMacRowS
  exact bifT (f := k) (fun b0 => rfl)
      (fun b0 => loopT (f := k) (w_eqMacRowS_L0_cl x0 x1 0 (by (try simp only [Nat.ble_eq, Bool.and_eq_true, decide_eq_true_eq, w_eqMacRowS_L0_mx0, w_eqMacRowS_L0_mx1]); grind [maxSl, maxStr, toBytes_length, toInts_length, List.length_set, wrap64]) (by (try simp only [Nat.ble_eq, Bool.and_eq_true, decide_eq_true_eq, w_eqMacRowS_L0_mx0, w_eqMacRowS_L0_mx1]); grind [maxSl, maxStr, toBytes_length, toInts_length, List.length_set, wrap64]) (by (try simp only [Nat.ble_eq, Bool.and_eq_true, decide_eq_true_eq, w_eqMacRowS_L0_mx0, w_eqMacRowS_L0_mx1]); grind [maxSl, maxStr, toBytes_length, toInts_length, List.length_set, wrap64])) (fun a3 => rfl)
      (fun p3 => rfl))
theorem w_eqMacRowS_c (x0 : List MacRow) (x1 : List MacRow)  : Con Try.prog 162 (pvs [.sc (.sl .macRow), .sc (.sl .macRow)] (x0, x1, ())) [rv (.sc .bool) [] (w_eqMacRowS x0 x1)] := by
  refine Con.of_facts (enters_of Try.func162 rfl (by kernel_rfl)) fun hf => ?_
  replace hf := factAt hf
  exact evalFn_conL teFact mixFact (orcOf_ok _) Try.func162 (by kernel_rfl) (bs := [0]) (by kernel_rfl) (by kernel_rfl) (fun w0 mo I0 hmo => ⟨lsem_of_lorc (w_eqMacRowS_L0_ls w0 mo I0 hmo) (by kernel_rfl), trivial⟩) ((w_eqMacRowS_lk x0 x1).trans (w_eqMacRowS_p x0 x1 ((hf 0 0 rfl rfl).len) (fun y hy => (hf 0 0 rfl rfl).elem hy) ((hf 1 0 rfl rfl).len) (fun y hy => (hf 1 0 rfl rfl).elem hy) _ _ _))
noncomputable def w_eqMacRowS_e : Ent1 Try.prog := entA 162 [.sc (.sl .macRow), .sc (.sl .macRow)] (fun x => (w_eqMacRowS x.1 x.2.1)) (fun v => [rv (.sc .bool) [] v]) (fun x => w_eqMacRowS_c x.1 x.2.1)


/-- impl.PutWord -/
def i_PutWord_ann : List (Nat × Keep) := [(0, ⟨[0, 5, 6], [], false, 0⟩)]
def i_PutWord_L0_sh : Sh := ⟨[(0, false, [.int .i64]), (5, false, [.own 0]), (6, false, [.int .i64])], [.arr .u8 false true]⟩
def i_PutWord_L0_es : List (Ex × Sh) := [(.exit 0, ⟨[(4, false, [.undef]), (5, false, [.own 0])], [.arr .u8 false true]⟩)]
def i_PutWord_L0_mk (v0 : Int) (v1 : Int) (v2 : List Int) : i_PutWord_L0_sh.T := (((v0, ()), (((), ()), ((v1, ()), ()))), (v2, ()))
def i_PutWord_L0_mx0 (y0 : List Int) : Sh.T ⟨[(4, false, [.undef]), (5, false, [.own 0])], [.arr .u8 false true]⟩ := ((((), ()), (((), ()), ())), (y0, ()))
def i_PutWord_L0_B (v0 : Int) (v1 : Int) (v2 : List Int) (γ : Type) (fail : γ) (next : i_PutWord_L0_sh.T → γ) (out : WT i_PutWord_L0_es → γ) : γ :=
  bif (decide (0 ≤ v1)) then
    bif ((decide (0 ≤ v1)) && (decide (v1 < (v2.length : Int)))) then
    next (i_PutWord_L0_mk (v0.fdiv 256) (IntKind.wrap .i64 (v1 - 1)) (v2.set v1.toNat (IntKind.wrap .u8 v0)))
    else fail
  else
  out (i_PutWord_L0_mx0 v2)
theorem i_PutWord_L0_par (v0 : Int) (v1 : Int) (v2 : List Int) (γ : Type) (fail : γ) (next : i_PutWord_L0_sh.T → γ) (out : WT i_PutWord_L0_es → γ) : i_PutWord_L0_B v0 v1 v2 γ fail next out = optK (i_PutWord_L0_B v0 v1 v2 _ none (fun v' => some (.inl v')) (fun w => some (.inr w))) fail (fun r => Sum.elim next out r) := by
  unfold i_PutWord_L0_B
  exact bifT (f := (fun o => optK o fail (fun r => Sum.elim next out r))) (fun _ => bifT (f := (fun o => optK o fail (fun r => Sum.elim next out r))) (fun _ => rfl) (fun _ => rfl))
      (fun _ => rfl)
def i_PutWord_L0_r : Round i_PutWord_L0_sh.T (WT i_PutWord_L0_es) where
  B v γ fail next out := i_PutWord_L0_B v.1.1.1 v.1.2.2.1.1 v.2.1 γ fail next out
  par v γ fail next out := i_PutWord_L0_par v.1.1.1 v.1.2.2.1.1 v.2.1 γ fail next out
def i_PutWord_L0_fu (v0 : Int) (v1 : Int) (v2 : List Int) : Nat := (Int.toNat (v1 - 0 + 1)) + 1
theorem i_PutWord_L0_lk (v : i_PutWord_L0_sh.T) (next : St → Option Res) (k : Ex → St → Option Res) : evalK te (orcOf (P := Try.prog) [i_within_e, i_WordOk_e]) (lorcOf []) Try.f178.ntmps i_PutWord_ann (nthLoop (bodyOf Try.f178) 0 0) 0 (i_PutWord_L0_sh.enc v) (endK ⟨[0, 5, 6], [], false, 0⟩ ⟨[4, 5], [], false, 0⟩ next k) =
  i_PutWord_L0_r.B v _ none (fun v' => next (i_PutWord_L0_sh.enc v')) (fun w => outK i_PutWord_L0_es k w) := by kernel_rfl
def i_PutWord_L0_le : LE := leOf 0 i_PutWord_L0_sh i_PutWord_L0_es i_PutWord_L0_r.step (fun v => i_PutWord_L0_fu v.1.1.1 v.1.2.2.1.1 v.2.1)
theorem i_PutWord_L0_ls (w0 : World) (mo : Mts) (I0 : Nat → Prop) (hmo : mo.length = 0) : LSem Try.prog (Sim w0 mo Try.f178.ntmps I0) (fun b s k => match Nat.beq 0 b with | true => i_PutWord_L0_le.run s k | false => none) 0 (nthLoop (bodyOf Try.f178) 0 0) :=
  le_sem hmo (lorc := lorcOf []) (ann := i_PutWord_ann) (keep := ⟨[0, 5, 6], [], false, 0⟩) (kout := ⟨[4, 5], [], false, 0⟩) teFact mixFact (orcOf_ok _) (by kernel_rfl) (allLoops_of (bs := []) (by kernel_rfl) trivial) i_PutWord_L0_r _ i_PutWord_L0_lk
def i_PutWord_L0_f  (v1 : Int) (a : Int × List Int) : Stp (Int × List Int) (Empty) :=
  .next ((a.1.fdiv 256), (a.2.set v1.toNat (IntKind.wrap .u8 a.1)))
theorem i_PutWord_L0_st (v0 : Int) (v1 : Int) (v2 : List Int) (hlo : 0 ≤ v1) (hhi : v1 ≤ 9223372036854775807) (hN : 0 ≤ 0) (hinv : v1 < (v2.length : Int)) : i_PutWord_L0_r.step (i_PutWord_L0_mk v0 v1 v2) = Stp.elim (fun a' : Int × List Int => some (Sum.inl (i_PutWord_L0_mk a'.1 (v1 + (-1)) a'.2))) (fun w => some (Sum.inr ((fun p : Empty => nomatch p) w))) (i_PutWord_L0_f  v1 (v0, v2)) := by
  have hw : (IntKind.wrap .i64 (v1 - 1)) = v1 + (-1) := wrap64 (by omega) (by omega)
  show i_PutWord_L0_B v0 v1 v2 (Option (i_PutWord_L0_sh.T ⊕ WT i_PutWord_L0_es)) none (fun v' => some (Sum.inl v')) (fun w => some (Sum.inr w)) = _
  unfold i_PutWord_L0_B i_PutWord_L0_f
  exact bifG (by simp only [decide_eq_true_eq]; omega) (bifG (by (try simp only [Nat.ble_eq, Bool.and_eq_true, decide_eq_true_eq]); grind [maxSl, maxStr, toBytes_length, toInts_length, List.length_set, wrap64]) ((by exact congrArg (fun z => some (Sum.inl (i_PutWord_L0_mk (v0.fdiv 256) z (v2.set v1.toNat (IntKind.wrap .u8 v0))))) hw)))
theorem i_PutWord_L0_cl (v0 : Int) (v1 : Int) (v2 : List Int) (h0 : v1 ≤ 9223372036854775807) (h1 : 0 ≤ 0) (h2 : v1 < (v2.length : Int)) : loopF i_PutWord_L0_r.step (i_PutWord_L0_fu v0 v1 v2) (i_PutWord_L0_mk v0 v1 v2) = some (Stp.elim (fun a => (fun i a => i_PutWord_L0_mx0 a.2) (v1 + (-1) * (((Int.toNat (v1 - 0 + 1)) : Nat) : Int)) a) (fun p : Empty => nomatch p) (forN (i_PutWord_L0_f ) (-1) (Int.toNat (v1 - 0 + 1)) v1 (v0, v2))) :=
  forN_loop (step := i_PutWord_L0_r.step) (mk := fun v1 a => i_PutWord_L0_mk a.1 v1 a.2) (f := i_PutWord_L0_f ) (e := (fun i a => i_PutWord_L0_mx0 a.2)) (emb := (fun p : Empty => nomatch p)) (st := (-1)) (Inv := fun v1 a => v1 < (a.2.length : Int)) (Int.toNat (v1 - 0 + 1)) v1 (v0, v2) _ (Nat.lt_succ_self _) h2
    (fun j a hj hv => ⟨i_PutWord_L0_st a.1 (v1 + (-1) * (j : Int)) a.2 (by omega) (by omega) (by omega) hv, by
      intro a' he
      grind [i_PutWord_L0_f, letK, Stp.elim, wrap64, List.length_set]⟩)
    (fun a hv => by
      show i_PutWord_L0_B a.1 (v1 + (-1) * (((Int.toNat (v1 - 0 + 1)) : Nat) : Int)) a.2 (Option (i_PutWord_L0_sh.T ⊕ WT i_PutWord_L0_es)) none (fun v' => some (Sum.inl v')) (fun w => some (Sum.inr w)) = _
      unfold i_PutWord_L0_B
      exact bifN (by simp only [decide_eq_false_iff_not]; omega) rfl)
theorem i_PutWord_L0_nx (v0 : Int) (v1 : Int) (v2 : List Int) (h0 : v1 ≤ 9223372036854775807) (h1 : 0 ≤ 0) (h2 : v1 < (v2.length : Int)) : ∀ a', forN (i_PutWord_L0_f ) (-1) (Int.toNat (v1 - 0 + 1)) v1 (v0, v2) = .next a' → (v1 + (-1) * (((Int.toNat (v1 - 0 + 1)) : Nat) : Int)) < (a'.2.length : Int) :=
  forN_inv (f := i_PutWord_L0_f ) (st := (-1)) (Inv := fun v1 a => v1 < (a.2.length : Int)) (Int.toNat (v1 - 0 + 1)) v1 (v0, v2) h2
    (fun j a hj hv => by
      intro a' he
      grind [i_PutWord_L0_f, letK, Stp.elim, wrap64, List.length_set])
def i_PutWord_N (x0 : Int) (x1 : Int) (γ : Type) (fail : γ) (k : Bytes → γ) : γ :=
  letK (α := Bool) (i_within x1 1 6) fun c1 =>
  bif (!c1) then
    k []
  else
  letK (α := Bool) (i_WordOk x0 (IntKind.wrap .i64 (8 * x1))) fun c2 =>
  bif (!c2) then
    k []
  else
  bif ((((decide (0 ≤ x1)) && (decide (x1 = x1))) && (decide (x1 * 1 ≤ (maxSl : Int)))) && (decide (x1 ≤ (maxSl : Int)))) then
  optK (loopF i_PutWord_L0_r.step (i_PutWord_L0_fu x0 (IntKind.wrap .i64 (x1 - 1)) (List.replicate x1.toNat 0)) (i_PutWord_L0_mk x0 (IntKind.wrap .i64 (x1 - 1)) (List.replicate x1.toNat 0))) fail fun w3 =>
    k (toBytes w3.2.1)
  else fail
def i_PutWord (x0 : Int) (x1 : Int) : Bytes :=
  letK (α := Bool) (i_within x1 1 6) fun c1 =>
  bif (!c1) then
    []
  else
  letK (α := Bool) (i_WordOk x0 (IntKind.wrap .i64 (8 * x1))) fun c2 =>
  bif (!c2) then
    []
  else
  Stp.elim (fun a4 =>
    (toBytes a4.2))
    (fun p : Empty => nomatch p)
    (forN (i_PutWord_L0_f) (-1) (Int.toNat ((IntKind.wrap .i64 (x1 - 1)) - 0 + 1)) (IntKind.wrap .i64 (x1 - 1)) (x0, (List.replicate x1.toNat 0)))
theorem i_PutWord_lk (x0 : Int) (x1 : Int) : evalFn te (orcOf (P := Try.prog) [i_within_e, i_WordOk_e]) (lorcOf [i_PutWord_L0_le]) i_PutWord_ann Try.f178 (pvs [.sc (.int .i64), .sc (.int .i64)] (x0, x1, ())) =
  i_PutWord_N x0 x1 _ none (fun v => some [(false, [RC.c (.str v)])]) := by kernel_rfl
theorem i_PutWord_p (x0 : Int) (x1 : Int) (hx0 : inK .i64 x0) (hx1 : inK .i64 x1)  (γ : Type) (fail : γ) (k : Bytes → γ) : i_PutWord_N x0 x1 γ fail k = k (i_PutWord x0 x1) := by
  unfold i_PutWord_N i_PutWord
  exact letT (f := k) (fun c1 hc1 => bifT (f := k) (fun b0 => rfl)
      (fun b0 => letT (f := k) (fun c2 hc2 => bifT (f := k) (fun b1 => rfl)
      (fun b1 => bifG (by (try simp only [Nat.ble_eq, Bool.and_eq_true, decide_eq_true_eq, i_PutWord_L0_mx0]); grind [maxSl, maxStr, toBytes_length, toInts_length, List.length_set, wrap64, i_within_eq, wrap64]) (loopX (f := k) (i_PutWord_L0_cl x0 (IntKind.wrap .i64 (x1 - 1)) (List.replicate x1.toNat 0) (by (try simp only [Nat.ble_eq, Bool.and_eq_true, decide_eq_true_eq, i_PutWord_L0_mx0]); grind [maxSl, maxStr, toBytes_length, toInts_length, List.length_set, wrap64, i_within_eq, wrap64]) (by (try simp only [Nat.ble_eq, Bool.and_eq_true, decide_eq_true_eq, i_PutWord_L0_mx0]); grind [maxSl, maxStr, toBytes_length, toInts_length, List.length_set, wrap64, i_within_eq, wrap64]) (by (try simp only [Nat.ble_eq, Bool.and_eq_true, decide_eq_true_eq, i_PutWord_L0_mx0]); grind [maxSl, maxStr, toBytes_length, toInts_length, List.length_set, wrap64, i_within_eq, wrap64])) (fun a4 ha4 => have ia4 := i_PutWord_L0_nx x0 (IntKind.wrap .i64 (x1 - 1)) (List.replicate x1.toNat 0) (by (try simp only [Nat.ble_eq, Bool.and_eq_true, decide_eq_true_eq, i_PutWord_L0_mx0]); grind [maxSl, maxStr, toBytes_length, toInts_length, List.length_set, wrap64, i_within_eq, wrap64]) (by (try simp only [Nat.ble_eq, Bool.and_eq_true, decide_eq_true_eq, i_PutWord_L0_mx0]); grind [maxSl, maxStr, toBytes_length, toInts_length, List.length_set, wrap64, i_within_eq, wrap64]) (by (try simp only [Nat.ble_eq, Bool.and_eq_true, decide_eq_true_eq, i_PutWord_L0_mx0]); grind [maxSl, maxStr, toBytes_length, toInts_length, List.length_set, wrap64, i_within_eq, wrap64]) _ ha4; rfl)
      (fun p : Empty => nomatch p))))))
theorem i_PutWord_c (x0 : Int) (x1 : Int)  : Con Try.prog 178 (pvs [.sc (.int .i64), .sc (.int .i64)] (x0, x1, ())) [rv (.sc .str) [] (i_PutWord x0 x1)] := by
  refine Con.of_facts (enters_of Try.func178 rfl (by kernel_rfl)) fun hf => ?_
  replace hf := factAt hf
  exact evalFn_conL teFact mixFact (orcOf_ok _) Try.func178 (by kernel_rfl) (bs := [0]) (by kernel_rfl) (by kernel_rfl) (fun w0 mo I0 hmo => ⟨lsem_of_lorc (i_PutWord_L0_ls w0 mo I0 hmo) (by kernel_rfl), trivial⟩) ((i_PutWord_lk x0 x1).trans (i_PutWord_p x0 x1 ((hf 0 0 rfl rfl).rng) ((hf 1 0 rfl rfl).rng) _ _ _))
noncomputable def i_PutWord_e : Ent1 Try.prog := entA 178 [.sc (.int .i64), .sc (.int .i64)] (fun x => (i_PutWord x.1 x.2.1)) (fun v => [rv (.sc .str) [] v]) (fun x => i_PutWord_c x.1 x.2.1)

theorem i_PutWord_len (x0 x1 : Int) : (i_PutWord x0 x1).length ≤ 6 := by
  unfold i_PutWord
  cases hw : i_within x1 1 6 with
  | false => simp [letK]
  | true =>
    rw [i_within_eq] at hw
    simp only [Bool.and_eq_true, decide_eq_true_eq] at hw
    simp only [letK, Bool.not_true, cond_false]
    cases i_WordOk x0 (IntKind.wrap .i64 (8 * x1)) with
    | false => simp
    | true =>
      simp only [Bool.not_true, cond_false]
      cases hf : forN (i_PutWord_L0_f) (-1) (Int.toNat ((IntKind.wrap .i64 (x1 - 1)) - 0 + 1)) (IntKind.wrap .i64 (x1 - 1)) (x0, (List.replicate x1.toNat 0)) with
      | out p => nomatch p
      | next a =>
        have := forN_inv (Inv := fun _ a => a.2.length = x1.toNat) _ _ _ (by simp) (fun j a _ h a' he => by unfold i_PutWord_L0_f at he; cases he; simpa using h) a hf
        simp only [Stp.elim, toBytes_length]
        omega


/-- laws.szPieceS -/
def w_szPieceS_ann : List (Nat × Keep) := [(0, ⟨[0, 1, 5], [], false, 0⟩)]
def w_szPieceS_L0_sh : Sh := ⟨[(0, false, [.sl .arg .piec]), (1, false, [.int .i64]), (5, false, [.int .i64])], []⟩
def w_szPieceS_L0_es : List (Ex × Sh) := [(.ret, ⟨[(1, false, [.int .i64]), (4, false, [.int .i64])], []⟩), (.exit 0, ⟨[(1, false, [.int .i64]), (4, false, [.undef])], []⟩)]
def w_szPieceS_L0_mk (v0 : List Piec) (v1 : Int) (v2 : Int) : w_szPieceS_L0_sh.T := (((v0, ()), ((v1, ()), ((v2, ()), ()))), ())
def w_szPieceS_L0_mx0 (y0 : Int) (y1 : Int) : Sh.T ⟨[(1, false, [.int .i64]), (4, false, [.int .i64])], []⟩ := (((y0, ()), ((y1, ()), ())), ())
def w_szPieceS_L0_mx1 (y0 : Int) : Sh.T ⟨[(1, false, [.int .i64]), (4, false, [.undef])], []⟩ := (((y0, ()), (((), ()), ())), ())
def w_szPieceS_L0_B (v0 : List Piec) (v1 : Int) (v2 : Int) (γ : Type) (fail : γ) (next : w_szPieceS_L0_sh.T → γ) (out : WT w_szPieceS_L0_es → γ) : γ :=
  bif (decide (v2 < (v0.length : Int))) then
    bif ((decide (0 ≤ v2)) && (decide (v2 < (v0.length : Int)))) then
    letK (α := Int) (w_szPiece (v0.getD v2.toNat (Ty.zero .piec)) v1) fun c1 =>
    bif (decide (c1 < 0)) then
      out (Sum.inl (w_szPieceS_L0_mx0 c1 (-1)))
    else
    next (w_szPieceS_L0_mk v0 c1 (IntKind.wrap .i64 (v2 + 1)))
    else fail
  else
  out (Sum.inr (w_szPieceS_L0_mx1 v1))
theorem w_szPieceS_L0_par (v0 : List Piec) (v1 : Int) (v2 : Int) (γ : Type) (fail : γ) (next : w_szPieceS_L0_sh.T → γ) (out : WT w_szPieceS_L0_es → γ) : w_szPieceS_L0_B v0 v1 v2 γ fail next out = optK (w_szPieceS_L0_B v0 v1 v2 _ none (fun v' => some (.inl v')) (fun w => some (.inr w))) fail (fun r => Sum.elim next out r) := by
  unfold w_szPieceS_L0_B
  exact bifT (f := (fun o => optK o fail (fun r => Sum.elim next out r))) (fun _ => bifT (f := (fun o => optK o fail (fun r => Sum.elim next out r))) (fun _ => letT (f := (fun o => optK o fail (fun r => Sum.elim next out r))) (fun c1 _ => bifT (f := (fun o => optK o fail (fun r => Sum.elim next out r))) (fun _ => rfl)
      (fun _ => rfl))) (fun _ => rfl))
      (fun _ => rfl)
def w_szPieceS_L0_r : Round w_szPieceS_L0_sh.T (WT w_szPieceS_L0_es) where
  B v γ fail next out := w_szPieceS_L0_B v.1.1.1 v.1.2.1.1 v.1.2.2.1.1 γ fail next out
  par v γ fail next out := w_szPieceS_L0_par v.1.1.1 v.1.2.1.1 v.1.2.2.1.1 γ fail next out
def w_szPieceS_L0_fu (v0 : List Piec) (v1 : Int) (v2 : Int) : Nat := (Int.toNat ((v0.length : Int) - v2)) + 1
theorem w_szPieceS_L0_lk (v : w_szPieceS_L0_sh.T) (next : St → Option Res) (k : Ex → St → Option Res) : evalK te (orcOf (P := Try.prog) [w_szPiece_e]) (lorcOf []) Try.f201.ntmps w_szPieceS_ann (nthLoop (bodyOf Try.f201) 0 0) 0 (w_szPieceS_L0_sh.enc v) (endK ⟨[0, 1, 5], [], false, 0⟩ ⟨[1, 4], [], false, 0⟩ next k) =
  w_szPieceS_L0_r.B v _ none (fun v' => next (w_szPieceS_L0_sh.enc v')) (fun w => outK w_szPieceS_L0_es k w) := by kernel_rfl
def w_szPieceS_L0_le : LE := leOf 0 w_szPieceS_L0_sh w_szPieceS_L0_es w_szPieceS_L0_r.step (fun v => w_szPieceS_L0_fu v.1.1.1 v.1.2.1.1 v.1.2.2.1.1)
theorem w_szPieceS_L0_ls (w0 : World) (mo : Mts) (I0 : Nat → Prop) (hmo : mo.length = 0) : LSem Try.prog (Sim w0 mo Try.f201.ntmps I0) (fun b s k => match Nat.beq 0 b with | true => w_szPieceS_L0_le.run s k | false => none) 0 (nthLoop (bodyOf Try.f201) 0 0) :=
  le_sem hmo (lorc := lorcOf []) (ann := w_szPieceS_ann) (keep := ⟨[0, 1, 5], [], false, 0⟩) (kout := ⟨[1, 4], [], false, 0⟩) teFact mixFact (orcOf_ok _) (by kernel_rfl) (allLoops_of (bs := []) (by kernel_rfl) trivial) w_szPieceS_L0_r _ w_szPieceS_L0_lk
def w_szPieceS_L0_f (v0 : List Piec) (v2 : Int) (a : Int) : Stp (Int) ((Int)) :=
  letK (α := Int) (w_szPiece (v0.getD v2.toNat (Ty.zero .piec)) a) fun c1 =>
  bif (decide (c1 < 0)) then
    .out (c1)
  else
  .next c1
theorem w_szPieceS_L0_st (v0 : List Piec) (v1 : Int) (v2 : Int) (hlo : 0 ≤ v2) (hhi : v2 < (v0.length : Int)) (hN : (v0.length : Int) ≤ 4611686018427387904) : w_szPieceS_L0_r.step (w_szPieceS_L0_mk v0 v1 v2) = Stp.elim (fun a' : Int => some (Sum.inl (w_szPieceS_L0_mk v0 a' (v2 + 1)))) (fun w => some (Sum.inr ((fun p : Int => Sum.inl (w_szPieceS_L0_mx0 p (-1))) w))) (w_szPieceS_L0_f v0 v2 v1) := by
  have hw : (IntKind.wrap .i64 (v2 + 1)) = v2 + 1 := wrap64 (by omega) (by omega)
  show w_szPieceS_L0_B v0 v1 v2 (Option (w_szPieceS_L0_sh.T ⊕ WT w_szPieceS_L0_es)) none (fun v' => some (Sum.inl v')) (fun w => some (Sum.inr w)) = _
  unfold w_szPieceS_L0_B w_szPieceS_L0_f
  exact bifG (by simp only [decide_eq_true_eq]; omega) (bifG (by (try simp only [Nat.ble_eq, Bool.and_eq_true, decide_eq_true_eq]); grind [maxSl, maxStr, toBytes_length, toInts_length, List.length_set, wrap64, w_szPiece_sm]) (letT (f := (Stp.elim (fun a' : Int => some (Sum.inl (w_szPieceS_L0_mk v0 a' (v2 + 1)))) (fun w => some (Sum.inr ((fun p : Int => Sum.inl (w_szPieceS_L0_mx0 p (-1))) w))))) (fun c1 hc1 => bifT (f := (Stp.elim (fun a' : Int => some (Sum.inl (w_szPieceS_L0_mk v0 a' (v2 + 1)))) (fun w => some (Sum.inr ((fun p : Int => Sum.inl (w_szPieceS_L0_mx0 p (-1))) w))))) (fun b0 => rfl)
      (fun b0 => (by exact congrArg (fun z => some (Sum.inl (w_szPieceS_L0_mk v0 c1 z))) hw)))))
theorem w_szPieceS_L0_cl (v0 : List Piec) (v1 : Int) (v2 : Int) (h0 : 0 ≤ v2) (h1 : (v0.length : Int) ≤ 4611686018427387904) : loopF w_szPieceS_L0_r.step (w_szPieceS_L0_fu v0 v1 v2) (w_szPieceS_L0_mk v0 v1 v2) = some (Stp.elim (fun a => (fun i a => Sum.inr (w_szPieceS_L0_mx1 a)) (v2 + 1 * (((Int.toNat ((v0.length : Int) - v2)) : Nat) : Int)) a) (fun p : Int => Sum.inl (w_szPieceS_L0_mx0 p (-1))) (forN (w_szPieceS_L0_f v0) 1 (Int.toNat ((v0.length : Int) - v2)) v2 v1)) :=
  forN_loop (step := w_szPieceS_L0_r.step) (mk := fun v2 a => w_szPieceS_L0_mk v0 a v2) (f := w_szPieceS_L0_f v0) (e := (fun i a => Sum.inr (w_szPieceS_L0_mx1 a))) (emb := (fun p : Int => Sum.inl (w_szPieceS_L0_mx0 p (-1)))) (st := 1) (Inv := fun v2 a => True) (Int.toNat ((v0.length : Int) - v2)) v2 v1 _ (Nat.lt_succ_self _) trivial
    (fun j a hj hv => ⟨w_szPieceS_L0_st v0 a (v2 + 1 * (j : Int)) (by omega) (by omega) (by omega), fun _ _ => trivial⟩)
    (fun a hv => by
      show w_szPieceS_L0_B v0 a (v2 + 1 * (((Int.toNat ((v0.length : Int) - v2)) : Nat) : Int)) (Option (w_szPieceS_L0_sh.T ⊕ WT w_szPieceS_L0_es)) none (fun v' => some (Sum.inl v')) (fun w => some (Sum.inr w)) = _
      unfold w_szPieceS_L0_B
      exact bifN (by simp only [decide_eq_false_iff_not]; omega) rfl)
def w_szPieceS_N (x0 : List Piec) (x1 : Int) (γ : Type) (fail : γ) (k : Int → γ) : γ :=
  bif (decide ((IntKind.wrap .i64 (x1 - (x0.length : Int))) < 0)) then
    k (-1)
  else
  optK (loopF w_szPieceS_L0_r.step (w_szPieceS_L0_fu x0 (IntKind.wrap .i64 (x1 - (x0.length : Int))) 0) (w_szPieceS_L0_mk x0 (IntKind.wrap .i64 (x1 - (x0.length : Int))) 0)) fail fun w2 =>
    Sum.elim (fun w2 =>
      k w2.1.2.1.1)
    (fun w2 =>
      k w2.1.1.1) w2
def w_szPieceS (x0 : List Piec) (x1 : Int) : Int :=
  bif (decide ((IntKind.wrap .i64 (x1 - (x0.length : Int))) < 0)) then
    (-1)
  else
  Stp.elim (fun a3 =>
    a3)
    (fun p3 =>
      (-1))
    (forN (w_szPieceS_L0_f x0) 1 (Int.toNat ((x0.length : Int) - 0)) 0 (IntKind.wrap .i64 (x1 - (x0.length : Int))))
theorem w_szPieceS_lk (x0 : List Piec) (x1 : Int) : evalFn te (orcOf (P := Try.prog) [w_szPiece_e]) (lorcOf [w_szPieceS_L0_le]) w_szPieceS_ann Try.f201 (pvs [.sc (.sl .piec), .sc (.int .i64)] (x0, x1, ())) =
  w_szPieceS_N x0 x1 _ none (fun v => some [(false, [RC.c (.int .i64 v)])]) := by kernel_rfl
theorem w_szPieceS_p (x0 : List Piec) (x1 : Int) (hx0 : x0.length ≤ 140737488355328) (hx0_e : ∀ y ∈ x0, ∀ c ∈ Ty.cells .piec y, FactC c) (hx1 : inK .i64 x1)  (γ : Type) (fail : γ) (k : Int → γ) : w_szPieceS_N x0 x1 γ fail k = k (w_szPieceS x0 x1) := by
  unfold w_szPieceS_N w_szPieceS
  exact bifT (f := k) (fun b0 => rfl)
      (fun b0 => loopT (f := k) (w_szPieceS_L0_cl x0 (IntKind.wrap .i64 (x1 - (x0.length : Int))) 0 (by (try simp only [Nat.ble_eq, Bool.and_eq_true, decide_eq_true_eq, w_szPieceS_L0_mx0, w_szPieceS_L0_mx1]); grind [maxSl, maxStr, toBytes_length, toInts_length, List.length_set, wrap64, w_szPiece_sm]) (by (try simp only [Nat.ble_eq, Bool.and_eq_true, decide_eq_true_eq, w_szPieceS_L0_mx0, w_szPieceS_L0_mx1]); grind [maxSl, maxStr, toBytes_length, toInts_length, List.length_set, wrap64, w_szPiece_sm])) (fun a3 => rfl)
      (fun p3 => rfl))
theorem w_szPieceS_c (x0 : List Piec) (x1 : Int)  : Con Try.prog 201 (pvs [.sc (.sl .piec), .sc (.int .i64)] (x0, x1, ())) [rv (.sc (.int .i64)) [] (w_szPieceS x0 x1)] := by
  refine Con.of_facts (enters_of Try.func201 rfl (by kernel_rfl)) fun hf => ?_
  replace hf := factAt hf
  exact evalFn_conL teFact mixFact (orcOf_ok _) Try.func201 (by kernel_rfl) (bs := [0]) (by kernel_rfl) (by kernel_rfl) (fun w0 mo I0 hmo => ⟨lsem_of_lorc (w_szPieceS_L0_ls w0 mo I0 hmo) (by kernel_rfl), trivial⟩) ((w_szPieceS_lk x0 x1).trans (w_szPieceS_p x0 x1 ((hf 0 0 rfl rfl).len) (fun y hy => (hf 0 0 rfl rfl).elem hy) ((hf 1 0 rfl rfl).rng) _ _ _))
noncomputable def w_szPieceS_e : Ent1 Try.prog := entA 201 [.sc (.sl .piec), .sc (.int .i64)] (fun x => (w_szPieceS x.1 x.2.1)) (fun v => [rv (.sc (.int .i64)) [] v]) (fun x => w_szPieceS_c x.1 x.2.1)


/-- laws.toPieceS -/
def w_toPieceS_ann : List (Nat × Keep) := [(0, ⟨[0, 3, 4], [], false, 0⟩)]
def w_toPieceS_L0_sh : Sh := ⟨[(0, false, [.sl .arg .piec]), (3, false, [.own 0]), (4, false, [.int .i64])], [.arr .piec false true]⟩
def w_toPieceS_L0_es : List (Ex × Sh) := [(.exit 0, ⟨[(2, false, [.undef]), (3, false, [.own 0])], [.arr .piec false true]⟩)]
def w_toPieceS_L0_mk (v0 : List Piec) (v1 : Int) (v2 : List Piec) : w_toPieceS_L0_sh.T := (((v0, ()), (((), ()), ((v1, ()), ()))), (v2, ()))
def w_toPieceS_L0_mx0 (y0 : List Piec) : Sh.T ⟨[(2, false, [.undef]), (3, false, [.own 0])], [.arr .piec false true]⟩ := ((((), ()), (((), ()), ())), (y0, ()))
def w_toPieceS_L0_B (v0 : List Piec) (v1 : Int) (v2 : List Piec) (γ : Type) (fail : γ) (next : w_toPieceS_L0_sh.T → γ) (out : WT w_toPieceS_L0_es → γ) : γ :=
  bif (decide (v1 < (v0.length : Int))) then
    bif ((decide (0 ≤ v1)) && (decide (v1 < (v0.length : Int)))) then
    letK (α := Piec) (w_toPiece (v0.getD v1.toNat (Ty.zero .piec))) fun c1 =>
    bif ((decide (0 ≤ v1)) && (decide (v1 < (v2.length : Int)))) then
    next (w_toPieceS_L0_mk v0 (IntKind.wrap .i64 (v1 + 1)) (v2.set v1.toNat c1))
    else fail
    else fail
  else
  out (w_toPieceS_L0_mx0 v2)
theorem w_toPieceS_L0_par (v0 : List Piec) (v1 : Int) (v2 : List Piec) (γ : Type) (fail : γ) (next : w_toPieceS_L0_sh.T → γ) (out : WT w_toPieceS_L0_es → γ) : w_toPieceS_L0_B v0 v1 v2 γ fail next out = optK (w_toPieceS_L0_B v0 v1 v2 _ none (fun v' => some (.inl v')) (fun w => some (.inr w))) fail (fun r => Sum.elim next out r) := by
  unfold w_toPieceS_L0_B
  exact bifT (f := (fun o => optK o fail (fun r => Sum.elim next out r))) (fun _ => bifT (f := (fun o => optK o fail (fun r => Sum.elim next out r))) (fun _ => letT (f := (fun o => optK o fail (fun r => Sum.elim next out r))) (fun c1 _ => bifT (f := (fun o => optK o fail (fun r => Sum.elim next out r))) (fun _ => rfl) (fun _ => rfl))) (fun _ => rfl))
      (fun _ => rfl)
def w_toPieceS_L0_r : Round w_toPieceS_L0_sh.T (WT w_toPieceS_L0_es) where
  B v γ fail next out := w_toPieceS_L0_B v.1.1.1 v.1.2.2.1.1 v.2.1 γ fail next out
  par v γ fail next out := w_toPieceS_L0_par v.1.1.1 v.1.2.2.1.1 v.2.1 γ fail next out
def w_toPieceS_L0_fu (v0 : List Piec) (v1 : Int) (v2 : List Piec) : Nat := (Int.toNat ((v0.length : Int) - v1)) + 1
theorem w_toPieceS_L0_lk (v : w_toPieceS_L0_sh.T) (next : St → Option Res) (k : Ex → St → Option Res) : evalK te (orcOf (P := Try.prog) [w_toPiece_e]) (lorcOf []) Try.f202.ntmps w_toPieceS_ann (nthLoop (bodyOf Try.f202) 0 0) 0 (w_toPieceS_L0_sh.enc v) (endK ⟨[0, 3, 4], [], false, 0⟩ ⟨[2, 3], [], false, 0⟩ next k) =
  w_toPieceS_L0_r.B v _ none (fun v' => next (w_toPieceS_L0_sh.enc v')) (fun w => outK w_toPieceS_L0_es k w) := by kernel_rfl
def w_toPieceS_L0_le : LE := leOf 0 w_toPieceS_L0_sh w_toPieceS_L0_es w_toPieceS_L0_r.step (fun v => w_toPieceS_L0_fu v.1.1.1 v.1.2.2.1.1 v.2.1)
theorem w_toPieceS_L0_ls (w0 : World) (mo : Mts) (I0 : Nat → Prop) (hmo : mo.length = 0) : LSem Try.prog (Sim w0 mo Try.f202.ntmps I0) (fun b s k => match Nat.beq 0 b with | true => w_toPieceS_L0_le.run s k | false => none) 0 (nthLoop (bodyOf Try.f202) 0 0) :=
  le_sem hmo (lorc := lorcOf []) (ann := w_toPieceS_ann) (keep := ⟨[0, 3, 4], [], false, 0⟩) (kout := ⟨[2, 3], [], false, 0⟩) teFact mixFact (orcOf_ok _) (by kernel_rfl) (allLoops_of (bs := []) (by kernel_rfl) trivial) w_toPieceS_L0_r _ w_toPieceS_L0_lk
def w_toPieceS_L0_f (v0 : List Piec) (v1 : Int) (a : List Piec) : Stp (List Piec) (Empty) :=
  letK (α := Piec) (w_toPiece (v0.getD v1.toNat (Ty.zero .piec))) fun c1 =>
  .next (a.set v1.toNat c1)
theorem w_toPieceS_L0_st (v0 : List Piec) (v1 : Int) (v2 : List Piec) (hlo : 0 ≤ v1) (hhi : v1 < (v0.length : Int)) (hN : (v0.length : Int) ≤ 4611686018427387904) (hinv : (v0.length : Int) ≤ (v2.length : Int)) : w_toPieceS_L0_r.step (w_toPieceS_L0_mk v0 v1 v2) = Stp.elim (fun a' : List Piec => some (Sum.inl (w_toPieceS_L0_mk v0 (v1 + 1) a'))) (fun w => some (Sum.inr ((fun p : Empty => nomatch p) w))) (w_toPieceS_L0_f v0 v1 v2) := by
  have hw : (IntKind.wrap .i64 (v1 + 1)) = v1 + 1 := wrap64 (by omega) (by omega)
  show w_toPieceS_L0_B v0 v1 v2 (Option (w_toPieceS_L0_sh.T ⊕ WT w_toPieceS_L0_es)) none (fun v' => some (Sum.inl v')) (fun w => some (Sum.inr w)) = _
  unfold w_toPieceS_L0_B w_toPieceS_L0_f
  exact bifG (by simp only [decide_eq_true_eq]; omega) (bifG (by (try simp only [Nat.ble_eq, Bool.and_eq_true, decide_eq_true_eq]); grind [maxSl, maxStr, toBytes_length, toInts_length, List.length_set, wrap64]) (letT (f := (Stp.elim (fun a' : List Piec => some (Sum.inl (w_toPieceS_L0_mk v0 (v1 + 1) a'))) (fun w => some (Sum.inr ((fun p : Empty => nomatch p) w))))) (fun c1 hc1 => bifG (by (try simp only [Nat.ble_eq, Bool.and_eq_true, decide_eq_true_eq]); grind [maxSl, maxStr, toBytes_length, toInts_length, List.length_set, wrap64]) ((by exact congrArg (fun z => some (Sum.inl (w_toPieceS_L0_mk v0 z (v2.set v1.toNat c1)))) hw)))))
theorem w_toPieceS_L0_cl (v0 : List Piec) (v1 : Int) (v2 : List Piec) (h0 : 0 ≤ v1) (h1 : (v0.length : Int) ≤ 4611686018427387904) (h2 : (v0.length : Int) ≤ (v2.length : Int)) : loopF w_toPieceS_L0_r.step (w_toPieceS_L0_fu v0 v1 v2) (w_toPieceS_L0_mk v0 v1 v2) = some (Stp.elim (fun a => (fun i a => w_toPieceS_L0_mx0 a) (v1 + 1 * (((Int.toNat ((v0.length : Int) - v1)) : Nat) : Int)) a) (fun p : Empty => nomatch p) (forN (w_toPieceS_L0_f v0) 1 (Int.toNat ((v0.length : Int) - v1)) v1 v2)) :=
  forN_loop (step := w_toPieceS_L0_r.step) (mk := fun v1 a => w_toPieceS_L0_mk v0 v1 a) (f := w_toPieceS_L0_f v0) (e := (fun i a => w_toPieceS_L0_mx0 a)) (emb := (fun p : Empty => nomatch p)) (st := 1) (Inv := fun v1 a => (v0.length : Int) ≤ (a.length : Int)) (Int.toNat ((v0.length : Int) - v1)) v1 v2 _ (Nat.lt_succ_self _) h2
    (fun j a hj hv => ⟨w_toPieceS_L0_st v0 (v1 + 1 * (j : Int)) a (by omega) (by omega) (by omega) hv, by
      intro a' he
      grind [w_toPieceS_L0_f, letK, Stp.elim, wrap64, List.length_set]⟩)
    (fun a hv => by
      show w_toPieceS_L0_B v0 (v1 + 1 * (((Int.toNat ((v0.length : Int) - v1)) : Nat) : Int)) a (Option (w_toPieceS_L0_sh.T ⊕ WT w_toPieceS_L0_es)) none (fun v' => some (Sum.inl v')) (fun w => some (Sum.inr w)) = _
      unfold w_toPieceS_L0_B
      exact bifN (by simp only [decide_eq_false_iff_not]; omega) rfl)
theorem w_toPieceS_L0_nx (v0 : List Piec) (v1 : Int) (v2 : List Piec) (h0 : 0 ≤ v1) (h1 : (v0.length : Int) ≤ 4611686018427387904) (h2 : (v0.length : Int) ≤ (v2.length : Int)) : ∀ a', forN (w_toPieceS_L0_f v0) 1 (Int.toNat ((v0.length : Int) - v1)) v1 v2 = .next a' → (v0.length : Int) ≤ (a'.length : Int) :=
  forN_inv (f := w_toPieceS_L0_f v0) (st := 1) (Inv := fun v1 a => (v0.length : Int) ≤ (a.length : Int)) (Int.toNat ((v0.length : Int) - v1)) v1 v2 h2
    (fun j a hj hv => by
      intro a' he
      grind [w_toPieceS_L0_f, letK, Stp.elim, wrap64, List.length_set])
def w_toPieceS_N (x0 : List Piec) (γ : Type) (fail : γ) (k : List Piec → γ) : γ :=
  bif ((((decide (0 ≤ (x0.length : Int))) && (decide ((x0.length : Int) = (x0.length : Int)))) && (decide ((x0.length : Int) * 24 ≤ (maxSl : Int)))) && (decide ((x0.length : Int) ≤ (maxSl : Int)))) then
  optK (loopF w_toPieceS_L0_r.step (w_toPieceS_L0_fu x0 0 (List.replicate ((x0.length : Int).toNat) (⟨0, []⟩ : Piec))) (w_toPieceS_L0_mk x0 0 (List.replicate ((x0.length : Int).toNat) (⟨0, []⟩ : Piec)))) fail fun w2 =>
    k w2.2.1
  else fail
def w_toPieceS (x0 : List Piec) : List Piec :=
  Stp.elim (fun a3 =>
    a3)
    (fun p : Empty => nomatch p)
    (forN (w_toPieceS_L0_f x0) 1 (Int.toNat ((x0.length : Int) - 0)) 0 (List.replicate ((x0.length : Int).toNat) (⟨0, []⟩ : Piec)))
theorem w_toPieceS_lk (x0 : List Piec) : evalFn te (orcOf (P := Try.prog) [w_toPiece_e]) (lorcOf [w_toPieceS_L0_le]) w_toPieceS_ann Try.f202 (pvs [.sc (.sl .piec)] (x0, ())) =
  w_toPieceS_N x0 _ none (fun v => some [(false, [RC.own true .piec v])]) := by kernel_rfl
theorem w_toPieceS_p (x0 : List Piec) (hx0 : x0.length ≤ 140737488355328) (hx0_e : ∀ y ∈ x0, ∀ c ∈ Ty.cells .piec y, FactC c) (hp : x0.length ≤ 4294967296) (γ : Type) (fail : γ) (k : List Piec → γ) : w_toPieceS_N x0 γ fail k = k (w_toPieceS x0) := by
  unfold w_toPieceS_N w_toPieceS
  exact bifG (by (try simp only [Nat.ble_eq, Bool.and_eq_true, decide_eq_true_eq, w_toPieceS_L0_mx0]); grind [maxSl, maxStr, toBytes_length, toInts_length, List.length_set, wrap64]) (loopX (f := k) (w_toPieceS_L0_cl x0 0 (List.replicate ((x0.length : Int).toNat) (⟨0, []⟩ : Piec)) (by (try simp only [Nat.ble_eq, Bool.and_eq_true, decide_eq_true_eq, w_toPieceS_L0_mx0]); grind [maxSl, maxStr, toBytes_length, toInts_length, List.length_set, wrap64]) (by (try simp only [Nat.ble_eq, Bool.and_eq_true, decide_eq_true_eq, w_toPieceS_L0_mx0]); grind [maxSl, maxStr, toBytes_length, toInts_length, List.length_set, wrap64]) (by (try simp only [Nat.ble_eq, Bool.and_eq_true, decide_eq_true_eq, w_toPieceS_L0_mx0]); grind [maxSl, maxStr, toBytes_length, toInts_length, List.length_set, wrap64])) (fun a3 ha3 => have ia3 := w_toPieceS_L0_nx x0 0 (List.replicate ((x0.length : Int).toNat) (⟨0, []⟩ : Piec)) (by (try simp only [Nat.ble_eq, Bool.and_eq_true, decide_eq_true_eq, w_toPieceS_L0_mx0]); grind [maxSl, maxStr, toBytes_length, toInts_length, List.length_set, wrap64]) (by (try simp only [Nat.ble_eq, Bool.and_eq_true, decide_eq_true_eq, w_toPieceS_L0_mx0]); grind [maxSl, maxStr, toBytes_length, toInts_length, List.length_set, wrap64]) (by (try simp only [Nat.ble_eq, Bool.and_eq_true, decide_eq_true_eq, w_toPieceS_L0_mx0]); grind [maxSl, maxStr, toBytes_length, toInts_length, List.length_set, wrap64]) _ ha3; rfl)
      (fun p : Empty => nomatch p))
theorem w_toPieceS_c (x0 : List Piec) (hp : x0.length ≤ 4294967296) : Con Try.prog 202 (pvs [.sc (.sl .piec)] (x0, ())) [rv (.sc (.sl .piec)) [.o true] (w_toPieceS x0)] := by
  refine Con.of_facts (enters_of Try.func202 rfl (by kernel_rfl)) fun hf => ?_
  replace hf := factAt hf
  exact evalFn_conL teFact mixFact (orcOf_ok _) Try.func202 (by kernel_rfl) (bs := [0]) (by kernel_rfl) (by kernel_rfl) (fun w0 mo I0 hmo => ⟨lsem_of_lorc (w_toPieceS_L0_ls w0 mo I0 hmo) (by kernel_rfl), trivial⟩) ((w_toPieceS_lk x0).trans (w_toPieceS_p x0 ((hf 0 0 rfl rfl).len) (fun y hy => (hf 0 0 rfl rfl).elem hy) hp _ _ _))
noncomputable def w_toPieceS_e : Ent1 Try.prog := entP 202 [.sc (.sl .piec)] (fun x => (decide (x.1.length ≤ 4294967296))) (fun x => (w_toPieceS x.1)) (fun v => [rv (.sc (.sl .piec)) [.o true] v]) (fun x hx => w_toPieceS_c x.1 (of_decide_eq_true hx))


/-- laws.eqPieceS -/
def w_eqPieceS_ann : List (Nat × Keep) := [(0, ⟨[0, 1, 5], [], false, 0⟩)]
def w_eqPieceS_L0_sh : Sh := ⟨[(0, false, [.sl .arg .piec]), (1, false, [.sl .arg .piec]), (5, false, [.int .i64])], []⟩
def w_eqPieceS_L0_es : List (Ex × Sh) := [(.ret, ⟨[(4, false, [.bool])], []⟩), (.exit 0, ⟨[(4, false, [.undef])], []⟩)]
def w_eqPieceS_L0_mk (v0 : List Piec) (v1 : List Piec) (v2 : Int) : w_eqPieceS_L0_sh.T := (((v0, ()), ((v1, ()), ((v2, ()), ()))), ())
def w_eqPieceS_L0_mx0 (y0 : Bool) : Sh.T ⟨[(4, false, [.bool])], []⟩ := (((y0, ()), ()), ())
def w_eqPieceS_L0_mx1  : Sh.T ⟨[(4, false, [.undef])], []⟩ := ((((), ()), ()), ())
def w_eqPieceS_L0_B (v0 : List Piec) (v1 : List Piec) (v2 : Int) (γ : Type) (fail : γ) (next : w_eqPieceS_L0_sh.T → γ) (out : WT w_eqPieceS_L0_es → γ) : γ :=
  bif (decide (v2 < (v0.length : Int))) then
    bif ((decide (0 ≤ v2)) && (decide (v2 < (v0.length : Int)))) then
    bif ((decide (0 ≤ v2)) && (decide (v2 < (v1.length : Int)))) then
    letK (α := Bool) (w_eqPiece (v0.getD v2.toNat (Ty.zero .piec)) (v1.getD v2.toNat (Ty.zero .piec))) fun c1 =>
    bif (!c1) then
      out (Sum.inl (w_eqPieceS_L0_mx0 false))
    else
    next (w_eqPieceS_L0_mk v0 v1 (IntKind.wrap .i64 (v2 + 1)))
    else fail
    else fail
  else
  out (Sum.inr (w_eqPieceS_L0_mx1 ))
theorem w_eqPieceS_L0_par (v0 : List Piec) (v1 : List Piec) (v2 : Int) (γ : Type) (fail : γ) (next : w_eqPieceS_L0_sh.T → γ) (out : WT w_eqPieceS_L0_es → γ) : w_eqPieceS_L0_B v0 v1 v2 γ fail next out = optK (w_eqPieceS_L0_B v0 v1 v2 _ none (fun v' => some (.inl v')) (fun w => some (.inr w))) fail (fun r => Sum.elim next out r) := by
  unfold w_eqPieceS_L0_B
  exact bifT (f := (fun o => optK o fail (fun r => Sum.elim next out r))) (fun _ => bifT (f := (fun o => optK o fail (fun r => Sum.elim next out r))) (fun _ => bifT (f := (fun o => optK o fail (fun r => Sum.elim next out r))) (fun _ => letT (f := (fun o => optK o fail (fun r => Sum.elim next out r))) (fun c1 _ => bifT (f := (fun o => optK o fail (fun r => Sum.elim next out r))) (fun _ => rfl)
      (fun _ => rfl))) (fun _ => rfl)) (fun _ => rfl))
      (fun _ => rfl)
def w_eqPieceS_L0_r : Round w_eqPieceS_L0_sh.T (WT w_eqPieceS_L0_es) where
  B v γ fail next out := w_eqPieceS_L0_B v.1.1.1 v.1.2.1.1 v.1.2.2.1.1 γ fail next out
  par v γ fail next out := w_eqPieceS_L0_par v.1.1.1 v.1.2.1.1 v.1.2.2.1.1 γ fail next out
def w_eqPieceS_L0_fu (v0 : List Piec) (v1 : List Piec) (v2 : Int) : Nat := (Int.toNat ((v0.length : Int) - v2)) + 1
theorem w_eqPieceS_L0_lk (v : w_eqPieceS_L0_sh.T) (next : St → Option Res) (k : Ex → St → Option Res) : evalK te (orcOf (P := Try.prog) [w_eqPiece_e]) (lorcOf []) Try.f203.ntmps w_eqPieceS_ann (nthLoop (bodyOf Try.f203) 0 0) 0 (w_eqPieceS_L0_sh.enc v) (endK ⟨[0, 1, 5], [], false, 0⟩ ⟨[4], [], false, 0⟩ next k) =
  w_eqPieceS_L0_r.B v _ none (fun v' => next (w_eqPieceS_L0_sh.enc v')) (fun w => outK w_eqPieceS_L0_es k w) := by kernel_rfl
def w_eqPieceS_L0_le : LE := leOf 0 w_eqPieceS_L0_sh w_eqPieceS_L0_es w_eqPieceS_L0_r.step (fun v => w_eqPieceS_L0_fu v.1.1.1 v.1.2.1.1 v.1.2.2.1.1)
theorem w_eqPieceS_L0_ls (w0 : World) (mo : Mts) (I0 : Nat → Prop) (hmo : mo.length = 0) : LSem Try.prog (Sim w0 mo Try.f203.ntmps I0) (fun b s k => match Nat.beq 0 b with | true => w_eqPieceS_L0_le.run s k | false => none) 0 (nthLoop (bodyOf Try.f203) 0 0) :=
  le_sem hmo (lorc := lorcOf []) (ann := w_eqPieceS_ann) (keep := ⟨[0, 1, 5], [], false, 0⟩) (kout := ⟨[4], [], false, 0⟩) teFact mixFact (orcOf_ok _) (by kernel_rfl) (allLoops_of (bs := []) (by kernel_rfl) trivial) w_eqPieceS_L0_r _ w_eqPieceS_L0_lk
def w_eqPieceS_L0_f (v0 : List Piec) (v1 : List Piec) (v2 : Int) (a : Unit) : Stp (Unit) ((Unit)) :=
  letK (α := Bool) (w_eqPiece (v0.getD v2.toNat (Ty.zero .piec)) (v1.getD v2.toNat (Ty.zero .piec))) fun c1 =>
  bif (!c1) then
    .out (())
  else
  .next ()
theorem w_eqPieceS_L0_st (v0 : List Piec) (v1 : List Piec) (v2 : Int) (hlo : 0 ≤ v2) (hhi : v2 < (v0.length : Int)) (hN : (v0.length : Int) ≤ 4611686018427387904) (hi0 : (v0.length : Int) ≤ (v1.length : Int)) : w_eqPieceS_L0_r.step (w_eqPieceS_L0_mk v0 v1 v2) = Stp.elim (fun a' : Unit => some (Sum.inl (w_eqPieceS_L0_mk v0 v1 (v2 + 1)))) (fun w => some (Sum.inr ((fun p : Unit => Sum.inl (w_eqPieceS_L0_mx0 false)) w))) (w_eqPieceS_L0_f v0 v1 v2 ()) := by
  have hw : (IntKind.wrap .i64 (v2 + 1)) = v2 + 1 := wrap64 (by omega) (by omega)
  show w_eqPieceS_L0_B v0 v1 v2 (Option (w_eqPieceS_L0_sh.T ⊕ WT w_eqPieceS_L0_es)) none (fun v' => some (Sum.inl v')) (fun w => some (Sum.inr w)) = _
  unfold w_eqPieceS_L0_B w_eqPieceS_L0_f
  exact bifG (by simp only [decide_eq_true_eq]; omega) (bifG (by (try simp only [Nat.ble_eq, Bool.and_eq_true, decide_eq_true_eq]); grind [maxSl, maxStr, toBytes_length, toInts_length, List.length_set, wrap64]) (bifG (by (try simp only [Nat.ble_eq, Bool.and_eq_true, decide_eq_true_eq]); grind [maxSl, maxStr, toBytes_length, toInts_length, List.length_set, wrap64]) (letT (f := (Stp.elim (fun a' : Unit => some (Sum.inl (w_eqPieceS_L0_mk v0 v1 (v2 + 1)))) (fun w => some (Sum.inr ((fun p : Unit => Sum.inl (w_eqPieceS_L0_mx0 false)) w))))) (fun c1 hc1 => bifT (f := (Stp.elim (fun a' : Unit => some (Sum.inl (w_eqPieceS_L0_mk v0 v1 (v2 + 1)))) (fun w => some (Sum.inr ((fun p : Unit => Sum.inl (w_eqPieceS_L0_mx0 false)) w))))) (fun b0 => rfl)
      (fun b0 => (by exact congrArg (fun z => some (Sum.inl (w_eqPieceS_L0_mk v0 v1 z))) hw))))))
theorem w_eqPieceS_L0_cl (v0 : List Piec) (v1 : List Piec) (v2 : Int) (h0 : 0 ≤ v2) (h1 : (v0.length : Int) ≤ 4611686018427387904) (h2 : (v0.length : Int) ≤ (v1.length : Int)) : loopF w_eqPieceS_L0_r.step (w_eqPieceS_L0_fu v0 v1 v2) (w_eqPieceS_L0_mk v0 v1 v2) = some (Stp.elim (fun a => (fun i a => Sum.inr (w_eqPieceS_L0_mx1 )) (v2 + 1 * (((Int.toNat ((v0.length : Int) - v2)) : Nat) : Int)) a) (fun p : Unit => Sum.inl (w_eqPieceS_L0_mx0 false)) (forN (w_eqPieceS_L0_f v0 v1) 1 (Int.toNat ((v0.length : Int) - v2)) v2 ())) :=
  forN_loop (step := w_eqPieceS_L0_r.step) (mk := fun v2 a => w_eqPieceS_L0_mk v0 v1 v2) (f := w_eqPieceS_L0_f v0 v1) (e := (fun i a => Sum.inr (w_eqPieceS_L0_mx1 ))) (emb := (fun p : Unit => Sum.inl (w_eqPieceS_L0_mx0 false))) (st := 1) (Inv := fun v2 a => True) (Int.toNat ((v0.length : Int) - v2)) v2 () _ (Nat.lt_succ_self _) trivial
    (fun j a hj hv => ⟨w_eqPieceS_L0_st v0 v1 (v2 + 1 * (j : Int)) (by omega) (by omega) (by omega) h2, fun _ _ => trivial⟩)
    (fun a hv => by
      show w_eqPieceS_L0_B v0 v1 (v2 + 1 * (((Int.toNat ((v0.length : Int) - v2)) : Nat) : Int)) (Option (w_eqPieceS_L0_sh.T ⊕ WT w_eqPieceS_L0_es)) none (fun v' => some (Sum.inl v')) (fun w => some (Sum.inr w)) = _
      unfold w_eqPieceS_L0_B
      exact bifN (by simp only [decide_eq_false_iff_not]; omega) rfl)
def w_eqPieceS_N (x0 : List Piec) (x1 : List Piec) (γ : Type) (fail : γ) (k : Bool → γ) : γ :=
  bif ((x0.length : Int) != (x1.length : Int)) then
    k false
  else
  optK (loopF w_eqPieceS_L0_r.step (w_eqPieceS_L0_fu x0 x1 0) (w_eqPieceS_L0_mk x0 x1 0)) fail fun w2 =>
    Sum.elim (fun w2 =>
      k w2.1.1.1)
    (fun w2 =>
      k true) w2
def w_eqPieceS (x0 : List Piec) (x1 : List Piec) : Bool :=
  bif ((x0.length : Int) != (x1.length : Int)) then
    false
  else
  Stp.elim (fun a3 =>
    true)
    (fun p3 =>
      false)
    (forN (w_eqPieceS_L0_f x0 x1) 1 (Int.toNat ((x0.length : Int) - 0)) 0 ())
theorem w_eqPieceS_lk (x0 : List Piec) (x1 : List Piec) : evalFn te (orcOf (P := Try.prog) [w_eqPiece_e]) (lorcOf [w_eqPieceS_L0_le]) w_eqPieceS_ann Try.f203 (pvs [.sc (.sl .piec), .sc (.sl .piec)] (x0, x1, ())) =
  w_eqPieceS_N x0 x1 _ none (fun v => some [(false, [RC.c (.bool v)])]) := by kernel_rfl
theorem w_eqPieceS_p (x0 : List Piec) (x1 : List Piec) (hx0 : x0.length ≤ 140737488355328) (hx0_e : ∀ y ∈ x0, ∀ c ∈ Ty.cells .piec y, FactC c) (hx1 : x1.length ≤ 140737488355328) (hx1_e : ∀ y ∈ x1, ∀ c ∈ Ty.cells .piec y, FactC c)  (γ : Type) (fail : γ) (k : Bool → γ) : w_eqPieceS_N x0 x1 γ fail k = k (w_eqPieceS x0 x1) := by
  unfold w_eqPieceS_N w_eqPieceS
  exact bifT (f := k) (fun b0 => rfl)
      (fun b0 => loopT (f := k) (w_eqPieceS_L0_cl x0 x1 0 (by (try simp only [Nat.ble_eq, Bool.and_eq_true, decide_eq_true_eq, w_eqPieceS_L0_mx0, w_eqPieceS_L0_mx1]); grind [maxSl, maxStr, toBytes_length, toInts_length, List.length_set, wrap64]) (by (try simp only [Nat.ble_eq, Bool.and_eq_true, decide_eq_true_eq, w_eqPieceS_L0_mx0, w_eqPieceS_L0_mx1]); grind [maxSl, maxStr, toBytes_length, toInts_length, List.length_set, wrap64]) (by (try simp only [Nat.ble_eq, Bool.and_eq_true, decide_eq_true_eq, w_eqPieceS_L0_mx0, w_eqPieceS_L0_mx1]); grind [maxSl, maxStr, toBytes_length, toInts_length, List.length_set, wrap64])) (fun a3 => rfl)
      (fun p3 => rfl))
theorem w_eqPieceS_c (x0 : List Piec) (x1 : List Piec)  : Con Try.prog 203 (pvs [.sc (.sl .piec), .sc (.sl .piec)] (x0, x1, ())) [rv (.sc .bool) [] (w_eqPieceS x0 x1)] := by
  refine Con.of_facts (enters_of Try.func203 rfl (by kernel_rfl)) fun hf => ?_
  replace hf := factAt hf
  exact evalFn_conL teFact mixFact (orcOf_ok _) Try.func203 (by kernel_rfl) (bs := [0]) (by kernel_rfl) (by kernel_rfl) (fun w0 mo I0 hmo => ⟨lsem_of_lorc (w_eqPieceS_L0_ls w0 mo I0 hmo) (by kernel_rfl), trivial⟩) ((w_eqPieceS_lk x0 x1).trans (w_eqPieceS_p x0 x1 ((hf 0 0 rfl rfl).len) (fun y hy => (hf 0 0 rfl rfl).elem hy) ((hf 1 0 rfl rfl).len) (fun y hy => (hf 1 0 rfl rfl).elem hy) _ _ _))
noncomputable def w_eqPieceS_e : Ent1 Try.prog := entA 203 [.sc (.sl .piec), .sc (.sl .piec)] (fun x => (w_eqPieceS x.1 x.2.1)) (fun v => [rv (.sc .bool) [] v]) (fun x => w_eqPieceS_c x.1 x.2.1)


/-- impl.SipRound -/
def i_SipRound_N (x0 : Sipr) (γ : Type) (fail : γ) (k : Sipr → γ) : γ :=
  letK (α := Int) (mb_RotateLeft64 x0.b 13) fun c1 =>
  letK (α := Int) (mb_RotateLeft64 (IntKind.wrap .u64 (x0.a + x0.b)) 32) fun c2 =>
  letK (α := Int) (mb_RotateLeft64 x0.d 16) fun c3 =>
  letK (α := Int) (IntKind.wrap .u64 (c2 + (bits .xor .u64 c3 (IntKind.wrap .u64 (x0.c + x0.d))))) fun e4 =>
  letK (α := Int) (mb_RotateLeft64 (bits .xor .u64 c3 (IntKind.wrap .u64 (x0.c + x0.d))) 21) fun c5 =>
  letK (α := Int) (IntKind.wrap .u64 ((IntKind.wrap .u64 (x0.c + x0.d)) + (bits .xor .u64 c1 (IntKind.wrap .u64 (x0.a + x0.b))))) fun e6 =>
  letK (α := Int) (mb_RotateLeft64 (bits .xor .u64 c1 (IntKind.wrap .u64 (x0.a + x0.b))) 17) fun c7 =>
  letK (α := Int) (mb_RotateLeft64 e6 32) fun c8 =>
  k (⟨e4, (bits .xor .u64 c7 e6), c8, (bits .xor .u64 c5 e4)⟩ : Sipr)
def i_SipRound (x0 : Sipr) : Sipr :=
  letK (α := Int) (mb_RotateLeft64 x0.b 13) fun c1 =>
  letK (α := Int) (mb_RotateLeft64 (IntKind.wrap .u64 (x0.a + x0.b)) 32) fun c2 =>
  letK (α := Int) (mb_RotateLeft64 x0.d 16) fun c3 =>
  letK (α := Int) (IntKind.wrap .u64 (c2 + (bits .xor .u64 c3 (IntKind.wrap .u64 (x0.c + x0.d))))) fun e4 =>
  letK (α := Int) (mb_RotateLeft64 (bits .xor .u64 c3 (IntKind.wrap .u64 (x0.c + x0.d))) 21) fun c5 =>
  letK (α := Int) (IntKind.wrap .u64 ((IntKind.wrap .u64 (x0.c + x0.d)) + (bits .xor .u64 c1 (IntKind.wrap .u64 (x0.a + x0.b))))) fun e6 =>
  letK (α := Int) (mb_RotateLeft64 (bits .xor .u64 c1 (IntKind.wrap .u64 (x0.a + x0.b))) 17) fun c7 =>
  letK (α := Int) (mb_RotateLeft64 e6 32) fun c8 =>
  (⟨e4, (bits .xor .u64 c7 e6), c8, (bits .xor .u64 c5 e4)⟩ : Sipr)
theorem i_SipRound_lk (x0 : Sipr) : evalFn te (orcOf (P := Try.prog) [mb_RotateLeft64_e]) lorc0 [] Try.f205 (pvs [.st .sipr] (x0, ())) =
  i_SipRound_N x0 _ none (fun v => some [(true, [RC.c (.int .u64 v.a), RC.c (.int .u64 v.b), RC.c (.int .u64 v.c), RC.c (.int .u64 v.d)])]) := by kernel_rfl
theorem i_SipRound_p (x0 : Sipr)   (γ : Type) (fail : γ) (k : Sipr → γ) : i_SipRound_N x0 γ fail k = k (i_SipRound x0) := by
  unfold i_SipRound_N i_SipRound
  exact letT (f := k) (fun c1 hc1 => letT (f := k) (fun c2 hc2 => letT (f := k) (fun c3 hc3 => letT (f := k) (fun e4 he4 => letT (f := k) (fun c5 hc5 => letT (f := k) (fun e6 he6 => letT (f := k) (fun c7 hc7 => letT (f := k) (fun c8 hc8 => rfl))))))))
theorem i_SipRound_c (x0 : Sipr)  : Con Try.prog 205 (pvs [.st .sipr] (x0, ())) [rv (.st .sipr) [] (i_SipRound x0)] := by
  exact evalFn_con0 teFact mixFact (orcOf_ok _) Try.func205 (by kernel_rfl) ((i_SipRound_lk x0).trans (i_SipRound_p x0  _ _ _))
noncomputable def i_SipRound_e : Ent1 Try.prog := entA 205 [.st .sipr] (fun x => (i_SipRound x.1)) (fun v => [rv (.st .sipr) [] v]) (fun x => i_SipRound_c x.1)


/-- spec.SipRound -/
def s_SipRound_N (x0 : Sipr) (γ : Type) (fail : γ) (k : Sipr → γ) : γ :=
  letK (α := Int) (s_l10Turn x0.b 13) fun c1 =>
  letK (α := Int) (s_l10Turn (IntKind.wrap .u64 (x0.a + x0.b)) 32) fun c2 =>
  letK (α := Int) (s_l10Turn x0.d 16) fun c3 =>
  letK (α := Int) (IntKind.wrap .u64 (c2 + (bits .xor .u64 c3 (IntKind.wrap .u64 (x0.c + x0.d))))) fun e4 =>
  letK (α := Int) (s_l10Turn (bits .xor .u64 c3 (IntKind.wrap .u64 (x0.c + x0.d))) 21) fun c5 =>
  letK (α := Int) (IntKind.wrap .u64 ((IntKind.wrap .u64 (x0.c + x0.d)) + (bits .xor .u64 c1 (IntKind.wrap .u64 (x0.a + x0.b))))) fun e6 =>
  letK (α := Int) (s_l10Turn (bits .xor .u64 c1 (IntKind.wrap .u64 (x0.a + x0.b))) 17) fun c7 =>
  letK (α := Int) (s_l10Turn e6 32) fun c8 =>
  k (⟨e4, (bits .xor .u64 c7 e6), c8, (bits .xor .u64 c5 e4)⟩ : Sipr)
def s_SipRound (x0 : Sipr) : Sipr :=
  letK (α := Int) (s_l10Turn x0.b 13) fun c1 =>
  letK (α := Int) (s_l10Turn (IntKind.wrap .u64 (x0.a + x0.b)) 32) fun c2 =>
  letK (α := Int) (s_l10Turn x0.d 16) fun c3 =>
  letK (α := Int) (IntKind.wrap .u64 (c2 + (bits .xor .u64 c3 (IntKind.wrap .u64 (x0.c + x0.d))))) fun e4 =>
  letK (α := Int) (s_l10Turn (bits .xor .u64 c3 (IntKind.wrap .u64 (x0.c + x0.d))) 21) fun c5 =>
  letK (α := Int) (IntKind.wrap .u64 ((IntKind.wrap .u64 (x0.c + x0.d)) + (bits .xor .u64 c1 (IntKind.wrap .u64 (x0.a + x0.b))))) fun e6 =>
  letK (α := Int) (s_l10Turn (bits .xor .u64 c1 (IntKind.wrap .u64 (x0.a + x0.b))) 17) fun c7 =>
  letK (α := Int) (s_l10Turn e6 32) fun c8 =>
  (⟨e4, (bits .xor .u64 c7 e6), c8, (bits .xor .u64 c5 e4)⟩ : Sipr)
theorem s_SipRound_lk (x0 : Sipr) : evalFn te (orcOf (P := Try.prog) [s_l10Turn_e]) lorc0 [] Try.f206 (pvs [.st .sipr] (x0, ())) =
  s_SipRound_N x0 _ none (fun v => some [(true, [RC.c (.int .u64 v.a), RC.c (.int .u64 v.b), RC.c (.int .u64 v.c), RC.c (.int .u64 v.d)])]) := by kernel_rfl
theorem s_SipRound_p (x0 : Sipr)   (γ : Type) (fail : γ) (k : Sipr → γ) : s_SipRound_N x0 γ fail k = k (s_SipRound x0) := by
  unfold s_SipRound_N s_SipRound
  exact letT (f := k) (fun c1 hc1 => letT (f := k) (fun c2 hc2 => letT (f := k) (fun c3 hc3 => letT (f := k) (fun e4 he4 => letT (f := k) (fun c5 hc5 => letT (f := k) (fun e6 he6 => letT (f := k) (fun c7 hc7 => letT (f := k) (fun c8 hc8 => rfl))))))))
theorem s_SipRound_c (x0 : Sipr)  : Con Try.prog 206 (pvs [.st .sipr] (x0, ())) [rv (.st .sipr) [] (s_SipRound x0)] := by
  exact evalFn_con0 teFact mixFact (orcOf_ok _) Try.func206 (by kernel_rfl) ((s_SipRound_lk x0).trans (s_SipRound_p x0  _ _ _))
noncomputable def s_SipRound_e : Ent1 Try.prog := entA 206 [.st .sipr] (fun x => (s_SipRound x.1)) (fun v => [rv (.st .sipr) [] v]) (fun x => s_SipRound_c x.1)


/-- impl.TupleOk -/
def i_TupleOk_N (x0 : Tupl) (γ : Type) (fail : γ) (k : Bool → γ) : γ :=
  letK (α := Bool) (i_WordOk x0.ip 32) fun c1 =>
  bif c1 then
    letK (α := Bool) (i_WordOk x0.port 16) fun c2 =>
    bif c2 then
      letK (α := Bool) (i_WordOk x0.my 16) fun c3 =>
      k c3
    else
    k false
  else
  k false
def i_TupleOk (x0 : Tupl) : Bool :=
  letK (α := Bool) (i_WordOk x0.ip 32) fun c1 =>
  bif c1 then
    letK (α := Bool) (i_WordOk x0.port 16) fun c2 =>
    bif c2 then
      letK (α := Bool) (i_WordOk x0.my 16) fun c3 =>
      c3
    else
    false
  else
  false
theorem i_TupleOk_lk (x0 : Tupl) : evalFn te (orcOf (P := Try.prog) [i_WordOk_e]) lorc0 [] Try.f48 (pvs [.st .tupl] (x0, ())) =
  i_TupleOk_N x0 _ none (fun v => some [(false, [RC.c (.bool v)])]) := by kernel_rfl
theorem i_TupleOk_p (x0 : Tupl)   (γ : Type) (fail : γ) (k : Bool → γ) : i_TupleOk_N x0 γ fail k = k (i_TupleOk x0) := by
  unfold i_TupleOk_N i_TupleOk
  exact letT (f := k) (fun c1 hc1 => bifT (f := k) (fun b0 => letT (f := k) (fun c2 hc2 => bifT (f := k) (fun b1 => letT (f := k) (fun c3 hc3 => rfl))
      (fun b1 => rfl)))
      (fun b0 => rfl))
theorem i_TupleOk_c (x0 : Tupl)  : Con Try.prog 48 (pvs [.st .tupl] (x0, ())) [rv (.sc .bool) [] (i_TupleOk x0)] := by
  exact evalFn_con0 teFact mixFact (orcOf_ok _) Try.func48 (by kernel_rfl) ((i_TupleOk_lk x0).trans (i_TupleOk_p x0  _ _ _))
noncomputable def i_TupleOk_e : Ent1 Try.prog := entA 48 [.st .tupl] (fun x => (i_TupleOk x.1)) (fun v => [rv (.sc .bool) [] v]) (fun x => i_TupleOk_c x.1)


/-- spec.TupleOk -/
def s_TupleOk_N (x0 : Tupl) (γ : Type) (fail : γ) (k : Bool → γ) : γ :=
  letK (α := Bool) (s_WordOk x0.ip 32) fun c1 =>
  bif c1 then
    letK (α := Bool) (s_WordOk x0.port 16) fun c2 =>
    bif c2 then
      letK (α := Bool) (s_WordOk x0.my 16) fun c3 =>
      k c3
    else
    k false
  else
  k false
def s_TupleOk (x0 : Tupl) : Bool :=
  letK (α := Bool) (s_WordOk x0.ip 32) fun c1 =>
  bif c1 then
    letK (α := Bool) (s_WordOk x0.port 16) fun c2 =>
    bif c2 then
      letK (α := Bool) (s_WordOk x0.my 16) fun c3 =>
      c3
    else
    false
  else
  false
theorem s_TupleOk_lk (x0 : Tupl) : evalFn te (orcOf (P := Try.prog) [s_WordOk_e]) lorc0 [] Try.f51 (pvs [.st .tupl] (x0, ())) =
  s_TupleOk_N x0 _ none (fun v => some [(false, [RC.c (.bool v)])]) := by kernel_rfl
theorem s_TupleOk_p (x0 : Tupl)   (γ : Type) (fail : γ) (k : Bool → γ) : s_TupleOk_N x0 γ fail k = k (s_TupleOk x0) := by
  unfold s_TupleOk_N s_TupleOk
  exact letT (f := k) (fun c1 hc1 => bifT (f := k) (fun b0 => letT (f := k) (fun c2 hc2 => bifT (f := k) (fun b1 => letT (f := k) (fun c3 hc3 => rfl))
      (fun b1 => rfl)))
      (fun b0 => rfl))
theorem s_TupleOk_c (x0 : Tupl)  : Con Try.prog 51 (pvs [.st .tupl] (x0, ())) [rv (.sc .bool) [] (s_TupleOk x0)] := by
  exact evalFn_con0 teFact mixFact (orcOf_ok _) Try.func51 (by kernel_rfl) ((s_TupleOk_lk x0).trans (s_TupleOk_p x0  _ _ _))
noncomputable def s_TupleOk_e : Ent1 Try.prog := entA 51 [.st .tupl] (fun x => (s_TupleOk x.1)) (fun v => [rv (.sc .bool) [] v]) (fun x => s_TupleOk_c x.1)


/-- laws.eqHalfS -/
def w_eqHalfS_ann : List (Nat × Keep) := [(0, ⟨[0, 1, 5], [], false, 0⟩)]
def w_eqHalfS_L0_sh : Sh := ⟨[(0, false, [.sl .arg .half]), (1, false, [.sl .arg .half]), (5, false, [.int .i64])], []⟩
def w_eqHalfS_L0_es : List (Ex × Sh) := [(.ret, ⟨[(4, false, [.bool])], []⟩), (.exit 0, ⟨[(4, false, [.undef])], []⟩)]
def w_eqHalfS_L0_mk (v0 : List Half) (v1 : List Half) (v2 : Int) : w_eqHalfS_L0_sh.T := (((v0, ()), ((v1, ()), ((v2, ()), ()))), ())
def w_eqHalfS_L0_mx0 (y0 : Bool) : Sh.T ⟨[(4, false, [.bool])], []⟩ := (((y0, ()), ()), ())
def w_eqHalfS_L0_mx1  : Sh.T ⟨[(4, false, [.undef])], []⟩ := ((((), ()), ()), ())
def w_eqHalfS_L0_B (v0 : List Half) (v1 : List Half) (v2 : Int) (γ : Type) (fail : γ) (next : w_eqHalfS_L0_sh.T → γ) (out : WT w_eqHalfS_L0_es → γ) : γ :=
  bif (decide (v2 < (v0.length : Int))) then
    bif ((decide (0 ≤ v2)) && (decide (v2 < (v0.length : Int)))) then
    bif ((decide (0 ≤ v2)) && (decide (v2 < (v1.length : Int)))) then
    letK (α := Bool) (w_eqHalf (v0.getD v2.toNat (Ty.zero .half)) (v1.getD v2.toNat (Ty.zero .half))) fun c1 =>
    bif (!c1) then
      out (Sum.inl (w_eqHalfS_L0_mx0 false))
    else
    next (w_eqHalfS_L0_mk v0 v1 (IntKind.wrap .i64 (v2 + 1)))
    else fail
    else fail
  else
  out (Sum.inr (w_eqHalfS_L0_mx1 ))
theorem w_eqHalfS_L0_par (v0 : List Half) (v1 : List Half) (v2 : Int) (γ : Type) (fail : γ) (next : w_eqHalfS_L0_sh.T → γ) (out : WT w_eqHalfS_L0_es → γ) : w_eqHalfS_L0_B v0 v1 v2 γ fail next out = optK (w_eqHalfS_L0_B v0 v1 v2 _ none (fun v' => some (.inl v')) (fun w => some (.inr w))) fail (fun r => Sum.elim next out r) := by
  unfold w_eqHalfS_L0_B
  exact bifT (f := (fun o => optK o fail (fun r => Sum.elim next out r))) (fun _ => bifT (f := (fun o => optK o fail (fun r => Sum.elim next out r))) (fun _ => bifT (f := (fun o => optK o fail (fun r => Sum.elim next out r))) (fun _ => letT (f := (fun o => optK o fail (fun r => Sum.elim next out r))) (fun c1 _ => bifT (f := (fun o => optK o fail (fun r => Sum.elim next out r))) (fun _ => rfl)
      (fun _ => rfl))) (fun _ => rfl)) (fun _ => rfl))
      (fun _ => rfl)
def w_eqHalfS_L0_r : Round w_eqHalfS_L0_sh.T (WT w_eqHalfS_L0_es) where
  B v γ fail next out := w_eqHalfS_L0_B v.1.1.1 v.1.2.1.1 v.1.2.2.1.1 γ fail next out
  par v γ fail next out := w_eqHalfS_L0_par v.1.1.1 v.1.2.1.1 v.1.2.2.1.1 γ fail next out
def w_eqHalfS_L0_fu (v0 : List Half) (v1 : List Half) (v2 : Int) : Nat := (Int.toNat ((v0.length : Int) - v2)) + 1
theorem w_eqHalfS_L0_lk (v : w_eqHalfS_L0_sh.T) (next : St → Option Res) (k : Ex → St → Option Res) : evalK te (orcOf (P := Try.prog) [w_eqHalf_e]) (lorcOf []) Try.f78.ntmps w_eqHalfS_ann (nthLoop (bodyOf Try.f78) 0 0) 0 (w_eqHalfS_L0_sh.enc v) (endK ⟨[0, 1, 5], [], false, 0⟩ ⟨[4], [], false, 0⟩ next k) =
  w_eqHalfS_L0_r.B v _ none (fun v' => next (w_eqHalfS_L0_sh.enc v')) (fun w => outK w_eqHalfS_L0_es k w) := by kernel_rfl
def w_eqHalfS_L0_le : LE := leOf 0 w_eqHalfS_L0_sh w_eqHalfS_L0_es w_eqHalfS_L0_r.step (fun v => w_eqHalfS_L0_fu v.1.1.1 v.1.2.1.1 v.1.2.2.1.1)
theorem w_eqHalfS_L0_ls (w0 : World) (mo : Mts) (I0 : Nat → Prop) (hmo : mo.length = 0) : LSem Try.prog (Sim w0 mo Try.f78.ntmps I0) (fun b s k => match Nat.beq 0 b with | true => w_eqHalfS_L0_le.run s k | false => none) 0 (nthLoop (bodyOf Try.f78) 0 0) :=
  le_sem hmo (lorc := lorcOf []) (ann := w_eqHalfS_ann) (keep := ⟨[0, 1, 5], [], false, 0⟩) (kout := ⟨[4], [], false, 0⟩) teFact mixFact (orcOf_ok _) (by kernel_rfl) (allLoops_of (bs := []) (by kernel_rfl) trivial) w_eqHalfS_L0_r _ w_eqHalfS_L0_lk
def w_eqHalfS_L0_f (v0 : List Half) (v1 : List Half) (v2 : Int) (a : Unit) : Stp (Unit) ((Unit)) :=
  letK (α := Bool) (w_eqHalf (v0.getD v2.toNat (Ty.zero .half)) (v1.getD v2.toNat (Ty.zero .half))) fun c1 =>
  bif (!c1) then
    .out (())
  else
  .next ()
theorem w_eqHalfS_L0_st (v0 : List Half) (v1 : List Half) (v2 : Int) (hlo : 0 ≤ v2) (hhi : v2 < (v0.length : Int)) (hN : (v0.length : Int) ≤ 4611686018427387904) (hi0 : (v0.length : Int) ≤ (v1.length : Int)) : w_eqHalfS_L0_r.step (w_eqHalfS_L0_mk v0 v1 v2) = Stp.elim (fun a' : Unit => some (Sum.inl (w_eqHalfS_L0_mk v0 v1 (v2 + 1)))) (fun w => some (Sum.inr ((fun p : Unit => Sum.inl (w_eqHalfS_L0_mx0 false)) w))) (w_eqHalfS_L0_f v0 v1 v2 ()) := by
  have hw : (IntKind.wrap .i64 (v2 + 1)) = v2 + 1 := wrap64 (by omega) (by omega)
  show w_eqHalfS_L0_B v0 v1 v2 (Option (w_eqHalfS_L0_sh.T ⊕ WT w_eqHalfS_L0_es)) none (fun v' => some (Sum.inl v')) (fun w => some (Sum.inr w)) = _
  unfold w_eqHalfS_L0_B w_eqHalfS_L0_f
  exact bifG (by simp only [decide_eq_true_eq]; omega) (bifG (by (try simp only [Nat.ble_eq, Bool.and_eq_true, decide_eq_true_eq]); grind [maxSl, maxStr, toBytes_length, toInts_length, List.length_set, wrap64]) (bifG (by (try simp only [Nat.ble_eq, Bool.and_eq_true, decide_eq_true_eq]); grind [maxSl, maxStr, toBytes_length, toInts_length, List.length_set, wrap64]) (letT (f := (Stp.elim (fun a' : Unit => some (Sum.inl (w_eqHalfS_L0_mk v0 v1 (v2 + 1)))) (fun w => some (Sum.inr ((fun p : Unit => Sum.inl (w_eqHalfS_L0_mx0 false)) w))))) (fun c1 hc1 => bifT (f := (Stp.elim (fun a' : Unit => some (Sum.inl (w_eqHalfS_L0_mk v0 v1 (v2 + 1)))) (fun w => some (Sum.inr ((fun p : Unit => Sum.inl (w_eqHalfS_L0_mx0 false)) w))))) (fun b0 => rfl)
      (fun b0 => (by exact congrArg (fun z => some (Sum.inl (w_eqHalfS_L0_mk v0 v1 z))) hw))))))
theorem w_eqHalfS_L0_cl (v0 : List Half) (v1 : List Half) (v2 : Int) (h0 : 0 ≤ v2) (h1 : (v0.length : Int) ≤ 4611686018427387904) (h2 : (v0.length : Int) ≤ (v1.length : Int)) : loopF w_eqHalfS_L0_r.step (w_eqHalfS_L0_fu v0 v1 v2) (w_eqHalfS_L0_mk v0 v1 v2) = some (Stp.elim (fun a => (fun i a => Sum.inr (w_eqHalfS_L0_mx1 )) (v2 + 1 * (((Int.toNat ((v0.length : Int) - v2)) : Nat) : Int)) a) (fun p : Unit => Sum.inl (w_eqHalfS_L0_mx0 false)) (forN (w_eqHalfS_L0_f v0 v1) 1 (Int.toNat ((v0.length : Int) - v2)) v2 ())) :=
  forN_loop (step := w_eqHalfS_L0_r.step) (mk := fun v2 a => w_eqHalfS_L0_mk v0 v1 v2) (f := w_eqHalfS_L0_f v0 v1) (e := (fun i a => Sum.inr (w_eqHalfS_L0_mx1 ))) (emb := (fun p : Unit => Sum.inl (w_eqHalfS_L0_mx0 false))) (st := 1) (Inv := fun v2 a => True) (Int.toNat ((v0.length : Int) - v2)) v2 () _ (Nat.lt_succ_self _) trivial
    (fun j a hj hv => ⟨w_eqHalfS_L0_st v0 v1 (v2 + 1 * (j : Int)) (by omega) (by omega) (by omega) h2, fun _ _ => trivial⟩)
    (fun a hv => by
      show w_eqHalfS_L0_B v0 v1 (v2 + 1 * (((Int.toNat ((v0.length : Int) - v2)) : Nat) : Int)) (Option (w_eqHalfS_L0_sh.T ⊕ WT w_eqHalfS_L0_es)) none (fun v' => some (Sum.inl v')) (fun w => some (Sum.inr w)) = _
      unfold w_eqHalfS_L0_B
      exact bifN (by simp only [decide_eq_false_iff_not]; omega) rfl)
def w_eqHalfS_N (x0 : List Half) (x1 : List Half) (γ : Type) (fail : γ) (k : Bool → γ) : γ :=
  bif ((x0.length : Int) != (x1.length : Int)) then
    k false
  else
  optK (loopF w_eqHalfS_L0_r.step (w_eqHalfS_L0_fu x0 x1 0) (w_eqHalfS_L0_mk x0 x1 0)) fail fun w2 =>
    Sum.elim (fun w2 =>
      k w2.1.1.1)
    (fun w2 =>
      k true) w2
def w_eqHalfS (x0 : List Half) (x1 : List Half) : Bool :=
  bif ((x0.length : Int) != (x1.length : Int)) then
    false
  else
  Stp.elim (fun a3 =>
    true)
    (fun p3 =>
      false)
    (forN (w_eqHalfS_L0_f x0 x1) 1 (Int.toNat ((x0.length : Int) - 0)) 0 ())
theorem w_eqHalfS_lk (x0 : List Half) (x1 : List Half) : evalFn te (orcOf (P := Try.prog) [w_eqHalf_e]) (lorcOf [w_eqHalfS_L0_le]) w_eqHalfS_ann Try.f78 (pvs [.sc (.sl .half), .sc (.sl .half)] (x0, x1, ())) =
  w_eqHalfS_N x0 x1 _ none (fun v => some [(false, [RC.c (.bool v)])]) := by kernel_rfl
theorem w_eqHalfS_p (x0 : List Half) (x1 : List Half) (hx0 : x0.length ≤ 140737488355328) (hx1 : x1.length ≤ 140737488355328)  (γ : Type) (fail : γ) (k : Bool → γ) : w_eqHalfS_N x0 x1 γ fail k = k (w_eqHalfS x0 x1) := by
  unfold w_eqHalfS_N w_eqHalfS
  exact bifT (f := k) (fun b0 => rfl)
      (fun b0 => loopT (f := k) (w_eqHalfS_L0_cl x0 x1 0 (by (try simp only [Nat.ble_eq, Bool.and_eq_true, decide_eq_true_eq, w_eqHalfS_L0_mx0, w_eqHalfS_L0_mx1]); grind [maxSl, maxStr, toBytes_length, toInts_length, List.length_set, wrap64]) (by (try simp only [Nat.ble_eq, Bool.and_eq_true, decide_eq_true_eq, w_eqHalfS_L0_mx0, w_eqHalfS_L0_mx1]); grind [maxSl, maxStr, toBytes_length, toInts_length, List.length_set, wrap64]) (by (try simp only [Nat.ble_eq, Bool.and_eq_true, decide_eq_true_eq, w_eqHalfS_L0_mx0, w_eqHalfS_L0_mx1]); grind [maxSl, maxStr, toBytes_length, toInts_length, List.length_set, wrap64])) (fun a3 => rfl)
      (fun p3 => rfl))
theorem w_eqHalfS_c (x0 : List Half) (x1 : List Half)  : Con Try.prog 78 (pvs [.sc (.sl .half), .sc (.sl .half)] (x0, x1, ())) [rv (.sc .bool) [] (w_eqHalfS x0 x1)] := by
  refine Con.of_facts (enters_of Try.func78 rfl (by kernel_rfl)) fun hf => ?_
  replace hf := factAt hf
  exact evalFn_conL teFact mixFact (orcOf_ok _) Try.func78 (by kernel_rfl) (bs := [0]) (by kernel_rfl) (by kernel_rfl) (fun w0 mo I0 hmo => ⟨lsem_of_lorc (w_eqHalfS_L0_ls w0 mo I0 hmo) (by kernel_rfl), trivial⟩) ((w_eqHalfS_lk x0 x1).trans (w_eqHalfS_p x0 x1 ((hf 0 0 rfl rfl).len) ((hf 1 0 rfl rfl).len) _ _ _))
noncomputable def w_eqHalfS_e : Ent1 Try.prog := entA 78 [.sc (.sl .half), .sc (.sl .half)] (fun x => (w_eqHalfS x.1 x.2.1)) (fun v => [rv (.sc .bool) [] v]) (fun x => w_eqHalfS_c x.1 x.2.1)


end Go.Proofs.Ytbikbonhcfbmeaa
