/-
  Contracts of functions and plain laws (printed by a program): each theorem says what a function of the program returns; conditions are its hypotheses.
-/
import Derived.Test.YtcjbalpokdgicaaDoorBase
set_option maxRecDepth 4000
set_option linter.unusedVariables false
set_option linter.unusedSimpArgs false
namespace Go.Proofs.YtcjbalpokdgicaaDoor
open Go Go.RowKit

theorem con_plain {P : Program} {f : Nat} {A : List PV} {c : Cell} (he : ∀ args w, (callFunc f args).run P w = .ok (.enter f args) w)
    (h : ∀ (w : World) (J : Nat → Prop) (vs : Array Value), (∀ b, J b → b < w.heap.size) → GW w → All2 (RepPV J w) A vs.toList → Calls P f vs w fun e w' => ∃ v, e = .returned v ∧ Below w.heap.size w w' ∧ RepC (fun _ => False) w' c v) : Con P f A [(false, [.c c])] := by
  refine ⟨he, fun w J mo vs hJ hmo hinj hX hg hgx hA => ?_⟩
  have hmo0 : mo = [] := (match mo, hmo with | [], _ => rfl | _ :: _, h => h.elim)
  subst hmo0
  refine (h w J vs hJ hg hA).mono ?_
  rintro e w' ⟨v, rfl, hB, hr⟩
  refine ⟨v, fun _ => False, fun _ => none, rfl, ⟨hB.os, hB.tape, hB.output, hB.size, fun b hb _ => hB.block b hb⟩, ?_, ?_, ?_, ?_, trivial, trivial⟩
  · intro b h; exact h.elim
  · intro i j b c c' h; cases h
  · intro i b c h; cases h
  · exact ⟨hr.one, rfl, hr.mono (fun _ h => h.elim) (fun _ h => h.elim), trivial⟩
theorem one_of {R : PV → Value → Prop} {a : PV} {vs : Array Value} (h : All2 R [a] vs.toList) : ∃ v, vs = #[v] ∧ R a v := by
  obtain ⟨l⟩ := vs
  match l, h with
  | [v], h => exact ⟨v, rfl, h.1⟩
theorem two_of {R : PV → Value → Prop} {a b : PV} {vs : Array Value} (h : All2 R [a, b] vs.toList) : ∃ u v, vs = #[u, v] ∧ R a u ∧ R b v := by
  obtain ⟨l⟩ := vs
  match l, h with
  | [u, v], h => exact ⟨u, v, rfl, h.1, h.2.1⟩
theorem tabW {w : World} (h : GW w) : Lib.TabIs Tryd.prog w "internal/strconv.uint64pow10" .u64 Lib.pow10Tab := by
  obtain ⟨t, z, h1⟩ := h (0, (List.range 20).map fun i => ((10 ^ i : Nat) : Int)) (by simp [gTabs])
  unfold Lib.TabIs World.var?
  rw [show Tryd.prog.globalNamed "internal/strconv.uint64pow10" = some 0 by kernel_rfl]
  simp only [Option.bind_some, h1]
  rfl
theorem below_grown {w : World} (k : Nat) (os : Array Obj) : Below w.heap.size w (Go.Sort.grow (w.drewN k) os) := by
  have e : (w.drewN k).heap = w.heap := by first | rfl | simp
  refine ⟨by first | rfl | simp [Go.Sort.grow], by first | rfl | simp [Go.Sort.grow], by first | rfl | simp [Go.Sort.grow], by simp [Go.Sort.grow, e], fun b hb => ?_⟩
  simp only [Go.Sort.grow, e]
  rw [Array.getElem?_append_left hb]
/-- strconv.Itoa -/
def lb_Itoa (x0 : Int) : Bytes := Lib.itoa x0
theorem decDigits_len : ∀ (k u : Nat), u < 10 ^ (k + 1) → (Lib.decDigits u).length ≤ k + 1
  | 0, u, h => by
    rw [Lib.decDigits]
    simp at h
    simp [h]
  | k + 1, u, h => by
    rw [Lib.decDigits]
    split
    · simp
    · have : u / 10 < 10 ^ (k + 1) := by
        rw [Nat.div_lt_iff_lt_mul (by omega)]
        rw [Nat.pow_succ] at h; exact h
      have := decDigits_len k (u / 10) this
      simp only [List.length_append, List.length_singleton]
      omega
theorem lb_Itoa_len (x0 : Int) (h : inK .i64 x0) : (lb_Itoa x0).length ≤ 20 := by
  have h2 := inK64 h
  unfold lb_Itoa Lib.itoa
  split
  · have := decDigits_len 18 x0.natAbs (by omega)
    simp only [List.length_cons]; omega
  · have := decDigits_len 18 x0.toNat (by omega)
    omega
theorem lb_Itoa_c (x0 : Int) : Con Tryd.prog 68 (pvs [.sc (.int .i64)] (x0, ())) [rv (.sc .str) [] (lb_Itoa x0)] := by
  refine con_plain (enters_of Tryd.func68 rfl (by kernel_rfl)) fun w J vs hJ hg hA => ?_
  obtain ⟨v, rfl, c, hc, hr⟩ := one_of hA
  cases hc
  obtain ⟨hk, rfl⟩ : inK .i64 x0 ∧ v = .int .i64 x0 := by cases hr with | int _ _ h => exact ⟨h, rfl⟩
  have hb := inK64 hk
  refine (Tryd.strconv_Itoa x0 hb.1 hb.2 w (tabW hg)).mono ?_
  rintro e w' ⟨rfl, k, os, rfl⟩
  refine ⟨_, rfl, below_grown k os, ?_⟩
  have hl := lb_Itoa_len x0 hk
  exact .str ⟨(Lib.itoa x0).toArray⟩ (by show (Lib.itoa x0).length ≤ maxStr; unfold lb_Itoa at hl; have : maxStr = 4611686018427387904 := rfl; omega)
noncomputable def lb_Itoa_e : Ent1 Tryd.prog := entA 68 [.sc (.int .i64)] (fun x => (lb_Itoa x.1)) (fun v => [rv (.sc .str) [] v]) (fun x => lb_Itoa_c x.1)
/-- strings.IndexByte -/
def lb_IndexByte (x0 : Bytes) (x1 : Int) : Int := Lib.indexByte x0 x1.toNat.toUInt8
theorem indexByte_lt (c : UInt8) : ∀ l : List UInt8, Lib.indexByte l c ≤ l.length
  | [] => by simp [Lib.indexByte]
  | b :: l => by
    have := indexByte_lt c l
    simp only [Lib.indexByte, List.length_cons]
    split
    · omega
    · split <;> omega
theorem lb_IndexByte_c (x0 : Bytes) (x1 : Int) : Con Tryd.prog 94 (pvs [.sc .str, .sc (.int .u8)] (x0, x1, ())) [rv (.sc (.int .i64)) [] (lb_IndexByte x0 x1)] := by
  refine con_plain (enters_of Tryd.func94 rfl (by kernel_rfl)) fun w J vs hJ hg hA => ?_
  obtain ⟨u, v, rfl, ⟨c, hc, hr⟩, ⟨d, hd, hs⟩⟩ := two_of hA
  cases hc; cases hd
  obtain ⟨b, hbl, rfl, rfl⟩ : ∃ b : ByteArray, b.data.toList.length ≤ maxStr ∧ x0 = b.data.toList ∧ u = .string b := by cases hr with | str b h => exact ⟨b, h, rfl, rfl⟩
  obtain rfl : v = .int .u8 x1 := by cases hs with | int _ _ h => rfl
  refine (Tryd.strings_IndexByte b x1 w).mono ?_
  rintro e w' ⟨rfl, rfl⟩
  refine ⟨_, rfl, Below.refl _ _, ?_⟩
  refine .int .i64 _ ?_
  have h1 := Lib.indexByte_ge b.data.toList x1.toNat.toUInt8
  have h2 := indexByte_lt x1.toNat.toUInt8 b.data.toList
  have h3 : maxStr = 4611686018427387904 := rfl
  constructor
  · show (-9223372036854775808 : Int) ≤ Lib.indexByte b.data.toList x1.toNat.toUInt8; omega
  · show Lib.indexByte b.data.toList x1.toNat.toUInt8 ≤ (9223372036854775807 : Int); omega
noncomputable def lb_IndexByte_e : Ent1 Tryd.prog := entA 94 [.sc .str, .sc (.int .u8)] (fun x => (lb_IndexByte x.1 x.2.1)) (fun v => [rv (.sc (.int .i64)) [] v]) (fun x => lb_IndexByte_c x.1 x.2.1)
/-- strings.Join -/
def lb_Join (x0 : List Bytes) (x1 : Bytes) : Bytes := Lib.join x0 x1
theorem ba_eq (b : ByteArray) : b = ⟨b.data.toList.toArray⟩ := by cases b; simp
theorem lb_Join_c (x0 : List Bytes) (x1 : Bytes) (hp : (lb_Join x0 x1).length ≤ 140737488355328) : Con Tryd.prog 85 (pvs [.sc (.sl .str), .sc .str] (x0, x1, ())) [rv (.sc .str) [] (lb_Join x0 x1)] := by
  refine con_plain (enters_of Tryd.func85 rfl (by kernel_rfl)) fun w J vs hJ hg hA => ?_
  obtain ⟨u, v, rfl, ⟨c, hc, hr⟩, ⟨d, hd, hs⟩⟩ := two_of hA
  cases hc; cases hd
  obtain ⟨b, hbl, rfl, rfl⟩ : ∃ b : ByteArray, b.data.toList.length ≤ maxStr ∧ x1 = b.data.toList ∧ v = .string b := by cases hs with | str b h => exact ⟨b, h, rfl, rfl⟩
  have h3 : maxStr = 4611686018427387904 := rfl
  have fin : ∀ w', RepC (fun _ => False) w' (.str (lb_Join x0 b.data.toList)) (.string ⟨(Lib.join x0 b.data.toList).toArray⟩) := fun w' =>
    .str ⟨(Lib.join x0 b.data.toList).toArray⟩ (by show (Lib.join x0 b.data.toList).length ≤ maxStr; unfold lb_Join at hp; omega)
  have none_ : ∀ a cap, x0 = [] → Calls Tryd.prog 85 #[.slice a 0 cap, .string b] w fun e w' => ∃ v, e = .returned v ∧ Below w.heap.size w w' ∧ RepC (fun _ => False) w' (.str (lb_Join x0 b.data.toList)) v := fun a cap h => by
    subst h
    refine (Tryd.strings_Join_none a cap b w).mono ?_
    rintro e w' ⟨rfl, rfl⟩
    exact ⟨_, rfl, Below.refl _ _, fin _⟩
  cases hr with
  | nil => exact none_ none 0 rfl
  | emp _ a cap => exact none_ (some a) cap rfl
  | sl _ xs bk off cap us hJb hl hcap hcell hrep =>
    cases hx : x0 with
    | nil => subst hx; exact none_ (some ⟨bk, off, none⟩) cap rfl
    | cons y ys =>
      have hlt := hJ _ (hJb (by rw [hx]; simp))
      have hm : (x0.map fun x => (⟨x.toArray⟩ : ByteArray)).map (·.data.toList) = x0 := by
        rw [List.map_map]
        exact List.map_id' x0
      have := Tryd.strings_Join bk off cap (x0.map fun x => (⟨x.toArray⟩ : ByteArray)) b w (fun j x hj => by
        rw [List.getElem?_map] at hj
        obtain ⟨z, hz, rfl⟩ := Option.map_eq_some_iff.1 hj
        have h4 := hcell j z 0 (.str z) hz rfl
        have h5 := hrep j z 0 (.str z) hz rfl
        have e : off + j * Ty.size .str + 0 = off + j := by show off + j * 1 + 0 = off + j; omega
        rw [e] at h4
        rw [h4]
        generalize us j 0 = q at h5
        cases h5 with
        | str bb _ => rw [← ba_eq bb]) hlt (by rw [List.length_map]; exact hl) (by rw [List.length_map]; exact hcap) (by rw [hm]; exact hp)
      rw [hm, List.length_map] at this
      rw [← hx]
      refine this.mono ?_
      rintro e w' ⟨rfl, hB⟩
      exact ⟨_, rfl, hB, fin _⟩
noncomputable def lb_Join_e : Ent1 Tryd.prog := entP 85 [.sc (.sl .str), .sc .str] (fun x => (decide ((lb_Join x.1 x.2.1).length ≤ 140737488355328))) (fun x => (lb_Join x.1 x.2.1)) (fun v => [rv (.sc .str) [] v]) (fun x hx => lb_Join_c x.1 x.2.1 (of_decide_eq_true hx))
theorem lb_Join_len (x0 : List Bytes) (x1 : Bytes) (h0 : x0.length ≤ 65536) (h1 : ∀ y ∈ x0, List.length y ≤ 65536) (h2 : x1.length ≤ 65536) : (lb_Join x0 x1).length ≤ 8589934592 := by
  unfold lb_Join
  cases x0 with
  | nil => simp [Lib.join_nil]
  | cons x r =>
    rw [Lib.join_cons]
    have key : ∀ r : List Bytes, (∀ y ∈ r, List.length y ≤ 65536) → (Lib.joinTail x1 r).length ≤ r.length * 131072 := by
      intro r
      induction r with
      | nil => intro _; simp [Lib.joinTail]
      | cons y r ih =>
        intro h
        have e : Lib.joinTail x1 (y :: r) = (x1 ++ y) ++ Lib.joinTail x1 r := by simp [Lib.joinTail]
        rw [e]
        have := ih fun z hz => h z (List.mem_cons_of_mem _ hz)
        have := h y List.mem_cons_self
        simp only [List.length_append, List.length_cons]
        omega
    have a := key r fun z hz => h1 z (List.mem_cons_of_mem _ hz)
    have b := h1 x List.mem_cons_self
    simp only [List.length_append, List.length_cons] at h0 ⊢
    omega
theorem and15 (s : Bytes) (i : Nat) : 0 ≤ bits .and .u8 (byteAt s i) 15 ∧ bits .and .u8 (byteAt s i) 15 < 16 := by
  unfold byteAt
  have h := (s.getD i 0).toNat_lt
  generalize (s.getD i 0).toNat = n at h
  have key : ∀ n : Nat, n < 256 → 0 ≤ bits .and .u8 (n : Int) 15 ∧ bits .and .u8 (n : Int) 15 < 16 := by decide +kernel
  exact key n h
theorem fdiv_k {x d : Int} (h : inK .i64 x) (hd : 1 ≤ d) : inK .i64 (x.fdiv d) := by
  have h2 := inK64 h
  rw [Int.fdiv_eq_ediv_of_nonneg _ (by omega)]

  constructor
  · show (-9223372036854775808 : Int) ≤ x / d
    rw [Int.le_ediv_iff_mul_le (by omega)]
    have : (9223372036854775808 : Int) * 1 ≤ 9223372036854775808 * d := Int.mul_le_mul_of_nonneg_left hd (by omega)
    omega
  · show x / d ≤ (9223372036854775807 : Int)
    rcases Int.lt_or_le x 0 with h3 | h3
    · have := Int.ediv_neg_of_neg_of_pos h3 (show 0 < d by omega); omega
    · have := Int.ediv_le_self d h3; omega
theorem and255_k (x : Int) : inK .i64 (bits .and .i64 x 255) := by
  have := and255 x
  constructor
  · show (-9223372036854775808 : Int) ≤ _; omega
  · show _ ≤ (9223372036854775807 : Int); omega

/-- laws.toTuple -/
def w_toTuple_N (x0 : Tupl) (γ : Type) (fail : γ) (k : Tupl → γ) : γ :=
  k x0
def w_toTuple (x0 : Tupl) : Tupl :=
  x0
theorem w_toTuple_lk (x0 : Tupl) : evalFn te (orcOf (P := Tryd.prog) []) lorc0 [] Tryd.f9 (pvs [.st .tupl] (x0, ())) =
  w_toTuple_N x0 _ none (fun v => some [(true, [RC.c (.int .i64 v.ip), RC.c (.int .i64 v.port), RC.c (.int .i64 v.my)])]) := by kernel_rfl
theorem w_toTuple_p (x0 : Tupl)   (γ : Type) (fail : γ) (k : Tupl → γ) : w_toTuple_N x0 γ fail k = k (w_toTuple x0) := by
  unfold w_toTuple_N w_toTuple
  exact rfl
theorem w_toTuple_c (x0 : Tupl)  : Con Tryd.prog 9 (pvs [.st .tupl] (x0, ())) [rv (.st .tupl) [] (w_toTuple x0)] := by
  exact evalFn_con0 teFact mixFact (orcOf_ok _) Tryd.func9 (by kernel_rfl) ((w_toTuple_lk x0).trans (w_toTuple_p x0  _ _ _))
noncomputable def w_toTuple_e : Ent1 Tryd.prog := entA 9 [.st .tupl] (fun x => (w_toTuple x.1)) (fun v => [rv (.st .tupl) [] v]) (fun x => w_toTuple_c x.1)


/-- spec.Digits -/
def s_Digits_ann : List (Nat × Keep) := [(0, ⟨[0, 3, 4], [], false, 0⟩)]
def s_Digits_L0_sh : Sh := ⟨[(0, false, [.int .i64]), (3, false, [.bool]), (4, false, [.str])], []⟩
def s_Digits_L0_es : List (Ex × Sh) := [(.exit 0, ⟨[(2, false, [.undef]), (3, false, [.bool]), (4, false, [.str])], []⟩)]
def s_Digits_L0_mk (v0 : Int) (v1 : Bool) (v2 : Bytes) : s_Digits_L0_sh.T := (((v0, ()), ((v1, ()), ((v2, ()), ()))), ())
def s_Digits_L0_mx0 (y0 : Bool) (y1 : Bytes) : Sh.T ⟨[(2, false, [.undef]), (3, false, [.bool]), (4, false, [.str])], []⟩ := ((((), ()), ((y0, ()), ((y1, ()), ()))), ())
def s_Digits_L0_B (v0 : Int) (v1 : Bool) (v2 : Bytes) (γ : Type) (fail : γ) (next : s_Digits_L0_sh.T → γ) (out : WT s_Digits_L0_es → γ) : γ :=
  bif (v0 != 0) then
    bif (decide ((v0.tmod 10) < 0)) then
      letK (α := Int) (IntKind.wrap .u8 (IntKind.wrap .i64 (48 + (IntKind.wrap .i64 (0 - (v0.tmod 10)))))) fun e1 =>
      bif (Nat.ble ((toBytes [e1]).length + v2.length) maxStr) then
      next (s_Digits_L0_mk (IntKind.wrap .i64 (v0.tdiv 10)) v1 ((toBytes [e1]) ++ v2))
      else fail
    else
    bif (Nat.ble ((toBytes [(IntKind.wrap .u8 (IntKind.wrap .i64 (48 + (v0.tmod 10))))]).length + v2.length) maxStr) then
    letK (α := Bytes) ((toBytes [(IntKind.wrap .u8 (IntKind.wrap .i64 (48 + (v0.tmod 10))))]) ++ v2) fun e2 =>
    next (s_Digits_L0_mk (IntKind.wrap .i64 (v0.tdiv 10)) v1 e2)
    else fail
  else
  out (s_Digits_L0_mx0 v1 v2)
theorem s_Digits_L0_par (v0 : Int) (v1 : Bool) (v2 : Bytes) (γ : Type) (fail : γ) (next : s_Digits_L0_sh.T → γ) (out : WT s_Digits_L0_es → γ) : s_Digits_L0_B v0 v1 v2 γ fail next out = optK (s_Digits_L0_B v0 v1 v2 _ none (fun v' => some (.inl v')) (fun w => some (.inr w))) fail (fun r => Sum.elim next out r) := by
  unfold s_Digits_L0_B
  exact bifT (f := (fun o => optK o fail (fun r => Sum.elim next out r))) (fun _ => bifT (f := (fun o => optK o fail (fun r => Sum.elim next out r))) (fun _ => letT (f := (fun o => optK o fail (fun r => Sum.elim next out r))) (fun e1 _ => bifT (f := (fun o => optK o fail (fun r => Sum.elim next out r))) (fun _ => rfl) (fun _ => rfl)))
      (fun _ => bifT (f := (fun o => optK o fail (fun r => Sum.elim next out r))) (fun _ => letT (f := (fun o => optK o fail (fun r => Sum.elim next out r))) (fun e2 _ => rfl)) (fun _ => rfl)))
      (fun _ => rfl)
def s_Digits_L0_r : Round s_Digits_L0_sh.T (WT s_Digits_L0_es) where
  B v γ fail next out := s_Digits_L0_B v.1.1.1 v.1.2.1.1 v.1.2.2.1.1 γ fail next out
  par v γ fail next out := s_Digits_L0_par v.1.1.1 v.1.2.1.1 v.1.2.2.1.1 γ fail next out
def s_Digits_L0_fu (v0 : Int) (v1 : Bool) (v2 : Bytes) : Nat := (Int.natAbs v0) + 1
theorem s_Digits_L0_lk (v : s_Digits_L0_sh.T) (next : St → Option Res) (k : Ex → St → Option Res) : evalK te (orcOf (P := Tryd.prog) []) (lorcOf []) Tryd.f31.ntmps s_Digits_ann (nthLoop (bodyOf Tryd.f31) 0 0) 0 (s_Digits_L0_sh.enc v) (endK ⟨[0, 3, 4], [], false, 0⟩ ⟨[2, 3, 4], [], false, 0⟩ next k) =
  s_Digits_L0_r.B v _ none (fun v' => next (s_Digits_L0_sh.enc v')) (fun w => outK s_Digits_L0_es k w) := by kernel_rfl
def s_Digits_L0_le : LE := leOf 0 s_Digits_L0_sh s_Digits_L0_es s_Digits_L0_r.step (fun v => s_Digits_L0_fu v.1.1.1 v.1.2.1.1 v.1.2.2.1.1)
theorem s_Digits_L0_ls (w0 : World) (mo : Mts) (I0 : Nat → Prop) (hmo : mo.length = 0) : LSem Tryd.prog (Sim w0 mo Tryd.f31.ntmps I0) (fun b s k => match Nat.beq 0 b with | true => s_Digits_L0_le.run s k | false => none) 0 (nthLoop (bodyOf Tryd.f31) 0 0) :=
  le_sem hmo (lorc := lorcOf []) (ann := s_Digits_ann) (keep := ⟨[0, 3, 4], [], false, 0⟩) (kout := ⟨[2, 3, 4], [], false, 0⟩) teFact mixFact (orcOf_ok _) (by kernel_rfl) (allLoops_of (bs := []) (by kernel_rfl) trivial) s_Digits_L0_r _ s_Digits_L0_lk
def s_Digits_L0_f (v1 : Bool) (a : Int × Bytes) : Stp (Int × Bytes) ((Bytes)) :=
  bif (a.1 != 0) then
    bif (decide ((a.1.tmod 10) < 0)) then
      letK (α := Int) (IntKind.wrap .u8 (IntKind.wrap .i64 (48 + (IntKind.wrap .i64 (0 - (a.1.tmod 10)))))) fun e1 =>
      .next ((IntKind.wrap .i64 (a.1.tdiv 10)), ((toBytes [e1]) ++ a.2))
    else
    letK (α := Bytes) ((toBytes [(IntKind.wrap .u8 (IntKind.wrap .i64 (48 + (a.1.tmod 10))))]) ++ a.2) fun e2 =>
    .next ((IntKind.wrap .i64 (a.1.tdiv 10)), e2)
  else
  .out (a.2)
def s_Digits_L0_w (v0 : Int) (v1 : Bool) (v2 : Bytes) : (Bytes) := whileN (s_Digits_L0_f v1) (s_Digits_L0_fu v0 v1 v2) (v0, v2)
theorem s_Digits_L0_st (v0 : Int) (v1 : Bool) (v2 : Bytes) (hinv : -9223372036854775808 ≤ v0 ∧ v0 ≤ 9223372036854775807 ∧ 9 * (v2.length : Int) + v0.natAbs ≤ 9223372036854775817 ∧ (v0 = 0 ∨ 9 * (v2.length : Int) + v0.natAbs ≤ 9223372036854775808)) : s_Digits_L0_r.step (s_Digits_L0_mk v0 v1 v2) = Stp.elim (fun a' : Int × Bytes => some (Sum.inl (s_Digits_L0_mk a'.1 v1 a'.2))) (fun w => some (Sum.inr ((fun p : Bytes => s_Digits_L0_mx0 v1 p) w))) (s_Digits_L0_f v1 (v0, v2)) := by
  show s_Digits_L0_B v0 v1 v2 (Option (s_Digits_L0_sh.T ⊕ WT s_Digits_L0_es)) none (fun v' => some (Sum.inl v')) (fun w => some (Sum.inr w)) = _
  unfold s_Digits_L0_B s_Digits_L0_f
  exact bifT (f := (Stp.elim (fun a' : Int × Bytes => some (Sum.inl (s_Digits_L0_mk a'.1 v1 a'.2))) (fun w => some (Sum.inr ((fun p : Bytes => s_Digits_L0_mx0 v1 p) w))))) (fun b0 => bifT (f := (Stp.elim (fun a' : Int × Bytes => some (Sum.inl (s_Digits_L0_mk a'.1 v1 a'.2))) (fun w => some (Sum.inr ((fun p : Bytes => s_Digits_L0_mx0 v1 p) w))))) (fun b1 => letT (f := (Stp.elim (fun a' : Int × Bytes => some (Sum.inl (s_Digits_L0_mk a'.1 v1 a'.2))) (fun w => some (Sum.inr ((fun p : Bytes => s_Digits_L0_mx0 v1 p) w))))) (fun e1 he1 => bifG (by (try simp only [Nat.ble_eq, Bool.and_eq_true, decide_eq_true_eq]); grind [maxSl, maxStr, toBytes_length, toInts_length, List.length_set, wrap64]) (rfl)))
      (fun b1 => bifG (by (try simp only [Nat.ble_eq, Bool.and_eq_true, decide_eq_true_eq]); grind [maxSl, maxStr, toBytes_length, toInts_length, List.length_set, wrap64]) (letT (f := (Stp.elim (fun a' : Int × Bytes => some (Sum.inl (s_Digits_L0_mk a'.1 v1 a'.2))) (fun w => some (Sum.inr ((fun p : Bytes => s_Digits_L0_mx0 v1 p) w))))) (fun e2 he2 => rfl))))
      (fun b0 => rfl)
theorem s_Digits_L0_dn (v1 : Bool) (a : Int × Bytes) (hv : -9223372036854775808 ≤ a.1 ∧ a.1 ≤ 9223372036854775807 ∧ 9 * (a.2.length : Int) + a.1.natAbs ≤ 9223372036854775817 ∧ (a.1 = 0 ∨ 9 * (a.2.length : Int) + a.1.natAbs ≤ 9223372036854775808)) (a' : Int × Bytes) (he : s_Digits_L0_f v1 a = .next a') : (-9223372036854775808 ≤ a'.1 ∧ a'.1 ≤ 9223372036854775807 ∧ 9 * (a'.2.length : Int) + a'.1.natAbs ≤ 9223372036854775817 ∧ (a'.1 = 0 ∨ 9 * (a'.2.length : Int) + a'.1.natAbs ≤ 9223372036854775808)) ∧ Int.natAbs a'.1 < Int.natAbs a.1 := by
  unfold s_Digits_L0_f at he
  cases hd : (a.1 != 0) with
  | false => rw [hd] at he; cases he
  | true =>
    rw [hd] at he
    have hd : a.1 ≠ 0 := by simpa using hd
    have h1 : a.1.tdiv 10 = if 0 ≤ a.1 then a.1 / 10 else -(-a.1 / 10) := by
      split
      · exact (tdiv_pos 10).1 (by omega)
      · exact (tdiv_pos 10).2 (by omega)
    have h2 : IntKind.i64.wrap (a.1.tdiv 10) = a.1.tdiv 10 := wrap64 (by rw [h1]; split <;> omega) (by rw [h1]; split <;> omega)
    cases hq : decide (a.1.tmod 10 < 0) <;> rw [hq] at he <;> simp only [cond_true, cond_false, letK] at he <;> cases he <;> simp only [h2, List.length_append, toBytes_length, List.length_singleton] <;> rw [h1] <;> split <;> omega
theorem s_Digits_L0_cl (v0 : Int) (v1 : Bool) (v2 : Bytes) (h0 : -9223372036854775808 ≤ v0 ∧ v0 ≤ 9223372036854775807 ∧ 9 * (v2.length : Int) + v0.natAbs ≤ 9223372036854775817 ∧ (v0 = 0 ∨ 9 * (v2.length : Int) + v0.natAbs ≤ 9223372036854775808)) : loopF s_Digits_L0_r.step (s_Digits_L0_fu v0 v1 v2) (s_Digits_L0_mk v0 v1 v2) = some ((fun p : Bytes => s_Digits_L0_mx0 v1 p) (s_Digits_L0_w v0 v1 v2)) :=
  while_loop (A := Int × Bytes) (step := s_Digits_L0_r.step) (mk := fun a => s_Digits_L0_mk a.1 v1 a.2) (f := s_Digits_L0_f v1) (emb := (fun p : Bytes => s_Digits_L0_mx0 v1 p)) (Inv := fun a => -9223372036854775808 ≤ a.1 ∧ a.1 ≤ 9223372036854775807 ∧ 9 * (a.2.length : Int) + a.1.natAbs ≤ 9223372036854775817 ∧ (a.1 = 0 ∨ 9 * (a.2.length : Int) + a.1.natAbs ≤ 9223372036854775808)) (meas := fun a => Int.natAbs a.1)
    (fun a hv => ⟨s_Digits_L0_st a.1 v1 a.2 hv, s_Digits_L0_dn v1 a hv⟩) _ (v0, v2) (Nat.lt_succ_self _) h0
theorem s_Digits_L0_post (v0 : Int) (v1 : Bool) (v2 : Bytes) (h : -9223372036854775808 ≤ v0 ∧ v0 ≤ 9223372036854775807 ∧ 9 * (v2.length : Int) + v0.natAbs ≤ 9223372036854775817 ∧ (v0 = 0 ∨ 9 * (v2.length : Int) + v0.natAbs ≤ 9223372036854775808)) : 9 * ((s_Digits_L0_w v0 v1 v2).length : Int) ≤ 9223372036854775817 := by
  refine whileN_post (f := s_Digits_L0_f v1) (Inv := fun a => -9223372036854775808 ≤ a.1 ∧ a.1 ≤ 9223372036854775807 ∧ 9 * (a.2.length : Int) + a.1.natAbs ≤ 9223372036854775817 ∧ (a.1 = 0 ∨ 9 * (a.2.length : Int) + a.1.natAbs ≤ 9223372036854775808)) (Q := fun w => 9 * ((w : Bytes).length : Int) ≤ 9223372036854775817) (meas := fun a => Int.natAbs a.1) (fun a hi a' he => s_Digits_L0_dn v1 a hi a' he) (fun a hi w he => ?_) _ (v0, v2) (Nat.lt_succ_self _) h
  unfold s_Digits_L0_f at he
  cases hd : (a.1 != 0) <;> rw [hd] at he
  · cases he; have := hi.2.2.1; show 9 * (a.2.length : Int) ≤ _; omega
  · cases hq : decide (a.1.tmod 10 < 0) <;> rw [hq] at he <;> simp only [cond_true, cond_false, letK] at he <;> cases he

def s_Digits_N (x0 : Int) (γ : Type) (fail : γ) (k : Bytes → γ) : γ :=
  bif (x0 == 0) then
    k [48]
  else
  optK (loopF s_Digits_L0_r.step (s_Digits_L0_fu x0 (decide (x0 < 0)) []) (s_Digits_L0_mk x0 (decide (x0 < 0)) [])) fail fun w3 =>
    bif w3.1.2.1.1 then
      bif (Nat.ble (1 + w3.1.2.2.1.1.length) maxStr) then
      k ([45] ++ w3.1.2.2.1.1)
      else fail
    else
    k w3.1.2.2.1.1
def s_Digits (x0 : Int) : Bytes :=
  bif (x0 == 0) then
    [48]
  else
  letK (α := (Bytes)) (s_Digits_L0_w x0 (decide (x0 < 0)) [])
    (fun p4 =>
      bif (decide (x0 < 0)) then
        ([45] ++ p4)
      else
      p4)
theorem s_Digits_lk (x0 : Int) : evalFn te (orcOf (P := Tryd.prog) []) (lorcOf [s_Digits_L0_le]) s_Digits_ann Tryd.f31 (pvs [.sc (.int .i64)] (x0, ())) =
  s_Digits_N x0 _ none (fun v => some [(false, [RC.c (.str v)])]) := by kernel_rfl
theorem s_Digits_p (x0 : Int) (hx0 : inK .i64 x0)  (γ : Type) (fail : γ) (k : Bytes → γ) : s_Digits_N x0 γ fail k = k (s_Digits x0) := by
  unfold s_Digits_N s_Digits
  exact bifT (f := k) (fun b0 => rfl)
      (fun b0 => loopW (f := k) (emb := (fun p : Bytes => s_Digits_L0_mx0 (decide (x0 < 0)) p)) (s_Digits_L0_cl x0 (decide (x0 < 0)) [] (by first | (have hh := inK64 hx0; refine ⟨hh.1, hh.2, ?_, ?_⟩ <;> simp only [List.length_nil] <;> omega) | (have hh := inK64 hx0; have hq := s_Digits_L0_post x0 (decide (x0 < 0)) [] (by refine ⟨hh.1, hh.2, ?_, ?_⟩ <;> simp only [List.length_nil] <;> omega); subst_vars; simp only [Nat.ble_eq, maxStr, s_Digits_L0_mx0, List.length_singleton] at *; omega))) (fun p4 hp4 => bifT (f := k) (fun b1 => bifG (by first | (have hh := inK64 hx0; refine ⟨hh.1, hh.2, ?_, ?_⟩ <;> simp only [List.length_nil] <;> omega) | (have hh := inK64 hx0; have hq := s_Digits_L0_post x0 (decide (x0 < 0)) [] (by refine ⟨hh.1, hh.2, ?_, ?_⟩ <;> simp only [List.length_nil] <;> omega); subst_vars; simp only [Nat.ble_eq, maxStr, s_Digits_L0_mx0, List.length_singleton] at *; omega)) (rfl))
      (fun b1 => rfl)))
theorem s_Digits_c (x0 : Int)  : Con Tryd.prog 31 (pvs [.sc (.int .i64)] (x0, ())) [rv (.sc .str) [] (s_Digits x0)] := by
  refine Con.of_facts (enters_of Tryd.func31 rfl (by kernel_rfl)) fun hf => ?_
  replace hf := factAt hf
  exact evalFn_conL teFact mixFact (orcOf_ok _) Tryd.func31 (by kernel_rfl) (bs := [0]) (by kernel_rfl) (by kernel_rfl) (fun w0 mo I0 hmo => ⟨lsem_of_lorc (s_Digits_L0_ls w0 mo I0 hmo) (by kernel_rfl), trivial⟩) ((s_Digits_lk x0).trans (s_Digits_p x0 ((hf 0 0 rfl rfl).rng) _ _ _))
noncomputable def s_Digits_e : Ent1 Tryd.prog := entA 31 [.sc (.int .i64)] (fun x => (s_Digits x.1)) (fun v => [rv (.sc .str) [] v]) (fun x => s_Digits_c x.1)

theorem s_Digits_small (x0 : Int) (h : x0.natAbs < 1000) : (s_Digits x0).length ≤ 4 := by
  unfold s_Digits
  cases hz : (x0 == 0) with
  | true => simp
  | false =>
    have hq : ((s_Digits_L0_w x0 (decide (x0 < 0)) []) : Bytes).length ≤ 3 := by
      refine whileN_post (f := s_Digits_L0_f (decide (x0 < 0))) (Inv := fun a => (a.1.natAbs < 1000 ∧ a.2.length = 0) ∨ (a.1.natAbs < 100 ∧ a.2.length ≤ 1) ∨ (a.1.natAbs < 10 ∧ a.2.length ≤ 2) ∨ (a.1 = 0 ∧ a.2.length ≤ 3)) (Q := fun w => ((w : Bytes).length : Nat) ≤ 3) (meas := fun a => Int.natAbs a.1) (fun a hi a' he => ?_) (fun a hi w he => ?_) _ (x0, []) (Nat.lt_succ_self _) (.inl ⟨h, rfl⟩)
      · unfold s_Digits_L0_f at he
        cases hd : (a.1 != 0) with
        | false => rw [hd] at he; cases he
        | true =>
          rw [hd] at he
          have hd : a.1 ≠ 0 := by simpa using hd
          have h1 : a.1.tdiv 10 = if 0 ≤ a.1 then a.1 / 10 else -(-a.1 / 10) := by
            split
            · exact (tdiv_pos 10).1 (by omega)
            · exact (tdiv_pos 10).2 (by omega)
          have h2 : IntKind.i64.wrap (a.1.tdiv 10) = a.1.tdiv 10 := wrap64 (by rw [h1]; split <;> omega) (by rw [h1]; split <;> omega)
          cases hq : decide (a.1.tmod 10 < 0) <;> rw [hq] at he <;> simp only [cond_true, cond_false, letK] at he <;> cases he <;> simp only [h2, List.length_append, toBytes_length, List.length_singleton] <;> rw [h1] <;> split <;> omega
      · unfold s_Digits_L0_f at he
        cases hd : (a.1 != 0) <;> rw [hd] at he
        · cases he; show a.2.length ≤ 3; omega
        · cases hq : decide (a.1.tmod 10 < 0) <;> rw [hq] at he <;> simp only [cond_true, cond_false, letK] at he <;> cases he
    simp only [cond_false, letK]
    cases hd : decide (x0 < 0) <;> rw [hd] at hq <;> simp only [cond_true, cond_false, List.length_append, List.length_singleton] <;> omega

theorem s_Digits_len (x0 : Int) (h : inK .i64 x0) : (s_Digits x0).length ≤ 1024819115206086202 := by
  have hh := inK64 h
  unfold s_Digits
  cases hz : (x0 == 0) with
  | true => simp
  | false =>
    have hq := s_Digits_L0_post x0 (decide (x0 < 0)) [] (by refine ⟨hh.1, hh.2, ?_, ?_⟩ <;> simp only [List.length_nil] <;> omega)
    simp only [cond_false, letK]
    cases hd : decide (x0 < 0) <;> rw [hd] at hq <;> simp only [cond_true, cond_false, List.length_append, List.length_singleton] <;> omega


/-- impl.Digits -/
def i_Digits_N (x0 : Int) (γ : Type) (fail : γ) (k : Bytes → γ) : γ :=
  letK (α := Bytes) (lb_Itoa x0) fun c1 =>
  k c1
def i_Digits (x0 : Int) : Bytes :=
  letK (α := Bytes) (lb_Itoa x0) fun c1 =>
  c1
theorem i_Digits_lk (x0 : Int) : evalFn te (orcOf (P := Tryd.prog) [lb_Itoa_e]) lorc0 [] Tryd.f34 (pvs [.sc (.int .i64)] (x0, ())) =
  i_Digits_N x0 _ none (fun v => some [(false, [RC.c (.str v)])]) := by kernel_rfl
theorem i_Digits_p (x0 : Int)   (γ : Type) (fail : γ) (k : Bytes → γ) : i_Digits_N x0 γ fail k = k (i_Digits x0) := by
  unfold i_Digits_N i_Digits
  exact letT (f := k) (fun c1 hc1 => rfl)
theorem i_Digits_c (x0 : Int)  : Con Tryd.prog 34 (pvs [.sc (.int .i64)] (x0, ())) [rv (.sc .str) [] (i_Digits x0)] := by
  exact evalFn_con0 teFact mixFact (orcOf_ok _) Tryd.func34 (by kernel_rfl) ((i_Digits_lk x0).trans (i_Digits_p x0  _ _ _))
noncomputable def i_Digits_e : Ent1 Tryd.prog := entA 34 [.sc (.int .i64)] (fun x => (i_Digits x.1)) (fun v => [rv (.sc .str) [] v]) (fun x => i_Digits_c x.1)

theorem i_Digits_len (x0 : Int)  (h : inK .i64 x0) : (fun v : Bytes => v.length ≤ 20) (i_Digits x0) := by
  unfold i_Digits
  exact letP (P := (fun v : Bytes => v.length ≤ 20)) (fun c1 hc1 => (by subst_vars; exact lb_Itoa_len x0 h))
theorem i_Dig4 (x0 : Int) (h : inK .i64 x0) : ([i_Digits (x0.fdiv 16777216), i_Digits (bits .and .i64 (x0.fdiv 65536) 255), i_Digits (bits .and .i64 (x0.fdiv 256) 255), i_Digits (bits .and .i64 x0 255)] : List Bytes).length ≤ 65536 ∧ (∀ y ∈ ([i_Digits (x0.fdiv 16777216), i_Digits (bits .and .i64 (x0.fdiv 65536) 255), i_Digits (bits .and .i64 (x0.fdiv 256) 255), i_Digits (bits .and .i64 x0 255)] : List Bytes), List.length y ≤ 65536) ∧ ([46] : Bytes).length ≤ 65536 := by
  refine ⟨by simp, fun y hy => ?_, by simp⟩
  simp only [List.mem_cons, List.not_mem_nil, or_false] at hy
  rcases hy with rfl | rfl | rfl | rfl
  · exact Nat.le_trans (i_Digits_len _ (fdiv_k h (by omega))) (by decide)
  · exact Nat.le_trans (i_Digits_len _ (and255_k _)) (by decide)
  · exact Nat.le_trans (i_Digits_len _ (and255_k _)) (by decide)
  · exact Nat.le_trans (i_Digits_len _ (and255_k _)) (by decide)


/-- spec.Parts -/
def s_Parts_ann : List (Nat × Keep) := [(0, ⟨[0, 1, 5, 6, 7], [], false, 0⟩)]
def s_Parts_L0_sh : Sh := ⟨[(0, false, [.str]), (1, false, [.int .u8]), (5, false, [.own 0]), (6, false, [.int .i64]), (7, false, [.int .i64])], [.arr .str false true]⟩
def s_Parts_L0_es : List (Ex × Sh) := [(.exit 0, ⟨[(4, false, [.undef]), (5, false, [.own 0])], [.arr .str false true]⟩)]
def s_Parts_L0_mk (v0 : Bytes) (v1 : Int) (v2 : Int) (v3 : Int) (v4 : List Bytes) : s_Parts_L0_sh.T := (((v0, ()), ((v1, ()), (((), ()), ((v2, ()), ((v3, ()), ()))))), (v4, ()))
def s_Parts_L0_mx0 (y0 : List Bytes) : Sh.T ⟨[(4, false, [.undef]), (5, false, [.own 0])], [.arr .str false true]⟩ := ((((), ()), (((), ()), ())), (y0, ()))
def s_Parts_L0_B (v0 : Bytes) (v1 : Int) (v2 : Int) (v3 : Int) (v4 : List Bytes) (γ : Type) (fail : γ) (next : s_Parts_L0_sh.T → γ) (out : WT s_Parts_L0_es → γ) : γ :=
  bif (decide (v3 ≤ (v0.length : Int))) then
    bif (v3 == (v0.length : Int)) then
      bif (((decide (0 ≤ v2)) && (decide (v2 ≤ v3))) && (decide (v3 ≤ (v0.length : Int)))) then
      bif (Nat.ble ((2 * (v4.length + 1) + 1024) * 16) maxSl) then
      next (s_Parts_L0_mk v0 v1 (IntKind.wrap .i64 (v3 + 1)) (IntKind.wrap .i64 (v3 + 1)) (v4 ++ [((v0.take v3.toNat).drop v2.toNat)]))
      else fail
      else fail
    else
    bif ((decide (0 ≤ v3)) && (decide (v3 < (v0.length : Int)))) then
    bif ((byteAt v0 v3.toNat) == v1) then
      bif (((decide (0 ≤ v2)) && (decide (v2 ≤ v3))) && (decide (v3 ≤ (v0.length : Int)))) then
      bif (Nat.ble ((2 * (v4.length + 1) + 1024) * 16) maxSl) then
      next (s_Parts_L0_mk v0 v1 (IntKind.wrap .i64 (v3 + 1)) (IntKind.wrap .i64 (v3 + 1)) (v4 ++ [((v0.take v3.toNat).drop v2.toNat)]))
      else fail
      else fail
    else
    next (s_Parts_L0_mk v0 v1 v2 (IntKind.wrap .i64 (v3 + 1)) v4)
    else fail
  else
  out (s_Parts_L0_mx0 v4)
theorem s_Parts_L0_par (v0 : Bytes) (v1 : Int) (v2 : Int) (v3 : Int) (v4 : List Bytes) (γ : Type) (fail : γ) (next : s_Parts_L0_sh.T → γ) (out : WT s_Parts_L0_es → γ) : s_Parts_L0_B v0 v1 v2 v3 v4 γ fail next out = optK (s_Parts_L0_B v0 v1 v2 v3 v4 _ none (fun v' => some (.inl v')) (fun w => some (.inr w))) fail (fun r => Sum.elim next out r) := by
  unfold s_Parts_L0_B
  exact bifT (f := (fun o => optK o fail (fun r => Sum.elim next out r))) (fun _ => bifT (f := (fun o => optK o fail (fun r => Sum.elim next out r))) (fun _ => bifT (f := (fun o => optK o fail (fun r => Sum.elim next out r))) (fun _ => bifT (f := (fun o => optK o fail (fun r => Sum.elim next out r))) (fun _ => rfl) (fun _ => rfl)) (fun _ => rfl))
      (fun _ => bifT (f := (fun o => optK o fail (fun r => Sum.elim next out r))) (fun _ => bifT (f := (fun o => optK o fail (fun r => Sum.elim next out r))) (fun _ => bifT (f := (fun o => optK o fail (fun r => Sum.elim next out r))) (fun _ => bifT (f := (fun o => optK o fail (fun r => Sum.elim next out r))) (fun _ => rfl) (fun _ => rfl)) (fun _ => rfl))
      (fun _ => rfl)) (fun _ => rfl)))
      (fun _ => rfl)
def s_Parts_L0_r : Round s_Parts_L0_sh.T (WT s_Parts_L0_es) where
  B v γ fail next out := s_Parts_L0_B v.1.1.1 v.1.2.1.1 v.1.2.2.2.1.1 v.1.2.2.2.2.1.1 v.2.1 γ fail next out
  par v γ fail next out := s_Parts_L0_par v.1.1.1 v.1.2.1.1 v.1.2.2.2.1.1 v.1.2.2.2.2.1.1 v.2.1 γ fail next out
def s_Parts_L0_fu (v0 : Bytes) (v1 : Int) (v2 : Int) (v3 : Int) (v4 : List Bytes) : Nat := (Int.toNat ((v0.length : Int) - v3 + 1)) + 1
theorem s_Parts_L0_lk (v : s_Parts_L0_sh.T) (next : St → Option Res) (k : Ex → St → Option Res) : evalK te (orcOf (P := Tryd.prog) []) (lorcOf []) Tryd.f47.ntmps s_Parts_ann (nthLoop (bodyOf Tryd.f47) 0 0) 0 (s_Parts_L0_sh.enc v) (endK ⟨[0, 1, 5, 6, 7], [], false, 0⟩ ⟨[4, 5], [], false, 0⟩ next k) =
  s_Parts_L0_r.B v _ none (fun v' => next (s_Parts_L0_sh.enc v')) (fun w => outK s_Parts_L0_es k w) := by kernel_rfl
def s_Parts_L0_le : LE := leOf 0 s_Parts_L0_sh s_Parts_L0_es s_Parts_L0_r.step (fun v => s_Parts_L0_fu v.1.1.1 v.1.2.1.1 v.1.2.2.2.1.1 v.1.2.2.2.2.1.1 v.2.1)
theorem s_Parts_L0_ls (w0 : World) (mo : Mts) (I0 : Nat → Prop) (hmo : mo.length = 0) : LSem Tryd.prog (Sim w0 mo Tryd.f47.ntmps I0) (fun b s k => match Nat.beq 0 b with | true => s_Parts_L0_le.run s k | false => none) 0 (nthLoop (bodyOf Tryd.f47) 0 0) :=
  le_sem hmo (lorc := lorcOf []) (ann := s_Parts_ann) (keep := ⟨[0, 1, 5, 6, 7], [], false, 0⟩) (kout := ⟨[4, 5], [], false, 0⟩) teFact mixFact (orcOf_ok _) (by kernel_rfl) (allLoops_of (bs := []) (by kernel_rfl) trivial) s_Parts_L0_r _ s_Parts_L0_lk
def s_Parts_L0_f (v0 : Bytes) (v1 : Int) (v3 : Int) (a : Int × List Bytes) : Stp (Int × List Bytes) (Empty) :=
  bif (v3 == (v0.length : Int)) then
    .next ((IntKind.wrap .i64 (v3 + 1)), (a.2 ++ [((v0.take v3.toNat).drop a.1.toNat)]))
  else
  bif ((byteAt v0 v3.toNat) == v1) then
    .next ((IntKind.wrap .i64 (v3 + 1)), (a.2 ++ [((v0.take v3.toNat).drop a.1.toNat)]))
  else
  .next (a.1, a.2)
theorem s_Parts_L0_st (v0 : Bytes) (v1 : Int) (v2 : Int) (v3 : Int) (v4 : List Bytes) (hlo : 0 ≤ v3) (hhi : v3 ≤ (v0.length : Int)) (hN : (v0.length : Int) ≤ 4611686018427387904) (hi0 : (v0.length : Int) ≤ 4294967296) (hinv : 0 ≤ v2 ∧ v2 ≤ v3 ∧ (v4.length : Int) ≤ v3 ∧ ∀ y ∈ v4, List.length y ≤ List.length v0) : s_Parts_L0_r.step (s_Parts_L0_mk v0 v1 v2 v3 v4) = Stp.elim (fun a' : Int × List Bytes => some (Sum.inl (s_Parts_L0_mk v0 v1 a'.1 (v3 + 1) a'.2))) (fun w => some (Sum.inr ((fun p : Empty => nomatch p) w))) (s_Parts_L0_f v0 v1 v3 (v2, v4)) := by
  have hw : (IntKind.wrap .i64 (v3 + 1)) = v3 + 1 := wrap64 (by omega) (by omega)
  show s_Parts_L0_B v0 v1 v2 v3 v4 (Option (s_Parts_L0_sh.T ⊕ WT s_Parts_L0_es)) none (fun v' => some (Sum.inl v')) (fun w => some (Sum.inr w)) = _
  unfold s_Parts_L0_B s_Parts_L0_f
  exact bifG (by simp only [decide_eq_true_eq]; omega) (bifT (f := (Stp.elim (fun a' : Int × List Bytes => some (Sum.inl (s_Parts_L0_mk v0 v1 a'.1 (v3 + 1) a'.2))) (fun w => some (Sum.inr ((fun p : Empty => nomatch p) w))))) (fun b0 => bifG (by (try simp only [Nat.ble_eq, Bool.and_eq_true, decide_eq_true_eq]); grind [maxSl, maxStr, toBytes_length, toInts_length, List.length_set, wrap64]) (bifG (by (try simp only [Nat.ble_eq, Bool.and_eq_true, decide_eq_true_eq]); grind [maxSl, maxStr, toBytes_length, toInts_length, List.length_set, wrap64]) ((by exact congrArg (fun z => some (Sum.inl (s_Parts_L0_mk v0 v1 (IntKind.wrap .i64 (v3 + 1)) z (v4 ++ [((v0.take v3.toNat).drop v2.toNat)])))) hw))))
      (fun b0 => bifG (by (try simp only [Nat.ble_eq, Bool.and_eq_true, decide_eq_true_eq]); grind [maxSl, maxStr, toBytes_length, toInts_length, List.length_set, wrap64]) (bifT (f := (Stp.elim (fun a' : Int × List Bytes => some (Sum.inl (s_Parts_L0_mk v0 v1 a'.1 (v3 + 1) a'.2))) (fun w => some (Sum.inr ((fun p : Empty => nomatch p) w))))) (fun b1 => bifG (by (try simp only [Nat.ble_eq, Bool.and_eq_true, decide_eq_true_eq]); grind [maxSl, maxStr, toBytes_length, toInts_length, List.length_set, wrap64]) (bifG (by (try simp only [Nat.ble_eq, Bool.and_eq_true, decide_eq_true_eq]); grind [maxSl, maxStr, toBytes_length, toInts_length, List.length_set, wrap64]) ((by exact congrArg (fun z => some (Sum.inl (s_Parts_L0_mk v0 v1 (IntKind.wrap .i64 (v3 + 1)) z (v4 ++ [((v0.take v3.toNat).drop v2.toNat)])))) hw))))
      (fun b1 => (by exact congrArg (fun z => some (Sum.inl (s_Parts_L0_mk v0 v1 v2 z v4))) hw)))))
theorem s_Parts_L0_cl (v0 : Bytes) (v1 : Int) (v2 : Int) (v3 : Int) (v4 : List Bytes) (h0 : 0 ≤ v3) (h1 : (v0.length : Int) ≤ 4611686018427387904) (h2 : (v0.length : Int) ≤ 4294967296) (h3 : 0 ≤ v2 ∧ v2 ≤ v3 ∧ (v4.length : Int) ≤ v3 ∧ ∀ y ∈ v4, List.length y ≤ List.length v0) : loopF s_Parts_L0_r.step (s_Parts_L0_fu v0 v1 v2 v3 v4) (s_Parts_L0_mk v0 v1 v2 v3 v4) = some (Stp.elim (fun a => (fun i a => s_Parts_L0_mx0 a.2) (v3 + 1 * (((Int.toNat ((v0.length : Int) - v3 + 1)) : Nat) : Int)) a) (fun p : Empty => nomatch p) (forN (s_Parts_L0_f v0 v1) 1 (Int.toNat ((v0.length : Int) - v3 + 1)) v3 (v2, v4))) :=
  forN_loop (step := s_Parts_L0_r.step) (mk := fun v3 a => s_Parts_L0_mk v0 v1 a.1 v3 a.2) (f := s_Parts_L0_f v0 v1) (e := (fun i a => s_Parts_L0_mx0 a.2)) (emb := (fun p : Empty => nomatch p)) (st := 1) (Inv := fun v3 a => 0 ≤ a.1 ∧ a.1 ≤ v3 ∧ (a.2.length : Int) ≤ v3 ∧ ∀ y ∈ a.2, List.length y ≤ List.length v0) (Int.toNat ((v0.length : Int) - v3 + 1)) v3 (v2, v4) _ (Nat.lt_succ_self _) h3
    (fun j a hj hv => ⟨s_Parts_L0_st v0 v1 a.1 (v3 + 1 * (j : Int)) a.2 (by omega) (by omega) (by omega) h2 hv, by
      intro a' he
      grind [s_Parts_L0_f, letK, Stp.elim, wrap64, List.length_set]⟩)
    (fun a hv => by
      show s_Parts_L0_B v0 v1 a.1 (v3 + 1 * (((Int.toNat ((v0.length : Int) - v3 + 1)) : Nat) : Int)) a.2 (Option (s_Parts_L0_sh.T ⊕ WT s_Parts_L0_es)) none (fun v' => some (Sum.inl v')) (fun w => some (Sum.inr w)) = _
      unfold s_Parts_L0_B
      exact bifN (by simp only [decide_eq_false_iff_not]; omega) rfl)
theorem s_Parts_L0_nx (v0 : Bytes) (v1 : Int) (v2 : Int) (v3 : Int) (v4 : List Bytes) (h0 : 0 ≤ v3) (h1 : (v0.length : Int) ≤ 4611686018427387904) (h2 : (v0.length : Int) ≤ 4294967296) (h3 : 0 ≤ v2 ∧ v2 ≤ v3 ∧ (v4.length : Int) ≤ v3 ∧ ∀ y ∈ v4, List.length y ≤ List.length v0) : ∀ a', forN (s_Parts_L0_f v0 v1) 1 (Int.toNat ((v0.length : Int) - v3 + 1)) v3 (v2, v4) = .next a' → 0 ≤ a'.1 ∧ a'.1 ≤ (v3 + 1 * (((Int.toNat ((v0.length : Int) - v3 + 1)) : Nat) : Int)) ∧ (a'.2.length : Int) ≤ (v3 + 1 * (((Int.toNat ((v0.length : Int) - v3 + 1)) : Nat) : Int)) ∧ ∀ y ∈ a'.2, List.length y ≤ List.length v0 :=
  forN_inv (f := s_Parts_L0_f v0 v1) (st := 1) (Inv := fun v3 a => 0 ≤ a.1 ∧ a.1 ≤ v3 ∧ (a.2.length : Int) ≤ v3 ∧ ∀ y ∈ a.2, List.length y ≤ List.length v0) (Int.toNat ((v0.length : Int) - v3 + 1)) v3 (v2, v4) h3
    (fun j a hj hv => by
      intro a' he
      grind [s_Parts_L0_f, letK, Stp.elim, wrap64, List.length_set])
def s_Parts_N (x0 : Bytes) (x1 : Int) (γ : Type) (fail : γ) (k : List Bytes → γ) : γ :=
  optK (loopF s_Parts_L0_r.step (s_Parts_L0_fu x0 x1 0 0 []) (s_Parts_L0_mk x0 x1 0 0 [])) fail fun w1 =>
    k w1.2.1
def s_Parts (x0 : Bytes) (x1 : Int) : List Bytes :=
  Stp.elim (fun a2 =>
    a2.2)
    (fun p : Empty => nomatch p)
    (forN (s_Parts_L0_f x0 x1) 1 (Int.toNat ((x0.length : Int) - 0 + 1)) 0 (0, []))
theorem s_Parts_lk (x0 : Bytes) (x1 : Int) : evalFn te (orcOf (P := Tryd.prog) []) (lorcOf [s_Parts_L0_le]) s_Parts_ann Tryd.f47 (pvs [.sc .str, .sc (.int .u8)] (x0, x1, ())) =
  s_Parts_N x0 x1 _ none (fun v => some [(false, [RC.own true .str v])]) := by kernel_rfl
theorem s_Parts_p (x0 : Bytes) (x1 : Int) (hx0 : List.length x0 ≤ 4611686018427387904) (hx1 : inK .u8 x1) (hp : x0.length ≤ 4294967296) (γ : Type) (fail : γ) (k : List Bytes → γ) : s_Parts_N x0 x1 γ fail k = k (s_Parts x0 x1) := by
  unfold s_Parts_N s_Parts
  exact loopX (f := k) (s_Parts_L0_cl x0 x1 0 0 [] (by (try simp only [Nat.ble_eq, Bool.and_eq_true, decide_eq_true_eq, s_Parts_L0_mx0]); grind [maxSl, maxStr, toBytes_length, toInts_length, List.length_set, wrap64]) (by (try simp only [Nat.ble_eq, Bool.and_eq_true, decide_eq_true_eq, s_Parts_L0_mx0]); grind [maxSl, maxStr, toBytes_length, toInts_length, List.length_set, wrap64]) (by (try simp only [Nat.ble_eq, Bool.and_eq_true, decide_eq_true_eq, s_Parts_L0_mx0]); grind [maxSl, maxStr, toBytes_length, toInts_length, List.length_set, wrap64]) (by (try simp only [Nat.ble_eq, Bool.and_eq_true, decide_eq_true_eq, s_Parts_L0_mx0]); grind [maxSl, maxStr, toBytes_length, toInts_length, List.length_set, wrap64])) (fun a2 ha2 => have ia2 := s_Parts_L0_nx x0 x1 0 0 [] (by (try simp only [Nat.ble_eq, Bool.and_eq_true, decide_eq_true_eq, s_Parts_L0_mx0]); grind [maxSl, maxStr, toBytes_length, toInts_length, List.length_set, wrap64]) (by (try simp only [Nat.ble_eq, Bool.and_eq_true, decide_eq_true_eq, s_Parts_L0_mx0]); grind [maxSl, maxStr, toBytes_length, toInts_length, List.length_set, wrap64]) (by (try simp only [Nat.ble_eq, Bool.and_eq_true, decide_eq_true_eq, s_Parts_L0_mx0]); grind [maxSl, maxStr, toBytes_length, toInts_length, List.length_set, wrap64]) (by (try simp only [Nat.ble_eq, Bool.and_eq_true, decide_eq_true_eq, s_Parts_L0_mx0]); grind [maxSl, maxStr, toBytes_length, toInts_length, List.length_set, wrap64]) _ ha2; rfl)
      (fun p : Empty => nomatch p)
theorem s_Parts_c (x0 : Bytes) (x1 : Int) (hp : x0.length ≤ 4294967296) : Con Tryd.prog 47 (pvs [.sc .str, .sc (.int .u8)] (x0, x1, ())) [rv (.sc (.sl .str)) [.o true] (s_Parts x0 x1)] := by
  refine Con.of_facts (enters_of Tryd.func47 rfl (by kernel_rfl)) fun hf => ?_
  replace hf := factAt hf
  exact evalFn_conL teFact mixFact (orcOf_ok _) Tryd.func47 (by kernel_rfl) (bs := [0]) (by kernel_rfl) (by kernel_rfl) (fun w0 mo I0 hmo => ⟨lsem_of_lorc (s_Parts_L0_ls w0 mo I0 hmo) (by kernel_rfl), trivial⟩) ((s_Parts_lk x0 x1).trans (s_Parts_p x0 x1 ((hf 0 0 rfl rfl).slen) ((hf 1 0 rfl rfl).rng) hp _ _ _))
noncomputable def s_Parts_e : Ent1 Tryd.prog := entP 47 [.sc .str, .sc (.int .u8)] (fun x => (decide (x.1.length ≤ 4294967296))) (fun x => (s_Parts x.1 x.2.1)) (fun v => [rv (.sc (.sl .str)) [.o true] v]) (fun x hx => s_Parts_c x.1 x.2.1 (of_decide_eq_true hx))

theorem s_Parts_len (x0 : Bytes) (x1 : Int) (h : x0.length ≤ 4294967296) : (s_Parts x0 x1).length ≤ x0.length + 1 := by
  unfold s_Parts
  cases hf : forN (s_Parts_L0_f x0 x1) 1 (Int.toNat ((x0.length : Int) - 0 + 1)) 0 (0, []) with
  | out p => nomatch p
  | next a =>
    have h1 := s_Parts_L0_nx x0 x1 0 0 [] (by omega) (by omega) (by omega) (by simp) a hf
    simp only [Stp.elim]
    omega
theorem s_Parts_el (x0 : Bytes) (x1 : Int) (h : x0.length ≤ 4294967296) (k : Nat) : ((s_Parts x0 x1).getD k []).length ≤ x0.length := by
  unfold s_Parts
  cases hf : forN (s_Parts_L0_f x0 x1) 1 (Int.toNat ((x0.length : Int) - 0 + 1)) 0 (0, []) with
  | out p => nomatch p
  | next a =>
    have h1 := s_Parts_L0_nx x0 x1 0 0 [] (by omega) (by omega) (by omega) (by simp) a hf
    simp only [Stp.elim]
    exact getD_all (p := fun y => List.length y ≤ List.length x0) (by simp) (fun y hy => h1.2.2.2 y hy) k

theorem s_Parts_el3 (x0 : Bytes) (x1 : Int) (h : x0.length ≤ 4294967296) (k : Nat) : (((s_Parts x0 x1) ++ [[], [], []]).getD k []).length ≤ x0.length := by
  have h1 := s_Parts_el x0 x1 h k
  generalize s_Parts x0 x1 = ys at h1
  simp only [List.getD, List.getElem?_append] at h1 ⊢
  split
  · exact h1
  · rcases hk : k - ys.length with _ | _ | _ | m <;> simp


/-- spec.Number -/
def s_Number_ann : List (Nat × Keep) := [(0, ⟨[0, 4, 5], [], false, 0⟩)]
def s_Number_L0_sh : Sh := ⟨[(0, false, [.str]), (4, false, [.int .i64]), (5, false, [.int .i64])], []⟩
def s_Number_L0_es : List (Ex × Sh) := [(.ret, ⟨[(0, false, [.str]), (2, false, [.int .i64]), (3, false, [.bool]), (4, false, [.int .i64])], []⟩), (.exit 0, ⟨[(0, false, [.str]), (2, false, [.undef]), (3, false, [.undef]), (4, false, [.int .i64])], []⟩)]
def s_Number_L0_mk (v0 : Bytes) (v1 : Int) (v2 : Int) : s_Number_L0_sh.T := (((v0, ()), ((v1, ()), ((v2, ()), ()))), ())
def s_Number_L0_mx0 (y0 : Bytes) (y1 : Int) (y2 : Bool) (y3 : Int) : Sh.T ⟨[(0, false, [.str]), (2, false, [.int .i64]), (3, false, [.bool]), (4, false, [.int .i64])], []⟩ := (((y0, ()), ((y1, ()), ((y2, ()), ((y3, ()), ())))), ())
def s_Number_L0_mx1 (y0 : Bytes) (y1 : Int) : Sh.T ⟨[(0, false, [.str]), (2, false, [.undef]), (3, false, [.undef]), (4, false, [.int .i64])], []⟩ := (((y0, ()), (((), ()), (((), ()), ((y1, ()), ())))), ())
def s_Number_L0_B (v0 : Bytes) (v1 : Int) (v2 : Int) (γ : Type) (fail : γ) (next : s_Number_L0_sh.T → γ) (out : WT s_Number_L0_es → γ) : γ :=
  bif (decide (v2 < (v0.length : Int))) then
    bif ((decide (0 ≤ v2)) && (decide (v2 < (v0.length : Int)))) then
    bif (decide ((byteAt v0 v2.toNat) < 48)) then
      out (Sum.inl (s_Number_L0_mx0 v0 0 false v1))
    else
    bif ((decide (0 ≤ v2)) && (decide (v2 < (v0.length : Int)))) then
    bif (decide (57 < (byteAt v0 v2.toNat))) then
      out (Sum.inl (s_Number_L0_mx0 v0 0 false v1))
    else
    bif ((decide (0 ≤ v2)) && (decide (v2 < (v0.length : Int)))) then
    letK (α := Int) (IntKind.wrap .i64 ((IntKind.wrap .i64 (10 * v1)) + (IntKind.wrap .i64 (IntKind.wrap .u8 ((byteAt v0 v2.toNat) - 48))))) fun e1 =>
    next (s_Number_L0_mk v0 e1 (IntKind.wrap .i64 (v2 + 1)))
    else fail
    else fail
    else fail
  else
  out (Sum.inr (s_Number_L0_mx1 v0 v1))
theorem s_Number_L0_par (v0 : Bytes) (v1 : Int) (v2 : Int) (γ : Type) (fail : γ) (next : s_Number_L0_sh.T → γ) (out : WT s_Number_L0_es → γ) : s_Number_L0_B v0 v1 v2 γ fail next out = optK (s_Number_L0_B v0 v1 v2 _ none (fun v' => some (.inl v')) (fun w => some (.inr w))) fail (fun r => Sum.elim next out r) := by
  unfold s_Number_L0_B
  exact bifT (f := (fun o => optK o fail (fun r => Sum.elim next out r))) (fun _ => bifT (f := (fun o => optK o fail (fun r => Sum.elim next out r))) (fun _ => bifT (f := (fun o => optK o fail (fun r => Sum.elim next out r))) (fun _ => rfl)
      (fun _ => bifT (f := (fun o => optK o fail (fun r => Sum.elim next out r))) (fun _ => bifT (f := (fun o => optK o fail (fun r => Sum.elim next out r))) (fun _ => rfl)
      (fun _ => bifT (f := (fun o => optK o fail (fun r => Sum.elim next out r))) (fun _ => letT (f := (fun o => optK o fail (fun r => Sum.elim next out r))) (fun e1 _ => rfl)) (fun _ => rfl))) (fun _ => rfl))) (fun _ => rfl))
      (fun _ => rfl)
def s_Number_L0_r : Round s_Number_L0_sh.T (WT s_Number_L0_es) where
  B v γ fail next out := s_Number_L0_B v.1.1.1 v.1.2.1.1 v.1.2.2.1.1 γ fail next out
  par v γ fail next out := s_Number_L0_par v.1.1.1 v.1.2.1.1 v.1.2.2.1.1 γ fail next out
def s_Number_L0_fu (v0 : Bytes) (v1 : Int) (v2 : Int) : Nat := (Int.toNat ((v0.length : Int) - v2)) + 1
theorem s_Number_L0_lk (v : s_Number_L0_sh.T) (next : St → Option Res) (k : Ex → St → Option Res) : evalK te (orcOf (P := Tryd.prog) [s_Digits_e]) (lorcOf []) Tryd.f51.ntmps s_Number_ann (nthLoop (bodyOf Tryd.f51) 0 0) 0 (s_Number_L0_sh.enc v) (endK ⟨[0, 4, 5], [], false, 0⟩ ⟨[0, 2, 3, 4], [], false, 0⟩ next k) =
  s_Number_L0_r.B v _ none (fun v' => next (s_Number_L0_sh.enc v')) (fun w => outK s_Number_L0_es k w) := by kernel_rfl
def s_Number_L0_le : LE := leOf 0 s_Number_L0_sh s_Number_L0_es s_Number_L0_r.step (fun v => s_Number_L0_fu v.1.1.1 v.1.2.1.1 v.1.2.2.1.1)
theorem s_Number_L0_ls (w0 : World) (mo : Mts) (I0 : Nat → Prop) (hmo : mo.length = 0) : LSem Tryd.prog (Sim w0 mo Tryd.f51.ntmps I0) (fun b s k => match Nat.beq 0 b with | true => s_Number_L0_le.run s k | false => none) 0 (nthLoop (bodyOf Tryd.f51) 0 0) :=
  le_sem hmo (lorc := lorcOf []) (ann := s_Number_ann) (keep := ⟨[0, 4, 5], [], false, 0⟩) (kout := ⟨[0, 2, 3, 4], [], false, 0⟩) teFact mixFact (orcOf_ok _) (by kernel_rfl) (allLoops_of (bs := []) (by kernel_rfl) trivial) s_Number_L0_r _ s_Number_L0_lk
def s_Number_L0_f (v0 : Bytes) (v2 : Int) (a : Int) : Stp (Int) ((Int)) :=
  bif (decide ((byteAt v0 v2.toNat) < 48)) then
    .out (a)
  else
  bif (decide (57 < (byteAt v0 v2.toNat))) then
    .out (a)
  else
  letK (α := Int) (IntKind.wrap .i64 ((IntKind.wrap .i64 (10 * a)) + (IntKind.wrap .i64 (IntKind.wrap .u8 ((byteAt v0 v2.toNat) - 48))))) fun e1 =>
  .next e1
theorem s_Number_L0_st (v0 : Bytes) (v1 : Int) (v2 : Int) (hlo : 0 ≤ v2) (hhi : v2 < (v0.length : Int)) (hN : (v0.length : Int) ≤ 4611686018427387904) : s_Number_L0_r.step (s_Number_L0_mk v0 v1 v2) = Stp.elim (fun a' : Int => some (Sum.inl (s_Number_L0_mk v0 a' (v2 + 1)))) (fun w => some (Sum.inr ((fun p : Int => Sum.inl (s_Number_L0_mx0 v0 0 false p)) w))) (s_Number_L0_f v0 v2 v1) := by
  have hw : (IntKind.wrap .i64 (v2 + 1)) = v2 + 1 := wrap64 (by omega) (by omega)
  show s_Number_L0_B v0 v1 v2 (Option (s_Number_L0_sh.T ⊕ WT s_Number_L0_es)) none (fun v' => some (Sum.inl v')) (fun w => some (Sum.inr w)) = _
  unfold s_Number_L0_B s_Number_L0_f
  exact bifG (by simp only [decide_eq_true_eq]; omega) (bifG (by (try simp only [Nat.ble_eq, Bool.and_eq_true, decide_eq_true_eq]); grind [maxSl, maxStr, toBytes_length, toInts_length, List.length_set, wrap64, s_Digits_len, s_Digits_small]) (bifT (f := (Stp.elim (fun a' : Int => some (Sum.inl (s_Number_L0_mk v0 a' (v2 + 1)))) (fun w => some (Sum.inr ((fun p : Int => Sum.inl (s_Number_L0_mx0 v0 0 false p)) w))))) (fun b0 => rfl)
      (fun b0 => bifG (by (try simp only [Nat.ble_eq, Bool.and_eq_true, decide_eq_true_eq]); grind [maxSl, maxStr, toBytes_length, toInts_length, List.length_set, wrap64, s_Digits_len, s_Digits_small]) (bifT (f := (Stp.elim (fun a' : Int => some (Sum.inl (s_Number_L0_mk v0 a' (v2 + 1)))) (fun w => some (Sum.inr ((fun p : Int => Sum.inl (s_Number_L0_mx0 v0 0 false p)) w))))) (fun b1 => rfl)
      (fun b1 => bifG (by (try simp only [Nat.ble_eq, Bool.and_eq_true, decide_eq_true_eq]); grind [maxSl, maxStr, toBytes_length, toInts_length, List.length_set, wrap64, s_Digits_len, s_Digits_small]) (letT (f := (Stp.elim (fun a' : Int => some (Sum.inl (s_Number_L0_mk v0 a' (v2 + 1)))) (fun w => some (Sum.inr ((fun p : Int => Sum.inl (s_Number_L0_mx0 v0 0 false p)) w))))) (fun e1 he1 => (by exact congrArg (fun z => some (Sum.inl (s_Number_L0_mk v0 e1 z))) hw))))))))
theorem s_Number_L0_cl (v0 : Bytes) (v1 : Int) (v2 : Int) (h0 : 0 ≤ v2) (h1 : (v0.length : Int) ≤ 4611686018427387904) : loopF s_Number_L0_r.step (s_Number_L0_fu v0 v1 v2) (s_Number_L0_mk v0 v1 v2) = some (Stp.elim (fun a => (fun i a => Sum.inr (s_Number_L0_mx1 v0 a)) (v2 + 1 * (((Int.toNat ((v0.length : Int) - v2)) : Nat) : Int)) a) (fun p : Int => Sum.inl (s_Number_L0_mx0 v0 0 false p)) (forN (s_Number_L0_f v0) 1 (Int.toNat ((v0.length : Int) - v2)) v2 v1)) :=
  forN_loop (step := s_Number_L0_r.step) (mk := fun v2 a => s_Number_L0_mk v0 a v2) (f := s_Number_L0_f v0) (e := (fun i a => Sum.inr (s_Number_L0_mx1 v0 a))) (emb := (fun p : Int => Sum.inl (s_Number_L0_mx0 v0 0 false p))) (st := 1) (Inv := fun v2 a => True) (Int.toNat ((v0.length : Int) - v2)) v2 v1 _ (Nat.lt_succ_self _) trivial
    (fun j a hj hv => ⟨s_Number_L0_st v0 a (v2 + 1 * (j : Int)) (by omega) (by omega) (by omega), fun _ _ => trivial⟩)
    (fun a hv => by
      show s_Number_L0_B v0 a (v2 + 1 * (((Int.toNat ((v0.length : Int) - v2)) : Nat) : Int)) (Option (s_Number_L0_sh.T ⊕ WT s_Number_L0_es)) none (fun v' => some (Sum.inl v')) (fun w => some (Sum.inr w)) = _
      unfold s_Number_L0_B
      exact bifN (by simp only [decide_eq_false_iff_not]; omega) rfl)
def s_Number_N (x0 : Bytes) (γ : Type) (fail : γ) (k : Int × Bool → γ) : γ :=
  bif (decide ((x0.length : Int) < 1)) then
    k (0, false)
  else
  bif (decide (12 < (x0.length : Int))) then
    k (0, false)
  else
  optK (loopF s_Number_L0_r.step (s_Number_L0_fu x0 0 0) (s_Number_L0_mk x0 0 0)) fail fun w2 =>
    Sum.elim (fun w2 =>
      k (w2.1.2.1.1, w2.1.2.2.1.1))
    (fun w2 =>
      letK (α := Bytes) (s_Digits w2.1.2.2.2.1.1) fun c3 =>
      bif (!(c3 == w2.1.1.1)) then
        k (0, false)
      else
      k (w2.1.2.2.2.1.1, true)) w2
def s_Number (x0 : Bytes) : Int × Bool :=
  bif (decide ((x0.length : Int) < 1)) then
    (0, false)
  else
  bif (decide (12 < (x0.length : Int))) then
    (0, false)
  else
  Stp.elim (fun a4 =>
    letK (α := Bytes) (s_Digits a4) fun c5 =>
    bif (!(c5 == x0)) then
      (0, false)
    else
    (a4, true))
    (fun p4 =>
      (0, false))
    (forN (s_Number_L0_f x0) 1 (Int.toNat ((x0.length : Int) - 0)) 0 0)
theorem s_Number_lk (x0 : Bytes) : evalFn te (orcOf (P := Tryd.prog) [s_Digits_e]) (lorcOf [s_Number_L0_le]) s_Number_ann Tryd.f51 (pvs [.sc .str] (x0, ())) =
  s_Number_N x0 _ none (fun v => some [(false, [RC.c (.int .i64 v.1)]), (false, [RC.c (.bool v.2)])]) := by kernel_rfl
theorem s_Number_p (x0 : Bytes) (hx0 : List.length x0 ≤ 4611686018427387904)  (γ : Type) (fail : γ) (k : Int × Bool → γ) : s_Number_N x0 γ fail k = k (s_Number x0) := by
  unfold s_Number_N s_Number
  exact bifT (f := k) (fun b0 => rfl)
      (fun b0 => bifT (f := k) (fun b1 => rfl)
      (fun b1 => loopT (f := k) (s_Number_L0_cl x0 0 0 (by (try simp only [Nat.ble_eq, Bool.and_eq_true, decide_eq_true_eq, s_Number_L0_mx0, s_Number_L0_mx1]); grind [maxSl, maxStr, toBytes_length, toInts_length, List.length_set, wrap64, s_Digits_len, s_Digits_small]) (by (try simp only [Nat.ble_eq, Bool.and_eq_true, decide_eq_true_eq, s_Number_L0_mx0, s_Number_L0_mx1]); grind [maxSl, maxStr, toBytes_length, toInts_length, List.length_set, wrap64, s_Digits_len, s_Digits_small])) (fun a4 => letT (f := k) (fun c5 hc5 => bifT (f := k) (fun b2 => rfl)
      (fun b2 => rfl)))
      (fun p4 => rfl)))
theorem s_Number_c (x0 : Bytes)  : Con Tryd.prog 51 (pvs [.sc .str] (x0, ())) [rv (.sc (.int .i64)) [] (s_Number x0).1, rv (.sc .bool) [] (s_Number x0).2] := by
  refine Con.of_facts (enters_of Tryd.func51 rfl (by kernel_rfl)) fun hf => ?_
  replace hf := factAt hf
  exact evalFn_conL teFact mixFact (orcOf_ok _) Tryd.func51 (by kernel_rfl) (bs := [0]) (by kernel_rfl) (by kernel_rfl) (fun w0 mo I0 hmo => ⟨lsem_of_lorc (s_Number_L0_ls w0 mo I0 hmo) (by kernel_rfl), trivial⟩) ((s_Number_lk x0).trans (s_Number_p x0 ((hf 0 0 rfl rfl).slen) _ _ _))
noncomputable def s_Number_e : Ent1 Tryd.prog := entA 51 [.sc .str] (fun x => (s_Number x.1)) (fun v => [rv (.sc (.int .i64)) [] v.1, rv (.sc .bool) [] v.2]) (fun x => s_Number_c x.1)


/-- impl.Parts -/
def i_Parts_ann : List (Nat × Keep) := [(0, ⟨[0, 1, 5, 6, 7], [], false, 0⟩)]
def i_Parts_L0_sh : Sh := ⟨[(0, false, [.str]), (1, false, [.int .u8]), (5, false, [.own 0]), (6, false, [.int .i64]), (7, false, [.int .i64])], [.arr .str false true]⟩
def i_Parts_L0_es : List (Ex × Sh) := [(.exit 0, ⟨[(0, false, [.str]), (4, false, [.undef]), (5, false, [.own 0]), (6, false, [.int .i64])], [.arr .str false true]⟩)]
def i_Parts_L0_mk (v0 : Bytes) (v1 : Int) (v2 : Int) (v3 : Int) (v4 : List Bytes) : i_Parts_L0_sh.T := (((v0, ()), ((v1, ()), (((), ()), ((v2, ()), ((v3, ()), ()))))), (v4, ()))
def i_Parts_L0_mx0 (y0 : Bytes) (y1 : Int) (y2 : List Bytes) : Sh.T ⟨[(0, false, [.str]), (4, false, [.undef]), (5, false, [.own 0]), (6, false, [.int .i64])], [.arr .str false true]⟩ := (((y0, ()), (((), ()), (((), ()), ((y1, ()), ())))), (y2, ()))
def i_Parts_L0_B (v0 : Bytes) (v1 : Int) (v2 : Int) (v3 : Int) (v4 : List Bytes) (γ : Type) (fail : γ) (next : i_Parts_L0_sh.T → γ) (out : WT i_Parts_L0_es → γ) : γ :=
  bif (decide (v3 < (v0.length : Int))) then
    bif ((decide (0 ≤ v3)) && (decide (v3 < (v0.length : Int)))) then
    bif ((byteAt v0 v3.toNat) == v1) then
      bif (((decide (0 ≤ v2)) && (decide (v2 ≤ v3))) && (decide (v3 ≤ (v0.length : Int)))) then
      bif (Nat.ble ((2 * (v4.length + 1) + 1024) * 16) maxSl) then
      next (i_Parts_L0_mk v0 v1 (IntKind.wrap .i64 (v3 + 1)) (IntKind.wrap .i64 (v3 + 1)) (v4 ++ [((v0.take v3.toNat).drop v2.toNat)]))
      else fail
      else fail
    else
    next (i_Parts_L0_mk v0 v1 v2 (IntKind.wrap .i64 (v3 + 1)) v4)
    else fail
  else
  out (i_Parts_L0_mx0 v0 v2 v4)
theorem i_Parts_L0_par (v0 : Bytes) (v1 : Int) (v2 : Int) (v3 : Int) (v4 : List Bytes) (γ : Type) (fail : γ) (next : i_Parts_L0_sh.T → γ) (out : WT i_Parts_L0_es → γ) : i_Parts_L0_B v0 v1 v2 v3 v4 γ fail next out = optK (i_Parts_L0_B v0 v1 v2 v3 v4 _ none (fun v' => some (.inl v')) (fun w => some (.inr w))) fail (fun r => Sum.elim next out r) := by
  unfold i_Parts_L0_B
  exact bifT (f := (fun o => optK o fail (fun r => Sum.elim next out r))) (fun _ => bifT (f := (fun o => optK o fail (fun r => Sum.elim next out r))) (fun _ => bifT (f := (fun o => optK o fail (fun r => Sum.elim next out r))) (fun _ => bifT (f := (fun o => optK o fail (fun r => Sum.elim next out r))) (fun _ => bifT (f := (fun o => optK o fail (fun r => Sum.elim next out r))) (fun _ => rfl) (fun _ => rfl)) (fun _ => rfl))
      (fun _ => rfl)) (fun _ => rfl))
      (fun _ => rfl)
def i_Parts_L0_r : Round i_Parts_L0_sh.T (WT i_Parts_L0_es) where
  B v γ fail next out := i_Parts_L0_B v.1.1.1 v.1.2.1.1 v.1.2.2.2.1.1 v.1.2.2.2.2.1.1 v.2.1 γ fail next out
  par v γ fail next out := i_Parts_L0_par v.1.1.1 v.1.2.1.1 v.1.2.2.2.1.1 v.1.2.2.2.2.1.1 v.2.1 γ fail next out
def i_Parts_L0_fu (v0 : Bytes) (v1 : Int) (v2 : Int) (v3 : Int) (v4 : List Bytes) : Nat := (Int.toNat ((v0.length : Int) - v3)) + 1
theorem i_Parts_L0_lk (v : i_Parts_L0_sh.T) (next : St → Option Res) (k : Ex → St → Option Res) : evalK te (orcOf (P := Tryd.prog) []) (lorcOf []) Tryd.f53.ntmps i_Parts_ann (nthLoop (bodyOf Tryd.f53) 0 0) 0 (i_Parts_L0_sh.enc v) (endK ⟨[0, 1, 5, 6, 7], [], false, 0⟩ ⟨[0, 4, 5, 6], [], false, 0⟩ next k) =
  i_Parts_L0_r.B v _ none (fun v' => next (i_Parts_L0_sh.enc v')) (fun w => outK i_Parts_L0_es k w) := by kernel_rfl
def i_Parts_L0_le : LE := leOf 0 i_Parts_L0_sh i_Parts_L0_es i_Parts_L0_r.step (fun v => i_Parts_L0_fu v.1.1.1 v.1.2.1.1 v.1.2.2.2.1.1 v.1.2.2.2.2.1.1 v.2.1)
theorem i_Parts_L0_ls (w0 : World) (mo : Mts) (I0 : Nat → Prop) (hmo : mo.length = 0) : LSem Tryd.prog (Sim w0 mo Tryd.f53.ntmps I0) (fun b s k => match Nat.beq 0 b with | true => i_Parts_L0_le.run s k | false => none) 0 (nthLoop (bodyOf Tryd.f53) 0 0) :=
  le_sem hmo (lorc := lorcOf []) (ann := i_Parts_ann) (keep := ⟨[0, 1, 5, 6, 7], [], false, 0⟩) (kout := ⟨[0, 4, 5, 6], [], false, 0⟩) teFact mixFact (orcOf_ok _) (by kernel_rfl) (allLoops_of (bs := []) (by kernel_rfl) trivial) i_Parts_L0_r _ i_Parts_L0_lk
def i_Parts_L0_f (v0 : Bytes) (v1 : Int) (v3 : Int) (a : Int × List Bytes) : Stp (Int × List Bytes) (Empty) :=
  bif ((byteAt v0 v3.toNat) == v1) then
    .next ((IntKind.wrap .i64 (v3 + 1)), (a.2 ++ [((v0.take v3.toNat).drop a.1.toNat)]))
  else
  .next (a.1, a.2)
theorem i_Parts_L0_st (v0 : Bytes) (v1 : Int) (v2 : Int) (v3 : Int) (v4 : List Bytes) (hlo : 0 ≤ v3) (hhi : v3 < (v0.length : Int)) (hN : (v0.length : Int) ≤ 4611686018427387904) (hi0 : (v0.length : Int) ≤ 4294967296) (hinv : 0 ≤ v2 ∧ v2 ≤ v3 ∧ (v4.length : Int) ≤ v3 ∧ ∀ y ∈ v4, List.length y ≤ List.length v0) : i_Parts_L0_r.step (i_Parts_L0_mk v0 v1 v2 v3 v4) = Stp.elim (fun a' : Int × List Bytes => some (Sum.inl (i_Parts_L0_mk v0 v1 a'.1 (v3 + 1) a'.2))) (fun w => some (Sum.inr ((fun p : Empty => nomatch p) w))) (i_Parts_L0_f v0 v1 v3 (v2, v4)) := by
  have hw : (IntKind.wrap .i64 (v3 + 1)) = v3 + 1 := wrap64 (by omega) (by omega)
  show i_Parts_L0_B v0 v1 v2 v3 v4 (Option (i_Parts_L0_sh.T ⊕ WT i_Parts_L0_es)) none (fun v' => some (Sum.inl v')) (fun w => some (Sum.inr w)) = _
  unfold i_Parts_L0_B i_Parts_L0_f
  exact bifG (by simp only [decide_eq_true_eq]; omega) (bifG (by (try simp only [Nat.ble_eq, Bool.and_eq_true, decide_eq_true_eq]); grind [maxSl, maxStr, toBytes_length, toInts_length, List.length_set, wrap64]) (bifT (f := (Stp.elim (fun a' : Int × List Bytes => some (Sum.inl (i_Parts_L0_mk v0 v1 a'.1 (v3 + 1) a'.2))) (fun w => some (Sum.inr ((fun p : Empty => nomatch p) w))))) (fun b0 => bifG (by (try simp only [Nat.ble_eq, Bool.and_eq_true, decide_eq_true_eq]); grind [maxSl, maxStr, toBytes_length, toInts_length, List.length_set, wrap64]) (bifG (by (try simp only [Nat.ble_eq, Bool.and_eq_true, decide_eq_true_eq]); grind [maxSl, maxStr, toBytes_length, toInts_length, List.length_set, wrap64]) ((by exact congrArg (fun z => some (Sum.inl (i_Parts_L0_mk v0 v1 (IntKind.wrap .i64 (v3 + 1)) z (v4 ++ [((v0.take v3.toNat).drop v2.toNat)])))) hw))))
      (fun b0 => (by exact congrArg (fun z => some (Sum.inl (i_Parts_L0_mk v0 v1 v2 z v4))) hw))))
theorem i_Parts_L0_cl (v0 : Bytes) (v1 : Int) (v2 : Int) (v3 : Int) (v4 : List Bytes) (h0 : 0 ≤ v3) (h1 : (v0.length : Int) ≤ 4611686018427387904) (h2 : (v0.length : Int) ≤ 4294967296) (h3 : 0 ≤ v2 ∧ v2 ≤ v3 ∧ (v4.length : Int) ≤ v3 ∧ ∀ y ∈ v4, List.length y ≤ List.length v0) : loopF i_Parts_L0_r.step (i_Parts_L0_fu v0 v1 v2 v3 v4) (i_Parts_L0_mk v0 v1 v2 v3 v4) = some (Stp.elim (fun a => (fun i a => i_Parts_L0_mx0 v0 a.1 a.2) (v3 + 1 * (((Int.toNat ((v0.length : Int) - v3)) : Nat) : Int)) a) (fun p : Empty => nomatch p) (forN (i_Parts_L0_f v0 v1) 1 (Int.toNat ((v0.length : Int) - v3)) v3 (v2, v4))) :=
  forN_loop (step := i_Parts_L0_r.step) (mk := fun v3 a => i_Parts_L0_mk v0 v1 a.1 v3 a.2) (f := i_Parts_L0_f v0 v1) (e := (fun i a => i_Parts_L0_mx0 v0 a.1 a.2)) (emb := (fun p : Empty => nomatch p)) (st := 1) (Inv := fun v3 a => 0 ≤ a.1 ∧ a.1 ≤ v3 ∧ (a.2.length : Int) ≤ v3 ∧ ∀ y ∈ a.2, List.length y ≤ List.length v0) (Int.toNat ((v0.length : Int) - v3)) v3 (v2, v4) _ (Nat.lt_succ_self _) h3
    (fun j a hj hv => ⟨i_Parts_L0_st v0 v1 a.1 (v3 + 1 * (j : Int)) a.2 (by omega) (by omega) (by omega) h2 hv, by
      intro a' he
      grind [i_Parts_L0_f, letK, Stp.elim, wrap64, List.length_set]⟩)
    (fun a hv => by
      show i_Parts_L0_B v0 v1 a.1 (v3 + 1 * (((Int.toNat ((v0.length : Int) - v3)) : Nat) : Int)) a.2 (Option (i_Parts_L0_sh.T ⊕ WT i_Parts_L0_es)) none (fun v' => some (Sum.inl v')) (fun w => some (Sum.inr w)) = _
      unfold i_Parts_L0_B
      exact bifN (by simp only [decide_eq_false_iff_not]; omega) rfl)
theorem i_Parts_L0_nx (v0 : Bytes) (v1 : Int) (v2 : Int) (v3 : Int) (v4 : List Bytes) (h0 : 0 ≤ v3) (h1 : (v0.length : Int) ≤ 4611686018427387904) (h2 : (v0.length : Int) ≤ 4294967296) (h3 : 0 ≤ v2 ∧ v2 ≤ v3 ∧ (v4.length : Int) ≤ v3 ∧ ∀ y ∈ v4, List.length y ≤ List.length v0) : ∀ a', forN (i_Parts_L0_f v0 v1) 1 (Int.toNat ((v0.length : Int) - v3)) v3 (v2, v4) = .next a' → 0 ≤ a'.1 ∧ a'.1 ≤ (v3 + 1 * (((Int.toNat ((v0.length : Int) - v3)) : Nat) : Int)) ∧ (a'.2.length : Int) ≤ (v3 + 1 * (((Int.toNat ((v0.length : Int) - v3)) : Nat) : Int)) ∧ ∀ y ∈ a'.2, List.length y ≤ List.length v0 :=
  forN_inv (f := i_Parts_L0_f v0 v1) (st := 1) (Inv := fun v3 a => 0 ≤ a.1 ∧ a.1 ≤ v3 ∧ (a.2.length : Int) ≤ v3 ∧ ∀ y ∈ a.2, List.length y ≤ List.length v0) (Int.toNat ((v0.length : Int) - v3)) v3 (v2, v4) h3
    (fun j a hj hv => by
      intro a' he
      grind [i_Parts_L0_f, letK, Stp.elim, wrap64, List.length_set])
def i_Parts_N (x0 : Bytes) (x1 : Int) (γ : Type) (fail : γ) (k : List Bytes → γ) : γ :=
  optK (loopF i_Parts_L0_r.step (i_Parts_L0_fu x0 x1 0 0 []) (i_Parts_L0_mk x0 x1 0 0 [])) fail fun w1 =>
    bif (((decide (0 ≤ w1.1.2.2.2.1.1)) && (decide (w1.1.2.2.2.1.1 ≤ (w1.1.1.1.length : Int)))) && (decide ((w1.1.1.1.length : Int) ≤ (w1.1.1.1.length : Int)))) then
    letK (α := Bytes) ((w1.1.1.1.take ((w1.1.1.1.length : Int).toNat)).drop w1.1.2.2.2.1.1.toNat) fun e2 =>
    bif (Nat.ble ((2 * (w1.2.1.length + 1) + 1024) * 16) maxSl) then
    k (w1.2.1 ++ [e2])
    else fail
    else fail
def i_Parts (x0 : Bytes) (x1 : Int) : List Bytes :=
  Stp.elim (fun a3 =>
    (a3.2 ++ [((x0.take ((x0.length : Int).toNat)).drop a3.1.toNat)]))
    (fun p : Empty => nomatch p)
    (forN (i_Parts_L0_f x0 x1) 1 (Int.toNat ((x0.length : Int) - 0)) 0 (0, []))
theorem i_Parts_lk (x0 : Bytes) (x1 : Int) : evalFn te (orcOf (P := Tryd.prog) []) (lorcOf [i_Parts_L0_le]) i_Parts_ann Tryd.f53 (pvs [.sc .str, .sc (.int .u8)] (x0, x1, ())) =
  i_Parts_N x0 x1 _ none (fun v => some [(false, [RC.own true .str v])]) := by kernel_rfl
theorem i_Parts_p (x0 : Bytes) (x1 : Int) (hx0 : List.length x0 ≤ 4611686018427387904) (hx1 : inK .u8 x1) (hp : x0.length ≤ 4294967296) (γ : Type) (fail : γ) (k : List Bytes → γ) : i_Parts_N x0 x1 γ fail k = k (i_Parts x0 x1) := by
  unfold i_Parts_N i_Parts
  exact loopX (f := k) (i_Parts_L0_cl x0 x1 0 0 [] (by (try simp only [Nat.ble_eq, Bool.and_eq_true, decide_eq_true_eq, i_Parts_L0_mx0]); grind [maxSl, maxStr, toBytes_length, toInts_length, List.length_set, wrap64]) (by (try simp only [Nat.ble_eq, Bool.and_eq_true, decide_eq_true_eq, i_Parts_L0_mx0]); grind [maxSl, maxStr, toBytes_length, toInts_length, List.length_set, wrap64]) (by (try simp only [Nat.ble_eq, Bool.and_eq_true, decide_eq_true_eq, i_Parts_L0_mx0]); grind [maxSl, maxStr, toBytes_length, toInts_length, List.length_set, wrap64]) (by (try simp only [Nat.ble_eq, Bool.and_eq_true, decide_eq_true_eq, i_Parts_L0_mx0]); grind [maxSl, maxStr, toBytes_length, toInts_length, List.length_set, wrap64])) (fun a3 ha3 => have ia3 := i_Parts_L0_nx x0 x1 0 0 [] (by (try simp only [Nat.ble_eq, Bool.and_eq_true, decide_eq_true_eq, i_Parts_L0_mx0]); grind [maxSl, maxStr, toBytes_length, toInts_length, List.length_set, wrap64]) (by (try simp only [Nat.ble_eq, Bool.and_eq_true, decide_eq_true_eq, i_Parts_L0_mx0]); grind [maxSl, maxStr, toBytes_length, toInts_length, List.length_set, wrap64]) (by (try simp only [Nat.ble_eq, Bool.and_eq_true, decide_eq_true_eq, i_Parts_L0_mx0]); grind [maxSl, maxStr, toBytes_length, toInts_length, List.length_set, wrap64]) (by (try simp only [Nat.ble_eq, Bool.and_eq_true, decide_eq_true_eq, i_Parts_L0_mx0]); grind [maxSl, maxStr, toBytes_length, toInts_length, List.length_set, wrap64]) _ ha3; bifG (by (try simp only [Nat.ble_eq, Bool.and_eq_true, decide_eq_true_eq, i_Parts_L0_mx0]); grind [maxSl, maxStr, toBytes_length, toInts_length, List.length_set, wrap64]) (letL (bifG (by (try simp only [Nat.ble_eq, Bool.and_eq_true, decide_eq_true_eq, i_Parts_L0_mx0]); grind [maxSl, maxStr, toBytes_length, toInts_length, List.length_set, wrap64]) (rfl))))
      (fun p : Empty => nomatch p)
theorem i_Parts_c (x0 : Bytes) (x1 : Int) (hp : x0.length ≤ 4294967296) : Con Tryd.prog 53 (pvs [.sc .str, .sc (.int .u8)] (x0, x1, ())) [rv (.sc (.sl .str)) [.o true] (i_Parts x0 x1)] := by
  refine Con.of_facts (enters_of Tryd.func53 rfl (by kernel_rfl)) fun hf => ?_
  replace hf := factAt hf
  exact evalFn_conL teFact mixFact (orcOf_ok _) Tryd.func53 (by kernel_rfl) (bs := [0]) (by kernel_rfl) (by kernel_rfl) (fun w0 mo I0 hmo => ⟨lsem_of_lorc (i_Parts_L0_ls w0 mo I0 hmo) (by kernel_rfl), trivial⟩) ((i_Parts_lk x0 x1).trans (i_Parts_p x0 x1 ((hf 0 0 rfl rfl).slen) ((hf 1 0 rfl rfl).rng) hp _ _ _))
noncomputable def i_Parts_e : Ent1 Tryd.prog := entP 53 [.sc .str, .sc (.int .u8)] (fun x => (decide (x.1.length ≤ 4294967296))) (fun x => (i_Parts x.1 x.2.1)) (fun v => [rv (.sc (.sl .str)) [.o true] v]) (fun x hx => i_Parts_c x.1 x.2.1 (of_decide_eq_true hx))

theorem i_Parts_pos (x0 : Bytes) (x1 : Int) : 1 ≤ (i_Parts x0 x1).length := by
  unfold i_Parts
  cases hf : forN (i_Parts_L0_f x0 x1) 1 (Int.toNat ((x0.length : Int) - 0)) 0 (0, []) with
  | out p => nomatch p
  | next a =>
    simp only [Stp.elim, List.length_append, List.length_singleton]
    omega
theorem i_Parts_len (x0 : Bytes) (x1 : Int) (h : x0.length ≤ 4294967296) : (i_Parts x0 x1).length ≤ x0.length + 1 := by
  unfold i_Parts
  cases hf : forN (i_Parts_L0_f x0 x1) 1 (Int.toNat ((x0.length : Int) - 0)) 0 (0, []) with
  | out p => nomatch p
  | next a =>
    have h1 := i_Parts_L0_nx x0 x1 0 0 [] (by omega) (by omega) (by omega) (by simp) a hf
    simp only [Stp.elim, List.length_append, List.length_singleton]
    omega
theorem i_Parts_el (x0 : Bytes) (x1 : Int) (h : x0.length ≤ 4294967296) (k : Nat) : ((i_Parts x0 x1).getD k []).length ≤ x0.length := by
  unfold i_Parts
  cases hf : forN (i_Parts_L0_f x0 x1) 1 (Int.toNat ((x0.length : Int) - 0)) 0 (0, []) with
  | out p => nomatch p
  | next a =>
    have h1 := i_Parts_L0_nx x0 x1 0 0 [] (by omega) (by omega) (by omega) (by simp) a hf
    simp only [Stp.elim]
    refine getD_all (p := fun y => List.length y ≤ List.length x0) (by simp) (fun y hy => ?_) k
    rcases List.mem_append.1 hy with hy | hy
    · exact h1.2.2.2 y hy
    · rw [List.mem_singleton] at hy
      subst hy
      simp only [List.length_drop, List.length_take]
      omega


/-- impl.Number -/
def i_Number_ann : List (Nat × Keep) := [(0, ⟨[0, 4, 5], [], false, 0⟩)]
def i_Number_L0_sh : Sh := ⟨[(0, false, [.str]), (4, false, [.int .i64]), (5, false, [.int .i64])], []⟩
def i_Number_L0_es : List (Ex × Sh) := [(.ret, ⟨[(2, false, [.int .i64]), (3, false, [.bool]), (4, false, [.int .i64])], []⟩), (.exit 0, ⟨[(2, false, [.undef]), (3, false, [.undef]), (4, false, [.int .i64])], []⟩)]
def i_Number_L0_mk (v0 : Bytes) (v1 : Int) (v2 : Int) : i_Number_L0_sh.T := (((v0, ()), ((v1, ()), ((v2, ()), ()))), ())
def i_Number_L0_mx0 (y0 : Int) (y1 : Bool) (y2 : Int) : Sh.T ⟨[(2, false, [.int .i64]), (3, false, [.bool]), (4, false, [.int .i64])], []⟩ := (((y0, ()), ((y1, ()), ((y2, ()), ()))), ())
def i_Number_L0_mx1 (y0 : Int) : Sh.T ⟨[(2, false, [.undef]), (3, false, [.undef]), (4, false, [.int .i64])], []⟩ := ((((), ()), (((), ()), ((y0, ()), ()))), ())
def i_Number_L0_B (v0 : Bytes) (v1 : Int) (v2 : Int) (γ : Type) (fail : γ) (next : i_Number_L0_sh.T → γ) (out : WT i_Number_L0_es → γ) : γ :=
  bif (decide (v2 < (v0.length : Int))) then
    bif ((decide (0 ≤ v2)) && (decide (v2 < (v0.length : Int)))) then
    bif (decide ((byteAt v0 v2.toNat) < 48)) then
      out (Sum.inl (i_Number_L0_mx0 0 false v1))
    else
    bif ((decide (0 ≤ v2)) && (decide (v2 < (v0.length : Int)))) then
    bif (decide (57 < (byteAt v0 v2.toNat))) then
      out (Sum.inl (i_Number_L0_mx0 0 false v1))
    else
    bif ((decide (0 ≤ v2)) && (decide (v2 < (v0.length : Int)))) then
    letK (α := Int) (IntKind.wrap .i64 ((IntKind.wrap .i64 (10 * v1)) + (IntKind.wrap .i64 (IntKind.wrap .u8 ((byteAt v0 v2.toNat) - 48))))) fun e1 =>
    next (i_Number_L0_mk v0 e1 (IntKind.wrap .i64 (v2 + 1)))
    else fail
    else fail
    else fail
  else
  out (Sum.inr (i_Number_L0_mx1 v1))
theorem i_Number_L0_par (v0 : Bytes) (v1 : Int) (v2 : Int) (γ : Type) (fail : γ) (next : i_Number_L0_sh.T → γ) (out : WT i_Number_L0_es → γ) : i_Number_L0_B v0 v1 v2 γ fail next out = optK (i_Number_L0_B v0 v1 v2 _ none (fun v' => some (.inl v')) (fun w => some (.inr w))) fail (fun r => Sum.elim next out r) := by
  unfold i_Number_L0_B
  exact bifT (f := (fun o => optK o fail (fun r => Sum.elim next out r))) (fun _ => bifT (f := (fun o => optK o fail (fun r => Sum.elim next out r))) (fun _ => bifT (f := (fun o => optK o fail (fun r => Sum.elim next out r))) (fun _ => rfl)
      (fun _ => bifT (f := (fun o => optK o fail (fun r => Sum.elim next out r))) (fun _ => bifT (f := (fun o => optK o fail (fun r => Sum.elim next out r))) (fun _ => rfl)
      (fun _ => bifT (f := (fun o => optK o fail (fun r => Sum.elim next out r))) (fun _ => letT (f := (fun o => optK o fail (fun r => Sum.elim next out r))) (fun e1 _ => rfl)) (fun _ => rfl))) (fun _ => rfl))) (fun _ => rfl))
      (fun _ => rfl)
def i_Number_L0_r : Round i_Number_L0_sh.T (WT i_Number_L0_es) where
  B v γ fail next out := i_Number_L0_B v.1.1.1 v.1.2.1.1 v.1.2.2.1.1 γ fail next out
  par v γ fail next out := i_Number_L0_par v.1.1.1 v.1.2.1.1 v.1.2.2.1.1 γ fail next out
def i_Number_L0_fu (v0 : Bytes) (v1 : Int) (v2 : Int) : Nat := (Int.toNat ((v0.length : Int) - v2)) + 1
theorem i_Number_L0_lk (v : i_Number_L0_sh.T) (next : St → Option Res) (k : Ex → St → Option Res) : evalK te (orcOf (P := Tryd.prog) []) (lorcOf []) Tryd.f57.ntmps i_Number_ann (nthLoop (bodyOf Tryd.f57) 0 0) 0 (i_Number_L0_sh.enc v) (endK ⟨[0, 4, 5], [], false, 0⟩ ⟨[2, 3, 4], [], false, 0⟩ next k) =
  i_Number_L0_r.B v _ none (fun v' => next (i_Number_L0_sh.enc v')) (fun w => outK i_Number_L0_es k w) := by kernel_rfl
def i_Number_L0_le : LE := leOf 0 i_Number_L0_sh i_Number_L0_es i_Number_L0_r.step (fun v => i_Number_L0_fu v.1.1.1 v.1.2.1.1 v.1.2.2.1.1)
theorem i_Number_L0_ls (w0 : World) (mo : Mts) (I0 : Nat → Prop) (hmo : mo.length = 0) : LSem Tryd.prog (Sim w0 mo Tryd.f57.ntmps I0) (fun b s k => match Nat.beq 0 b with | true => i_Number_L0_le.run s k | false => none) 0 (nthLoop (bodyOf Tryd.f57) 0 0) :=
  le_sem hmo (lorc := lorcOf []) (ann := i_Number_ann) (keep := ⟨[0, 4, 5], [], false, 0⟩) (kout := ⟨[2, 3, 4], [], false, 0⟩) teFact mixFact (orcOf_ok _) (by kernel_rfl) (allLoops_of (bs := []) (by kernel_rfl) trivial) i_Number_L0_r _ i_Number_L0_lk
def i_Number_L0_f (v0 : Bytes) (v2 : Int) (a : Int) : Stp (Int) ((Int)) :=
  bif (decide ((byteAt v0 v2.toNat) < 48)) then
    .out (a)
  else
  bif (decide (57 < (byteAt v0 v2.toNat))) then
    .out (a)
  else
  letK (α := Int) (IntKind.wrap .i64 ((IntKind.wrap .i64 (10 * a)) + (IntKind.wrap .i64 (IntKind.wrap .u8 ((byteAt v0 v2.toNat) - 48))))) fun e1 =>
  .next e1
theorem i_Number_L0_st (v0 : Bytes) (v1 : Int) (v2 : Int) (hlo : 0 ≤ v2) (hhi : v2 < (v0.length : Int)) (hN : (v0.length : Int) ≤ 4611686018427387904) : i_Number_L0_r.step (i_Number_L0_mk v0 v1 v2) = Stp.elim (fun a' : Int => some (Sum.inl (i_Number_L0_mk v0 a' (v2 + 1)))) (fun w => some (Sum.inr ((fun p : Int => Sum.inl (i_Number_L0_mx0 0 false p)) w))) (i_Number_L0_f v0 v2 v1) := by
  have hw : (IntKind.wrap .i64 (v2 + 1)) = v2 + 1 := wrap64 (by omega) (by omega)
  show i_Number_L0_B v0 v1 v2 (Option (i_Number_L0_sh.T ⊕ WT i_Number_L0_es)) none (fun v' => some (Sum.inl v')) (fun w => some (Sum.inr w)) = _
  unfold i_Number_L0_B i_Number_L0_f
  exact bifG (by simp only [decide_eq_true_eq]; omega) (bifG (by (try simp only [Nat.ble_eq, Bool.and_eq_true, decide_eq_true_eq]); grind [maxSl, maxStr, toBytes_length, toInts_length, List.length_set, wrap64]) (bifT (f := (Stp.elim (fun a' : Int => some (Sum.inl (i_Number_L0_mk v0 a' (v2 + 1)))) (fun w => some (Sum.inr ((fun p : Int => Sum.inl (i_Number_L0_mx0 0 false p)) w))))) (fun b0 => rfl)
      (fun b0 => bifG (by (try simp only [Nat.ble_eq, Bool.and_eq_true, decide_eq_true_eq]); grind [maxSl, maxStr, toBytes_length, toInts_length, List.length_set, wrap64]) (bifT (f := (Stp.elim (fun a' : Int => some (Sum.inl (i_Number_L0_mk v0 a' (v2 + 1)))) (fun w => some (Sum.inr ((fun p : Int => Sum.inl (i_Number_L0_mx0 0 false p)) w))))) (fun b1 => rfl)
      (fun b1 => bifG (by (try simp only [Nat.ble_eq, Bool.and_eq_true, decide_eq_true_eq]); grind [maxSl, maxStr, toBytes_length, toInts_length, List.length_set, wrap64]) (letT (f := (Stp.elim (fun a' : Int => some (Sum.inl (i_Number_L0_mk v0 a' (v2 + 1)))) (fun w => some (Sum.inr ((fun p : Int => Sum.inl (i_Number_L0_mx0 0 false p)) w))))) (fun e1 he1 => (by exact congrArg (fun z => some (Sum.inl (i_Number_L0_mk v0 e1 z))) hw))))))))
theorem i_Number_L0_cl (v0 : Bytes) (v1 : Int) (v2 : Int) (h0 : 0 ≤ v2) (h1 : (v0.length : Int) ≤ 4611686018427387904) : loopF i_Number_L0_r.step (i_Number_L0_fu v0 v1 v2) (i_Number_L0_mk v0 v1 v2) = some (Stp.elim (fun a => (fun i a => Sum.inr (i_Number_L0_mx1 a)) (v2 + 1 * (((Int.toNat ((v0.length : Int) - v2)) : Nat) : Int)) a) (fun p : Int => Sum.inl (i_Number_L0_mx0 0 false p)) (forN (i_Number_L0_f v0) 1 (Int.toNat ((v0.length : Int) - v2)) v2 v1)) :=
  forN_loop (step := i_Number_L0_r.step) (mk := fun v2 a => i_Number_L0_mk v0 a v2) (f := i_Number_L0_f v0) (e := (fun i a => Sum.inr (i_Number_L0_mx1 a))) (emb := (fun p : Int => Sum.inl (i_Number_L0_mx0 0 false p))) (st := 1) (Inv := fun v2 a => True) (Int.toNat ((v0.length : Int) - v2)) v2 v1 _ (Nat.lt_succ_self _) trivial
    (fun j a hj hv => ⟨i_Number_L0_st v0 a (v2 + 1 * (j : Int)) (by omega) (by omega) (by omega), fun _ _ => trivial⟩)
    (fun a hv => by
      show i_Number_L0_B v0 a (v2 + 1 * (((Int.toNat ((v0.length : Int) - v2)) : Nat) : Int)) (Option (i_Number_L0_sh.T ⊕ WT i_Number_L0_es)) none (fun v' => some (Sum.inl v')) (fun w => some (Sum.inr w)) = _
      unfold i_Number_L0_B
      exact bifN (by simp only [decide_eq_false_iff_not]; omega) rfl)
def i_Number_N (x0 : Bytes) (γ : Type) (fail : γ) (k : Int × Bool → γ) : γ :=
  bif (decide ((x0.length : Int) < 1)) then
    k (0, false)
  else
  bif (decide (12 < (x0.length : Int))) then
    k (0, false)
  else
  bif (decide (1 < (x0.length : Int))) then
    bif (decide (0 < (x0.length : Int))) then
    bif ((byteAt x0 0) == 48) then
      k (0, false)
    else
    optK (loopF i_Number_L0_r.step (i_Number_L0_fu x0 0 0) (i_Number_L0_mk x0 0 0)) fail fun w2 =>
      Sum.elim (fun w2 =>
        k (w2.1.1.1, w2.1.2.1.1))
      (fun w2 =>
        k (w2.1.2.2.1.1, true)) w2
    else fail
  else
  optK (loopF i_Number_L0_r.step (i_Number_L0_fu x0 0 0) (i_Number_L0_mk x0 0 0)) fail fun w4 =>
    Sum.elim (fun w4 =>
      k (w4.1.1.1, w4.1.2.1.1))
    (fun w4 =>
      k (w4.1.2.2.1.1, true)) w4
def i_Number (x0 : Bytes) : Int × Bool :=
  bif (decide ((x0.length : Int) < 1)) then
    (0, false)
  else
  bif (decide (12 < (x0.length : Int))) then
    (0, false)
  else
  bif (decide (1 < (x0.length : Int))) then
    bif ((byteAt x0 0) == 48) then
      (0, false)
    else
    Stp.elim (fun a3 =>
      (a3, true))
      (fun p3 =>
        (0, false))
      (forN (i_Number_L0_f x0) 1 (Int.toNat ((x0.length : Int) - 0)) 0 0)
  else
  Stp.elim (fun a5 =>
    (a5, true))
    (fun p5 =>
      (0, false))
    (forN (i_Number_L0_f x0) 1 (Int.toNat ((x0.length : Int) - 0)) 0 0)
theorem i_Number_lk (x0 : Bytes) : evalFn te (orcOf (P := Tryd.prog) []) (lorcOf [i_Number_L0_le]) i_Number_ann Tryd.f57 (pvs [.sc .str] (x0, ())) =
  i_Number_N x0 _ none (fun v => some [(false, [RC.c (.int .i64 v.1)]), (false, [RC.c (.bool v.2)])]) := by kernel_rfl
theorem i_Number_p (x0 : Bytes) (hx0 : List.length x0 ≤ 4611686018427387904)  (γ : Type) (fail : γ) (k : Int × Bool → γ) : i_Number_N x0 γ fail k = k (i_Number x0) := by
  unfold i_Number_N i_Number
  exact bifT (f := k) (fun b0 => rfl)
      (fun b0 => bifT (f := k) (fun b1 => rfl)
      (fun b1 => bifT (f := k) (fun b2 => bifG (by (try simp only [Nat.ble_eq, Bool.and_eq_true, decide_eq_true_eq, i_Number_L0_mx0, i_Number_L0_mx1]); grind [maxSl, maxStr, toBytes_length, toInts_length, List.length_set, wrap64]) (bifT (f := k) (fun b3 => rfl)
      (fun b3 => loopT (f := k) (i_Number_L0_cl x0 0 0 (by (try simp only [Nat.ble_eq, Bool.and_eq_true, decide_eq_true_eq, i_Number_L0_mx0, i_Number_L0_mx1]); grind [maxSl, maxStr, toBytes_length, toInts_length, List.length_set, wrap64]) (by (try simp only [Nat.ble_eq, Bool.and_eq_true, decide_eq_true_eq, i_Number_L0_mx0, i_Number_L0_mx1]); grind [maxSl, maxStr, toBytes_length, toInts_length, List.length_set, wrap64])) (fun a3 => rfl)
      (fun p3 => rfl))))
      (fun b2 => loopT (f := k) (i_Number_L0_cl x0 0 0 (by (try simp only [Nat.ble_eq, Bool.and_eq_true, decide_eq_true_eq, i_Number_L0_mx0, i_Number_L0_mx1]); grind [maxSl, maxStr, toBytes_length, toInts_length, List.length_set, wrap64]) (by (try simp only [Nat.ble_eq, Bool.and_eq_true, decide_eq_true_eq, i_Number_L0_mx0, i_Number_L0_mx1]); grind [maxSl, maxStr, toBytes_length, toInts_length, List.length_set, wrap64])) (fun a5 => rfl)
      (fun p5 => rfl))))
theorem i_Number_c (x0 : Bytes)  : Con Tryd.prog 57 (pvs [.sc .str] (x0, ())) [rv (.sc (.int .i64)) [] (i_Number x0).1, rv (.sc .bool) [] (i_Number x0).2] := by
  refine Con.of_facts (enters_of Tryd.func57 rfl (by kernel_rfl)) fun hf => ?_
  replace hf := factAt hf
  exact evalFn_conL teFact mixFact (orcOf_ok _) Tryd.func57 (by kernel_rfl) (bs := [0]) (by kernel_rfl) (by kernel_rfl) (fun w0 mo I0 hmo => ⟨lsem_of_lorc (i_Number_L0_ls w0 mo I0 hmo) (by kernel_rfl), trivial⟩) ((i_Number_lk x0).trans (i_Number_p x0 ((hf 0 0 rfl rfl).slen) _ _ _))
noncomputable def i_Number_e : Ent1 Tryd.prog := entA 57 [.sc .str] (fun x => (i_Number x.1)) (fun v => [rv (.sc (.int .i64)) [] v.1, rv (.sc .bool) [] v.2]) (fun x => i_Number_c x.1)


/-- spec.Joined -/
def s_Joined_ann : List (Nat × Keep) := [(0, ⟨[0, 1, 5, 6], [], false, 0⟩)]
def s_Joined_L0_sh : Sh := ⟨[(0, false, [.sl .arg .str]), (1, false, [.str]), (5, false, [.own 0]), (6, false, [.int .i64])], [.arr .u8 false true]⟩
def s_Joined_L0_es : List (Ex × Sh) := [(.exit 0, ⟨[(4, false, [.undef]), (5, false, [.own 0])], [.arr .u8 false true]⟩)]
def s_Joined_L0_mk (v0 : List Bytes) (v1 : Bytes) (v2 : Int) (v3 : List Int) : s_Joined_L0_sh.T := (((v0, ()), ((v1, ()), (((), ()), ((v2, ()), ())))), (v3, ()))
def s_Joined_L0_mx0 (y0 : List Int) : Sh.T ⟨[(4, false, [.undef]), (5, false, [.own 0])], [.arr .u8 false true]⟩ := ((((), ()), (((), ()), ())), (y0, ()))
def s_Joined_L0_B (v0 : List Bytes) (v1 : Bytes) (v2 : Int) (v3 : List Int) (γ : Type) (fail : γ) (next : s_Joined_L0_sh.T → γ) (out : WT s_Joined_L0_es → γ) : γ :=
  bif (decide (v2 < (v0.length : Int))) then
    bif (decide (0 < v2)) then
      bif (Nat.ble ((2 * (v3.length + (toInts v1).length) + 1024) * 1) maxSl) then
      bif ((decide (0 ≤ v2)) && (decide (v2 < (v0.length : Int)))) then
      bif (Nat.ble ((2 * ((v3 ++ (toInts v1)).length + (toInts (v0.getD v2.toNat [])).length) + 1024) * 1) maxSl) then
      next (s_Joined_L0_mk v0 v1 (IntKind.wrap .i64 (v2 + 1)) ((v3 ++ (toInts v1)) ++ (toInts (v0.getD v2.toNat []))))
      else fail
      else fail
      else fail
    else
    bif ((decide (0 ≤ v2)) && (decide (v2 < (v0.length : Int)))) then
    bif (Nat.ble ((2 * (v3.length + (toInts (v0.getD v2.toNat [])).length) + 1024) * 1) maxSl) then
    next (s_Joined_L0_mk v0 v1 (IntKind.wrap .i64 (v2 + 1)) (v3 ++ (toInts (v0.getD v2.toNat []))))
    else fail
    else fail
  else
  out (s_Joined_L0_mx0 v3)
theorem s_Joined_L0_par (v0 : List Bytes) (v1 : Bytes) (v2 : Int) (v3 : List Int) (γ : Type) (fail : γ) (next : s_Joined_L0_sh.T → γ) (out : WT s_Joined_L0_es → γ) : s_Joined_L0_B v0 v1 v2 v3 γ fail next out = optK (s_Joined_L0_B v0 v1 v2 v3 _ none (fun v' => some (.inl v')) (fun w => some (.inr w))) fail (fun r => Sum.elim next out r) := by
  unfold s_Joined_L0_B
  exact bifT (f := (fun o => optK o fail (fun r => Sum.elim next out r))) (fun _ => bifT (f := (fun o => optK o fail (fun r => Sum.elim next out r))) (fun _ => bifT (f := (fun o => optK o fail (fun r => Sum.elim next out r))) (fun _ => bifT (f := (fun o => optK o fail (fun r => Sum.elim next out r))) (fun _ => bifT (f := (fun o => optK o fail (fun r => Sum.elim next out r))) (fun _ => rfl) (fun _ => rfl)) (fun _ => rfl)) (fun _ => rfl))
      (fun _ => bifT (f := (fun o => optK o fail (fun r => Sum.elim next out r))) (fun _ => bifT (f := (fun o => optK o fail (fun r => Sum.elim next out r))) (fun _ => rfl) (fun _ => rfl)) (fun _ => rfl)))
      (fun _ => rfl)
def s_Joined_L0_r : Round s_Joined_L0_sh.T (WT s_Joined_L0_es) where
  B v γ fail next out := s_Joined_L0_B v.1.1.1 v.1.2.1.1 v.1.2.2.2.1.1 v.2.1 γ fail next out
  par v γ fail next out := s_Joined_L0_par v.1.1.1 v.1.2.1.1 v.1.2.2.2.1.1 v.2.1 γ fail next out
def s_Joined_L0_fu (v0 : List Bytes) (v1 : Bytes) (v2 : Int) (v3 : List Int) : Nat := (Int.toNat ((v0.length : Int) - v2)) + 1
theorem s_Joined_L0_lk (v : s_Joined_L0_sh.T) (next : St → Option Res) (k : Ex → St → Option Res) : evalK te (orcOf (P := Tryd.prog) []) (lorcOf []) Tryd.f60.ntmps s_Joined_ann (nthLoop (bodyOf Tryd.f60) 0 0) 0 (s_Joined_L0_sh.enc v) (endK ⟨[0, 1, 5, 6], [], false, 0⟩ ⟨[4, 5], [], false, 0⟩ next k) =
  s_Joined_L0_r.B v _ none (fun v' => next (s_Joined_L0_sh.enc v')) (fun w => outK s_Joined_L0_es k w) := by kernel_rfl
def s_Joined_L0_le : LE := leOf 0 s_Joined_L0_sh s_Joined_L0_es s_Joined_L0_r.step (fun v => s_Joined_L0_fu v.1.1.1 v.1.2.1.1 v.1.2.2.2.1.1 v.2.1)
theorem s_Joined_L0_ls (w0 : World) (mo : Mts) (I0 : Nat → Prop) (hmo : mo.length = 0) : LSem Tryd.prog (Sim w0 mo Tryd.f60.ntmps I0) (fun b s k => match Nat.beq 0 b with | true => s_Joined_L0_le.run s k | false => none) 0 (nthLoop (bodyOf Tryd.f60) 0 0) :=
  le_sem hmo (lorc := lorcOf []) (ann := s_Joined_ann) (keep := ⟨[0, 1, 5, 6], [], false, 0⟩) (kout := ⟨[4, 5], [], false, 0⟩) teFact mixFact (orcOf_ok _) (by kernel_rfl) (allLoops_of (bs := []) (by kernel_rfl) trivial) s_Joined_L0_r _ s_Joined_L0_lk
def s_Joined_L0_f (v0 : List Bytes) (v1 : Bytes) (v2 : Int) (a : List Int) : Stp (List Int) (Empty) :=
  bif (decide (0 < v2)) then
    .next ((a ++ (toInts v1)) ++ (toInts (v0.getD v2.toNat [])))
  else
  .next (a ++ (toInts (v0.getD v2.toNat [])))
theorem s_Joined_L0_st (v0 : List Bytes) (v1 : Bytes) (v2 : Int) (v3 : List Int) (hlo : 0 ≤ v2) (hhi : v2 < (v0.length : Int)) (hN : (v0.length : Int) ≤ 4611686018427387904) (hi0 : (v0.length : Int) ≤ 65536) (hi1 : v1.length ≤ 65536) (hi2 : ∀ y ∈ v0, List.length y ≤ 65536) (hinv : (v3.length : Int) ≤ v2 * 131072) : s_Joined_L0_r.step (s_Joined_L0_mk v0 v1 v2 v3) = Stp.elim (fun a' : List Int => some (Sum.inl (s_Joined_L0_mk v0 v1 (v2 + 1) a'))) (fun w => some (Sum.inr ((fun p : Empty => nomatch p) w))) (s_Joined_L0_f v0 v1 v2 v3) := by
  have hw : (IntKind.wrap .i64 (v2 + 1)) = v2 + 1 := wrap64 (by omega) (by omega)
  show s_Joined_L0_B v0 v1 v2 v3 (Option (s_Joined_L0_sh.T ⊕ WT s_Joined_L0_es)) none (fun v' => some (Sum.inl v')) (fun w => some (Sum.inr w)) = _
  unfold s_Joined_L0_B s_Joined_L0_f
  exact bifG (by simp only [decide_eq_true_eq]; omega) (bifT (f := (Stp.elim (fun a' : List Int => some (Sum.inl (s_Joined_L0_mk v0 v1 (v2 + 1) a'))) (fun w => some (Sum.inr ((fun p : Empty => nomatch p) w))))) (fun b0 => bifG (by (try simp only [Nat.ble_eq, Bool.and_eq_true, decide_eq_true_eq]); grind [maxSl, maxStr, toBytes_length, toInts_length, List.length_set, wrap64]) (bifG (by (try simp only [Nat.ble_eq, Bool.and_eq_true, decide_eq_true_eq]); grind [maxSl, maxStr, toBytes_length, toInts_length, List.length_set, wrap64]) (bifG (by (try simp only [Nat.ble_eq, Bool.and_eq_true, decide_eq_true_eq]); grind [maxSl, maxStr, toBytes_length, toInts_length, List.length_set, wrap64]) ((by exact congrArg (fun z => some (Sum.inl (s_Joined_L0_mk v0 v1 z ((v3 ++ (toInts v1)) ++ (toInts (v0.getD v2.toNat [])))))) hw)))))
      (fun b0 => bifG (by (try simp only [Nat.ble_eq, Bool.and_eq_true, decide_eq_true_eq]); grind [maxSl, maxStr, toBytes_length, toInts_length, List.length_set, wrap64]) (bifG (by (try simp only [Nat.ble_eq, Bool.and_eq_true, decide_eq_true_eq]); grind [maxSl, maxStr, toBytes_length, toInts_length, List.length_set, wrap64]) ((by exact congrArg (fun z => some (Sum.inl (s_Joined_L0_mk v0 v1 z (v3 ++ (toInts (v0.getD v2.toNat [])))))) hw)))))
theorem s_Joined_L0_cl (v0 : List Bytes) (v1 : Bytes) (v2 : Int) (v3 : List Int) (h0 : 0 ≤ v2) (h1 : (v0.length : Int) ≤ 4611686018427387904) (h2 : (v0.length : Int) ≤ 65536) (h3 : v1.length ≤ 65536) (h4 : ∀ y ∈ v0, List.length y ≤ 65536) (h5 : (v3.length : Int) ≤ v2 * 131072) : loopF s_Joined_L0_r.step (s_Joined_L0_fu v0 v1 v2 v3) (s_Joined_L0_mk v0 v1 v2 v3) = some (Stp.elim (fun a => (fun i a => s_Joined_L0_mx0 a) (v2 + 1 * (((Int.toNat ((v0.length : Int) - v2)) : Nat) : Int)) a) (fun p : Empty => nomatch p) (forN (s_Joined_L0_f v0 v1) 1 (Int.toNat ((v0.length : Int) - v2)) v2 v3)) :=
  forN_loop (step := s_Joined_L0_r.step) (mk := fun v2 a => s_Joined_L0_mk v0 v1 v2 a) (f := s_Joined_L0_f v0 v1) (e := (fun i a => s_Joined_L0_mx0 a)) (emb := (fun p : Empty => nomatch p)) (st := 1) (Inv := fun v2 a => (a.length : Int) ≤ v2 * 131072) (Int.toNat ((v0.length : Int) - v2)) v2 v3 _ (Nat.lt_succ_self _) h5
    (fun j a hj hv => ⟨s_Joined_L0_st v0 v1 (v2 + 1 * (j : Int)) a (by omega) (by omega) (by omega) h2 h3 h4 hv, by
      intro a' he
      have hm : (v0.getD (v2 + 1 * (j : Int)).toNat []).length ≤ 65536 := getD_all (p := fun y => List.length y ≤ 65536) (by simp) (fun y hy => by first | exact h4 y hy | exact h3 y hy) _
      unfold s_Joined_L0_f at he
      cases hc : decide (0 < v2 + 1 * (j : Int)) <;> rw [hc] at he <;> simp only [cond_true, cond_false, letK] at he <;> cases he <;> simp only [List.length_append, toInts_length] <;> omega⟩)
    (fun a hv => by
      show s_Joined_L0_B v0 v1 (v2 + 1 * (((Int.toNat ((v0.length : Int) - v2)) : Nat) : Int)) a (Option (s_Joined_L0_sh.T ⊕ WT s_Joined_L0_es)) none (fun v' => some (Sum.inl v')) (fun w => some (Sum.inr w)) = _
      unfold s_Joined_L0_B
      exact bifN (by simp only [decide_eq_false_iff_not]; omega) rfl)
theorem s_Joined_L0_nx (v0 : List Bytes) (v1 : Bytes) (v2 : Int) (v3 : List Int) (h0 : 0 ≤ v2) (h1 : (v0.length : Int) ≤ 4611686018427387904) (h2 : (v0.length : Int) ≤ 65536) (h3 : v1.length ≤ 65536) (h4 : ∀ y ∈ v0, List.length y ≤ 65536) (h5 : (v3.length : Int) ≤ v2 * 131072) : ∀ a', forN (s_Joined_L0_f v0 v1) 1 (Int.toNat ((v0.length : Int) - v2)) v2 v3 = .next a' → (a'.length : Int) ≤ (v2 + 1 * (((Int.toNat ((v0.length : Int) - v2)) : Nat) : Int)) * 131072 :=
  forN_inv (f := s_Joined_L0_f v0 v1) (st := 1) (Inv := fun v2 a => (a.length : Int) ≤ v2 * 131072) (Int.toNat ((v0.length : Int) - v2)) v2 v3 h5
    (fun j a hj hv => by
      intro a' he
      have hm : (v0.getD (v2 + 1 * (j : Int)).toNat []).length ≤ 65536 := getD_all (p := fun y => List.length y ≤ 65536) (by simp) (fun y hy => by first | exact h4 y hy | exact h3 y hy) _
      unfold s_Joined_L0_f at he
      cases hc : decide (0 < v2 + 1 * (j : Int)) <;> rw [hc] at he <;> simp only [cond_true, cond_false, letK] at he <;> cases he <;> simp only [List.length_append, toInts_length] <;> omega)
def s_Joined_N (x0 : List Bytes) (x1 : Bytes) (γ : Type) (fail : γ) (k : Bytes → γ) : γ :=
  optK (loopF s_Joined_L0_r.step (s_Joined_L0_fu x0 x1 0 []) (s_Joined_L0_mk x0 x1 0 [])) fail fun w1 =>
    k (toBytes w1.2.1)
def s_Joined (x0 : List Bytes) (x1 : Bytes) : Bytes :=
  Stp.elim (fun a2 =>
    (toBytes a2))
    (fun p : Empty => nomatch p)
    (forN (s_Joined_L0_f x0 x1) 1 (Int.toNat ((x0.length : Int) - 0)) 0 [])
theorem s_Joined_lk (x0 : List Bytes) (x1 : Bytes) : evalFn te (orcOf (P := Tryd.prog) []) (lorcOf [s_Joined_L0_le]) s_Joined_ann Tryd.f60 (pvs [.sc (.sl .str), .sc .str] (x0, x1, ())) =
  s_Joined_N x0 x1 _ none (fun v => some [(false, [RC.c (.str v)])]) := by kernel_rfl
theorem s_Joined_p (x0 : List Bytes) (x1 : Bytes) (hx0 : x0.length ≤ 140737488355328) (hx0_e : ∀ y ∈ x0, List.length y ≤ 4611686018427387904) (hx1 : List.length x1 ≤ 4611686018427387904) (hp : x0.length ≤ 65536 ∧ (∀ y ∈ x0, y.length ≤ 65536) ∧ x1.length ≤ 65536) (γ : Type) (fail : γ) (k : Bytes → γ) : s_Joined_N x0 x1 γ fail k = k (s_Joined x0 x1) := by
  unfold s_Joined_N s_Joined
  exact loopX (f := k) (s_Joined_L0_cl x0 x1 0 [] (by (try simp only [Nat.ble_eq, Bool.and_eq_true, decide_eq_true_eq, s_Joined_L0_mx0]); grind [maxSl, maxStr, toBytes_length, toInts_length, List.length_set, wrap64]) (by (try simp only [Nat.ble_eq, Bool.and_eq_true, decide_eq_true_eq, s_Joined_L0_mx0]); grind [maxSl, maxStr, toBytes_length, toInts_length, List.length_set, wrap64]) (by (try simp only [Nat.ble_eq, Bool.and_eq_true, decide_eq_true_eq, s_Joined_L0_mx0]); grind [maxSl, maxStr, toBytes_length, toInts_length, List.length_set, wrap64]) (by (try simp only [Nat.ble_eq, Bool.and_eq_true, decide_eq_true_eq, s_Joined_L0_mx0]); grind [maxSl, maxStr, toBytes_length, toInts_length, List.length_set, wrap64]) (by (try simp only [Nat.ble_eq, Bool.and_eq_true, decide_eq_true_eq, s_Joined_L0_mx0]); grind [maxSl, maxStr, toBytes_length, toInts_length, List.length_set, wrap64]) (by (try simp only [Nat.ble_eq, Bool.and_eq_true, decide_eq_true_eq, s_Joined_L0_mx0]); grind [maxSl, maxStr, toBytes_length, toInts_length, List.length_set, wrap64])) (fun a2 ha2 => have ia2 := s_Joined_L0_nx x0 x1 0 [] (by (try simp only [Nat.ble_eq, Bool.and_eq_true, decide_eq_true_eq, s_Joined_L0_mx0]); grind [maxSl, maxStr, toBytes_length, toInts_length, List.length_set, wrap64]) (by (try simp only [Nat.ble_eq, Bool.and_eq_true, decide_eq_true_eq, s_Joined_L0_mx0]); grind [maxSl, maxStr, toBytes_length, toInts_length, List.length_set, wrap64]) (by (try simp only [Nat.ble_eq, Bool.and_eq_true, decide_eq_true_eq, s_Joined_L0_mx0]); grind [maxSl, maxStr, toBytes_length, toInts_length, List.length_set, wrap64]) (by (try simp only [Nat.ble_eq, Bool.and_eq_true, decide_eq_true_eq, s_Joined_L0_mx0]); grind [maxSl, maxStr, toBytes_length, toInts_length, List.length_set, wrap64]) (by (try simp only [Nat.ble_eq, Bool.and_eq_true, decide_eq_true_eq, s_Joined_L0_mx0]); grind [maxSl, maxStr, toBytes_length, toInts_length, List.length_set, wrap64]) (by (try simp only [Nat.ble_eq, Bool.and_eq_true, decide_eq_true_eq, s_Joined_L0_mx0]); grind [maxSl, maxStr, toBytes_length, toInts_length, List.length_set, wrap64]) _ ha2; rfl)
      (fun p : Empty => nomatch p)
theorem s_Joined_c (x0 : List Bytes) (x1 : Bytes) (hp : x0.length ≤ 65536 ∧ (∀ y ∈ x0, y.length ≤ 65536) ∧ x1.length ≤ 65536) : Con Tryd.prog 60 (pvs [.sc (.sl .str), .sc .str] (x0, x1, ())) [rv (.sc .str) [] (s_Joined x0 x1)] := by
  refine Con.of_facts (enters_of Tryd.func60 rfl (by kernel_rfl)) fun hf => ?_
  replace hf := factAt hf
  exact evalFn_conL teFact mixFact (orcOf_ok _) Tryd.func60 (by kernel_rfl) (bs := [0]) (by kernel_rfl) (by kernel_rfl) (fun w0 mo I0 hmo => ⟨lsem_of_lorc (s_Joined_L0_ls w0 mo I0 hmo) (by kernel_rfl), trivial⟩) ((s_Joined_lk x0 x1).trans (s_Joined_p x0 x1 ((hf 0 0 rfl rfl).len) (fun y hy => ((hf 0 0 rfl rfl).elem hy (.str y) List.mem_cons_self).slen) ((hf 1 0 rfl rfl).slen) hp _ _ _))
noncomputable def s_Joined_e : Ent1 Tryd.prog := entP 60 [.sc (.sl .str), .sc .str] (fun x => (decide (x.1.length ≤ 65536 ∧ (∀ y ∈ x.1, y.length ≤ 65536) ∧ x.2.1.length ≤ 65536))) (fun x => (s_Joined x.1 x.2.1)) (fun v => [rv (.sc .str) [] v]) (fun x hx => s_Joined_c x.1 x.2.1 (of_decide_eq_true hx))

theorem s_Joined_len (x0 : List Bytes) (x1 : Bytes) (hp : x0.length ≤ 65536 ∧ (∀ y ∈ x0, y.length ≤ 65536) ∧ x1.length ≤ 65536)  : (fun v : Bytes => v.length ≤ 8589934592) (s_Joined x0 x1) := by
  unfold s_Joined
  exact loopP (P := (fun v : Bytes => v.length ≤ 8589934592)) (fun a2 ha2 => have ia2 := s_Joined_L0_nx x0 x1 0 [] (by (try simp only [Nat.ble_eq, Bool.and_eq_true, decide_eq_true_eq, s_Joined_L0_mx0]); grind [maxSl, maxStr, toBytes_length, toInts_length, List.length_set, wrap64]) (by (try simp only [Nat.ble_eq, Bool.and_eq_true, decide_eq_true_eq, s_Joined_L0_mx0]); grind [maxSl, maxStr, toBytes_length, toInts_length, List.length_set, wrap64]) (by (try simp only [Nat.ble_eq, Bool.and_eq_true, decide_eq_true_eq, s_Joined_L0_mx0]); grind [maxSl, maxStr, toBytes_length, toInts_length, List.length_set, wrap64]) (by (try simp only [Nat.ble_eq, Bool.and_eq_true, decide_eq_true_eq, s_Joined_L0_mx0]); grind [maxSl, maxStr, toBytes_length, toInts_length, List.length_set, wrap64]) (by (try simp only [Nat.ble_eq, Bool.and_eq_true, decide_eq_true_eq, s_Joined_L0_mx0]); grind [maxSl, maxStr, toBytes_length, toInts_length, List.length_set, wrap64]) (by (try simp only [Nat.ble_eq, Bool.and_eq_true, decide_eq_true_eq, s_Joined_L0_mx0]); grind [maxSl, maxStr, toBytes_length, toInts_length, List.length_set, wrap64]) _ ha2; (by (try simp only [Nat.ble_eq, Bool.and_eq_true, decide_eq_true_eq, s_Joined_L0_mx0]); grind [maxSl, maxStr, toBytes_length, toInts_length, List.length_set, wrap64]))
      (fun p _ => nomatch p)

/-- impl.Joined -/
def i_Joined_N (x0 : List Bytes) (x1 : Bytes) (γ : Type) (fail : γ) (k : Bytes → γ) : γ :=
  bif (decide ((lb_Join x0 x1).length ≤ 140737488355328)) then
  letK (α := Bytes) (lb_Join x0 x1) fun c1 =>
  k c1
  else fail
def i_Joined (x0 : List Bytes) (x1 : Bytes) : Bytes :=
  letK (α := Bytes) (lb_Join x0 x1) fun c1 =>
  c1
theorem i_Joined_lk (x0 : List Bytes) (x1 : Bytes) : evalFn te (orcOf (P := Tryd.prog) [lb_Join_e]) lorc0 [] Tryd.f61 (pvs [.sc (.sl .str), .sc .str] (x0, x1, ())) =
  i_Joined_N x0 x1 _ none (fun v => some [(false, [RC.c (.str v)])]) := by kernel_rfl
theorem i_Joined_p (x0 : List Bytes) (x1 : Bytes) (hx0 : x0.length ≤ 140737488355328) (hx0_e : ∀ y ∈ x0, List.length y ≤ 4611686018427387904) (hx1 : List.length x1 ≤ 4611686018427387904) (hp : x0.length ≤ 65536 ∧ (∀ y ∈ x0, List.length y ≤ 65536) ∧ x1.length ≤ 65536) (γ : Type) (fail : γ) (k : Bytes → γ) : i_Joined_N x0 x1 γ fail k = k (i_Joined x0 x1) := by
  unfold i_Joined_N i_Joined
  exact bifG (by simp only [decide_eq_true_eq]; exact Nat.le_trans (lb_Join_len x0 x1 hp.1 hp.2.1 hp.2.2) (by decide)) (letT (f := k) (fun c1 hc1 => rfl))
theorem i_Joined_c (x0 : List Bytes) (x1 : Bytes) (hp : x0.length ≤ 65536 ∧ (∀ y ∈ x0, List.length y ≤ 65536) ∧ x1.length ≤ 65536) : Con Tryd.prog 61 (pvs [.sc (.sl .str), .sc .str] (x0, x1, ())) [rv (.sc .str) [] (i_Joined x0 x1)] := by
  refine Con.of_facts (enters_of Tryd.func61 rfl (by kernel_rfl)) fun hf => ?_
  replace hf := factAt hf
  exact evalFn_con0 teFact mixFact (orcOf_ok _) Tryd.func61 (by kernel_rfl) ((i_Joined_lk x0 x1).trans (i_Joined_p x0 x1 ((hf 0 0 rfl rfl).len) (fun y hy => ((hf 0 0 rfl rfl).elem hy (.str y) List.mem_cons_self).slen) ((hf 1 0 rfl rfl).slen) hp _ _ _))
noncomputable def i_Joined_e : Ent1 Tryd.prog := entP 61 [.sc (.sl .str), .sc .str] (fun x => (decide (x.1.length ≤ 65536 ∧ (∀ y ∈ x.1, List.length y ≤ 65536) ∧ x.2.1.length ≤ 65536))) (fun x => (i_Joined x.1 x.2.1)) (fun v => [rv (.sc .str) [] v]) (fun x hx => i_Joined_c x.1 x.2.1 (of_decide_eq_true hx))

theorem i_Joined_len (x0 : List Bytes) (x1 : Bytes) (hp : x0.length ≤ 65536 ∧ (∀ y ∈ x0, List.length y ≤ 65536) ∧ x1.length ≤ 65536)  : (fun v : Bytes => v.length ≤ 8589934592) (i_Joined x0 x1) := by
  unfold i_Joined
  exact letP (P := (fun v : Bytes => v.length ≤ 8589934592)) (fun c1 hc1 => (by subst_vars; exact lb_Join_len x0 x1 hp.1 hp.2.1 hp.2.2))

/-- spec.l1In -/
def s_l1In_N (x0 : Int) (x1 : Int) (x2 : Int) (γ : Type) (fail : γ) (k : Bool → γ) : γ :=
  bif (decide (x1 ≤ x0)) then
    k (decide (x0 ≤ x2))
  else
  k false
def s_l1In (x0 : Int) (x1 : Int) (x2 : Int) : Bool :=
  bif (decide (x1 ≤ x0)) then
    (decide (x0 ≤ x2))
  else
  false
theorem s_l1In_lk (x0 : Int) (x1 : Int) (x2 : Int) : evalFn te (orcOf (P := Tryd.prog) []) lorc0 [] Tryd.f70 (pvs [.sc (.int .i64), .sc (.int .i64), .sc (.int .i64)] (x0, x1, x2, ())) =
  s_l1In_N x0 x1 x2 _ none (fun v => some [(false, [RC.c (.bool v)])]) := by kernel_rfl
theorem s_l1In_p (x0 : Int) (x1 : Int) (x2 : Int)   (γ : Type) (fail : γ) (k : Bool → γ) : s_l1In_N x0 x1 x2 γ fail k = k (s_l1In x0 x1 x2) := by
  unfold s_l1In_N s_l1In
  exact bifT (f := k) (fun b0 => rfl)
      (fun b0 => rfl)
theorem s_l1In_c (x0 : Int) (x1 : Int) (x2 : Int)  : Con Tryd.prog 70 (pvs [.sc (.int .i64), .sc (.int .i64), .sc (.int .i64)] (x0, x1, x2, ())) [rv (.sc .bool) [] (s_l1In x0 x1 x2)] := by
  exact evalFn_con0 teFact mixFact (orcOf_ok _) Tryd.func70 (by kernel_rfl) ((s_l1In_lk x0 x1 x2).trans (s_l1In_p x0 x1 x2  _ _ _))
noncomputable def s_l1In_e : Ent1 Tryd.prog := entA 70 [.sc (.int .i64), .sc (.int .i64), .sc (.int .i64)] (fun x => (s_l1In x.1 x.2.1 x.2.2.1)) (fun v => [rv (.sc .bool) [] v]) (fun x => s_l1In_c x.1 x.2.1 x.2.2.1)

theorem s_l1In_eq (n lo hi : Int) : s_l1In n lo hi = (decide (lo ≤ n) && decide (n ≤ hi)) := by
  unfold s_l1In
  cases decide (lo ≤ n) <;> rfl


/-- impl.within -/
def i_within_N (x0 : Int) (x1 : Int) (x2 : Int) (γ : Type) (fail : γ) (k : Bool → γ) : γ :=
  bif (decide (x1 ≤ x0)) then
    k (decide (x0 ≤ x2))
  else
  k false
def i_within (x0 : Int) (x1 : Int) (x2 : Int) : Bool :=
  bif (decide (x1 ≤ x0)) then
    (decide (x0 ≤ x2))
  else
  false
theorem i_within_lk (x0 : Int) (x1 : Int) (x2 : Int) : evalFn te (orcOf (P := Tryd.prog) []) lorc0 [] Tryd.f75 (pvs [.sc (.int .i64), .sc (.int .i64), .sc (.int .i64)] (x0, x1, x2, ())) =
  i_within_N x0 x1 x2 _ none (fun v => some [(false, [RC.c (.bool v)])]) := by kernel_rfl
theorem i_within_p (x0 : Int) (x1 : Int) (x2 : Int)   (γ : Type) (fail : γ) (k : Bool → γ) : i_within_N x0 x1 x2 γ fail k = k (i_within x0 x1 x2) := by
  unfold i_within_N i_within
  exact bifT (f := k) (fun b0 => rfl)
      (fun b0 => rfl)
theorem i_within_c (x0 : Int) (x1 : Int) (x2 : Int)  : Con Tryd.prog 75 (pvs [.sc (.int .i64), .sc (.int .i64), .sc (.int .i64)] (x0, x1, x2, ())) [rv (.sc .bool) [] (i_within x0 x1 x2)] := by
  exact evalFn_con0 teFact mixFact (orcOf_ok _) Tryd.func75 (by kernel_rfl) ((i_within_lk x0 x1 x2).trans (i_within_p x0 x1 x2  _ _ _))
noncomputable def i_within_e : Ent1 Tryd.prog := entA 75 [.sc (.int .i64), .sc (.int .i64), .sc (.int .i64)] (fun x => (i_within x.1 x.2.1 x.2.2.1)) (fun v => [rv (.sc .bool) [] v]) (fun x => i_within_c x.1 x.2.1 x.2.2.1)

theorem i_within_eq (n lo hi : Int) : i_within n lo hi = (decide (lo ≤ n) && decide (n ≤ hi)) := by
  unfold i_within
  cases decide (lo ≤ n) <;> rfl


/-- impl.Address -/
def i_Address_ann : List (Nat × Keep) := [(0, ⟨[4, 5, 12, 13, 14], [], false, 0⟩)]
def i_Address_L0_sh : Sh := ⟨[(4, false, [.own 0]), (5, false, [.int .i64]), (12, false, [.own 0]), (13, false, [.int .i64]), (14, false, [.int .i64])], [.arr .str false true]⟩
def i_Address_L0_es : List (Ex × Sh) := [(.ret, ⟨[(2, false, [.int .i64]), (3, false, [.bool]), (5, false, [.int .i64])], []⟩), (.exit 0, ⟨[(2, false, [.undef]), (3, false, [.undef]), (5, false, [.int .i64])], []⟩)]
def i_Address_L0_mk (v0 : Int) (v1 : Int) (v2 : Int) (v3 : List Bytes) : i_Address_L0_sh.T := ((((), ()), ((v0, ()), (((), ()), ((v1, ()), ((v2, ()), ()))))), (v3, ()))
def i_Address_L0_mx0 (y0 : Int) (y1 : Bool) (y2 : Int) : Sh.T ⟨[(2, false, [.int .i64]), (3, false, [.bool]), (5, false, [.int .i64])], []⟩ := (((y0, ()), ((y1, ()), ((y2, ()), ()))), ())
def i_Address_L0_mx1 (y0 : Int) : Sh.T ⟨[(2, false, [.undef]), (3, false, [.undef]), (5, false, [.int .i64])], []⟩ := ((((), ()), (((), ()), ((y0, ()), ()))), ())
def i_Address_L0_B (v0 : Int) (v1 : Int) (v2 : Int) (v3 : List Bytes) (γ : Type) (fail : γ) (next : i_Address_L0_sh.T → γ) (out : WT i_Address_L0_es → γ) : γ :=
  bif (decide (v2 < v1)) then
    bif ((decide (0 ≤ v2)) && (decide (v2 < (v3.length : Int)))) then
    letK (α := Int × Bool) (i_Number (v3.getD v2.toNat [])) fun c2 =>
    bif (!c2.2) then
      out (Sum.inl (i_Address_L0_mx0 0 false v0))
    else
    bif (decide (255 < c2.1)) then
      out (Sum.inl (i_Address_L0_mx0 0 false v0))
    else
    bif ((v3.length : Int) != 4) then
      out (Sum.inl (i_Address_L0_mx0 0 false v0))
    else
    next (i_Address_L0_mk (bits .or .i64 (IntKind.wrap .i64 (v0 * 256)) c2.1) v1 (IntKind.wrap .i64 (v2 + 1)) v3)
    else fail
  else
  out (Sum.inr (i_Address_L0_mx1 v0))
theorem i_Address_L0_par (v0 : Int) (v1 : Int) (v2 : Int) (v3 : List Bytes) (γ : Type) (fail : γ) (next : i_Address_L0_sh.T → γ) (out : WT i_Address_L0_es → γ) : i_Address_L0_B v0 v1 v2 v3 γ fail next out = optK (i_Address_L0_B v0 v1 v2 v3 _ none (fun v' => some (.inl v')) (fun w => some (.inr w))) fail (fun r => Sum.elim next out r) := by
  unfold i_Address_L0_B
  exact bifT (f := (fun o => optK o fail (fun r => Sum.elim next out r))) (fun _ => bifT (f := (fun o => optK o fail (fun r => Sum.elim next out r))) (fun _ => letT (f := (fun o => optK o fail (fun r => Sum.elim next out r))) (fun c2 _ => bifT (f := (fun o => optK o fail (fun r => Sum.elim next out r))) (fun _ => rfl)
      (fun _ => bifT (f := (fun o => optK o fail (fun r => Sum.elim next out r))) (fun _ => rfl)
      (fun _ => bifT (f := (fun o => optK o fail (fun r => Sum.elim next out r))) (fun _ => rfl)
      (fun _ => rfl))))) (fun _ => rfl))
      (fun _ => rfl)
def i_Address_L0_r : Round i_Address_L0_sh.T (WT i_Address_L0_es) where
  B v γ fail next out := i_Address_L0_B v.1.2.1.1 v.1.2.2.2.1.1 v.1.2.2.2.2.1.1 v.2.1 γ fail next out
  par v γ fail next out := i_Address_L0_par v.1.2.1.1 v.1.2.2.2.1.1 v.1.2.2.2.2.1.1 v.2.1 γ fail next out
def i_Address_L0_fu (v0 : Int) (v1 : Int) (v2 : Int) (v3 : List Bytes) : Nat := (Int.toNat (v1 - v2)) + 1
theorem i_Address_L0_lk (v : i_Address_L0_sh.T) (next : St → Option Res) (k : Ex → St → Option Res) : evalK te (orcOf (P := Tryd.prog) [i_Parts_e, i_Number_e]) (lorcOf []) Tryd.f84.ntmps i_Address_ann (nthLoop (bodyOf Tryd.f84) 0 0) 0 (i_Address_L0_sh.enc v) (endK ⟨[4, 5, 12, 13, 14], [], false, 0⟩ ⟨[2, 3, 5], [], false, 0⟩ next k) =
  i_Address_L0_r.B v _ none (fun v' => next (i_Address_L0_sh.enc v')) (fun w => outK i_Address_L0_es k w) := by kernel_rfl
def i_Address_L0_le : LE := leOf 0 i_Address_L0_sh i_Address_L0_es i_Address_L0_r.step (fun v => i_Address_L0_fu v.1.2.1.1 v.1.2.2.2.1.1 v.1.2.2.2.2.1.1 v.2.1)
theorem i_Address_L0_ls (w0 : World) (mo : Mts) (I0 : Nat → Prop) (hmo : mo.length = 0) : LSem Tryd.prog (Sim w0 mo Tryd.f84.ntmps I0) (fun b s k => match Nat.beq 0 b with | true => i_Address_L0_le.run s k | false => none) 0 (nthLoop (bodyOf Tryd.f84) 0 0) :=
  le_sem hmo (lorc := lorcOf []) (ann := i_Address_ann) (keep := ⟨[4, 5, 12, 13, 14], [], false, 0⟩) (kout := ⟨[2, 3, 5], [], false, 0⟩) teFact mixFact (orcOf_ok _) (by kernel_rfl) (allLoops_of (bs := []) (by kernel_rfl) trivial) i_Address_L0_r _ i_Address_L0_lk
def i_Address_L0_f (v1 : Int) (v3 : List Bytes) (v2 : Int) (a : Int) : Stp (Int) ((Int)) :=
  letK (α := Int × Bool) (i_Number (v3.getD v2.toNat [])) fun c2 =>
  bif (!c2.2) then
    .out (a)
  else
  bif (decide (255 < c2.1)) then
    .out (a)
  else
  bif ((v3.length : Int) != 4) then
    .out (a)
  else
  .next (bits .or .i64 (IntKind.wrap .i64 (a * 256)) c2.1)
theorem i_Address_L0_st (v0 : Int) (v1 : Int) (v2 : Int) (v3 : List Bytes) (hlo : 0 ≤ v2) (hhi : v2 < v1) (hN : v1 ≤ 4611686018427387904) (hi0 : v1 ≤ (v3.length : Int)) : i_Address_L0_r.step (i_Address_L0_mk v0 v1 v2 v3) = Stp.elim (fun a' : Int => some (Sum.inl (i_Address_L0_mk a' v1 (v2 + 1) v3))) (fun w => some (Sum.inr ((fun p : Int => Sum.inl (i_Address_L0_mx0 0 false p)) w))) (i_Address_L0_f v1 v3 v2 v0) := by
  have hw : (IntKind.wrap .i64 (v2 + 1)) = v2 + 1 := wrap64 (by omega) (by omega)
  show i_Address_L0_B v0 v1 v2 v3 (Option (i_Address_L0_sh.T ⊕ WT i_Address_L0_es)) none (fun v' => some (Sum.inl v')) (fun w => some (Sum.inr w)) = _
  unfold i_Address_L0_B i_Address_L0_f
  exact bifG (by simp only [decide_eq_true_eq]; omega) (bifG (by (try simp only [Nat.ble_eq, Bool.and_eq_true, decide_eq_true_eq]); grind [maxSl, maxStr, toBytes_length, toInts_length, List.length_set, wrap64, i_Parts_len, i_Parts_el]) (letT (f := (Stp.elim (fun a' : Int => some (Sum.inl (i_Address_L0_mk a' v1 (v2 + 1) v3))) (fun w => some (Sum.inr ((fun p : Int => Sum.inl (i_Address_L0_mx0 0 false p)) w))))) (fun c2 hc2 => bifT (f := (Stp.elim (fun a' : Int => some (Sum.inl (i_Address_L0_mk a' v1 (v2 + 1) v3))) (fun w => some (Sum.inr ((fun p : Int => Sum.inl (i_Address_L0_mx0 0 false p)) w))))) (fun b0 => rfl)
      (fun b0 => bifT (f := (Stp.elim (fun a' : Int => some (Sum.inl (i_Address_L0_mk a' v1 (v2 + 1) v3))) (fun w => some (Sum.inr ((fun p : Int => Sum.inl (i_Address_L0_mx0 0 false p)) w))))) (fun b1 => rfl)
      (fun b1 => bifT (f := (Stp.elim (fun a' : Int => some (Sum.inl (i_Address_L0_mk a' v1 (v2 + 1) v3))) (fun w => some (Sum.inr ((fun p : Int => Sum.inl (i_Address_L0_mx0 0 false p)) w))))) (fun b2 => rfl)
      (fun b2 => (by exact congrArg (fun z => some (Sum.inl (i_Address_L0_mk (bits .or .i64 (IntKind.wrap .i64 (v0 * 256)) c2.1) v1 z v3))) hw)))))))
theorem i_Address_L0_cl (v0 : Int) (v1 : Int) (v2 : Int) (v3 : List Bytes) (h0 : 0 ≤ v2) (h1 : v1 ≤ 4611686018427387904) (h2 : v1 ≤ (v3.length : Int)) : loopF i_Address_L0_r.step (i_Address_L0_fu v0 v1 v2 v3) (i_Address_L0_mk v0 v1 v2 v3) = some (Stp.elim (fun a => (fun i a => Sum.inr (i_Address_L0_mx1 a)) (v2 + 1 * (((Int.toNat (v1 - v2)) : Nat) : Int)) a) (fun p : Int => Sum.inl (i_Address_L0_mx0 0 false p)) (forN (i_Address_L0_f v1 v3) 1 (Int.toNat (v1 - v2)) v2 v0)) :=
  forN_loop (step := i_Address_L0_r.step) (mk := fun v2 a => i_Address_L0_mk a v1 v2 v3) (f := i_Address_L0_f v1 v3) (e := (fun i a => Sum.inr (i_Address_L0_mx1 a))) (emb := (fun p : Int => Sum.inl (i_Address_L0_mx0 0 false p))) (st := 1) (Inv := fun v2 a => True) (Int.toNat (v1 - v2)) v2 v0 _ (Nat.lt_succ_self _) trivial
    (fun j a hj hv => ⟨i_Address_L0_st a v1 (v2 + 1 * (j : Int)) v3 (by omega) (by omega) (by omega) h2, fun _ _ => trivial⟩)
    (fun a hv => by
      show i_Address_L0_B a v1 (v2 + 1 * (((Int.toNat (v1 - v2)) : Nat) : Int)) v3 (Option (i_Address_L0_sh.T ⊕ WT i_Address_L0_es)) none (fun v' => some (Sum.inl v')) (fun w => some (Sum.inr w)) = _
      unfold i_Address_L0_B
      exact bifN (by simp only [decide_eq_false_iff_not]; omega) rfl)
def i_Address_N (x0 : Bytes) (γ : Type) (fail : γ) (k : Int × Bool → γ) : γ :=
  bif (decide (x0.length ≤ 4294967296)) then
  letK (α := List Bytes) (i_Parts x0 46) fun c1 =>
  optK (loopF i_Address_L0_r.step (i_Address_L0_fu 0 (c1.length : Int) 0 c1) (i_Address_L0_mk 0 (c1.length : Int) 0 c1)) fail fun w3 =>
    Sum.elim (fun w3 =>
      k (w3.1.1.1, w3.1.2.1.1))
    (fun w3 =>
      k (w3.1.2.2.1.1, true)) w3
  else fail
def i_Address (x0 : Bytes) : Int × Bool :=
  letK (α := List Bytes) (i_Parts x0 46) fun c1 =>
  Stp.elim (fun a4 =>
    (a4, true))
    (fun p4 =>
      (0, false))
    (forN (i_Address_L0_f (c1.length : Int) c1) 1 (Int.toNat ((c1.length : Int) - 0)) 0 0)
theorem i_Address_lk (x0 : Bytes) : evalFn te (orcOf (P := Tryd.prog) [i_Parts_e, i_Number_e]) (lorcOf [i_Address_L0_le]) i_Address_ann Tryd.f84 (pvs [.sc .str] (x0, ())) =
  i_Address_N x0 _ none (fun v => some [(false, [RC.c (.int .i64 v.1)]), (false, [RC.c (.bool v.2)])]) := by kernel_rfl
theorem i_Address_p (x0 : Bytes) (hx0 : List.length x0 ≤ 4611686018427387904) (hp : x0.length ≤ 4294967296) (γ : Type) (fail : γ) (k : Int × Bool → γ) : i_Address_N x0 γ fail k = k (i_Address x0) := by
  unfold i_Address_N i_Address
  exact bifG (by (try simp only [Nat.ble_eq, Bool.and_eq_true, decide_eq_true_eq, i_Address_L0_mx0, i_Address_L0_mx1]); grind [maxSl, maxStr, toBytes_length, toInts_length, List.length_set, wrap64, i_Parts_len, i_Parts_el]) (letT (f := k) (fun c1 hc1 => loopT (f := k) (i_Address_L0_cl 0 (c1.length : Int) 0 c1 (by (try simp only [Nat.ble_eq, Bool.and_eq_true, decide_eq_true_eq, i_Address_L0_mx0, i_Address_L0_mx1]); grind [maxSl, maxStr, toBytes_length, toInts_length, List.length_set, wrap64, i_Parts_len, i_Parts_el]) (by (try simp only [Nat.ble_eq, Bool.and_eq_true, decide_eq_true_eq, i_Address_L0_mx0, i_Address_L0_mx1]); grind [maxSl, maxStr, toBytes_length, toInts_length, List.length_set, wrap64, i_Parts_len, i_Parts_el]) (by (try simp only [Nat.ble_eq, Bool.and_eq_true, decide_eq_true_eq, i_Address_L0_mx0, i_Address_L0_mx1]); grind [maxSl, maxStr, toBytes_length, toInts_length, List.length_set, wrap64, i_Parts_len, i_Parts_el])) (fun a4 => rfl)
      (fun p4 => rfl)))
theorem i_Address_c (x0 : Bytes) (hp : x0.length ≤ 4294967296) : Con Tryd.prog 84 (pvs [.sc .str] (x0, ())) [rv (.sc (.int .i64)) [] (i_Address x0).1, rv (.sc .bool) [] (i_Address x0).2] := by
  refine Con.of_facts (enters_of Tryd.func84 rfl (by kernel_rfl)) fun hf => ?_
  replace hf := factAt hf
  exact evalFn_conL teFact mixFact (orcOf_ok _) Tryd.func84 (by kernel_rfl) (bs := [0]) (by kernel_rfl) (by kernel_rfl) (fun w0 mo I0 hmo => ⟨lsem_of_lorc (i_Address_L0_ls w0 mo I0 hmo) (by kernel_rfl), trivial⟩) ((i_Address_lk x0).trans (i_Address_p x0 ((hf 0 0 rfl rfl).slen) hp _ _ _))
noncomputable def i_Address_e : Ent1 Tryd.prog := entP 84 [.sc .str] (fun x => (decide (x.1.length ≤ 4294967296))) (fun x => (i_Address x.1)) (fun v => [rv (.sc (.int .i64)) [] v.1, rv (.sc .bool) [] v.2]) (fun x hx => i_Address_c x.1 (of_decide_eq_true hx))


/-- spec.WordOk -/
def s_WordOk_N (x0 : Int) (x1 : Int) (γ : Type) (fail : γ) (k : Bool → γ) : γ :=
  letK (α := Bool) (s_l1In x1 1 62) fun c1 =>
  bif c1 then
    bif (decide (0 ≤ (IntKind.wrap .u64 x1))) then
    letK (α := Int) (IntKind.wrap .i64 ((IntKind.wrap .i64 (1 * 2 ^ (min (IntKind.wrap .u64 x1).toNat 64))) - 1)) fun e2 =>
    letK (α := Bool) (s_l1In x0 0 e2) fun c3 =>
    k c3
    else fail
  else
  k false
def s_WordOk (x0 : Int) (x1 : Int) : Bool :=
  letK (α := Bool) (s_l1In x1 1 62) fun c1 =>
  bif c1 then
    letK (α := Int) (IntKind.wrap .i64 ((IntKind.wrap .i64 (1 * 2 ^ (min (IntKind.wrap .u64 x1).toNat 64))) - 1)) fun e2 =>
    letK (α := Bool) (s_l1In x0 0 e2) fun c3 =>
    c3
  else
  false
theorem s_WordOk_lk (x0 : Int) (x1 : Int) : evalFn te (orcOf (P := Tryd.prog) [s_l1In_e]) lorc0 [] Tryd.f65 (pvs [.sc (.int .i64), .sc (.int .i64)] (x0, x1, ())) =
  s_WordOk_N x0 x1 _ none (fun v => some [(false, [RC.c (.bool v)])]) := by kernel_rfl
theorem s_WordOk_p (x0 : Int) (x1 : Int) (hx0 : inK .i64 x0) (hx1 : inK .i64 x1)  (γ : Type) (fail : γ) (k : Bool → γ) : s_WordOk_N x0 x1 γ fail k = k (s_WordOk x0 x1) := by
  unfold s_WordOk_N s_WordOk
  exact letT (f := k) (fun c1 hc1 => bifT (f := k) (fun b0 => bifG (by simp only [decide_eq_true_eq]; exact wrapU_nonneg _) (letT (f := k) (fun e2 he2 => letT (f := k) (fun c3 hc3 => rfl))))
      (fun b0 => rfl))
theorem s_WordOk_c (x0 : Int) (x1 : Int)  : Con Tryd.prog 65 (pvs [.sc (.int .i64), .sc (.int .i64)] (x0, x1, ())) [rv (.sc .bool) [] (s_WordOk x0 x1)] := by
  refine Con.of_facts (enters_of Tryd.func65 rfl (by kernel_rfl)) fun hf => ?_
  replace hf := factAt hf
  exact evalFn_con0 teFact mixFact (orcOf_ok _) Tryd.func65 (by kernel_rfl) ((s_WordOk_lk x0 x1).trans (s_WordOk_p x0 x1 ((hf 0 0 rfl rfl).rng) ((hf 1 0 rfl rfl).rng) _ _ _))
noncomputable def s_WordOk_e : Ent1 Tryd.prog := entA 65 [.sc (.int .i64), .sc (.int .i64)] (fun x => (s_WordOk x.1 x.2.1)) (fun v => [rv (.sc .bool) [] v]) (fun x => s_WordOk_c x.1 x.2.1)


/-- spec.PutWord -/
def s_PutWord_ann : List (Nat × Keep) := [(0, ⟨[0, 5, 6], [], false, 0⟩)]
def s_PutWord_L0_sh : Sh := ⟨[(0, false, [.int .i64]), (5, false, [.own 0]), (6, false, [.int .i64])], [.arr .u8 false true]⟩
def s_PutWord_L0_es : List (Ex × Sh) := [(.exit 0, ⟨[(4, false, [.undef]), (5, false, [.own 0])], [.arr .u8 false true]⟩)]
def s_PutWord_L0_mk (v0 : Int) (v1 : Int) (v2 : List Int) : s_PutWord_L0_sh.T := (((v0, ()), (((), ()), ((v1, ()), ()))), (v2, ()))
def s_PutWord_L0_mx0 (y0 : List Int) : Sh.T ⟨[(4, false, [.undef]), (5, false, [.own 0])], [.arr .u8 false true]⟩ := ((((), ()), (((), ()), ())), (y0, ()))
def s_PutWord_L0_B (v0 : Int) (v1 : Int) (v2 : List Int) (γ : Type) (fail : γ) (next : s_PutWord_L0_sh.T → γ) (out : WT s_PutWord_L0_es → γ) : γ :=
  bif (decide (0 ≤ v1)) then
    bif ((decide (0 ≤ v1)) && (decide (v1 < (v2.length : Int)))) then
    next (s_PutWord_L0_mk (IntKind.wrap .i64 (v0.tdiv 256)) (IntKind.wrap .i64 (v1 - 1)) (v2.set v1.toNat (IntKind.wrap .u8 (v0.tmod 256))))
    else fail
  else
  out (s_PutWord_L0_mx0 v2)
theorem s_PutWord_L0_par (v0 : Int) (v1 : Int) (v2 : List Int) (γ : Type) (fail : γ) (next : s_PutWord_L0_sh.T → γ) (out : WT s_PutWord_L0_es → γ) : s_PutWord_L0_B v0 v1 v2 γ fail next out = optK (s_PutWord_L0_B v0 v1 v2 _ none (fun v' => some (.inl v')) (fun w => some (.inr w))) fail (fun r => Sum.elim next out r) := by
  unfold s_PutWord_L0_B
  exact bifT (f := (fun o => optK o fail (fun r => Sum.elim next out r))) (fun _ => bifT (f := (fun o => optK o fail (fun r => Sum.elim next out r))) (fun _ => rfl) (fun _ => rfl))
      (fun _ => rfl)
def s_PutWord_L0_r : Round s_PutWord_L0_sh.T (WT s_PutWord_L0_es) where
  B v γ fail next out := s_PutWord_L0_B v.1.1.1 v.1.2.2.1.1 v.2.1 γ fail next out
  par v γ fail next out := s_PutWord_L0_par v.1.1.1 v.1.2.2.1.1 v.2.1 γ fail next out
def s_PutWord_L0_fu (v0 : Int) (v1 : Int) (v2 : List Int) : Nat := (Int.toNat (v1 - 0 + 1)) + 1
theorem s_PutWord_L0_lk (v : s_PutWord_L0_sh.T) (next : St → Option Res) (k : Ex → St → Option Res) : evalK te (orcOf (P := Tryd.prog) [s_l1In_e, s_WordOk_e]) (lorcOf []) Tryd.f66.ntmps s_PutWord_ann (nthLoop (bodyOf Tryd.f66) 0 0) 0 (s_PutWord_L0_sh.enc v) (endK ⟨[0, 5, 6], [], false, 0⟩ ⟨[4, 5], [], false, 0⟩ next k) =
  s_PutWord_L0_r.B v _ none (fun v' => next (s_PutWord_L0_sh.enc v')) (fun w => outK s_PutWord_L0_es k w) := by kernel_rfl
def s_PutWord_L0_le : LE := leOf 0 s_PutWord_L0_sh s_PutWord_L0_es s_PutWord_L0_r.step (fun v => s_PutWord_L0_fu v.1.1.1 v.1.2.2.1.1 v.2.1)
theorem s_PutWord_L0_ls (w0 : World) (mo : Mts) (I0 : Nat → Prop) (hmo : mo.length = 0) : LSem Tryd.prog (Sim w0 mo Tryd.f66.ntmps I0) (fun b s k => match Nat.beq 0 b with | true => s_PutWord_L0_le.run s k | false => none) 0 (nthLoop (bodyOf Tryd.f66) 0 0) :=
  le_sem hmo (lorc := lorcOf []) (ann := s_PutWord_ann) (keep := ⟨[0, 5, 6], [], false, 0⟩) (kout := ⟨[4, 5], [], false, 0⟩) teFact mixFact (orcOf_ok _) (by kernel_rfl) (allLoops_of (bs := []) (by kernel_rfl) trivial) s_PutWord_L0_r _ s_PutWord_L0_lk
def s_PutWord_L0_f  (v1 : Int) (a : Int × List Int) : Stp (Int × List Int) (Empty) :=
  .next ((IntKind.wrap .i64 (a.1.tdiv 256)), (a.2.set v1.toNat (IntKind.wrap .u8 (a.1.tmod 256))))
theorem s_PutWord_L0_st (v0 : Int) (v1 : Int) (v2 : List Int) (hlo : 0 ≤ v1) (hhi : v1 ≤ 9223372036854775807) (hN : 0 ≤ 0) (hinv : v1 < (v2.length : Int)) : s_PutWord_L0_r.step (s_PutWord_L0_mk v0 v1 v2) = Stp.elim (fun a' : Int × List Int => some (Sum.inl (s_PutWord_L0_mk a'.1 (v1 + (-1)) a'.2))) (fun w => some (Sum.inr ((fun p : Empty => nomatch p) w))) (s_PutWord_L0_f  v1 (v0, v2)) := by
  have hw : (IntKind.wrap .i64 (v1 - 1)) = v1 + (-1) := wrap64 (by omega) (by omega)
  show s_PutWord_L0_B v0 v1 v2 (Option (s_PutWord_L0_sh.T ⊕ WT s_PutWord_L0_es)) none (fun v' => some (Sum.inl v')) (fun w => some (Sum.inr w)) = _
  unfold s_PutWord_L0_B s_PutWord_L0_f
  exact bifG (by simp only [decide_eq_true_eq]; omega) (bifG (by (try simp only [Nat.ble_eq, Bool.and_eq_true, decide_eq_true_eq]); grind [maxSl, maxStr, toBytes_length, toInts_length, List.length_set, wrap64]) ((by exact congrArg (fun z => some (Sum.inl (s_PutWord_L0_mk (IntKind.wrap .i64 (v0.tdiv 256)) z (v2.set v1.toNat (IntKind.wrap .u8 (v0.tmod 256)))))) hw)))
theorem s_PutWord_L0_cl (v0 : Int) (v1 : Int) (v2 : List Int) (h0 : v1 ≤ 9223372036854775807) (h1 : 0 ≤ 0) (h2 : v1 < (v2.length : Int)) : loopF s_PutWord_L0_r.step (s_PutWord_L0_fu v0 v1 v2) (s_PutWord_L0_mk v0 v1 v2) = some (Stp.elim (fun a => (fun i a => s_PutWord_L0_mx0 a.2) (v1 + (-1) * (((Int.toNat (v1 - 0 + 1)) : Nat) : Int)) a) (fun p : Empty => nomatch p) (forN (s_PutWord_L0_f ) (-1) (Int.toNat (v1 - 0 + 1)) v1 (v0, v2))) :=
  forN_loop (step := s_PutWord_L0_r.step) (mk := fun v1 a => s_PutWord_L0_mk a.1 v1 a.2) (f := s_PutWord_L0_f ) (e := (fun i a => s_PutWord_L0_mx0 a.2)) (emb := (fun p : Empty => nomatch p)) (st := (-1)) (Inv := fun v1 a => v1 < (a.2.length : Int)) (Int.toNat (v1 - 0 + 1)) v1 (v0, v2) _ (Nat.lt_succ_self _) h2
    (fun j a hj hv => ⟨s_PutWord_L0_st a.1 (v1 + (-1) * (j : Int)) a.2 (by omega) (by omega) (by omega) hv, by
      intro a' he
      grind [s_PutWord_L0_f, letK, Stp.elim, wrap64, List.length_set]⟩)
    (fun a hv => by
      show s_PutWord_L0_B a.1 (v1 + (-1) * (((Int.toNat (v1 - 0 + 1)) : Nat) : Int)) a.2 (Option (s_PutWord_L0_sh.T ⊕ WT s_PutWord_L0_es)) none (fun v' => some (Sum.inl v')) (fun w => some (Sum.inr w)) = _
      unfold s_PutWord_L0_B
      exact bifN (by simp only [decide_eq_false_iff_not]; omega) rfl)
theorem s_PutWord_L0_nx (v0 : Int) (v1 : Int) (v2 : List Int) (h0 : v1 ≤ 9223372036854775807) (h1 : 0 ≤ 0) (h2 : v1 < (v2.length : Int)) : ∀ a', forN (s_PutWord_L0_f ) (-1) (Int.toNat (v1 - 0 + 1)) v1 (v0, v2) = .next a' → (v1 + (-1) * (((Int.toNat (v1 - 0 + 1)) : Nat) : Int)) < (a'.2.length : Int) :=
  forN_inv (f := s_PutWord_L0_f ) (st := (-1)) (Inv := fun v1 a => v1 < (a.2.length : Int)) (Int.toNat (v1 - 0 + 1)) v1 (v0, v2) h2
    (fun j a hj hv => by
      intro a' he
      grind [s_PutWord_L0_f, letK, Stp.elim, wrap64, List.length_set])
def s_PutWord_N (x0 : Int) (x1 : Int) (γ : Type) (fail : γ) (k : Bytes → γ) : γ :=
  letK (α := Bool) (s_l1In x1 1 6) fun c1 =>
  bif (!c1) then
    k []
  else
  letK (α := Bool) (s_WordOk x0 (IntKind.wrap .i64 (8 * x1))) fun c2 =>
  bif (!c2) then
    k []
  else
  bif ((((decide (0 ≤ x1)) && (decide (x1 = x1))) && (decide (x1 * 1 ≤ (maxSl : Int)))) && (decide (x1 ≤ (maxSl : Int)))) then
  optK (loopF s_PutWord_L0_r.step (s_PutWord_L0_fu x0 (IntKind.wrap .i64 (x1 - 1)) (List.replicate x1.toNat 0)) (s_PutWord_L0_mk x0 (IntKind.wrap .i64 (x1 - 1)) (List.replicate x1.toNat 0))) fail fun w3 =>
    k (toBytes w3.2.1)
  else fail
def s_PutWord (x0 : Int) (x1 : Int) : Bytes :=
  letK (α := Bool) (s_l1In x1 1 6) fun c1 =>
  bif (!c1) then
    []
  else
  letK (α := Bool) (s_WordOk x0 (IntKind.wrap .i64 (8 * x1))) fun c2 =>
  bif (!c2) then
    []
  else
  Stp.elim (fun a4 =>
    (toBytes a4.2))
    (fun p : Empty => nomatch p)
    (forN (s_PutWord_L0_f) (-1) (Int.toNat ((IntKind.wrap .i64 (x1 - 1)) - 0 + 1)) (IntKind.wrap .i64 (x1 - 1)) (x0, (List.replicate x1.toNat 0)))
theorem s_PutWord_lk (x0 : Int) (x1 : Int) : evalFn te (orcOf (P := Tryd.prog) [s_l1In_e, s_WordOk_e]) (lorcOf [s_PutWord_L0_le]) s_PutWord_ann Tryd.f66 (pvs [.sc (.int .i64), .sc (.int .i64)] (x0, x1, ())) =
  s_PutWord_N x0 x1 _ none (fun v => some [(false, [RC.c (.str v)])]) := by kernel_rfl
theorem s_PutWord_p (x0 : Int) (x1 : Int) (hx0 : inK .i64 x0) (hx1 : inK .i64 x1)  (γ : Type) (fail : γ) (k : Bytes → γ) : s_PutWord_N x0 x1 γ fail k = k (s_PutWord x0 x1) := by
  unfold s_PutWord_N s_PutWord
  exact letT (f := k) (fun c1 hc1 => bifT (f := k) (fun b0 => rfl)
      (fun b0 => letT (f := k) (fun c2 hc2 => bifT (f := k) (fun b1 => rfl)
      (fun b1 => bifG (by (try simp only [Nat.ble_eq, Bool.and_eq_true, decide_eq_true_eq, s_PutWord_L0_mx0]); grind [maxSl, maxStr, toBytes_length, toInts_length, List.length_set, wrap64, s_l1In_eq, wrap64]) (loopX (f := k) (s_PutWord_L0_cl x0 (IntKind.wrap .i64 (x1 - 1)) (List.replicate x1.toNat 0) (by (try simp only [Nat.ble_eq, Bool.and_eq_true, decide_eq_true_eq, s_PutWord_L0_mx0]); grind [maxSl, maxStr, toBytes_length, toInts_length, List.length_set, wrap64, s_l1In_eq, wrap64]) (by (try simp only [Nat.ble_eq, Bool.and_eq_true, decide_eq_true_eq, s_PutWord_L0_mx0]); grind [maxSl, maxStr, toBytes_length, toInts_length, List.length_set, wrap64, s_l1In_eq, wrap64]) (by (try simp only [Nat.ble_eq, Bool.and_eq_true, decide_eq_true_eq, s_PutWord_L0_mx0]); grind [maxSl, maxStr, toBytes_length, toInts_length, List.length_set, wrap64, s_l1In_eq, wrap64])) (fun a4 ha4 => have ia4 := s_PutWord_L0_nx x0 (IntKind.wrap .i64 (x1 - 1)) (List.replicate x1.toNat 0) (by (try simp only [Nat.ble_eq, Bool.and_eq_true, decide_eq_true_eq, s_PutWord_L0_mx0]); grind [maxSl, maxStr, toBytes_length, toInts_length, List.length_set, wrap64, s_l1In_eq, wrap64]) (by (try simp only [Nat.ble_eq, Bool.and_eq_true, decide_eq_true_eq, s_PutWord_L0_mx0]); grind [maxSl, maxStr, toBytes_length, toInts_length, List.length_set, wrap64, s_l1In_eq, wrap64]) (by (try simp only [Nat.ble_eq, Bool.and_eq_true, decide_eq_true_eq, s_PutWord_L0_mx0]); grind [maxSl, maxStr, toBytes_length, toInts_length, List.length_set, wrap64, s_l1In_eq, wrap64]) _ ha4; rfl)
      (fun p : Empty => nomatch p))))))
theorem s_PutWord_c (x0 : Int) (x1 : Int)  : Con Tryd.prog 66 (pvs [.sc (.int .i64), .sc (.int .i64)] (x0, x1, ())) [rv (.sc .str) [] (s_PutWord x0 x1)] := by
  refine Con.of_facts (enters_of Tryd.func66 rfl (by kernel_rfl)) fun hf => ?_
  replace hf := factAt hf
  exact evalFn_conL teFact mixFact (orcOf_ok _) Tryd.func66 (by kernel_rfl) (bs := [0]) (by kernel_rfl) (by kernel_rfl) (fun w0 mo I0 hmo => ⟨lsem_of_lorc (s_PutWord_L0_ls w0 mo I0 hmo) (by kernel_rfl), trivial⟩) ((s_PutWord_lk x0 x1).trans (s_PutWord_p x0 x1 ((hf 0 0 rfl rfl).rng) ((hf 1 0 rfl rfl).rng) _ _ _))
noncomputable def s_PutWord_e : Ent1 Tryd.prog := entA 66 [.sc (.int .i64), .sc (.int .i64)] (fun x => (s_PutWord x.1 x.2.1)) (fun v => [rv (.sc .str) [] v]) (fun x => s_PutWord_c x.1 x.2.1)

theorem s_PutWord_len (x0 x1 : Int) : (s_PutWord x0 x1).length ≤ 6 := by
  unfold s_PutWord
  cases hw : s_l1In x1 1 6 with
  | false => simp [letK]
  | true =>
    rw [s_l1In_eq] at hw
    simp only [Bool.and_eq_true, decide_eq_true_eq] at hw
    simp only [letK, Bool.not_true, cond_false]
    cases s_WordOk x0 (IntKind.wrap .i64 (8 * x1)) with
    | false => simp
    | true =>
      simp only [Bool.not_true, cond_false]
      cases hf : forN (s_PutWord_L0_f) (-1) (Int.toNat ((IntKind.wrap .i64 (x1 - 1)) - 0 + 1)) (IntKind.wrap .i64 (x1 - 1)) (x0, (List.replicate x1.toNat 0)) with
      | out p => nomatch p
      | next a =>
        have := forN_inv (Inv := fun _ a => a.2.length = x1.toNat) _ _ _ (by simp) (fun j a _ h a' he => by unfold s_PutWord_L0_f at he; cases he; simpa using h) a hf
        simp only [Stp.elim, toBytes_length]
        omega


/-- impl.WordOk -/
def i_WordOk_N (x0 : Int) (x1 : Int) (γ : Type) (fail : γ) (k : Bool → γ) : γ :=
  letK (α := Bool) (i_within x1 1 62) fun c1 =>
  bif c1 then
    bif (decide (0 ≤ x1)) then
    letK (α := Int) (IntKind.wrap .i64 ((IntKind.wrap .i64 (1 * 2 ^ (min x1.toNat 64))) - 1)) fun e2 =>
    letK (α := Bool) (i_within x0 0 e2) fun c3 =>
    k c3
    else fail
  else
  k false
def i_WordOk (x0 : Int) (x1 : Int) : Bool :=
  letK (α := Bool) (i_within x1 1 62) fun c1 =>
  bif c1 then
    letK (α := Int) (IntKind.wrap .i64 ((IntKind.wrap .i64 (1 * 2 ^ (min x1.toNat 64))) - 1)) fun e2 =>
    letK (α := Bool) (i_within x0 0 e2) fun c3 =>
    c3
  else
  false
theorem i_WordOk_lk (x0 : Int) (x1 : Int) : evalFn te (orcOf (P := Tryd.prog) [i_within_e]) lorc0 [] Tryd.f67 (pvs [.sc (.int .i64), .sc (.int .i64)] (x0, x1, ())) =
  i_WordOk_N x0 x1 _ none (fun v => some [(false, [RC.c (.bool v)])]) := by kernel_rfl
theorem i_WordOk_p (x0 : Int) (x1 : Int) (hx0 : inK .i64 x0) (hx1 : inK .i64 x1)  (γ : Type) (fail : γ) (k : Bool → γ) : i_WordOk_N x0 x1 γ fail k = k (i_WordOk x0 x1) := by
  unfold i_WordOk_N i_WordOk
  exact letT (f := k) (fun c1 hc1 => bifT (f := k) (fun b0 => bifG (by (try simp only [Nat.ble_eq, Bool.and_eq_true, decide_eq_true_eq]); grind [maxSl, maxStr, toBytes_length, toInts_length, List.length_set, wrap64, i_within_eq]) (letT (f := k) (fun e2 he2 => letT (f := k) (fun c3 hc3 => rfl))))
      (fun b0 => rfl))
theorem i_WordOk_c (x0 : Int) (x1 : Int)  : Con Tryd.prog 67 (pvs [.sc (.int .i64), .sc (.int .i64)] (x0, x1, ())) [rv (.sc .bool) [] (i_WordOk x0 x1)] := by
  refine Con.of_facts (enters_of Tryd.func67 rfl (by kernel_rfl)) fun hf => ?_
  replace hf := factAt hf
  exact evalFn_con0 teFact mixFact (orcOf_ok _) Tryd.func67 (by kernel_rfl) ((i_WordOk_lk x0 x1).trans (i_WordOk_p x0 x1 ((hf 0 0 rfl rfl).rng) ((hf 1 0 rfl rfl).rng) _ _ _))
noncomputable def i_WordOk_e : Ent1 Tryd.prog := entA 67 [.sc (.int .i64), .sc (.int .i64)] (fun x => (i_WordOk x.1 x.2.1)) (fun v => [rv (.sc .bool) [] v]) (fun x => i_WordOk_c x.1 x.2.1)


/-- spec.TupleOk -/
def s_TupleOk_N (x0 : Tupl) (γ : Type) (fail : γ) (k : Bool → γ) : γ :=
  letK (α := Bool) (s_WordOk x0.ip 32) fun c1 =>
  bif c1 then
    letK (α := Bool) (s_WordOk x0.port 16) fun c2 =>
    bif c2 then
      letK (α := Bool) (s_WordOk x0.my 16) fun c3 =>
      k c3
    else
    k false
  else
  k false
def s_TupleOk (x0 : Tupl) : Bool :=
  letK (α := Bool) (s_WordOk x0.ip 32) fun c1 =>
  bif c1 then
    letK (α := Bool) (s_WordOk x0.port 16) fun c2 =>
    bif c2 then
      letK (α := Bool) (s_WordOk x0.my 16) fun c3 =>
      c3
    else
    false
  else
  false
theorem s_TupleOk_lk (x0 : Tupl) : evalFn te (orcOf (P := Tryd.prog) [s_WordOk_e]) lorc0 [] Tryd.f29 (pvs [.st .tupl] (x0, ())) =
  s_TupleOk_N x0 _ none (fun v => some [(false, [RC.c (.bool v)])]) := by kernel_rfl
theorem s_TupleOk_p (x0 : Tupl)   (γ : Type) (fail : γ) (k : Bool → γ) : s_TupleOk_N x0 γ fail k = k (s_TupleOk x0) := by
  unfold s_TupleOk_N s_TupleOk
  exact letT (f := k) (fun c1 hc1 => bifT (f := k) (fun b0 => letT (f := k) (fun c2 hc2 => bifT (f := k) (fun b1 => letT (f := k) (fun c3 hc3 => rfl))
      (fun b1 => rfl)))
      (fun b0 => rfl))
theorem s_TupleOk_c (x0 : Tupl)  : Con Tryd.prog 29 (pvs [.st .tupl] (x0, ())) [rv (.sc .bool) [] (s_TupleOk x0)] := by
  exact evalFn_con0 teFact mixFact (orcOf_ok _) Tryd.func29 (by kernel_rfl) ((s_TupleOk_lk x0).trans (s_TupleOk_p x0  _ _ _))
noncomputable def s_TupleOk_e : Ent1 Tryd.prog := entA 29 [.st .tupl] (fun x => (s_TupleOk x.1)) (fun v => [rv (.sc .bool) [] v]) (fun x => s_TupleOk_c x.1)


/-- spec.AddressText -/
def s_AddressText_ann : List (Nat × Keep) := [(0, ⟨[3, 4, 5], [], false, 0⟩)]
def s_AddressText_L0_sh : Sh := ⟨[(3, false, [.str]), (4, false, [.own 0]), (5, false, [.int .i64])], [.arr .str false true]⟩
def s_AddressText_L0_es : List (Ex × Sh) := [(.exit 0, ⟨[(2, false, [.undef]), (4, false, [.own 0])], [.arr .str false true]⟩)]
def s_AddressText_L0_mk (v0 : Bytes) (v1 : Int) (v2 : List Bytes) : s_AddressText_L0_sh.T := (((v0, ()), (((), ()), ((v1, ()), ()))), (v2, ()))
def s_AddressText_L0_mx0 (y0 : List Bytes) : Sh.T ⟨[(2, false, [.undef]), (4, false, [.own 0])], [.arr .str false true]⟩ := ((((), ()), (((), ()), ())), (y0, ()))
def s_AddressText_L0_B (v0 : Bytes) (v1 : Int) (v2 : List Bytes) (γ : Type) (fail : γ) (next : s_AddressText_L0_sh.T → γ) (out : WT s_AddressText_L0_es → γ) : γ :=
  bif (decide (v1 < (v0.length : Int))) then
    bif ((decide (0 ≤ v1)) && (decide (v1 < (v0.length : Int)))) then
    letK (α := Bytes) (s_Digits (IntKind.wrap .i64 (byteAt v0 v1.toNat))) fun c2 =>
    bif (Nat.ble ((2 * (v2.length + 1) + 1024) * 16) maxSl) then
    next (s_AddressText_L0_mk v0 (IntKind.wrap .i64 (v1 + 1)) (v2 ++ [c2]))
    else fail
    else fail
  else
  out (s_AddressText_L0_mx0 v2)
theorem s_AddressText_L0_par (v0 : Bytes) (v1 : Int) (v2 : List Bytes) (γ : Type) (fail : γ) (next : s_AddressText_L0_sh.T → γ) (out : WT s_AddressText_L0_es → γ) : s_AddressText_L0_B v0 v1 v2 γ fail next out = optK (s_AddressText_L0_B v0 v1 v2 _ none (fun v' => some (.inl v')) (fun w => some (.inr w))) fail (fun r => Sum.elim next out r) := by
  unfold s_AddressText_L0_B
  exact bifT (f := (fun o => optK o fail (fun r => Sum.elim next out r))) (fun _ => bifT (f := (fun o => optK o fail (fun r => Sum.elim next out r))) (fun _ => letT (f := (fun o => optK o fail (fun r => Sum.elim next out r))) (fun c2 _ => bifT (f := (fun o => optK o fail (fun r => Sum.elim next out r))) (fun _ => rfl) (fun _ => rfl))) (fun _ => rfl))
      (fun _ => rfl)
def s_AddressText_L0_r : Round s_AddressText_L0_sh.T (WT s_AddressText_L0_es) where
  B v γ fail next out := s_AddressText_L0_B v.1.1.1 v.1.2.2.1.1 v.2.1 γ fail next out
  par v γ fail next out := s_AddressText_L0_par v.1.1.1 v.1.2.2.1.1 v.2.1 γ fail next out
def s_AddressText_L0_fu (v0 : Bytes) (v1 : Int) (v2 : List Bytes) : Nat := (Int.toNat ((v0.length : Int) - v1)) + 1
theorem s_AddressText_L0_lk (v : s_AddressText_L0_sh.T) (next : St → Option Res) (k : Ex → St → Option Res) : evalK te (orcOf (P := Tryd.prog) [s_PutWord_e, s_Digits_e, s_Joined_e]) (lorcOf []) Tryd.f30.ntmps s_AddressText_ann (nthLoop (bodyOf Tryd.f30) 0 0) 0 (s_AddressText_L0_sh.enc v) (endK ⟨[3, 4, 5], [], false, 0⟩ ⟨[2, 4], [], false, 0⟩ next k) =
  s_AddressText_L0_r.B v _ none (fun v' => next (s_AddressText_L0_sh.enc v')) (fun w => outK s_AddressText_L0_es k w) := by kernel_rfl
def s_AddressText_L0_le : LE := leOf 0 s_AddressText_L0_sh s_AddressText_L0_es s_AddressText_L0_r.step (fun v => s_AddressText_L0_fu v.1.1.1 v.1.2.2.1.1 v.2.1)
theorem s_AddressText_L0_ls (w0 : World) (mo : Mts) (I0 : Nat → Prop) (hmo : mo.length = 0) : LSem Tryd.prog (Sim w0 mo Tryd.f30.ntmps I0) (fun b s k => match Nat.beq 0 b with | true => s_AddressText_L0_le.run s k | false => none) 0 (nthLoop (bodyOf Tryd.f30) 0 0) :=
  le_sem hmo (lorc := lorcOf []) (ann := s_AddressText_ann) (keep := ⟨[3, 4, 5], [], false, 0⟩) (kout := ⟨[2, 4], [], false, 0⟩) teFact mixFact (orcOf_ok _) (by kernel_rfl) (allLoops_of (bs := []) (by kernel_rfl) trivial) s_AddressText_L0_r _ s_AddressText_L0_lk
def s_AddressText_L0_f (v0 : Bytes) (v1 : Int) (a : List Bytes) : Stp (List Bytes) (Empty) :=
  letK (α := Bytes) (s_Digits (IntKind.wrap .i64 (byteAt v0 v1.toNat))) fun c2 =>
  .next (a ++ [c2])
theorem s_AddressText_L0_st (v0 : Bytes) (v1 : Int) (v2 : List Bytes) (hlo : 0 ≤ v1) (hhi : v1 < (v0.length : Int)) (hN : (v0.length : Int) ≤ 4611686018427387904) (hi0 : (v0.length : Int) ≤ 65536) (hinv : (v2.length : Int) ≤ v1 ∧ ∀ y ∈ v2, List.length y ≤ 4) : s_AddressText_L0_r.step (s_AddressText_L0_mk v0 v1 v2) = Stp.elim (fun a' : List Bytes => some (Sum.inl (s_AddressText_L0_mk v0 (v1 + 1) a'))) (fun w => some (Sum.inr ((fun p : Empty => nomatch p) w))) (s_AddressText_L0_f v0 v1 v2) := by
  have hw : (IntKind.wrap .i64 (v1 + 1)) = v1 + 1 := wrap64 (by omega) (by omega)
  show s_AddressText_L0_B v0 v1 v2 (Option (s_AddressText_L0_sh.T ⊕ WT s_AddressText_L0_es)) none (fun v' => some (Sum.inl v')) (fun w => some (Sum.inr w)) = _
  unfold s_AddressText_L0_B s_AddressText_L0_f
  exact bifG (by simp only [decide_eq_true_eq]; omega) (bifG (by (try simp only [Nat.ble_eq, Bool.and_eq_true, decide_eq_true_eq]); grind [maxSl, maxStr, toBytes_length, toInts_length, List.length_set, wrap64, s_PutWord_len, s_Digits_len, s_Digits_small, s_Joined_len]) (letT (f := (Stp.elim (fun a' : List Bytes => some (Sum.inl (s_AddressText_L0_mk v0 (v1 + 1) a'))) (fun w => some (Sum.inr ((fun p : Empty => nomatch p) w))))) (fun c2 hc2 => bifG (by (try simp only [Nat.ble_eq, Bool.and_eq_true, decide_eq_true_eq]); grind [maxSl, maxStr, toBytes_length, toInts_length, List.length_set, wrap64, s_PutWord_len, s_Digits_len, s_Digits_small, s_Joined_len]) ((by exact congrArg (fun z => some (Sum.inl (s_AddressText_L0_mk v0 z (v2 ++ [c2])))) hw)))))
theorem s_AddressText_L0_cl (v0 : Bytes) (v1 : Int) (v2 : List Bytes) (h0 : 0 ≤ v1) (h1 : (v0.length : Int) ≤ 4611686018427387904) (h2 : (v0.length : Int) ≤ 65536) (h3 : (v2.length : Int) ≤ v1 ∧ ∀ y ∈ v2, List.length y ≤ 4) : loopF s_AddressText_L0_r.step (s_AddressText_L0_fu v0 v1 v2) (s_AddressText_L0_mk v0 v1 v2) = some (Stp.elim (fun a => (fun i a => s_AddressText_L0_mx0 a) (v1 + 1 * (((Int.toNat ((v0.length : Int) - v1)) : Nat) : Int)) a) (fun p : Empty => nomatch p) (forN (s_AddressText_L0_f v0) 1 (Int.toNat ((v0.length : Int) - v1)) v1 v2)) :=
  forN_loop (step := s_AddressText_L0_r.step) (mk := fun v1 a => s_AddressText_L0_mk v0 v1 a) (f := s_AddressText_L0_f v0) (e := (fun i a => s_AddressText_L0_mx0 a)) (emb := (fun p : Empty => nomatch p)) (st := 1) (Inv := fun v1 a => (a.length : Int) ≤ v1 ∧ ∀ y ∈ a, List.length y ≤ 4) (Int.toNat ((v0.length : Int) - v1)) v1 v2 _ (Nat.lt_succ_self _) h3
    (fun j a hj hv => ⟨s_AddressText_L0_st v0 (v1 + 1 * (j : Int)) a (by omega) (by omega) (by omega) h2 hv, by
      intro a' he
      unfold s_AddressText_L0_f at he
      simp only [letK] at he
      cases he
      refine ⟨by rw [List.length_append]; simp only [List.length_singleton]; have := hv.1; omega, fun y hy => ?_⟩
      rcases List.mem_append.1 hy with hy | hy
      · exact hv.2 y hy
      · rw [List.mem_singleton] at hy
        subst hy
        have hb := byteAt_rng v0 (v1 + 1 * (j : Int)).toNat
        exact s_Digits_small _ (by rw [wrap64 (by omega) (by omega)]; omega)⟩)
    (fun a hv => by
      show s_AddressText_L0_B v0 (v1 + 1 * (((Int.toNat ((v0.length : Int) - v1)) : Nat) : Int)) a (Option (s_AddressText_L0_sh.T ⊕ WT s_AddressText_L0_es)) none (fun v' => some (Sum.inl v')) (fun w => some (Sum.inr w)) = _
      unfold s_AddressText_L0_B
      exact bifN (by simp only [decide_eq_false_iff_not]; omega) rfl)
theorem s_AddressText_L0_nx (v0 : Bytes) (v1 : Int) (v2 : List Bytes) (h0 : 0 ≤ v1) (h1 : (v0.length : Int) ≤ 4611686018427387904) (h2 : (v0.length : Int) ≤ 65536) (h3 : (v2.length : Int) ≤ v1 ∧ ∀ y ∈ v2, List.length y ≤ 4) : ∀ a', forN (s_AddressText_L0_f v0) 1 (Int.toNat ((v0.length : Int) - v1)) v1 v2 = .next a' → (a'.length : Int) ≤ (v1 + 1 * (((Int.toNat ((v0.length : Int) - v1)) : Nat) : Int)) ∧ ∀ y ∈ a', List.length y ≤ 4 :=
  forN_inv (f := s_AddressText_L0_f v0) (st := 1) (Inv := fun v1 a => (a.length : Int) ≤ v1 ∧ ∀ y ∈ a, List.length y ≤ 4) (Int.toNat ((v0.length : Int) - v1)) v1 v2 h3
    (fun j a hj hv => by
      intro a' he
      unfold s_AddressText_L0_f at he
      simp only [letK] at he
      cases he
      refine ⟨by rw [List.length_append]; simp only [List.length_singleton]; have := hv.1; omega, fun y hy => ?_⟩
      rcases List.mem_append.1 hy with hy | hy
      · exact hv.2 y hy
      · rw [List.mem_singleton] at hy
        subst hy
        have hb := byteAt_rng v0 (v1 + 1 * (j : Int)).toNat
        exact s_Digits_small _ (by rw [wrap64 (by omega) (by omega)]; omega))
def s_AddressText_N (x0 : Int) (γ : Type) (fail : γ) (k : Bytes → γ) : γ :=
  letK (α := Bytes) (s_PutWord x0 4) fun c1 =>
  optK (loopF s_AddressText_L0_r.step (s_AddressText_L0_fu c1 0 []) (s_AddressText_L0_mk c1 0 [])) fail fun w3 =>
    bif (decide (w3.2.1.length ≤ 65536 ∧ (∀ y ∈ w3.2.1, y.length ≤ 65536) ∧ ([46] : Bytes).length ≤ 65536)) then
    letK (α := Bytes) (s_Joined w3.2.1 [46]) fun c4 =>
    k c4
    else fail
def s_AddressText (x0 : Int) : Bytes :=
  letK (α := Bytes) (s_PutWord x0 4) fun c1 =>
  Stp.elim (fun a5 =>
    letK (α := Bytes) (s_Joined a5 [46]) fun c6 =>
    c6)
    (fun p : Empty => nomatch p)
    (forN (s_AddressText_L0_f c1) 1 (Int.toNat ((c1.length : Int) - 0)) 0 [])
theorem s_AddressText_lk (x0 : Int) : evalFn te (orcOf (P := Tryd.prog) [s_PutWord_e, s_Digits_e, s_Joined_e]) (lorcOf [s_AddressText_L0_le]) s_AddressText_ann Tryd.f30 (pvs [.sc (.int .i64)] (x0, ())) =
  s_AddressText_N x0 _ none (fun v => some [(false, [RC.c (.str v)])]) := by kernel_rfl
theorem s_AddressText_p (x0 : Int) (hx0 : inK .i64 x0)  (γ : Type) (fail : γ) (k : Bytes → γ) : s_AddressText_N x0 γ fail k = k (s_AddressText x0) := by
  unfold s_AddressText_N s_AddressText
  exact letT (f := k) (fun c1 hc1 => loopX (f := k) (s_AddressText_L0_cl c1 0 [] (by (try simp only [Nat.ble_eq, Bool.and_eq_true, decide_eq_true_eq, s_AddressText_L0_mx0]); grind [maxSl, maxStr, toBytes_length, toInts_length, List.length_set, wrap64, s_PutWord_len, s_Digits_len, s_Digits_small, s_Joined_len]) (by (try simp only [Nat.ble_eq, Bool.and_eq_true, decide_eq_true_eq, s_AddressText_L0_mx0]); grind [maxSl, maxStr, toBytes_length, toInts_length, List.length_set, wrap64, s_PutWord_len, s_Digits_len, s_Digits_small, s_Joined_len]) (by (try simp only [Nat.ble_eq, Bool.and_eq_true, decide_eq_true_eq, s_AddressText_L0_mx0]); grind [maxSl, maxStr, toBytes_length, toInts_length, List.length_set, wrap64, s_PutWord_len, s_Digits_len, s_Digits_small, s_Joined_len]) (by (try simp only [Nat.ble_eq, Bool.and_eq_true, decide_eq_true_eq, s_AddressText_L0_mx0]); grind [maxSl, maxStr, toBytes_length, toInts_length, List.length_set, wrap64, s_PutWord_len, s_Digits_len, s_Digits_small, s_Joined_len])) (fun a5 ha5 => have ia5 := s_AddressText_L0_nx c1 0 [] (by (try simp only [Nat.ble_eq, Bool.and_eq_true, decide_eq_true_eq, s_AddressText_L0_mx0]); grind [maxSl, maxStr, toBytes_length, toInts_length, List.length_set, wrap64, s_PutWord_len, s_Digits_len, s_Digits_small, s_Joined_len]) (by (try simp only [Nat.ble_eq, Bool.and_eq_true, decide_eq_true_eq, s_AddressText_L0_mx0]); grind [maxSl, maxStr, toBytes_length, toInts_length, List.length_set, wrap64, s_PutWord_len, s_Digits_len, s_Digits_small, s_Joined_len]) (by (try simp only [Nat.ble_eq, Bool.and_eq_true, decide_eq_true_eq, s_AddressText_L0_mx0]); grind [maxSl, maxStr, toBytes_length, toInts_length, List.length_set, wrap64, s_PutWord_len, s_Digits_len, s_Digits_small, s_Joined_len]) (by (try simp only [Nat.ble_eq, Bool.and_eq_true, decide_eq_true_eq, s_AddressText_L0_mx0]); grind [maxSl, maxStr, toBytes_length, toInts_length, List.length_set, wrap64, s_PutWord_len, s_Digits_len, s_Digits_small, s_Joined_len]) _ ha5; bifG (by (try simp only [Nat.ble_eq, Bool.and_eq_true, decide_eq_true_eq, s_AddressText_L0_mx0]); grind [maxSl, maxStr, toBytes_length, toInts_length, List.length_set, wrap64, s_PutWord_len, s_Digits_len, s_Digits_small, s_Joined_len]) (letT (f := k) (fun c6 hc6 => rfl)))
      (fun p : Empty => nomatch p))
theorem s_AddressText_c (x0 : Int)  : Con Tryd.prog 30 (pvs [.sc (.int .i64)] (x0, ())) [rv (.sc .str) [] (s_AddressText x0)] := by
  refine Con.of_facts (enters_of Tryd.func30 rfl (by kernel_rfl)) fun hf => ?_
  replace hf := factAt hf
  exact evalFn_conL teFact mixFact (orcOf_ok _) Tryd.func30 (by kernel_rfl) (bs := [0]) (by kernel_rfl) (by kernel_rfl) (fun w0 mo I0 hmo => ⟨lsem_of_lorc (s_AddressText_L0_ls w0 mo I0 hmo) (by kernel_rfl), trivial⟩) ((s_AddressText_lk x0).trans (s_AddressText_p x0 ((hf 0 0 rfl rfl).rng) _ _ _))
noncomputable def s_AddressText_e : Ent1 Tryd.prog := entA 30 [.sc (.int .i64)] (fun x => (s_AddressText x.1)) (fun v => [rv (.sc .str) [] v]) (fun x => s_AddressText_c x.1)

theorem s_AddressText_len (x0 : Int)   : (fun v : Bytes => v.length ≤ 8589934592) (s_AddressText x0) := by
  unfold s_AddressText
  exact letP (P := (fun v : Bytes => v.length ≤ 8589934592)) (fun c1 hc1 => loopP (P := (fun v : Bytes => v.length ≤ 8589934592)) (fun a5 ha5 => have ia5 := s_AddressText_L0_nx c1 0 [] (by (try simp only [Nat.ble_eq, Bool.and_eq_true, decide_eq_true_eq, s_AddressText_L0_mx0]); grind [maxSl, maxStr, toBytes_length, toInts_length, List.length_set, wrap64, s_PutWord_len, s_Digits_len, s_Digits_small, s_Joined_len]) (by (try simp only [Nat.ble_eq, Bool.and_eq_true, decide_eq_true_eq, s_AddressText_L0_mx0]); grind [maxSl, maxStr, toBytes_length, toInts_length, List.length_set, wrap64, s_PutWord_len, s_Digits_len, s_Digits_small, s_Joined_len]) (by (try simp only [Nat.ble_eq, Bool.and_eq_true, decide_eq_true_eq, s_AddressText_L0_mx0]); grind [maxSl, maxStr, toBytes_length, toInts_length, List.length_set, wrap64, s_PutWord_len, s_Digits_len, s_Digits_small, s_Joined_len]) (by (try simp only [Nat.ble_eq, Bool.and_eq_true, decide_eq_true_eq, s_AddressText_L0_mx0]); grind [maxSl, maxStr, toBytes_length, toInts_length, List.length_set, wrap64, s_PutWord_len, s_Digits_len, s_Digits_small, s_Joined_len]) _ ha5; letP (P := (fun v : Bytes => v.length ≤ 8589934592)) (fun c6 hc6 => (by (try simp only [Nat.ble_eq, Bool.and_eq_true, decide_eq_true_eq, s_AddressText_L0_mx0]); grind [maxSl, maxStr, toBytes_length, toInts_length, List.length_set, wrap64, s_PutWord_len, s_Digits_len, s_Digits_small, s_Joined_len])))
      (fun p _ => nomatch p))

/-- impl.TupleOk -/
def i_TupleOk_N (x0 : Tupl) (γ : Type) (fail : γ) (k : Bool → γ) : γ :=
  letK (α := Bool) (i_WordOk x0.ip 32) fun c1 =>
  bif c1 then
    letK (α := Bool) (i_WordOk x0.port 16) fun c2 =>
    bif c2 then
      letK (α := Bool) (i_WordOk x0.my 16) fun c3 =>
      k c3
    else
    k false
  else
  k false
def i_TupleOk (x0 : Tupl) : Bool :=
  letK (α := Bool) (i_WordOk x0.ip 32) fun c1 =>
  bif c1 then
    letK (α := Bool) (i_WordOk x0.port 16) fun c2 =>
    bif c2 then
      letK (α := Bool) (i_WordOk x0.my 16) fun c3 =>
      c3
    else
    false
  else
  false
theorem i_TupleOk_lk (x0 : Tupl) : evalFn te (orcOf (P := Tryd.prog) [i_WordOk_e]) lorc0 [] Tryd.f32 (pvs [.st .tupl] (x0, ())) =
  i_TupleOk_N x0 _ none (fun v => some [(false, [RC.c (.bool v)])]) := by kernel_rfl
theorem i_TupleOk_p (x0 : Tupl)   (γ : Type) (fail : γ) (k : Bool → γ) : i_TupleOk_N x0 γ fail k = k (i_TupleOk x0) := by
  unfold i_TupleOk_N i_TupleOk
  exact letT (f := k) (fun c1 hc1 => bifT (f := k) (fun b0 => letT (f := k) (fun c2 hc2 => bifT (f := k) (fun b1 => letT (f := k) (fun c3 hc3 => rfl))
      (fun b1 => rfl)))
      (fun b0 => rfl))
theorem i_TupleOk_c (x0 : Tupl)  : Con Tryd.prog 32 (pvs [.st .tupl] (x0, ())) [rv (.sc .bool) [] (i_TupleOk x0)] := by
  exact evalFn_con0 teFact mixFact (orcOf_ok _) Tryd.func32 (by kernel_rfl) ((i_TupleOk_lk x0).trans (i_TupleOk_p x0  _ _ _))
noncomputable def i_TupleOk_e : Ent1 Tryd.prog := entA 32 [.st .tupl] (fun x => (i_TupleOk x.1)) (fun v => [rv (.sc .bool) [] v]) (fun x => i_TupleOk_c x.1)


/-- impl.AddressText -/
def i_AddressText_N (x0 : Int) (γ : Type) (fail : γ) (k : Bytes → γ) : γ :=
  letK (α := Bool) (i_WordOk x0 32) fun c1 =>
  bif (!c1) then
    k []
  else
  letK (α := Bytes) (i_Digits (x0.fdiv 16777216)) fun c2 =>
  letK (α := Bytes) (i_Digits (bits .and .i64 (x0.fdiv 65536) 255)) fun c3 =>
  letK (α := Bytes) (i_Digits (bits .and .i64 (x0.fdiv 256) 255)) fun c4 =>
  letK (α := Bytes) (i_Digits (bits .and .i64 x0 255)) fun c5 =>
  bif (decide (([c2, c3, c4, c5] : List Bytes).length ≤ 65536 ∧ (∀ y ∈ ([c2, c3, c4, c5] : List Bytes), List.length y ≤ 65536) ∧ ([46] : Bytes).length ≤ 65536)) then
  letK (α := Bytes) (i_Joined [c2, c3, c4, c5] [46]) fun c6 =>
  k c6
  else fail
def i_AddressText (x0 : Int) : Bytes :=
  letK (α := Bool) (i_WordOk x0 32) fun c1 =>
  bif (!c1) then
    []
  else
  letK (α := Bytes) (i_Digits (x0.fdiv 16777216)) fun c2 =>
  letK (α := Bytes) (i_Digits (bits .and .i64 (x0.fdiv 65536) 255)) fun c3 =>
  letK (α := Bytes) (i_Digits (bits .and .i64 (x0.fdiv 256) 255)) fun c4 =>
  letK (α := Bytes) (i_Digits (bits .and .i64 x0 255)) fun c5 =>
  letK (α := Bytes) (i_Joined [c2, c3, c4, c5] [46]) fun c6 =>
  c6
theorem i_AddressText_lk (x0 : Int) : evalFn te (orcOf (P := Tryd.prog) [i_WordOk_e, i_Digits_e, i_Joined_e]) lorc0 [] Tryd.f33 (pvs [.sc (.int .i64)] (x0, ())) =
  i_AddressText_N x0 _ none (fun v => some [(false, [RC.c (.str v)])]) := by kernel_rfl
theorem i_AddressText_p (x0 : Int) (hx0 : inK .i64 x0)  (γ : Type) (fail : γ) (k : Bytes → γ) : i_AddressText_N x0 γ fail k = k (i_AddressText x0) := by
  unfold i_AddressText_N i_AddressText
  exact letT (f := k) (fun c1 hc1 => bifT (f := k) (fun b0 => rfl)
      (fun b0 => letT (f := k) (fun c2 hc2 => letT (f := k) (fun c3 hc3 => letT (f := k) (fun c4 hc4 => letT (f := k) (fun c5 hc5 => bifG (by simp only [decide_eq_true_eq]; subst_vars; exact i_Dig4 x0 hx0) (letT (f := k) (fun c6 hc6 => rfl))))))))
theorem i_AddressText_c (x0 : Int)  : Con Tryd.prog 33 (pvs [.sc (.int .i64)] (x0, ())) [rv (.sc .str) [] (i_AddressText x0)] := by
  refine Con.of_facts (enters_of Tryd.func33 rfl (by kernel_rfl)) fun hf => ?_
  replace hf := factAt hf
  exact evalFn_con0 teFact mixFact (orcOf_ok _) Tryd.func33 (by kernel_rfl) ((i_AddressText_lk x0).trans (i_AddressText_p x0 ((hf 0 0 rfl rfl).rng) _ _ _))
noncomputable def i_AddressText_e : Ent1 Tryd.prog := entA 33 [.sc (.int .i64)] (fun x => (i_AddressText x.1)) (fun v => [rv (.sc .str) [] v]) (fun x => i_AddressText_c x.1)

theorem i_AddressText_len (x0 : Int)  (h : inK .i64 x0) : (fun v : Bytes => v.length ≤ 8589934592) (i_AddressText x0) := by
  unfold i_AddressText
  exact letP (P := (fun v : Bytes => v.length ≤ 8589934592)) (fun c1 hc1 => bifP (P := (fun v : Bytes => v.length ≤ 8589934592)) (fun b0 => (by subst_vars; first | (simp; done) | exact i_Joined_len _ _ (i_Dig4 x0 h)))
      (fun b0 => letP (P := (fun v : Bytes => v.length ≤ 8589934592)) (fun c2 hc2 => letP (P := (fun v : Bytes => v.length ≤ 8589934592)) (fun c3 hc3 => letP (P := (fun v : Bytes => v.length ≤ 8589934592)) (fun c4 hc4 => letP (P := (fun v : Bytes => v.length ≤ 8589934592)) (fun c5 hc5 => letP (P := (fun v : Bytes => v.length ≤ 8589934592)) (fun c6 hc6 => (by subst_vars; first | (simp; done) | exact i_Joined_len _ _ (i_Dig4 x0 h)))))))))

/-- impl.ReadTuple -/
def i_ReadTuple_N (x0 : Bytes) (γ : Type) (fail : γ) (k : Tupl × Bool → γ) : γ :=
  bif (decide (x0.length ≤ 4294967296)) then
  letK (α := List Bytes) (i_Parts x0 58) fun c1 =>
  bif ((c1.length : Int) != 3) then
    k ((⟨0, 0, 0⟩ : Tupl), false)
  else
  bif (decide (0 < (c1.length : Int))) then
  bif (decide ((c1.getD 0 []).length ≤ 4294967296)) then
  letK (α := Int × Bool) (i_Address (c1.getD 0 [])) fun c2 =>
  bif (decide (1 < (c1.length : Int))) then
  letK (α := Int × Bool) (i_Number (c1.getD 1 [])) fun c3 =>
  bif (decide (2 < (c1.length : Int))) then
  letK (α := Int × Bool) (i_Number (c1.getD 2 [])) fun c4 =>
  bif (!c2.2) then
    k ((⟨0, 0, 0⟩ : Tupl), false)
  else
  bif (!c3.2) then
    k ((⟨0, 0, 0⟩ : Tupl), false)
  else
  bif (!c4.2) then
    k ((⟨0, 0, 0⟩ : Tupl), false)
  else
  letK (α := Bool) (i_TupleOk (⟨c2.1, c3.1, c4.1⟩ : Tupl)) fun c5 =>
  bif (!c5) then
    k ((⟨0, 0, 0⟩ : Tupl), false)
  else
  k ((⟨c2.1, c3.1, c4.1⟩ : Tupl), true)
  else fail
  else fail
  else fail
  else fail
  else fail
def i_ReadTuple (x0 : Bytes) : Tupl × Bool :=
  letK (α := List Bytes) (i_Parts x0 58) fun c1 =>
  bif ((c1.length : Int) != 3) then
    ((⟨0, 0, 0⟩ : Tupl), false)
  else
  letK (α := Int × Bool) (i_Address (c1.getD 0 [])) fun c2 =>
  letK (α := Int × Bool) (i_Number (c1.getD 1 [])) fun c3 =>
  letK (α := Int × Bool) (i_Number (c1.getD 2 [])) fun c4 =>
  bif (!c2.2) then
    ((⟨0, 0, 0⟩ : Tupl), false)
  else
  bif (!c3.2) then
    ((⟨0, 0, 0⟩ : Tupl), false)
  else
  bif (!c4.2) then
    ((⟨0, 0, 0⟩ : Tupl), false)
  else
  letK (α := Bool) (i_TupleOk (⟨c2.1, c3.1, c4.1⟩ : Tupl)) fun c5 =>
  bif (!c5) then
    ((⟨0, 0, 0⟩ : Tupl), false)
  else
  ((⟨c2.1, c3.1, c4.1⟩ : Tupl), true)
theorem i_ReadTuple_lk (x0 : Bytes) : evalFn te (orcOf (P := Tryd.prog) [i_Parts_e, i_Address_e, i_Number_e, i_TupleOk_e]) lorc0 [] Tryd.f56 (pvs [.sc .str] (x0, ())) =
  i_ReadTuple_N x0 _ none (fun v => some [(true, [RC.c (.int .i64 v.1.ip), RC.c (.int .i64 v.1.port), RC.c (.int .i64 v.1.my)]), (false, [RC.c (.bool v.2)])]) := by kernel_rfl
theorem i_ReadTuple_p (x0 : Bytes) (hx0 : List.length x0 ≤ 4611686018427387904) (hp : x0.length ≤ 4294967296) (γ : Type) (fail : γ) (k : Tupl × Bool → γ) : i_ReadTuple_N x0 γ fail k = k (i_ReadTuple x0) := by
  unfold i_ReadTuple_N i_ReadTuple
  exact bifG (by (try simp only [Nat.ble_eq, Bool.and_eq_true, decide_eq_true_eq]); grind [maxSl, maxStr, toBytes_length, toInts_length, List.length_set, wrap64, i_Parts_len, i_Parts_el]) (letT (f := k) (fun c1 hc1 => bifT (f := k) (fun b0 => rfl)
      (fun b0 => bifG (by (try simp only [Nat.ble_eq, Bool.and_eq_true, decide_eq_true_eq]); grind [maxSl, maxStr, toBytes_length, toInts_length, List.length_set, wrap64, i_Parts_len, i_Parts_el]) (bifG (by (try simp only [Nat.ble_eq, Bool.and_eq_true, decide_eq_true_eq]); grind [maxSl, maxStr, toBytes_length, toInts_length, List.length_set, wrap64, i_Parts_len, i_Parts_el]) (letT (f := k) (fun c2 hc2 => bifG (by (try simp only [Nat.ble_eq, Bool.and_eq_true, decide_eq_true_eq]); grind [maxSl, maxStr, toBytes_length, toInts_length, List.length_set, wrap64, i_Parts_len, i_Parts_el]) (letT (f := k) (fun c3 hc3 => bifG (by (try simp only [Nat.ble_eq, Bool.and_eq_true, decide_eq_true_eq]); grind [maxSl, maxStr, toBytes_length, toInts_length, List.length_set, wrap64, i_Parts_len, i_Parts_el]) (letT (f := k) (fun c4 hc4 => bifT (f := k) (fun b1 => rfl)
      (fun b1 => bifT (f := k) (fun b2 => rfl)
      (fun b2 => bifT (f := k) (fun b3 => rfl)
      (fun b3 => letT (f := k) (fun c5 hc5 => bifT (f := k) (fun b4 => rfl)
      (fun b4 => rfl)))))))))))))))
theorem i_ReadTuple_c (x0 : Bytes) (hp : x0.length ≤ 4294967296) : Con Tryd.prog 56 (pvs [.sc .str] (x0, ())) [rv (.st .tupl) [] (i_ReadTuple x0).1, rv (.sc .bool) [] (i_ReadTuple x0).2] := by
  refine Con.of_facts (enters_of Tryd.func56 rfl (by kernel_rfl)) fun hf => ?_
  replace hf := factAt hf
  exact evalFn_con0 teFact mixFact (orcOf_ok _) Tryd.func56 (by kernel_rfl) ((i_ReadTuple_lk x0).trans (i_ReadTuple_p x0 ((hf 0 0 rfl rfl).slen) hp _ _ _))
noncomputable def i_ReadTuple_e : Ent1 Tryd.prog := entP 56 [.sc .str] (fun x => (decide (x.1.length ≤ 4294967296))) (fun x => (i_ReadTuple x.1)) (fun v => [rv (.st .tupl) [] v.1, rv (.sc .bool) [] v.2]) (fun x hx => i_ReadTuple_c x.1 (of_decide_eq_true hx))


/-- spec.Address -/
def s_Address_ann : List (Nat × Keep) := [(0, ⟨[0, 4, 5, 6], [], false, 0⟩)]
def s_Address_L0_sh : Sh := ⟨[(0, false, [.str]), (4, false, [.own 0]), (5, false, [.int .i64]), (6, false, [.int .i64])], [.arr .str false true]⟩
def s_Address_L0_es : List (Ex × Sh) := [(.exit 0, ⟨[(0, false, [.str]), (2, false, [.undef]), (3, false, [.undef]), (5, false, [.int .i64])], []⟩)]
def s_Address_L0_mk (v0 : Bytes) (v1 : Int) (v2 : Int) (v3 : List Bytes) : s_Address_L0_sh.T := (((v0, ()), (((), ()), ((v1, ()), ((v2, ()), ())))), (v3, ()))
def s_Address_L0_mx0 (y0 : Bytes) (y1 : Int) : Sh.T ⟨[(0, false, [.str]), (2, false, [.undef]), (3, false, [.undef]), (5, false, [.int .i64])], []⟩ := (((y0, ()), (((), ()), (((), ()), ((y1, ()), ())))), ())
def s_Address_L0_B (v0 : Bytes) (v1 : Int) (v2 : Int) (v3 : List Bytes) (γ : Type) (fail : γ) (next : s_Address_L0_sh.T → γ) (out : WT s_Address_L0_es → γ) : γ :=
  bif (decide (v2 < (v3.length : Int))) then
    bif (decide (v2 < 4)) then
      bif ((decide (0 ≤ v2)) && (decide (v2 < (v3.length : Int)))) then
      letK (α := Int × Bool) (s_Number (v3.getD v2.toNat [])) fun c2 =>
      next (s_Address_L0_mk v0 (IntKind.wrap .i64 ((IntKind.wrap .i64 (256 * v1)) + (c2.1.tmod 256))) (IntKind.wrap .i64 (v2 + 1)) v3)
      else fail
    else
    out (s_Address_L0_mx0 v0 v1)
  else
  out (s_Address_L0_mx0 v0 v1)
theorem s_Address_L0_par (v0 : Bytes) (v1 : Int) (v2 : Int) (v3 : List Bytes) (γ : Type) (fail : γ) (next : s_Address_L0_sh.T → γ) (out : WT s_Address_L0_es → γ) : s_Address_L0_B v0 v1 v2 v3 γ fail next out = optK (s_Address_L0_B v0 v1 v2 v3 _ none (fun v' => some (.inl v')) (fun w => some (.inr w))) fail (fun r => Sum.elim next out r) := by
  unfold s_Address_L0_B
  exact bifT (f := (fun o => optK o fail (fun r => Sum.elim next out r))) (fun _ => bifT (f := (fun o => optK o fail (fun r => Sum.elim next out r))) (fun _ => bifT (f := (fun o => optK o fail (fun r => Sum.elim next out r))) (fun _ => letT (f := (fun o => optK o fail (fun r => Sum.elim next out r))) (fun c2 _ => rfl)) (fun _ => rfl))
      (fun _ => rfl))
      (fun _ => rfl)
def s_Address_L0_r : Round s_Address_L0_sh.T (WT s_Address_L0_es) where
  B v γ fail next out := s_Address_L0_B v.1.1.1 v.1.2.2.1.1 v.1.2.2.2.1.1 v.2.1 γ fail next out
  par v γ fail next out := s_Address_L0_par v.1.1.1 v.1.2.2.1.1 v.1.2.2.2.1.1 v.2.1 γ fail next out
def s_Address_L0_fu (v0 : Bytes) (v1 : Int) (v2 : Int) (v3 : List Bytes) : Nat := (Int.toNat ((v3.length : Int) - v2)) + 1
theorem s_Address_L0_lk (v : s_Address_L0_sh.T) (next : St → Option Res) (k : Ex → St → Option Res) : evalK te (orcOf (P := Tryd.prog) [s_Parts_e, s_Number_e, s_AddressText_e]) (lorcOf []) Tryd.f81.ntmps s_Address_ann (nthLoop (bodyOf Tryd.f81) 0 0) 0 (s_Address_L0_sh.enc v) (endK ⟨[0, 4, 5, 6], [], false, 0⟩ ⟨[0, 2, 3, 5], [], false, 0⟩ next k) =
  s_Address_L0_r.B v _ none (fun v' => next (s_Address_L0_sh.enc v')) (fun w => outK s_Address_L0_es k w) := by kernel_rfl
def s_Address_L0_le : LE := leOf 0 s_Address_L0_sh s_Address_L0_es s_Address_L0_r.step (fun v => s_Address_L0_fu v.1.1.1 v.1.2.2.1.1 v.1.2.2.2.1.1 v.2.1)
theorem s_Address_L0_ls (w0 : World) (mo : Mts) (I0 : Nat → Prop) (hmo : mo.length = 0) : LSem Tryd.prog (Sim w0 mo Tryd.f81.ntmps I0) (fun b s k => match Nat.beq 0 b with | true => s_Address_L0_le.run s k | false => none) 0 (nthLoop (bodyOf Tryd.f81) 0 0) :=
  le_sem hmo (lorc := lorcOf []) (ann := s_Address_ann) (keep := ⟨[0, 4, 5, 6], [], false, 0⟩) (kout := ⟨[0, 2, 3, 5], [], false, 0⟩) teFact mixFact (orcOf_ok _) (by kernel_rfl) (allLoops_of (bs := []) (by kernel_rfl) trivial) s_Address_L0_r _ s_Address_L0_lk
def s_Address_L0_f (v0 : Bytes) (v3 : List Bytes) (v2 : Int) (a : Int) : Stp (Int) ((Int)) :=
  bif (decide (v2 < 4)) then
    letK (α := Int × Bool) (s_Number (v3.getD v2.toNat [])) fun c2 =>
    .next (IntKind.wrap .i64 ((IntKind.wrap .i64 (256 * a)) + (c2.1.tmod 256)))
  else
  .out (a)
theorem s_Address_L0_st (v0 : Bytes) (v1 : Int) (v2 : Int) (v3 : List Bytes) (hlo : 0 ≤ v2) (hhi : v2 < (v3.length : Int)) (hN : (v3.length : Int) ≤ 4611686018427387904) : s_Address_L0_r.step (s_Address_L0_mk v0 v1 v2 v3) = Stp.elim (fun a' : Int => some (Sum.inl (s_Address_L0_mk v0 a' (v2 + 1) v3))) (fun w => some (Sum.inr ((fun p : Int => s_Address_L0_mx0 v0 p) w))) (s_Address_L0_f v0 v3 v2 v1) := by
  have hw : (IntKind.wrap .i64 (v2 + 1)) = v2 + 1 := wrap64 (by omega) (by omega)
  show s_Address_L0_B v0 v1 v2 v3 (Option (s_Address_L0_sh.T ⊕ WT s_Address_L0_es)) none (fun v' => some (Sum.inl v')) (fun w => some (Sum.inr w)) = _
  unfold s_Address_L0_B s_Address_L0_f
  exact bifG (by simp only [decide_eq_true_eq]; omega) (bifT (f := (Stp.elim (fun a' : Int => some (Sum.inl (s_Address_L0_mk v0 a' (v2 + 1) v3))) (fun w => some (Sum.inr ((fun p : Int => s_Address_L0_mx0 v0 p) w))))) (fun b0 => bifG (by (try simp only [Nat.ble_eq, Bool.and_eq_true, decide_eq_true_eq]); grind [maxSl, maxStr, toBytes_length, toInts_length, List.length_set, wrap64, s_Parts_len, s_Parts_el, s_Parts_el3, s_AddressText_len]) (letT (f := (Stp.elim (fun a' : Int => some (Sum.inl (s_Address_L0_mk v0 a' (v2 + 1) v3))) (fun w => some (Sum.inr ((fun p : Int => s_Address_L0_mx0 v0 p) w))))) (fun c2 hc2 => (by exact congrArg (fun z => some (Sum.inl (s_Address_L0_mk v0 (IntKind.wrap .i64 ((IntKind.wrap .i64 (256 * v1)) + (c2.1.tmod 256))) z v3))) hw))))
      (fun b0 => rfl))
theorem s_Address_L0_cl (v0 : Bytes) (v1 : Int) (v2 : Int) (v3 : List Bytes) (h0 : 0 ≤ v2) (h1 : (v3.length : Int) ≤ 4611686018427387904) : loopF s_Address_L0_r.step (s_Address_L0_fu v0 v1 v2 v3) (s_Address_L0_mk v0 v1 v2 v3) = some (Stp.elim (fun a => (fun i a => s_Address_L0_mx0 v0 a) (v2 + 1 * (((Int.toNat ((v3.length : Int) - v2)) : Nat) : Int)) a) (fun p : Int => s_Address_L0_mx0 v0 p) (forN (s_Address_L0_f v0 v3) 1 (Int.toNat ((v3.length : Int) - v2)) v2 v1)) :=
  forN_loop (step := s_Address_L0_r.step) (mk := fun v2 a => s_Address_L0_mk v0 a v2 v3) (f := s_Address_L0_f v0 v3) (e := (fun i a => s_Address_L0_mx0 v0 a)) (emb := (fun p : Int => s_Address_L0_mx0 v0 p)) (st := 1) (Inv := fun v2 a => True) (Int.toNat ((v3.length : Int) - v2)) v2 v1 _ (Nat.lt_succ_self _) trivial
    (fun j a hj hv => ⟨s_Address_L0_st v0 a (v2 + 1 * (j : Int)) v3 (by omega) (by omega) (by omega), fun _ _ => trivial⟩)
    (fun a hv => by
      show s_Address_L0_B v0 a (v2 + 1 * (((Int.toNat ((v3.length : Int) - v2)) : Nat) : Int)) v3 (Option (s_Address_L0_sh.T ⊕ WT s_Address_L0_es)) none (fun v' => some (Sum.inl v')) (fun w => some (Sum.inr w)) = _
      unfold s_Address_L0_B
      exact bifN (by simp only [decide_eq_false_iff_not]; omega) rfl)
def s_Address_N (x0 : Bytes) (γ : Type) (fail : γ) (k : Int × Bool → γ) : γ :=
  bif (decide (x0.length ≤ 4294967296)) then
  letK (α := List Bytes) (s_Parts x0 46) fun c1 =>
  optK (loopF s_Address_L0_r.step (s_Address_L0_fu x0 0 0 c1) (s_Address_L0_mk x0 0 0 c1)) fail fun w3 =>
    bif (w3.1.1.1 == []) then
      k (0, false)
    else
    letK (α := Bytes) (s_AddressText w3.1.2.2.2.1.1) fun c4 =>
    bif (!(c4 == w3.1.1.1)) then
      k (0, false)
    else
    k (w3.1.2.2.2.1.1, true)
  else fail
def s_Address (x0 : Bytes) : Int × Bool :=
  letK (α := List Bytes) (s_Parts x0 46) fun c1 =>
  Stp.elim (fun a5 =>
    bif (x0 == []) then
      (0, false)
    else
    letK (α := Bytes) (s_AddressText a5) fun c6 =>
    bif (!(c6 == x0)) then
      (0, false)
    else
    (a5, true))
    (fun p5 =>
      bif (x0 == []) then
        (0, false)
      else
      letK (α := Bytes) (s_AddressText p5) fun c7 =>
      bif (!(c7 == x0)) then
        (0, false)
      else
      (p5, true))
    (forN (s_Address_L0_f x0 c1) 1 (Int.toNat ((c1.length : Int) - 0)) 0 0)
theorem s_Address_lk (x0 : Bytes) : evalFn te (orcOf (P := Tryd.prog) [s_Parts_e, s_Number_e, s_AddressText_e]) (lorcOf [s_Address_L0_le]) s_Address_ann Tryd.f81 (pvs [.sc .str] (x0, ())) =
  s_Address_N x0 _ none (fun v => some [(false, [RC.c (.int .i64 v.1)]), (false, [RC.c (.bool v.2)])]) := by kernel_rfl
theorem s_Address_p (x0 : Bytes) (hx0 : List.length x0 ≤ 4611686018427387904) (hp : x0.length ≤ 4294967296) (γ : Type) (fail : γ) (k : Int × Bool → γ) : s_Address_N x0 γ fail k = k (s_Address x0) := by
  unfold s_Address_N s_Address
  exact bifG (by (try simp only [Nat.ble_eq, Bool.and_eq_true, decide_eq_true_eq, s_Address_L0_mx0]); grind [maxSl, maxStr, toBytes_length, toInts_length, List.length_set, wrap64, s_Parts_len, s_Parts_el, s_Parts_el3, s_AddressText_len]) (letT (f := k) (fun c1 hc1 => loopT (f := k) (s_Address_L0_cl x0 0 0 c1 (by (try simp only [Nat.ble_eq, Bool.and_eq_true, decide_eq_true_eq, s_Address_L0_mx0]); grind [maxSl, maxStr, toBytes_length, toInts_length, List.length_set, wrap64, s_Parts_len, s_Parts_el, s_Parts_el3, s_AddressText_len]) (by (try simp only [Nat.ble_eq, Bool.and_eq_true, decide_eq_true_eq, s_Address_L0_mx0]); grind [maxSl, maxStr, toBytes_length, toInts_length, List.length_set, wrap64, s_Parts_len, s_Parts_el, s_Parts_el3, s_AddressText_len])) (fun a5 => bifT (f := k) (fun b0 => rfl)
      (fun b0 => letT (f := k) (fun c6 hc6 => bifT (f := k) (fun b1 => rfl)
      (fun b1 => rfl))))
      (fun p5 => bifT (f := k) (fun b0 => rfl)
      (fun b0 => letT (f := k) (fun c7 hc7 => bifT (f := k) (fun b1 => rfl)
      (fun b1 => rfl))))))
theorem s_Address_c (x0 : Bytes) (hp : x0.length ≤ 4294967296) : Con Tryd.prog 81 (pvs [.sc .str] (x0, ())) [rv (.sc (.int .i64)) [] (s_Address x0).1, rv (.sc .bool) [] (s_Address x0).2] := by
  refine Con.of_facts (enters_of Tryd.func81 rfl (by kernel_rfl)) fun hf => ?_
  replace hf := factAt hf
  exact evalFn_conL teFact mixFact (orcOf_ok _) Tryd.func81 (by kernel_rfl) (bs := [0]) (by kernel_rfl) (by kernel_rfl) (fun w0 mo I0 hmo => ⟨lsem_of_lorc (s_Address_L0_ls w0 mo I0 hmo) (by kernel_rfl), trivial⟩) ((s_Address_lk x0).trans (s_Address_p x0 ((hf 0 0 rfl rfl).slen) hp _ _ _))
noncomputable def s_Address_e : Ent1 Tryd.prog := entP 81 [.sc .str] (fun x => (decide (x.1.length ≤ 4294967296))) (fun x => (s_Address x.1)) (fun v => [rv (.sc (.int .i64)) [] v.1, rv (.sc .bool) [] v.2]) (fun x hx => s_Address_c x.1 (of_decide_eq_true hx))


/-- spec.TupleText -/
def s_TupleText_N (x0 : Tupl) (γ : Type) (fail : γ) (k : Bytes → γ) : γ :=
  letK (α := Bool) (s_TupleOk x0) fun c1 =>
  bif (!c1) then
    k []
  else
  letK (α := Bytes) (s_AddressText x0.ip) fun c2 =>
  bif (Nat.ble (c2.length + 1) maxStr) then
  letK (α := Bytes) (s_Digits x0.port) fun c3 =>
  bif (Nat.ble ((c2 ++ [58]).length + c3.length) maxStr) then
  bif (Nat.ble (((c2 ++ [58]) ++ c3).length + 1) maxStr) then
  letK (α := Bytes) (s_Digits x0.my) fun c4 =>
  bif (Nat.ble ((((c2 ++ [58]) ++ c3) ++ [58]).length + c4.length) maxStr) then
  k ((((c2 ++ [58]) ++ c3) ++ [58]) ++ c4)
  else fail
  else fail
  else fail
  else fail
def s_TupleText (x0 : Tupl) : Bytes :=
  letK (α := Bool) (s_TupleOk x0) fun c1 =>
  bif (!c1) then
    []
  else
  letK (α := Bytes) (s_AddressText x0.ip) fun c2 =>
  letK (α := Bytes) (s_Digits x0.port) fun c3 =>
  letK (α := Bytes) (s_Digits x0.my) fun c4 =>
  ((((c2 ++ [58]) ++ c3) ++ [58]) ++ c4)
theorem s_TupleText_lk (x0 : Tupl) : evalFn te (orcOf (P := Tryd.prog) [s_TupleOk_e, s_AddressText_e, s_Digits_e]) lorc0 [] Tryd.f8 (pvs [.st .tupl] (x0, ())) =
  s_TupleText_N x0 _ none (fun v => some [(false, [RC.c (.str v)])]) := by kernel_rfl
theorem s_TupleText_p (x0 : Tupl) (hx0_ip : inK .i64 x0.ip) (hx0_port : inK .i64 x0.port) (hx0_my : inK .i64 x0.my)  (γ : Type) (fail : γ) (k : Bytes → γ) : s_TupleText_N x0 γ fail k = k (s_TupleText x0) := by
  unfold s_TupleText_N s_TupleText
  exact letT (f := k) (fun c1 hc1 => bifT (f := k) (fun b0 => rfl)
      (fun b0 => letT (f := k) (fun c2 hc2 => bifG (by (try simp only [Nat.ble_eq, Bool.and_eq_true, decide_eq_true_eq]); grind [maxSl, maxStr, toBytes_length, toInts_length, List.length_set, wrap64, s_AddressText_len, s_Digits_len, s_Digits_small]) (letT (f := k) (fun c3 hc3 => bifG (by (try simp only [Nat.ble_eq, Bool.and_eq_true, decide_eq_true_eq]); grind [maxSl, maxStr, toBytes_length, toInts_length, List.length_set, wrap64, s_AddressText_len, s_Digits_len, s_Digits_small]) (bifG (by (try simp only [Nat.ble_eq, Bool.and_eq_true, decide_eq_true_eq]); grind [maxSl, maxStr, toBytes_length, toInts_length, List.length_set, wrap64, s_AddressText_len, s_Digits_len, s_Digits_small]) (letT (f := k) (fun c4 hc4 => bifG (by (try simp only [Nat.ble_eq, Bool.and_eq_true, decide_eq_true_eq]); grind [maxSl, maxStr, toBytes_length, toInts_length, List.length_set, wrap64, s_AddressText_len, s_Digits_len, s_Digits_small]) (rfl)))))))))
theorem s_TupleText_c (x0 : Tupl)  : Con Tryd.prog 8 (pvs [.st .tupl] (x0, ())) [rv (.sc .str) [] (s_TupleText x0)] := by
  refine Con.of_facts (enters_of Tryd.func8 rfl (by kernel_rfl)) fun hf => ?_
  replace hf := factAt hf
  exact evalFn_con0 teFact mixFact (orcOf_ok _) Tryd.func8 (by kernel_rfl) ((s_TupleText_lk x0).trans (s_TupleText_p x0 ((hf 0 0 rfl rfl).rng) ((hf 0 1 rfl rfl).rng) ((hf 0 2 rfl rfl).rng) _ _ _))
noncomputable def s_TupleText_e : Ent1 Tryd.prog := entA 8 [.st .tupl] (fun x => (s_TupleText x.1)) (fun v => [rv (.sc .str) [] v]) (fun x => s_TupleText_c x.1)

theorem s_TupleText_len (x0 : Tupl)  (h1 : inK .i64 x0.port) (h2 : inK .i64 x0.my) : (fun v : Bytes => v.length ≤ 2100000000000000000) (s_TupleText x0) := by
  unfold s_TupleText
  exact letP (P := (fun v : Bytes => v.length ≤ 2100000000000000000)) (fun c1 hc1 => bifP (P := (fun v : Bytes => v.length ≤ 2100000000000000000)) (fun b0 => (by (try simp only [Nat.ble_eq, Bool.and_eq_true, decide_eq_true_eq]); grind [maxSl, maxStr, toBytes_length, toInts_length, List.length_set, wrap64, s_AddressText_len, s_Digits_len, s_Digits_small]))
      (fun b0 => letP (P := (fun v : Bytes => v.length ≤ 2100000000000000000)) (fun c2 hc2 => letP (P := (fun v : Bytes => v.length ≤ 2100000000000000000)) (fun c3 hc3 => letP (P := (fun v : Bytes => v.length ≤ 2100000000000000000)) (fun c4 hc4 => (by (try simp only [Nat.ble_eq, Bool.and_eq_true, decide_eq_true_eq]); grind [maxSl, maxStr, toBytes_length, toInts_length, List.length_set, wrap64, s_AddressText_len, s_Digits_len, s_Digits_small]))))))

/-- impl.TupleText -/
def i_TupleText_N (x0 : Tupl) (γ : Type) (fail : γ) (k : Bytes → γ) : γ :=
  letK (α := Bool) (i_TupleOk x0) fun c1 =>
  bif (!c1) then
    k []
  else
  letK (α := Bytes) (i_AddressText x0.ip) fun c2 =>
  bif (Nat.ble (c2.length + 1) maxStr) then
  letK (α := Bytes) (i_Digits x0.port) fun c3 =>
  bif (Nat.ble ((c2 ++ [58]).length + c3.length) maxStr) then
  bif (Nat.ble (((c2 ++ [58]) ++ c3).length + 1) maxStr) then
  letK (α := Bytes) (i_Digits x0.my) fun c4 =>
  bif (Nat.ble ((((c2 ++ [58]) ++ c3) ++ [58]).length + c4.length) maxStr) then
  k ((((c2 ++ [58]) ++ c3) ++ [58]) ++ c4)
  else fail
  else fail
  else fail
  else fail
def i_TupleText (x0 : Tupl) : Bytes :=
  letK (α := Bool) (i_TupleOk x0) fun c1 =>
  bif (!c1) then
    []
  else
  letK (α := Bytes) (i_AddressText x0.ip) fun c2 =>
  letK (α := Bytes) (i_Digits x0.port) fun c3 =>
  letK (α := Bytes) (i_Digits x0.my) fun c4 =>
  ((((c2 ++ [58]) ++ c3) ++ [58]) ++ c4)
theorem i_TupleText_lk (x0 : Tupl) : evalFn te (orcOf (P := Tryd.prog) [i_TupleOk_e, i_AddressText_e, i_Digits_e]) lorc0 [] Tryd.f10 (pvs [.st .tupl] (x0, ())) =
  i_TupleText_N x0 _ none (fun v => some [(false, [RC.c (.str v)])]) := by kernel_rfl
theorem i_TupleText_p (x0 : Tupl) (hx0_ip : inK .i64 x0.ip) (hx0_port : inK .i64 x0.port) (hx0_my : inK .i64 x0.my)  (γ : Type) (fail : γ) (k : Bytes → γ) : i_TupleText_N x0 γ fail k = k (i_TupleText x0) := by
  unfold i_TupleText_N i_TupleText
  exact letT (f := k) (fun c1 hc1 => bifT (f := k) (fun b0 => rfl)
      (fun b0 => letT (f := k) (fun c2 hc2 => bifG (by (try simp only [Nat.ble_eq, Bool.and_eq_true, decide_eq_true_eq]); grind [maxSl, maxStr, toBytes_length, toInts_length, List.length_set, wrap64, i_AddressText_len, i_Digits_len]) (letT (f := k) (fun c3 hc3 => bifG (by (try simp only [Nat.ble_eq, Bool.and_eq_true, decide_eq_true_eq]); grind [maxSl, maxStr, toBytes_length, toInts_length, List.length_set, wrap64, i_AddressText_len, i_Digits_len]) (bifG (by (try simp only [Nat.ble_eq, Bool.and_eq_true, decide_eq_true_eq]); grind [maxSl, maxStr, toBytes_length, toInts_length, List.length_set, wrap64, i_AddressText_len, i_Digits_len]) (letT (f := k) (fun c4 hc4 => bifG (by (try simp only [Nat.ble_eq, Bool.and_eq_true, decide_eq_true_eq]); grind [maxSl, maxStr, toBytes_length, toInts_length, List.length_set, wrap64, i_AddressText_len, i_Digits_len]) (rfl)))))))))
theorem i_TupleText_c (x0 : Tupl)  : Con Tryd.prog 10 (pvs [.st .tupl] (x0, ())) [rv (.sc .str) [] (i_TupleText x0)] := by
  refine Con.of_facts (enters_of Tryd.func10 rfl (by kernel_rfl)) fun hf => ?_
  replace hf := factAt hf
  exact evalFn_con0 teFact mixFact (orcOf_ok _) Tryd.func10 (by kernel_rfl) ((i_TupleText_lk x0).trans (i_TupleText_p x0 ((hf 0 0 rfl rfl).rng) ((hf 0 1 rfl rfl).rng) ((hf 0 2 rfl rfl).rng) _ _ _))
noncomputable def i_TupleText_e : Ent1 Tryd.prog := entA 10 [.st .tupl] (fun x => (i_TupleText x.1)) (fun v => [rv (.sc .str) [] v]) (fun x => i_TupleText_c x.1)

theorem i_TupleText_len (x0 : Tupl)  (h0 : inK .i64 x0.ip) (h1 : inK .i64 x0.port) (h2 : inK .i64 x0.my) : (fun v : Bytes => v.length ≤ 2100000000000000000) (i_TupleText x0) := by
  unfold i_TupleText
  exact letP (P := (fun v : Bytes => v.length ≤ 2100000000000000000)) (fun c1 hc1 => bifP (P := (fun v : Bytes => v.length ≤ 2100000000000000000)) (fun b0 => (by (try simp only [Nat.ble_eq, Bool.and_eq_true, decide_eq_true_eq]); grind [maxSl, maxStr, toBytes_length, toInts_length, List.length_set, wrap64, i_AddressText_len, i_Digits_len]))
      (fun b0 => letP (P := (fun v : Bytes => v.length ≤ 2100000000000000000)) (fun c2 hc2 => letP (P := (fun v : Bytes => v.length ≤ 2100000000000000000)) (fun c3 hc3 => letP (P := (fun v : Bytes => v.length ≤ 2100000000000000000)) (fun c4 hc4 => (by (try simp only [Nat.ble_eq, Bool.and_eq_true, decide_eq_true_eq]); grind [maxSl, maxStr, toBytes_length, toInts_length, List.length_set, wrap64, i_AddressText_len, i_Digits_len]))))))

/-- spec.ReadTuple -/
def s_ReadTuple_N (x0 : Bytes) (γ : Type) (fail : γ) (k : Tupl × Bool → γ) : γ :=
  bif (decide (x0.length ≤ 4294967296)) then
  letK (α := List Bytes) (s_Parts x0 58) fun c1 =>
  bif ((c1.length : Int) != 3) then
    k ((⟨0, 0, 0⟩ : Tupl), false)
  else
  bif (decide (0 < (c1.length : Int))) then
  bif (decide ((c1.getD 0 []).length ≤ 4294967296)) then
  letK (α := Int × Bool) (s_Address (c1.getD 0 [])) fun c2 =>
  bif (decide (1 < (c1.length : Int))) then
  letK (α := Int × Bool) (s_Number (c1.getD 1 [])) fun c3 =>
  bif (decide (2 < (c1.length : Int))) then
  letK (α := Int × Bool) (s_Number (c1.getD 2 [])) fun c4 =>
  letK (α := Bytes) (s_TupleText (⟨c2.1, c3.1, c4.1⟩ : Tupl)) fun c5 =>
  bif (!(c5 == x0)) then
    k ((⟨0, 0, 0⟩ : Tupl), false)
  else
  k ((⟨c2.1, c3.1, c4.1⟩ : Tupl), true)
  else fail
  else fail
  else fail
  else fail
  else fail
def s_ReadTuple (x0 : Bytes) : Tupl × Bool :=
  letK (α := List Bytes) (s_Parts x0 58) fun c1 =>
  bif ((c1.length : Int) != 3) then
    ((⟨0, 0, 0⟩ : Tupl), false)
  else
  letK (α := Int × Bool) (s_Address (c1.getD 0 [])) fun c2 =>
  letK (α := Int × Bool) (s_Number (c1.getD 1 [])) fun c3 =>
  letK (α := Int × Bool) (s_Number (c1.getD 2 [])) fun c4 =>
  letK (α := Bytes) (s_TupleText (⟨c2.1, c3.1, c4.1⟩ : Tupl)) fun c5 =>
  bif (!(c5 == x0)) then
    ((⟨0, 0, 0⟩ : Tupl), false)
  else
  ((⟨c2.1, c3.1, c4.1⟩ : Tupl), true)
theorem s_ReadTuple_lk (x0 : Bytes) : evalFn te (orcOf (P := Tryd.prog) [s_Parts_e, s_Address_e, s_Number_e, s_TupleText_e]) lorc0 [] Tryd.f50 (pvs [.sc .str] (x0, ())) =
  s_ReadTuple_N x0 _ none (fun v => some [(true, [RC.c (.int .i64 v.1.ip), RC.c (.int .i64 v.1.port), RC.c (.int .i64 v.1.my)]), (false, [RC.c (.bool v.2)])]) := by kernel_rfl
theorem s_ReadTuple_p (x0 : Bytes) (hx0 : List.length x0 ≤ 4611686018427387904) (hp : x0.length ≤ 4294967296) (γ : Type) (fail : γ) (k : Tupl × Bool → γ) : s_ReadTuple_N x0 γ fail k = k (s_ReadTuple x0) := by
  unfold s_ReadTuple_N s_ReadTuple
  exact bifG (by (try simp only [Nat.ble_eq, Bool.and_eq_true, decide_eq_true_eq]); grind [maxSl, maxStr, toBytes_length, toInts_length, List.length_set, wrap64, s_Parts_len, s_Parts_el, s_Parts_el3, s_TupleText_len]) (letT (f := k) (fun c1 hc1 => bifT (f := k) (fun b0 => rfl)
      (fun b0 => bifG (by (try simp only [Nat.ble_eq, Bool.and_eq_true, decide_eq_true_eq]); grind [maxSl, maxStr, toBytes_length, toInts_length, List.length_set, wrap64, s_Parts_len, s_Parts_el, s_Parts_el3, s_TupleText_len]) (bifG (by (try simp only [Nat.ble_eq, Bool.and_eq_true, decide_eq_true_eq]); grind [maxSl, maxStr, toBytes_length, toInts_length, List.length_set, wrap64, s_Parts_len, s_Parts_el, s_Parts_el3, s_TupleText_len]) (letT (f := k) (fun c2 hc2 => bifG (by (try simp only [Nat.ble_eq, Bool.and_eq_true, decide_eq_true_eq]); grind [maxSl, maxStr, toBytes_length, toInts_length, List.length_set, wrap64, s_Parts_len, s_Parts_el, s_Parts_el3, s_TupleText_len]) (letT (f := k) (fun c3 hc3 => bifG (by (try simp only [Nat.ble_eq, Bool.and_eq_true, decide_eq_true_eq]); grind [maxSl, maxStr, toBytes_length, toInts_length, List.length_set, wrap64, s_Parts_len, s_Parts_el, s_Parts_el3, s_TupleText_len]) (letT (f := k) (fun c4 hc4 => letT (f := k) (fun c5 hc5 => bifT (f := k) (fun b1 => rfl)
      (fun b1 => rfl))))))))))))
theorem s_ReadTuple_c (x0 : Bytes) (hp : x0.length ≤ 4294967296) : Con Tryd.prog 50 (pvs [.sc .str] (x0, ())) [rv (.st .tupl) [] (s_ReadTuple x0).1, rv (.sc .bool) [] (s_ReadTuple x0).2] := by
  refine Con.of_facts (enters_of Tryd.func50 rfl (by kernel_rfl)) fun hf => ?_
  replace hf := factAt hf
  exact evalFn_con0 teFact mixFact (orcOf_ok _) Tryd.func50 (by kernel_rfl) ((s_ReadTuple_lk x0).trans (s_ReadTuple_p x0 ((hf 0 0 rfl rfl).slen) hp _ _ _))
noncomputable def s_ReadTuple_e : Ent1 Tryd.prog := entP 50 [.sc .str] (fun x => (decide (x.1.length ≤ 4294967296))) (fun x => (s_ReadTuple x.1)) (fun v => [rv (.st .tupl) [] v.1, rv (.sc .bool) [] v.2]) (fun x hx => s_ReadTuple_c x.1 (of_decide_eq_true hx))



theorem s_WordOk_eq (n b : Int) : s_WordOk n b = bif s_l1In b 1 62 then s_l1In n 0 (IntKind.wrap .i64 ((IntKind.wrap .i64 (1 * 2 ^ (min (IntKind.wrap .u64 b).toNat 64))) - 1)) else false := by
  simp only [s_WordOk, letK]
theorem i_WordOk_eq (n b : Int) : i_WordOk n b = bif i_within b 1 62 then i_within n 0 (IntKind.wrap .i64 ((IntKind.wrap .i64 (1 * 2 ^ (min b.toNat 64))) - 1)) else false := by
  simp only [i_WordOk, letK]
theorem q_WordOk (n b : Int) : s_WordOk n b = i_WordOk n b := by
  rw [s_WordOk_eq, i_WordOk_eq, s_l1In_eq, i_within_eq]
  cases h : (decide (1 ≤ b) && decide (b ≤ 62)) with
  | false => rw [cond_false, cond_false]
  | true =>
    have h1 : 1 ≤ b ∧ b ≤ 62 := by simpa using h
    have h2 : IntKind.u64.wrap b = b := by rw [wrapU_def]; exact Int.emod_eq_of_lt (by omega) (by omega)
    rw [h2, cond_true, cond_true, s_l1In_eq, i_within_eq]


theorem q_TupleOk (x : Tupl) : s_TupleOk x = i_TupleOk x := by simp only [s_TupleOk, i_TupleOk, q_WordOk]

theorem toTuple_eq (x : Tupl) : w_toTuple x = x := by
  first | rfl | simp only [w_toTuple, letK] | (simp [w_toTuple, letK])

/-! decimal digits -/
def digs (n : Nat) : Bytes := if h : n < 10 then [UInt8.ofNat (48 + n)] else digs (n / 10) ++ [UInt8.ofNat (48 + n % 10)]
decreasing_by omega
def isDig (c : UInt8) : Bool := decide (48 ≤ c.toNat) && decide (c.toNat ≤ 57)
def val : Bytes → Nat → Nat
  | [], a => a
  | c :: r, a => val r (10 * a + (c.toNat - 48))
theorem digs_lt {n : Nat} (h : n < 10) : digs n = [UInt8.ofNat (48 + n)] := by rw [digs, dif_pos h]
theorem digs_ge {n : Nat} (h : ¬ n < 10) : digs n = digs (n / 10) ++ [UInt8.ofNat (48 + n % 10)] := by rw [digs, dif_neg h]
theorem u8_of {n : Nat} (h : n < 10) : (UInt8.ofNat (48 + n)).toNat = 48 + n := by
  simp only [UInt8.toNat_ofNat']; omega
theorem u8_eq {c : UInt8} (h : isDig c = true) : UInt8.ofNat (48 + (c.toNat - 48)) = c := by
  simp only [isDig, Bool.and_eq_true, decide_eq_true_eq] at h
  rw [show 48 + (c.toNat - 48) = c.toNat by omega]
  exact UInt8.ofNat_toNat
theorem digs_dig : ∀ (n : Nat), ∀ c ∈ digs n, isDig c = true := by
  intro n
  induction n using Nat.strongRecOn with
  | _ n ih =>
    intro c hc
    by_cases h : n < 10
    · rw [digs_lt h, List.mem_singleton] at hc
      subst hc
      simp only [isDig, u8_of h, Bool.and_eq_true, decide_eq_true_eq]; omega
    · rw [digs_ge h] at hc
      rcases List.mem_append.1 hc with hc | hc
      · exact ih (n / 10) (by omega) c hc
      · rw [List.mem_singleton] at hc
        subst hc
        simp only [isDig, u8_of (show n % 10 < 10 by omega), Bool.and_eq_true, decide_eq_true_eq]; omega
theorem digs_ne (n : Nat) : digs n ≠ [] := by
  by_cases h : n < 10
  · rw [digs_lt h]; simp
  · rw [digs_ge h]; simp
theorem digs_head : ∀ (n : Nat), ∀ c r, digs n = c :: r → c.toNat = 48 → n = 0 := by
  intro n
  induction n using Nat.strongRecOn with
  | _ n ih =>
    intro c r he hc
    by_cases h : n < 10
    · rw [digs_lt h] at he
      cases he
      rw [u8_of h] at hc
      omega
    · rw [digs_ge h] at he
      cases hd : digs (n / 10) with
      | nil => exact absurd hd (digs_ne _)
      | cons c' r' =>
        rw [hd] at he
        cases he
        have := ih (n / 10) (by omega) c r' hd hc
        omega
theorem val_app : ∀ (s : Bytes) (c : UInt8) (a : Nat), val (s ++ [c]) a = 10 * val s a + (c.toNat - 48)
  | [], _, _ => rfl
  | x :: r, c, a => by simp only [List.cons_append, val]; exact val_app r c _
theorem val_digs : ∀ (n : Nat), val (digs n) 0 = n := by
  intro n
  induction n using Nat.strongRecOn with
  | _ n ih =>
    by_cases h : n < 10
    · rw [digs_lt h]; simp only [val, u8_of h]; omega
    · rw [digs_ge h, val_app, ih (n / 10) (by omega), u8_of (by omega)]; omega
/-- a text of digits that does not begin with a needless zero -/
def noLead : Bytes → Bool
  | [] => false
  | [_] => true
  | c :: _ => !(c.toNat == 48)
theorem val_pos : ∀ (s : Bytes) (a : Nat), a ≤ val s a
  | [], _ => Nat.le_refl _
  | c :: r, a => by simp only [val]; have := val_pos r (10 * a + (c.toNat - 48)); omega
theorem noLead_digs (n : Nat) : noLead (digs n) = true := by
  cases hd : digs n with
  | nil => exact absurd hd (digs_ne n)
  | cons c r =>
    cases r with
    | nil => rfl
    | cons d r =>
      simp only [noLead, Bool.not_eq_true', beq_eq_false_iff_ne, ne_eq]
      intro hc
      have := digs_head n c _ hd hc
      subst this
      rw [digs_lt (by omega)] at hd
      cases hd
theorem digs_val (s : Bytes) (hd : ∀ c ∈ s, isDig c = true) (hn : noLead s = true) : digs (val s 0) = s := by
  generalize hl : s.length = l
  induction l generalizing s with
  | zero => cases s with | nil => cases hn | cons _ _ => simp at hl
  | succ l ih =>
    rcases List.eq_nil_or_concat s with rfl | ⟨t, c, rfl⟩
    · cases hn
    · rw [List.concat_eq_append] at *
      have hc := hd c (by simp)
      have hc' := hc
      simp only [isDig, Bool.and_eq_true, decide_eq_true_eq] at hc'
      rw [val_app]
      cases ht : t with
      | nil =>
        simp only [val, List.nil_append]
        rw [digs_lt (by omega), show 10 * 0 + (c.toNat - 48) = c.toNat - 48 by omega, u8_eq hc]
      | cons d r =>
        rw [← ht]
        have hdd := hd d (by rw [ht]; simp)
        simp only [isDig, Bool.and_eq_true, decide_eq_true_eq] at hdd
        have h0 : ¬ d.toNat = 48 := by
          rw [ht] at hn
          cases r <;> simpa [noLead] using hn
        have hnt : noLead t = true := by
          rw [ht]
          cases r with
          | nil => rfl
          | cons _ _ => simp [noLead, h0]
        have e := ih t (fun x hx => hd x (by simp [hx])) hnt (by simp at hl; exact hl)
        have hv : 1 ≤ val t 0 := by
          rw [ht]
          simp only [val]
          have := val_pos r (10 * 0 + (d.toNat - 48))
          omega
        rw [digs_ge (by omega), show (10 * val t 0 + (c.toNat - 48)) / 10 = val t 0 by omega, e, show (10 * val t 0 + (c.toNat - 48)) % 10 = c.toNat - 48 by omega, u8_eq hc]
theorem Digits_whileN : ∀ (n : Nat) (m : Nat) (acc : Bytes), n ≤ 9223372036854775807 → n < m → whileN (s_Digits_L0_f false) m ((n : Int), acc) = if n = 0 then acc else digs n ++ acc := by
  intro n
  induction n using Nat.strongRecOn with
  | _ n ih =>
    intro m acc hb hm
    cases m with
    | zero => omega
    | succ m =>
      have hf : s_Digits_L0_f false ((n : Int), acc) = if n = 0 then .out acc else .next (((n / 10 : Nat) : Int), [UInt8.ofNat (48 + n % 10)] ++ acc) := by
        unfold s_Digits_L0_f
        by_cases h0 : n = 0
        · subst h0; rfl
        · rw [if_neg h0, show ((n : Int) != 0) = true by simp; omega]
          simp only [cond_true, letK_eq]
          rw [(tmod_pos 10).1 (by omega), (tdiv_pos 10).1 (by omega), show decide ((n : Int) % 10 < 0) = false by simp; omega, cond_false, wrap64 (m := 48 + _) (by omega) (by omega), wrap64 (by omega) (by omega), wrap8_def]
          congr 3
          simp only [toBytes, List.map_cons, List.map_nil]
          congr 2
          omega
      by_cases h0 : n = 0
      · simp only [whileN, hf, if_pos h0, Stp.elim]
      · simp only [whileN, hf, if_neg h0, Stp.elim]
        rw [ih (n / 10) (by omega) m _ (by omega) (by omega)]
        by_cases h : n < 10
        · rw [if_pos (by omega), digs_lt h, show n % 10 = n by omega]
        · rw [if_neg (by omega), digs_ge h, List.append_assoc]
theorem Digits_eq (n : Nat) (hb : n ≤ 9223372036854775807) : s_Digits (n : Int) = digs n := by
  unfold s_Digits
  by_cases h0 : n = 0
  · subst h0; rw [digs_lt (by omega)]; rfl
  · rw [show ((n : Int) == 0) = false by simp; omega]
    simp only [cond_false, letK_eq]
    rw [show decide ((n : Int) < 0) = false by simp]
    simp only [cond_false]
    unfold s_Digits_L0_w s_Digits_L0_fu
    rw [Digits_whileN n _ [] hb (by simp), if_neg h0, List.append_nil]
/-! a number that is read -/
def NumOk (s : Bytes) : Bool := decide (1 ≤ s.length) && decide (s.length ≤ 12) && s.all isDig && noLead s
theorem val_le : ∀ (s : Bytes) (a k : Nat), (∀ c ∈ s, isDig c = true) → a < 10 ^ k → val s a < 10 ^ (k + s.length)
  | [], _, _, _, h => h
  | c :: r, a, k, hd, h => by
    have hc := hd c (by simp)
    simp only [isDig, Bool.and_eq_true, decide_eq_true_eq] at hc
    simp only [val, List.length_cons]
    rw [show k + (r.length + 1) = (k + 1) + r.length by omega]
    refine val_le r _ (k + 1) (fun x hx => hd x (by simp [hx])) ?_
    rw [Nat.pow_succ]; omega
theorem num_listN {F : Nat → UInt8 → Int → Stp Int Int} (hF : ∀ j (c : UInt8) a, F j c a = bif decide ((c.toNat : Int) < 48) then .out a else bif decide (57 < (c.toNat : Int)) then .out a else .next (IntKind.wrap .i64 ((IntKind.wrap .i64 (10 * a)) + (IntKind.wrap .i64 (IntKind.wrap .u8 ((c.toNat : Int) - 48)))))) :
    ∀ (s : Bytes) (j k a : Nat), a < 10 ^ k → k + s.length ≤ 12 → (s.all isDig = true → listN F j s (a : Int) = .next ((val s a : Nat) : Int)) ∧ (s.all isDig = false → ∃ w, listN F j s (a : Int) = .out w)
  | [], _, _, _, _, _ => ⟨fun _ => rfl, fun h => by cases h⟩
  | c :: r, j, k, a, ha, hk => by
    have hp : (10 : Nat) ^ k ≤ 1000000000000 := by
      have : ∀ k : Nat, k < 13 → (10 : Nat) ^ k ≤ 1000000000000 := by decide
      exact this k (by simp only [List.length_cons] at hk; omega)
    simp only [listN, hF, List.all_cons, isDig]
    by_cases h1 : c.toNat < 48
    · rw [show decide ((c.toNat : Int) < 48) = true by simp; omega, show decide (48 ≤ c.toNat) = false by simp; omega]
      exact ⟨fun h => by simp at h, fun _ => ⟨_, rfl⟩⟩
    · rw [show decide ((c.toNat : Int) < 48) = false by simp; omega, show decide (48 ≤ c.toNat) = true by simp; omega]
      by_cases h2 : 57 < c.toNat
      · rw [show decide (57 < (c.toNat : Int)) = true by simp; omega, show decide (c.toNat ≤ 57) = false by simp; omega]
        exact ⟨fun h => by simp at h, fun _ => ⟨_, rfl⟩⟩
      · rw [show decide (57 < (c.toNat : Int)) = false by simp; omega, show decide (c.toNat ≤ 57) = true by simp; omega]
        simp only [cond_false, Stp.elim, Bool.true_and, Bool.and_self]
        have e : IntKind.wrap .i64 ((IntKind.wrap .i64 (10 * (a : Int))) + (IntKind.wrap .i64 (IntKind.wrap .u8 ((c.toNat : Int) - 48)))) = ((10 * a + (c.toNat - 48) : Nat) : Int) := by
          rw [wrap8_def, wrap64 (m := 10 * (a : Int)) (by omega) (by omega), wrap64 (m := _ % _) (by omega) (by omega), wrap64 (by omega) (by omega)]
          omega
        rw [e]
        exact num_listN hF r (j + 1) (k + 1) (10 * a + (c.toNat - 48)) (by rw [Nat.pow_succ]; omega) (by simp only [List.length_cons] at hk; omega)
theorem num_loop (s : Bytes) (h : s.length ≤ 12) : (s.all isDig = true → forN (s_Number_L0_f s) 1 (Int.toNat ((s.length : Int) - 0)) 0 0 = .next ((val s 0 : Nat) : Int)) ∧ (s.all isDig = false → ∃ w, forN (s_Number_L0_f s) 1 (Int.toNat ((s.length : Int) - 0)) 0 0 = .out w) := by
  rw [toNat_sub0, forN_list s _ rfl (F := fun _ (c : UInt8) a => bif decide ((c.toNat : Int) < 48) then .out a else bif decide (57 < (c.toNat : Int)) then .out a else .next (IntKind.wrap .i64 ((IntKind.wrap .i64 (10 * a)) + (IntKind.wrap .i64 (IntKind.wrap .u8 ((c.toNat : Int) - 48)))))) (by
    intro j c a hj
    simp only [s_Number_L0_f, letK_eq, toNat_cast, byteAt, getD_some hj])]
  exact num_listN (fun _ _ _ => rfl) s 0 0 0 (by omega) (by omega)
theorem noLead_eq (s : Bytes) (h : 1 ≤ s.length) : noLead s = !(decide (1 < (s.length : Int)) && (byteAt s 0 == 48)) := by
  match s, h with
  | [c], _ => simp [noLead]
  | c :: d :: r, _ =>
    rw [show decide (1 < (((c :: d :: r).length : Nat) : Int)) = true by simp; omega, Bool.true_and]
    simp only [noLead, byteAt, List.getD_cons_zero]
    congr 1
    rw [Bool.eq_iff_iff]
    simp only [beq_iff_eq]
    omega
theorem sNumber_eq (s : Bytes) : s_Number s = bif NumOk s then (((val s 0 : Nat) : Int), true) else (0, false) := by
  unfold s_Number NumOk
  by_cases h1 : 1 ≤ s.length
  · rw [show decide ((s.length : Int) < 1) = false by simp; omega, decide_eq_true h1]
    by_cases h2 : s.length ≤ 12
    · rw [show decide (12 < (s.length : Int)) = false by simp; omega, decide_eq_true h2]
      simp only [cond_false, Bool.true_and]
      obtain ⟨g1, g2⟩ := num_loop s h2
      cases ha : s.all isDig with
      | false => obtain ⟨w, hw⟩ := g2 ha; rw [hw]; rfl
      | true =>
        rw [g1 ha]
        have hd : ∀ c ∈ s, isDig c = true := by simpa using ha
        have hv := val_le s 0 0 hd (by omega)
        have hp : (10 : Nat) ^ (0 + s.length) ≤ 1000000000000 := by
          have : ∀ k : Nat, k < 13 → (10 : Nat) ^ k ≤ 1000000000000 := by decide
          exact this _ (by omega)
        simp only [Stp.elim, letK_eq, Bool.true_and]
        rw [Digits_eq _ (by omega)]
        cases hn : noLead s with
        | true => rw [digs_val s hd hn]; simp
        | false =>
          have : (digs (val s 0) == s) = false := by
            rw [beq_eq_false_iff_ne]
            intro he
            have := noLead_digs (val s 0)
            rw [he, hn] at this
            cases this
          rw [this]; rfl
    · rw [show decide (12 < (s.length : Int)) = true by simp; omega, decide_eq_false h2]; rfl
  · rw [show decide ((s.length : Int) < 1) = true by simp; omega, decide_eq_false h1]; rfl
theorem q_Number (s : Bytes) : s_Number s = i_Number s := by
  rw [sNumber_eq]
  unfold i_Number NumOk
  by_cases h1 : 1 ≤ s.length
  · rw [show decide ((s.length : Int) < 1) = false by simp; omega, decide_eq_true h1, noLead_eq s h1]
    by_cases h2 : s.length ≤ 12
    · rw [show decide (12 < (s.length : Int)) = false by simp; omega, decide_eq_true h2]
      simp only [cond_false, Bool.true_and]
      obtain ⟨g1, g2⟩ := num_loop s h2
      rw [show forN (i_Number_L0_f s) 1 (Int.toNat ((s.length : Int) - 0)) 0 0 = forN (s_Number_L0_f s) 1 (Int.toNat ((s.length : Int) - 0)) 0 0 from forN_congr (fun _ _ => rfl) _ _ _]
      cases ha : s.all isDig with
      | false => obtain ⟨w, hw⟩ := g2 ha; rw [hw]; cases decide (1 < (s.length : Int)) <;> cases (byteAt s 0 == 48) <;> rfl
      | true => rw [g1 ha]; cases decide (1 < (s.length : Int)) <;> cases (byteAt s 0 == 48) <;> rfl
    · rw [show decide (12 < (s.length : Int)) = true by simp; omega, decide_eq_false h2]; rfl
  · rw [show decide ((s.length : Int) < 1) = true by simp; omega, decide_eq_false h1]; rfl

/-! a text, cut at a byte -/
def cut (b : UInt8) : Bytes → Bytes → List Bytes
  | [], cur => [cur]
  | c :: r, cur => bif c == b then cur :: cut b r [] else cut b r (cur ++ [c])
def joinI (b : UInt8) : List Bytes → Bytes
  | [] => []
  | [p] => p
  | p :: q :: r => p ++ b :: joinI b (q :: r)
theorem cut_ne (b : UInt8) : ∀ (s cur : Bytes), cut b s cur ≠ []
  | [], cur => by simp [cut]
  | c :: r, cur => by
    simp only [cut]
    cases c == b with
    | true => simp
    | false => exact cut_ne b r _
theorem joinI_cons (b : UInt8) (p : Bytes) (l : List Bytes) (h : l ≠ []) : joinI b (p :: l) = p ++ b :: joinI b l := by
  cases l with
  | nil => exact absurd rfl h
  | cons q r => rfl
theorem join_cut (b : UInt8) : ∀ (s cur : Bytes), joinI b (cut b s cur) = cur ++ s
  | [], cur => by simp [cut, joinI]
  | c :: r, cur => by
    simp only [cut]
    cases hc : c == b with
    | true =>
      simp only [cond_true]
      rw [joinI_cons b cur _ (cut_ne b r []), join_cut b r [], eq_of_beq hc, List.nil_append]
    | false => simp only [cond_false]; rw [join_cut b r _, List.append_assoc]; rfl
theorem cut_no (b : UInt8) : ∀ (s cur : Bytes), (∀ c ∈ s, c ≠ b) → cut b s cur = [cur ++ s]
  | [], cur, _ => by simp [cut]
  | c :: r, cur, h => by
    have : (c == b) = false := by simpa using h c (by simp)
    simp only [cut, this, cond_false]
    rw [cut_no b r _ fun x hx => h x (by simp [hx]), List.append_assoc]; rfl
theorem cut_at (b : UInt8) : ∀ (p cur r : Bytes), (∀ c ∈ p, c ≠ b) → cut b (p ++ b :: r) cur = (cur ++ p) :: cut b r []
  | [], cur, r, _ => by simp [cut]
  | c :: p, cur, r, h => by
    have : (c == b) = false := by simpa using h c (by simp)
    simp only [List.cons_append, cut, this, cond_false]
    rw [cut_at b p _ r fun x hx => h x (by simp [hx]), List.append_assoc]; rfl
theorem cut_join (b : UInt8) : ∀ (l : List Bytes), l ≠ [] → (∀ p ∈ l, ∀ c ∈ p, c ≠ b) → cut b (joinI b l) [] = l
  | [], h, _ => absurd rfl h
  | [p], _, h => by rw [joinI, cut_no b p [] (h p (by simp)), List.nil_append]
  | p :: q :: r, _, h => by
    rw [joinI_cons b p _ (by simp), cut_at b p [] _ (h p (by simp)), List.nil_append, cut_join b (q :: r) (by simp) fun x hx => h x (by simp [hx])]
theorem parts_listN {b : UInt8} {s : Bytes} {F : Nat → UInt8 → Int × List Bytes → Stp (Int × List Bytes) Empty} (hs : s.length ≤ 4294967296) (hF : ∀ (j : Nat) c a, F j c a = bif ((c.toNat : Int) == (b.toNat : Int)) then .next ((IntKind.wrap .i64 ((j : Int) + 1)), (a.2 ++ [((s.take j).drop a.1.toNat)])) else .next (a.1, a.2)) :
    ∀ (r : Bytes) (j : Nat) (from_ : Nat) (out : List Bytes), s.drop j = r → j + r.length = s.length → from_ ≤ j → ∃ (f' : Nat) (out' : List Bytes), listN F j r ((from_ : Int), out) = .next ((f' : Int), out') ∧ f' ≤ s.length ∧ out' ++ [s.drop f'] = out ++ cut b r ((s.take j).drop from_)
  | [], j, from_, out, h, hl, hf => by
    refine ⟨from_, out, rfl, by simp at hl; omega, ?_⟩
    simp only [cut]
    rw [List.take_of_length_le (by simp at hl; omega)]
  | c :: r, j, from_, out, h, hl, hf => by
    have hj : j < s.length := by simp at hl; omega
    have hd : s.drop (j + 1) = r := by
      have := congrArg List.tail h
      simpa using this
    have hc : s.take (j + 1) = s.take j ++ [c] := by
      rw [List.take_succ_eq_append_getElem hj]
      congr 2
      have h2 : (s.drop j)[0]? = some c := by rw [h]; rfl
      rw [List.getElem?_drop, Nat.add_zero, List.getElem?_eq_getElem hj] at h2
      exact Option.some.inj h2
    simp only [listN, hF, cut]
    have he : ((c.toNat : Int) == (b.toNat : Int)) = (c == b) := by
      rw [Bool.eq_iff_iff]
      simp only [beq_iff_eq]
      constructor
      · intro h; exact UInt8.toNat_inj.1 (by omega)
      · rintro rfl; rfl
    rw [he]
    cases c == b with
    | true =>
      simp only [cond_true, Stp.elim]
      rw [wrap64 (by omega) (by omega), show ((j : Int) + 1) = ((j + 1 : Nat) : Int) by omega, toNat_cast]
      obtain ⟨f', o', h1, h2, h3⟩ := parts_listN hs hF r (j + 1) (j + 1) (out ++ [(s.take j).drop from_]) hd (by simp at hl; omega) (Nat.le_refl _)
      refine ⟨f', o', h1, h2, ?_⟩
      rw [h3, show (s.take (j + 1)).drop (j + 1) = [] from List.drop_of_length_le (by rw [List.length_take]; omega), List.append_assoc]
      rfl
    | false =>
      simp only [cond_false, Stp.elim]
      obtain ⟨f', o', h1, h2, h3⟩ := parts_listN hs hF r (j + 1) from_ out hd (by simp at hl; omega) (by omega)
      refine ⟨f', o', h1, h2, ?_⟩
      rw [h3, hc, List.drop_append_of_le_length (by rw [List.length_take]; omega)]
theorem iParts_eq (s : Bytes) (b : UInt8) (hs : s.length ≤ 4294967296) : i_Parts s (b.toNat : Int) = cut b s [] := by
  unfold i_Parts
  rw [toNat_sub0, forN_list s _ rfl (F := fun (j : Nat) (c : UInt8) a => bif ((c.toNat : Int) == (b.toNat : Int)) then .next ((IntKind.wrap .i64 ((j : Int) + 1)), (a.2 ++ [((s.take j).drop a.1.toNat)])) else .next (a.1, a.2)) (by
    intro j c a hj
    simp only [i_Parts_L0_f, toNat_cast, byteAt, getD_some hj])]
  obtain ⟨f', o', h1, h2, h3⟩ := parts_listN (b := b) (s := s) hs (fun _ _ _ => rfl) s 0 0 [] rfl (by simp) (Nat.le_refl _)
  rw [show ((0 : Nat) : Int) = 0 from rfl] at h1
  rw [h1]
  simp only [Stp.elim, toNat_cast, List.take_length, h3]
  simp
theorem forN_add {A W : Type} {f : Int → A → Stp A W} : ∀ (m n : Nat) (i : Int) (a : A), forN f 1 (m + n) i a = Stp.elim (fun a' => forN f 1 n (i + m) a') (fun w => .out w) (forN f 1 m i a)
  | 0, n, i, a => by simp [forN, Stp.elim]
  | m + 1, n, i, a => by
    rw [show m + 1 + n = (m + n) + 1 by omega]
    simp only [forN]
    cases hf : f i a with
    | out w => rfl
    | next a' =>
      simp only [Stp.elim]
      rw [forN_add m n (i + 1) a', show i + 1 + (m : Int) = i + ((m + 1 : Nat) : Int) by omega]
      cases forN f 1 m (i + 1) a' <;> rfl
theorem sParts_eq (s : Bytes) (b : UInt8) (hs : s.length ≤ 4294967296) : s_Parts s (b.toNat : Int) = cut b s [] := by
  unfold s_Parts
  rw [show Int.toNat ((s.length : Int) - 0 + 1) = s.length + 1 by omega, forN_add]
  rw [forN_list s _ rfl (F := fun (j : Nat) (c : UInt8) a => bif ((c.toNat : Int) == (b.toNat : Int)) then .next ((IntKind.wrap .i64 ((j : Int) + 1)), (a.2 ++ [((s.take j).drop a.1.toNat)])) else .next (a.1, a.2)) (by
    intro j c a hj
    have hl : j < s.length := (List.getElem?_eq_some_iff.1 hj).1
    simp only [s_Parts_L0_f, toNat_cast, byteAt, getD_some hj]
    rw [show ((j : Int) == (s.length : Int)) = false by simp; omega]
    rfl)]
  obtain ⟨f', o', h1, h2, h3⟩ := parts_listN (b := b) (s := s) hs (fun _ _ _ => rfl) s 0 0 [] rfl (by simp) (Nat.le_refl _)
  rw [show ((0 : Nat) : Int) = 0 from rfl] at h1
  rw [h1]
  simp only [Stp.elim, forN, Int.zero_add]
  have e : s_Parts_L0_f s (b.toNat : Int) (s.length : Int) ((f' : Int), o') = .next ((IntKind.wrap .i64 ((s.length : Int) + 1)), o' ++ [s.drop f']) := by
    unfold s_Parts_L0_f
    rw [show ((s.length : Int) == (s.length : Int)) = true by simp, cond_true]
    simp only [toNat_cast, List.take_length]
  rw [e]
  simp only [Stp.elim, h3]
  simp
theorem q_Parts (s : Bytes) (b : UInt8) (hs : s.length ≤ 4294967296) : s_Parts s (b.toNat : Int) = i_Parts s (b.toNat : Int) := by rw [sParts_eq s b hs, iParts_eq s b hs]
theorem cut_len (b : UInt8) : ∀ (s cur : Bytes), ∀ p ∈ cut b s cur, p.length ≤ cur.length + s.length
  | [], cur, p, h => by simp [cut] at h; subst h; simp
  | c :: r, cur, p, h => by
    simp only [cut] at h
    cases hc : c == b with
    | true =>
      rw [hc] at h
      rcases List.mem_cons.1 h with rfl | h
      · simp
      · have := cut_len b r [] p h; simp at this ⊢; omega
    | false =>
      rw [hc] at h
      have := cut_len b r _ p h
      simp at this ⊢; omega

/-- laws.FnExactTupleText -/
def w_FnExactTupleText_N (x0 : Tupl) (γ : Type) (fail : γ) (k : Bool → γ) : γ :=
  letK (α := Tupl) (w_toTuple x0) fun c1 =>
  letK (α := Bytes) (s_TupleText c1) fun c2 =>
  letK (α := Tupl) (w_toTuple x0) fun c3 =>
  letK (α := Bytes) (i_TupleText c3) fun c4 =>
  bif (!(c4 == c2)) then
    k false
  else
  k true
def w_FnExactTupleText (x0 : Tupl) : Bool :=
  letK (α := Tupl) (w_toTuple x0) fun c1 =>
  letK (α := Bytes) (s_TupleText c1) fun c2 =>
  letK (α := Tupl) (w_toTuple x0) fun c3 =>
  letK (α := Bytes) (i_TupleText c3) fun c4 =>
  bif (!(c4 == c2)) then
    false
  else
  true
theorem w_FnExactTupleText_lk (x0 : Tupl) : evalFn te (orcOf (P := Tryd.prog) [w_toTuple_e, s_TupleText_e, i_TupleText_e]) lorc0 [] Tryd.f3 (pvs [.st .tupl] (x0, ())) =
  w_FnExactTupleText_N x0 _ none (fun v => some [(false, [RC.c (.bool v)])]) := by kernel_rfl
theorem w_FnExactTupleText_p (x0 : Tupl)   (γ : Type) (fail : γ) (k : Bool → γ) : w_FnExactTupleText_N x0 γ fail k = k (w_FnExactTupleText x0) := by
  unfold w_FnExactTupleText_N w_FnExactTupleText
  exact letT (f := k) (fun c1 hc1 => have kc1 := toTuple_eq x0; letT (f := k) (fun c2 hc2 => letT (f := k) (fun c3 hc3 => have kc3 := toTuple_eq x0; letT (f := k) (fun c4 hc4 => bifT (f := k) (fun b0 => rfl)
      (fun b0 => rfl)))))
theorem w_FnExactTupleText_c (x0 : Tupl)  : Con Tryd.prog 3 (pvs [.st .tupl] (x0, ())) [rv (.sc .bool) [] (w_FnExactTupleText x0)] := by
  exact evalFn_con0 teFact mixFact (orcOf_ok _) Tryd.func3 (by kernel_rfl) ((w_FnExactTupleText_lk x0).trans (w_FnExactTupleText_p x0  _ _ _))
noncomputable def w_FnExactTupleText_e : Ent1 Tryd.prog := entA 3 [.st .tupl] (fun x => (w_FnExactTupleText x.1)) (fun v => [rv (.sc .bool) [] v]) (fun x => w_FnExactTupleText_c x.1)


theorem toBytes_toInts (s : Bytes) : toBytes (toInts s) = s := by
  simp only [toBytes, toInts, List.map_map]
  conv => rhs; rw [← List.map_id s]
  refine List.map_congr_left fun c _ => ?_
  simp
theorem toBytes_append (a b : List Int) : toBytes (a ++ b) = toBytes a ++ toBytes b := by simp [toBytes]
theorem Joined4 (a b c d sep : Bytes) : s_Joined [a, b, c, d] sep = a ++ sep ++ b ++ sep ++ c ++ sep ++ d := by
  unfold s_Joined
  simp only [List.length_cons, List.length_nil, show Int.toNat (((0 + 1 + 1 + 1 + 1 : Nat) : Int) - 0) = 4 from rfl, forN, s_Joined_L0_f, Stp.elim,
    show decide ((0 : Int) < 0) = false from rfl, show (0 : Int) + 1 = 1 from rfl, show (1 : Int) + 1 = 2 from rfl, show (2 : Int) + 1 = 3 from rfl,
    show decide ((0 : Int) < 1) = true from rfl, show decide ((0 : Int) < 2) = true from rfl, show decide ((0 : Int) < 3) = true from rfl, cond_true, cond_false,
    show Int.toNat 0 = 0 from rfl, show Int.toNat 1 = 1 from rfl, show Int.toNat 2 = 2 from rfl, show Int.toNat 3 = 3 from rfl, List.getD_cons_zero, List.getD_cons_succ, List.nil_append, toBytes_append, toBytes_toInts]
theorem PutWord4 (n : Nat) (h : n ≤ 4294967295) : s_PutWord (n : Int) 4 = [UInt8.ofNat (n / 16777216), UInt8.ofNat (n / 65536 % 256), UInt8.ofNat (n / 256 % 256), UInt8.ofNat (n % 256)] := by
  have hw : s_WordOk (n : Int) 32 = true := by
    rw [q_WordOk, i_WordOk_eq, i_within_eq, i_within_eq]
    simp only [show (decide ((1 : Int) ≤ 32) && decide ((32 : Int) ≤ 62)) = true from rfl, cond_true, Bool.and_eq_true, decide_eq_true_eq]
    rw [show IntKind.wrap .i64 ((IntKind.wrap .i64 (1 * 2 ^ (min (32 : Int).toNat 64))) - 1) = 4294967295 from by decide +kernel]
    omega
  unfold s_PutWord
  rw [s_l1In_eq]
  simp only [letK_eq, show (decide ((1 : Int) ≤ 4) && decide ((4 : Int) ≤ 6)) = true from rfl, show IntKind.wrap .i64 (8 * 4) = 32 from by decide +kernel, hw, Bool.not_true, cond_false, show IntKind.wrap .i64 (4 - 1) = 3 from by decide +kernel, show Int.toNat (3 - 0 + 1) = 4 from rfl,
    forN, s_PutWord_L0_f, Stp.elim, show (3 : Int) + -1 = 2 from rfl, show (2 : Int) + -1 = 1 from rfl, show (1 : Int) + -1 = 0 from rfl, show Int.toNat 0 = 0 from rfl, show Int.toNat 1 = 1 from rfl, show Int.toNat 2 = 2 from rfl, show Int.toNat 3 = 3 from rfl, show Int.toNat 4 = 4 from rfl]
  have e1 : IntKind.wrap .i64 ((n : Int).tdiv 256) = ((n / 256 : Nat) : Int) := by rw [(tdiv_pos 256).1 (by omega), wrap64 (by omega) (by omega)]; omega
  have e2 : IntKind.wrap .i64 (((n / 256 : Nat) : Int).tdiv 256) = ((n / 65536 : Nat) : Int) := by rw [(tdiv_pos 256).1 (by omega), wrap64 (by omega) (by omega)]; omega
  have e3 : IntKind.wrap .i64 (((n / 65536 : Nat) : Int).tdiv 256) = ((n / 16777216 : Nat) : Int) := by rw [(tdiv_pos 256).1 (by omega), wrap64 (by omega) (by omega)]; omega
  rw [e1, e2, e3]
  have g : ∀ m : Nat, IntKind.wrap .u8 ((m : Int).tmod 256) = ((m % 256 : Nat) : Int) := fun m => by rw [(tmod_pos 256).1 (by omega), wrap8_def]; omega
  rw [g, g, g, g]
  simp only [List.replicate, List.set, toBytes, List.map_cons, List.map_nil, Int.toNat_natCast]
  rw [show n / 16777216 % 256 = n / 16777216 by omega]
def atext (n : Nat) : Bytes := digs (n / 16777216) ++ 46 :: (digs (n / 65536 % 256) ++ 46 :: (digs (n / 256 % 256) ++ 46 :: digs (n % 256)))
theorem at_step (s : Bytes) (j : Nat) (a : List Bytes) : s_AddressText_L0_f s (j : Int) a = .next (a ++ [digs (s.getD j 0).toNat]) := by
  unfold s_AddressText_L0_f
  rw [letK_eq, toNat_cast]
  unfold byteAt
  have := (s.getD j 0).toNat_lt
  rw [wrap64 (by omega) (by omega), Digits_eq _ (by omega)]
theorem at_loop (s : Bytes) : forN (s_AddressText_L0_f s) 1 (Int.toNat ((s.length : Int) - 0)) 0 [] = .next (s.map fun x => digs x.toNat) := by
  rw [toNat_sub0, forN_list s _ rfl (F := fun _ (x : UInt8) a => .next (a ++ [digs x.toNat])) (fun j x a h => by rw [at_step, getD_some h])]
  have : ∀ (r : Bytes) (j : Nat) (a : List Bytes), listN (W := Empty) (fun _ (x : UInt8) a => .next (a ++ [digs x.toNat])) j r a = .next (a ++ r.map fun x => digs x.toNat) := by
    intro r
    induction r with
    | nil => intro j a; simp [listN]
    | cons x r ih => intro j a; simp only [listN, Stp.elim, ih, List.map_cons, List.append_assoc, List.cons_append, List.nil_append]
  rw [this, List.nil_append]
theorem u8_small {m : Nat} (h : m < 256) : (UInt8.ofNat m).toNat = m := by simp only [UInt8.toNat_ofNat']; omega
theorem AddressText_eq (n : Nat) (h : n ≤ 4294967295) : s_AddressText (n : Int) = atext n := by
  unfold s_AddressText
  rw [letK_eq, PutWord4 n h]
  have h1 : n / 16777216 < 256 := by omega
  have h2 : n / 65536 % 256 < 256 := by omega
  have h3 : n / 256 % 256 < 256 := by omega
  have h4 : n % 256 < 256 := by omega
  unfold atext
  generalize n / 16777216 = a at *
  generalize n / 65536 % 256 = b at *
  generalize n / 256 % 256 = c at *
  generalize n % 256 = d at *
  rw [at_loop]
  simp only [List.map_cons, List.map_nil, Stp.elim, letK_eq, Joined4, u8_small h1, u8_small h2, u8_small h3, u8_small h4, List.append_assoc, List.cons_append, List.nil_append]
theorem AddressText_no (n : Int) (h : ¬ (0 ≤ n ∧ n ≤ 4294967295)) : s_AddressText n = [] := by
  have hw : s_PutWord n 4 = [] := by
    unfold s_PutWord
    rw [s_l1In_eq, q_WordOk, i_WordOk_eq, i_within_eq, i_within_eq]
    simp only [letK_eq, show (decide ((1 : Int) ≤ 4) && decide ((4 : Int) ≤ 6)) = true from rfl, show IntKind.wrap .i64 (8 * 4) = 32 from by decide +kernel, show (decide ((1 : Int) ≤ 32) && decide ((32 : Int) ≤ 62)) = true from rfl, cond_true, Bool.not_true, cond_false,
      show IntKind.wrap .i64 ((IntKind.wrap .i64 (1 * 2 ^ (min (32 : Int).toNat 64))) - 1) = 4294967295 from by decide +kernel]
    rw [show (decide (0 ≤ n) && decide (n ≤ 4294967295)) = false by simp only [Bool.and_eq_false_iff, decide_eq_false_iff_not]; omega]
    rfl
  unfold s_AddressText
  simp only [letK_eq, hw]
  rfl

def goodW (w : Bytes) : Bool := NumOk w && decide (val w 0 ≤ 255)
theorem wraps_i64 (n : Int) (h0 : 0 ≤ n) (h1 : n < 2 ^ 63) : IntKind.i64.wrap n = n := wrap64 (by omega) (by omega)
theorem or8i (a b : Int) (ha : 0 ≤ a) (ha1 : a < 16777216) (hb : 0 ≤ b) (hb1 : b < 256) : bits .or .i64 (IntKind.wrap .i64 (a * 256)) b = a * 256 + b := by
  rw [wrap64 (by omega) (by omega)]
  exact bits_join .i64 63 (by decide) wraps_i64 8 _ _ (by omega) (by omega) (by omega) (by omega) (by omega) (by omega)
theorem iAddr_step (ws : List Bytes) (j : Nat) (w : Bytes) (hj : ws[j]? = some w) (a : Int) : i_Address_L0_f (ws.length : Int) ws (j : Int) a = bif goodW w && decide (ws.length = 4) then .next (bits .or .i64 (IntKind.wrap .i64 (a * 256)) ((val w 0 : Nat) : Int)) else .out a := by
  unfold i_Address_L0_f goodW
  simp only [letK_eq, toNat_cast, getD_some hj, ← q_Number, sNumber_eq]
  cases hn : NumOk w with
  | false => rfl
  | true =>
    simp only [cond_true, Bool.not_true, cond_false, Bool.true_and]
    by_cases h1 : val w 0 ≤ 255
    · rw [show decide (255 < ((val w 0 : Nat) : Int)) = false by simp; omega, decide_eq_true h1]
      by_cases h2 : ws.length = 4
      · rw [show ((ws.length : Int) != 4) = false by simp; omega, decide_eq_true h2]; rfl
      · rw [show ((ws.length : Int) != 4) = true by simp; omega, decide_eq_false h2]; rfl
    · rw [show decide (255 < ((val w 0 : Nat) : Int)) = true by simp; omega, decide_eq_false h1]; rfl
theorem addr_bad {F : Nat → Bytes → Int → Stp Int Int} {p : Bytes → Bool} (hF : ∀ j w a, p w = false → F j w a = .out a) (hN : ∀ j w a, p w = true → ∃ a', F j w a = .next a') : ∀ (ws : List Bytes) (j : Nat) (a : Int), ws.all p = false → ∃ w, listN F j ws a = .out w
  | [], _, _, h => by cases h
  | x :: r, j, a, h => by
    cases hx : p x with
    | false => exact ⟨a, by simp only [listN, hF j x a hx, Stp.elim]⟩
    | true =>
      obtain ⟨a', ha⟩ := hN j x a hx
      obtain ⟨w, hw⟩ := addr_bad hF hN r (j + 1) a' (by simpa [hx] using h)
      exact ⟨w, by simp only [listN, ha, Stp.elim, hw]⟩
def num4 (a b c d : Nat) : Nat := ((a * 256 + b) * 256 + c) * 256 + d
theorem iAddress_eq (s : Bytes) (hs : s.length ≤ 4294967296) : (∃ a b c d, cut 46 s [] = [a, b, c, d] ∧ goodW a = true ∧ goodW b = true ∧ goodW c = true ∧ goodW d = true ∧ i_Address s = (((num4 (val a 0) (val b 0) (val c 0) (val d 0) : Nat) : Int), true)) ∨ (¬ ((cut 46 s []).length = 4 ∧ (cut 46 s []).all goodW = true) ∧ i_Address s = (0, false)) := by
  have hp := iParts_eq s 46 hs
  rw [show (((46 : UInt8).toNat : Nat) : Int) = 46 from rfl] at hp
  unfold i_Address
  rw [letK_eq, hp]
  generalize hw : cut 46 s [] = ws
  have hne : ws ≠ [] := by rw [← hw]; exact cut_ne _ _ _
  rw [toNat_sub0, forN_list ws _ rfl (F := fun _ w a => bif goodW w && decide (ws.length = 4) then .next (bits .or .i64 (IntKind.wrap .i64 (a * 256)) ((val w 0 : Nat) : Int)) else .out a) (fun j w a h => iAddr_step ws j w h a)]
  by_cases hg : ws.length = 4 ∧ ws.all goodW = true
  · refine .inl ?_
    match ws, hg with
    | [a, b, c, d], ⟨_, hg⟩ =>
      simp only [List.all_cons, List.all_nil, Bool.and_true, Bool.and_eq_true] at hg
      obtain ⟨ga, gb, gc, gd⟩ := hg
      refine ⟨a, b, c, d, rfl, ga, gb, gc, gd, ?_⟩
      have e : ∀ w, goodW w = true → val w 0 ≤ 255 := fun w h => by simp only [goodW, Bool.and_eq_true, decide_eq_true_eq] at h; exact h.2
      have ea := e a ga
      have eb := e b gb
      have ec := e c gc
      have ed := e d gd
      simp only [listN, ga, gb, gc, gd, List.length_cons, List.length_nil, decide_true, Bool.and_self, cond_true, Stp.elim]
      generalize val a 0 = a at *
      generalize val b 0 = b at *
      generalize val c 0 = c at *
      generalize val d 0 = d at *
      rw [or8i 0 a (by omega) (by omega) (by omega) (by omega), or8i _ b (by omega) (by omega) (by omega) (by omega), or8i _ c (by omega) (by omega) (by omega) (by omega), or8i _ d (by omega) (by omega) (by omega) (by omega)]
      unfold num4
      congr 1
      omega
  · refine .inr ⟨hg, ?_⟩
    by_cases h4 : ws.length = 4
    · obtain ⟨w, hw⟩ := addr_bad (F := fun _ w a => bif goodW w && decide (ws.length = 4) then .next (bits .or .i64 (IntKind.wrap .i64 (a * 256)) ((val w 0 : Nat) : Int)) else .out a) (p := goodW) (fun j w a h => by simp [h]) (fun j w a h => ⟨bits .or .i64 (IntKind.wrap .i64 (a * 256)) ((val w 0 : Nat) : Int), by simp only [h, decide_eq_true h4, Bool.and_self, cond_true]⟩) ws 0 0 (by
        cases ha : ws.all goodW with
        | false => rfl
        | true => exact absurd ⟨h4, ha⟩ hg)
      rw [hw]; rfl
    · obtain ⟨w, hw⟩ := addr_bad (F := fun _ w a => bif goodW w && decide (ws.length = 4) then .next (bits .or .i64 (IntKind.wrap .i64 (a * 256)) ((val w 0 : Nat) : Int)) else .out a) (p := fun _ => false) (fun j w a h => by simp [h4]) (fun j w a h => by cases h) ws 0 0 (by
        cases ws with
        | nil => exact absurd rfl hne
        | cons _ _ => rfl)
      rw [hw]; rfl
theorem NumOk_digs {w : Bytes} (h : NumOk w = true) : digs (val w 0) = w := by
  simp only [NumOk, Bool.and_eq_true, decide_eq_true_eq] at h
  exact digs_val w (by simpa using h.1.2) h.2
theorem digs_len : ∀ (k n : Nat), n < 10 ^ (k + 1) → (digs n).length ≤ k + 1
  | 0, n, h => by rw [digs_lt (by simpa using h)]; simp
  | k + 1, n, h => by
    by_cases hn : n < 10
    · rw [digs_lt hn]; simp
    · rw [digs_ge hn, List.length_append, List.length_singleton]
      have := digs_len k (n / 10) (by rw [Nat.pow_succ] at h; omega)
      omega
theorem NumOk_of {n : Nat} (h : n < 1000000000000) : NumOk (digs n) = true := by
  have h1 := digs_len 11 n (by simpa using h)
  have h2 : 1 ≤ (digs n).length := by
    cases hd : digs n with
    | nil => exact absurd hd (digs_ne n)
    | cons _ _ => simp
  simp only [NumOk, Bool.and_eq_true, decide_eq_true_eq]
  exact ⟨⟨⟨h2, by omega⟩, by simpa using digs_dig n⟩, noLead_digs n⟩
theorem goodW_digs {n : Nat} (h : n ≤ 255) : goodW (digs n) = true := by
  simp only [goodW, Bool.and_eq_true, decide_eq_true_eq, val_digs]
  exact ⟨NumOk_of (by omega), h⟩
theorem dig_ne {b : UInt8} (hb : isDig b = false) (n : Nat) : ∀ c ∈ digs n, c ≠ b := by
  intro c hc he
  subst he
  rw [digs_dig n c hc] at hb
  cases hb
theorem cut_atext (n : Nat) : cut 46 (atext n) [] = [digs (n / 16777216), digs (n / 65536 % 256), digs (n / 256 % 256), digs (n % 256)] := by
  have h : isDig 46 = false := by decide
  unfold atext
  rw [cut_at 46 _ [] _ (dig_ne h _), cut_at 46 _ [] _ (dig_ne h _), cut_at 46 _ [] _ (dig_ne h _), cut_no 46 _ [] (dig_ne h _)]
  rfl
theorem atext_good (n : Nat) (h : n ≤ 4294967295) : (cut 46 (atext n) []).length = 4 ∧ (cut 46 (atext n) []).all goodW = true := by
  rw [cut_atext]
  refine ⟨rfl, ?_⟩
  simp only [List.all_cons, List.all_nil, Bool.and_true, Bool.and_eq_true]
  exact ⟨goodW_digs (by omega), goodW_digs (by omega), goodW_digs (by omega), goodW_digs (by omega)⟩
theorem atext_ne (n : Nat) : atext n ≠ [] := by
  unfold atext
  intro h
  simp at h
theorem q_Address (s : Bytes) (hs : s.length ≤ 4294967296) : s_Address s = i_Address s := by
  have hp := sParts_eq s 46 hs
  rw [show (((46 : UInt8).toNat : Nat) : Int) = 46 from rfl] at hp
  have hout : ∀ n : Int, (bif (s == ([] : Bytes)) then ((0 : Int), false) else (bif (!(s_AddressText n == s)) then (0, false) else (n, true))) = (0, false) ∨ (∃ m : Nat, m ≤ 4294967295 ∧ n = m ∧ atext m = s) := fun n => by
    by_cases hn : 0 ≤ n ∧ n ≤ 4294967295
    · obtain ⟨m, rfl⟩ := Int.eq_ofNat_of_zero_le hn.1
      by_cases he : atext m = s
      · exact .inr ⟨m, by omega, rfl, he⟩
      · refine .inl ?_
        rw [AddressText_eq m (by omega), show (atext m == s) = false by simpa using he]
        cases s == ([] : Bytes) <;> rfl
    · refine .inl ?_
      rw [AddressText_no n hn]
      cases hs : s == ([] : Bytes) with
      | true => rfl
      | false =>
        have : (([] : Bytes) == s) = false := by
          rw [beq_eq_false_iff_ne] at hs ⊢
          exact fun h => hs h.symm
        rw [this]; rfl
  rcases iAddress_eq s hs with ⟨a, b, c, d, hc, ga, gb, gc, gd, hi⟩ | ⟨hb, hi⟩
  · rw [hi]
    unfold s_Address
    rw [letK_eq, hp, hc]
    have e : ∀ w, goodW w = true → val w 0 ≤ 255 ∧ NumOk w = true := fun w h => by simp only [goodW, Bool.and_eq_true, decide_eq_true_eq] at h; exact ⟨h.2, h.1⟩
    have na := (e a ga).2
    have nb := (e b gb).2
    have nc := (e c gc).2
    have nd := (e d gd).2
    have ea := (e a ga).1
    have eb := (e b gb).1
    have ec := (e c gc).1
    have ed := (e d gd).1
    have st : ∀ (j : Nat) (w : Bytes) (x : Nat), j < 4 → [a, b, c, d][j]? = some w → NumOk w = true → val w 0 ≤ 255 → x < 16777216 → s_Address_L0_f s [a, b, c, d] (j : Int) (x : Int) = .next (((x * 256 + val w 0 : Nat)) : Int) := fun j w x hj hw hn hv hx => by
      unfold s_Address_L0_f
      rw [show decide ((j : Int) < 4) = true by simp; omega, cond_true, letK_eq, toNat_cast, getD_some hw, sNumber_eq, hn, cond_true]
      simp only []
      rw [(tmod_pos 256).1 (by omega), wrap64 (m := 256 * _) (by omega) (by omega), wrap64 (by omega) (by omega)]
      congr 1
      omega
    have lp : forN (s_Address_L0_f s [a, b, c, d]) 1 (Int.toNat ((([a, b, c, d] : List Bytes).length : Int) - 0)) 0 0 = .next ((num4 (val a 0) (val b 0) (val c 0) (val d 0) : Nat) : Int) := by
      have s0 := st 0 a 0 (by omega) rfl na ea (by omega)
      have s1 := st 1 b (0 * 256 + val a 0) (by omega) rfl nb eb (by omega)
      have s2 := st 2 c ((0 * 256 + val a 0) * 256 + val b 0) (by omega) rfl nc ec (by omega)
      have s3 := st 3 d (((0 * 256 + val a 0) * 256 + val b 0) * 256 + val c 0) (by omega) rfl nd ed (by omega)
      rw [toNat_sub0]
      rw [show ([a, b, c, d] : List Bytes).length = 4 from rfl]
      simp only [forN]
      rw [show (0 : Int) = ((0 : Nat) : Int) from rfl, s0]
      simp only [Stp.elim]
      rw [show ((0 : Nat) : Int) + 1 = ((1 : Nat) : Int) from rfl, s1]
      simp only [Stp.elim]
      rw [show ((1 : Nat) : Int) + 1 = ((2 : Nat) : Int) from rfl, s2]
      simp only [Stp.elim]
      rw [show ((2 : Nat) : Int) + 1 = ((3 : Nat) : Int) from rfl, s3]
      simp only [Stp.elim]
      unfold num4
      rw [Nat.zero_mul, Nat.zero_add]
    rw [lp]
    have hj := join_cut 46 s []
    rw [hc, List.nil_append] at hj
    have ht : atext (num4 (val a 0) (val b 0) (val c 0) (val d 0)) = s := by
      rw [← hj]
      have n1 : num4 (val a 0) (val b 0) (val c 0) (val d 0) / 16777216 = val a 0 := by unfold num4; omega
      have n2 : num4 (val a 0) (val b 0) (val c 0) (val d 0) / 65536 % 256 = val b 0 := by unfold num4; omega
      have n3 : num4 (val a 0) (val b 0) (val c 0) (val d 0) / 256 % 256 = val c 0 := by unfold num4; omega
      have n4 : num4 (val a 0) (val b 0) (val c 0) (val d 0) % 256 = val d 0 := by unfold num4; omega
      unfold atext
      rw [n1, n2, n3, n4, NumOk_digs na, NumOk_digs nb, NumOk_digs nc, NumOk_digs nd]
      rfl
    simp only [Stp.elim, letK_eq]
    rw [AddressText_eq _ (by unfold num4; omega), ht, show (s == ([] : Bytes)) = false by rw [beq_eq_false_iff_ne, ← ht]; exact atext_ne _, beq_self_eq_true]
    rfl
  · rw [hi]
    unfold s_Address
    rw [letK_eq, hp]
    have fin : ∀ n : Int, (bif (s == ([] : Bytes)) then ((0 : Int), false) else letK (α := Bytes) (s_AddressText n) fun c => bif (!(c == s)) then (0, false) else (n, true)) = (0, false) := fun n => by
      simp only [letK_eq]
      rcases hout n with h | ⟨m, hm, rfl, he⟩
      · exact h
      · exfalso
        have := atext_good m hm
        rw [he] at this
        exact hb this
    cases forN (s_Address_L0_f s (cut 46 s [])) 1 (Int.toNat (((cut 46 s []).length : Int) - 0)) 0 0 with
    | next a => exact fin a
    | out a => exact fin a

theorem WordOk16 (n : Int) : i_WordOk n 16 = (decide (0 ≤ n) && decide (n ≤ 65535)) := by
  rw [i_WordOk_eq, i_within_eq, i_within_eq]
  rfl
theorem WordOk32b (n : Int) : i_WordOk n 32 = (decide (0 ≤ n) && decide (n ≤ 4294967295)) := by
  rw [i_WordOk_eq, i_within_eq, i_within_eq]
  rfl
theorem TupleOk_eq (t : Tupl) : i_TupleOk t = ((decide (0 ≤ t.ip) && decide (t.ip ≤ 4294967295)) && ((decide (0 ≤ t.port) && decide (t.port ≤ 65535)) && (decide (0 ≤ t.my) && decide (t.my ≤ 65535)))) := by
  unfold i_TupleOk
  simp only [letK_eq, WordOk16, WordOk32b]
  cases (decide (0 ≤ t.ip) && decide (t.ip ≤ 4294967295)) <;> cases (decide (0 ≤ t.port) && decide (t.port ≤ 65535)) <;> rfl
def ttext (a b c : Nat) : Bytes := atext a ++ 58 :: (digs b ++ 58 :: digs c)
theorem TupleText_ok (a b c : Nat) (ha : a ≤ 4294967295) (hb : b ≤ 65535) (hc : c ≤ 65535) : s_TupleText ⟨a, b, c⟩ = ttext a b c := by
  unfold s_TupleText
  rw [q_TupleOk, TupleOk_eq]
  simp only [letK_eq, decide_eq_true (show (0 : Int) ≤ a by omega), decide_eq_true (show (a : Int) ≤ 4294967295 by omega), decide_eq_true (show (0 : Int) ≤ b by omega), decide_eq_true (show (b : Int) ≤ 65535 by omega), decide_eq_true (show (0 : Int) ≤ c by omega), decide_eq_true (show (c : Int) ≤ 65535 by omega), Bool.and_self, Bool.not_true, cond_false]
  rw [AddressText_eq a ha, Digits_eq b (by omega), Digits_eq c (by omega)]
  unfold ttext
  simp only [List.append_assoc, List.cons_append, List.nil_append]
theorem TupleText_no (t : Tupl) (h : i_TupleOk t = false) : s_TupleText t = [] := by
  unfold s_TupleText
  rw [q_TupleOk]
  simp only [letK_eq, h, Bool.not_false, cond_true]
theorem atext_no58 (n : Nat) : ∀ c ∈ atext n, c ≠ 58 := by
  have h : isDig 58 = false := by decide
  unfold atext
  intro c hc
  simp only [List.mem_append, List.mem_cons] at hc
  rcases hc with hc | rfl | hc | rfl | hc | rfl | hc
  · exact dig_ne h _ c hc
  · decide
  · exact dig_ne h _ c hc
  · decide
  · exact dig_ne h _ c hc
  · decide
  · exact dig_ne h _ c hc
theorem cut_ttext (a b c : Nat) : cut 58 (ttext a b c) [] = [atext a, digs b, digs c] := by
  have h : isDig 58 = false := by decide
  unfold ttext
  rw [cut_at 58 _ [] _ (atext_no58 a), cut_at 58 _ [] _ (dig_ne h _), cut_no 58 _ [] (dig_ne h _)]
  rfl
theorem digs_len12 (n : Nat) (h : n ≤ 255) : (digs n).length ≤ 3 := digs_len 2 n (by omega)
theorem atext_len (n : Nat) (h : n ≤ 4294967295) : (atext n).length ≤ 15 := by
  unfold atext
  have h1 := digs_len12 (n / 16777216) (by omega)
  have h2 := digs_len12 (n / 65536 % 256) (by omega)
  have h3 := digs_len12 (n / 256 % 256) (by omega)
  have h4 := digs_len12 (n % 256) (by omega)
  simp only [List.length_append, List.length_cons]
  omega
/-- what reading an address says -/
theorem Address_say (p : Bytes) (hp : p.length ≤ 4294967296) : (∃ n : Nat, n ≤ 4294967295 ∧ i_Address p = ((n : Int), true) ∧ atext n = p) ∨ (i_Address p = (0, false) ∧ ∀ n, n ≤ 4294967295 → atext n ≠ p) := by
  rcases iAddress_eq p hp with ⟨a, b, c, d, hc, ga, gb, gc, gd, hi⟩ | ⟨hb, hi⟩
  · have e : ∀ w, goodW w = true → val w 0 ≤ 255 ∧ NumOk w = true := fun w h => by simp only [goodW, Bool.and_eq_true, decide_eq_true_eq] at h; exact ⟨h.2, h.1⟩
    have ea := (e a ga).1
    have eb := (e b gb).1
    have ec := (e c gc).1
    have ed := (e d gd).1
    refine .inl ⟨_, ?_, hi, ?_⟩
    · unfold num4; omega
    · have hj := join_cut 46 p []
      rw [hc, List.nil_append] at hj
      rw [← hj]
      have n1 : num4 (val a 0) (val b 0) (val c 0) (val d 0) / 16777216 = val a 0 := by unfold num4; omega
      have n2 : num4 (val a 0) (val b 0) (val c 0) (val d 0) / 65536 % 256 = val b 0 := by unfold num4; omega
      have n3 : num4 (val a 0) (val b 0) (val c 0) (val d 0) / 256 % 256 = val c 0 := by unfold num4; omega
      have n4 : num4 (val a 0) (val b 0) (val c 0) (val d 0) % 256 = val d 0 := by unfold num4; omega
      unfold atext
      rw [n1, n2, n3, n4, NumOk_digs (e a ga).2, NumOk_digs (e b gb).2, NumOk_digs (e c gc).2, NumOk_digs (e d gd).2]
      rfl
  · refine .inr ⟨hi, fun n hn he => hb ?_⟩
    rw [← he]
    exact atext_good n hn
theorem Number_say (p : Bytes) : (∃ n : Nat, i_Number p = ((n : Int), true) ∧ digs n = p) ∨ (i_Number p = (0, false) ∧ ∀ n, n ≤ 65535 → digs n ≠ p) := by
  rw [← q_Number, sNumber_eq]
  cases h : NumOk p with
  | true => exact .inl ⟨val p 0, rfl, NumOk_digs h⟩
  | false =>
    refine .inr ⟨rfl, fun n hn he => ?_⟩
    have := NumOk_of (n := n) (by omega)
    rw [he, h] at this
    cases this
theorem q_ReadTuple (s : Bytes) (hs : s.length ≤ 4294967296) : s_ReadTuple s = i_ReadTuple s := by
  have hp := sParts_eq s 58 hs
  have hq := iParts_eq s 58 hs
  rw [show (((58 : UInt8).toNat : Nat) : Int) = 58 from rfl] at hp hq
  have hl := cut_len 58 s []
  have hj := join_cut 58 s []
  rw [List.nil_append] at hj
  unfold s_ReadTuple i_ReadTuple
  rw [letK_eq, letK_eq, hp, hq]
  have hc := fun a b c (h : ttext a b c = s) => (congrArg (fun x => cut 58 x []) h).symm.trans (cut_ttext a b c)
  have hnil : s = [] → cut 58 s [] = [[]] := fun h => by rw [h]; rfl
  generalize cut 58 s [] = ws at *
  by_cases h3 : ws.length = 3
  · match ws, h3 with
    | [p0, p1, p2], _ =>
      simp only [show (((([p0, p1, p2] : List Bytes).length : Nat) : Int) != 3) = false from rfl, cond_false, letK_eq, List.getD_cons_zero, List.getD_cons_succ, q_Number]
      have l0 : p0.length ≤ 4294967296 := by have := hl p0 (by simp); simp at this; omega
      rw [q_Address p0 l0]
      have hss : s = p0 ++ 58 :: (p1 ++ 58 :: p2) := hj.symm
      rcases Address_say p0 l0 with ⟨a, ha, e0, t0⟩ | ⟨e0, t0⟩
      · rcases Number_say p1 with ⟨b, e1, t1⟩ | ⟨e1, t1⟩
        · rcases Number_say p2 with ⟨c, e2, t2⟩ | ⟨e2, t2⟩
          · rw [e0, e1, e2]
            simp only [Bool.not_true, cond_false]
            cases ht : i_TupleOk ⟨a, b, c⟩ with
            | false =>
              rw [TupleText_no _ ht]
              have : (([] : Bytes) == s) = false := by
                rw [beq_eq_false_iff_ne, hss]
                intro h
                simp at h
              simp only [this, Bool.not_false, cond_true]
            | true =>
              have ht' := ht
              rw [TupleOk_eq] at ht'
              simp only [Bool.and_eq_true, decide_eq_true_eq] at ht'
              rw [TupleText_ok a b c (by omega) (by omega) (by omega)]
              have : ttext a b c = s := by unfold ttext; rw [t0, t1, t2, hss]
              simp only [this, beq_self_eq_true, Bool.not_true, cond_false]
          · rw [e0, e1, e2]
            have key : (s_TupleText ⟨a, b, 0⟩ == s) = false := by
              rw [beq_eq_false_iff_ne]
              intro he
              cases ht : i_TupleOk ⟨a, b, 0⟩ with
              | false => rw [TupleText_no _ ht] at he; have := hnil he.symm; simp at this
              | true =>
                rw [TupleOk_eq] at ht
                simp only [Bool.and_eq_true, decide_eq_true_eq] at ht
                rw [show (0 : Int) = ((0 : Nat) : Int) from rfl, TupleText_ok a b 0 (by omega) (by omega) (by omega)] at he
                have := hc a b 0 he
                simp only [List.cons.injEq] at this
                exact t2 0 (by omega) this.2.2.1.symm
            simp only [key, Bool.not_true, Bool.not_false, cond_false, cond_true]
        · rw [e0, e1]
          have key : ∀ c : Int, (s_TupleText ⟨a, 0, c⟩ == s) = false := fun c => by
            rw [beq_eq_false_iff_ne]
            intro he
            cases ht : i_TupleOk ⟨a, 0, c⟩ with
            | false => rw [TupleText_no _ ht] at he; have := hnil he.symm; simp at this
            | true =>
              rw [TupleOk_eq] at ht
              simp only [Bool.and_eq_true, decide_eq_true_eq] at ht
              obtain ⟨c, rfl⟩ := Int.eq_ofNat_of_zero_le ht.2.2.1
              rw [show (0 : Int) = ((0 : Nat) : Int) from rfl, TupleText_ok a 0 c (by omega) (by omega) (by omega)] at he
              have := hc a 0 c he
              simp only [List.cons.injEq] at this
              exact t1 0 (by omega) this.2.1.symm
          simp only [key, Bool.not_true, Bool.not_false, cond_false, cond_true]
      · rw [e0]
        have key : ∀ b c : Int, (s_TupleText ⟨0, b, c⟩ == s) = false := fun b c => by
          rw [beq_eq_false_iff_ne]
          intro he
          cases ht : i_TupleOk ⟨0, b, c⟩ with
          | false => rw [TupleText_no _ ht] at he; have := hnil he.symm; simp at this
          | true =>
            rw [TupleOk_eq] at ht
            simp only [Bool.and_eq_true, decide_eq_true_eq] at ht
            obtain ⟨b, rfl⟩ := Int.eq_ofNat_of_zero_le ht.2.1.1
            obtain ⟨c, rfl⟩ := Int.eq_ofNat_of_zero_le ht.2.2.1
            rw [show (0 : Int) = ((0 : Nat) : Int) from rfl, TupleText_ok 0 b c (by omega) (by omega) (by omega)] at he
            have := hc 0 b c he
            simp only [List.cons.injEq] at this
            exact t0 0 (by omega) this.1.symm
        simp only [key, Bool.not_false, cond_true]
  · simp only [letK_eq, show ((ws.length : Int) != 3) = true by simp; omega, cond_true]

theorem decDigits_eq (n : Nat) : Lib.decDigits n = digs n := by
  induction n using Nat.strongRecOn with
  | _ n ih =>
    rw [Lib.decDigits]
    by_cases h : n < 10
    · rw [digs_lt h, dif_pos h]
    · rw [digs_ge h, dif_neg h, ih (n / 10) (by omega)]
theorem iDigits_eq (n : Nat) : i_Digits (n : Int) = digs n := by
  unfold i_Digits lb_Itoa Lib.itoa
  rw [letK_eq, if_neg (by omega), Int.toNat_natCast, decDigits_eq]
theorem iJoined_eq (l : List Bytes) (b : UInt8) : i_Joined l [b] = joinI b l := by
  unfold i_Joined lb_Join
  rw [letK_eq]
  cases l with
  | nil => rfl
  | cons x r =>
    rw [Lib.join_cons]
    induction r generalizing x with
    | nil => simp [joinI, Lib.joinTail]
    | cons y r ih =>
      rw [joinI_cons b x _ (by simp), ← ih y]
      simp [Lib.joinTail]
theorem iAddressText_eq (n : Nat) (h : n ≤ 4294967295) : i_AddressText (n : Int) = atext n := by
  unfold i_AddressText
  have m8 : ∀ m : Nat, m < 1099511627776 → bits .and .i64 (m : Int) 255 = ((m % 256 : Nat) : Int) := fun m hm => by
    have := bits_mask .i64 63 (by decide) wraps_i64 8 (by decide) (m : Int) (by omega) (by omega)
    rw [show ((255 : Int)) = 2 ^ 8 - 1 by decide, this]
    omega
  rw [WordOk32b]
  simp only [letK_eq, decide_eq_true (show (0 : Int) ≤ n by omega), decide_eq_true (show (n : Int) ≤ 4294967295 by omega), Bool.and_self, Bool.not_true, cond_false]
  rw [show (n : Int).fdiv 16777216 = ((n / 16777216 : Nat) : Int) by rw [Int.fdiv_eq_ediv_of_nonneg _ (by omega)]; omega,
    show (n : Int).fdiv 65536 = ((n / 65536 : Nat) : Int) by rw [Int.fdiv_eq_ediv_of_nonneg _ (by omega)]; omega,
    show (n : Int).fdiv 256 = ((n / 256 : Nat) : Int) by rw [Int.fdiv_eq_ediv_of_nonneg _ (by omega)]; omega,
    m8 _ (by omega), m8 _ (by omega), m8 _ (by omega), iDigits_eq, iDigits_eq, iDigits_eq, iDigits_eq, iJoined_eq]
  rfl
theorem TupleOk_nat {t : Tupl} (h : i_TupleOk t = true) : ∃ a b c : Nat, t = ⟨a, b, c⟩ ∧ a ≤ 4294967295 ∧ b ≤ 65535 ∧ c ≤ 65535 := by
  obtain ⟨a, b, c⟩ := t
  rw [TupleOk_eq] at h
  simp only [Bool.and_eq_true, decide_eq_true_eq] at h
  obtain ⟨a, rfl⟩ := Int.eq_ofNat_of_zero_le h.1.1
  obtain ⟨b, rfl⟩ := Int.eq_ofNat_of_zero_le h.2.1.1
  obtain ⟨c, rfl⟩ := Int.eq_ofNat_of_zero_le h.2.2.1
  exact ⟨a, b, c, rfl, by omega, by omega, by omega⟩
theorem iTupleText_ok (a b c : Nat) (ha : a ≤ 4294967295) (hb : b ≤ 65535) (hc : c ≤ 65535) : i_TupleText ⟨a, b, c⟩ = ttext a b c := by
  unfold i_TupleText
  rw [TupleOk_eq]
  simp only [letK_eq, decide_eq_true (show (0 : Int) ≤ a by omega), decide_eq_true (show (a : Int) ≤ 4294967295 by omega), decide_eq_true (show (0 : Int) ≤ b by omega), decide_eq_true (show (b : Int) ≤ 65535 by omega), decide_eq_true (show (0 : Int) ≤ c by omega), decide_eq_true (show (c : Int) ≤ 65535 by omega), Bool.and_self, Bool.not_true, cond_false]
  rw [iAddressText_eq a ha, iDigits_eq b, iDigits_eq c]
  unfold ttext
  simp only [List.append_assoc, List.cons_append, List.nil_append]
theorem q_TupleText (t : Tupl) : s_TupleText t = i_TupleText t := by
  cases h : i_TupleOk t with
  | true =>
    obtain ⟨a, b, c, rfl, ha, hb, hc⟩ := TupleOk_nat h
    rw [TupleText_ok a b c ha hb hc, iTupleText_ok a b c ha hb hc]
  | false =>
    rw [TupleText_no t h]
    unfold i_TupleText
    simp only [letK_eq, h, Bool.not_false, cond_true]

theorem t_FnExactTupleText (x : Tupl) : w_FnExactTupleText x = true := by
  unfold w_FnExactTupleText
  simp only [letK_eq, q_TupleText, w_toTuple, beq_self_eq_true, bne_self_eq_false, cond_false, Bool.not_true]

end Go.Proofs.YtcjbalpokdgicaaDoor
