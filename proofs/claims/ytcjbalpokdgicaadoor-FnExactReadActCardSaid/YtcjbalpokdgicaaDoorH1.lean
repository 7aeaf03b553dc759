/-
  Contracts of functions and plain laws (printed by a program): each theorem says what a function of the program returns; conditions are its hypotheses.
-/
import Derived.Test.YtcjbalpokdgicaaDoorBase
set_option maxRecDepth 4000
set_option linter.unusedVariables false
set_option linter.unusedSimpArgs false
namespace Go.Proofs.YtcjbalpokdgicaaDoor
open Go Go.RowKit

theorem con_plain {P : Program} {f : Nat} {A : List PV} {c : Cell} (he : ∀ args w, (callFunc f args).run P w = .ok (.enter f args) w)
    (h : ∀ (w : World) (J : Nat → Prop) (vs : Array Value), (∀ b, J b → b < w.heap.size) → GW w → All2 (RepPV J w) A vs.toList → Calls P f vs w fun e w' => ∃ v, e = .returned v ∧ Below w.heap.size w w' ∧ RepC (fun _ => False) w' c v) : Con P f A [(false, [.c c])] := by
  refine ⟨he, fun w J mo vs hJ hmo hinj hX hg hgx hA => ?_⟩
  have hmo0 : mo = [] := (match mo, hmo with | [], _ => rfl | _ :: _, h => h.elim)
  subst hmo0
  refine (h w J vs hJ hg hA).mono ?_
  rintro e w' ⟨v, rfl, hB, hr⟩
  refine ⟨v, fun _ => False, fun _ => none, rfl, ⟨hB.os, hB.tape, hB.output, hB.size, fun b hb _ => hB.block b hb⟩, ?_, ?_, ?_, ?_, trivial, trivial⟩
  · intro b h; exact h.elim
  · intro i j b c c' h; cases h
  · intro i b c h; cases h
  · exact ⟨hr.one, rfl, hr.mono (fun _ h => h.elim) (fun _ h => h.elim), trivial⟩
theorem one_of {R : PV → Value → Prop} {a : PV} {vs : Array Value} (h : All2 R [a] vs.toList) : ∃ v, vs = #[v] ∧ R a v := by
  obtain ⟨l⟩ := vs
  match l, h with
  | [v], h => exact ⟨v, rfl, h.1⟩
theorem two_of {R : PV → Value → Prop} {a b : PV} {vs : Array Value} (h : All2 R [a, b] vs.toList) : ∃ u v, vs = #[u, v] ∧ R a u ∧ R b v := by
  obtain ⟨l⟩ := vs
  match l, h with
  | [u, v], h => exact ⟨u, v, rfl, h.1, h.2.1⟩
theorem tabW {w : World} (h : GW w) : Lib.TabIs Tryd.prog w "internal/strconv.uint64pow10" .u64 Lib.pow10Tab := by
  obtain ⟨t, z, h1⟩ := h (0, (List.range 20).map fun i => ((10 ^ i : Nat) : Int)) (by simp [gTabs])
  unfold Lib.TabIs World.var?
  rw [show Tryd.prog.globalNamed "internal/strconv.uint64pow10" = some 0 by kernel_rfl]
  simp only [Option.bind_some, h1]
  rfl
theorem below_grown {w : World} (k : Nat) (os : Array Obj) : Below w.heap.size w (Go.Sort.grow (w.drewN k) os) := by
  have e : (w.drewN k).heap = w.heap := by first | rfl | simp
  refine ⟨by first | rfl | simp [Go.Sort.grow], by first | rfl | simp [Go.Sort.grow], by first | rfl | simp [Go.Sort.grow], by simp [Go.Sort.grow, e], fun b hb => ?_⟩
  simp only [Go.Sort.grow, e]
  rw [Array.getElem?_append_left hb]
/-- strconv.Itoa -/
def lb_Itoa (x0 : Int) : Bytes := Lib.itoa x0
theorem decDigits_len : ∀ (k u : Nat), u < 10 ^ (k + 1) → (Lib.decDigits u).length ≤ k + 1
  | 0, u, h => by
    rw [Lib.decDigits]
    simp at h
    simp [h]
  | k + 1, u, h => by
    rw [Lib.decDigits]
    split
    · simp
    · have : u / 10 < 10 ^ (k + 1) := by
        rw [Nat.div_lt_iff_lt_mul (by omega)]
        rw [Nat.pow_succ] at h; exact h
      have := decDigits_len k (u / 10) this
      simp only [List.length_append, List.length_singleton]
      omega
theorem lb_Itoa_len (x0 : Int) (h : inK .i64 x0) : (lb_Itoa x0).length ≤ 20 := by
  have h2 := inK64 h
  unfold lb_Itoa Lib.itoa
  split
  · have := decDigits_len 18 x0.natAbs (by omega)
    simp only [List.length_cons]; omega
  · have := decDigits_len 18 x0.toNat (by omega)
    omega
theorem lb_Itoa_c (x0 : Int) : Con Tryd.prog 68 (pvs [.sc (.int .i64)] (x0, ())) [rv (.sc .str) [] (lb_Itoa x0)] := by
  refine con_plain (enters_of Tryd.func68 rfl (by kernel_rfl)) fun w J vs hJ hg hA => ?_
  obtain ⟨v, rfl, c, hc, hr⟩ := one_of hA
  cases hc
  obtain ⟨hk, rfl⟩ : inK .i64 x0 ∧ v = .int .i64 x0 := by cases hr with | int _ _ h => exact ⟨h, rfl⟩
  have hb := inK64 hk
  refine (Tryd.strconv_Itoa x0 hb.1 hb.2 w (tabW hg)).mono ?_
  rintro e w' ⟨rfl, k, os, rfl⟩
  refine ⟨_, rfl, below_grown k os, ?_⟩
  have hl := lb_Itoa_len x0 hk
  exact .str ⟨(Lib.itoa x0).toArray⟩ (by show (Lib.itoa x0).length ≤ maxStr; unfold lb_Itoa at hl; have : maxStr = 4611686018427387904 := rfl; omega)
noncomputable def lb_Itoa_e : Ent1 Tryd.prog := entA 68 [.sc (.int .i64)] (fun x => (lb_Itoa x.1)) (fun v => [rv (.sc .str) [] v]) (fun x => lb_Itoa_c x.1)
/-- strings.IndexByte -/
def lb_IndexByte (x0 : Bytes) (x1 : Int) : Int := Lib.indexByte x0 x1.toNat.toUInt8
theorem indexByte_lt (c : UInt8) : ∀ l : List UInt8, Lib.indexByte l c ≤ l.length
  | [] => by simp [Lib.indexByte]
  | b :: l => by
    have := indexByte_lt c l
    simp only [Lib.indexByte, List.length_cons]
    split
    · omega
    · split <;> omega
theorem lb_IndexByte_c (x0 : Bytes) (x1 : Int) : Con Tryd.prog 94 (pvs [.sc .str, .sc (.int .u8)] (x0, x1, ())) [rv (.sc (.int .i64)) [] (lb_IndexByte x0 x1)] := by
  refine con_plain (enters_of Tryd.func94 rfl (by kernel_rfl)) fun w J vs hJ hg hA => ?_
  obtain ⟨u, v, rfl, ⟨c, hc, hr⟩, ⟨d, hd, hs⟩⟩ := two_of hA
  cases hc; cases hd
  obtain ⟨b, hbl, rfl, rfl⟩ : ∃ b : ByteArray, b.data.toList.length ≤ maxStr ∧ x0 = b.data.toList ∧ u = .string b := by cases hr with | str b h => exact ⟨b, h, rfl, rfl⟩
  obtain rfl : v = .int .u8 x1 := by cases hs with | int _ _ h => rfl
  refine (Tryd.strings_IndexByte b x1 w).mono ?_
  rintro e w' ⟨rfl, rfl⟩
  refine ⟨_, rfl, Below.refl _ _, ?_⟩
  refine .int .i64 _ ?_
  have h1 := Lib.indexByte_ge b.data.toList x1.toNat.toUInt8
  have h2 := indexByte_lt x1.toNat.toUInt8 b.data.toList
  have h3 : maxStr = 4611686018427387904 := rfl
  constructor
  · show (-9223372036854775808 : Int) ≤ Lib.indexByte b.data.toList x1.toNat.toUInt8; omega
  · show Lib.indexByte b.data.toList x1.toNat.toUInt8 ≤ (9223372036854775807 : Int); omega
noncomputable def lb_IndexByte_e : Ent1 Tryd.prog := entA 94 [.sc .str, .sc (.int .u8)] (fun x => (lb_IndexByte x.1 x.2.1)) (fun v => [rv (.sc (.int .i64)) [] v]) (fun x => lb_IndexByte_c x.1 x.2.1)
/-- strings.Join -/
def lb_Join (x0 : List Bytes) (x1 : Bytes) : Bytes := Lib.join x0 x1
theorem ba_eq (b : ByteArray) : b = ⟨b.data.toList.toArray⟩ := by cases b; simp
theorem lb_Join_c (x0 : List Bytes) (x1 : Bytes) (hp : (lb_Join x0 x1).length ≤ 140737488355328) : Con Tryd.prog 85 (pvs [.sc (.sl .str), .sc .str] (x0, x1, ())) [rv (.sc .str) [] (lb_Join x0 x1)] := by
  refine con_plain (enters_of Tryd.func85 rfl (by kernel_rfl)) fun w J vs hJ hg hA => ?_
  obtain ⟨u, v, rfl, ⟨c, hc, hr⟩, ⟨d, hd, hs⟩⟩ := two_of hA
  cases hc; cases hd
  obtain ⟨b, hbl, rfl, rfl⟩ : ∃ b : ByteArray, b.data.toList.length ≤ maxStr ∧ x1 = b.data.toList ∧ v = .string b := by cases hs with | str b h => exact ⟨b, h, rfl, rfl⟩
  have h3 : maxStr = 4611686018427387904 := rfl
  have fin : ∀ w', RepC (fun _ => False) w' (.str (lb_Join x0 b.data.toList)) (.string ⟨(Lib.join x0 b.data.toList).toArray⟩) := fun w' =>
    .str ⟨(Lib.join x0 b.data.toList).toArray⟩ (by show (Lib.join x0 b.data.toList).length ≤ maxStr; unfold lb_Join at hp; omega)
  have none_ : ∀ a cap, x0 = [] → Calls Tryd.prog 85 #[.slice a 0 cap, .string b] w fun e w' => ∃ v, e = .returned v ∧ Below w.heap.size w w' ∧ RepC (fun _ => False) w' (.str (lb_Join x0 b.data.toList)) v := fun a cap h => by
    subst h
    refine (Tryd.strings_Join_none a cap b w).mono ?_
    rintro e w' ⟨rfl, rfl⟩
    exact ⟨_, rfl, Below.refl _ _, fin _⟩
  cases hr with
  | nil => exact none_ none 0 rfl
  | emp _ a cap => exact none_ (some a) cap rfl
  | sl _ xs bk off cap us hJb hl hcap hcell hrep =>
    cases hx : x0 with
    | nil => subst hx; exact none_ (some ⟨bk, off, none⟩) cap rfl
    | cons y ys =>
      have hlt := hJ _ (hJb (by rw [hx]; simp))
      have hm : (x0.map fun x => (⟨x.toArray⟩ : ByteArray)).map (·.data.toList) = x0 := by
        rw [List.map_map]
        exact List.map_id' x0
      have := Tryd.strings_Join bk off cap (x0.map fun x => (⟨x.toArray⟩ : ByteArray)) b w (fun j x hj => by
        rw [List.getElem?_map] at hj
        obtain ⟨z, hz, rfl⟩ := Option.map_eq_some_iff.1 hj
        have h4 := hcell j z 0 (.str z) hz rfl
        have h5 := hrep j z 0 (.str z) hz rfl
        have e : off + j * Ty.size .str + 0 = off + j := by show off + j * 1 + 0 = off + j; omega
        rw [e] at h4
        rw [h4]
        generalize us j 0 = q at h5
        cases h5 with
        | str bb _ => rw [← ba_eq bb]) hlt (by rw [List.length_map]; exact hl) (by rw [List.length_map]; exact hcap) (by rw [hm]; exact hp)
      rw [hm, List.length_map] at this
      rw [← hx]
      refine this.mono ?_
      rintro e w' ⟨rfl, hB⟩
      exact ⟨_, rfl, hB, fin _⟩
noncomputable def lb_Join_e : Ent1 Tryd.prog := entP 85 [.sc (.sl .str), .sc .str] (fun x => (decide ((lb_Join x.1 x.2.1).length ≤ 140737488355328))) (fun x => (lb_Join x.1 x.2.1)) (fun v => [rv (.sc .str) [] v]) (fun x hx => lb_Join_c x.1 x.2.1 (of_decide_eq_true hx))
theorem lb_Join_len (x0 : List Bytes) (x1 : Bytes) (h0 : x0.length ≤ 65536) (h1 : ∀ y ∈ x0, List.length y ≤ 65536) (h2 : x1.length ≤ 65536) : (lb_Join x0 x1).length ≤ 8589934592 := by
  unfold lb_Join
  cases x0 with
  | nil => simp [Lib.join_nil]
  | cons x r =>
    rw [Lib.join_cons]
    have key : ∀ r : List Bytes, (∀ y ∈ r, List.length y ≤ 65536) → (Lib.joinTail x1 r).length ≤ r.length * 131072 := by
      intro r
      induction r with
      | nil => intro _; simp [Lib.joinTail]
      | cons y r ih =>
        intro h
        have e : Lib.joinTail x1 (y :: r) = (x1 ++ y) ++ Lib.joinTail x1 r := by simp [Lib.joinTail]
        rw [e]
        have := ih fun z hz => h z (List.mem_cons_of_mem _ hz)
        have := h y List.mem_cons_self
        simp only [List.length_append, List.length_cons]
        omega
    have a := key r fun z hz => h1 z (List.mem_cons_of_mem _ hz)
    have b := h1 x List.mem_cons_self
    simp only [List.length_append, List.length_cons] at h0 ⊢
    omega
theorem and15 (s : Bytes) (i : Nat) : 0 ≤ bits .and .u8 (byteAt s i) 15 ∧ bits .and .u8 (byteAt s i) 15 < 16 := by
  unfold byteAt
  have h := (s.getD i 0).toNat_lt
  generalize (s.getD i 0).toNat = n at h
  have key : ∀ n : Nat, n < 256 → 0 ≤ bits .and .u8 (n : Int) 15 ∧ bits .and .u8 (n : Int) 15 < 16 := by decide +kernel
  exact key n h
theorem fdiv_k {x d : Int} (h : inK .i64 x) (hd : 1 ≤ d) : inK .i64 (x.fdiv d) := by
  have h2 := inK64 h
  rw [Int.fdiv_eq_ediv_of_nonneg _ (by omega)]

  constructor
  · show (-9223372036854775808 : Int) ≤ x / d
    rw [Int.le_ediv_iff_mul_le (by omega)]
    have : (9223372036854775808 : Int) * 1 ≤ 9223372036854775808 * d := Int.mul_le_mul_of_nonneg_left hd (by omega)
    omega
  · show x / d ≤ (9223372036854775807 : Int)
    rcases Int.lt_or_le x 0 with h3 | h3
    · have := Int.ediv_neg_of_neg_of_pos h3 (show 0 < d by omega); omega
    · have := Int.ediv_le_self d h3; omega
theorem and255_k (x : Int) : inK .i64 (bits .and .i64 x 255) := by
  have := and255 x
  constructor
  · show (-9223372036854775808 : Int) ≤ _; omega
  · show _ ≤ (9223372036854775807 : Int); omega

/-- spec.Digits -/
def s_Digits_ann : List (Nat × Keep) := [(0, ⟨[0, 3, 4], [], false, 0⟩)]
def s_Digits_L0_sh : Sh := ⟨[(0, false, [.int .i64]), (3, false, [.bool]), (4, false, [.str])], []⟩
def s_Digits_L0_es : List (Ex × Sh) := [(.exit 0, ⟨[(2, false, [.undef]), (3, false, [.bool]), (4, false, [.str])], []⟩)]
def s_Digits_L0_mk (v0 : Int) (v1 : Bool) (v2 : Bytes) : s_Digits_L0_sh.T := (((v0, ()), ((v1, ()), ((v2, ()), ()))), ())
def s_Digits_L0_mx0 (y0 : Bool) (y1 : Bytes) : Sh.T ⟨[(2, false, [.undef]), (3, false, [.bool]), (4, false, [.str])], []⟩ := ((((), ()), ((y0, ()), ((y1, ()), ()))), ())
def s_Digits_L0_B (v0 : Int) (v1 : Bool) (v2 : Bytes) (γ : Type) (fail : γ) (next : s_Digits_L0_sh.T → γ) (out : WT s_Digits_L0_es → γ) : γ :=
  bif (v0 != 0) then
    bif (decide ((v0.tmod 10) < 0)) then
      letK (α := Int) (IntKind.wrap .u8 (IntKind.wrap .i64 (48 + (IntKind.wrap .i64 (0 - (v0.tmod 10)))))) fun e1 =>
      bif (Nat.ble ((toBytes [e1]).length + v2.length) maxStr) then
      next (s_Digits_L0_mk (IntKind.wrap .i64 (v0.tdiv 10)) v1 ((toBytes [e1]) ++ v2))
      else fail
    else
    bif (Nat.ble ((toBytes [(IntKind.wrap .u8 (IntKind.wrap .i64 (48 + (v0.tmod 10))))]).length + v2.length) maxStr) then
    letK (α := Bytes) ((toBytes [(IntKind.wrap .u8 (IntKind.wrap .i64 (48 + (v0.tmod 10))))]) ++ v2) fun e2 =>
    next (s_Digits_L0_mk (IntKind.wrap .i64 (v0.tdiv 10)) v1 e2)
    else fail
  else
  out (s_Digits_L0_mx0 v1 v2)
theorem s_Digits_L0_par (v0 : Int) (v1 : Bool) (v2 : Bytes) (γ : Type) (fail : γ) (next : s_Digits_L0_sh.T → γ) (out : WT s_Digits_L0_es → γ) : s_Digits_L0_B v0 v1 v2 γ fail next out = optK (s_Digits_L0_B v0 v1 v2 _ none (fun v' => some (.inl v')) (fun w => some (.inr w))) fail (fun r => Sum.elim next out r) := by
  unfold s_Digits_L0_B
  repeat' (first | refine letT (f := (fun o => optK o fail (fun r => Sum.elim next out r))) (fun _ _ => ?_) | refine bifT (f := (fun o => optK o fail (fun r => Sum.elim next out r))) (fun _ => ?_) (fun _ => ?_) | rfl)
def s_Digits_L0_r : Round s_Digits_L0_sh.T (WT s_Digits_L0_es) where
  B v γ fail next out := s_Digits_L0_B v.1.1.1 v.1.2.1.1 v.1.2.2.1.1 γ fail next out
  par v γ fail next out := s_Digits_L0_par v.1.1.1 v.1.2.1.1 v.1.2.2.1.1 γ fail next out
def s_Digits_L0_fu (v0 : Int) (v1 : Bool) (v2 : Bytes) : Nat := (Int.natAbs v0) + 1
theorem s_Digits_L0_lk (v : s_Digits_L0_sh.T) (next : St → Option Res) (k : Ex → St → Option Res) : evalK te (orcOf (P := Tryd.prog) []) (lorcOf []) Tryd.f31.ntmps s_Digits_ann (nthLoop (bodyOf Tryd.f31) 0 0) 0 (s_Digits_L0_sh.enc v) (endK ⟨[0, 3, 4], [], false, 0⟩ ⟨[2, 3, 4], [], false, 0⟩ next k) =
  s_Digits_L0_r.B v _ none (fun v' => next (s_Digits_L0_sh.enc v')) (fun w => outK s_Digits_L0_es k w) := by kernel_rfl
def s_Digits_L0_le : LE := leOf 0 s_Digits_L0_sh s_Digits_L0_es s_Digits_L0_r.step (fun v => s_Digits_L0_fu v.1.1.1 v.1.2.1.1 v.1.2.2.1.1)
theorem s_Digits_L0_ls (w0 : World) (mo : Mts) (I0 : Nat → Prop) (hmo : mo.length = 0) : LSem Tryd.prog (Sim w0 mo Tryd.f31.ntmps I0) (fun b s k => match Nat.beq 0 b with | true => s_Digits_L0_le.run s k | false => none) 0 (nthLoop (bodyOf Tryd.f31) 0 0) :=
  le_sem hmo (lorc := lorcOf []) (ann := s_Digits_ann) (keep := ⟨[0, 3, 4], [], false, 0⟩) (kout := ⟨[2, 3, 4], [], false, 0⟩) teFact mixFact (orcOf_ok _) (by kernel_rfl) (allLoops_of (bs := []) (by kernel_rfl) trivial) s_Digits_L0_r _ s_Digits_L0_lk
def s_Digits_L0_f (v1 : Bool) (a : Int × Bytes) : Stp (Int × Bytes) ((Bytes)) :=
  bif (a.1 != 0) then
    bif (decide ((a.1.tmod 10) < 0)) then
      letK (α := Int) (IntKind.wrap .u8 (IntKind.wrap .i64 (48 + (IntKind.wrap .i64 (0 - (a.1.tmod 10)))))) fun e1 =>
      .next ((IntKind.wrap .i64 (a.1.tdiv 10)), ((toBytes [e1]) ++ a.2))
    else
    letK (α := Bytes) ((toBytes [(IntKind.wrap .u8 (IntKind.wrap .i64 (48 + (a.1.tmod 10))))]) ++ a.2) fun e2 =>
    .next ((IntKind.wrap .i64 (a.1.tdiv 10)), e2)
  else
  .out (a.2)
def s_Digits_L0_w (v0 : Int) (v1 : Bool) (v2 : Bytes) : (Bytes) := whileN (s_Digits_L0_f v1) (s_Digits_L0_fu v0 v1 v2) (v0, v2)
theorem s_Digits_L0_st (v0 : Int) (v1 : Bool) (v2 : Bytes) (hinv : -9223372036854775808 ≤ v0 ∧ v0 ≤ 9223372036854775807 ∧ 9 * (v2.length : Int) + v0.natAbs ≤ 9223372036854775817 ∧ (v0 = 0 ∨ 9 * (v2.length : Int) + v0.natAbs ≤ 9223372036854775808)) : s_Digits_L0_r.step (s_Digits_L0_mk v0 v1 v2) = Stp.elim (fun a' : Int × Bytes => some (Sum.inl (s_Digits_L0_mk a'.1 v1 a'.2))) (fun w => some (Sum.inr ((fun p : Bytes => s_Digits_L0_mx0 v1 p) w))) (s_Digits_L0_f v1 (v0, v2)) := by
  show s_Digits_L0_B v0 v1 v2 (Option (s_Digits_L0_sh.T ⊕ WT s_Digits_L0_es)) none (fun v' => some (Sum.inl v')) (fun w => some (Sum.inr w)) = _
  unfold s_Digits_L0_B s_Digits_L0_f
  refine bifT (f := (Stp.elim (fun a' : Int × Bytes => some (Sum.inl (s_Digits_L0_mk a'.1 v1 a'.2))) (fun w => some (Sum.inr ((fun p : Bytes => s_Digits_L0_mx0 v1 p) w))))) (fun b0 => bifT (f := (Stp.elim (fun a' : Int × Bytes => some (Sum.inl (s_Digits_L0_mk a'.1 v1 a'.2))) (fun w => some (Sum.inr ((fun p : Bytes => s_Digits_L0_mx0 v1 p) w))))) (fun b1 => letT (f := (Stp.elim (fun a' : Int × Bytes => some (Sum.inl (s_Digits_L0_mk a'.1 v1 a'.2))) (fun w => some (Sum.inr ((fun p : Bytes => s_Digits_L0_mx0 v1 p) w))))) (fun e1 he1 => bifG ?_ (rfl)))
      (fun b1 => bifG ?_ (letT (f := (Stp.elim (fun a' : Int × Bytes => some (Sum.inl (s_Digits_L0_mk a'.1 v1 a'.2))) (fun w => some (Sum.inr ((fun p : Bytes => s_Digits_L0_mx0 v1 p) w))))) (fun e2 he2 => rfl))))
      (fun b0 => rfl)
  all_goals ((try simp only [Nat.ble_eq, Bool.and_eq_true, decide_eq_true_eq]); grind [maxSl, maxStr, toBytes_length, toInts_length, List.length_set, wrap64])
theorem s_Digits_L0_dn (v1 : Bool) (a : Int × Bytes) (hv : -9223372036854775808 ≤ a.1 ∧ a.1 ≤ 9223372036854775807 ∧ 9 * (a.2.length : Int) + a.1.natAbs ≤ 9223372036854775817 ∧ (a.1 = 0 ∨ 9 * (a.2.length : Int) + a.1.natAbs ≤ 9223372036854775808)) (a' : Int × Bytes) (he : s_Digits_L0_f v1 a = .next a') : (-9223372036854775808 ≤ a'.1 ∧ a'.1 ≤ 9223372036854775807 ∧ 9 * (a'.2.length : Int) + a'.1.natAbs ≤ 9223372036854775817 ∧ (a'.1 = 0 ∨ 9 * (a'.2.length : Int) + a'.1.natAbs ≤ 9223372036854775808)) ∧ Int.natAbs a'.1 < Int.natAbs a.1 := by
  unfold s_Digits_L0_f at he
  cases hd : (a.1 != 0) with
  | false => rw [hd] at he; cases he
  | true =>
    rw [hd] at he
    have hd : a.1 ≠ 0 := by simpa using hd
    have h1 : a.1.tdiv 10 = if 0 ≤ a.1 then a.1 / 10 else -(-a.1 / 10) := by
      split
      · exact (tdiv_pos 10).1 (by omega)
      · exact (tdiv_pos 10).2 (by omega)
    have h2 : IntKind.i64.wrap (a.1.tdiv 10) = a.1.tdiv 10 := wrap64 (by rw [h1]; split <;> omega) (by rw [h1]; split <;> omega)
    cases hq : decide (a.1.tmod 10 < 0) <;> rw [hq] at he <;> simp only [cond_true, cond_false, letK] at he <;> cases he <;> simp only [h2, List.length_append, toBytes_length, List.length_singleton] <;> rw [h1] <;> split <;> omega
theorem s_Digits_L0_cl (v0 : Int) (v1 : Bool) (v2 : Bytes) (h0 : -9223372036854775808 ≤ v0 ∧ v0 ≤ 9223372036854775807 ∧ 9 * (v2.length : Int) + v0.natAbs ≤ 9223372036854775817 ∧ (v0 = 0 ∨ 9 * (v2.length : Int) + v0.natAbs ≤ 9223372036854775808)) : loopF s_Digits_L0_r.step (s_Digits_L0_fu v0 v1 v2) (s_Digits_L0_mk v0 v1 v2) = some ((fun p : Bytes => s_Digits_L0_mx0 v1 p) (s_Digits_L0_w v0 v1 v2)) :=
  while_loop (A := Int × Bytes) (step := s_Digits_L0_r.step) (mk := fun a => s_Digits_L0_mk a.1 v1 a.2) (f := s_Digits_L0_f v1) (emb := (fun p : Bytes => s_Digits_L0_mx0 v1 p)) (Inv := fun a => -9223372036854775808 ≤ a.1 ∧ a.1 ≤ 9223372036854775807 ∧ 9 * (a.2.length : Int) + a.1.natAbs ≤ 9223372036854775817 ∧ (a.1 = 0 ∨ 9 * (a.2.length : Int) + a.1.natAbs ≤ 9223372036854775808)) (meas := fun a => Int.natAbs a.1)
    (fun a hv => ⟨s_Digits_L0_st a.1 v1 a.2 hv, s_Digits_L0_dn v1 a hv⟩) _ (v0, v2) (Nat.lt_succ_self _) h0
theorem s_Digits_L0_post (v0 : Int) (v1 : Bool) (v2 : Bytes) (h : -9223372036854775808 ≤ v0 ∧ v0 ≤ 9223372036854775807 ∧ 9 * (v2.length : Int) + v0.natAbs ≤ 9223372036854775817 ∧ (v0 = 0 ∨ 9 * (v2.length : Int) + v0.natAbs ≤ 9223372036854775808)) : 9 * ((s_Digits_L0_w v0 v1 v2).length : Int) ≤ 9223372036854775817 := by
  refine whileN_post (f := s_Digits_L0_f v1) (Inv := fun a => -9223372036854775808 ≤ a.1 ∧ a.1 ≤ 9223372036854775807 ∧ 9 * (a.2.length : Int) + a.1.natAbs ≤ 9223372036854775817 ∧ (a.1 = 0 ∨ 9 * (a.2.length : Int) + a.1.natAbs ≤ 9223372036854775808)) (Q := fun w => 9 * ((w : Bytes).length : Int) ≤ 9223372036854775817) (meas := fun a => Int.natAbs a.1) (fun a hi a' he => s_Digits_L0_dn v1 a hi a' he) (fun a hi w he => ?_) _ (v0, v2) (Nat.lt_succ_self _) h
  unfold s_Digits_L0_f at he
  cases hd : (a.1 != 0) <;> rw [hd] at he
  · cases he; have := hi.2.2.1; show 9 * (a.2.length : Int) ≤ _; omega
  · cases hq : decide (a.1.tmod 10 < 0) <;> rw [hq] at he <;> simp only [cond_true, cond_false, letK] at he <;> cases he

def s_Digits_N (x0 : Int) (γ : Type) (fail : γ) (k : Bytes → γ) : γ :=
  bif (x0 == 0) then
    k [48]
  else
  optK (loopF s_Digits_L0_r.step (s_Digits_L0_fu x0 (decide (x0 < 0)) []) (s_Digits_L0_mk x0 (decide (x0 < 0)) [])) fail fun w3 =>
    bif w3.1.2.1.1 then
      bif (Nat.ble (1 + w3.1.2.2.1.1.length) maxStr) then
      k ([45] ++ w3.1.2.2.1.1)
      else fail
    else
    k w3.1.2.2.1.1
def s_Digits (x0 : Int) : Bytes :=
  bif (x0 == 0) then
    [48]
  else
  letK (α := (Bytes)) (s_Digits_L0_w x0 (decide (x0 < 0)) [])
    (fun p4 =>
      bif (decide (x0 < 0)) then
        ([45] ++ p4)
      else
      p4)
theorem s_Digits_lk (x0 : Int) : evalFn te (orcOf (P := Tryd.prog) []) (lorcOf [s_Digits_L0_le]) s_Digits_ann Tryd.f31 (pvs [.sc (.int .i64)] (x0, ())) =
  s_Digits_N x0 _ none (fun v => some [(false, [RC.c (.str v)])]) := by kernel_rfl
theorem s_Digits_p (x0 : Int) (hx0 : inK .i64 x0)  (γ : Type) (fail : γ) (k : Bytes → γ) : s_Digits_N x0 γ fail k = k (s_Digits x0) := by
  unfold s_Digits_N s_Digits
  refine bifT (f := k) (fun b0 => rfl)
      (fun b0 => loopW (f := k) (emb := (fun p : Bytes => s_Digits_L0_mx0 (decide (x0 < 0)) p)) (s_Digits_L0_cl x0 (decide (x0 < 0)) [] ?_) (fun p4 hp4 => bifT (f := k) (fun b1 => bifG ?_ (rfl))
      (fun b1 => rfl)))
  all_goals (first | (have hh := inK64 hx0; refine ⟨hh.1, hh.2, ?_, ?_⟩ <;> simp only [List.length_nil] <;> omega) | (have hh := inK64 hx0; have hq := s_Digits_L0_post x0 (decide (x0 < 0)) [] (by refine ⟨hh.1, hh.2, ?_, ?_⟩ <;> simp only [List.length_nil] <;> omega); subst_vars; simp only [Nat.ble_eq, maxStr, s_Digits_L0_mx0, List.length_singleton] at *; omega))
theorem s_Digits_c (x0 : Int)  : Con Tryd.prog 31 (pvs [.sc (.int .i64)] (x0, ())) [rv (.sc .str) [] (s_Digits x0)] := by
  refine Con.of_facts (enters_of Tryd.func31 rfl (by kernel_rfl)) fun hf => ?_
  replace hf := factAt hf
  refine evalFn_conL teFact mixFact (orcOf_ok _) Tryd.func31 ?_ (bs := [0]) ?_ ?_ (fun w0 mo I0 hmo => ⟨lsem_of_lorc (s_Digits_L0_ls w0 mo I0 hmo) ?_, trivial⟩) ((s_Digits_lk x0).trans (s_Digits_p x0 ((hf 0 0 rfl rfl).rng) _ _ _))
  all_goals (kernel_rfl)
noncomputable def s_Digits_e : Ent1 Tryd.prog := entA 31 [.sc (.int .i64)] (fun x => (s_Digits x.1)) (fun v => [rv (.sc .str) [] v]) (fun x => s_Digits_c x.1)

theorem s_Digits_small (x0 : Int) (h : x0.natAbs < 1000) : (s_Digits x0).length ≤ 4 := by
  unfold s_Digits
  cases hz : (x0 == 0) with
  | true => simp
  | false =>
    have hq : ((s_Digits_L0_w x0 (decide (x0 < 0)) []) : Bytes).length ≤ 3 := by
      refine whileN_post (f := s_Digits_L0_f (decide (x0 < 0))) (Inv := fun a => (a.1.natAbs < 1000 ∧ a.2.length = 0) ∨ (a.1.natAbs < 100 ∧ a.2.length ≤ 1) ∨ (a.1.natAbs < 10 ∧ a.2.length ≤ 2) ∨ (a.1 = 0 ∧ a.2.length ≤ 3)) (Q := fun w => ((w : Bytes).length : Nat) ≤ 3) (meas := fun a => Int.natAbs a.1) (fun a hi a' he => ?_) (fun a hi w he => ?_) _ (x0, []) (Nat.lt_succ_self _) (.inl ⟨h, rfl⟩)
      · unfold s_Digits_L0_f at he
        cases hd : (a.1 != 0) with
        | false => rw [hd] at he; cases he
        | true =>
          rw [hd] at he
          have hd : a.1 ≠ 0 := by simpa using hd
          have h1 : a.1.tdiv 10 = if 0 ≤ a.1 then a.1 / 10 else -(-a.1 / 10) := by
            split
            · exact (tdiv_pos 10).1 (by omega)
            · exact (tdiv_pos 10).2 (by omega)
          have h2 : IntKind.i64.wrap (a.1.tdiv 10) = a.1.tdiv 10 := wrap64 (by rw [h1]; split <;> omega) (by rw [h1]; split <;> omega)
          cases hq : decide (a.1.tmod 10 < 0) <;> rw [hq] at he <;> simp only [cond_true, cond_false, letK] at he <;> cases he <;> simp only [h2, List.length_append, toBytes_length, List.length_singleton] <;> rw [h1] <;> split <;> omega
      · unfold s_Digits_L0_f at he
        cases hd : (a.1 != 0) <;> rw [hd] at he
        · cases he; show a.2.length ≤ 3; omega
        · cases hq : decide (a.1.tmod 10 < 0) <;> rw [hq] at he <;> simp only [cond_true, cond_false, letK] at he <;> cases he
    simp only [cond_false, letK]
    cases hd : decide (x0 < 0) <;> rw [hd] at hq <;> simp only [cond_true, cond_false, List.length_append, List.length_singleton] <;> omega

theorem s_Digits_len (x0 : Int) (h : inK .i64 x0) : (s_Digits x0).length ≤ 1024819115206086202 := by
  have hh := inK64 h
  unfold s_Digits
  cases hz : (x0 == 0) with
  | true => simp
  | false =>
    have hq := s_Digits_L0_post x0 (decide (x0 < 0)) [] (by refine ⟨hh.1, hh.2, ?_, ?_⟩ <;> simp only [List.length_nil] <;> omega)
    simp only [cond_false, letK]
    cases hd : decide (x0 < 0) <;> rw [hd] at hq <;> simp only [cond_true, cond_false, List.length_append, List.length_singleton] <;> omega


/-- impl.Digits -/
def i_Digits_N (x0 : Int) (γ : Type) (fail : γ) (k : Bytes → γ) : γ :=
  letK (α := Bytes) (lb_Itoa x0) fun c1 =>
  k c1
def i_Digits (x0 : Int) : Bytes :=
  letK (α := Bytes) (lb_Itoa x0) fun c1 =>
  c1
theorem i_Digits_lk (x0 : Int) : evalFn te (orcOf (P := Tryd.prog) [lb_Itoa_e]) lorc0 [] Tryd.f34 (pvs [.sc (.int .i64)] (x0, ())) =
  i_Digits_N x0 _ none (fun v => some [(false, [RC.c (.str v)])]) := by kernel_rfl
theorem i_Digits_p (x0 : Int)   (γ : Type) (fail : γ) (k : Bytes → γ) : i_Digits_N x0 γ fail k = k (i_Digits x0) := by
  unfold i_Digits_N i_Digits
  exact letT (f := k) (fun c1 hc1 => rfl)
theorem i_Digits_c (x0 : Int)  : Con Tryd.prog 34 (pvs [.sc (.int .i64)] (x0, ())) [rv (.sc .str) [] (i_Digits x0)] := by
  exact evalFn_con0 teFact mixFact (orcOf_ok _) Tryd.func34 (by kernel_rfl) ((i_Digits_lk x0).trans (i_Digits_p x0  _ _ _))
noncomputable def i_Digits_e : Ent1 Tryd.prog := entA 34 [.sc (.int .i64)] (fun x => (i_Digits x.1)) (fun v => [rv (.sc .str) [] v]) (fun x => i_Digits_c x.1)

theorem i_Digits_len (x0 : Int)  (h : inK .i64 x0) : (fun v : Bytes => v.length ≤ 20) (i_Digits x0) := by
  unfold i_Digits
  exact letP (P := (fun v : Bytes => v.length ≤ 20)) (fun c1 hc1 => (by subst_vars; exact lb_Itoa_len x0 h))
theorem i_Dig4 (x0 : Int) (h : inK .i64 x0) : ([i_Digits (x0.fdiv 16777216), i_Digits (bits .and .i64 (x0.fdiv 65536) 255), i_Digits (bits .and .i64 (x0.fdiv 256) 255), i_Digits (bits .and .i64 x0 255)] : List Bytes).length ≤ 65536 ∧ (∀ y ∈ ([i_Digits (x0.fdiv 16777216), i_Digits (bits .and .i64 (x0.fdiv 65536) 255), i_Digits (bits .and .i64 (x0.fdiv 256) 255), i_Digits (bits .and .i64 x0 255)] : List Bytes), List.length y ≤ 65536) ∧ ([46] : Bytes).length ≤ 65536 := by
  refine ⟨by simp, fun y hy => ?_, by simp⟩
  simp only [List.mem_cons, List.not_mem_nil, or_false] at hy
  rcases hy with rfl | rfl | rfl | rfl
  · exact Nat.le_trans (i_Digits_len _ (fdiv_k h (by omega))) (by decide)
  · exact Nat.le_trans (i_Digits_len _ (and255_k _)) (by decide)
  · exact Nat.le_trans (i_Digits_len _ (and255_k _)) (by decide)
  · exact Nat.le_trans (i_Digits_len _ (and255_k _)) (by decide)


/-- laws.eqTuple -/
def w_eqTuple_N (x0 : Tupl) (x1 : Tupl) (γ : Type) (fail : γ) (k : Bool → γ) : γ :=
  bif (x0.ip != x1.ip) then
    k false
  else
  bif (x0.port != x1.port) then
    k false
  else
  bif (x0.my != x1.my) then
    k false
  else
  k true
def w_eqTuple (x0 : Tupl) (x1 : Tupl) : Bool :=
  bif (x0.ip != x1.ip) then
    false
  else
  bif (x0.port != x1.port) then
    false
  else
  bif (x0.my != x1.my) then
    false
  else
  true
theorem w_eqTuple_lk (x0 : Tupl) (x1 : Tupl) : evalFn te (orcOf (P := Tryd.prog) []) lorc0 [] Tryd.f45 (pvs [.st .tupl, .st .tupl] (x0, x1, ())) =
  w_eqTuple_N x0 x1 _ none (fun v => some [(false, [RC.c (.bool v)])]) := by kernel_rfl
theorem w_eqTuple_p (x0 : Tupl) (x1 : Tupl)   (γ : Type) (fail : γ) (k : Bool → γ) : w_eqTuple_N x0 x1 γ fail k = k (w_eqTuple x0 x1) := by
  unfold w_eqTuple_N w_eqTuple
  exact bifT (f := k) (fun b0 => rfl)
      (fun b0 => bifT (f := k) (fun b1 => rfl)
      (fun b1 => bifT (f := k) (fun b2 => rfl)
      (fun b2 => rfl)))
theorem w_eqTuple_c (x0 : Tupl) (x1 : Tupl)  : Con Tryd.prog 45 (pvs [.st .tupl, .st .tupl] (x0, x1, ())) [rv (.sc .bool) [] (w_eqTuple x0 x1)] := by
  exact evalFn_con0 teFact mixFact (orcOf_ok _) Tryd.func45 (by kernel_rfl) ((w_eqTuple_lk x0 x1).trans (w_eqTuple_p x0 x1  _ _ _))
noncomputable def w_eqTuple_e : Ent1 Tryd.prog := entA 45 [.st .tupl, .st .tupl] (fun x => (w_eqTuple x.1 x.2.1)) (fun v => [rv (.sc .bool) [] v]) (fun x => w_eqTuple_c x.1 x.2.1)


/-- spec.Parts -/
def s_Parts_ann : List (Nat × Keep) := [(0, ⟨[0, 1, 5, 6, 7], [], false, 0⟩)]
def s_Parts_L0_sh : Sh := ⟨[(0, false, [.str]), (1, false, [.int .u8]), (5, false, [.own 0]), (6, false, [.int .i64]), (7, false, [.int .i64])], [.arr .str false true]⟩
def s_Parts_L0_es : List (Ex × Sh) := [(.exit 0, ⟨[(4, false, [.undef]), (5, false, [.own 0])], [.arr .str false true]⟩)]
def s_Parts_L0_mk (v0 : Bytes) (v1 : Int) (v2 : Int) (v3 : Int) (v4 : List Bytes) : s_Parts_L0_sh.T := (((v0, ()), ((v1, ()), (((), ()), ((v2, ()), ((v3, ()), ()))))), (v4, ()))
def s_Parts_L0_mx0 (y0 : List Bytes) : Sh.T ⟨[(4, false, [.undef]), (5, false, [.own 0])], [.arr .str false true]⟩ := ((((), ()), (((), ()), ())), (y0, ()))
def s_Parts_L0_B (v0 : Bytes) (v1 : Int) (v2 : Int) (v3 : Int) (v4 : List Bytes) (γ : Type) (fail : γ) (next : s_Parts_L0_sh.T → γ) (out : WT s_Parts_L0_es → γ) : γ :=
  bif (decide (v3 ≤ (v0.length : Int))) then
    bif (v3 == (v0.length : Int)) then
      bif (((decide (0 ≤ v2)) && (decide (v2 ≤ v3))) && (decide (v3 ≤ (v0.length : Int)))) then
      bif (Nat.ble ((2 * (v4.length + 1) + 1024) * 16) maxSl) then
      next (s_Parts_L0_mk v0 v1 (IntKind.wrap .i64 (v3 + 1)) (IntKind.wrap .i64 (v3 + 1)) (v4 ++ [((v0.take v3.toNat).drop v2.toNat)]))
      else fail
      else fail
    else
    bif ((decide (0 ≤ v3)) && (decide (v3 < (v0.length : Int)))) then
    bif ((byteAt v0 v3.toNat) == v1) then
      bif (((decide (0 ≤ v2)) && (decide (v2 ≤ v3))) && (decide (v3 ≤ (v0.length : Int)))) then
      bif (Nat.ble ((2 * (v4.length + 1) + 1024) * 16) maxSl) then
      next (s_Parts_L0_mk v0 v1 (IntKind.wrap .i64 (v3 + 1)) (IntKind.wrap .i64 (v3 + 1)) (v4 ++ [((v0.take v3.toNat).drop v2.toNat)]))
      else fail
      else fail
    else
    next (s_Parts_L0_mk v0 v1 v2 (IntKind.wrap .i64 (v3 + 1)) v4)
    else fail
  else
  out (s_Parts_L0_mx0 v4)
theorem s_Parts_L0_par (v0 : Bytes) (v1 : Int) (v2 : Int) (v3 : Int) (v4 : List Bytes) (γ : Type) (fail : γ) (next : s_Parts_L0_sh.T → γ) (out : WT s_Parts_L0_es → γ) : s_Parts_L0_B v0 v1 v2 v3 v4 γ fail next out = optK (s_Parts_L0_B v0 v1 v2 v3 v4 _ none (fun v' => some (.inl v')) (fun w => some (.inr w))) fail (fun r => Sum.elim next out r) := by
  unfold s_Parts_L0_B
  repeat' (first | refine letT (f := (fun o => optK o fail (fun r => Sum.elim next out r))) (fun _ _ => ?_) | refine bifT (f := (fun o => optK o fail (fun r => Sum.elim next out r))) (fun _ => ?_) (fun _ => ?_) | rfl)
def s_Parts_L0_r : Round s_Parts_L0_sh.T (WT s_Parts_L0_es) where
  B v γ fail next out := s_Parts_L0_B v.1.1.1 v.1.2.1.1 v.1.2.2.2.1.1 v.1.2.2.2.2.1.1 v.2.1 γ fail next out
  par v γ fail next out := s_Parts_L0_par v.1.1.1 v.1.2.1.1 v.1.2.2.2.1.1 v.1.2.2.2.2.1.1 v.2.1 γ fail next out
def s_Parts_L0_fu (v0 : Bytes) (v1 : Int) (v2 : Int) (v3 : Int) (v4 : List Bytes) : Nat := (Int.toNat ((v0.length : Int) - v3 + 1)) + 1
theorem s_Parts_L0_lk (v : s_Parts_L0_sh.T) (next : St → Option Res) (k : Ex → St → Option Res) : evalK te (orcOf (P := Tryd.prog) []) (lorcOf []) Tryd.f47.ntmps s_Parts_ann (nthLoop (bodyOf Tryd.f47) 0 0) 0 (s_Parts_L0_sh.enc v) (endK ⟨[0, 1, 5, 6, 7], [], false, 0⟩ ⟨[4, 5], [], false, 0⟩ next k) =
  s_Parts_L0_r.B v _ none (fun v' => next (s_Parts_L0_sh.enc v')) (fun w => outK s_Parts_L0_es k w) := by kernel_rfl
def s_Parts_L0_le : LE := leOf 0 s_Parts_L0_sh s_Parts_L0_es s_Parts_L0_r.step (fun v => s_Parts_L0_fu v.1.1.1 v.1.2.1.1 v.1.2.2.2.1.1 v.1.2.2.2.2.1.1 v.2.1)
theorem s_Parts_L0_ls (w0 : World) (mo : Mts) (I0 : Nat → Prop) (hmo : mo.length = 0) : LSem Tryd.prog (Sim w0 mo Tryd.f47.ntmps I0) (fun b s k => match Nat.beq 0 b with | true => s_Parts_L0_le.run s k | false => none) 0 (nthLoop (bodyOf Tryd.f47) 0 0) :=
  le_sem hmo (lorc := lorcOf []) (ann := s_Parts_ann) (keep := ⟨[0, 1, 5, 6, 7], [], false, 0⟩) (kout := ⟨[4, 5], [], false, 0⟩) teFact mixFact (orcOf_ok _) (by kernel_rfl) (allLoops_of (bs := []) (by kernel_rfl) trivial) s_Parts_L0_r _ s_Parts_L0_lk
def s_Parts_L0_f (v0 : Bytes) (v1 : Int) (v3 : Int) (a : Int × List Bytes) : Stp (Int × List Bytes) (Empty) :=
  bif (v3 == (v0.length : Int)) then
    .next ((IntKind.wrap .i64 (v3 + 1)), (a.2 ++ [((v0.take v3.toNat).drop a.1.toNat)]))
  else
  bif ((byteAt v0 v3.toNat) == v1) then
    .next ((IntKind.wrap .i64 (v3 + 1)), (a.2 ++ [((v0.take v3.toNat).drop a.1.toNat)]))
  else
  .next (a.1, a.2)
theorem s_Parts_L0_st (v0 : Bytes) (v1 : Int) (v2 : Int) (v3 : Int) (v4 : List Bytes) (hlo : 0 ≤ v3) (hhi : v3 ≤ (v0.length : Int)) (hN : (v0.length : Int) ≤ 4611686018427387904) (hi0 : (v0.length : Int) ≤ 4294967296) (hinv : 0 ≤ v2 ∧ v2 ≤ v3 ∧ (v4.length : Int) ≤ v3 ∧ ∀ y ∈ v4, List.length y ≤ List.length v0) : s_Parts_L0_r.step (s_Parts_L0_mk v0 v1 v2 v3 v4) = Stp.elim (fun a' : Int × List Bytes => some (Sum.inl (s_Parts_L0_mk v0 v1 a'.1 (v3 + 1) a'.2))) (fun w => some (Sum.inr ((fun p : Empty => nomatch p) w))) (s_Parts_L0_f v0 v1 v3 (v2, v4)) := by
  have hw : (IntKind.wrap .i64 (v3 + 1)) = v3 + 1 := wrap64 (by omega) (by omega)
  show s_Parts_L0_B v0 v1 v2 v3 v4 (Option (s_Parts_L0_sh.T ⊕ WT s_Parts_L0_es)) none (fun v' => some (Sum.inl v')) (fun w => some (Sum.inr w)) = _
  unfold s_Parts_L0_B s_Parts_L0_f
  refine bifG (by simp only [decide_eq_true_eq]; omega) (bifT (f := (Stp.elim (fun a' : Int × List Bytes => some (Sum.inl (s_Parts_L0_mk v0 v1 a'.1 (v3 + 1) a'.2))) (fun w => some (Sum.inr ((fun p : Empty => nomatch p) w))))) (fun b0 => bifG ?_ (bifG ?_ ((by exact congrArg (fun z => some (Sum.inl (s_Parts_L0_mk v0 v1 (IntKind.wrap .i64 (v3 + 1)) z (v4 ++ [((v0.take v3.toNat).drop v2.toNat)])))) hw))))
      (fun b0 => bifG ?_ (bifT (f := (Stp.elim (fun a' : Int × List Bytes => some (Sum.inl (s_Parts_L0_mk v0 v1 a'.1 (v3 + 1) a'.2))) (fun w => some (Sum.inr ((fun p : Empty => nomatch p) w))))) (fun b1 => bifG ?_ (bifG ?_ ((by exact congrArg (fun z => some (Sum.inl (s_Parts_L0_mk v0 v1 (IntKind.wrap .i64 (v3 + 1)) z (v4 ++ [((v0.take v3.toNat).drop v2.toNat)])))) hw))))
      (fun b1 => (by exact congrArg (fun z => some (Sum.inl (s_Parts_L0_mk v0 v1 v2 z v4))) hw)))))
  all_goals ((try simp only [Nat.ble_eq, Bool.and_eq_true, decide_eq_true_eq]); grind [maxSl, maxStr, toBytes_length, toInts_length, List.length_set, wrap64])
theorem s_Parts_L0_cl (v0 : Bytes) (v1 : Int) (v2 : Int) (v3 : Int) (v4 : List Bytes) (h0 : 0 ≤ v3) (h1 : (v0.length : Int) ≤ 4611686018427387904) (h2 : (v0.length : Int) ≤ 4294967296) (h3 : 0 ≤ v2 ∧ v2 ≤ v3 ∧ (v4.length : Int) ≤ v3 ∧ ∀ y ∈ v4, List.length y ≤ List.length v0) : loopF s_Parts_L0_r.step (s_Parts_L0_fu v0 v1 v2 v3 v4) (s_Parts_L0_mk v0 v1 v2 v3 v4) = some (Stp.elim (fun a => (fun i a => s_Parts_L0_mx0 a.2) (v3 + 1 * (((Int.toNat ((v0.length : Int) - v3 + 1)) : Nat) : Int)) a) (fun p : Empty => nomatch p) (forN (s_Parts_L0_f v0 v1) 1 (Int.toNat ((v0.length : Int) - v3 + 1)) v3 (v2, v4))) :=
  forN_loop (step := s_Parts_L0_r.step) (mk := fun v3 a => s_Parts_L0_mk v0 v1 a.1 v3 a.2) (f := s_Parts_L0_f v0 v1) (e := (fun i a => s_Parts_L0_mx0 a.2)) (emb := (fun p : Empty => nomatch p)) (st := 1) (Inv := fun v3 a => 0 ≤ a.1 ∧ a.1 ≤ v3 ∧ (a.2.length : Int) ≤ v3 ∧ ∀ y ∈ a.2, List.length y ≤ List.length v0) (Int.toNat ((v0.length : Int) - v3 + 1)) v3 (v2, v4) _ (Nat.lt_succ_self _) h3
    (fun j a hj hv => ⟨s_Parts_L0_st v0 v1 a.1 (v3 + 1 * (j : Int)) a.2 (by omega) (by omega) (by omega) h2 hv, by
      intro a' he
      grind [s_Parts_L0_f, letK, Stp.elim, wrap64, List.length_set]⟩)
    (fun a hv => by
      show s_Parts_L0_B v0 v1 a.1 (v3 + 1 * (((Int.toNat ((v0.length : Int) - v3 + 1)) : Nat) : Int)) a.2 (Option (s_Parts_L0_sh.T ⊕ WT s_Parts_L0_es)) none (fun v' => some (Sum.inl v')) (fun w => some (Sum.inr w)) = _
      unfold s_Parts_L0_B
      exact bifN (by simp only [decide_eq_false_iff_not]; omega) rfl)
theorem s_Parts_L0_nx (v0 : Bytes) (v1 : Int) (v2 : Int) (v3 : Int) (v4 : List Bytes) (h0 : 0 ≤ v3) (h1 : (v0.length : Int) ≤ 4611686018427387904) (h2 : (v0.length : Int) ≤ 4294967296) (h3 : 0 ≤ v2 ∧ v2 ≤ v3 ∧ (v4.length : Int) ≤ v3 ∧ ∀ y ∈ v4, List.length y ≤ List.length v0) : ∀ a', forN (s_Parts_L0_f v0 v1) 1 (Int.toNat ((v0.length : Int) - v3 + 1)) v3 (v2, v4) = .next a' → 0 ≤ a'.1 ∧ a'.1 ≤ (v3 + 1 * (((Int.toNat ((v0.length : Int) - v3 + 1)) : Nat) : Int)) ∧ (a'.2.length : Int) ≤ (v3 + 1 * (((Int.toNat ((v0.length : Int) - v3 + 1)) : Nat) : Int)) ∧ ∀ y ∈ a'.2, List.length y ≤ List.length v0 :=
  forN_inv (f := s_Parts_L0_f v0 v1) (st := 1) (Inv := fun v3 a => 0 ≤ a.1 ∧ a.1 ≤ v3 ∧ (a.2.length : Int) ≤ v3 ∧ ∀ y ∈ a.2, List.length y ≤ List.length v0) (Int.toNat ((v0.length : Int) - v3 + 1)) v3 (v2, v4) h3
    (fun j a hj hv => by
      intro a' he
      grind [s_Parts_L0_f, letK, Stp.elim, wrap64, List.length_set])
def s_Parts_N (x0 : Bytes) (x1 : Int) (γ : Type) (fail : γ) (k : List Bytes → γ) : γ :=
  optK (loopF s_Parts_L0_r.step (s_Parts_L0_fu x0 x1 0 0 []) (s_Parts_L0_mk x0 x1 0 0 [])) fail fun w1 =>
    k w1.2.1
def s_Parts (x0 : Bytes) (x1 : Int) : List Bytes :=
  Stp.elim (fun a2 =>
    a2.2)
    (fun p : Empty => nomatch p)
    (forN (s_Parts_L0_f x0 x1) 1 (Int.toNat ((x0.length : Int) - 0 + 1)) 0 (0, []))
theorem s_Parts_lk (x0 : Bytes) (x1 : Int) : evalFn te (orcOf (P := Tryd.prog) []) (lorcOf [s_Parts_L0_le]) s_Parts_ann Tryd.f47 (pvs [.sc .str, .sc (.int .u8)] (x0, x1, ())) =
  s_Parts_N x0 x1 _ none (fun v => some [(false, [RC.own true .str v])]) := by kernel_rfl
theorem s_Parts_p (x0 : Bytes) (x1 : Int) (hx0 : List.length x0 ≤ 4611686018427387904) (hx1 : inK .u8 x1) (hp : x0.length ≤ 4294967296) (γ : Type) (fail : γ) (k : List Bytes → γ) : s_Parts_N x0 x1 γ fail k = k (s_Parts x0 x1) := by
  unfold s_Parts_N s_Parts
  refine loopX (f := k) (s_Parts_L0_cl x0 x1 0 0 [] ?_ ?_ ?_ ?_) (fun a2 ha2 => have ia2 := s_Parts_L0_nx x0 x1 0 0 [] ?_ ?_ ?_ ?_ _ ha2; rfl)
      (fun p : Empty => nomatch p)
  all_goals ((try simp only [Nat.ble_eq, Bool.and_eq_true, decide_eq_true_eq, s_Parts_L0_mx0]); grind [maxSl, maxStr, toBytes_length, toInts_length, List.length_set, wrap64])
theorem s_Parts_c (x0 : Bytes) (x1 : Int) (hp : x0.length ≤ 4294967296) : Con Tryd.prog 47 (pvs [.sc .str, .sc (.int .u8)] (x0, x1, ())) [rv (.sc (.sl .str)) [.o true] (s_Parts x0 x1)] := by
  refine Con.of_facts (enters_of Tryd.func47 rfl (by kernel_rfl)) fun hf => ?_
  replace hf := factAt hf
  refine evalFn_conL teFact mixFact (orcOf_ok _) Tryd.func47 ?_ (bs := [0]) ?_ ?_ (fun w0 mo I0 hmo => ⟨lsem_of_lorc (s_Parts_L0_ls w0 mo I0 hmo) ?_, trivial⟩) ((s_Parts_lk x0 x1).trans (s_Parts_p x0 x1 ((hf 0 0 rfl rfl).slen) ((hf 1 0 rfl rfl).rng) hp _ _ _))
  all_goals (kernel_rfl)
noncomputable def s_Parts_e : Ent1 Tryd.prog := entP 47 [.sc .str, .sc (.int .u8)] (fun x => (decide (x.1.length ≤ 4294967296))) (fun x => (s_Parts x.1 x.2.1)) (fun v => [rv (.sc (.sl .str)) [.o true] v]) (fun x hx => s_Parts_c x.1 x.2.1 (of_decide_eq_true hx))

theorem s_Parts_len (x0 : Bytes) (x1 : Int) (h : x0.length ≤ 4294967296) : (s_Parts x0 x1).length ≤ x0.length + 1 := by
  unfold s_Parts
  cases hf : forN (s_Parts_L0_f x0 x1) 1 (Int.toNat ((x0.length : Int) - 0 + 1)) 0 (0, []) with
  | out p => nomatch p
  | next a =>
    have h1 := s_Parts_L0_nx x0 x1 0 0 [] (by omega) (by omega) (by omega) (by simp) a hf
    simp only [Stp.elim]
    omega
theorem s_Parts_el (x0 : Bytes) (x1 : Int) (h : x0.length ≤ 4294967296) (k : Nat) : ((s_Parts x0 x1).getD k []).length ≤ x0.length := by
  unfold s_Parts
  cases hf : forN (s_Parts_L0_f x0 x1) 1 (Int.toNat ((x0.length : Int) - 0 + 1)) 0 (0, []) with
  | out p => nomatch p
  | next a =>
    have h1 := s_Parts_L0_nx x0 x1 0 0 [] (by omega) (by omega) (by omega) (by simp) a hf
    simp only [Stp.elim]
    exact getD_all (p := fun y => List.length y ≤ List.length x0) (by simp) (fun y hy => h1.2.2.2 y hy) k

theorem s_Parts_el3 (x0 : Bytes) (x1 : Int) (h : x0.length ≤ 4294967296) (k : Nat) : (((s_Parts x0 x1) ++ [[], [], []]).getD k []).length ≤ x0.length := by
  have h1 := s_Parts_el x0 x1 h k
  generalize s_Parts x0 x1 = ys at h1
  simp only [List.getD, List.getElem?_append] at h1 ⊢
  split
  · exact h1
  · rcases hk : k - ys.length with _ | _ | _ | m <;> simp


/-- spec.KeyMac -/
def s_KeyMac_N (x0 : Int) (x1 : Int) (γ : Type) (fail : γ) (k : Mac → γ) : γ :=
  k (⟨false, x0, x1, []⟩ : Mac)
def s_KeyMac (x0 : Int) (x1 : Int) : Mac :=
  (⟨false, x0, x1, []⟩ : Mac)
theorem s_KeyMac_lk (x0 : Int) (x1 : Int) : evalFn te (orcOf (P := Tryd.prog) []) lorc0 [] Tryd.f48 (pvs [.sc (.int .u64), .sc (.int .u64)] (x0, x1, ())) =
  s_KeyMac_N x0 x1 _ none (fun v => some [(true, [RC.c (.bool v.use), RC.c (.int .u64 v.k), RC.c (.int .u64 v.l), RC.own true .macRow v.rows])]) := by kernel_rfl
theorem s_KeyMac_p (x0 : Int) (x1 : Int)   (γ : Type) (fail : γ) (k : Mac → γ) : s_KeyMac_N x0 x1 γ fail k = k (s_KeyMac x0 x1) := by
  unfold s_KeyMac_N s_KeyMac
  exact rfl
theorem s_KeyMac_c (x0 : Int) (x1 : Int)  : Con Tryd.prog 48 (pvs [.sc (.int .u64), .sc (.int .u64)] (x0, x1, ())) [rv (.st .mac) [.c, .c, .c, .o true] (s_KeyMac x0 x1)] := by
  exact evalFn_con0 teFact mixFact (orcOf_ok _) Tryd.func48 (by kernel_rfl) ((s_KeyMac_lk x0 x1).trans (s_KeyMac_p x0 x1  _ _ _))
noncomputable def s_KeyMac_e : Ent1 Tryd.prog := entA 48 [.sc (.int .u64), .sc (.int .u64)] (fun x => (s_KeyMac x.1 x.2.1)) (fun v => [rv (.st .mac) [.c, .c, .c, .o true] v]) (fun x => s_KeyMac_c x.1 x.2.1)

theorem s_KeyMac_len (x0 : Int) (x1 : Int)   : (fun v : Mac => v.rows.length ≤ 0) (s_KeyMac x0 x1) := by
  unfold s_KeyMac
  exact (by (try simp only [Nat.ble_eq, Bool.and_eq_true, decide_eq_true_eq]); grind [maxSl, maxStr, toBytes_length, toInts_length, List.length_set, wrap64])

/-- spec.Number -/
def s_Number_ann : List (Nat × Keep) := [(0, ⟨[0, 4, 5], [], false, 0⟩)]
def s_Number_L0_sh : Sh := ⟨[(0, false, [.str]), (4, false, [.int .i64]), (5, false, [.int .i64])], []⟩
def s_Number_L0_es : List (Ex × Sh) := [(.ret, ⟨[(0, false, [.str]), (2, false, [.int .i64]), (3, false, [.bool]), (4, false, [.int .i64])], []⟩), (.exit 0, ⟨[(0, false, [.str]), (2, false, [.undef]), (3, false, [.undef]), (4, false, [.int .i64])], []⟩)]
def s_Number_L0_mk (v0 : Bytes) (v1 : Int) (v2 : Int) : s_Number_L0_sh.T := (((v0, ()), ((v1, ()), ((v2, ()), ()))), ())
def s_Number_L0_mx0 (y0 : Bytes) (y1 : Int) (y2 : Bool) (y3 : Int) : Sh.T ⟨[(0, false, [.str]), (2, false, [.int .i64]), (3, false, [.bool]), (4, false, [.int .i64])], []⟩ := (((y0, ()), ((y1, ()), ((y2, ()), ((y3, ()), ())))), ())
def s_Number_L0_mx1 (y0 : Bytes) (y1 : Int) : Sh.T ⟨[(0, false, [.str]), (2, false, [.undef]), (3, false, [.undef]), (4, false, [.int .i64])], []⟩ := (((y0, ()), (((), ()), (((), ()), ((y1, ()), ())))), ())
def s_Number_L0_B (v0 : Bytes) (v1 : Int) (v2 : Int) (γ : Type) (fail : γ) (next : s_Number_L0_sh.T → γ) (out : WT s_Number_L0_es → γ) : γ :=
  bif (decide (v2 < (v0.length : Int))) then
    bif ((decide (0 ≤ v2)) && (decide (v2 < (v0.length : Int)))) then
    bif (decide ((byteAt v0 v2.toNat) < 48)) then
      out (Sum.inl (s_Number_L0_mx0 v0 0 false v1))
    else
    bif ((decide (0 ≤ v2)) && (decide (v2 < (v0.length : Int)))) then
    bif (decide (57 < (byteAt v0 v2.toNat))) then
      out (Sum.inl (s_Number_L0_mx0 v0 0 false v1))
    else
    bif ((decide (0 ≤ v2)) && (decide (v2 < (v0.length : Int)))) then
    letK (α := Int) (IntKind.wrap .i64 ((IntKind.wrap .i64 (10 * v1)) + (IntKind.wrap .i64 (IntKind.wrap .u8 ((byteAt v0 v2.toNat) - 48))))) fun e1 =>
    next (s_Number_L0_mk v0 e1 (IntKind.wrap .i64 (v2 + 1)))
    else fail
    else fail
    else fail
  else
  out (Sum.inr (s_Number_L0_mx1 v0 v1))
theorem s_Number_L0_par (v0 : Bytes) (v1 : Int) (v2 : Int) (γ : Type) (fail : γ) (next : s_Number_L0_sh.T → γ) (out : WT s_Number_L0_es → γ) : s_Number_L0_B v0 v1 v2 γ fail next out = optK (s_Number_L0_B v0 v1 v2 _ none (fun v' => some (.inl v')) (fun w => some (.inr w))) fail (fun r => Sum.elim next out r) := by
  unfold s_Number_L0_B
  repeat' (first | refine letT (f := (fun o => optK o fail (fun r => Sum.elim next out r))) (fun _ _ => ?_) | refine bifT (f := (fun o => optK o fail (fun r => Sum.elim next out r))) (fun _ => ?_) (fun _ => ?_) | rfl)
def s_Number_L0_r : Round s_Number_L0_sh.T (WT s_Number_L0_es) where
  B v γ fail next out := s_Number_L0_B v.1.1.1 v.1.2.1.1 v.1.2.2.1.1 γ fail next out
  par v γ fail next out := s_Number_L0_par v.1.1.1 v.1.2.1.1 v.1.2.2.1.1 γ fail next out
def s_Number_L0_fu (v0 : Bytes) (v1 : Int) (v2 : Int) : Nat := (Int.toNat ((v0.length : Int) - v2)) + 1
theorem s_Number_L0_lk (v : s_Number_L0_sh.T) (next : St → Option Res) (k : Ex → St → Option Res) : evalK te (orcOf (P := Tryd.prog) [s_Digits_e]) (lorcOf []) Tryd.f51.ntmps s_Number_ann (nthLoop (bodyOf Tryd.f51) 0 0) 0 (s_Number_L0_sh.enc v) (endK ⟨[0, 4, 5], [], false, 0⟩ ⟨[0, 2, 3, 4], [], false, 0⟩ next k) =
  s_Number_L0_r.B v _ none (fun v' => next (s_Number_L0_sh.enc v')) (fun w => outK s_Number_L0_es k w) := by kernel_rfl
def s_Number_L0_le : LE := leOf 0 s_Number_L0_sh s_Number_L0_es s_Number_L0_r.step (fun v => s_Number_L0_fu v.1.1.1 v.1.2.1.1 v.1.2.2.1.1)
theorem s_Number_L0_ls (w0 : World) (mo : Mts) (I0 : Nat → Prop) (hmo : mo.length = 0) : LSem Tryd.prog (Sim w0 mo Tryd.f51.ntmps I0) (fun b s k => match Nat.beq 0 b with | true => s_Number_L0_le.run s k | false => none) 0 (nthLoop (bodyOf Tryd.f51) 0 0) :=
  le_sem hmo (lorc := lorcOf []) (ann := s_Number_ann) (keep := ⟨[0, 4, 5], [], false, 0⟩) (kout := ⟨[0, 2, 3, 4], [], false, 0⟩) teFact mixFact (orcOf_ok _) (by kernel_rfl) (allLoops_of (bs := []) (by kernel_rfl) trivial) s_Number_L0_r _ s_Number_L0_lk
def s_Number_L0_f (v0 : Bytes) (v2 : Int) (a : Int) : Stp (Int) ((Int)) :=
  bif (decide ((byteAt v0 v2.toNat) < 48)) then
    .out (a)
  else
  bif (decide (57 < (byteAt v0 v2.toNat))) then
    .out (a)
  else
  letK (α := Int) (IntKind.wrap .i64 ((IntKind.wrap .i64 (10 * a)) + (IntKind.wrap .i64 (IntKind.wrap .u8 ((byteAt v0 v2.toNat) - 48))))) fun e1 =>
  .next e1
theorem s_Number_L0_st (v0 : Bytes) (v1 : Int) (v2 : Int) (hlo : 0 ≤ v2) (hhi : v2 < (v0.length : Int)) (hN : (v0.length : Int) ≤ 4611686018427387904) : s_Number_L0_r.step (s_Number_L0_mk v0 v1 v2) = Stp.elim (fun a' : Int => some (Sum.inl (s_Number_L0_mk v0 a' (v2 + 1)))) (fun w => some (Sum.inr ((fun p : Int => Sum.inl (s_Number_L0_mx0 v0 0 false p)) w))) (s_Number_L0_f v0 v2 v1) := by
  have hw : (IntKind.wrap .i64 (v2 + 1)) = v2 + 1 := wrap64 (by omega) (by omega)
  show s_Number_L0_B v0 v1 v2 (Option (s_Number_L0_sh.T ⊕ WT s_Number_L0_es)) none (fun v' => some (Sum.inl v')) (fun w => some (Sum.inr w)) = _
  unfold s_Number_L0_B s_Number_L0_f
  refine bifG (by simp only [decide_eq_true_eq]; omega) (bifG ?_ (bifT (f := (Stp.elim (fun a' : Int => some (Sum.inl (s_Number_L0_mk v0 a' (v2 + 1)))) (fun w => some (Sum.inr ((fun p : Int => Sum.inl (s_Number_L0_mx0 v0 0 false p)) w))))) (fun b0 => rfl)
      (fun b0 => bifG ?_ (bifT (f := (Stp.elim (fun a' : Int => some (Sum.inl (s_Number_L0_mk v0 a' (v2 + 1)))) (fun w => some (Sum.inr ((fun p : Int => Sum.inl (s_Number_L0_mx0 v0 0 false p)) w))))) (fun b1 => rfl)
      (fun b1 => bifG ?_ (letT (f := (Stp.elim (fun a' : Int => some (Sum.inl (s_Number_L0_mk v0 a' (v2 + 1)))) (fun w => some (Sum.inr ((fun p : Int => Sum.inl (s_Number_L0_mx0 v0 0 false p)) w))))) (fun e1 he1 => (by exact congrArg (fun z => some (Sum.inl (s_Number_L0_mk v0 e1 z))) hw))))))))
  all_goals ((try simp only [Nat.ble_eq, Bool.and_eq_true, decide_eq_true_eq]); grind [maxSl, maxStr, toBytes_length, toInts_length, List.length_set, wrap64, s_Digits_len, s_Digits_small])
theorem s_Number_L0_cl (v0 : Bytes) (v1 : Int) (v2 : Int) (h0 : 0 ≤ v2) (h1 : (v0.length : Int) ≤ 4611686018427387904) : loopF s_Number_L0_r.step (s_Number_L0_fu v0 v1 v2) (s_Number_L0_mk v0 v1 v2) = some (Stp.elim (fun a => (fun i a => Sum.inr (s_Number_L0_mx1 v0 a)) (v2 + 1 * (((Int.toNat ((v0.length : Int) - v2)) : Nat) : Int)) a) (fun p : Int => Sum.inl (s_Number_L0_mx0 v0 0 false p)) (forN (s_Number_L0_f v0) 1 (Int.toNat ((v0.length : Int) - v2)) v2 v1)) :=
  forN_loop (step := s_Number_L0_r.step) (mk := fun v2 a => s_Number_L0_mk v0 a v2) (f := s_Number_L0_f v0) (e := (fun i a => Sum.inr (s_Number_L0_mx1 v0 a))) (emb := (fun p : Int => Sum.inl (s_Number_L0_mx0 v0 0 false p))) (st := 1) (Inv := fun v2 a => True) (Int.toNat ((v0.length : Int) - v2)) v2 v1 _ (Nat.lt_succ_self _) trivial
    (fun j a hj hv => ⟨s_Number_L0_st v0 a (v2 + 1 * (j : Int)) (by omega) (by omega) (by omega), fun _ _ => trivial⟩)
    (fun a hv => by
      show s_Number_L0_B v0 a (v2 + 1 * (((Int.toNat ((v0.length : Int) - v2)) : Nat) : Int)) (Option (s_Number_L0_sh.T ⊕ WT s_Number_L0_es)) none (fun v' => some (Sum.inl v')) (fun w => some (Sum.inr w)) = _
      unfold s_Number_L0_B
      exact bifN (by simp only [decide_eq_false_iff_not]; omega) rfl)
def s_Number_N (x0 : Bytes) (γ : Type) (fail : γ) (k : Int × Bool → γ) : γ :=
  bif (decide ((x0.length : Int) < 1)) then
    k (0, false)
  else
  bif (decide (12 < (x0.length : Int))) then
    k (0, false)
  else
  optK (loopF s_Number_L0_r.step (s_Number_L0_fu x0 0 0) (s_Number_L0_mk x0 0 0)) fail fun w2 =>
    Sum.elim (fun w2 =>
      k (w2.1.2.1.1, w2.1.2.2.1.1))
    (fun w2 =>
      letK (α := Bytes) (s_Digits w2.1.2.2.2.1.1) fun c3 =>
      bif (!(c3 == w2.1.1.1)) then
        k (0, false)
      else
      k (w2.1.2.2.2.1.1, true)) w2
def s_Number (x0 : Bytes) : Int × Bool :=
  bif (decide ((x0.length : Int) < 1)) then
    (0, false)
  else
  bif (decide (12 < (x0.length : Int))) then
    (0, false)
  else
  Stp.elim (fun a4 =>
    letK (α := Bytes) (s_Digits a4) fun c5 =>
    bif (!(c5 == x0)) then
      (0, false)
    else
    (a4, true))
    (fun p4 =>
      (0, false))
    (forN (s_Number_L0_f x0) 1 (Int.toNat ((x0.length : Int) - 0)) 0 0)
theorem s_Number_lk (x0 : Bytes) : evalFn te (orcOf (P := Tryd.prog) [s_Digits_e]) (lorcOf [s_Number_L0_le]) s_Number_ann Tryd.f51 (pvs [.sc .str] (x0, ())) =
  s_Number_N x0 _ none (fun v => some [(false, [RC.c (.int .i64 v.1)]), (false, [RC.c (.bool v.2)])]) := by kernel_rfl
theorem s_Number_p (x0 : Bytes) (hx0 : List.length x0 ≤ 4611686018427387904)  (γ : Type) (fail : γ) (k : Int × Bool → γ) : s_Number_N x0 γ fail k = k (s_Number x0) := by
  unfold s_Number_N s_Number
  refine bifT (f := k) (fun b0 => rfl)
      (fun b0 => bifT (f := k) (fun b1 => rfl)
      (fun b1 => loopT (f := k) (s_Number_L0_cl x0 0 0 ?_ ?_) (fun a4 => letT (f := k) (fun c5 hc5 => bifT (f := k) (fun b2 => rfl)
      (fun b2 => rfl)))
      (fun p4 => rfl)))
  all_goals ((try simp only [Nat.ble_eq, Bool.and_eq_true, decide_eq_true_eq, s_Number_L0_mx0, s_Number_L0_mx1]); grind [maxSl, maxStr, toBytes_length, toInts_length, List.length_set, wrap64, s_Digits_len, s_Digits_small])
theorem s_Number_c (x0 : Bytes)  : Con Tryd.prog 51 (pvs [.sc .str] (x0, ())) [rv (.sc (.int .i64)) [] (s_Number x0).1, rv (.sc .bool) [] (s_Number x0).2] := by
  refine Con.of_facts (enters_of Tryd.func51 rfl (by kernel_rfl)) fun hf => ?_
  replace hf := factAt hf
  refine evalFn_conL teFact mixFact (orcOf_ok _) Tryd.func51 ?_ (bs := [0]) ?_ ?_ (fun w0 mo I0 hmo => ⟨lsem_of_lorc (s_Number_L0_ls w0 mo I0 hmo) ?_, trivial⟩) ((s_Number_lk x0).trans (s_Number_p x0 ((hf 0 0 rfl rfl).slen) _ _ _))
  all_goals (kernel_rfl)
noncomputable def s_Number_e : Ent1 Tryd.prog := entA 51 [.sc .str] (fun x => (s_Number x.1)) (fun v => [rv (.sc (.int .i64)) [] v.1, rv (.sc .bool) [] v.2]) (fun x => s_Number_c x.1)


/-- impl.Parts -/
def i_Parts_ann : List (Nat × Keep) := [(0, ⟨[0, 1, 5, 6, 7], [], false, 0⟩)]
def i_Parts_L0_sh : Sh := ⟨[(0, false, [.str]), (1, false, [.int .u8]), (5, false, [.own 0]), (6, false, [.int .i64]), (7, false, [.int .i64])], [.arr .str false true]⟩
def i_Parts_L0_es : List (Ex × Sh) := [(.exit 0, ⟨[(0, false, [.str]), (4, false, [.undef]), (5, false, [.own 0]), (6, false, [.int .i64])], [.arr .str false true]⟩)]
def i_Parts_L0_mk (v0 : Bytes) (v1 : Int) (v2 : Int) (v3 : Int) (v4 : List Bytes) : i_Parts_L0_sh.T := (((v0, ()), ((v1, ()), (((), ()), ((v2, ()), ((v3, ()), ()))))), (v4, ()))
def i_Parts_L0_mx0 (y0 : Bytes) (y1 : Int) (y2 : List Bytes) : Sh.T ⟨[(0, false, [.str]), (4, false, [.undef]), (5, false, [.own 0]), (6, false, [.int .i64])], [.arr .str false true]⟩ := (((y0, ()), (((), ()), (((), ()), ((y1, ()), ())))), (y2, ()))
def i_Parts_L0_B (v0 : Bytes) (v1 : Int) (v2 : Int) (v3 : Int) (v4 : List Bytes) (γ : Type) (fail : γ) (next : i_Parts_L0_sh.T → γ) (out : WT i_Parts_L0_es → γ) : γ :=
  bif (decide (v3 < (v0.length : Int))) then
    bif ((decide (0 ≤ v3)) && (decide (v3 < (v0.length : Int)))) then
    bif ((byteAt v0 v3.toNat) == v1) then
      bif (((decide (0 ≤ v2)) && (decide (v2 ≤ v3))) && (decide (v3 ≤ (v0.length : Int)))) then
      bif (Nat.ble ((2 * (v4.length + 1) + 1024) * 16) maxSl) then
      next (i_Parts_L0_mk v0 v1 (IntKind.wrap .i64 (v3 + 1)) (IntKind.wrap .i64 (v3 + 1)) (v4 ++ [((v0.take v3.toNat).drop v2.toNat)]))
      else fail
      else fail
    else
    next (i_Parts_L0_mk v0 v1 v2 (IntKind.wrap .i64 (v3 + 1)) v4)
    else fail
  else
  out (i_Parts_L0_mx0 v0 v2 v4)
theorem i_Parts_L0_par (v0 : Bytes) (v1 : Int) (v2 : Int) (v3 : Int) (v4 : List Bytes) (γ : Type) (fail : γ) (next : i_Parts_L0_sh.T → γ) (out : WT i_Parts_L0_es → γ) : i_Parts_L0_B v0 v1 v2 v3 v4 γ fail next out = optK (i_Parts_L0_B v0 v1 v2 v3 v4 _ none (fun v' => some (.inl v')) (fun w => some (.inr w))) fail (fun r => Sum.elim next out r) := by
  unfold i_Parts_L0_B
  repeat' (first | refine letT (f := (fun o => optK o fail (fun r => Sum.elim next out r))) (fun _ _ => ?_) | refine bifT (f := (fun o => optK o fail (fun r => Sum.elim next out r))) (fun _ => ?_) (fun _ => ?_) | rfl)
def i_Parts_L0_r : Round i_Parts_L0_sh.T (WT i_Parts_L0_es) where
  B v γ fail next out := i_Parts_L0_B v.1.1.1 v.1.2.1.1 v.1.2.2.2.1.1 v.1.2.2.2.2.1.1 v.2.1 γ fail next out
  par v γ fail next out := i_Parts_L0_par v.1.1.1 v.1.2.1.1 v.1.2.2.2.1.1 v.1.2.2.2.2.1.1 v.2.1 γ fail next out
def i_Parts_L0_fu (v0 : Bytes) (v1 : Int) (v2 : Int) (v3 : Int) (v4 : List Bytes) : Nat := (Int.toNat ((v0.length : Int) - v3)) + 1
theorem i_Parts_L0_lk (v : i_Parts_L0_sh.T) (next : St → Option Res) (k : Ex → St → Option Res) : evalK te (orcOf (P := Tryd.prog) []) (lorcOf []) Tryd.f53.ntmps i_Parts_ann (nthLoop (bodyOf Tryd.f53) 0 0) 0 (i_Parts_L0_sh.enc v) (endK ⟨[0, 1, 5, 6, 7], [], false, 0⟩ ⟨[0, 4, 5, 6], [], false, 0⟩ next k) =
  i_Parts_L0_r.B v _ none (fun v' => next (i_Parts_L0_sh.enc v')) (fun w => outK i_Parts_L0_es k w) := by kernel_rfl
def i_Parts_L0_le : LE := leOf 0 i_Parts_L0_sh i_Parts_L0_es i_Parts_L0_r.step (fun v => i_Parts_L0_fu v.1.1.1 v.1.2.1.1 v.1.2.2.2.1.1 v.1.2.2.2.2.1.1 v.2.1)
theorem i_Parts_L0_ls (w0 : World) (mo : Mts) (I0 : Nat → Prop) (hmo : mo.length = 0) : LSem Tryd.prog (Sim w0 mo Tryd.f53.ntmps I0) (fun b s k => match Nat.beq 0 b with | true => i_Parts_L0_le.run s k | false => none) 0 (nthLoop (bodyOf Tryd.f53) 0 0) :=
  le_sem hmo (lorc := lorcOf []) (ann := i_Parts_ann) (keep := ⟨[0, 1, 5, 6, 7], [], false, 0⟩) (kout := ⟨[0, 4, 5, 6], [], false, 0⟩) teFact mixFact (orcOf_ok _) (by kernel_rfl) (allLoops_of (bs := []) (by kernel_rfl) trivial) i_Parts_L0_r _ i_Parts_L0_lk
def i_Parts_L0_f (v0 : Bytes) (v1 : Int) (v3 : Int) (a : Int × List Bytes) : Stp (Int × List Bytes) (Empty) :=
  bif ((byteAt v0 v3.toNat) == v1) then
    .next ((IntKind.wrap .i64 (v3 + 1)), (a.2 ++ [((v0.take v3.toNat).drop a.1.toNat)]))
  else
  .next (a.1, a.2)
theorem i_Parts_L0_st (v0 : Bytes) (v1 : Int) (v2 : Int) (v3 : Int) (v4 : List Bytes) (hlo : 0 ≤ v3) (hhi : v3 < (v0.length : Int)) (hN : (v0.length : Int) ≤ 4611686018427387904) (hi0 : (v0.length : Int) ≤ 4294967296) (hinv : 0 ≤ v2 ∧ v2 ≤ v3 ∧ (v4.length : Int) ≤ v3 ∧ ∀ y ∈ v4, List.length y ≤ List.length v0) : i_Parts_L0_r.step (i_Parts_L0_mk v0 v1 v2 v3 v4) = Stp.elim (fun a' : Int × List Bytes => some (Sum.inl (i_Parts_L0_mk v0 v1 a'.1 (v3 + 1) a'.2))) (fun w => some (Sum.inr ((fun p : Empty => nomatch p) w))) (i_Parts_L0_f v0 v1 v3 (v2, v4)) := by
  have hw : (IntKind.wrap .i64 (v3 + 1)) = v3 + 1 := wrap64 (by omega) (by omega)
  show i_Parts_L0_B v0 v1 v2 v3 v4 (Option (i_Parts_L0_sh.T ⊕ WT i_Parts_L0_es)) none (fun v' => some (Sum.inl v')) (fun w => some (Sum.inr w)) = _
  unfold i_Parts_L0_B i_Parts_L0_f
  refine bifG (by simp only [decide_eq_true_eq]; omega) (bifG ?_ (bifT (f := (Stp.elim (fun a' : Int × List Bytes => some (Sum.inl (i_Parts_L0_mk v0 v1 a'.1 (v3 + 1) a'.2))) (fun w => some (Sum.inr ((fun p : Empty => nomatch p) w))))) (fun b0 => bifG ?_ (bifG ?_ ((by exact congrArg (fun z => some (Sum.inl (i_Parts_L0_mk v0 v1 (IntKind.wrap .i64 (v3 + 1)) z (v4 ++ [((v0.take v3.toNat).drop v2.toNat)])))) hw))))
      (fun b0 => (by exact congrArg (fun z => some (Sum.inl (i_Parts_L0_mk v0 v1 v2 z v4))) hw))))
  all_goals ((try simp only [Nat.ble_eq, Bool.and_eq_true, decide_eq_true_eq]); grind [maxSl, maxStr, toBytes_length, toInts_length, List.length_set, wrap64])
theorem i_Parts_L0_cl (v0 : Bytes) (v1 : Int) (v2 : Int) (v3 : Int) (v4 : List Bytes) (h0 : 0 ≤ v3) (h1 : (v0.length : Int) ≤ 4611686018427387904) (h2 : (v0.length : Int) ≤ 4294967296) (h3 : 0 ≤ v2 ∧ v2 ≤ v3 ∧ (v4.length : Int) ≤ v3 ∧ ∀ y ∈ v4, List.length y ≤ List.length v0) : loopF i_Parts_L0_r.step (i_Parts_L0_fu v0 v1 v2 v3 v4) (i_Parts_L0_mk v0 v1 v2 v3 v4) = some (Stp.elim (fun a => (fun i a => i_Parts_L0_mx0 v0 a.1 a.2) (v3 + 1 * (((Int.toNat ((v0.length : Int) - v3)) : Nat) : Int)) a) (fun p : Empty => nomatch p) (forN (i_Parts_L0_f v0 v1) 1 (Int.toNat ((v0.length : Int) - v3)) v3 (v2, v4))) :=
  forN_loop (step := i_Parts_L0_r.step) (mk := fun v3 a => i_Parts_L0_mk v0 v1 a.1 v3 a.2) (f := i_Parts_L0_f v0 v1) (e := (fun i a => i_Parts_L0_mx0 v0 a.1 a.2)) (emb := (fun p : Empty => nomatch p)) (st := 1) (Inv := fun v3 a => 0 ≤ a.1 ∧ a.1 ≤ v3 ∧ (a.2.length : Int) ≤ v3 ∧ ∀ y ∈ a.2, List.length y ≤ List.length v0) (Int.toNat ((v0.length : Int) - v3)) v3 (v2, v4) _ (Nat.lt_succ_self _) h3
    (fun j a hj hv => ⟨i_Parts_L0_st v0 v1 a.1 (v3 + 1 * (j : Int)) a.2 (by omega) (by omega) (by omega) h2 hv, by
      intro a' he
      grind [i_Parts_L0_f, letK, Stp.elim, wrap64, List.length_set]⟩)
    (fun a hv => by
      show i_Parts_L0_B v0 v1 a.1 (v3 + 1 * (((Int.toNat ((v0.length : Int) - v3)) : Nat) : Int)) a.2 (Option (i_Parts_L0_sh.T ⊕ WT i_Parts_L0_es)) none (fun v' => some (Sum.inl v')) (fun w => some (Sum.inr w)) = _
      unfold i_Parts_L0_B
      exact bifN (by simp only [decide_eq_false_iff_not]; omega) rfl)
theorem i_Parts_L0_nx (v0 : Bytes) (v1 : Int) (v2 : Int) (v3 : Int) (v4 : List Bytes) (h0 : 0 ≤ v3) (h1 : (v0.length : Int) ≤ 4611686018427387904) (h2 : (v0.length : Int) ≤ 4294967296) (h3 : 0 ≤ v2 ∧ v2 ≤ v3 ∧ (v4.length : Int) ≤ v3 ∧ ∀ y ∈ v4, List.length y ≤ List.length v0) : ∀ a', forN (i_Parts_L0_f v0 v1) 1 (Int.toNat ((v0.length : Int) - v3)) v3 (v2, v4) = .next a' → 0 ≤ a'.1 ∧ a'.1 ≤ (v3 + 1 * (((Int.toNat ((v0.length : Int) - v3)) : Nat) : Int)) ∧ (a'.2.length : Int) ≤ (v3 + 1 * (((Int.toNat ((v0.length : Int) - v3)) : Nat) : Int)) ∧ ∀ y ∈ a'.2, List.length y ≤ List.length v0 :=
  forN_inv (f := i_Parts_L0_f v0 v1) (st := 1) (Inv := fun v3 a => 0 ≤ a.1 ∧ a.1 ≤ v3 ∧ (a.2.length : Int) ≤ v3 ∧ ∀ y ∈ a.2, List.length y ≤ List.length v0) (Int.toNat ((v0.length : Int) - v3)) v3 (v2, v4) h3
    (fun j a hj hv => by
      intro a' he
      grind [i_Parts_L0_f, letK, Stp.elim, wrap64, List.length_set])
def i_Parts_N (x0 : Bytes) (x1 : Int) (γ : Type) (fail : γ) (k : List Bytes → γ) : γ :=
  optK (loopF i_Parts_L0_r.step (i_Parts_L0_fu x0 x1 0 0 []) (i_Parts_L0_mk x0 x1 0 0 [])) fail fun w1 =>
    bif (((decide (0 ≤ w1.1.2.2.2.1.1)) && (decide (w1.1.2.2.2.1.1 ≤ (w1.1.1.1.length : Int)))) && (decide ((w1.1.1.1.length : Int) ≤ (w1.1.1.1.length : Int)))) then
    letK (α := Bytes) ((w1.1.1.1.take ((w1.1.1.1.length : Int).toNat)).drop w1.1.2.2.2.1.1.toNat) fun e2 =>
    bif (Nat.ble ((2 * (w1.2.1.length + 1) + 1024) * 16) maxSl) then
    k (w1.2.1 ++ [e2])
    else fail
    else fail
def i_Parts (x0 : Bytes) (x1 : Int) : List Bytes :=
  Stp.elim (fun a3 =>
    (a3.2 ++ [((x0.take ((x0.length : Int).toNat)).drop a3.1.toNat)]))
    (fun p : Empty => nomatch p)
    (forN (i_Parts_L0_f x0 x1) 1 (Int.toNat ((x0.length : Int) - 0)) 0 (0, []))
theorem i_Parts_lk (x0 : Bytes) (x1 : Int) : evalFn te (orcOf (P := Tryd.prog) []) (lorcOf [i_Parts_L0_le]) i_Parts_ann Tryd.f53 (pvs [.sc .str, .sc (.int .u8)] (x0, x1, ())) =
  i_Parts_N x0 x1 _ none (fun v => some [(false, [RC.own true .str v])]) := by kernel_rfl
theorem i_Parts_p (x0 : Bytes) (x1 : Int) (hx0 : List.length x0 ≤ 4611686018427387904) (hx1 : inK .u8 x1) (hp : x0.length ≤ 4294967296) (γ : Type) (fail : γ) (k : List Bytes → γ) : i_Parts_N x0 x1 γ fail k = k (i_Parts x0 x1) := by
  unfold i_Parts_N i_Parts
  refine loopX (f := k) (i_Parts_L0_cl x0 x1 0 0 [] ?_ ?_ ?_ ?_) (fun a3 ha3 => have ia3 := i_Parts_L0_nx x0 x1 0 0 [] ?_ ?_ ?_ ?_ _ ha3; bifG ?_ (letL (bifG ?_ (rfl))))
      (fun p : Empty => nomatch p)
  all_goals ((try simp only [Nat.ble_eq, Bool.and_eq_true, decide_eq_true_eq, i_Parts_L0_mx0]); grind [maxSl, maxStr, toBytes_length, toInts_length, List.length_set, wrap64])
theorem i_Parts_c (x0 : Bytes) (x1 : Int) (hp : x0.length ≤ 4294967296) : Con Tryd.prog 53 (pvs [.sc .str, .sc (.int .u8)] (x0, x1, ())) [rv (.sc (.sl .str)) [.o true] (i_Parts x0 x1)] := by
  refine Con.of_facts (enters_of Tryd.func53 rfl (by kernel_rfl)) fun hf => ?_
  replace hf := factAt hf
  refine evalFn_conL teFact mixFact (orcOf_ok _) Tryd.func53 ?_ (bs := [0]) ?_ ?_ (fun w0 mo I0 hmo => ⟨lsem_of_lorc (i_Parts_L0_ls w0 mo I0 hmo) ?_, trivial⟩) ((i_Parts_lk x0 x1).trans (i_Parts_p x0 x1 ((hf 0 0 rfl rfl).slen) ((hf 1 0 rfl rfl).rng) hp _ _ _))
  all_goals (kernel_rfl)
noncomputable def i_Parts_e : Ent1 Tryd.prog := entP 53 [.sc .str, .sc (.int .u8)] (fun x => (decide (x.1.length ≤ 4294967296))) (fun x => (i_Parts x.1 x.2.1)) (fun v => [rv (.sc (.sl .str)) [.o true] v]) (fun x hx => i_Parts_c x.1 x.2.1 (of_decide_eq_true hx))

theorem i_Parts_pos (x0 : Bytes) (x1 : Int) : 1 ≤ (i_Parts x0 x1).length := by
  unfold i_Parts
  cases hf : forN (i_Parts_L0_f x0 x1) 1 (Int.toNat ((x0.length : Int) - 0)) 0 (0, []) with
  | out p => nomatch p
  | next a =>
    simp only [Stp.elim, List.length_append, List.length_singleton]
    omega
theorem i_Parts_len (x0 : Bytes) (x1 : Int) (h : x0.length ≤ 4294967296) : (i_Parts x0 x1).length ≤ x0.length + 1 := by
  unfold i_Parts
  cases hf : forN (i_Parts_L0_f x0 x1) 1 (Int.toNat ((x0.length : Int) - 0)) 0 (0, []) with
  | out p => nomatch p
  | next a =>
    have h1 := i_Parts_L0_nx x0 x1 0 0 [] (by omega) (by omega) (by omega) (by simp) a hf
    simp only [Stp.elim, List.length_append, List.length_singleton]
    omega
theorem i_Parts_el (x0 : Bytes) (x1 : Int) (h : x0.length ≤ 4294967296) (k : Nat) : ((i_Parts x0 x1).getD k []).length ≤ x0.length := by
  unfold i_Parts
  cases hf : forN (i_Parts_L0_f x0 x1) 1 (Int.toNat ((x0.length : Int) - 0)) 0 (0, []) with
  | out p => nomatch p
  | next a =>
    have h1 := i_Parts_L0_nx x0 x1 0 0 [] (by omega) (by omega) (by omega) (by simp) a hf
    simp only [Stp.elim]
    refine getD_all (p := fun y => List.length y ≤ List.length x0) (by simp) (fun y hy => ?_) k
    rcases List.mem_append.1 hy with hy | hy
    · exact h1.2.2.2 y hy
    · rw [List.mem_singleton] at hy
      subst hy
      simp only [List.length_drop, List.length_take]
      omega


/-- impl.Number -/
def i_Number_ann : List (Nat × Keep) := [(0, ⟨[0, 4, 5], [], false, 0⟩)]
def i_Number_L0_sh : Sh := ⟨[(0, false, [.str]), (4, false, [.int .i64]), (5, false, [.int .i64])], []⟩
def i_Number_L0_es : List (Ex × Sh) := [(.ret, ⟨[(2, false, [.int .i64]), (3, false, [.bool]), (4, false, [.int .i64])], []⟩), (.exit 0, ⟨[(2, false, [.undef]), (3, false, [.undef]), (4, false, [.int .i64])], []⟩)]
def i_Number_L0_mk (v0 : Bytes) (v1 : Int) (v2 : Int) : i_Number_L0_sh.T := (((v0, ()), ((v1, ()), ((v2, ()), ()))), ())
def i_Number_L0_mx0 (y0 : Int) (y1 : Bool) (y2 : Int) : Sh.T ⟨[(2, false, [.int .i64]), (3, false, [.bool]), (4, false, [.int .i64])], []⟩ := (((y0, ()), ((y1, ()), ((y2, ()), ()))), ())
def i_Number_L0_mx1 (y0 : Int) : Sh.T ⟨[(2, false, [.undef]), (3, false, [.undef]), (4, false, [.int .i64])], []⟩ := ((((), ()), (((), ()), ((y0, ()), ()))), ())
def i_Number_L0_B (v0 : Bytes) (v1 : Int) (v2 : Int) (γ : Type) (fail : γ) (next : i_Number_L0_sh.T → γ) (out : WT i_Number_L0_es → γ) : γ :=
  bif (decide (v2 < (v0.length : Int))) then
    bif ((decide (0 ≤ v2)) && (decide (v2 < (v0.length : Int)))) then
    bif (decide ((byteAt v0 v2.toNat) < 48)) then
      out (Sum.inl (i_Number_L0_mx0 0 false v1))
    else
    bif ((decide (0 ≤ v2)) && (decide (v2 < (v0.length : Int)))) then
    bif (decide (57 < (byteAt v0 v2.toNat))) then
      out (Sum.inl (i_Number_L0_mx0 0 false v1))
    else
    bif ((decide (0 ≤ v2)) && (decide (v2 < (v0.length : Int)))) then
    letK (α := Int) (IntKind.wrap .i64 ((IntKind.wrap .i64 (10 * v1)) + (IntKind.wrap .i64 (IntKind.wrap .u8 ((byteAt v0 v2.toNat) - 48))))) fun e1 =>
    next (i_Number_L0_mk v0 e1 (IntKind.wrap .i64 (v2 + 1)))
    else fail
    else fail
    else fail
  else
  out (Sum.inr (i_Number_L0_mx1 v1))
theorem i_Number_L0_par (v0 : Bytes) (v1 : Int) (v2 : Int) (γ : Type) (fail : γ) (next : i_Number_L0_sh.T → γ) (out : WT i_Number_L0_es → γ) : i_Number_L0_B v0 v1 v2 γ fail next out = optK (i_Number_L0_B v0 v1 v2 _ none (fun v' => some (.inl v')) (fun w => some (.inr w))) fail (fun r => Sum.elim next out r) := by
  unfold i_Number_L0_B
  repeat' (first | refine letT (f := (fun o => optK o fail (fun r => Sum.elim next out r))) (fun _ _ => ?_) | refine bifT (f := (fun o => optK o fail (fun r => Sum.elim next out r))) (fun _ => ?_) (fun _ => ?_) | rfl)
def i_Number_L0_r : Round i_Number_L0_sh.T (WT i_Number_L0_es) where
  B v γ fail next out := i_Number_L0_B v.1.1.1 v.1.2.1.1 v.1.2.2.1.1 γ fail next out
  par v γ fail next out := i_Number_L0_par v.1.1.1 v.1.2.1.1 v.1.2.2.1.1 γ fail next out
def i_Number_L0_fu (v0 : Bytes) (v1 : Int) (v2 : Int) : Nat := (Int.toNat ((v0.length : Int) - v2)) + 1
theorem i_Number_L0_lk (v : i_Number_L0_sh.T) (next : St → Option Res) (k : Ex → St → Option Res) : evalK te (orcOf (P := Tryd.prog) []) (lorcOf []) Tryd.f57.ntmps i_Number_ann (nthLoop (bodyOf Tryd.f57) 0 0) 0 (i_Number_L0_sh.enc v) (endK ⟨[0, 4, 5], [], false, 0⟩ ⟨[2, 3, 4], [], false, 0⟩ next k) =
  i_Number_L0_r.B v _ none (fun v' => next (i_Number_L0_sh.enc v')) (fun w => outK i_Number_L0_es k w) := by kernel_rfl
def i_Number_L0_le : LE := leOf 0 i_Number_L0_sh i_Number_L0_es i_Number_L0_r.step (fun v => i_Number_L0_fu v.1.1.1 v.1.2.1.1 v.1.2.2.1.1)
theorem i_Number_L0_ls (w0 : World) (mo : Mts) (I0 : Nat → Prop) (hmo : mo.length = 0) : LSem Tryd.prog (Sim w0 mo Tryd.f57.ntmps I0) (fun b s k => match Nat.beq 0 b with | true => i_Number_L0_le.run s k | false => none) 0 (nthLoop (bodyOf Tryd.f57) 0 0) :=
  le_sem hmo (lorc := lorcOf []) (ann := i_Number_ann) (keep := ⟨[0, 4, 5], [], false, 0⟩) (kout := ⟨[2, 3, 4], [], false, 0⟩) teFact mixFact (orcOf_ok _) (by kernel_rfl) (allLoops_of (bs := []) (by kernel_rfl) trivial) i_Number_L0_r _ i_Number_L0_lk
def i_Number_L0_f (v0 : Bytes) (v2 : Int) (a : Int) : Stp (Int) ((Int)) :=
  bif (decide ((byteAt v0 v2.toNat) < 48)) then
    .out (a)
  else
  bif (decide (57 < (byteAt v0 v2.toNat))) then
    .out (a)
  else
  letK (α := Int) (IntKind.wrap .i64 ((IntKind.wrap .i64 (10 * a)) + (IntKind.wrap .i64 (IntKind.wrap .u8 ((byteAt v0 v2.toNat) - 48))))) fun e1 =>
  .next e1
theorem i_Number_L0_st (v0 : Bytes) (v1 : Int) (v2 : Int) (hlo : 0 ≤ v2) (hhi : v2 < (v0.length : Int)) (hN : (v0.length : Int) ≤ 4611686018427387904) : i_Number_L0_r.step (i_Number_L0_mk v0 v1 v2) = Stp.elim (fun a' : Int => some (Sum.inl (i_Number_L0_mk v0 a' (v2 + 1)))) (fun w => some (Sum.inr ((fun p : Int => Sum.inl (i_Number_L0_mx0 0 false p)) w))) (i_Number_L0_f v0 v2 v1) := by
  have hw : (IntKind.wrap .i64 (v2 + 1)) = v2 + 1 := wrap64 (by omega) (by omega)
  show i_Number_L0_B v0 v1 v2 (Option (i_Number_L0_sh.T ⊕ WT i_Number_L0_es)) none (fun v' => some (Sum.inl v')) (fun w => some (Sum.inr w)) = _
  unfold i_Number_L0_B i_Number_L0_f
  refine bifG (by simp only [decide_eq_true_eq]; omega) (bifG ?_ (bifT (f := (Stp.elim (fun a' : Int => some (Sum.inl (i_Number_L0_mk v0 a' (v2 + 1)))) (fun w => some (Sum.inr ((fun p : Int => Sum.inl (i_Number_L0_mx0 0 false p)) w))))) (fun b0 => rfl)
      (fun b0 => bifG ?_ (bifT (f := (Stp.elim (fun a' : Int => some (Sum.inl (i_Number_L0_mk v0 a' (v2 + 1)))) (fun w => some (Sum.inr ((fun p : Int => Sum.inl (i_Number_L0_mx0 0 false p)) w))))) (fun b1 => rfl)
      (fun b1 => bifG ?_ (letT (f := (Stp.elim (fun a' : Int => some (Sum.inl (i_Number_L0_mk v0 a' (v2 + 1)))) (fun w => some (Sum.inr ((fun p : Int => Sum.inl (i_Number_L0_mx0 0 false p)) w))))) (fun e1 he1 => (by exact congrArg (fun z => some (Sum.inl (i_Number_L0_mk v0 e1 z))) hw))))))))
  all_goals ((try simp only [Nat.ble_eq, Bool.and_eq_true, decide_eq_true_eq]); grind [maxSl, maxStr, toBytes_length, toInts_length, List.length_set, wrap64])
theorem i_Number_L0_cl (v0 : Bytes) (v1 : Int) (v2 : Int) (h0 : 0 ≤ v2) (h1 : (v0.length : Int) ≤ 4611686018427387904) : loopF i_Number_L0_r.step (i_Number_L0_fu v0 v1 v2) (i_Number_L0_mk v0 v1 v2) = some (Stp.elim (fun a => (fun i a => Sum.inr (i_Number_L0_mx1 a)) (v2 + 1 * (((Int.toNat ((v0.length : Int) - v2)) : Nat) : Int)) a) (fun p : Int => Sum.inl (i_Number_L0_mx0 0 false p)) (forN (i_Number_L0_f v0) 1 (Int.toNat ((v0.length : Int) - v2)) v2 v1)) :=
  forN_loop (step := i_Number_L0_r.step) (mk := fun v2 a => i_Number_L0_mk v0 a v2) (f := i_Number_L0_f v0) (e := (fun i a => Sum.inr (i_Number_L0_mx1 a))) (emb := (fun p : Int => Sum.inl (i_Number_L0_mx0 0 false p))) (st := 1) (Inv := fun v2 a => True) (Int.toNat ((v0.length : Int) - v2)) v2 v1 _ (Nat.lt_succ_self _) trivial
    (fun j a hj hv => ⟨i_Number_L0_st v0 a (v2 + 1 * (j : Int)) (by omega) (by omega) (by omega), fun _ _ => trivial⟩)
    (fun a hv => by
      show i_Number_L0_B v0 a (v2 + 1 * (((Int.toNat ((v0.length : Int) - v2)) : Nat) : Int)) (Option (i_Number_L0_sh.T ⊕ WT i_Number_L0_es)) none (fun v' => some (Sum.inl v')) (fun w => some (Sum.inr w)) = _
      unfold i_Number_L0_B
      exact bifN (by simp only [decide_eq_false_iff_not]; omega) rfl)
def i_Number_N (x0 : Bytes) (γ : Type) (fail : γ) (k : Int × Bool → γ) : γ :=
  bif (decide ((x0.length : Int) < 1)) then
    k (0, false)
  else
  bif (decide (12 < (x0.length : Int))) then
    k (0, false)
  else
  bif (decide (1 < (x0.length : Int))) then
    bif (decide (0 < (x0.length : Int))) then
    bif ((byteAt x0 0) == 48) then
      k (0, false)
    else
    optK (loopF i_Number_L0_r.step (i_Number_L0_fu x0 0 0) (i_Number_L0_mk x0 0 0)) fail fun w2 =>
      Sum.elim (fun w2 =>
        k (w2.1.1.1, w2.1.2.1.1))
      (fun w2 =>
        k (w2.1.2.2.1.1, true)) w2
    else fail
  else
  optK (loopF i_Number_L0_r.step (i_Number_L0_fu x0 0 0) (i_Number_L0_mk x0 0 0)) fail fun w4 =>
    Sum.elim (fun w4 =>
      k (w4.1.1.1, w4.1.2.1.1))
    (fun w4 =>
      k (w4.1.2.2.1.1, true)) w4
def i_Number (x0 : Bytes) : Int × Bool :=
  bif (decide ((x0.length : Int) < 1)) then
    (0, false)
  else
  bif (decide (12 < (x0.length : Int))) then
    (0, false)
  else
  bif (decide (1 < (x0.length : Int))) then
    bif ((byteAt x0 0) == 48) then
      (0, false)
    else
    Stp.elim (fun a3 =>
      (a3, true))
      (fun p3 =>
        (0, false))
      (forN (i_Number_L0_f x0) 1 (Int.toNat ((x0.length : Int) - 0)) 0 0)
  else
  Stp.elim (fun a5 =>
    (a5, true))
    (fun p5 =>
      (0, false))
    (forN (i_Number_L0_f x0) 1 (Int.toNat ((x0.length : Int) - 0)) 0 0)
theorem i_Number_lk (x0 : Bytes) : evalFn te (orcOf (P := Tryd.prog) []) (lorcOf [i_Number_L0_le]) i_Number_ann Tryd.f57 (pvs [.sc .str] (x0, ())) =
  i_Number_N x0 _ none (fun v => some [(false, [RC.c (.int .i64 v.1)]), (false, [RC.c (.bool v.2)])]) := by kernel_rfl
theorem i_Number_p (x0 : Bytes) (hx0 : List.length x0 ≤ 4611686018427387904)  (γ : Type) (fail : γ) (k : Int × Bool → γ) : i_Number_N x0 γ fail k = k (i_Number x0) := by
  unfold i_Number_N i_Number
  refine bifT (f := k) (fun b0 => rfl)
      (fun b0 => bifT (f := k) (fun b1 => rfl)
      (fun b1 => bifT (f := k) (fun b2 => bifG ?_ (bifT (f := k) (fun b3 => rfl)
      (fun b3 => loopT (f := k) (i_Number_L0_cl x0 0 0 ?_ ?_) (fun a3 => rfl)
      (fun p3 => rfl))))
      (fun b2 => loopT (f := k) (i_Number_L0_cl x0 0 0 ?_ ?_) (fun a5 => rfl)
      (fun p5 => rfl))))
  all_goals ((try simp only [Nat.ble_eq, Bool.and_eq_true, decide_eq_true_eq, i_Number_L0_mx0, i_Number_L0_mx1]); grind [maxSl, maxStr, toBytes_length, toInts_length, List.length_set, wrap64])
theorem i_Number_c (x0 : Bytes)  : Con Tryd.prog 57 (pvs [.sc .str] (x0, ())) [rv (.sc (.int .i64)) [] (i_Number x0).1, rv (.sc .bool) [] (i_Number x0).2] := by
  refine Con.of_facts (enters_of Tryd.func57 rfl (by kernel_rfl)) fun hf => ?_
  replace hf := factAt hf
  refine evalFn_conL teFact mixFact (orcOf_ok _) Tryd.func57 ?_ (bs := [0]) ?_ ?_ (fun w0 mo I0 hmo => ⟨lsem_of_lorc (i_Number_L0_ls w0 mo I0 hmo) ?_, trivial⟩) ((i_Number_lk x0).trans (i_Number_p x0 ((hf 0 0 rfl rfl).slen) _ _ _))
  all_goals (kernel_rfl)
noncomputable def i_Number_e : Ent1 Tryd.prog := entA 57 [.sc .str] (fun x => (i_Number x.1)) (fun v => [rv (.sc (.int .i64)) [] v.1, rv (.sc .bool) [] v.2]) (fun x => i_Number_c x.1)


/-- spec.Joined -/
def s_Joined_ann : List (Nat × Keep) := [(0, ⟨[0, 1, 5, 6], [], false, 0⟩)]
def s_Joined_L0_sh : Sh := ⟨[(0, false, [.sl .arg .str]), (1, false, [.str]), (5, false, [.own 0]), (6, false, [.int .i64])], [.arr .u8 false true]⟩
def s_Joined_L0_es : List (Ex × Sh) := [(.exit 0, ⟨[(4, false, [.undef]), (5, false, [.own 0])], [.arr .u8 false true]⟩)]
def s_Joined_L0_mk (v0 : List Bytes) (v1 : Bytes) (v2 : Int) (v3 : List Int) : s_Joined_L0_sh.T := (((v0, ()), ((v1, ()), (((), ()), ((v2, ()), ())))), (v3, ()))
def s_Joined_L0_mx0 (y0 : List Int) : Sh.T ⟨[(4, false, [.undef]), (5, false, [.own 0])], [.arr .u8 false true]⟩ := ((((), ()), (((), ()), ())), (y0, ()))
def s_Joined_L0_B (v0 : List Bytes) (v1 : Bytes) (v2 : Int) (v3 : List Int) (γ : Type) (fail : γ) (next : s_Joined_L0_sh.T → γ) (out : WT s_Joined_L0_es → γ) : γ :=
  bif (decide (v2 < (v0.length : Int))) then
    bif (decide (0 < v2)) then
      bif (Nat.ble ((2 * (v3.length + (toInts v1).length) + 1024) * 1) maxSl) then
      bif ((decide (0 ≤ v2)) && (decide (v2 < (v0.length : Int)))) then
      bif (Nat.ble ((2 * ((v3 ++ (toInts v1)).length + (toInts (v0.getD v2.toNat [])).length) + 1024) * 1) maxSl) then
      next (s_Joined_L0_mk v0 v1 (IntKind.wrap .i64 (v2 + 1)) ((v3 ++ (toInts v1)) ++ (toInts (v0.getD v2.toNat []))))
      else fail
      else fail
      else fail
    else
    bif ((decide (0 ≤ v2)) && (decide (v2 < (v0.length : Int)))) then
    bif (Nat.ble ((2 * (v3.length + (toInts (v0.getD v2.toNat [])).length) + 1024) * 1) maxSl) then
    next (s_Joined_L0_mk v0 v1 (IntKind.wrap .i64 (v2 + 1)) (v3 ++ (toInts (v0.getD v2.toNat []))))
    else fail
    else fail
  else
  out (s_Joined_L0_mx0 v3)
theorem s_Joined_L0_par (v0 : List Bytes) (v1 : Bytes) (v2 : Int) (v3 : List Int) (γ : Type) (fail : γ) (next : s_Joined_L0_sh.T → γ) (out : WT s_Joined_L0_es → γ) : s_Joined_L0_B v0 v1 v2 v3 γ fail next out = optK (s_Joined_L0_B v0 v1 v2 v3 _ none (fun v' => some (.inl v')) (fun w => some (.inr w))) fail (fun r => Sum.elim next out r) := by
  unfold s_Joined_L0_B
  repeat' (first | refine letT (f := (fun o => optK o fail (fun r => Sum.elim next out r))) (fun _ _ => ?_) | refine bifT (f := (fun o => optK o fail (fun r => Sum.elim next out r))) (fun _ => ?_) (fun _ => ?_) | rfl)
def s_Joined_L0_r : Round s_Joined_L0_sh.T (WT s_Joined_L0_es) where
  B v γ fail next out := s_Joined_L0_B v.1.1.1 v.1.2.1.1 v.1.2.2.2.1.1 v.2.1 γ fail next out
  par v γ fail next out := s_Joined_L0_par v.1.1.1 v.1.2.1.1 v.1.2.2.2.1.1 v.2.1 γ fail next out
def s_Joined_L0_fu (v0 : List Bytes) (v1 : Bytes) (v2 : Int) (v3 : List Int) : Nat := (Int.toNat ((v0.length : Int) - v2)) + 1
theorem s_Joined_L0_lk (v : s_Joined_L0_sh.T) (next : St → Option Res) (k : Ex → St → Option Res) : evalK te (orcOf (P := Tryd.prog) []) (lorcOf []) Tryd.f60.ntmps s_Joined_ann (nthLoop (bodyOf Tryd.f60) 0 0) 0 (s_Joined_L0_sh.enc v) (endK ⟨[0, 1, 5, 6], [], false, 0⟩ ⟨[4, 5], [], false, 0⟩ next k) =
  s_Joined_L0_r.B v _ none (fun v' => next (s_Joined_L0_sh.enc v')) (fun w => outK s_Joined_L0_es k w) := by kernel_rfl
def s_Joined_L0_le : LE := leOf 0 s_Joined_L0_sh s_Joined_L0_es s_Joined_L0_r.step (fun v => s_Joined_L0_fu v.1.1.1 v.1.2.1.1 v.1.2.2.2.1.1 v.2.1)
theorem s_Joined_L0_ls (w0 : World) (mo : Mts) (I0 : Nat → Prop) (hmo : mo.length = 0) : LSem Tryd.prog (Sim w0 mo Tryd.f60.ntmps I0) (fun b s k => match Nat.beq 0 b with | true => s_Joined_L0_le.run s k | false => none) 0 (nthLoop (bodyOf Tryd.f60) 0 0) :=
  le_sem hmo (lorc := lorcOf []) (ann := s_Joined_ann) (keep := ⟨[0, 1, 5, 6], [], false, 0⟩) (kout := ⟨[4, 5], [], false, 0⟩) teFact mixFact (orcOf_ok _) (by kernel_rfl) (allLoops_of (bs := []) (by kernel_rfl) trivial) s_Joined_L0_r _ s_Joined_L0_lk
def s_Joined_L0_f (v0 : List Bytes) (v1 : Bytes) (v2 : Int) (a : List Int) : Stp (List Int) (Empty) :=
  bif (decide (0 < v2)) then
    .next ((a ++ (toInts v1)) ++ (toInts (v0.getD v2.toNat [])))
  else
  .next (a ++ (toInts (v0.getD v2.toNat [])))
theorem s_Joined_L0_st (v0 : List Bytes) (v1 : Bytes) (v2 : Int) (v3 : List Int) (hlo : 0 ≤ v2) (hhi : v2 < (v0.length : Int)) (hN : (v0.length : Int) ≤ 4611686018427387904) (hi0 : (v0.length : Int) ≤ 65536) (hi1 : v1.length ≤ 65536) (hi2 : ∀ y ∈ v0, List.length y ≤ 65536) (hinv : (v3.length : Int) ≤ v2 * 131072) : s_Joined_L0_r.step (s_Joined_L0_mk v0 v1 v2 v3) = Stp.elim (fun a' : List Int => some (Sum.inl (s_Joined_L0_mk v0 v1 (v2 + 1) a'))) (fun w => some (Sum.inr ((fun p : Empty => nomatch p) w))) (s_Joined_L0_f v0 v1 v2 v3) := by
  have hw : (IntKind.wrap .i64 (v2 + 1)) = v2 + 1 := wrap64 (by omega) (by omega)
  show s_Joined_L0_B v0 v1 v2 v3 (Option (s_Joined_L0_sh.T ⊕ WT s_Joined_L0_es)) none (fun v' => some (Sum.inl v')) (fun w => some (Sum.inr w)) = _
  unfold s_Joined_L0_B s_Joined_L0_f
  refine bifG (by simp only [decide_eq_true_eq]; omega) (bifT (f := (Stp.elim (fun a' : List Int => some (Sum.inl (s_Joined_L0_mk v0 v1 (v2 + 1) a'))) (fun w => some (Sum.inr ((fun p : Empty => nomatch p) w))))) (fun b0 => bifG ?_ (bifG ?_ (bifG ?_ ((by exact congrArg (fun z => some (Sum.inl (s_Joined_L0_mk v0 v1 z ((v3 ++ (toInts v1)) ++ (toInts (v0.getD v2.toNat [])))))) hw)))))
      (fun b0 => bifG ?_ (bifG ?_ ((by exact congrArg (fun z => some (Sum.inl (s_Joined_L0_mk v0 v1 z (v3 ++ (toInts (v0.getD v2.toNat [])))))) hw)))))
  all_goals ((try simp only [Nat.ble_eq, Bool.and_eq_true, decide_eq_true_eq]); grind [maxSl, maxStr, toBytes_length, toInts_length, List.length_set, wrap64])
theorem s_Joined_L0_cl (v0 : List Bytes) (v1 : Bytes) (v2 : Int) (v3 : List Int) (h0 : 0 ≤ v2) (h1 : (v0.length : Int) ≤ 4611686018427387904) (h2 : (v0.length : Int) ≤ 65536) (h3 : v1.length ≤ 65536) (h4 : ∀ y ∈ v0, List.length y ≤ 65536) (h5 : (v3.length : Int) ≤ v2 * 131072) : loopF s_Joined_L0_r.step (s_Joined_L0_fu v0 v1 v2 v3) (s_Joined_L0_mk v0 v1 v2 v3) = some (Stp.elim (fun a => (fun i a => s_Joined_L0_mx0 a) (v2 + 1 * (((Int.toNat ((v0.length : Int) - v2)) : Nat) : Int)) a) (fun p : Empty => nomatch p) (forN (s_Joined_L0_f v0 v1) 1 (Int.toNat ((v0.length : Int) - v2)) v2 v3)) :=
  forN_loop (step := s_Joined_L0_r.step) (mk := fun v2 a => s_Joined_L0_mk v0 v1 v2 a) (f := s_Joined_L0_f v0 v1) (e := (fun i a => s_Joined_L0_mx0 a)) (emb := (fun p : Empty => nomatch p)) (st := 1) (Inv := fun v2 a => (a.length : Int) ≤ v2 * 131072) (Int.toNat ((v0.length : Int) - v2)) v2 v3 _ (Nat.lt_succ_self _) h5
    (fun j a hj hv => ⟨s_Joined_L0_st v0 v1 (v2 + 1 * (j : Int)) a (by omega) (by omega) (by omega) h2 h3 h4 hv, by
      intro a' he
      have hm : (v0.getD (v2 + 1 * (j : Int)).toNat []).length ≤ 65536 := getD_all (p := fun y => List.length y ≤ 65536) (by simp) (fun y hy => by first | exact h4 y hy | exact h3 y hy) _
      unfold s_Joined_L0_f at he
      cases hc : decide (0 < v2 + 1 * (j : Int)) <;> rw [hc] at he <;> simp only [cond_true, cond_false, letK] at he <;> cases he <;> simp only [List.length_append, toInts_length] <;> omega⟩)
    (fun a hv => by
      show s_Joined_L0_B v0 v1 (v2 + 1 * (((Int.toNat ((v0.length : Int) - v2)) : Nat) : Int)) a (Option (s_Joined_L0_sh.T ⊕ WT s_Joined_L0_es)) none (fun v' => some (Sum.inl v')) (fun w => some (Sum.inr w)) = _
      unfold s_Joined_L0_B
      exact bifN (by simp only [decide_eq_false_iff_not]; omega) rfl)
theorem s_Joined_L0_nx (v0 : List Bytes) (v1 : Bytes) (v2 : Int) (v3 : List Int) (h0 : 0 ≤ v2) (h1 : (v0.length : Int) ≤ 4611686018427387904) (h2 : (v0.length : Int) ≤ 65536) (h3 : v1.length ≤ 65536) (h4 : ∀ y ∈ v0, List.length y ≤ 65536) (h5 : (v3.length : Int) ≤ v2 * 131072) : ∀ a', forN (s_Joined_L0_f v0 v1) 1 (Int.toNat ((v0.length : Int) - v2)) v2 v3 = .next a' → (a'.length : Int) ≤ (v2 + 1 * (((Int.toNat ((v0.length : Int) - v2)) : Nat) : Int)) * 131072 :=
  forN_inv (f := s_Joined_L0_f v0 v1) (st := 1) (Inv := fun v2 a => (a.length : Int) ≤ v2 * 131072) (Int.toNat ((v0.length : Int) - v2)) v2 v3 h5
    (fun j a hj hv => by
      intro a' he
      have hm : (v0.getD (v2 + 1 * (j : Int)).toNat []).length ≤ 65536 := getD_all (p := fun y => List.length y ≤ 65536) (by simp) (fun y hy => by first | exact h4 y hy | exact h3 y hy) _
      unfold s_Joined_L0_f at he
      cases hc : decide (0 < v2 + 1 * (j : Int)) <;> rw [hc] at he <;> simp only [cond_true, cond_false, letK] at he <;> cases he <;> simp only [List.length_append, toInts_length] <;> omega)
def s_Joined_N (x0 : List Bytes) (x1 : Bytes) (γ : Type) (fail : γ) (k : Bytes → γ) : γ :=
  optK (loopF s_Joined_L0_r.step (s_Joined_L0_fu x0 x1 0 []) (s_Joined_L0_mk x0 x1 0 [])) fail fun w1 =>
    k (toBytes w1.2.1)
def s_Joined (x0 : List Bytes) (x1 : Bytes) : Bytes :=
  Stp.elim (fun a2 =>
    (toBytes a2))
    (fun p : Empty => nomatch p)
    (forN (s_Joined_L0_f x0 x1) 1 (Int.toNat ((x0.length : Int) - 0)) 0 [])
theorem s_Joined_lk (x0 : List Bytes) (x1 : Bytes) : evalFn te (orcOf (P := Tryd.prog) []) (lorcOf [s_Joined_L0_le]) s_Joined_ann Tryd.f60 (pvs [.sc (.sl .str), .sc .str] (x0, x1, ())) =
  s_Joined_N x0 x1 _ none (fun v => some [(false, [RC.c (.str v)])]) := by kernel_rfl
theorem s_Joined_p (x0 : List Bytes) (x1 : Bytes) (hx0 : x0.length ≤ 140737488355328) (hx0_e : ∀ y ∈ x0, List.length y ≤ 4611686018427387904) (hx1 : List.length x1 ≤ 4611686018427387904) (hp : x0.length ≤ 65536 ∧ (∀ y ∈ x0, y.length ≤ 65536) ∧ x1.length ≤ 65536) (γ : Type) (fail : γ) (k : Bytes → γ) : s_Joined_N x0 x1 γ fail k = k (s_Joined x0 x1) := by
  unfold s_Joined_N s_Joined
  refine loopX (f := k) (s_Joined_L0_cl x0 x1 0 [] ?_ ?_ ?_ ?_ ?_ ?_) (fun a2 ha2 => have ia2 := s_Joined_L0_nx x0 x1 0 [] ?_ ?_ ?_ ?_ ?_ ?_ _ ha2; rfl)
      (fun p : Empty => nomatch p)
  all_goals ((try simp only [Nat.ble_eq, Bool.and_eq_true, decide_eq_true_eq, s_Joined_L0_mx0]); grind [maxSl, maxStr, toBytes_length, toInts_length, List.length_set, wrap64])
theorem s_Joined_c (x0 : List Bytes) (x1 : Bytes) (hp : x0.length ≤ 65536 ∧ (∀ y ∈ x0, y.length ≤ 65536) ∧ x1.length ≤ 65536) : Con Tryd.prog 60 (pvs [.sc (.sl .str), .sc .str] (x0, x1, ())) [rv (.sc .str) [] (s_Joined x0 x1)] := by
  refine Con.of_facts (enters_of Tryd.func60 rfl (by kernel_rfl)) fun hf => ?_
  replace hf := factAt hf
  refine evalFn_conL teFact mixFact (orcOf_ok _) Tryd.func60 ?_ (bs := [0]) ?_ ?_ (fun w0 mo I0 hmo => ⟨lsem_of_lorc (s_Joined_L0_ls w0 mo I0 hmo) ?_, trivial⟩) ((s_Joined_lk x0 x1).trans (s_Joined_p x0 x1 ((hf 0 0 rfl rfl).len) (fun y hy => ((hf 0 0 rfl rfl).elem hy (.str y) List.mem_cons_self).slen) ((hf 1 0 rfl rfl).slen) hp _ _ _))
  all_goals (kernel_rfl)
noncomputable def s_Joined_e : Ent1 Tryd.prog := entP 60 [.sc (.sl .str), .sc .str] (fun x => (decide (x.1.length ≤ 65536 ∧ (∀ y ∈ x.1, y.length ≤ 65536) ∧ x.2.1.length ≤ 65536))) (fun x => (s_Joined x.1 x.2.1)) (fun v => [rv (.sc .str) [] v]) (fun x hx => s_Joined_c x.1 x.2.1 (of_decide_eq_true hx))

theorem s_Joined_len (x0 : List Bytes) (x1 : Bytes) (hp : x0.length ≤ 65536 ∧ (∀ y ∈ x0, y.length ≤ 65536) ∧ x1.length ≤ 65536)  : (fun v : Bytes => v.length ≤ 8589934592) (s_Joined x0 x1) := by
  unfold s_Joined
  refine loopP (P := (fun v : Bytes => v.length ≤ 8589934592)) (fun a2 ha2 => have ia2 := s_Joined_L0_nx x0 x1 0 [] ?_ ?_ ?_ ?_ ?_ ?_ _ ha2; ?_)
      (fun p _ => nomatch p)
  all_goals ((try simp only [Nat.ble_eq, Bool.and_eq_true, decide_eq_true_eq, s_Joined_L0_mx0]); grind [maxSl, maxStr, toBytes_length, toInts_length, List.length_set, wrap64])

/-- impl.Joined -/
def i_Joined_N (x0 : List Bytes) (x1 : Bytes) (γ : Type) (fail : γ) (k : Bytes → γ) : γ :=
  bif (decide ((lb_Join x0 x1).length ≤ 140737488355328)) then
  letK (α := Bytes) (lb_Join x0 x1) fun c1 =>
  k c1
  else fail
def i_Joined (x0 : List Bytes) (x1 : Bytes) : Bytes :=
  letK (α := Bytes) (lb_Join x0 x1) fun c1 =>
  c1
theorem i_Joined_lk (x0 : List Bytes) (x1 : Bytes) : evalFn te (orcOf (P := Tryd.prog) [lb_Join_e]) lorc0 [] Tryd.f61 (pvs [.sc (.sl .str), .sc .str] (x0, x1, ())) =
  i_Joined_N x0 x1 _ none (fun v => some [(false, [RC.c (.str v)])]) := by kernel_rfl
theorem i_Joined_p (x0 : List Bytes) (x1 : Bytes) (hx0 : x0.length ≤ 140737488355328) (hx0_e : ∀ y ∈ x0, List.length y ≤ 4611686018427387904) (hx1 : List.length x1 ≤ 4611686018427387904) (hp : x0.length ≤ 65536 ∧ (∀ y ∈ x0, List.length y ≤ 65536) ∧ x1.length ≤ 65536) (γ : Type) (fail : γ) (k : Bytes → γ) : i_Joined_N x0 x1 γ fail k = k (i_Joined x0 x1) := by
  unfold i_Joined_N i_Joined
  exact bifG (by simp only [decide_eq_true_eq]; exact Nat.le_trans (lb_Join_len x0 x1 hp.1 hp.2.1 hp.2.2) (by decide)) (letT (f := k) (fun c1 hc1 => rfl))
theorem i_Joined_c (x0 : List Bytes) (x1 : Bytes) (hp : x0.length ≤ 65536 ∧ (∀ y ∈ x0, List.length y ≤ 65536) ∧ x1.length ≤ 65536) : Con Tryd.prog 61 (pvs [.sc (.sl .str), .sc .str] (x0, x1, ())) [rv (.sc .str) [] (i_Joined x0 x1)] := by
  refine Con.of_facts (enters_of Tryd.func61 rfl (by kernel_rfl)) fun hf => ?_
  replace hf := factAt hf
  exact evalFn_con0 teFact mixFact (orcOf_ok _) Tryd.func61 (by kernel_rfl) ((i_Joined_lk x0 x1).trans (i_Joined_p x0 x1 ((hf 0 0 rfl rfl).len) (fun y hy => ((hf 0 0 rfl rfl).elem hy (.str y) List.mem_cons_self).slen) ((hf 1 0 rfl rfl).slen) hp _ _ _))
noncomputable def i_Joined_e : Ent1 Tryd.prog := entP 61 [.sc (.sl .str), .sc .str] (fun x => (decide (x.1.length ≤ 65536 ∧ (∀ y ∈ x.1, List.length y ≤ 65536) ∧ x.2.1.length ≤ 65536))) (fun x => (i_Joined x.1 x.2.1)) (fun v => [rv (.sc .str) [] v]) (fun x hx => i_Joined_c x.1 x.2.1 (of_decide_eq_true hx))

theorem i_Joined_len (x0 : List Bytes) (x1 : Bytes) (hp : x0.length ≤ 65536 ∧ (∀ y ∈ x0, List.length y ≤ 65536) ∧ x1.length ≤ 65536)  : (fun v : Bytes => v.length ≤ 8589934592) (i_Joined x0 x1) := by
  unfold i_Joined
  exact letP (P := (fun v : Bytes => v.length ≤ 8589934592)) (fun c1 hc1 => (by subst_vars; exact lb_Join_len x0 x1 hp.1 hp.2.1 hp.2.2))

/-- laws.markText -/
def w_markText_ann : List (Nat × Keep) := [(0, ⟨[0, 3], [], false, 0⟩)]
def w_markText_L0_sh : Sh := ⟨[(0, false, [.int .i64]), (3, false, [.str])], []⟩
def w_markText_L0_es : List (Ex × Sh) := [(.exit 0, ⟨[(2, false, [.undef]), (3, false, [.str])], []⟩)]
def w_markText_L0_mk (v0 : Int) (v1 : Bytes) : w_markText_L0_sh.T := (((v0, ()), ((v1, ()), ())), ())
def w_markText_L0_mx0 (y0 : Bytes) : Sh.T ⟨[(2, false, [.undef]), (3, false, [.str])], []⟩ := ((((), ()), ((y0, ()), ())), ())
def w_markText_L0_B (v0 : Int) (v1 : Bytes) (γ : Type) (fail : γ) (next : w_markText_L0_sh.T → γ) (out : WT w_markText_L0_es → γ) : γ :=
  bif (decide (0 < v0)) then
    bif (Nat.ble ((toBytes [(IntKind.wrap .u8 (IntKind.wrap .i64 (48 + (v0.tmod 10))))]).length + v1.length) maxStr) then
    letK (α := Bytes) ((toBytes [(IntKind.wrap .u8 (IntKind.wrap .i64 (48 + (v0.tmod 10))))]) ++ v1) fun e1 =>
    next (w_markText_L0_mk (IntKind.wrap .i64 (v0.tdiv 10)) e1)
    else fail
  else
  out (w_markText_L0_mx0 v1)
theorem w_markText_L0_par (v0 : Int) (v1 : Bytes) (γ : Type) (fail : γ) (next : w_markText_L0_sh.T → γ) (out : WT w_markText_L0_es → γ) : w_markText_L0_B v0 v1 γ fail next out = optK (w_markText_L0_B v0 v1 _ none (fun v' => some (.inl v')) (fun w => some (.inr w))) fail (fun r => Sum.elim next out r) := by
  unfold w_markText_L0_B
  repeat' (first | refine letT (f := (fun o => optK o fail (fun r => Sum.elim next out r))) (fun _ _ => ?_) | refine bifT (f := (fun o => optK o fail (fun r => Sum.elim next out r))) (fun _ => ?_) (fun _ => ?_) | rfl)
def w_markText_L0_r : Round w_markText_L0_sh.T (WT w_markText_L0_es) where
  B v γ fail next out := w_markText_L0_B v.1.1.1 v.1.2.1.1 γ fail next out
  par v γ fail next out := w_markText_L0_par v.1.1.1 v.1.2.1.1 γ fail next out
def w_markText_L0_fu (v0 : Int) (v1 : Bytes) : Nat := (Int.toNat v0) + 1
theorem w_markText_L0_lk (v : w_markText_L0_sh.T) (next : St → Option Res) (k : Ex → St → Option Res) : evalK te (orcOf (P := Tryd.prog) []) (lorcOf []) Tryd.f62.ntmps w_markText_ann (nthLoop (bodyOf Tryd.f62) 0 0) 0 (w_markText_L0_sh.enc v) (endK ⟨[0, 3], [], false, 0⟩ ⟨[2, 3], [], false, 0⟩ next k) =
  w_markText_L0_r.B v _ none (fun v' => next (w_markText_L0_sh.enc v')) (fun w => outK w_markText_L0_es k w) := by kernel_rfl
def w_markText_L0_le : LE := leOf 0 w_markText_L0_sh w_markText_L0_es w_markText_L0_r.step (fun v => w_markText_L0_fu v.1.1.1 v.1.2.1.1)
theorem w_markText_L0_ls (w0 : World) (mo : Mts) (I0 : Nat → Prop) (hmo : mo.length = 0) : LSem Tryd.prog (Sim w0 mo Tryd.f62.ntmps I0) (fun b s k => match Nat.beq 0 b with | true => w_markText_L0_le.run s k | false => none) 0 (nthLoop (bodyOf Tryd.f62) 0 0) :=
  le_sem hmo (lorc := lorcOf []) (ann := w_markText_ann) (keep := ⟨[0, 3], [], false, 0⟩) (kout := ⟨[2, 3], [], false, 0⟩) teFact mixFact (orcOf_ok _) (by kernel_rfl) (allLoops_of (bs := []) (by kernel_rfl) trivial) w_markText_L0_r _ w_markText_L0_lk
def w_markText_L0_f  (a : Int × Bytes) : Stp (Int × Bytes) ((Bytes)) :=
  bif (decide (0 < a.1)) then
    letK (α := Bytes) ((toBytes [(IntKind.wrap .u8 (IntKind.wrap .i64 (48 + (a.1.tmod 10))))]) ++ a.2) fun e1 =>
    .next ((IntKind.wrap .i64 (a.1.tdiv 10)), e1)
  else
  .out (a.2)
def w_markText_L0_w (v0 : Int) (v1 : Bytes) : (Bytes) := whileN (w_markText_L0_f ) (w_markText_L0_fu v0 v1) (v0, v1)
theorem w_markText_L0_st (v0 : Int) (v1 : Bytes) (hinv : 0 ≤ v0 ∧ v0 ≤ 9223372036854775807 ∧ 9 * (v1.length : Int) + v0 ≤ 9223372036854775816 ∧ (v0 = 0 ∨ 9 * (v1.length : Int) + v0 ≤ 9223372036854775807)) : w_markText_L0_r.step (w_markText_L0_mk v0 v1) = Stp.elim (fun a' : Int × Bytes => some (Sum.inl (w_markText_L0_mk a'.1 a'.2))) (fun w => some (Sum.inr ((fun p : Bytes => w_markText_L0_mx0 p) w))) (w_markText_L0_f  (v0, v1)) := by
  show w_markText_L0_B v0 v1 (Option (w_markText_L0_sh.T ⊕ WT w_markText_L0_es)) none (fun v' => some (Sum.inl v')) (fun w => some (Sum.inr w)) = _
  unfold w_markText_L0_B w_markText_L0_f
  exact bifT (f := (Stp.elim (fun a' : Int × Bytes => some (Sum.inl (w_markText_L0_mk a'.1 a'.2))) (fun w => some (Sum.inr ((fun p : Bytes => w_markText_L0_mx0 p) w))))) (fun b0 => bifG (by (try simp only [Nat.ble_eq, Bool.and_eq_true, decide_eq_true_eq]); grind [maxSl, maxStr, toBytes_length, toInts_length, List.length_set, wrap64]) (letT (f := (Stp.elim (fun a' : Int × Bytes => some (Sum.inl (w_markText_L0_mk a'.1 a'.2))) (fun w => some (Sum.inr ((fun p : Bytes => w_markText_L0_mx0 p) w))))) (fun e1 he1 => rfl)))
      (fun b0 => rfl)
theorem w_markText_L0_dn  (a : Int × Bytes) (hv : 0 ≤ a.1 ∧ a.1 ≤ 9223372036854775807 ∧ 9 * (a.2.length : Int) + a.1 ≤ 9223372036854775816 ∧ (a.1 = 0 ∨ 9 * (a.2.length : Int) + a.1 ≤ 9223372036854775807)) (a' : Int × Bytes) (he : w_markText_L0_f  a = .next a') : (0 ≤ a'.1 ∧ a'.1 ≤ 9223372036854775807 ∧ 9 * (a'.2.length : Int) + a'.1 ≤ 9223372036854775816 ∧ (a'.1 = 0 ∨ 9 * (a'.2.length : Int) + a'.1 ≤ 9223372036854775807)) ∧ Int.toNat a'.1 < Int.toNat a.1 := by
  unfold w_markText_L0_f at he
  cases hd : decide (0 < a.1) with
  | false => rw [hd] at he; cases he
  | true =>
    rw [hd] at he; simp only [cond_true, letK] at he; cases he
    simp only [decide_eq_true_eq] at hd
    have h1 : a.1.tdiv 10 = a.1 / 10 := (tdiv_pos 10).1 (by omega)
    simp only [h1, wrap64_def, List.length_append, toBytes_length, List.length_singleton]
    omega
theorem w_markText_L0_cl (v0 : Int) (v1 : Bytes) (h0 : 0 ≤ v0 ∧ v0 ≤ 9223372036854775807 ∧ 9 * (v1.length : Int) + v0 ≤ 9223372036854775816 ∧ (v0 = 0 ∨ 9 * (v1.length : Int) + v0 ≤ 9223372036854775807)) : loopF w_markText_L0_r.step (w_markText_L0_fu v0 v1) (w_markText_L0_mk v0 v1) = some ((fun p : Bytes => w_markText_L0_mx0 p) (w_markText_L0_w v0 v1)) :=
  while_loop (A := Int × Bytes) (step := w_markText_L0_r.step) (mk := fun a => w_markText_L0_mk a.1 a.2) (f := w_markText_L0_f ) (emb := (fun p : Bytes => w_markText_L0_mx0 p)) (Inv := fun a => 0 ≤ a.1 ∧ a.1 ≤ 9223372036854775807 ∧ 9 * (a.2.length : Int) + a.1 ≤ 9223372036854775816 ∧ (a.1 = 0 ∨ 9 * (a.2.length : Int) + a.1 ≤ 9223372036854775807)) (meas := fun a => Int.toNat a.1)
    (fun a hv => ⟨w_markText_L0_st a.1 a.2 hv, w_markText_L0_dn  a hv⟩) _ (v0, v1) (Nat.lt_succ_self _) h0
theorem w_markText_L0_post (v0 : Int) (v1 : Bytes) (h : 0 ≤ v0 ∧ v0 ≤ 9223372036854775807 ∧ 9 * (v1.length : Int) + v0 ≤ 9223372036854775816 ∧ (v0 = 0 ∨ 9 * (v1.length : Int) + v0 ≤ 9223372036854775807)) : 9 * ((w_markText_L0_w v0 v1).length : Int) ≤ 9223372036854775816 := by
  refine whileN_post (f := w_markText_L0_f) (Inv := fun a => 0 ≤ a.1 ∧ a.1 ≤ 9223372036854775807 ∧ 9 * (a.2.length : Int) + a.1 ≤ 9223372036854775816 ∧ (a.1 = 0 ∨ 9 * (a.2.length : Int) + a.1 ≤ 9223372036854775807)) (Q := fun w => 9 * ((w : Bytes).length : Int) ≤ 9223372036854775816) (meas := fun a => Int.toNat a.1) (fun a hi a' he => w_markText_L0_dn a hi a' he) (fun a hi w he => ?_) _ (v0, v1) (Nat.lt_succ_self _) h
  unfold w_markText_L0_f at he
  cases hd : decide (0 < a.1) <;> rw [hd] at he
  · cases he; have := hi.2.2.1; have := hi.1; show 9 * (a.2.length : Int) ≤ _; omega
  · cases he

def w_markText_N (x0 : Int) (γ : Type) (fail : γ) (k : Bytes → γ) : γ :=
  bif (decide (x0 ≤ 0)) then
    k [109, 48]
  else
  optK (loopF w_markText_L0_r.step (w_markText_L0_fu x0 []) (w_markText_L0_mk x0 [])) fail fun w2 =>
    bif (Nat.ble (1 + w2.1.2.1.1.length) maxStr) then
    k ([109] ++ w2.1.2.1.1)
    else fail
def w_markText (x0 : Int) : Bytes :=
  bif (decide (x0 ≤ 0)) then
    [109, 48]
  else
  letK (α := (Bytes)) (w_markText_L0_w x0 [])
    (fun p3 =>
      ([109] ++ p3))
theorem w_markText_lk (x0 : Int) : evalFn te (orcOf (P := Tryd.prog) []) (lorcOf [w_markText_L0_le]) w_markText_ann Tryd.f62 (pvs [.sc (.int .i64)] (x0, ())) =
  w_markText_N x0 _ none (fun v => some [(false, [RC.c (.str v)])]) := by kernel_rfl
theorem w_markText_p (x0 : Int) (hx0 : inK .i64 x0)  (γ : Type) (fail : γ) (k : Bytes → γ) : w_markText_N x0 γ fail k = k (w_markText x0) := by
  unfold w_markText_N w_markText
  refine bifT (f := k) (fun b0 => rfl)
      (fun b0 => loopW (f := k) (emb := (fun p : Bytes => w_markText_L0_mx0 p)) (w_markText_L0_cl x0 [] ?_) (fun p3 hp3 => bifG ?_ (rfl)))
  all_goals ((try simp only [Nat.ble_eq, decide_eq_true_eq, decide_eq_false_iff_not, w_markText_L0_mx0] at *); have hh := inK64 hx0; first | (simp only [List.length_nil]; omega) | (have hq := w_markText_L0_post x0 [] (by simp only [List.length_nil]; omega); subst_vars; simp only [maxStr]; omega))
theorem w_markText_c (x0 : Int)  : Con Tryd.prog 62 (pvs [.sc (.int .i64)] (x0, ())) [rv (.sc .str) [] (w_markText x0)] := by
  refine Con.of_facts (enters_of Tryd.func62 rfl (by kernel_rfl)) fun hf => ?_
  replace hf := factAt hf
  refine evalFn_conL teFact mixFact (orcOf_ok _) Tryd.func62 ?_ (bs := [0]) ?_ ?_ (fun w0 mo I0 hmo => ⟨lsem_of_lorc (w_markText_L0_ls w0 mo I0 hmo) ?_, trivial⟩) ((w_markText_lk x0).trans (w_markText_p x0 ((hf 0 0 rfl rfl).rng) _ _ _))
  all_goals (kernel_rfl)
noncomputable def w_markText_e : Ent1 Tryd.prog := entA 62 [.sc (.int .i64)] (fun x => (w_markText x.1)) (fun v => [rv (.sc .str) [] v]) (fun x => w_markText_c x.1)


/-- laws.markMacRowS -/
def w_markMacRowS_ann : List (Nat × Keep) := [(0, ⟨[0, 1, 5], [], false, 1⟩)]
def w_markMacRowS_L0_sh : Sh := ⟨[(0, false, [.own 0]), (1, false, [.int .i64]), (5, false, [.int .i64])], [.arr .macRow false false]⟩
def w_markMacRowS_L0_es : List (Ex × Sh) := [(.exit 0, ⟨[(1, false, [.int .i64]), (4, false, [.undef])], [.arr .macRow false false]⟩)]
def w_markMacRowS_L0_mk (v0 : Int) (v1 : Int) (v2 : List MacRow) : w_markMacRowS_L0_sh.T := ((((), ()), ((v0, ()), ((v1, ()), ()))), (v2, ()))
def w_markMacRowS_L0_mx0 (y0 : Int) (y1 : List MacRow) : Sh.T ⟨[(1, false, [.int .i64]), (4, false, [.undef])], [.arr .macRow false false]⟩ := (((y0, ()), (((), ()), ())), (y1, ()))
def w_markMacRowS_L0_B (v0 : Int) (v1 : Int) (v2 : List MacRow) (γ : Type) (fail : γ) (next : w_markMacRowS_L0_sh.T → γ) (out : WT w_markMacRowS_L0_es → γ) : γ :=
  bif (decide (v1 < (v2.length : Int))) then
    letK (α := Bytes) (w_markText v0) fun c1 =>
    bif ((decide (0 ≤ v1)) && (decide (v1 < (v2.length : Int)))) then
    bif ((decide (0 ≤ v1)) && (decide (v1 < ((v2.set v1.toNat (⟨c1, (v2.getD v1.toNat (Ty.zero .macRow)).value⟩ : MacRow)).length : Int)))) then
    letK (α := List MacRow) ((v2.set v1.toNat (⟨c1, (v2.getD v1.toNat (Ty.zero .macRow)).value⟩ : MacRow)).set v1.toNat (⟨((v2.set v1.toNat (⟨c1, (v2.getD v1.toNat (Ty.zero .macRow)).value⟩ : MacRow)).getD v1.toNat (Ty.zero .macRow)).input, (IntKind.wrap .i64 (v0 + 1))⟩ : MacRow)) fun l2 =>
    next (w_markMacRowS_L0_mk (IntKind.wrap .i64 ((IntKind.wrap .i64 (v0 + 1)) + 1)) (IntKind.wrap .i64 (v1 + 1)) l2)
    else fail
    else fail
  else
  out (w_markMacRowS_L0_mx0 v0 v2)
theorem w_markMacRowS_L0_par (v0 : Int) (v1 : Int) (v2 : List MacRow) (γ : Type) (fail : γ) (next : w_markMacRowS_L0_sh.T → γ) (out : WT w_markMacRowS_L0_es → γ) : w_markMacRowS_L0_B v0 v1 v2 γ fail next out = optK (w_markMacRowS_L0_B v0 v1 v2 _ none (fun v' => some (.inl v')) (fun w => some (.inr w))) fail (fun r => Sum.elim next out r) := by
  unfold w_markMacRowS_L0_B
  repeat' (first | refine letT (f := (fun o => optK o fail (fun r => Sum.elim next out r))) (fun _ _ => ?_) | refine bifT (f := (fun o => optK o fail (fun r => Sum.elim next out r))) (fun _ => ?_) (fun _ => ?_) | rfl)
def w_markMacRowS_L0_r : Round w_markMacRowS_L0_sh.T (WT w_markMacRowS_L0_es) where
  B v γ fail next out := w_markMacRowS_L0_B v.1.2.1.1 v.1.2.2.1.1 v.2.1 γ fail next out
  par v γ fail next out := w_markMacRowS_L0_par v.1.2.1.1 v.1.2.2.1.1 v.2.1 γ fail next out
def w_markMacRowS_L0_fu (v0 : Int) (v1 : Int) (v2 : List MacRow) : Nat := (Int.toNat ((v2.length : Int) - v1)) + 1
theorem w_markMacRowS_L0_lk (v : w_markMacRowS_L0_sh.T) (next : St → Option Res) (k : Ex → St → Option Res) : evalK te (orcOf (P := Tryd.prog) [w_markText_e]) (lorcOf []) Tryd.f63.ntmps w_markMacRowS_ann (nthLoop (bodyOf Tryd.f63) 0 0) 0 (w_markMacRowS_L0_sh.enc v) (endK ⟨[0, 1, 5], [], false, 1⟩ ⟨[1, 4], [], false, 1⟩ next k) =
  w_markMacRowS_L0_r.B v _ none (fun v' => next (w_markMacRowS_L0_sh.enc v')) (fun w => outK w_markMacRowS_L0_es k w) := by kernel_rfl
def w_markMacRowS_L0_le : LE := leOf 0 w_markMacRowS_L0_sh w_markMacRowS_L0_es w_markMacRowS_L0_r.step (fun v => w_markMacRowS_L0_fu v.1.2.1.1 v.1.2.2.1.1 v.2.1)
theorem w_markMacRowS_L0_ls (w0 : World) (mo : Mts) (I0 : Nat → Prop) (hmo : mo.length = 1) : LSem Tryd.prog (Sim w0 mo Tryd.f63.ntmps I0) (fun b s k => match Nat.beq 0 b with | true => w_markMacRowS_L0_le.run s k | false => none) 0 (nthLoop (bodyOf Tryd.f63) 0 0) :=
  le_sem hmo (lorc := lorcOf []) (ann := w_markMacRowS_ann) (keep := ⟨[0, 1, 5], [], false, 1⟩) (kout := ⟨[1, 4], [], false, 1⟩) teFact mixFact (orcOf_ok _) (by kernel_rfl) (allLoops_of (bs := []) (by kernel_rfl) trivial) w_markMacRowS_L0_r _ w_markMacRowS_L0_lk
def w_markMacRowS_L0_f  (v1 : Int) (a : Int × List MacRow) : Stp (Int × List MacRow) (Empty) :=
  letK (α := Bytes) (w_markText a.1) fun c1 =>
  letK (α := List MacRow) ((a.2.set v1.toNat (⟨c1, (a.2.getD v1.toNat (Ty.zero .macRow)).value⟩ : MacRow)).set v1.toNat (⟨((a.2.set v1.toNat (⟨c1, (a.2.getD v1.toNat (Ty.zero .macRow)).value⟩ : MacRow)).getD v1.toNat (Ty.zero .macRow)).input, (IntKind.wrap .i64 (a.1 + 1))⟩ : MacRow)) fun l2 =>
  .next ((IntKind.wrap .i64 ((IntKind.wrap .i64 (a.1 + 1)) + 1)), l2)
theorem w_markMacRowS_L0_st (v0 : Int) (v1 : Int) (v2 : List MacRow) (hlo : 0 ≤ v1) (hhi : v1 < (v2.length : Int)) (hN : (v2.length : Int) ≤ 4611686018427387904) : w_markMacRowS_L0_r.step (w_markMacRowS_L0_mk v0 v1 v2) = Stp.elim (fun a' : Int × List MacRow => some (Sum.inl (w_markMacRowS_L0_mk a'.1 (v1 + 1) a'.2))) (fun w => some (Sum.inr ((fun p : Empty => nomatch p) w))) (w_markMacRowS_L0_f  v1 (v0, v2)) := by
  have hw : (IntKind.wrap .i64 (v1 + 1)) = v1 + 1 := wrap64 (by omega) (by omega)
  show w_markMacRowS_L0_B v0 v1 v2 (Option (w_markMacRowS_L0_sh.T ⊕ WT w_markMacRowS_L0_es)) none (fun v' => some (Sum.inl v')) (fun w => some (Sum.inr w)) = _
  unfold w_markMacRowS_L0_B w_markMacRowS_L0_f
  refine bifG (by simp only [decide_eq_true_eq]; omega) (letT (f := (Stp.elim (fun a' : Int × List MacRow => some (Sum.inl (w_markMacRowS_L0_mk a'.1 (v1 + 1) a'.2))) (fun w => some (Sum.inr ((fun p : Empty => nomatch p) w))))) (fun c1 hc1 => bifG ?_ (bifG ?_ (letT (f := (Stp.elim (fun a' : Int × List MacRow => some (Sum.inl (w_markMacRowS_L0_mk a'.1 (v1 + 1) a'.2))) (fun w => some (Sum.inr ((fun p : Empty => nomatch p) w))))) (fun l2 hl2 => (by exact congrArg (fun z => some (Sum.inl (w_markMacRowS_L0_mk (IntKind.wrap .i64 ((IntKind.wrap .i64 (v0 + 1)) + 1)) z l2))) hw))))))
  all_goals ((try simp only [Nat.ble_eq, Bool.and_eq_true, decide_eq_true_eq]); grind [maxSl, maxStr, toBytes_length, toInts_length, List.length_set, wrap64])
theorem w_markMacRowS_L0_cl (v0 : Int) (v1 : Int) (v2 : List MacRow) (h0 : 0 ≤ v1) (h1 : (v2.length : Int) ≤ 4611686018427387904) : loopF w_markMacRowS_L0_r.step (w_markMacRowS_L0_fu v0 v1 v2) (w_markMacRowS_L0_mk v0 v1 v2) = some (Stp.elim (fun a => (fun i a => w_markMacRowS_L0_mx0 a.1 a.2) (v1 + 1 * (((Int.toNat ((v2.length : Int) - v1)) : Nat) : Int)) a) (fun p : Empty => nomatch p) (forN (w_markMacRowS_L0_f ) 1 (Int.toNat ((v2.length : Int) - v1)) v1 (v0, v2))) :=
  forN_loop (step := w_markMacRowS_L0_r.step) (mk := fun v1 a => w_markMacRowS_L0_mk a.1 v1 a.2) (f := w_markMacRowS_L0_f ) (e := (fun i a => w_markMacRowS_L0_mx0 a.1 a.2)) (emb := (fun p : Empty => nomatch p)) (st := 1) (Inv := fun v1 a => a.2.length = v2.length) (Int.toNat ((v2.length : Int) - v1)) v1 (v0, v2) _ (Nat.lt_succ_self _) rfl
    (fun j a hj hv => ⟨w_markMacRowS_L0_st a.1 (v1 + 1 * (j : Int)) a.2 (by omega) (by omega) (by omega), by
      intro a' he
      first
      | (simp only [w_markMacRowS_L0_f, letK] at he; cases he; simpa [List.length_set] using hv)
      | grind [w_markMacRowS_L0_f, letK, Stp.elim, wrap64, List.length_set]⟩)
    (fun a hv => by
      show w_markMacRowS_L0_B a.1 (v1 + 1 * (((Int.toNat ((v2.length : Int) - v1)) : Nat) : Int)) a.2 (Option (w_markMacRowS_L0_sh.T ⊕ WT w_markMacRowS_L0_es)) none (fun v' => some (Sum.inl v')) (fun w => some (Sum.inr w)) = _
      unfold w_markMacRowS_L0_B
      exact bifN (by simp only [decide_eq_false_iff_not]; omega) rfl)
theorem w_markMacRowS_L0_nx (v0 : Int) (v1 : Int) (v2 : List MacRow) (h0 : 0 ≤ v1) (h1 : (v2.length : Int) ≤ 4611686018427387904) : ∀ a', forN (w_markMacRowS_L0_f ) 1 (Int.toNat ((v2.length : Int) - v1)) v1 (v0, v2) = .next a' → a'.2.length = v2.length :=
  forN_inv (f := w_markMacRowS_L0_f ) (st := 1) (Inv := fun v1 a => a.2.length = v2.length) (Int.toNat ((v2.length : Int) - v1)) v1 (v0, v2) rfl
    (fun j a hj hv => by
      intro a' he
      first
      | (simp only [w_markMacRowS_L0_f, letK] at he; cases he; simpa [List.length_set] using hv)
      | grind [w_markMacRowS_L0_f, letK, Stp.elim, wrap64, List.length_set])
def w_markMacRowS_N (x0 : List MacRow) (x1 : Int) (γ : Type) (fail : γ) (k : Int × List MacRow → γ) : γ :=
  optK (loopF w_markMacRowS_L0_r.step (w_markMacRowS_L0_fu x1 0 x0) (w_markMacRowS_L0_mk x1 0 x0)) fail fun w3 =>
    k (w3.1.1.1, w3.2.1)
def w_markMacRowS (x0 : List MacRow) (x1 : Int) : Int × List MacRow :=
  Stp.elim (fun a4 =>
    (a4.1, a4.2))
    (fun p : Empty => nomatch p)
    (forN (w_markMacRowS_L0_f) 1 (Int.toNat ((x0.length : Int) - 0)) 0 (x1, x0))
theorem w_markMacRowS_lk (x0 : List MacRow) (x1 : Int) : evalFnM te (orcOf (P := Tryd.prog) [w_markText_e]) (lorcOf [w_markMacRowS_L0_le]) w_markMacRowS_ann Tryd.f63 (pvs [.wr false [.own 0], .sc (.int .i64)] ((()), x1, ())) (mos [.arr .macRow] (x0, ())) =
  w_markMacRowS_N x0 x1 _ none (fun v => some ([(false, [RC.c (.int .i64 v.1)])] ++ (mos [.arr .macRow] (v.2, ())).map encO)) := by kernel_rfl
theorem w_markMacRowS_p (x0 : List MacRow) (x1 : Int) (hx1 : inK .i64 x1) (hx0 : x0.length ≤ 140737488355328) (hx0_e : ∀ y ∈ x0, ∀ c ∈ Ty.cells .macRow y, FactC c)  (γ : Type) (fail : γ) (k : Int × List MacRow → γ) : w_markMacRowS_N x0 x1 γ fail k = k (w_markMacRowS x0 x1) := by
  unfold w_markMacRowS_N w_markMacRowS
  refine loopX (f := k) (w_markMacRowS_L0_cl x1 0 x0 ?_ ?_) (fun a4 ha4 => have ia4 := w_markMacRowS_L0_nx x1 0 x0 ?_ ?_ _ ha4; rfl)
      (fun p : Empty => nomatch p)
  all_goals ((try simp only [Nat.ble_eq, Bool.and_eq_true, decide_eq_true_eq, w_markMacRowS_L0_mx0]); grind [maxSl, maxStr, toBytes_length, toInts_length, List.length_set, wrap64])
theorem w_markMacRowS_c (x0 : List MacRow) (x1 : Int)  : ConM Tryd.prog 63 (pvs [.wr false [.own 0], .sc (.int .i64)] ((()), x1, ())) (mos [.arr .macRow] (x0, ())) [rv (.sc (.int .i64)) [] (w_markMacRowS x0 x1).1] (mos [.arr .macRow] ((w_markMacRowS x0 x1).2, ())) := by
  refine ConM.of_facts (enters_of Tryd.func63 rfl (by kernel_rfl)) fun hf hg => ?_
  replace hf := factAt hf
  refine evalFn_conLM teFact mixFact (orcOf_ok _) Tryd.func63 ?_ (bs := [0]) ?_ ?_ ?_ rfl (fun w0 mo I0 hmo => ⟨lsem_of_lorc (w_markMacRowS_L0_ls w0 mo I0 hmo) ?_, trivial⟩) ((w_markMacRowS_lk x0 x1).trans (w_markMacRowS_p x0 x1 ((hf 1 0 rfl rfl).rng) ((moAt hg 0 rfl).len) (fun y hy => (moAt hg 0 rfl).elem hy) _ _ _))
  all_goals (kernel_rfl)
noncomputable def w_markMacRowS_e : Ent1 Tryd.prog := entM 63 [.wr false [.own 0], .sc (.int .i64)] [.arr .macRow] (fun x y => true) (fun x y => (w_markMacRowS y.1 x.2.1)) (fun v => [rv (.sc (.int .i64)) [] v.1]) (fun x y v => (mos [.arr .macRow] (v.2, ()))) (fun x y hx => w_markMacRowS_c y.1 x.2.1)


/-- laws.heldMacRowS -/
def w_heldMacRowS_ann : List (Nat × Keep) := [(0, ⟨[0, 1, 5], [], false, 0⟩)]
def w_heldMacRowS_L0_sh : Sh := ⟨[(0, false, [.sl .arg .macRow]), (1, false, [.int .i64]), (5, false, [.int .i64])], []⟩
def w_heldMacRowS_L0_es : List (Ex × Sh) := [(.ret, ⟨[(1, false, [.int .i64]), (4, false, [.int .i64])], []⟩), (.exit 0, ⟨[(1, false, [.int .i64]), (4, false, [.undef])], []⟩)]
def w_heldMacRowS_L0_mk (v0 : List MacRow) (v1 : Int) (v2 : Int) : w_heldMacRowS_L0_sh.T := (((v0, ()), ((v1, ()), ((v2, ()), ()))), ())
def w_heldMacRowS_L0_mx0 (y0 : Int) (y1 : Int) : Sh.T ⟨[(1, false, [.int .i64]), (4, false, [.int .i64])], []⟩ := (((y0, ()), ((y1, ()), ())), ())
def w_heldMacRowS_L0_mx1 (y0 : Int) : Sh.T ⟨[(1, false, [.int .i64]), (4, false, [.undef])], []⟩ := (((y0, ()), (((), ()), ())), ())
def w_heldMacRowS_L0_B (v0 : List MacRow) (v1 : Int) (v2 : Int) (γ : Type) (fail : γ) (next : w_heldMacRowS_L0_sh.T → γ) (out : WT w_heldMacRowS_L0_es → γ) : γ :=
  bif (decide (v2 < (v0.length : Int))) then
    bif ((decide (0 ≤ v2)) && (decide (v2 < (v0.length : Int)))) then
    letK (α := Bytes) (w_markText v1) fun c1 =>
    bif (!((v0.getD v2.toNat (Ty.zero .macRow)).input == c1)) then
      out (Sum.inl (w_heldMacRowS_L0_mx0 v1 (-1)))
    else
    bif ((decide (0 ≤ v2)) && (decide (v2 < (v0.length : Int)))) then
    bif ((v0.getD v2.toNat (Ty.zero .macRow)).value != (IntKind.wrap .i64 (v1 + 1))) then
      out (Sum.inl (w_heldMacRowS_L0_mx0 (IntKind.wrap .i64 (v1 + 1)) (-1)))
    else
    next (w_heldMacRowS_L0_mk v0 (IntKind.wrap .i64 ((IntKind.wrap .i64 (v1 + 1)) + 1)) (IntKind.wrap .i64 (v2 + 1)))
    else fail
    else fail
  else
  out (Sum.inr (w_heldMacRowS_L0_mx1 v1))
theorem w_heldMacRowS_L0_par (v0 : List MacRow) (v1 : Int) (v2 : Int) (γ : Type) (fail : γ) (next : w_heldMacRowS_L0_sh.T → γ) (out : WT w_heldMacRowS_L0_es → γ) : w_heldMacRowS_L0_B v0 v1 v2 γ fail next out = optK (w_heldMacRowS_L0_B v0 v1 v2 _ none (fun v' => some (.inl v')) (fun w => some (.inr w))) fail (fun r => Sum.elim next out r) := by
  unfold w_heldMacRowS_L0_B
  repeat' (first | refine letT (f := (fun o => optK o fail (fun r => Sum.elim next out r))) (fun _ _ => ?_) | refine bifT (f := (fun o => optK o fail (fun r => Sum.elim next out r))) (fun _ => ?_) (fun _ => ?_) | rfl)
def w_heldMacRowS_L0_r : Round w_heldMacRowS_L0_sh.T (WT w_heldMacRowS_L0_es) where
  B v γ fail next out := w_heldMacRowS_L0_B v.1.1.1 v.1.2.1.1 v.1.2.2.1.1 γ fail next out
  par v γ fail next out := w_heldMacRowS_L0_par v.1.1.1 v.1.2.1.1 v.1.2.2.1.1 γ fail next out
def w_heldMacRowS_L0_fu (v0 : List MacRow) (v1 : Int) (v2 : Int) : Nat := (Int.toNat ((v0.length : Int) - v2)) + 1
theorem w_heldMacRowS_L0_lk (v : w_heldMacRowS_L0_sh.T) (next : St → Option Res) (k : Ex → St → Option Res) : evalK te (orcOf (P := Tryd.prog) [w_markText_e]) (lorcOf []) Tryd.f64.ntmps w_heldMacRowS_ann (nthLoop (bodyOf Tryd.f64) 0 0) 0 (w_heldMacRowS_L0_sh.enc v) (endK ⟨[0, 1, 5], [], false, 0⟩ ⟨[1, 4], [], false, 0⟩ next k) =
  w_heldMacRowS_L0_r.B v _ none (fun v' => next (w_heldMacRowS_L0_sh.enc v')) (fun w => outK w_heldMacRowS_L0_es k w) := by kernel_rfl
def w_heldMacRowS_L0_le : LE := leOf 0 w_heldMacRowS_L0_sh w_heldMacRowS_L0_es w_heldMacRowS_L0_r.step (fun v => w_heldMacRowS_L0_fu v.1.1.1 v.1.2.1.1 v.1.2.2.1.1)
theorem w_heldMacRowS_L0_ls (w0 : World) (mo : Mts) (I0 : Nat → Prop) (hmo : mo.length = 0) : LSem Tryd.prog (Sim w0 mo Tryd.f64.ntmps I0) (fun b s k => match Nat.beq 0 b with | true => w_heldMacRowS_L0_le.run s k | false => none) 0 (nthLoop (bodyOf Tryd.f64) 0 0) :=
  le_sem hmo (lorc := lorcOf []) (ann := w_heldMacRowS_ann) (keep := ⟨[0, 1, 5], [], false, 0⟩) (kout := ⟨[1, 4], [], false, 0⟩) teFact mixFact (orcOf_ok _) (by kernel_rfl) (allLoops_of (bs := []) (by kernel_rfl) trivial) w_heldMacRowS_L0_r _ w_heldMacRowS_L0_lk
def w_heldMacRowS_L0_f (v0 : List MacRow) (v2 : Int) (a : Int) : Stp (Int) ((Int)) :=
  letK (α := Bytes) (w_markText a) fun c1 =>
  bif (!((v0.getD v2.toNat (Ty.zero .macRow)).input == c1)) then
    .out (a)
  else
  bif ((v0.getD v2.toNat (Ty.zero .macRow)).value != (IntKind.wrap .i64 (a + 1))) then
    .out ((IntKind.wrap .i64 (a + 1)))
  else
  .next (IntKind.wrap .i64 ((IntKind.wrap .i64 (a + 1)) + 1))
theorem w_heldMacRowS_L0_st (v0 : List MacRow) (v1 : Int) (v2 : Int) (hlo : 0 ≤ v2) (hhi : v2 < (v0.length : Int)) (hN : (v0.length : Int) ≤ 4611686018427387904) : w_heldMacRowS_L0_r.step (w_heldMacRowS_L0_mk v0 v1 v2) = Stp.elim (fun a' : Int => some (Sum.inl (w_heldMacRowS_L0_mk v0 a' (v2 + 1)))) (fun w => some (Sum.inr ((fun p : Int => Sum.inl (w_heldMacRowS_L0_mx0 p (-1))) w))) (w_heldMacRowS_L0_f v0 v2 v1) := by
  have hw : (IntKind.wrap .i64 (v2 + 1)) = v2 + 1 := wrap64 (by omega) (by omega)
  show w_heldMacRowS_L0_B v0 v1 v2 (Option (w_heldMacRowS_L0_sh.T ⊕ WT w_heldMacRowS_L0_es)) none (fun v' => some (Sum.inl v')) (fun w => some (Sum.inr w)) = _
  unfold w_heldMacRowS_L0_B w_heldMacRowS_L0_f
  refine bifG (by simp only [decide_eq_true_eq]; omega) (bifG ?_ (letT (f := (Stp.elim (fun a' : Int => some (Sum.inl (w_heldMacRowS_L0_mk v0 a' (v2 + 1)))) (fun w => some (Sum.inr ((fun p : Int => Sum.inl (w_heldMacRowS_L0_mx0 p (-1))) w))))) (fun c1 hc1 => bifT (f := (Stp.elim (fun a' : Int => some (Sum.inl (w_heldMacRowS_L0_mk v0 a' (v2 + 1)))) (fun w => some (Sum.inr ((fun p : Int => Sum.inl (w_heldMacRowS_L0_mx0 p (-1))) w))))) (fun b0 => rfl)
      (fun b0 => bifG ?_ (bifT (f := (Stp.elim (fun a' : Int => some (Sum.inl (w_heldMacRowS_L0_mk v0 a' (v2 + 1)))) (fun w => some (Sum.inr ((fun p : Int => Sum.inl (w_heldMacRowS_L0_mx0 p (-1))) w))))) (fun b1 => rfl)
      (fun b1 => (by exact congrArg (fun z => some (Sum.inl (w_heldMacRowS_L0_mk v0 (IntKind.wrap .i64 ((IntKind.wrap .i64 (v1 + 1)) + 1)) z))) hw)))))))
  all_goals ((try simp only [Nat.ble_eq, Bool.and_eq_true, decide_eq_true_eq]); grind [maxSl, maxStr, toBytes_length, toInts_length, List.length_set, wrap64])
theorem w_heldMacRowS_L0_cl (v0 : List MacRow) (v1 : Int) (v2 : Int) (h0 : 0 ≤ v2) (h1 : (v0.length : Int) ≤ 4611686018427387904) : loopF w_heldMacRowS_L0_r.step (w_heldMacRowS_L0_fu v0 v1 v2) (w_heldMacRowS_L0_mk v0 v1 v2) = some (Stp.elim (fun a => (fun i a => Sum.inr (w_heldMacRowS_L0_mx1 a)) (v2 + 1 * (((Int.toNat ((v0.length : Int) - v2)) : Nat) : Int)) a) (fun p : Int => Sum.inl (w_heldMacRowS_L0_mx0 p (-1))) (forN (w_heldMacRowS_L0_f v0) 1 (Int.toNat ((v0.length : Int) - v2)) v2 v1)) :=
  forN_loop (step := w_heldMacRowS_L0_r.step) (mk := fun v2 a => w_heldMacRowS_L0_mk v0 a v2) (f := w_heldMacRowS_L0_f v0) (e := (fun i a => Sum.inr (w_heldMacRowS_L0_mx1 a))) (emb := (fun p : Int => Sum.inl (w_heldMacRowS_L0_mx0 p (-1)))) (st := 1) (Inv := fun v2 a => True) (Int.toNat ((v0.length : Int) - v2)) v2 v1 _ (Nat.lt_succ_self _) trivial
    (fun j a hj hv => ⟨w_heldMacRowS_L0_st v0 a (v2 + 1 * (j : Int)) (by omega) (by omega) (by omega), fun _ _ => trivial⟩)
    (fun a hv => by
      show w_heldMacRowS_L0_B v0 a (v2 + 1 * (((Int.toNat ((v0.length : Int) - v2)) : Nat) : Int)) (Option (w_heldMacRowS_L0_sh.T ⊕ WT w_heldMacRowS_L0_es)) none (fun v' => some (Sum.inl v')) (fun w => some (Sum.inr w)) = _
      unfold w_heldMacRowS_L0_B
      exact bifN (by simp only [decide_eq_false_iff_not]; omega) rfl)
def w_heldMacRowS_N (x0 : List MacRow) (x1 : Int) (γ : Type) (fail : γ) (k : Int → γ) : γ :=
  optK (loopF w_heldMacRowS_L0_r.step (w_heldMacRowS_L0_fu x0 x1 0) (w_heldMacRowS_L0_mk x0 x1 0)) fail fun w2 =>
    Sum.elim (fun w2 =>
      k w2.1.2.1.1)
    (fun w2 =>
      k w2.1.1.1) w2
def w_heldMacRowS (x0 : List MacRow) (x1 : Int) : Int :=
  Stp.elim (fun a3 =>
    a3)
    (fun p3 =>
      (-1))
    (forN (w_heldMacRowS_L0_f x0) 1 (Int.toNat ((x0.length : Int) - 0)) 0 x1)
theorem w_heldMacRowS_lk (x0 : List MacRow) (x1 : Int) : evalFn te (orcOf (P := Tryd.prog) [w_markText_e]) (lorcOf [w_heldMacRowS_L0_le]) w_heldMacRowS_ann Tryd.f64 (pvs [.sc (.sl .macRow), .sc (.int .i64)] (x0, x1, ())) =
  w_heldMacRowS_N x0 x1 _ none (fun v => some [(false, [RC.c (.int .i64 v)])]) := by kernel_rfl
theorem w_heldMacRowS_p (x0 : List MacRow) (x1 : Int) (hx0 : x0.length ≤ 140737488355328) (hx0_e : ∀ y ∈ x0, ∀ c ∈ Ty.cells .macRow y, FactC c) (hx1 : inK .i64 x1)  (γ : Type) (fail : γ) (k : Int → γ) : w_heldMacRowS_N x0 x1 γ fail k = k (w_heldMacRowS x0 x1) := by
  unfold w_heldMacRowS_N w_heldMacRowS
  refine loopT (f := k) (w_heldMacRowS_L0_cl x0 x1 0 ?_ ?_) (fun a3 => rfl)
      (fun p3 => rfl)
  all_goals ((try simp only [Nat.ble_eq, Bool.and_eq_true, decide_eq_true_eq, w_heldMacRowS_L0_mx0, w_heldMacRowS_L0_mx1]); grind [maxSl, maxStr, toBytes_length, toInts_length, List.length_set, wrap64])
theorem w_heldMacRowS_c (x0 : List MacRow) (x1 : Int)  : Con Tryd.prog 64 (pvs [.sc (.sl .macRow), .sc (.int .i64)] (x0, x1, ())) [rv (.sc (.int .i64)) [] (w_heldMacRowS x0 x1)] := by
  refine Con.of_facts (enters_of Tryd.func64 rfl (by kernel_rfl)) fun hf => ?_
  replace hf := factAt hf
  refine evalFn_conL teFact mixFact (orcOf_ok _) Tryd.func64 ?_ (bs := [0]) ?_ ?_ (fun w0 mo I0 hmo => ⟨lsem_of_lorc (w_heldMacRowS_L0_ls w0 mo I0 hmo) ?_, trivial⟩) ((w_heldMacRowS_lk x0 x1).trans (w_heldMacRowS_p x0 x1 ((hf 0 0 rfl rfl).len) (fun y hy => (hf 0 0 rfl rfl).elem hy) ((hf 1 0 rfl rfl).rng) _ _ _))
  all_goals (kernel_rfl)
noncomputable def w_heldMacRowS_e : Ent1 Tryd.prog := entA 64 [.sc (.sl .macRow), .sc (.int .i64)] (fun x => (w_heldMacRowS x.1 x.2.1)) (fun v => [rv (.sc (.int .i64)) [] v]) (fun x => w_heldMacRowS_c x.1 x.2.1)


/-- spec.l1In -/
def s_l1In_N (x0 : Int) (x1 : Int) (x2 : Int) (γ : Type) (fail : γ) (k : Bool → γ) : γ :=
  bif (decide (x1 ≤ x0)) then
    k (decide (x0 ≤ x2))
  else
  k false
def s_l1In (x0 : Int) (x1 : Int) (x2 : Int) : Bool :=
  bif (decide (x1 ≤ x0)) then
    (decide (x0 ≤ x2))
  else
  false
theorem s_l1In_lk (x0 : Int) (x1 : Int) (x2 : Int) : evalFn te (orcOf (P := Tryd.prog) []) lorc0 [] Tryd.f70 (pvs [.sc (.int .i64), .sc (.int .i64), .sc (.int .i64)] (x0, x1, x2, ())) =
  s_l1In_N x0 x1 x2 _ none (fun v => some [(false, [RC.c (.bool v)])]) := by kernel_rfl
theorem s_l1In_p (x0 : Int) (x1 : Int) (x2 : Int)   (γ : Type) (fail : γ) (k : Bool → γ) : s_l1In_N x0 x1 x2 γ fail k = k (s_l1In x0 x1 x2) := by
  unfold s_l1In_N s_l1In
  exact bifT (f := k) (fun b0 => rfl)
      (fun b0 => rfl)
theorem s_l1In_c (x0 : Int) (x1 : Int) (x2 : Int)  : Con Tryd.prog 70 (pvs [.sc (.int .i64), .sc (.int .i64), .sc (.int .i64)] (x0, x1, x2, ())) [rv (.sc .bool) [] (s_l1In x0 x1 x2)] := by
  exact evalFn_con0 teFact mixFact (orcOf_ok _) Tryd.func70 (by kernel_rfl) ((s_l1In_lk x0 x1 x2).trans (s_l1In_p x0 x1 x2  _ _ _))
noncomputable def s_l1In_e : Ent1 Tryd.prog := entA 70 [.sc (.int .i64), .sc (.int .i64), .sc (.int .i64)] (fun x => (s_l1In x.1 x.2.1 x.2.2.1)) (fun v => [rv (.sc .bool) [] v]) (fun x => s_l1In_c x.1 x.2.1 x.2.2.1)

theorem s_l1In_eq (n lo hi : Int) : s_l1In n lo hi = (decide (lo ≤ n) && decide (n ≤ hi)) := by
  unfold s_l1In
  cases decide (lo ≤ n) <;> rfl


/-- spec.SameMac -/
def s_SameMac_ann : List (Nat × Keep) := [(0, ⟨[2, 3, 5], [], false, 0⟩)]
def s_SameMac_L0_sh : Sh := ⟨[(2, false, [.ptr 0 0]), (3, false, [.ptr 1 0]), (5, false, [.int .i64])], [.box [.bool, .int .u64, .int .u64, .sl .arg .macRow], .box [.bool, .int .u64, .int .u64, .sl .arg .macRow]]⟩
def s_SameMac_L0_es : List (Ex × Sh) := [(.ret, ⟨[(4, false, [.bool])], []⟩), (.exit 0, ⟨[(4, false, [.undef])], []⟩)]
def s_SameMac_L0_mk (v0 : Int) (v1 : Bool) (v2 : Int) (v3 : Int) (v4 : List MacRow) (v5 : Bool) (v6 : Int) (v7 : Int) (v8 : List MacRow) : s_SameMac_L0_sh.T := ((((), ()), (((), ()), ((v0, ()), ()))), ((v1, (v2, (v3, (v4, ())))), ((v5, (v6, (v7, (v8, ())))), ())))
def s_SameMac_L0_mx0 (y0 : Bool) : Sh.T ⟨[(4, false, [.bool])], []⟩ := (((y0, ()), ()), ())
def s_SameMac_L0_mx1  : Sh.T ⟨[(4, false, [.undef])], []⟩ := ((((), ()), ()), ())
def s_SameMac_L0_B (v0 : Int) (v1 : Bool) (v2 : Int) (v3 : Int) (v4 : List MacRow) (v5 : Bool) (v6 : Int) (v7 : Int) (v8 : List MacRow) (γ : Type) (fail : γ) (next : s_SameMac_L0_sh.T → γ) (out : WT s_SameMac_L0_es → γ) : γ :=
  bif (decide (v0 < (v4.length : Int))) then
    bif ((decide (0 ≤ v0)) && (decide (v0 < (v4.length : Int)))) then
    bif ((decide (0 ≤ v0)) && (decide (v0 < (v8.length : Int)))) then
    bif (!(((v4.getD v0.toNat (Ty.zero .macRow)).input == (v8.getD v0.toNat (Ty.zero .macRow)).input) && (((v4.getD v0.toNat (Ty.zero .macRow)).value == (v8.getD v0.toNat (Ty.zero .macRow)).value) && true))) then
      out (Sum.inl (s_SameMac_L0_mx0 false))
    else
    next (s_SameMac_L0_mk (IntKind.wrap .i64 (v0 + 1)) v1 v2 v3 v4 v5 v6 v7 v8)
    else fail
    else fail
  else
  out (Sum.inr (s_SameMac_L0_mx1 ))
theorem s_SameMac_L0_par (v0 : Int) (v1 : Bool) (v2 : Int) (v3 : Int) (v4 : List MacRow) (v5 : Bool) (v6 : Int) (v7 : Int) (v8 : List MacRow) (γ : Type) (fail : γ) (next : s_SameMac_L0_sh.T → γ) (out : WT s_SameMac_L0_es → γ) : s_SameMac_L0_B v0 v1 v2 v3 v4 v5 v6 v7 v8 γ fail next out = optK (s_SameMac_L0_B v0 v1 v2 v3 v4 v5 v6 v7 v8 _ none (fun v' => some (.inl v')) (fun w => some (.inr w))) fail (fun r => Sum.elim next out r) := by
  unfold s_SameMac_L0_B
  repeat' (first | refine letT (f := (fun o => optK o fail (fun r => Sum.elim next out r))) (fun _ _ => ?_) | refine bifT (f := (fun o => optK o fail (fun r => Sum.elim next out r))) (fun _ => ?_) (fun _ => ?_) | rfl)
def s_SameMac_L0_r : Round s_SameMac_L0_sh.T (WT s_SameMac_L0_es) where
  B v γ fail next out := s_SameMac_L0_B v.1.2.2.1.1 v.2.1.1 v.2.1.2.1 v.2.1.2.2.1 v.2.1.2.2.2.1 v.2.2.1.1 v.2.2.1.2.1 v.2.2.1.2.2.1 v.2.2.1.2.2.2.1 γ fail next out
  par v γ fail next out := s_SameMac_L0_par v.1.2.2.1.1 v.2.1.1 v.2.1.2.1 v.2.1.2.2.1 v.2.1.2.2.2.1 v.2.2.1.1 v.2.2.1.2.1 v.2.2.1.2.2.1 v.2.2.1.2.2.2.1 γ fail next out
def s_SameMac_L0_fu (v0 : Int) (v1 : Bool) (v2 : Int) (v3 : Int) (v4 : List MacRow) (v5 : Bool) (v6 : Int) (v7 : Int) (v8 : List MacRow) : Nat := (Int.toNat ((v4.length : Int) - v0)) + 1
theorem s_SameMac_L0_lk (v : s_SameMac_L0_sh.T) (next : St → Option Res) (k : Ex → St → Option Res) : evalK te (orcOf (P := Tryd.prog) []) (lorcOf []) Tryd.f71.ntmps s_SameMac_ann (nthLoop (bodyOf Tryd.f71) 0 0) 0 (s_SameMac_L0_sh.enc v) (endK ⟨[2, 3, 5], [], false, 0⟩ ⟨[4], [], false, 0⟩ next k) =
  s_SameMac_L0_r.B v _ none (fun v' => next (s_SameMac_L0_sh.enc v')) (fun w => outK s_SameMac_L0_es k w) := by kernel_rfl
def s_SameMac_L0_le : LE := leOf 0 s_SameMac_L0_sh s_SameMac_L0_es s_SameMac_L0_r.step (fun v => s_SameMac_L0_fu v.1.2.2.1.1 v.2.1.1 v.2.1.2.1 v.2.1.2.2.1 v.2.1.2.2.2.1 v.2.2.1.1 v.2.2.1.2.1 v.2.2.1.2.2.1 v.2.2.1.2.2.2.1)
theorem s_SameMac_L0_ls (w0 : World) (mo : Mts) (I0 : Nat → Prop) (hmo : mo.length = 0) : LSem Tryd.prog (Sim w0 mo Tryd.f71.ntmps I0) (fun b s k => match Nat.beq 0 b with | true => s_SameMac_L0_le.run s k | false => none) 0 (nthLoop (bodyOf Tryd.f71) 0 0) :=
  le_sem hmo (lorc := lorcOf []) (ann := s_SameMac_ann) (keep := ⟨[2, 3, 5], [], false, 0⟩) (kout := ⟨[4], [], false, 0⟩) teFact mixFact (orcOf_ok _) (by kernel_rfl) (allLoops_of (bs := []) (by kernel_rfl) trivial) s_SameMac_L0_r _ s_SameMac_L0_lk
def s_SameMac_L0_f (v1 : Bool) (v2 : Int) (v3 : Int) (v4 : List MacRow) (v5 : Bool) (v6 : Int) (v7 : Int) (v8 : List MacRow) (v0 : Int) (a : Unit) : Stp (Unit) ((Unit)) :=
  bif (!(((v4.getD v0.toNat (Ty.zero .macRow)).input == (v8.getD v0.toNat (Ty.zero .macRow)).input) && (((v4.getD v0.toNat (Ty.zero .macRow)).value == (v8.getD v0.toNat (Ty.zero .macRow)).value) && true))) then
    .out (())
  else
  .next ()
theorem s_SameMac_L0_st (v0 : Int) (v1 : Bool) (v2 : Int) (v3 : Int) (v4 : List MacRow) (v5 : Bool) (v6 : Int) (v7 : Int) (v8 : List MacRow) (hlo : 0 ≤ v0) (hhi : v0 < (v4.length : Int)) (hN : (v4.length : Int) ≤ 4611686018427387904) (hi0 : (v4.length : Int) ≤ (v8.length : Int)) : s_SameMac_L0_r.step (s_SameMac_L0_mk v0 v1 v2 v3 v4 v5 v6 v7 v8) = Stp.elim (fun a' : Unit => some (Sum.inl (s_SameMac_L0_mk (v0 + 1) v1 v2 v3 v4 v5 v6 v7 v8))) (fun w => some (Sum.inr ((fun p : Unit => Sum.inl (s_SameMac_L0_mx0 false)) w))) (s_SameMac_L0_f v1 v2 v3 v4 v5 v6 v7 v8 v0 ()) := by
  have hw : (IntKind.wrap .i64 (v0 + 1)) = v0 + 1 := wrap64 (by omega) (by omega)
  show s_SameMac_L0_B v0 v1 v2 v3 v4 v5 v6 v7 v8 (Option (s_SameMac_L0_sh.T ⊕ WT s_SameMac_L0_es)) none (fun v' => some (Sum.inl v')) (fun w => some (Sum.inr w)) = _
  unfold s_SameMac_L0_B s_SameMac_L0_f
  refine bifG (by simp only [decide_eq_true_eq]; omega) (bifG ?_ (bifG ?_ (bifT (f := (Stp.elim (fun a' : Unit => some (Sum.inl (s_SameMac_L0_mk (v0 + 1) v1 v2 v3 v4 v5 v6 v7 v8))) (fun w => some (Sum.inr ((fun p : Unit => Sum.inl (s_SameMac_L0_mx0 false)) w))))) (fun b0 => rfl)
      (fun b0 => (by exact congrArg (fun z => some (Sum.inl (s_SameMac_L0_mk z v1 v2 v3 v4 v5 v6 v7 v8))) hw)))))
  all_goals ((try simp only [Nat.ble_eq, Bool.and_eq_true, decide_eq_true_eq]); grind [maxSl, maxStr, toBytes_length, toInts_length, List.length_set, wrap64])
theorem s_SameMac_L0_cl (v0 : Int) (v1 : Bool) (v2 : Int) (v3 : Int) (v4 : List MacRow) (v5 : Bool) (v6 : Int) (v7 : Int) (v8 : List MacRow) (h0 : 0 ≤ v0) (h1 : (v4.length : Int) ≤ 4611686018427387904) (h2 : (v4.length : Int) ≤ (v8.length : Int)) : loopF s_SameMac_L0_r.step (s_SameMac_L0_fu v0 v1 v2 v3 v4 v5 v6 v7 v8) (s_SameMac_L0_mk v0 v1 v2 v3 v4 v5 v6 v7 v8) = some (Stp.elim (fun a => (fun i a => Sum.inr (s_SameMac_L0_mx1 )) (v0 + 1 * (((Int.toNat ((v4.length : Int) - v0)) : Nat) : Int)) a) (fun p : Unit => Sum.inl (s_SameMac_L0_mx0 false)) (forN (s_SameMac_L0_f v1 v2 v3 v4 v5 v6 v7 v8) 1 (Int.toNat ((v4.length : Int) - v0)) v0 ())) :=
  forN_loop (step := s_SameMac_L0_r.step) (mk := fun v0 a => s_SameMac_L0_mk v0 v1 v2 v3 v4 v5 v6 v7 v8) (f := s_SameMac_L0_f v1 v2 v3 v4 v5 v6 v7 v8) (e := (fun i a => Sum.inr (s_SameMac_L0_mx1 ))) (emb := (fun p : Unit => Sum.inl (s_SameMac_L0_mx0 false))) (st := 1) (Inv := fun v0 a => True) (Int.toNat ((v4.length : Int) - v0)) v0 () _ (Nat.lt_succ_self _) trivial
    (fun j a hj hv => ⟨s_SameMac_L0_st (v0 + 1 * (j : Int)) v1 v2 v3 v4 v5 v6 v7 v8 (by omega) (by omega) (by omega) h2, fun _ _ => trivial⟩)
    (fun a hv => by
      show s_SameMac_L0_B (v0 + 1 * (((Int.toNat ((v4.length : Int) - v0)) : Nat) : Int)) v1 v2 v3 v4 v5 v6 v7 v8 (Option (s_SameMac_L0_sh.T ⊕ WT s_SameMac_L0_es)) none (fun v' => some (Sum.inl v')) (fun w => some (Sum.inr w)) = _
      unfold s_SameMac_L0_B
      exact bifN (by simp only [decide_eq_false_iff_not]; omega) rfl)
def s_SameMac_N (x0 : Mac) (x1 : Mac) (γ : Type) (fail : γ) (k : Bool → γ) : γ :=
  bif (!(x0.use == x1.use)) then
    k false
  else
  bif (x0.k != x1.k) then
    k false
  else
  bif (x0.l != x1.l) then
    k false
  else
  bif ((x0.rows.length : Int) != (x1.rows.length : Int)) then
    k false
  else
  optK (loopF s_SameMac_L0_r.step (s_SameMac_L0_fu 0 x0.use x0.k x0.l x0.rows x1.use x1.k x1.l x1.rows) (s_SameMac_L0_mk 0 x0.use x0.k x0.l x0.rows x1.use x1.k x1.l x1.rows)) fail fun w1 =>
    Sum.elim (fun w1 =>
      k w1.1.1.1)
    (fun w1 =>
      k true) w1
def s_SameMac (x0 : Mac) (x1 : Mac) : Bool :=
  bif (!(x0.use == x1.use)) then
    false
  else
  bif (x0.k != x1.k) then
    false
  else
  bif (x0.l != x1.l) then
    false
  else
  bif ((x0.rows.length : Int) != (x1.rows.length : Int)) then
    false
  else
  Stp.elim (fun a2 =>
    true)
    (fun p2 =>
      false)
    (forN (s_SameMac_L0_f x0.use x0.k x0.l x0.rows x1.use x1.k x1.l x1.rows) 1 (Int.toNat ((x0.rows.length : Int) - 0)) 0 ())
theorem s_SameMac_lk (x0 : Mac) (x1 : Mac) : evalFn te (orcOf (P := Tryd.prog) []) (lorcOf [s_SameMac_L0_le]) s_SameMac_ann Tryd.f71 (pvs [.st .mac, .st .mac] (x0, x1, ())) =
  s_SameMac_N x0 x1 _ none (fun v => some [(false, [RC.c (.bool v)])]) := by kernel_rfl
theorem s_SameMac_p (x0 : Mac) (x1 : Mac) (hx0_k : inK .u64 x0.k) (hx0_l : inK .u64 x0.l) (hx0_rows : x0.rows.length ≤ 140737488355328) (hx0_rows_e : ∀ y ∈ x0.rows, ∀ c ∈ Ty.cells .macRow y, FactC c) (hx1_k : inK .u64 x1.k) (hx1_l : inK .u64 x1.l) (hx1_rows : x1.rows.length ≤ 140737488355328) (hx1_rows_e : ∀ y ∈ x1.rows, ∀ c ∈ Ty.cells .macRow y, FactC c)  (γ : Type) (fail : γ) (k : Bool → γ) : s_SameMac_N x0 x1 γ fail k = k (s_SameMac x0 x1) := by
  unfold s_SameMac_N s_SameMac
  refine bifT (f := k) (fun b0 => rfl)
      (fun b0 => bifT (f := k) (fun b1 => rfl)
      (fun b1 => bifT (f := k) (fun b2 => rfl)
      (fun b2 => bifT (f := k) (fun b3 => rfl)
      (fun b3 => loopT (f := k) (s_SameMac_L0_cl 0 x0.use x0.k x0.l x0.rows x1.use x1.k x1.l x1.rows ?_ ?_ ?_) (fun a2 => rfl)
      (fun p2 => rfl)))))
  all_goals ((try simp only [Nat.ble_eq, Bool.and_eq_true, decide_eq_true_eq, s_SameMac_L0_mx0, s_SameMac_L0_mx1]); grind [maxSl, maxStr, toBytes_length, toInts_length, List.length_set, wrap64])
theorem s_SameMac_c (x0 : Mac) (x1 : Mac)  : Con Tryd.prog 71 (pvs [.st .mac, .st .mac] (x0, x1, ())) [rv (.sc .bool) [] (s_SameMac x0 x1)] := by
  refine Con.of_facts (enters_of Tryd.func71 rfl (by kernel_rfl)) fun hf => ?_
  replace hf := factAt hf
  refine evalFn_conL teFact mixFact (orcOf_ok _) Tryd.func71 ?_ (bs := [0]) ?_ ?_ (fun w0 mo I0 hmo => ⟨lsem_of_lorc (s_SameMac_L0_ls w0 mo I0 hmo) ?_, trivial⟩) ((s_SameMac_lk x0 x1).trans (s_SameMac_p x0 x1 ((hf 0 1 rfl rfl).rng) ((hf 0 2 rfl rfl).rng) ((hf 0 3 rfl rfl).len) (fun y hy => (hf 0 3 rfl rfl).elem hy) ((hf 1 1 rfl rfl).rng) ((hf 1 2 rfl rfl).rng) ((hf 1 3 rfl rfl).len) (fun y hy => (hf 1 3 rfl rfl).elem hy) _ _ _))
  all_goals (kernel_rfl)
noncomputable def s_SameMac_e : Ent1 Tryd.prog := entA 71 [.st .mac, .st .mac] (fun x => (s_SameMac x.1 x.2.1)) (fun v => [rv (.sc .bool) [] v]) (fun x => s_SameMac_c x.1 x.2.1)


/-- spec.MacOk -/
def s_MacOk_ann : List (Nat × Keep) := [(2, ⟨[1, 3, 4], [], false, 0⟩), (0, ⟨[1, 3], [], false, 0⟩)]
def s_MacOk_L0_0_sh : Sh := ⟨[(1, false, [.ptr 0 0]), (3, false, [.int .i64]), (4, false, [.int .i64])], [.box [.bool, .int .u64, .int .u64, .sl .arg .macRow]]⟩
def s_MacOk_L0_0_es : List (Ex × Sh) := [(.ret, ⟨[(1, false, [.ptr 0 0]), (2, false, [.bool]), (3, false, [.int .i64])], [.box [.bool, .int .u64, .int .u64, .sl .arg .macRow]]⟩), (.exit 2, ⟨[(1, false, [.ptr 0 0]), (2, false, [.undef]), (3, false, [.int .i64])], [.box [.bool, .int .u64, .int .u64, .sl .arg .macRow]]⟩)]
def s_MacOk_L0_0_mk (vb0 : Int) (vb1 : Int) (vb2 : Bool) (vb3 : Int) (vb4 : Int) (vb5 : List MacRow) : s_MacOk_L0_0_sh.T := ((((), ()), ((vb0, ()), ((vb1, ()), ()))), ((vb2, (vb3, (vb4, (vb5, ())))), ()))
def s_MacOk_L0_0_mx0 (y0 : Bool) (y1 : Int) (y2 : Bool) (y3 : Int) (y4 : Int) (y5 : List MacRow) : Sh.T ⟨[(1, false, [.ptr 0 0]), (2, false, [.bool]), (3, false, [.int .i64])], [.box [.bool, .int .u64, .int .u64, .sl .arg .macRow]]⟩ := ((((), ()), ((y0, ()), ((y1, ()), ()))), ((y2, (y3, (y4, (y5, ())))), ()))
def s_MacOk_L0_0_mx1 (y0 : Int) (y1 : Bool) (y2 : Int) (y3 : Int) (y4 : List MacRow) : Sh.T ⟨[(1, false, [.ptr 0 0]), (2, false, [.undef]), (3, false, [.int .i64])], [.box [.bool, .int .u64, .int .u64, .sl .arg .macRow]]⟩ := ((((), ()), (((), ()), ((y0, ()), ()))), ((y1, (y2, (y3, (y4, ())))), ()))
def s_MacOk_L0_0_B (vb0 : Int) (vb1 : Int) (vb2 : Bool) (vb3 : Int) (vb4 : Int) (vb5 : List MacRow) (γ : Type) (fail : γ) (next : s_MacOk_L0_0_sh.T → γ) (out : WT s_MacOk_L0_0_es → γ) : γ :=
  bif (decide (vb1 < vb0)) then
    bif ((decide (0 ≤ vb1)) && (decide (vb1 < (vb5.length : Int)))) then
    bif ((decide (0 ≤ vb0)) && (decide (vb0 < (vb5.length : Int)))) then
    bif ((vb5.getD vb1.toNat (Ty.zero .macRow)).input == (vb5.getD vb0.toNat (Ty.zero .macRow)).input) then
      out (Sum.inl (s_MacOk_L0_0_mx0 false vb0 vb2 vb3 vb4 vb5))
    else
    next (s_MacOk_L0_0_mk vb0 (IntKind.wrap .i64 (vb1 + 1)) vb2 vb3 vb4 vb5)
    else fail
    else fail
  else
  out (Sum.inr (s_MacOk_L0_0_mx1 vb0 vb2 vb3 vb4 vb5))
theorem s_MacOk_L0_0_par (vb0 : Int) (vb1 : Int) (vb2 : Bool) (vb3 : Int) (vb4 : Int) (vb5 : List MacRow) (γ : Type) (fail : γ) (next : s_MacOk_L0_0_sh.T → γ) (out : WT s_MacOk_L0_0_es → γ) : s_MacOk_L0_0_B vb0 vb1 vb2 vb3 vb4 vb5 γ fail next out = optK (s_MacOk_L0_0_B vb0 vb1 vb2 vb3 vb4 vb5 _ none (fun v' => some (.inl v')) (fun w => some (.inr w))) fail (fun r => Sum.elim next out r) := by
  unfold s_MacOk_L0_0_B
  repeat' (first | refine letT (f := (fun o => optK o fail (fun r => Sum.elim next out r))) (fun _ _ => ?_) | refine bifT (f := (fun o => optK o fail (fun r => Sum.elim next out r))) (fun _ => ?_) (fun _ => ?_) | rfl)
def s_MacOk_L0_0_r : Round s_MacOk_L0_0_sh.T (WT s_MacOk_L0_0_es) where
  B v γ fail next out := s_MacOk_L0_0_B v.1.2.1.1 v.1.2.2.1.1 v.2.1.1 v.2.1.2.1 v.2.1.2.2.1 v.2.1.2.2.2.1 γ fail next out
  par v γ fail next out := s_MacOk_L0_0_par v.1.2.1.1 v.1.2.2.1.1 v.2.1.1 v.2.1.2.1 v.2.1.2.2.1 v.2.1.2.2.2.1 γ fail next out
def s_MacOk_L0_0_fu (vb0 : Int) (vb1 : Int) (vb2 : Bool) (vb3 : Int) (vb4 : Int) (vb5 : List MacRow) : Nat := (Int.toNat (vb0 - vb1)) + 1
theorem s_MacOk_L0_0_lk (v : s_MacOk_L0_0_sh.T) (next : St → Option Res) (k : Ex → St → Option Res) : evalK te (orcOf (P := Tryd.prog) [s_l1In_e]) (lorcOf []) Tryd.f72.ntmps s_MacOk_ann (nthLoop (nthLoop (bodyOf Tryd.f72) 0 0) 0 0) 2 (s_MacOk_L0_0_sh.enc v) (endK ⟨[1, 3, 4], [], false, 0⟩ ⟨[1, 2, 3], [], false, 0⟩ next k) =
  s_MacOk_L0_0_r.B v _ none (fun v' => next (s_MacOk_L0_0_sh.enc v')) (fun w => outK s_MacOk_L0_0_es k w) := by kernel_rfl
def s_MacOk_L0_0_le : LE := leOf 2 s_MacOk_L0_0_sh s_MacOk_L0_0_es s_MacOk_L0_0_r.step (fun v => s_MacOk_L0_0_fu v.1.2.1.1 v.1.2.2.1.1 v.2.1.1 v.2.1.2.1 v.2.1.2.2.1 v.2.1.2.2.2.1)
theorem s_MacOk_L0_0_ls (w0 : World) (mo : Mts) (I0 : Nat → Prop) (hmo : mo.length = 0) : LSem Tryd.prog (Sim w0 mo Tryd.f72.ntmps I0) (fun b s k => match Nat.beq 2 b with | true => s_MacOk_L0_0_le.run s k | false => none) 2 (nthLoop (nthLoop (bodyOf Tryd.f72) 0 0) 0 0) :=
  le_sem hmo (lorc := lorcOf []) (ann := s_MacOk_ann) (keep := ⟨[1, 3, 4], [], false, 0⟩) (kout := ⟨[1, 2, 3], [], false, 0⟩) teFact mixFact (orcOf_ok _) (by kernel_rfl) (allLoops_of (bs := []) (by kernel_rfl) trivial) s_MacOk_L0_0_r _ s_MacOk_L0_0_lk
def s_MacOk_L0_0_f (vb0 : Int) (vb2 : Bool) (vb3 : Int) (vb4 : Int) (vb5 : List MacRow) (vb1 : Int) (a : Unit) : Stp (Unit) ((Unit)) :=
  bif ((vb5.getD vb1.toNat (Ty.zero .macRow)).input == (vb5.getD vb0.toNat (Ty.zero .macRow)).input) then
    .out (())
  else
  .next ()
theorem s_MacOk_L0_0_st (vb0 : Int) (vb1 : Int) (vb2 : Bool) (vb3 : Int) (vb4 : Int) (vb5 : List MacRow) (hlo : 0 ≤ vb1) (hhi : vb1 < vb0) (hN : vb0 ≤ 4611686018427387904) (hi0 : vb0 ≤ (vb5.length : Int)) (hi1 : 0 ≤ vb0) (hi2 : vb0 < (vb5.length : Int)) : s_MacOk_L0_0_r.step (s_MacOk_L0_0_mk vb0 vb1 vb2 vb3 vb4 vb5) = Stp.elim (fun a' : Unit => some (Sum.inl (s_MacOk_L0_0_mk vb0 (vb1 + 1) vb2 vb3 vb4 vb5))) (fun w => some (Sum.inr ((fun p : Unit => Sum.inl (s_MacOk_L0_0_mx0 false vb0 vb2 vb3 vb4 vb5)) w))) (s_MacOk_L0_0_f vb0 vb2 vb3 vb4 vb5 vb1 ()) := by
  have hw : (IntKind.wrap .i64 (vb1 + 1)) = vb1 + 1 := wrap64 (by omega) (by omega)
  show s_MacOk_L0_0_B vb0 vb1 vb2 vb3 vb4 vb5 (Option (s_MacOk_L0_0_sh.T ⊕ WT s_MacOk_L0_0_es)) none (fun v' => some (Sum.inl v')) (fun w => some (Sum.inr w)) = _
  unfold s_MacOk_L0_0_B s_MacOk_L0_0_f
  refine bifG (by simp only [decide_eq_true_eq]; omega) (bifG ?_ (bifG ?_ (bifT (f := (Stp.elim (fun a' : Unit => some (Sum.inl (s_MacOk_L0_0_mk vb0 (vb1 + 1) vb2 vb3 vb4 vb5))) (fun w => some (Sum.inr ((fun p : Unit => Sum.inl (s_MacOk_L0_0_mx0 false vb0 vb2 vb3 vb4 vb5)) w))))) (fun b0 => rfl)
      (fun b0 => (by exact congrArg (fun z => some (Sum.inl (s_MacOk_L0_0_mk vb0 z vb2 vb3 vb4 vb5))) hw)))))
  all_goals ((try simp only [Nat.ble_eq, Bool.and_eq_true, decide_eq_true_eq]); grind [maxSl, maxStr, toBytes_length, toInts_length, List.length_set, wrap64])
theorem s_MacOk_L0_0_cl (vb0 : Int) (vb1 : Int) (vb2 : Bool) (vb3 : Int) (vb4 : Int) (vb5 : List MacRow) (h0 : 0 ≤ vb1) (h1 : vb0 ≤ 4611686018427387904) (h2 : vb0 ≤ (vb5.length : Int)) (h3 : 0 ≤ vb0) (h4 : vb0 < (vb5.length : Int)) : loopF s_MacOk_L0_0_r.step (s_MacOk_L0_0_fu vb0 vb1 vb2 vb3 vb4 vb5) (s_MacOk_L0_0_mk vb0 vb1 vb2 vb3 vb4 vb5) = some (Stp.elim (fun a => (fun i a => Sum.inr (s_MacOk_L0_0_mx1 vb0 vb2 vb3 vb4 vb5)) (vb1 + 1 * (((Int.toNat (vb0 - vb1)) : Nat) : Int)) a) (fun p : Unit => Sum.inl (s_MacOk_L0_0_mx0 false vb0 vb2 vb3 vb4 vb5)) (forN (s_MacOk_L0_0_f vb0 vb2 vb3 vb4 vb5) 1 (Int.toNat (vb0 - vb1)) vb1 ())) :=
  forN_loop (step := s_MacOk_L0_0_r.step) (mk := fun vb1 a => s_MacOk_L0_0_mk vb0 vb1 vb2 vb3 vb4 vb5) (f := s_MacOk_L0_0_f vb0 vb2 vb3 vb4 vb5) (e := (fun i a => Sum.inr (s_MacOk_L0_0_mx1 vb0 vb2 vb3 vb4 vb5))) (emb := (fun p : Unit => Sum.inl (s_MacOk_L0_0_mx0 false vb0 vb2 vb3 vb4 vb5))) (st := 1) (Inv := fun vb1 a => True) (Int.toNat (vb0 - vb1)) vb1 () _ (Nat.lt_succ_self _) trivial
    (fun j a hj hv => ⟨s_MacOk_L0_0_st vb0 (vb1 + 1 * (j : Int)) vb2 vb3 vb4 vb5 (by omega) (by omega) (by omega) h2 h3 h4, fun _ _ => trivial⟩)
    (fun a hv => by
      show s_MacOk_L0_0_B vb0 (vb1 + 1 * (((Int.toNat (vb0 - vb1)) : Nat) : Int)) vb2 vb3 vb4 vb5 (Option (s_MacOk_L0_0_sh.T ⊕ WT s_MacOk_L0_0_es)) none (fun v' => some (Sum.inl v')) (fun w => some (Sum.inr w)) = _
      unfold s_MacOk_L0_0_B
      exact bifN (by simp only [decide_eq_false_iff_not]; omega) rfl)
def s_MacOk_L0_sh : Sh := ⟨[(1, false, [.ptr 0 0]), (3, false, [.int .i64])], [.box [.bool, .int .u64, .int .u64, .sl .arg .macRow]]⟩
def s_MacOk_L0_es : List (Ex × Sh) := [(.ret, ⟨[(1, false, [.ptr 0 0]), (2, false, [.bool])], [.box [.bool, .int .u64, .int .u64, .sl .arg .macRow]]⟩), (.exit 0, ⟨[(1, false, [.ptr 0 0]), (2, false, [.undef])], [.box [.bool, .int .u64, .int .u64, .sl .arg .macRow]]⟩)]
def s_MacOk_L0_mk (v0 : Int) (v1 : Bool) (v2 : Int) (v3 : Int) (v4 : List MacRow) : s_MacOk_L0_sh.T := ((((), ()), ((v0, ()), ())), ((v1, (v2, (v3, (v4, ())))), ()))
def s_MacOk_L0_mx0 (y0 : Bool) (y1 : Bool) (y2 : Int) (y3 : Int) (y4 : List MacRow) : Sh.T ⟨[(1, false, [.ptr 0 0]), (2, false, [.bool])], [.box [.bool, .int .u64, .int .u64, .sl .arg .macRow]]⟩ := ((((), ()), ((y0, ()), ())), ((y1, (y2, (y3, (y4, ())))), ()))
def s_MacOk_L0_mx1 (y0 : Bool) (y1 : Int) (y2 : Int) (y3 : List MacRow) : Sh.T ⟨[(1, false, [.ptr 0 0]), (2, false, [.undef])], [.box [.bool, .int .u64, .int .u64, .sl .arg .macRow]]⟩ := ((((), ()), (((), ()), ())), ((y0, (y1, (y2, (y3, ())))), ()))
def s_MacOk_L0_B (v0 : Int) (v1 : Bool) (v2 : Int) (v3 : Int) (v4 : List MacRow) (γ : Type) (fail : γ) (next : s_MacOk_L0_sh.T → γ) (out : WT s_MacOk_L0_es → γ) : γ :=
  bif (decide (v0 < (v4.length : Int))) then
    bif ((decide (0 ≤ v0)) && (decide (v0 < (v4.length : Int)))) then
    letK (α := Bool) (s_l1In ((v4.getD v0.toNat (Ty.zero .macRow)).value) 0 16777215) fun c1 =>
    bif (!c1) then
      out (Sum.inl (s_MacOk_L0_mx0 false v1 v2 v3 v4))
    else
    optK (loopF s_MacOk_L0_0_r.step (s_MacOk_L0_0_fu v0 0 v1 v2 v3 v4) (s_MacOk_L0_0_mk v0 0 v1 v2 v3 v4)) fail fun w2 =>
      Sum.elim (fun w2 =>
        out (Sum.inl (s_MacOk_L0_mx0 w2.1.2.1.1 w2.2.1.1 w2.2.1.2.1 w2.2.1.2.2.1 w2.2.1.2.2.2.1)))
      (fun w2 =>
        next (s_MacOk_L0_mk (IntKind.wrap .i64 (w2.1.2.2.1.1 + 1)) w2.2.1.1 w2.2.1.2.1 w2.2.1.2.2.1 w2.2.1.2.2.2.1)) w2
    else fail
  else
  out (Sum.inr (s_MacOk_L0_mx1 v1 v2 v3 v4))
theorem s_MacOk_L0_par (v0 : Int) (v1 : Bool) (v2 : Int) (v3 : Int) (v4 : List MacRow) (γ : Type) (fail : γ) (next : s_MacOk_L0_sh.T → γ) (out : WT s_MacOk_L0_es → γ) : s_MacOk_L0_B v0 v1 v2 v3 v4 γ fail next out = optK (s_MacOk_L0_B v0 v1 v2 v3 v4 _ none (fun v' => some (.inl v')) (fun w => some (.inr w))) fail (fun r => Sum.elim next out r) := by
  unfold s_MacOk_L0_B
  exact bifT (f := (fun o => optK o fail (fun r => Sum.elim next out r))) (fun _ => bifT (f := (fun o => optK o fail (fun r => Sum.elim next out r))) (fun _ => letT (f := (fun o => optK o fail (fun r => Sum.elim next out r))) (fun c1 _ => bifT (f := (fun o => optK o fail (fun r => Sum.elim next out r))) (fun _ => rfl)
      (fun _ => optT (f := (fun o => optK o fail (fun r => Sum.elim next out r))) rfl (fun w2 => sumT (f := (fun o => optK o fail (fun r => Sum.elim next out r))) (fun w2 => rfl) (fun w2 => rfl))))) (fun _ => rfl))
      (fun _ => rfl)
def s_MacOk_L0_r : Round s_MacOk_L0_sh.T (WT s_MacOk_L0_es) where
  B v γ fail next out := s_MacOk_L0_B v.1.2.1.1 v.2.1.1 v.2.1.2.1 v.2.1.2.2.1 v.2.1.2.2.2.1 γ fail next out
  par v γ fail next out := s_MacOk_L0_par v.1.2.1.1 v.2.1.1 v.2.1.2.1 v.2.1.2.2.1 v.2.1.2.2.2.1 γ fail next out
def s_MacOk_L0_fu (v0 : Int) (v1 : Bool) (v2 : Int) (v3 : Int) (v4 : List MacRow) : Nat := (Int.toNat ((v4.length : Int) - v0)) + 1
theorem s_MacOk_L0_lk (v : s_MacOk_L0_sh.T) (next : St → Option Res) (k : Ex → St → Option Res) : evalK te (orcOf (P := Tryd.prog) [s_l1In_e]) (lorcOf [s_MacOk_L0_0_le]) Tryd.f72.ntmps s_MacOk_ann (nthLoop (bodyOf Tryd.f72) 0 0) 0 (s_MacOk_L0_sh.enc v) (endK ⟨[1, 3], [], false, 0⟩ ⟨[1, 2], [], false, 0⟩ next k) =
  s_MacOk_L0_r.B v _ none (fun v' => next (s_MacOk_L0_sh.enc v')) (fun w => outK s_MacOk_L0_es k w) := by kernel_rfl
def s_MacOk_L0_le : LE := leOf 0 s_MacOk_L0_sh s_MacOk_L0_es s_MacOk_L0_r.step (fun v => s_MacOk_L0_fu v.1.2.1.1 v.2.1.1 v.2.1.2.1 v.2.1.2.2.1 v.2.1.2.2.2.1)
theorem s_MacOk_L0_ls (w0 : World) (mo : Mts) (I0 : Nat → Prop) (hmo : mo.length = 0) : LSem Tryd.prog (Sim w0 mo Tryd.f72.ntmps I0) (fun b s k => match Nat.beq 0 b with | true => s_MacOk_L0_le.run s k | false => none) 0 (nthLoop (bodyOf Tryd.f72) 0 0) :=
  le_sem hmo (lorc := lorcOf [s_MacOk_L0_0_le]) (ann := s_MacOk_ann) (keep := ⟨[1, 3], [], false, 0⟩) (kout := ⟨[1, 2], [], false, 0⟩) teFact mixFact (orcOf_ok _) (by kernel_rfl) (allLoops_of (bs := [2]) (by kernel_rfl) ⟨lsem_of_lorc (s_MacOk_L0_0_ls w0 mo I0 hmo) (by kernel_rfl), trivial⟩) s_MacOk_L0_r _ s_MacOk_L0_lk
def s_MacOk_L0_f (v1 : Bool) (v2 : Int) (v3 : Int) (v4 : List MacRow) (v0 : Int) (a : Unit) : Stp (Unit) ((Unit)) :=
  letK (α := Bool) (s_l1In ((v4.getD v0.toNat (Ty.zero .macRow)).value) 0 16777215) fun c1 =>
  bif (!c1) then
    .out (())
  else
  Stp.elim (fun a3 =>
    .next ())
    (fun p3 =>
      .out (()))
    (forN (s_MacOk_L0_0_f v0 v1 v2 v3 v4) 1 (Int.toNat (v0 - 0)) 0 ())
theorem s_MacOk_L0_st (v0 : Int) (v1 : Bool) (v2 : Int) (v3 : Int) (v4 : List MacRow) (hlo : 0 ≤ v0) (hhi : v0 < (v4.length : Int)) (hN : (v4.length : Int) ≤ 4611686018427387904) : s_MacOk_L0_r.step (s_MacOk_L0_mk v0 v1 v2 v3 v4) = Stp.elim (fun a' : Unit => some (Sum.inl (s_MacOk_L0_mk (v0 + 1) v1 v2 v3 v4))) (fun w => some (Sum.inr ((fun p : Unit => Sum.inl (s_MacOk_L0_mx0 false v1 v2 v3 v4)) w))) (s_MacOk_L0_f v1 v2 v3 v4 v0 ()) := by
  have hw : (IntKind.wrap .i64 (v0 + 1)) = v0 + 1 := wrap64 (by omega) (by omega)
  show s_MacOk_L0_B v0 v1 v2 v3 v4 (Option (s_MacOk_L0_sh.T ⊕ WT s_MacOk_L0_es)) none (fun v' => some (Sum.inl v')) (fun w => some (Sum.inr w)) = _
  unfold s_MacOk_L0_B s_MacOk_L0_f
  refine bifG (by simp only [decide_eq_true_eq]; omega) (bifG ?_ (letT (f := (Stp.elim (fun a' : Unit => some (Sum.inl (s_MacOk_L0_mk (v0 + 1) v1 v2 v3 v4))) (fun w => some (Sum.inr ((fun p : Unit => Sum.inl (s_MacOk_L0_mx0 false v1 v2 v3 v4)) w))))) (fun c1 hc1 => bifT (f := (Stp.elim (fun a' : Unit => some (Sum.inl (s_MacOk_L0_mk (v0 + 1) v1 v2 v3 v4))) (fun w => some (Sum.inr ((fun p : Unit => Sum.inl (s_MacOk_L0_mx0 false v1 v2 v3 v4)) w))))) (fun b0 => rfl)
      (fun b0 => loopT (f := (Stp.elim (fun a' : Unit => some (Sum.inl (s_MacOk_L0_mk (v0 + 1) v1 v2 v3 v4))) (fun w => some (Sum.inr ((fun p : Unit => Sum.inl (s_MacOk_L0_mx0 false v1 v2 v3 v4)) w))))) (s_MacOk_L0_0_cl v0 0 v1 v2 v3 v4 ?_ ?_ ?_ ?_ ?_) (fun a3 => (by exact congrArg (fun z => some (Sum.inl (s_MacOk_L0_mk z v1 v2 v3 v4))) hw))
      (fun p3 => rfl)))))
  all_goals ((try simp only [Nat.ble_eq, Bool.and_eq_true, decide_eq_true_eq, s_MacOk_L0_0_mx0, s_MacOk_L0_0_mx1]); grind [maxSl, maxStr, toBytes_length, toInts_length, List.length_set, wrap64])
theorem s_MacOk_L0_cl (v0 : Int) (v1 : Bool) (v2 : Int) (v3 : Int) (v4 : List MacRow) (h0 : 0 ≤ v0) (h1 : (v4.length : Int) ≤ 4611686018427387904) : loopF s_MacOk_L0_r.step (s_MacOk_L0_fu v0 v1 v2 v3 v4) (s_MacOk_L0_mk v0 v1 v2 v3 v4) = some (Stp.elim (fun a => (fun i a => Sum.inr (s_MacOk_L0_mx1 v1 v2 v3 v4)) (v0 + 1 * (((Int.toNat ((v4.length : Int) - v0)) : Nat) : Int)) a) (fun p : Unit => Sum.inl (s_MacOk_L0_mx0 false v1 v2 v3 v4)) (forN (s_MacOk_L0_f v1 v2 v3 v4) 1 (Int.toNat ((v4.length : Int) - v0)) v0 ())) :=
  forN_loop (step := s_MacOk_L0_r.step) (mk := fun v0 a => s_MacOk_L0_mk v0 v1 v2 v3 v4) (f := s_MacOk_L0_f v1 v2 v3 v4) (e := (fun i a => Sum.inr (s_MacOk_L0_mx1 v1 v2 v3 v4))) (emb := (fun p : Unit => Sum.inl (s_MacOk_L0_mx0 false v1 v2 v3 v4))) (st := 1) (Inv := fun v0 a => True) (Int.toNat ((v4.length : Int) - v0)) v0 () _ (Nat.lt_succ_self _) trivial
    (fun j a hj hv => ⟨s_MacOk_L0_st (v0 + 1 * (j : Int)) v1 v2 v3 v4 (by omega) (by omega) (by omega), fun _ _ => trivial⟩)
    (fun a hv => by
      show s_MacOk_L0_B (v0 + 1 * (((Int.toNat ((v4.length : Int) - v0)) : Nat) : Int)) v1 v2 v3 v4 (Option (s_MacOk_L0_sh.T ⊕ WT s_MacOk_L0_es)) none (fun v' => some (Sum.inl v')) (fun w => some (Sum.inr w)) = _
      unfold s_MacOk_L0_B
      exact bifN (by simp only [decide_eq_false_iff_not]; omega) rfl)
def s_MacOk_N (x0 : Mac) (γ : Type) (fail : γ) (k : Bool → γ) : γ :=
  bif (!x0.use) then
    k ((x0.rows.length : Int) == 0)
  else
  optK (loopF s_MacOk_L0_r.step (s_MacOk_L0_fu 0 x0.use x0.k x0.l x0.rows) (s_MacOk_L0_mk 0 x0.use x0.k x0.l x0.rows)) fail fun w4 =>
    Sum.elim (fun w4 =>
      k w4.1.2.1.1)
    (fun w4 =>
      bif (w4.2.1.2.1 == 0) then
        bif (w4.2.1.2.2.1 == 0) then
          k (decide ((w4.2.1.2.2.2.1.length : Int) ≤ 64))
        else
        k false
      else
      k false) w4
def s_MacOk (x0 : Mac) : Bool :=
  bif (!x0.use) then
    ((x0.rows.length : Int) == 0)
  else
  Stp.elim (fun a5 =>
    bif (x0.k == 0) then
      bif (x0.l == 0) then
        (decide ((x0.rows.length : Int) ≤ 64))
      else
      false
    else
    false)
    (fun p5 =>
      false)
    (forN (s_MacOk_L0_f x0.use x0.k x0.l x0.rows) 1 (Int.toNat ((x0.rows.length : Int) - 0)) 0 ())
theorem s_MacOk_lk (x0 : Mac) : evalFn te (orcOf (P := Tryd.prog) [s_l1In_e]) (lorcOf [s_MacOk_L0_le]) s_MacOk_ann Tryd.f72 (pvs [.st .mac] (x0, ())) =
  s_MacOk_N x0 _ none (fun v => some [(false, [RC.c (.bool v)])]) := by kernel_rfl
theorem s_MacOk_p (x0 : Mac) (hx0_k : inK .u64 x0.k) (hx0_l : inK .u64 x0.l) (hx0_rows : x0.rows.length ≤ 140737488355328) (hx0_rows_e : ∀ y ∈ x0.rows, ∀ c ∈ Ty.cells .macRow y, FactC c)  (γ : Type) (fail : γ) (k : Bool → γ) : s_MacOk_N x0 γ fail k = k (s_MacOk x0) := by
  unfold s_MacOk_N s_MacOk
  refine bifT (f := k) (fun b0 => rfl)
      (fun b0 => loopT (f := k) (s_MacOk_L0_cl 0 x0.use x0.k x0.l x0.rows ?_ ?_) (fun a5 => bifT (f := k) (fun b1 => bifT (f := k) (fun b2 => rfl)
      (fun b2 => rfl))
      (fun b1 => rfl))
      (fun p5 => rfl))
  all_goals ((try simp only [Nat.ble_eq, Bool.and_eq_true, decide_eq_true_eq, s_MacOk_L0_0_mx0, s_MacOk_L0_0_mx1, s_MacOk_L0_mx0, s_MacOk_L0_mx1]); grind [maxSl, maxStr, toBytes_length, toInts_length, List.length_set, wrap64])
theorem s_MacOk_c (x0 : Mac)  : Con Tryd.prog 72 (pvs [.st .mac] (x0, ())) [rv (.sc .bool) [] (s_MacOk x0)] := by
  refine Con.of_facts (enters_of Tryd.func72 rfl (by kernel_rfl)) fun hf => ?_
  replace hf := factAt hf
  refine evalFn_conL teFact mixFact (orcOf_ok _) Tryd.func72 ?_ (bs := [0]) ?_ ?_ (fun w0 mo I0 hmo => ⟨lsem_of_lorc (s_MacOk_L0_ls w0 mo I0 hmo) ?_, trivial⟩) ((s_MacOk_lk x0).trans (s_MacOk_p x0 ((hf 0 1 rfl rfl).rng) ((hf 0 2 rfl rfl).rng) ((hf 0 3 rfl rfl).len) (fun y hy => (hf 0 3 rfl rfl).elem hy) _ _ _))
  all_goals (kernel_rfl)
noncomputable def s_MacOk_e : Ent1 Tryd.prog := entA 72 [.st .mac] (fun x => (s_MacOk x.1)) (fun v => [rv (.sc .bool) [] v]) (fun x => s_MacOk_c x.1)


/-- impl.within -/
def i_within_N (x0 : Int) (x1 : Int) (x2 : Int) (γ : Type) (fail : γ) (k : Bool → γ) : γ :=
  bif (decide (x1 ≤ x0)) then
    k (decide (x0 ≤ x2))
  else
  k false
def i_within (x0 : Int) (x1 : Int) (x2 : Int) : Bool :=
  bif (decide (x1 ≤ x0)) then
    (decide (x0 ≤ x2))
  else
  false
theorem i_within_lk (x0 : Int) (x1 : Int) (x2 : Int) : evalFn te (orcOf (P := Tryd.prog) []) lorc0 [] Tryd.f75 (pvs [.sc (.int .i64), .sc (.int .i64), .sc (.int .i64)] (x0, x1, x2, ())) =
  i_within_N x0 x1 x2 _ none (fun v => some [(false, [RC.c (.bool v)])]) := by kernel_rfl
theorem i_within_p (x0 : Int) (x1 : Int) (x2 : Int)   (γ : Type) (fail : γ) (k : Bool → γ) : i_within_N x0 x1 x2 γ fail k = k (i_within x0 x1 x2) := by
  unfold i_within_N i_within
  exact bifT (f := k) (fun b0 => rfl)
      (fun b0 => rfl)
theorem i_within_c (x0 : Int) (x1 : Int) (x2 : Int)  : Con Tryd.prog 75 (pvs [.sc (.int .i64), .sc (.int .i64), .sc (.int .i64)] (x0, x1, x2, ())) [rv (.sc .bool) [] (i_within x0 x1 x2)] := by
  exact evalFn_con0 teFact mixFact (orcOf_ok _) Tryd.func75 (by kernel_rfl) ((i_within_lk x0 x1 x2).trans (i_within_p x0 x1 x2  _ _ _))
noncomputable def i_within_e : Ent1 Tryd.prog := entA 75 [.sc (.int .i64), .sc (.int .i64), .sc (.int .i64)] (fun x => (i_within x.1 x.2.1 x.2.2.1)) (fun v => [rv (.sc .bool) [] v]) (fun x => i_within_c x.1 x.2.1 x.2.2.1)

theorem i_within_eq (n lo hi : Int) : i_within n lo hi = (decide (lo ≤ n) && decide (n ≤ hi)) := by
  unfold i_within
  cases decide (lo ≤ n) <;> rfl


/-- impl.Hex -/
def i_Hex_ann : List (Nat × Keep) := [(0, ⟨[0, 3, 7, 8], [], false, 0⟩)]
def i_Hex_L0_sh : Sh := ⟨[(0, false, [.str]), (3, false, [.own 0]), (7, false, [.int .i64]), (8, false, [.int .i64])], [.arr .u8 false true]⟩
def i_Hex_L0_es : List (Ex × Sh) := [(.exit 0, ⟨[(2, false, [.undef]), (3, false, [.own 0])], [.arr .u8 false true]⟩)]
def i_Hex_L0_mk (v0 : Bytes) (v1 : Int) (v2 : Int) (v3 : List Int) : i_Hex_L0_sh.T := (((v0, ()), (((), ()), ((v1, ()), ((v2, ()), ())))), (v3, ()))
def i_Hex_L0_mx0 (y0 : List Int) : Sh.T ⟨[(2, false, [.undef]), (3, false, [.own 0])], [.arr .u8 false true]⟩ := ((((), ()), (((), ()), ())), (y0, ()))
def i_Hex_L0_B (v0 : Bytes) (v1 : Int) (v2 : Int) (v3 : List Int) (γ : Type) (fail : γ) (next : i_Hex_L0_sh.T → γ) (out : WT i_Hex_L0_es → γ) : γ :=
  bif (decide (v2 < v1)) then
    bif ((decide (0 ≤ v2)) && (decide (v2 < (v0.length : Int)))) then
    bif ((decide (0 ≤ ((byteAt v0 v2.toNat).fdiv 16))) && (decide (((byteAt v0 v2.toNat).fdiv 16) < 16))) then
    letK (α := Int) (byteAt [48, 49, 50, 51, 52, 53, 54, 55, 56, 57, 97, 98, 99, 100, 101, 102] (((byteAt v0 v2.toNat).fdiv 16).toNat)) fun e1 =>
    bif ((decide (0 ≤ v2)) && (decide (v2 < (v0.length : Int)))) then
    bif ((decide (0 ≤ (bits .and .u8 (byteAt v0 v2.toNat) 15))) && (decide ((bits .and .u8 (byteAt v0 v2.toNat) 15) < 16))) then
    letK (α := Int) (byteAt [48, 49, 50, 51, 52, 53, 54, 55, 56, 57, 97, 98, 99, 100, 101, 102] ((bits .and .u8 (byteAt v0 v2.toNat) 15).toNat)) fun e2 =>
    bif (Nat.ble ((2 * (v3.length + 2) + 1024) * 1) maxSl) then
    next (i_Hex_L0_mk v0 v1 (IntKind.wrap .i64 (v2 + 1)) (v3 ++ [e1, e2]))
    else fail
    else fail
    else fail
    else fail
    else fail
  else
  out (i_Hex_L0_mx0 v3)
theorem i_Hex_L0_par (v0 : Bytes) (v1 : Int) (v2 : Int) (v3 : List Int) (γ : Type) (fail : γ) (next : i_Hex_L0_sh.T → γ) (out : WT i_Hex_L0_es → γ) : i_Hex_L0_B v0 v1 v2 v3 γ fail next out = optK (i_Hex_L0_B v0 v1 v2 v3 _ none (fun v' => some (.inl v')) (fun w => some (.inr w))) fail (fun r => Sum.elim next out r) := by
  unfold i_Hex_L0_B
  repeat' (first | refine letT (f := (fun o => optK o fail (fun r => Sum.elim next out r))) (fun _ _ => ?_) | refine bifT (f := (fun o => optK o fail (fun r => Sum.elim next out r))) (fun _ => ?_) (fun _ => ?_) | rfl)
def i_Hex_L0_r : Round i_Hex_L0_sh.T (WT i_Hex_L0_es) where
  B v γ fail next out := i_Hex_L0_B v.1.1.1 v.1.2.2.1.1 v.1.2.2.2.1.1 v.2.1 γ fail next out
  par v γ fail next out := i_Hex_L0_par v.1.1.1 v.1.2.2.1.1 v.1.2.2.2.1.1 v.2.1 γ fail next out
def i_Hex_L0_fu (v0 : Bytes) (v1 : Int) (v2 : Int) (v3 : List Int) : Nat := (Int.toNat (v1 - v2)) + 1
theorem i_Hex_L0_lk (v : i_Hex_L0_sh.T) (next : St → Option Res) (k : Ex → St → Option Res) : evalK te (orcOf (P := Tryd.prog) []) (lorcOf []) Tryd.f78.ntmps i_Hex_ann (nthLoop (bodyOf Tryd.f78) 0 0) 0 (i_Hex_L0_sh.enc v) (endK ⟨[0, 3, 7, 8], [], false, 0⟩ ⟨[2, 3], [], false, 0⟩ next k) =
  i_Hex_L0_r.B v _ none (fun v' => next (i_Hex_L0_sh.enc v')) (fun w => outK i_Hex_L0_es k w) := by kernel_rfl
def i_Hex_L0_le : LE := leOf 0 i_Hex_L0_sh i_Hex_L0_es i_Hex_L0_r.step (fun v => i_Hex_L0_fu v.1.1.1 v.1.2.2.1.1 v.1.2.2.2.1.1 v.2.1)
theorem i_Hex_L0_ls (w0 : World) (mo : Mts) (I0 : Nat → Prop) (hmo : mo.length = 0) : LSem Tryd.prog (Sim w0 mo Tryd.f78.ntmps I0) (fun b s k => match Nat.beq 0 b with | true => i_Hex_L0_le.run s k | false => none) 0 (nthLoop (bodyOf Tryd.f78) 0 0) :=
  le_sem hmo (lorc := lorcOf []) (ann := i_Hex_ann) (keep := ⟨[0, 3, 7, 8], [], false, 0⟩) (kout := ⟨[2, 3], [], false, 0⟩) teFact mixFact (orcOf_ok _) (by kernel_rfl) (allLoops_of (bs := []) (by kernel_rfl) trivial) i_Hex_L0_r _ i_Hex_L0_lk
def i_Hex_L0_f (v0 : Bytes) (v1 : Int) (v2 : Int) (a : List Int) : Stp (List Int) (Empty) :=
  letK (α := Int) (byteAt [48, 49, 50, 51, 52, 53, 54, 55, 56, 57, 97, 98, 99, 100, 101, 102] (((byteAt v0 v2.toNat).fdiv 16).toNat)) fun e1 =>
  letK (α := Int) (byteAt [48, 49, 50, 51, 52, 53, 54, 55, 56, 57, 97, 98, 99, 100, 101, 102] ((bits .and .u8 (byteAt v0 v2.toNat) 15).toNat)) fun e2 =>
  .next (a ++ [e1, e2])
theorem i_Hex_L0_st (v0 : Bytes) (v1 : Int) (v2 : Int) (v3 : List Int) (hlo : 0 ≤ v2) (hhi : v2 < v1) (hN : v1 ≤ 4611686018427387904) (hi0 : v1 ≤ 4294967296) (hi1 : v1 ≤ (v0.length : Int)) (hinv : (v3.length : Int) ≤ 2 * v2) : i_Hex_L0_r.step (i_Hex_L0_mk v0 v1 v2 v3) = Stp.elim (fun a' : List Int => some (Sum.inl (i_Hex_L0_mk v0 v1 (v2 + 1) a'))) (fun w => some (Sum.inr ((fun p : Empty => nomatch p) w))) (i_Hex_L0_f v0 v1 v2 v3) := by
  have hw : (IntKind.wrap .i64 (v2 + 1)) = v2 + 1 := wrap64 (by omega) (by omega)
  show i_Hex_L0_B v0 v1 v2 v3 (Option (i_Hex_L0_sh.T ⊕ WT i_Hex_L0_es)) none (fun v' => some (Sum.inl v')) (fun w => some (Sum.inr w)) = _
  unfold i_Hex_L0_B i_Hex_L0_f
  refine bifG (by simp only [decide_eq_true_eq]; omega) (bifG ?_ (bifG ?_ (letT (f := (Stp.elim (fun a' : List Int => some (Sum.inl (i_Hex_L0_mk v0 v1 (v2 + 1) a'))) (fun w => some (Sum.inr ((fun p : Empty => nomatch p) w))))) (fun e1 he1 => bifG ?_ (bifG ?_ (letT (f := (Stp.elim (fun a' : List Int => some (Sum.inl (i_Hex_L0_mk v0 v1 (v2 + 1) a'))) (fun w => some (Sum.inr ((fun p : Empty => nomatch p) w))))) (fun e2 he2 => bifG ?_ ((by exact congrArg (fun z => some (Sum.inl (i_Hex_L0_mk v0 v1 z (v3 ++ [e1, e2])))) hw)))))))))
  all_goals ((try simp only [Nat.ble_eq, Bool.and_eq_true, decide_eq_true_eq]); have hb := byteAt_rng v0 v2.toNat; first | exact and15 _ _ | (rw [Int.fdiv_eq_ediv_of_nonneg _ (by omega)]; omega) | grind [maxSl])
theorem i_Hex_L0_cl (v0 : Bytes) (v1 : Int) (v2 : Int) (v3 : List Int) (h0 : 0 ≤ v2) (h1 : v1 ≤ 4611686018427387904) (h2 : v1 ≤ 4294967296) (h3 : v1 ≤ (v0.length : Int)) (h4 : (v3.length : Int) ≤ 2 * v2) : loopF i_Hex_L0_r.step (i_Hex_L0_fu v0 v1 v2 v3) (i_Hex_L0_mk v0 v1 v2 v3) = some (Stp.elim (fun a => (fun i a => i_Hex_L0_mx0 a) (v2 + 1 * (((Int.toNat (v1 - v2)) : Nat) : Int)) a) (fun p : Empty => nomatch p) (forN (i_Hex_L0_f v0 v1) 1 (Int.toNat (v1 - v2)) v2 v3)) :=
  forN_loop (step := i_Hex_L0_r.step) (mk := fun v2 a => i_Hex_L0_mk v0 v1 v2 a) (f := i_Hex_L0_f v0 v1) (e := (fun i a => i_Hex_L0_mx0 a)) (emb := (fun p : Empty => nomatch p)) (st := 1) (Inv := fun v2 a => (a.length : Int) ≤ 2 * v2) (Int.toNat (v1 - v2)) v2 v3 _ (Nat.lt_succ_self _) h4
    (fun j a hj hv => ⟨i_Hex_L0_st v0 v1 (v2 + 1 * (j : Int)) a (by omega) (by omega) (by omega) h2 h3 hv, by
      intro a' he
      grind [i_Hex_L0_f, letK, Stp.elim, wrap64, List.length_set]⟩)
    (fun a hv => by
      show i_Hex_L0_B v0 v1 (v2 + 1 * (((Int.toNat (v1 - v2)) : Nat) : Int)) a (Option (i_Hex_L0_sh.T ⊕ WT i_Hex_L0_es)) none (fun v' => some (Sum.inl v')) (fun w => some (Sum.inr w)) = _
      unfold i_Hex_L0_B
      exact bifN (by simp only [decide_eq_false_iff_not]; omega) rfl)
theorem i_Hex_L0_nx (v0 : Bytes) (v1 : Int) (v2 : Int) (v3 : List Int) (h0 : 0 ≤ v2) (h1 : v1 ≤ 4611686018427387904) (h2 : v1 ≤ 4294967296) (h3 : v1 ≤ (v0.length : Int)) (h4 : (v3.length : Int) ≤ 2 * v2) : ∀ a', forN (i_Hex_L0_f v0 v1) 1 (Int.toNat (v1 - v2)) v2 v3 = .next a' → (a'.length : Int) ≤ 2 * (v2 + 1 * (((Int.toNat (v1 - v2)) : Nat) : Int)) :=
  forN_inv (f := i_Hex_L0_f v0 v1) (st := 1) (Inv := fun v2 a => (a.length : Int) ≤ 2 * v2) (Int.toNat (v1 - v2)) v2 v3 h4
    (fun j a hj hv => by
      intro a' he
      grind [i_Hex_L0_f, letK, Stp.elim, wrap64, List.length_set])
def i_Hex_N (x0 : Bytes) (γ : Type) (fail : γ) (k : Bytes → γ) : γ :=
  optK (loopF i_Hex_L0_r.step (i_Hex_L0_fu x0 (x0.length : Int) 0 []) (i_Hex_L0_mk x0 (x0.length : Int) 0 [])) fail fun w3 =>
    k (toBytes w3.2.1)
def i_Hex (x0 : Bytes) : Bytes :=
  Stp.elim (fun a4 =>
    (toBytes a4))
    (fun p : Empty => nomatch p)
    (forN (i_Hex_L0_f x0 (x0.length : Int)) 1 (Int.toNat ((x0.length : Int) - 0)) 0 [])
theorem i_Hex_lk (x0 : Bytes) : evalFn te (orcOf (P := Tryd.prog) []) (lorcOf [i_Hex_L0_le]) i_Hex_ann Tryd.f78 (pvs [.sc .str] (x0, ())) =
  i_Hex_N x0 _ none (fun v => some [(false, [RC.c (.str v)])]) := by kernel_rfl
theorem i_Hex_p (x0 : Bytes) (hx0 : List.length x0 ≤ 4611686018427387904) (hp : x0.length ≤ 4294967296) (γ : Type) (fail : γ) (k : Bytes → γ) : i_Hex_N x0 γ fail k = k (i_Hex x0) := by
  unfold i_Hex_N i_Hex
  refine loopX (f := k) (i_Hex_L0_cl x0 (x0.length : Int) 0 [] ?_ ?_ ?_ ?_ ?_) (fun a4 ha4 => have ia4 := i_Hex_L0_nx x0 (x0.length : Int) 0 [] ?_ ?_ ?_ ?_ ?_ _ ha4; rfl)
      (fun p : Empty => nomatch p)
  all_goals ((try simp only [Nat.ble_eq, Bool.and_eq_true, decide_eq_true_eq, i_Hex_L0_mx0]); grind [maxSl, maxStr, toBytes_length, toInts_length, List.length_set, wrap64])
theorem i_Hex_c (x0 : Bytes) (hp : x0.length ≤ 4294967296) : Con Tryd.prog 78 (pvs [.sc .str] (x0, ())) [rv (.sc .str) [] (i_Hex x0)] := by
  refine Con.of_facts (enters_of Tryd.func78 rfl (by kernel_rfl)) fun hf => ?_
  replace hf := factAt hf
  refine evalFn_conL teFact mixFact (orcOf_ok _) Tryd.func78 ?_ (bs := [0]) ?_ ?_ (fun w0 mo I0 hmo => ⟨lsem_of_lorc (i_Hex_L0_ls w0 mo I0 hmo) ?_, trivial⟩) ((i_Hex_lk x0).trans (i_Hex_p x0 ((hf 0 0 rfl rfl).slen) hp _ _ _))
  all_goals (kernel_rfl)
noncomputable def i_Hex_e : Ent1 Tryd.prog := entP 78 [.sc .str] (fun x => (decide (x.1.length ≤ 4294967296))) (fun x => (i_Hex x.1)) (fun v => [rv (.sc .str) [] v]) (fun x hx => i_Hex_c x.1 (of_decide_eq_true hx))

theorem i_Hex_len (x0 : Bytes) (hp : x0.length ≤ 4294967296)  : (fun v : Bytes => v.length ≤ 2 * x0.length) (i_Hex x0) := by
  unfold i_Hex
  refine loopP (P := (fun v : Bytes => v.length ≤ 2 * x0.length)) (fun a4 ha4 => have ia4 := i_Hex_L0_nx x0 (x0.length : Int) 0 [] ?_ ?_ ?_ ?_ ?_ _ ha4; ?_)
      (fun p _ => nomatch p)
  all_goals ((try simp only [Nat.ble_eq, Bool.and_eq_true, decide_eq_true_eq, i_Hex_L0_mx0]); grind [maxSl, maxStr, toBytes_length, toInts_length, List.length_set, wrap64])

/-- spec.GetWord -/
def s_GetWord_ann : List (Nat × Keep) := [(0, ⟨[0, 1, 2, 8, 9], [], false, 0⟩)]
def s_GetWord_L0_sh : Sh := ⟨[(0, false, [.str]), (1, false, [.int .i64]), (2, false, [.int .i64]), (8, false, [.int .i64]), (9, false, [.int .i64])], []⟩
def s_GetWord_L0_es : List (Ex × Sh) := [(.exit 0, ⟨[(6, false, [.undef]), (7, false, [.undef]), (8, false, [.int .i64])], []⟩)]
def s_GetWord_L0_mk (v0 : Bytes) (v1 : Int) (v2 : Int) (v3 : Int) (v4 : Int) : s_GetWord_L0_sh.T := (((v0, ()), ((v1, ()), ((v2, ()), ((v3, ()), ((v4, ()), ()))))), ())
def s_GetWord_L0_mx0 (y0 : Int) : Sh.T ⟨[(6, false, [.undef]), (7, false, [.undef]), (8, false, [.int .i64])], []⟩ := ((((), ()), (((), ()), ((y0, ()), ()))), ())
def s_GetWord_L0_B (v0 : Bytes) (v1 : Int) (v2 : Int) (v3 : Int) (v4 : Int) (γ : Type) (fail : γ) (next : s_GetWord_L0_sh.T → γ) (out : WT s_GetWord_L0_es → γ) : γ :=
  bif (decide (v4 < v2)) then
    bif ((decide (0 ≤ (IntKind.wrap .i64 (v1 + v4)))) && (decide ((IntKind.wrap .i64 (v1 + v4)) < (v0.length : Int)))) then
    letK (α := Int) (IntKind.wrap .i64 ((IntKind.wrap .i64 (256 * v3)) + (IntKind.wrap .i64 (byteAt v0 ((IntKind.wrap .i64 (v1 + v4)).toNat))))) fun e3 =>
    next (s_GetWord_L0_mk v0 v1 v2 e3 (IntKind.wrap .i64 (v4 + 1)))
    else fail
  else
  out (s_GetWord_L0_mx0 v3)
theorem s_GetWord_L0_par (v0 : Bytes) (v1 : Int) (v2 : Int) (v3 : Int) (v4 : Int) (γ : Type) (fail : γ) (next : s_GetWord_L0_sh.T → γ) (out : WT s_GetWord_L0_es → γ) : s_GetWord_L0_B v0 v1 v2 v3 v4 γ fail next out = optK (s_GetWord_L0_B v0 v1 v2 v3 v4 _ none (fun v' => some (.inl v')) (fun w => some (.inr w))) fail (fun r => Sum.elim next out r) := by
  unfold s_GetWord_L0_B
  repeat' (first | refine letT (f := (fun o => optK o fail (fun r => Sum.elim next out r))) (fun _ _ => ?_) | refine bifT (f := (fun o => optK o fail (fun r => Sum.elim next out r))) (fun _ => ?_) (fun _ => ?_) | rfl)
def s_GetWord_L0_r : Round s_GetWord_L0_sh.T (WT s_GetWord_L0_es) where
  B v γ fail next out := s_GetWord_L0_B v.1.1.1 v.1.2.1.1 v.1.2.2.1.1 v.1.2.2.2.1.1 v.1.2.2.2.2.1.1 γ fail next out
  par v γ fail next out := s_GetWord_L0_par v.1.1.1 v.1.2.1.1 v.1.2.2.1.1 v.1.2.2.2.1.1 v.1.2.2.2.2.1.1 γ fail next out
def s_GetWord_L0_fu (v0 : Bytes) (v1 : Int) (v2 : Int) (v3 : Int) (v4 : Int) : Nat := (Int.toNat (v2 - v4)) + 1
theorem s_GetWord_L0_lk (v : s_GetWord_L0_sh.T) (next : St → Option Res) (k : Ex → St → Option Res) : evalK te (orcOf (P := Tryd.prog) [s_l1In_e]) (lorcOf []) Tryd.f80.ntmps s_GetWord_ann (nthLoop (bodyOf Tryd.f80) 0 0) 0 (s_GetWord_L0_sh.enc v) (endK ⟨[0, 1, 2, 8, 9], [], false, 0⟩ ⟨[6, 7, 8], [], false, 0⟩ next k) =
  s_GetWord_L0_r.B v _ none (fun v' => next (s_GetWord_L0_sh.enc v')) (fun w => outK s_GetWord_L0_es k w) := by kernel_rfl
def s_GetWord_L0_le : LE := leOf 0 s_GetWord_L0_sh s_GetWord_L0_es s_GetWord_L0_r.step (fun v => s_GetWord_L0_fu v.1.1.1 v.1.2.1.1 v.1.2.2.1.1 v.1.2.2.2.1.1 v.1.2.2.2.2.1.1)
theorem s_GetWord_L0_ls (w0 : World) (mo : Mts) (I0 : Nat → Prop) (hmo : mo.length = 0) : LSem Tryd.prog (Sim w0 mo Tryd.f80.ntmps I0) (fun b s k => match Nat.beq 0 b with | true => s_GetWord_L0_le.run s k | false => none) 0 (nthLoop (bodyOf Tryd.f80) 0 0) :=
  le_sem hmo (lorc := lorcOf []) (ann := s_GetWord_ann) (keep := ⟨[0, 1, 2, 8, 9], [], false, 0⟩) (kout := ⟨[6, 7, 8], [], false, 0⟩) teFact mixFact (orcOf_ok _) (by kernel_rfl) (allLoops_of (bs := []) (by kernel_rfl) trivial) s_GetWord_L0_r _ s_GetWord_L0_lk
def s_GetWord_L0_f (v0 : Bytes) (v1 : Int) (v2 : Int) (v4 : Int) (a : Int) : Stp (Int) (Empty) :=
  letK (α := Int) (IntKind.wrap .i64 ((IntKind.wrap .i64 (256 * a)) + (IntKind.wrap .i64 (byteAt v0 ((IntKind.wrap .i64 (v1 + v4)).toNat))))) fun e3 =>
  .next e3
theorem s_GetWord_L0_st (v0 : Bytes) (v1 : Int) (v2 : Int) (v3 : Int) (v4 : Int) (hlo : 0 ≤ v4) (hhi : v4 < v2) (hN : v2 ≤ 4611686018427387904) (hi0 : (v0.length : Int) ≤ 4611686018427387904) (hi1 : 0 ≤ v1) (hi2 : v1 + v2 ≤ (v0.length : Int)) : s_GetWord_L0_r.step (s_GetWord_L0_mk v0 v1 v2 v3 v4) = Stp.elim (fun a' : Int => some (Sum.inl (s_GetWord_L0_mk v0 v1 v2 a' (v4 + 1)))) (fun w => some (Sum.inr ((fun p : Empty => nomatch p) w))) (s_GetWord_L0_f v0 v1 v2 v4 v3) := by
  have hw : (IntKind.wrap .i64 (v4 + 1)) = v4 + 1 := wrap64 (by omega) (by omega)
  show s_GetWord_L0_B v0 v1 v2 v3 v4 (Option (s_GetWord_L0_sh.T ⊕ WT s_GetWord_L0_es)) none (fun v' => some (Sum.inl v')) (fun w => some (Sum.inr w)) = _
  unfold s_GetWord_L0_B s_GetWord_L0_f
  exact bifG (by simp only [decide_eq_true_eq]; omega) (bifG (by (try simp only [Nat.ble_eq, Bool.and_eq_true, decide_eq_true_eq]); grind [maxSl, maxStr, toBytes_length, toInts_length, List.length_set, wrap64]) (letT (f := (Stp.elim (fun a' : Int => some (Sum.inl (s_GetWord_L0_mk v0 v1 v2 a' (v4 + 1)))) (fun w => some (Sum.inr ((fun p : Empty => nomatch p) w))))) (fun e3 he3 => (by exact congrArg (fun z => some (Sum.inl (s_GetWord_L0_mk v0 v1 v2 e3 z))) hw))))
theorem s_GetWord_L0_cl (v0 : Bytes) (v1 : Int) (v2 : Int) (v3 : Int) (v4 : Int) (h0 : 0 ≤ v4) (h1 : v2 ≤ 4611686018427387904) (h2 : (v0.length : Int) ≤ 4611686018427387904) (h3 : 0 ≤ v1) (h4 : v1 + v2 ≤ (v0.length : Int)) : loopF s_GetWord_L0_r.step (s_GetWord_L0_fu v0 v1 v2 v3 v4) (s_GetWord_L0_mk v0 v1 v2 v3 v4) = some (Stp.elim (fun a => (fun i a => s_GetWord_L0_mx0 a) (v4 + 1 * (((Int.toNat (v2 - v4)) : Nat) : Int)) a) (fun p : Empty => nomatch p) (forN (s_GetWord_L0_f v0 v1 v2) 1 (Int.toNat (v2 - v4)) v4 v3)) :=
  forN_loop (step := s_GetWord_L0_r.step) (mk := fun v4 a => s_GetWord_L0_mk v0 v1 v2 a v4) (f := s_GetWord_L0_f v0 v1 v2) (e := (fun i a => s_GetWord_L0_mx0 a)) (emb := (fun p : Empty => nomatch p)) (st := 1) (Inv := fun v4 a => True) (Int.toNat (v2 - v4)) v4 v3 _ (Nat.lt_succ_self _) trivial
    (fun j a hj hv => ⟨s_GetWord_L0_st v0 v1 v2 a (v4 + 1 * (j : Int)) (by omega) (by omega) (by omega) h2 h3 h4, fun _ _ => trivial⟩)
    (fun a hv => by
      show s_GetWord_L0_B v0 v1 v2 a (v4 + 1 * (((Int.toNat (v2 - v4)) : Nat) : Int)) (Option (s_GetWord_L0_sh.T ⊕ WT s_GetWord_L0_es)) none (fun v' => some (Sum.inl v')) (fun w => some (Sum.inr w)) = _
      unfold s_GetWord_L0_B
      exact bifN (by simp only [decide_eq_false_iff_not]; omega) rfl)
def s_GetWord_N (x0 : Bytes) (x1 : Int) (x2 : Int) (γ : Type) (fail : γ) (k : Int × Bool → γ) : γ :=
  letK (α := Bool) (s_l1In x2 1 6) fun c1 =>
  bif (!c1) then
    k (0, false)
  else
  letK (α := Bool) (s_l1In x1 0 (IntKind.wrap .i64 ((x0.length : Int) - x2))) fun c2 =>
  bif (!c2) then
    k (0, false)
  else
  optK (loopF s_GetWord_L0_r.step (s_GetWord_L0_fu x0 x1 x2 0 0) (s_GetWord_L0_mk x0 x1 x2 0 0)) fail fun w4 =>
    k (w4.1.2.2.1.1, true)
def s_GetWord (x0 : Bytes) (x1 : Int) (x2 : Int) : Int × Bool :=
  letK (α := Bool) (s_l1In x2 1 6) fun c1 =>
  bif (!c1) then
    (0, false)
  else
  letK (α := Bool) (s_l1In x1 0 (IntKind.wrap .i64 ((x0.length : Int) - x2))) fun c2 =>
  bif (!c2) then
    (0, false)
  else
  Stp.elim (fun a5 =>
    (a5, true))
    (fun p : Empty => nomatch p)
    (forN (s_GetWord_L0_f x0 x1 x2) 1 (Int.toNat (x2 - 0)) 0 0)
theorem s_GetWord_lk (x0 : Bytes) (x1 : Int) (x2 : Int) : evalFn te (orcOf (P := Tryd.prog) [s_l1In_e]) (lorcOf [s_GetWord_L0_le]) s_GetWord_ann Tryd.f80 (pvs [.sc .str, .sc (.int .i64), .sc (.int .i64)] (x0, x1, x2, ())) =
  s_GetWord_N x0 x1 x2 _ none (fun v => some [(false, [RC.c (.int .i64 v.1)]), (false, [RC.c (.bool v.2)])]) := by kernel_rfl
theorem s_GetWord_p (x0 : Bytes) (x1 : Int) (x2 : Int) (hx0 : List.length x0 ≤ 4611686018427387904) (hx1 : inK .i64 x1) (hx2 : inK .i64 x2)  (γ : Type) (fail : γ) (k : Int × Bool → γ) : s_GetWord_N x0 x1 x2 γ fail k = k (s_GetWord x0 x1 x2) := by
  unfold s_GetWord_N s_GetWord
  refine letT (f := k) (fun c1 hc1 => bifT (f := k) (fun b0 => rfl)
      (fun b0 => letT (f := k) (fun c2 hc2 => bifT (f := k) (fun b1 => rfl)
      (fun b1 => loopT (f := k) (s_GetWord_L0_cl x0 x1 x2 0 0 ?_ ?_ ?_ ?_ ?_) (fun a5 => rfl)
      (fun p : Empty => nomatch p)))))
  all_goals ((try simp only [Nat.ble_eq, Bool.and_eq_true, decide_eq_true_eq, s_GetWord_L0_mx0]); grind [maxSl, maxStr, toBytes_length, toInts_length, List.length_set, wrap64, s_l1In_eq])
theorem s_GetWord_c (x0 : Bytes) (x1 : Int) (x2 : Int)  : Con Tryd.prog 80 (pvs [.sc .str, .sc (.int .i64), .sc (.int .i64)] (x0, x1, x2, ())) [rv (.sc (.int .i64)) [] (s_GetWord x0 x1 x2).1, rv (.sc .bool) [] (s_GetWord x0 x1 x2).2] := by
  refine Con.of_facts (enters_of Tryd.func80 rfl (by kernel_rfl)) fun hf => ?_
  replace hf := factAt hf
  refine evalFn_conL teFact mixFact (orcOf_ok _) Tryd.func80 ?_ (bs := [0]) ?_ ?_ (fun w0 mo I0 hmo => ⟨lsem_of_lorc (s_GetWord_L0_ls w0 mo I0 hmo) ?_, trivial⟩) ((s_GetWord_lk x0 x1 x2).trans (s_GetWord_p x0 x1 x2 ((hf 0 0 rfl rfl).slen) ((hf 1 0 rfl rfl).rng) ((hf 2 0 rfl rfl).rng) _ _ _))
  all_goals (kernel_rfl)
noncomputable def s_GetWord_e : Ent1 Tryd.prog := entA 80 [.sc .str, .sc (.int .i64), .sc (.int .i64)] (fun x => (s_GetWord x.1 x.2.1 x.2.2.1)) (fun v => [rv (.sc (.int .i64)) [] v.1, rv (.sc .bool) [] v.2]) (fun x => s_GetWord_c x.1 x.2.1 x.2.2.1)


/-- spec.l1Half -/
def s_l1Half_N (x0 : Int) (γ : Type) (fail : γ) (k : Int → γ) : γ :=
  bif (decide (48 ≤ x0)) then
    bif (decide (x0 ≤ 57)) then
      k (IntKind.wrap .i64 ((IntKind.wrap .i64 x0) - 48))
    else
    bif (decide (97 ≤ x0)) then
      bif (decide (x0 ≤ 102)) then
        letK (α := Int) (IntKind.wrap .i64 ((IntKind.wrap .i64 ((IntKind.wrap .i64 x0) - 97)) + 10)) fun e1 =>
        k e1
      else
      k (-1)
    else
    k (-1)
  else
  bif (decide (97 ≤ x0)) then
    bif (decide (x0 ≤ 102)) then
      letK (α := Int) (IntKind.wrap .i64 ((IntKind.wrap .i64 ((IntKind.wrap .i64 x0) - 97)) + 10)) fun e2 =>
      k e2
    else
    k (-1)
  else
  k (-1)
def s_l1Half (x0 : Int) : Int :=
  bif (decide (48 ≤ x0)) then
    bif (decide (x0 ≤ 57)) then
      (IntKind.wrap .i64 ((IntKind.wrap .i64 x0) - 48))
    else
    bif (decide (97 ≤ x0)) then
      bif (decide (x0 ≤ 102)) then
        letK (α := Int) (IntKind.wrap .i64 ((IntKind.wrap .i64 ((IntKind.wrap .i64 x0) - 97)) + 10)) fun e1 =>
        e1
      else
      (-1)
    else
    (-1)
  else
  bif (decide (97 ≤ x0)) then
    bif (decide (x0 ≤ 102)) then
      letK (α := Int) (IntKind.wrap .i64 ((IntKind.wrap .i64 ((IntKind.wrap .i64 x0) - 97)) + 10)) fun e2 =>
      e2
    else
    (-1)
  else
  (-1)
theorem s_l1Half_lk (x0 : Int) : evalFn te (orcOf (P := Tryd.prog) []) lorc0 [] Tryd.f82 (pvs [.sc (.int .u8)] (x0, ())) =
  s_l1Half_N x0 _ none (fun v => some [(false, [RC.c (.int .i64 v)])]) := by kernel_rfl
theorem s_l1Half_p (x0 : Int)   (γ : Type) (fail : γ) (k : Int → γ) : s_l1Half_N x0 γ fail k = k (s_l1Half x0) := by
  unfold s_l1Half_N s_l1Half
  exact bifT (f := k) (fun b0 => bifT (f := k) (fun b1 => rfl)
      (fun b1 => bifT (f := k) (fun b2 => bifT (f := k) (fun b3 => letT (f := k) (fun e1 he1 => rfl))
      (fun b3 => rfl))
      (fun b2 => rfl)))
      (fun b0 => bifT (f := k) (fun b1 => bifT (f := k) (fun b2 => letT (f := k) (fun e2 he2 => rfl))
      (fun b2 => rfl))
      (fun b1 => rfl))
theorem s_l1Half_c (x0 : Int)  : Con Tryd.prog 82 (pvs [.sc (.int .u8)] (x0, ())) [rv (.sc (.int .i64)) [] (s_l1Half x0)] := by
  exact evalFn_con0 teFact mixFact (orcOf_ok _) Tryd.func82 (by kernel_rfl) ((s_l1Half_lk x0).trans (s_l1Half_p x0  _ _ _))
noncomputable def s_l1Half_e : Ent1 Tryd.prog := entA 82 [.sc (.int .u8)] (fun x => (s_l1Half x.1)) (fun v => [rv (.sc (.int .i64)) [] v]) (fun x => s_l1Half_c x.1)


/-- impl.Unhex -/
def i_Unhex_ann : List (Nat × Keep) := [(0, ⟨[0, 4, 5], [], false, 0⟩)]
def i_Unhex_L0_sh : Sh := ⟨[(0, false, [.str]), (4, false, [.own 0]), (5, false, [.int .i64])], [.arr .u8 false true]⟩
def i_Unhex_L0_es : List (Ex × Sh) := [(.ret, ⟨[(2, false, [.str]), (3, false, [.bool]), (4, false, [.own 0])], [.arr .u8 false true]⟩), (.exit 0, ⟨[(2, false, [.undef]), (3, false, [.undef]), (4, false, [.own 0])], [.arr .u8 false true]⟩)]
def i_Unhex_L0_mk (v0 : Bytes) (v1 : Int) (v2 : List Int) : i_Unhex_L0_sh.T := (((v0, ()), (((), ()), ((v1, ()), ()))), (v2, ()))
def i_Unhex_L0_mx0 (y0 : Bytes) (y1 : Bool) (y2 : List Int) : Sh.T ⟨[(2, false, [.str]), (3, false, [.bool]), (4, false, [.own 0])], [.arr .u8 false true]⟩ := (((y0, ()), ((y1, ()), (((), ()), ()))), (y2, ()))
def i_Unhex_L0_mx1 (y0 : List Int) : Sh.T ⟨[(2, false, [.undef]), (3, false, [.undef]), (4, false, [.own 0])], [.arr .u8 false true]⟩ := ((((), ()), (((), ()), (((), ()), ()))), (y0, ()))
def i_Unhex_L0_B (v0 : Bytes) (v1 : Int) (v2 : List Int) (γ : Type) (fail : γ) (next : i_Unhex_L0_sh.T → γ) (out : WT i_Unhex_L0_es → γ) : γ :=
  bif (decide (v1 < (v0.length : Int))) then
    bif ((decide (0 ≤ v1)) && (decide (v1 < (v0.length : Int)))) then
    letK (α := Int) (lb_IndexByte [48, 49, 50, 51, 52, 53, 54, 55, 56, 57, 97, 98, 99, 100, 101, 102] (byteAt v0 v1.toNat)) fun c1 =>
    bif ((decide (0 ≤ (IntKind.wrap .i64 (v1 + 1)))) && (decide ((IntKind.wrap .i64 (v1 + 1)) < (v0.length : Int)))) then
    letK (α := Int) (lb_IndexByte [48, 49, 50, 51, 52, 53, 54, 55, 56, 57, 97, 98, 99, 100, 101, 102] (byteAt v0 ((IntKind.wrap .i64 (v1 + 1)).toNat))) fun c2 =>
    bif (decide (c1 < 0)) then
      out (Sum.inl (i_Unhex_L0_mx0 [] false v2))
    else
    bif (decide (c2 < 0)) then
      out (Sum.inl (i_Unhex_L0_mx0 [] false v2))
    else
    bif (Nat.ble ((2 * (v2.length + 1) + 1024) * 1) maxSl) then
    next (i_Unhex_L0_mk v0 (IntKind.wrap .i64 (v1 + 2)) (v2 ++ [(IntKind.wrap .u8 (bits .or .i64 (IntKind.wrap .i64 (c1 * 16)) c2))]))
    else fail
    else fail
    else fail
  else
  out (Sum.inr (i_Unhex_L0_mx1 v2))
theorem i_Unhex_L0_par (v0 : Bytes) (v1 : Int) (v2 : List Int) (γ : Type) (fail : γ) (next : i_Unhex_L0_sh.T → γ) (out : WT i_Unhex_L0_es → γ) : i_Unhex_L0_B v0 v1 v2 γ fail next out = optK (i_Unhex_L0_B v0 v1 v2 _ none (fun v' => some (.inl v')) (fun w => some (.inr w))) fail (fun r => Sum.elim next out r) := by
  unfold i_Unhex_L0_B
  repeat' (first | refine letT (f := (fun o => optK o fail (fun r => Sum.elim next out r))) (fun _ _ => ?_) | refine bifT (f := (fun o => optK o fail (fun r => Sum.elim next out r))) (fun _ => ?_) (fun _ => ?_) | rfl)
def i_Unhex_L0_r : Round i_Unhex_L0_sh.T (WT i_Unhex_L0_es) where
  B v γ fail next out := i_Unhex_L0_B v.1.1.1 v.1.2.2.1.1 v.2.1 γ fail next out
  par v γ fail next out := i_Unhex_L0_par v.1.1.1 v.1.2.2.1.1 v.2.1 γ fail next out
def i_Unhex_L0_fu (v0 : Bytes) (v1 : Int) (v2 : List Int) : Nat := (Int.toNat (((v0.length : Int) - v1 + 1) / 2)) + 1
theorem i_Unhex_L0_lk (v : i_Unhex_L0_sh.T) (next : St → Option Res) (k : Ex → St → Option Res) : evalK te (orcOf (P := Tryd.prog) [lb_IndexByte_e]) (lorcOf []) Tryd.f83.ntmps i_Unhex_ann (nthLoop (bodyOf Tryd.f83) 0 0) 0 (i_Unhex_L0_sh.enc v) (endK ⟨[0, 4, 5], [], false, 0⟩ ⟨[2, 3, 4], [], false, 0⟩ next k) =
  i_Unhex_L0_r.B v _ none (fun v' => next (i_Unhex_L0_sh.enc v')) (fun w => outK i_Unhex_L0_es k w) := by kernel_rfl
def i_Unhex_L0_le : LE := leOf 0 i_Unhex_L0_sh i_Unhex_L0_es i_Unhex_L0_r.step (fun v => i_Unhex_L0_fu v.1.1.1 v.1.2.2.1.1 v.2.1)
theorem i_Unhex_L0_ls (w0 : World) (mo : Mts) (I0 : Nat → Prop) (hmo : mo.length = 0) : LSem Tryd.prog (Sim w0 mo Tryd.f83.ntmps I0) (fun b s k => match Nat.beq 0 b with | true => i_Unhex_L0_le.run s k | false => none) 0 (nthLoop (bodyOf Tryd.f83) 0 0) :=
  le_sem hmo (lorc := lorcOf []) (ann := i_Unhex_ann) (keep := ⟨[0, 4, 5], [], false, 0⟩) (kout := ⟨[2, 3, 4], [], false, 0⟩) teFact mixFact (orcOf_ok _) (by kernel_rfl) (allLoops_of (bs := []) (by kernel_rfl) trivial) i_Unhex_L0_r _ i_Unhex_L0_lk
def i_Unhex_L0_f (v0 : Bytes) (v1 : Int) (a : List Int) : Stp (List Int) ((List Int)) :=
  letK (α := Int) (lb_IndexByte [48, 49, 50, 51, 52, 53, 54, 55, 56, 57, 97, 98, 99, 100, 101, 102] (byteAt v0 v1.toNat)) fun c1 =>
  letK (α := Int) (lb_IndexByte [48, 49, 50, 51, 52, 53, 54, 55, 56, 57, 97, 98, 99, 100, 101, 102] (byteAt v0 ((IntKind.wrap .i64 (v1 + 1)).toNat))) fun c2 =>
  bif (decide (c1 < 0)) then
    .out (a)
  else
  bif (decide (c2 < 0)) then
    .out (a)
  else
  .next (a ++ [(IntKind.wrap .u8 (bits .or .i64 (IntKind.wrap .i64 (c1 * 16)) c2))])
theorem i_Unhex_L0_st (v0 : Bytes) (v1 : Int) (v2 : List Int) (hlo : 0 ≤ v1) (hhi : v1 < (v0.length : Int)) (hN : (v0.length : Int) ≤ 4611686018427387904) (hi0 : (v0.length : Int) ≤ 4294967296) (hi1 : (v0.length : Int) % 2 = 0) (hinv : (v2.length : Int) ≤ v1 ∧ v1 % 2 = 0) : i_Unhex_L0_r.step (i_Unhex_L0_mk v0 v1 v2) = Stp.elim (fun a' : List Int => some (Sum.inl (i_Unhex_L0_mk v0 (v1 + 2) a'))) (fun w => some (Sum.inr ((fun p : List Int => Sum.inl (i_Unhex_L0_mx0 [] false p)) w))) (i_Unhex_L0_f v0 v1 v2) := by
  have hw : (IntKind.wrap .i64 (v1 + 2)) = v1 + 2 := wrap64 (by omega) (by omega)
  show i_Unhex_L0_B v0 v1 v2 (Option (i_Unhex_L0_sh.T ⊕ WT i_Unhex_L0_es)) none (fun v' => some (Sum.inl v')) (fun w => some (Sum.inr w)) = _
  unfold i_Unhex_L0_B i_Unhex_L0_f
  refine bifG (by simp only [decide_eq_true_eq]; omega) (bifG ?_ (letT (f := (Stp.elim (fun a' : List Int => some (Sum.inl (i_Unhex_L0_mk v0 (v1 + 2) a'))) (fun w => some (Sum.inr ((fun p : List Int => Sum.inl (i_Unhex_L0_mx0 [] false p)) w))))) (fun c1 hc1 => bifG ?_ (letT (f := (Stp.elim (fun a' : List Int => some (Sum.inl (i_Unhex_L0_mk v0 (v1 + 2) a'))) (fun w => some (Sum.inr ((fun p : List Int => Sum.inl (i_Unhex_L0_mx0 [] false p)) w))))) (fun c2 hc2 => bifT (f := (Stp.elim (fun a' : List Int => some (Sum.inl (i_Unhex_L0_mk v0 (v1 + 2) a'))) (fun w => some (Sum.inr ((fun p : List Int => Sum.inl (i_Unhex_L0_mx0 [] false p)) w))))) (fun b0 => rfl)
      (fun b0 => bifT (f := (Stp.elim (fun a' : List Int => some (Sum.inl (i_Unhex_L0_mk v0 (v1 + 2) a'))) (fun w => some (Sum.inr ((fun p : List Int => Sum.inl (i_Unhex_L0_mx0 [] false p)) w))))) (fun b1 => rfl)
      (fun b1 => bifG ?_ ((by exact congrArg (fun z => some (Sum.inl (i_Unhex_L0_mk v0 z (v2 ++ [(IntKind.wrap .u8 (bits .or .i64 (IntKind.wrap .i64 (c1 * 16)) c2))])))) hw)))))))))
  all_goals ((try simp only [Nat.ble_eq, Bool.and_eq_true, decide_eq_true_eq]); grind [maxSl, maxStr, toBytes_length, toInts_length, List.length_set, wrap64, lb_Itoa_len])
theorem i_Unhex_L0_cl (v0 : Bytes) (v1 : Int) (v2 : List Int) (h0 : 0 ≤ v1) (h1 : (v0.length : Int) ≤ 4611686018427387904) (h2 : (v0.length : Int) ≤ 4294967296) (h3 : (v0.length : Int) % 2 = 0) (h4 : (v2.length : Int) ≤ v1 ∧ v1 % 2 = 0) : loopF i_Unhex_L0_r.step (i_Unhex_L0_fu v0 v1 v2) (i_Unhex_L0_mk v0 v1 v2) = some (Stp.elim (fun a => (fun i a => Sum.inr (i_Unhex_L0_mx1 a)) (v1 + 2 * (((Int.toNat (((v0.length : Int) - v1 + 1) / 2)) : Nat) : Int)) a) (fun p : List Int => Sum.inl (i_Unhex_L0_mx0 [] false p)) (forN (i_Unhex_L0_f v0) 2 (Int.toNat (((v0.length : Int) - v1 + 1) / 2)) v1 v2)) :=
  forN_loop (step := i_Unhex_L0_r.step) (mk := fun v1 a => i_Unhex_L0_mk v0 v1 a) (f := i_Unhex_L0_f v0) (e := (fun i a => Sum.inr (i_Unhex_L0_mx1 a))) (emb := (fun p : List Int => Sum.inl (i_Unhex_L0_mx0 [] false p))) (st := 2) (Inv := fun v1 a => (a.length : Int) ≤ v1 ∧ v1 % 2 = 0) (Int.toNat (((v0.length : Int) - v1 + 1) / 2)) v1 v2 _ (Nat.lt_succ_self _) h4
    (fun j a hj hv => ⟨i_Unhex_L0_st v0 (v1 + 2 * (j : Int)) a (by omega) (by omega) (by omega) h2 h3 hv, by
      intro a' he
      grind [i_Unhex_L0_f, letK, Stp.elim, wrap64, List.length_set, lb_Itoa_len]⟩)
    (fun a hv => by
      show i_Unhex_L0_B v0 (v1 + 2 * (((Int.toNat (((v0.length : Int) - v1 + 1) / 2)) : Nat) : Int)) a (Option (i_Unhex_L0_sh.T ⊕ WT i_Unhex_L0_es)) none (fun v' => some (Sum.inl v')) (fun w => some (Sum.inr w)) = _
      unfold i_Unhex_L0_B
      exact bifN (by simp only [decide_eq_false_iff_not]; omega) rfl)
theorem i_Unhex_L0_nx (v0 : Bytes) (v1 : Int) (v2 : List Int) (h0 : 0 ≤ v1) (h1 : (v0.length : Int) ≤ 4611686018427387904) (h2 : (v0.length : Int) ≤ 4294967296) (h3 : (v0.length : Int) % 2 = 0) (h4 : (v2.length : Int) ≤ v1 ∧ v1 % 2 = 0) : ∀ a', forN (i_Unhex_L0_f v0) 2 (Int.toNat (((v0.length : Int) - v1 + 1) / 2)) v1 v2 = .next a' → (a'.length : Int) ≤ (v1 + 2 * (((Int.toNat (((v0.length : Int) - v1 + 1) / 2)) : Nat) : Int)) ∧ (v1 + 2 * (((Int.toNat (((v0.length : Int) - v1 + 1) / 2)) : Nat) : Int)) % 2 = 0 :=
  forN_inv (f := i_Unhex_L0_f v0) (st := 2) (Inv := fun v1 a => (a.length : Int) ≤ v1 ∧ v1 % 2 = 0) (Int.toNat (((v0.length : Int) - v1 + 1) / 2)) v1 v2 h4
    (fun j a hj hv => by
      intro a' he
      grind [i_Unhex_L0_f, letK, Stp.elim, wrap64, List.length_set, lb_Itoa_len])
def i_Unhex_N (x0 : Bytes) (γ : Type) (fail : γ) (k : Bytes × Bool → γ) : γ :=
  bif (((x0.length : Int).tmod 2) != 0) then
    k ([], false)
  else
  optK (loopF i_Unhex_L0_r.step (i_Unhex_L0_fu x0 0 []) (i_Unhex_L0_mk x0 0 [])) fail fun w3 =>
    Sum.elim (fun w3 =>
      k (w3.1.1.1, w3.1.2.1.1))
    (fun w3 =>
      k ((toBytes w3.2.1), true)) w3
def i_Unhex (x0 : Bytes) : Bytes × Bool :=
  bif (((x0.length : Int).tmod 2) != 0) then
    ([], false)
  else
  Stp.elim (fun a4 =>
    ((toBytes a4), true))
    (fun p4 =>
      ([], false))
    (forN (i_Unhex_L0_f x0) 2 (Int.toNat (((x0.length : Int) - 0 + 1) / 2)) 0 [])
theorem i_Unhex_lk (x0 : Bytes) : evalFn te (orcOf (P := Tryd.prog) [lb_IndexByte_e]) (lorcOf [i_Unhex_L0_le]) i_Unhex_ann Tryd.f83 (pvs [.sc .str] (x0, ())) =
  i_Unhex_N x0 _ none (fun v => some [(false, [RC.c (.str v.1)]), (false, [RC.c (.bool v.2)])]) := by kernel_rfl
theorem i_Unhex_p (x0 : Bytes) (hx0 : List.length x0 ≤ 4611686018427387904) (hp : x0.length ≤ 4294967296) (γ : Type) (fail : γ) (k : Bytes × Bool → γ) : i_Unhex_N x0 γ fail k = k (i_Unhex x0) := by
  unfold i_Unhex_N i_Unhex
  refine bifT (f := k) (fun b0 => rfl)
      (fun b0 => loopX (f := k) (i_Unhex_L0_cl x0 0 [] ?_ ?_ ?_ ?_ ?_) (fun a4 ha4 => have ia4 := i_Unhex_L0_nx x0 0 [] ?_ ?_ ?_ ?_ ?_ _ ha4; rfl)
      (fun p4 => rfl))
  all_goals ((try simp only [Nat.ble_eq, Bool.and_eq_true, decide_eq_true_eq]); first | grind [maxSl, maxStr] | (have h1 := (tmod_pos (a := (x0.length : Int)) 2).1 (by omega); simp only [bne_eq_false_iff_eq] at b0; omega))
theorem i_Unhex_c (x0 : Bytes) (hp : x0.length ≤ 4294967296) : Con Tryd.prog 83 (pvs [.sc .str] (x0, ())) [rv (.sc .str) [] (i_Unhex x0).1, rv (.sc .bool) [] (i_Unhex x0).2] := by
  refine Con.of_facts (enters_of Tryd.func83 rfl (by kernel_rfl)) fun hf => ?_
  replace hf := factAt hf
  refine evalFn_conL teFact mixFact (orcOf_ok _) Tryd.func83 ?_ (bs := [0]) ?_ ?_ (fun w0 mo I0 hmo => ⟨lsem_of_lorc (i_Unhex_L0_ls w0 mo I0 hmo) ?_, trivial⟩) ((i_Unhex_lk x0).trans (i_Unhex_p x0 ((hf 0 0 rfl rfl).slen) hp _ _ _))
  all_goals (kernel_rfl)
noncomputable def i_Unhex_e : Ent1 Tryd.prog := entP 83 [.sc .str] (fun x => (decide (x.1.length ≤ 4294967296))) (fun x => (i_Unhex x.1)) (fun v => [rv (.sc .str) [] v.1, rv (.sc .bool) [] v.2]) (fun x hx => i_Unhex_c x.1 (of_decide_eq_true hx))

theorem i_Unhex_len (x0 : Bytes) (hp : x0.length ≤ 4294967296)  : (fun v : Bytes × Bool => v.1.length ≤ x0.length) (i_Unhex x0) := by
  unfold i_Unhex
  refine bifP (P := (fun v : Bytes × Bool => v.1.length ≤ x0.length)) (fun b0 => (by first | exact Nat.zero_le _ | (have h1 := (tmod_pos (a := (x0.length : Int)) 2).1 (by omega); have b1 := b0; simp only [bne_eq_false_iff_eq, beq_eq_false_iff_ne, ne_eq] at b1; show (toBytes a4).length ≤ _; rw [toBytes_length]; omega)))
      (fun b0 => loopP (P := (fun v : Bytes × Bool => v.1.length ≤ x0.length)) (fun a4 ha4 => have ia4 := i_Unhex_L0_nx x0 0 [] ?_ ?_ ?_ ?_ ?_ _ ha4; (by first | exact Nat.zero_le _ | (have h1 := (tmod_pos (a := (x0.length : Int)) 2).1 (by omega); have b1 := b0; simp only [bne_eq_false_iff_eq, beq_eq_false_iff_ne, ne_eq] at b1; show (toBytes a4).length ≤ _; rw [toBytes_length]; omega)))
      (fun p4 hp4 => (by first | exact Nat.zero_le _ | (have h1 := (tmod_pos (a := (x0.length : Int)) 2).1 (by omega); have b1 := b0; simp only [bne_eq_false_iff_eq, beq_eq_false_iff_ne, ne_eq] at b1; show (toBytes a4).length ≤ _; rw [toBytes_length]; omega))))
  all_goals ((try simp only [Nat.ble_eq, Bool.and_eq_true, decide_eq_true_eq, i_Unhex_L0_mx0, i_Unhex_L0_mx1]); grind [maxSl, maxStr, toBytes_length, toInts_length, List.length_set, wrap64, lb_Itoa_len])

/-- impl.Address -/
def i_Address_ann : List (Nat × Keep) := [(0, ⟨[4, 5, 12, 13, 14], [], false, 0⟩)]
def i_Address_L0_sh : Sh := ⟨[(4, false, [.own 0]), (5, false, [.int .i64]), (12, false, [.own 0]), (13, false, [.int .i64]), (14, false, [.int .i64])], [.arr .str false true]⟩
def i_Address_L0_es : List (Ex × Sh) := [(.ret, ⟨[(2, false, [.int .i64]), (3, false, [.bool]), (5, false, [.int .i64])], []⟩), (.exit 0, ⟨[(2, false, [.undef]), (3, false, [.undef]), (5, false, [.int .i64])], []⟩)]
def i_Address_L0_mk (v0 : Int) (v1 : Int) (v2 : Int) (v3 : List Bytes) : i_Address_L0_sh.T := ((((), ()), ((v0, ()), (((), ()), ((v1, ()), ((v2, ()), ()))))), (v3, ()))
def i_Address_L0_mx0 (y0 : Int) (y1 : Bool) (y2 : Int) : Sh.T ⟨[(2, false, [.int .i64]), (3, false, [.bool]), (5, false, [.int .i64])], []⟩ := (((y0, ()), ((y1, ()), ((y2, ()), ()))), ())
def i_Address_L0_mx1 (y0 : Int) : Sh.T ⟨[(2, false, [.undef]), (3, false, [.undef]), (5, false, [.int .i64])], []⟩ := ((((), ()), (((), ()), ((y0, ()), ()))), ())
def i_Address_L0_B (v0 : Int) (v1 : Int) (v2 : Int) (v3 : List Bytes) (γ : Type) (fail : γ) (next : i_Address_L0_sh.T → γ) (out : WT i_Address_L0_es → γ) : γ :=
  bif (decide (v2 < v1)) then
    bif ((decide (0 ≤ v2)) && (decide (v2 < (v3.length : Int)))) then
    letK (α := Int × Bool) (i_Number (v3.getD v2.toNat [])) fun c2 =>
    bif (!c2.2) then
      out (Sum.inl (i_Address_L0_mx0 0 false v0))
    else
    bif (decide (255 < c2.1)) then
      out (Sum.inl (i_Address_L0_mx0 0 false v0))
    else
    bif ((v3.length : Int) != 4) then
      out (Sum.inl (i_Address_L0_mx0 0 false v0))
    else
    next (i_Address_L0_mk (bits .or .i64 (IntKind.wrap .i64 (v0 * 256)) c2.1) v1 (IntKind.wrap .i64 (v2 + 1)) v3)
    else fail
  else
  out (Sum.inr (i_Address_L0_mx1 v0))
theorem i_Address_L0_par (v0 : Int) (v1 : Int) (v2 : Int) (v3 : List Bytes) (γ : Type) (fail : γ) (next : i_Address_L0_sh.T → γ) (out : WT i_Address_L0_es → γ) : i_Address_L0_B v0 v1 v2 v3 γ fail next out = optK (i_Address_L0_B v0 v1 v2 v3 _ none (fun v' => some (.inl v')) (fun w => some (.inr w))) fail (fun r => Sum.elim next out r) := by
  unfold i_Address_L0_B
  repeat' (first | refine letT (f := (fun o => optK o fail (fun r => Sum.elim next out r))) (fun _ _ => ?_) | refine bifT (f := (fun o => optK o fail (fun r => Sum.elim next out r))) (fun _ => ?_) (fun _ => ?_) | rfl)
def i_Address_L0_r : Round i_Address_L0_sh.T (WT i_Address_L0_es) where
  B v γ fail next out := i_Address_L0_B v.1.2.1.1 v.1.2.2.2.1.1 v.1.2.2.2.2.1.1 v.2.1 γ fail next out
  par v γ fail next out := i_Address_L0_par v.1.2.1.1 v.1.2.2.2.1.1 v.1.2.2.2.2.1.1 v.2.1 γ fail next out
def i_Address_L0_fu (v0 : Int) (v1 : Int) (v2 : Int) (v3 : List Bytes) : Nat := (Int.toNat (v1 - v2)) + 1
theorem i_Address_L0_lk (v : i_Address_L0_sh.T) (next : St → Option Res) (k : Ex → St → Option Res) : evalK te (orcOf (P := Tryd.prog) [i_Parts_e, i_Number_e]) (lorcOf []) Tryd.f84.ntmps i_Address_ann (nthLoop (bodyOf Tryd.f84) 0 0) 0 (i_Address_L0_sh.enc v) (endK ⟨[4, 5, 12, 13, 14], [], false, 0⟩ ⟨[2, 3, 5], [], false, 0⟩ next k) =
  i_Address_L0_r.B v _ none (fun v' => next (i_Address_L0_sh.enc v')) (fun w => outK i_Address_L0_es k w) := by kernel_rfl
def i_Address_L0_le : LE := leOf 0 i_Address_L0_sh i_Address_L0_es i_Address_L0_r.step (fun v => i_Address_L0_fu v.1.2.1.1 v.1.2.2.2.1.1 v.1.2.2.2.2.1.1 v.2.1)
theorem i_Address_L0_ls (w0 : World) (mo : Mts) (I0 : Nat → Prop) (hmo : mo.length = 0) : LSem Tryd.prog (Sim w0 mo Tryd.f84.ntmps I0) (fun b s k => match Nat.beq 0 b with | true => i_Address_L0_le.run s k | false => none) 0 (nthLoop (bodyOf Tryd.f84) 0 0) :=
  le_sem hmo (lorc := lorcOf []) (ann := i_Address_ann) (keep := ⟨[4, 5, 12, 13, 14], [], false, 0⟩) (kout := ⟨[2, 3, 5], [], false, 0⟩) teFact mixFact (orcOf_ok _) (by kernel_rfl) (allLoops_of (bs := []) (by kernel_rfl) trivial) i_Address_L0_r _ i_Address_L0_lk
def i_Address_L0_f (v1 : Int) (v3 : List Bytes) (v2 : Int) (a : Int) : Stp (Int) ((Int)) :=
  letK (α := Int × Bool) (i_Number (v3.getD v2.toNat [])) fun c2 =>
  bif (!c2.2) then
    .out (a)
  else
  bif (decide (255 < c2.1)) then
    .out (a)
  else
  bif ((v3.length : Int) != 4) then
    .out (a)
  else
  .next (bits .or .i64 (IntKind.wrap .i64 (a * 256)) c2.1)
theorem i_Address_L0_st (v0 : Int) (v1 : Int) (v2 : Int) (v3 : List Bytes) (hlo : 0 ≤ v2) (hhi : v2 < v1) (hN : v1 ≤ 4611686018427387904) (hi0 : v1 ≤ (v3.length : Int)) : i_Address_L0_r.step (i_Address_L0_mk v0 v1 v2 v3) = Stp.elim (fun a' : Int => some (Sum.inl (i_Address_L0_mk a' v1 (v2 + 1) v3))) (fun w => some (Sum.inr ((fun p : Int => Sum.inl (i_Address_L0_mx0 0 false p)) w))) (i_Address_L0_f v1 v3 v2 v0) := by
  have hw : (IntKind.wrap .i64 (v2 + 1)) = v2 + 1 := wrap64 (by omega) (by omega)
  show i_Address_L0_B v0 v1 v2 v3 (Option (i_Address_L0_sh.T ⊕ WT i_Address_L0_es)) none (fun v' => some (Sum.inl v')) (fun w => some (Sum.inr w)) = _
  unfold i_Address_L0_B i_Address_L0_f
  exact bifG (by simp only [decide_eq_true_eq]; omega) (bifG (by (try simp only [Nat.ble_eq, Bool.and_eq_true, decide_eq_true_eq]); grind [maxSl, maxStr, toBytes_length, toInts_length, List.length_set, wrap64, i_Parts_len, i_Parts_el]) (letT (f := (Stp.elim (fun a' : Int => some (Sum.inl (i_Address_L0_mk a' v1 (v2 + 1) v3))) (fun w => some (Sum.inr ((fun p : Int => Sum.inl (i_Address_L0_mx0 0 false p)) w))))) (fun c2 hc2 => bifT (f := (Stp.elim (fun a' : Int => some (Sum.inl (i_Address_L0_mk a' v1 (v2 + 1) v3))) (fun w => some (Sum.inr ((fun p : Int => Sum.inl (i_Address_L0_mx0 0 false p)) w))))) (fun b0 => rfl)
      (fun b0 => bifT (f := (Stp.elim (fun a' : Int => some (Sum.inl (i_Address_L0_mk a' v1 (v2 + 1) v3))) (fun w => some (Sum.inr ((fun p : Int => Sum.inl (i_Address_L0_mx0 0 false p)) w))))) (fun b1 => rfl)
      (fun b1 => bifT (f := (Stp.elim (fun a' : Int => some (Sum.inl (i_Address_L0_mk a' v1 (v2 + 1) v3))) (fun w => some (Sum.inr ((fun p : Int => Sum.inl (i_Address_L0_mx0 0 false p)) w))))) (fun b2 => rfl)
      (fun b2 => (by exact congrArg (fun z => some (Sum.inl (i_Address_L0_mk (bits .or .i64 (IntKind.wrap .i64 (v0 * 256)) c2.1) v1 z v3))) hw)))))))
theorem i_Address_L0_cl (v0 : Int) (v1 : Int) (v2 : Int) (v3 : List Bytes) (h0 : 0 ≤ v2) (h1 : v1 ≤ 4611686018427387904) (h2 : v1 ≤ (v3.length : Int)) : loopF i_Address_L0_r.step (i_Address_L0_fu v0 v1 v2 v3) (i_Address_L0_mk v0 v1 v2 v3) = some (Stp.elim (fun a => (fun i a => Sum.inr (i_Address_L0_mx1 a)) (v2 + 1 * (((Int.toNat (v1 - v2)) : Nat) : Int)) a) (fun p : Int => Sum.inl (i_Address_L0_mx0 0 false p)) (forN (i_Address_L0_f v1 v3) 1 (Int.toNat (v1 - v2)) v2 v0)) :=
  forN_loop (step := i_Address_L0_r.step) (mk := fun v2 a => i_Address_L0_mk a v1 v2 v3) (f := i_Address_L0_f v1 v3) (e := (fun i a => Sum.inr (i_Address_L0_mx1 a))) (emb := (fun p : Int => Sum.inl (i_Address_L0_mx0 0 false p))) (st := 1) (Inv := fun v2 a => True) (Int.toNat (v1 - v2)) v2 v0 _ (Nat.lt_succ_self _) trivial
    (fun j a hj hv => ⟨i_Address_L0_st a v1 (v2 + 1 * (j : Int)) v3 (by omega) (by omega) (by omega) h2, fun _ _ => trivial⟩)
    (fun a hv => by
      show i_Address_L0_B a v1 (v2 + 1 * (((Int.toNat (v1 - v2)) : Nat) : Int)) v3 (Option (i_Address_L0_sh.T ⊕ WT i_Address_L0_es)) none (fun v' => some (Sum.inl v')) (fun w => some (Sum.inr w)) = _
      unfold i_Address_L0_B
      exact bifN (by simp only [decide_eq_false_iff_not]; omega) rfl)
def i_Address_N (x0 : Bytes) (γ : Type) (fail : γ) (k : Int × Bool → γ) : γ :=
  bif (decide (x0.length ≤ 4294967296)) then
  letK (α := List Bytes) (i_Parts x0 46) fun c1 =>
  optK (loopF i_Address_L0_r.step (i_Address_L0_fu 0 (c1.length : Int) 0 c1) (i_Address_L0_mk 0 (c1.length : Int) 0 c1)) fail fun w3 =>
    Sum.elim (fun w3 =>
      k (w3.1.1.1, w3.1.2.1.1))
    (fun w3 =>
      k (w3.1.2.2.1.1, true)) w3
  else fail
def i_Address (x0 : Bytes) : Int × Bool :=
  letK (α := List Bytes) (i_Parts x0 46) fun c1 =>
  Stp.elim (fun a4 =>
    (a4, true))
    (fun p4 =>
      (0, false))
    (forN (i_Address_L0_f (c1.length : Int) c1) 1 (Int.toNat ((c1.length : Int) - 0)) 0 0)
theorem i_Address_lk (x0 : Bytes) : evalFn te (orcOf (P := Tryd.prog) [i_Parts_e, i_Number_e]) (lorcOf [i_Address_L0_le]) i_Address_ann Tryd.f84 (pvs [.sc .str] (x0, ())) =
  i_Address_N x0 _ none (fun v => some [(false, [RC.c (.int .i64 v.1)]), (false, [RC.c (.bool v.2)])]) := by kernel_rfl
theorem i_Address_p (x0 : Bytes) (hx0 : List.length x0 ≤ 4611686018427387904) (hp : x0.length ≤ 4294967296) (γ : Type) (fail : γ) (k : Int × Bool → γ) : i_Address_N x0 γ fail k = k (i_Address x0) := by
  unfold i_Address_N i_Address
  refine bifG ?_ (letT (f := k) (fun c1 hc1 => loopT (f := k) (i_Address_L0_cl 0 (c1.length : Int) 0 c1 ?_ ?_ ?_) (fun a4 => rfl)
      (fun p4 => rfl)))
  all_goals ((try simp only [Nat.ble_eq, Bool.and_eq_true, decide_eq_true_eq, i_Address_L0_mx0, i_Address_L0_mx1]); grind [maxSl, maxStr, toBytes_length, toInts_length, List.length_set, wrap64, i_Parts_len, i_Parts_el])
theorem i_Address_c (x0 : Bytes) (hp : x0.length ≤ 4294967296) : Con Tryd.prog 84 (pvs [.sc .str] (x0, ())) [rv (.sc (.int .i64)) [] (i_Address x0).1, rv (.sc .bool) [] (i_Address x0).2] := by
  refine Con.of_facts (enters_of Tryd.func84 rfl (by kernel_rfl)) fun hf => ?_
  replace hf := factAt hf
  refine evalFn_conL teFact mixFact (orcOf_ok _) Tryd.func84 ?_ (bs := [0]) ?_ ?_ (fun w0 mo I0 hmo => ⟨lsem_of_lorc (i_Address_L0_ls w0 mo I0 hmo) ?_, trivial⟩) ((i_Address_lk x0).trans (i_Address_p x0 ((hf 0 0 rfl rfl).slen) hp _ _ _))
  all_goals (kernel_rfl)
noncomputable def i_Address_e : Ent1 Tryd.prog := entP 84 [.sc .str] (fun x => (decide (x.1.length ≤ 4294967296))) (fun x => (i_Address x.1)) (fun v => [rv (.sc (.int .i64)) [] v.1, rv (.sc .bool) [] v.2]) (fun x hx => i_Address_c x.1 (of_decide_eq_true hx))


/-- spec.l1Hex -/
def s_l1Hex_N (x0 : Int) (γ : Type) (fail : γ) (k : Int → γ) : γ :=
  bif (decide (x0 < 10)) then
    k (IntKind.wrap .u8 (x0 + 48))
  else
  k (IntKind.wrap .u8 ((IntKind.wrap .u8 (x0 - 10)) + 97))
def s_l1Hex (x0 : Int) : Int :=
  bif (decide (x0 < 10)) then
    (IntKind.wrap .u8 (x0 + 48))
  else
  (IntKind.wrap .u8 ((IntKind.wrap .u8 (x0 - 10)) + 97))
theorem s_l1Hex_lk (x0 : Int) : evalFn te (orcOf (P := Tryd.prog) []) lorc0 [] Tryd.f88 (pvs [.sc (.int .u8)] (x0, ())) =
  s_l1Hex_N x0 _ none (fun v => some [(false, [RC.c (.int .u8 v)])]) := by kernel_rfl
theorem s_l1Hex_p (x0 : Int)   (γ : Type) (fail : γ) (k : Int → γ) : s_l1Hex_N x0 γ fail k = k (s_l1Hex x0) := by
  unfold s_l1Hex_N s_l1Hex
  exact bifT (f := k) (fun b0 => rfl)
      (fun b0 => rfl)
theorem s_l1Hex_c (x0 : Int)  : Con Tryd.prog 88 (pvs [.sc (.int .u8)] (x0, ())) [rv (.sc (.int .u8)) [] (s_l1Hex x0)] := by
  exact evalFn_con0 teFact mixFact (orcOf_ok _) Tryd.func88 (by kernel_rfl) ((s_l1Hex_lk x0).trans (s_l1Hex_p x0  _ _ _))
noncomputable def s_l1Hex_e : Ent1 Tryd.prog := entA 88 [.sc (.int .u8)] (fun x => (s_l1Hex x.1)) (fun v => [rv (.sc (.int .u8)) [] v]) (fun x => s_l1Hex_c x.1)


/-- slices.Equal[[]impl.MacRow,impl.MacRow] -/
def g_Equal_MacRow_ann : List (Nat × Keep) := [(0, ⟨[0, 1, 12, 13], [], false, 0⟩)]
def g_Equal_MacRow_L0_sh : Sh := ⟨[(0, false, [.sl .arg .macRow]), (1, false, [.sl .arg .macRow]), (12, false, [.int .i64]), (13, false, [.int .i64])], []⟩
def g_Equal_MacRow_L0_es : List (Ex × Sh) := [(.ret, ⟨[(4, false, [.bool])], []⟩), (.exit 0, ⟨[(4, false, [.undef])], []⟩)]
def g_Equal_MacRow_L0_mk (v0 : List MacRow) (v1 : List MacRow) (v2 : Int) (v3 : Int) : g_Equal_MacRow_L0_sh.T := (((v0, ()), ((v1, ()), ((v2, ()), ((v3, ()), ())))), ())
def g_Equal_MacRow_L0_mx0 (y0 : Bool) : Sh.T ⟨[(4, false, [.bool])], []⟩ := (((y0, ()), ()), ())
def g_Equal_MacRow_L0_mx1  : Sh.T ⟨[(4, false, [.undef])], []⟩ := ((((), ()), ()), ())
def g_Equal_MacRow_L0_B (v0 : List MacRow) (v1 : List MacRow) (v2 : Int) (v3 : Int) (γ : Type) (fail : γ) (next : g_Equal_MacRow_L0_sh.T → γ) (out : WT g_Equal_MacRow_L0_es → γ) : γ :=
  bif (decide (v3 < v2)) then
    bif ((decide (0 ≤ v3)) && (decide (v3 < (v0.length : Int)))) then
    bif ((decide (0 ≤ v3)) && (decide (v3 < (v1.length : Int)))) then
    bif (!(((v0.getD v3.toNat (Ty.zero .macRow)).input == (v1.getD v3.toNat (Ty.zero .macRow)).input) && (((v0.getD v3.toNat (Ty.zero .macRow)).value == (v1.getD v3.toNat (Ty.zero .macRow)).value) && true))) then
      out (Sum.inl (g_Equal_MacRow_L0_mx0 false))
    else
    next (g_Equal_MacRow_L0_mk v0 v1 v2 (IntKind.wrap .i64 (v3 + 1)))
    else fail
    else fail
  else
  out (Sum.inr (g_Equal_MacRow_L0_mx1 ))
theorem g_Equal_MacRow_L0_par (v0 : List MacRow) (v1 : List MacRow) (v2 : Int) (v3 : Int) (γ : Type) (fail : γ) (next : g_Equal_MacRow_L0_sh.T → γ) (out : WT g_Equal_MacRow_L0_es → γ) : g_Equal_MacRow_L0_B v0 v1 v2 v3 γ fail next out = optK (g_Equal_MacRow_L0_B v0 v1 v2 v3 _ none (fun v' => some (.inl v')) (fun w => some (.inr w))) fail (fun r => Sum.elim next out r) := by
  unfold g_Equal_MacRow_L0_B
  repeat' (first | refine letT (f := (fun o => optK o fail (fun r => Sum.elim next out r))) (fun _ _ => ?_) | refine bifT (f := (fun o => optK o fail (fun r => Sum.elim next out r))) (fun _ => ?_) (fun _ => ?_) | rfl)
def g_Equal_MacRow_L0_r : Round g_Equal_MacRow_L0_sh.T (WT g_Equal_MacRow_L0_es) where
  B v γ fail next out := g_Equal_MacRow_L0_B v.1.1.1 v.1.2.1.1 v.1.2.2.1.1 v.1.2.2.2.1.1 γ fail next out
  par v γ fail next out := g_Equal_MacRow_L0_par v.1.1.1 v.1.2.1.1 v.1.2.2.1.1 v.1.2.2.2.1.1 γ fail next out
def g_Equal_MacRow_L0_fu (v0 : List MacRow) (v1 : List MacRow) (v2 : Int) (v3 : Int) : Nat := (Int.toNat (v2 - v3)) + 1
theorem g_Equal_MacRow_L0_lk (v : g_Equal_MacRow_L0_sh.T) (next : St → Option Res) (k : Ex → St → Option Res) : evalK te (orcOf (P := Tryd.prog) []) (lorcOf []) Tryd.f92.ntmps g_Equal_MacRow_ann (nthLoop (bodyOf Tryd.f92) 0 0) 0 (g_Equal_MacRow_L0_sh.enc v) (endK ⟨[0, 1, 12, 13], [], false, 0⟩ ⟨[4], [], false, 0⟩ next k) =
  g_Equal_MacRow_L0_r.B v _ none (fun v' => next (g_Equal_MacRow_L0_sh.enc v')) (fun w => outK g_Equal_MacRow_L0_es k w) := by kernel_rfl
def g_Equal_MacRow_L0_le : LE := leOf 0 g_Equal_MacRow_L0_sh g_Equal_MacRow_L0_es g_Equal_MacRow_L0_r.step (fun v => g_Equal_MacRow_L0_fu v.1.1.1 v.1.2.1.1 v.1.2.2.1.1 v.1.2.2.2.1.1)
theorem g_Equal_MacRow_L0_ls (w0 : World) (mo : Mts) (I0 : Nat → Prop) (hmo : mo.length = 0) : LSem Tryd.prog (Sim w0 mo Tryd.f92.ntmps I0) (fun b s k => match Nat.beq 0 b with | true => g_Equal_MacRow_L0_le.run s k | false => none) 0 (nthLoop (bodyOf Tryd.f92) 0 0) :=
  le_sem hmo (lorc := lorcOf []) (ann := g_Equal_MacRow_ann) (keep := ⟨[0, 1, 12, 13], [], false, 0⟩) (kout := ⟨[4], [], false, 0⟩) teFact mixFact (orcOf_ok _) (by kernel_rfl) (allLoops_of (bs := []) (by kernel_rfl) trivial) g_Equal_MacRow_L0_r _ g_Equal_MacRow_L0_lk
def g_Equal_MacRow_L0_f (v0 : List MacRow) (v1 : List MacRow) (v2 : Int) (v3 : Int) (a : Unit) : Stp (Unit) ((Unit)) :=
  bif (!(((v0.getD v3.toNat (Ty.zero .macRow)).input == (v1.getD v3.toNat (Ty.zero .macRow)).input) && (((v0.getD v3.toNat (Ty.zero .macRow)).value == (v1.getD v3.toNat (Ty.zero .macRow)).value) && true))) then
    .out (())
  else
  .next ()
theorem g_Equal_MacRow_L0_st (v0 : List MacRow) (v1 : List MacRow) (v2 : Int) (v3 : Int) (hlo : 0 ≤ v3) (hhi : v3 < v2) (hN : v2 ≤ 4611686018427387904) (hi0 : v2 ≤ (v0.length : Int)) (hi1 : v2 ≤ (v1.length : Int)) : g_Equal_MacRow_L0_r.step (g_Equal_MacRow_L0_mk v0 v1 v2 v3) = Stp.elim (fun a' : Unit => some (Sum.inl (g_Equal_MacRow_L0_mk v0 v1 v2 (v3 + 1)))) (fun w => some (Sum.inr ((fun p : Unit => Sum.inl (g_Equal_MacRow_L0_mx0 false)) w))) (g_Equal_MacRow_L0_f v0 v1 v2 v3 ()) := by
  have hw : (IntKind.wrap .i64 (v3 + 1)) = v3 + 1 := wrap64 (by omega) (by omega)
  show g_Equal_MacRow_L0_B v0 v1 v2 v3 (Option (g_Equal_MacRow_L0_sh.T ⊕ WT g_Equal_MacRow_L0_es)) none (fun v' => some (Sum.inl v')) (fun w => some (Sum.inr w)) = _
  unfold g_Equal_MacRow_L0_B g_Equal_MacRow_L0_f
  refine bifG (by simp only [decide_eq_true_eq]; omega) (bifG ?_ (bifG ?_ (bifT (f := (Stp.elim (fun a' : Unit => some (Sum.inl (g_Equal_MacRow_L0_mk v0 v1 v2 (v3 + 1)))) (fun w => some (Sum.inr ((fun p : Unit => Sum.inl (g_Equal_MacRow_L0_mx0 false)) w))))) (fun b0 => rfl)
      (fun b0 => (by exact congrArg (fun z => some (Sum.inl (g_Equal_MacRow_L0_mk v0 v1 v2 z))) hw)))))
  all_goals ((try simp only [Nat.ble_eq, Bool.and_eq_true, decide_eq_true_eq]); grind [maxSl, maxStr, toBytes_length, toInts_length, List.length_set, wrap64])
theorem g_Equal_MacRow_L0_cl (v0 : List MacRow) (v1 : List MacRow) (v2 : Int) (v3 : Int) (h0 : 0 ≤ v3) (h1 : v2 ≤ 4611686018427387904) (h2 : v2 ≤ (v0.length : Int)) (h3 : v2 ≤ (v1.length : Int)) : loopF g_Equal_MacRow_L0_r.step (g_Equal_MacRow_L0_fu v0 v1 v2 v3) (g_Equal_MacRow_L0_mk v0 v1 v2 v3) = some (Stp.elim (fun a => (fun i a => Sum.inr (g_Equal_MacRow_L0_mx1 )) (v3 + 1 * (((Int.toNat (v2 - v3)) : Nat) : Int)) a) (fun p : Unit => Sum.inl (g_Equal_MacRow_L0_mx0 false)) (forN (g_Equal_MacRow_L0_f v0 v1 v2) 1 (Int.toNat (v2 - v3)) v3 ())) :=
  forN_loop (step := g_Equal_MacRow_L0_r.step) (mk := fun v3 a => g_Equal_MacRow_L0_mk v0 v1 v2 v3) (f := g_Equal_MacRow_L0_f v0 v1 v2) (e := (fun i a => Sum.inr (g_Equal_MacRow_L0_mx1 ))) (emb := (fun p : Unit => Sum.inl (g_Equal_MacRow_L0_mx0 false))) (st := 1) (Inv := fun v3 a => True) (Int.toNat (v2 - v3)) v3 () _ (Nat.lt_succ_self _) trivial
    (fun j a hj hv => ⟨g_Equal_MacRow_L0_st v0 v1 v2 (v3 + 1 * (j : Int)) (by omega) (by omega) (by omega) h2 h3, fun _ _ => trivial⟩)
    (fun a hv => by
      show g_Equal_MacRow_L0_B v0 v1 v2 (v3 + 1 * (((Int.toNat (v2 - v3)) : Nat) : Int)) (Option (g_Equal_MacRow_L0_sh.T ⊕ WT g_Equal_MacRow_L0_es)) none (fun v' => some (Sum.inl v')) (fun w => some (Sum.inr w)) = _
      unfold g_Equal_MacRow_L0_B
      exact bifN (by simp only [decide_eq_false_iff_not]; omega) rfl)
def g_Equal_MacRow_N (x0 : List MacRow) (x1 : List MacRow) (γ : Type) (fail : γ) (k : Bool → γ) : γ :=
  bif ((x0.length : Int) != (x1.length : Int)) then
    k false
  else
  optK (loopF g_Equal_MacRow_L0_r.step (g_Equal_MacRow_L0_fu x0 x1 (x0.length : Int) 0) (g_Equal_MacRow_L0_mk x0 x1 (x0.length : Int) 0)) fail fun w1 =>
    Sum.elim (fun w1 =>
      k w1.1.1.1)
    (fun w1 =>
      k true) w1
def g_Equal_MacRow (x0 : List MacRow) (x1 : List MacRow) : Bool :=
  bif ((x0.length : Int) != (x1.length : Int)) then
    false
  else
  Stp.elim (fun a2 =>
    true)
    (fun p2 =>
      false)
    (forN (g_Equal_MacRow_L0_f x0 x1 (x0.length : Int)) 1 (Int.toNat ((x0.length : Int) - 0)) 0 ())
theorem g_Equal_MacRow_lk (x0 : List MacRow) (x1 : List MacRow) : evalFn te (orcOf (P := Tryd.prog) []) (lorcOf [g_Equal_MacRow_L0_le]) g_Equal_MacRow_ann Tryd.f92 (pvs [.sc (.sl .macRow), .sc (.sl .macRow)] (x0, x1, ())) =
  g_Equal_MacRow_N x0 x1 _ none (fun v => some [(false, [RC.c (.bool v)])]) := by kernel_rfl
theorem g_Equal_MacRow_p (x0 : List MacRow) (x1 : List MacRow) (hx0 : x0.length ≤ 140737488355328) (hx0_e : ∀ y ∈ x0, ∀ c ∈ Ty.cells .macRow y, FactC c) (hx1 : x1.length ≤ 140737488355328) (hx1_e : ∀ y ∈ x1, ∀ c ∈ Ty.cells .macRow y, FactC c)  (γ : Type) (fail : γ) (k : Bool → γ) : g_Equal_MacRow_N x0 x1 γ fail k = k (g_Equal_MacRow x0 x1) := by
  unfold g_Equal_MacRow_N g_Equal_MacRow
  refine bifT (f := k) (fun b0 => rfl)
      (fun b0 => loopT (f := k) (g_Equal_MacRow_L0_cl x0 x1 (x0.length : Int) 0 ?_ ?_ ?_ ?_) (fun a2 => rfl)
      (fun p2 => rfl))
  all_goals ((try simp only [Nat.ble_eq, Bool.and_eq_true, decide_eq_true_eq, g_Equal_MacRow_L0_mx0, g_Equal_MacRow_L0_mx1]); grind [maxSl, maxStr, toBytes_length, toInts_length, List.length_set, wrap64])
theorem g_Equal_MacRow_c (x0 : List MacRow) (x1 : List MacRow)  : Con Tryd.prog 92 (pvs [.sc (.sl .macRow), .sc (.sl .macRow)] (x0, x1, ())) [rv (.sc .bool) [] (g_Equal_MacRow x0 x1)] := by
  refine Con.of_facts (enters_of Tryd.func92 rfl (by kernel_rfl)) fun hf => ?_
  replace hf := factAt hf
  refine evalFn_conL teFact mixFact (orcOf_ok _) Tryd.func92 ?_ (bs := [0]) ?_ ?_ (fun w0 mo I0 hmo => ⟨lsem_of_lorc (g_Equal_MacRow_L0_ls w0 mo I0 hmo) ?_, trivial⟩) ((g_Equal_MacRow_lk x0 x1).trans (g_Equal_MacRow_p x0 x1 ((hf 0 0 rfl rfl).len) (fun y hy => (hf 0 0 rfl rfl).elem hy) ((hf 1 0 rfl rfl).len) (fun y hy => (hf 1 0 rfl rfl).elem hy) _ _ _))
  all_goals (kernel_rfl)
noncomputable def g_Equal_MacRow_e : Ent1 Tryd.prog := entA 92 [.sc (.sl .macRow), .sc (.sl .macRow)] (fun x => (g_Equal_MacRow x.1 x.2.1)) (fun v => [rv (.sc .bool) [] v]) (fun x => g_Equal_MacRow_c x.1 x.2.1)


/-- laws.eqMacRow -/
def w_eqMacRow_N (x0 : MacRow) (x1 : MacRow) (γ : Type) (fail : γ) (k : Bool → γ) : γ :=
  bif (!(x0.input == x1.input)) then
    k false
  else
  bif (x0.value != x1.value) then
    k false
  else
  k true
def w_eqMacRow (x0 : MacRow) (x1 : MacRow) : Bool :=
  bif (!(x0.input == x1.input)) then
    false
  else
  bif (x0.value != x1.value) then
    false
  else
  true
theorem w_eqMacRow_lk (x0 : MacRow) (x1 : MacRow) : evalFn te (orcOf (P := Tryd.prog) []) lorc0 [] Tryd.f93 (pvs [.st .macRow, .st .macRow] (x0, x1, ())) =
  w_eqMacRow_N x0 x1 _ none (fun v => some [(false, [RC.c (.bool v)])]) := by kernel_rfl
theorem w_eqMacRow_p (x0 : MacRow) (x1 : MacRow)   (γ : Type) (fail : γ) (k : Bool → γ) : w_eqMacRow_N x0 x1 γ fail k = k (w_eqMacRow x0 x1) := by
  unfold w_eqMacRow_N w_eqMacRow
  exact bifT (f := k) (fun b0 => rfl)
      (fun b0 => bifT (f := k) (fun b1 => rfl)
      (fun b1 => rfl))
theorem w_eqMacRow_c (x0 : MacRow) (x1 : MacRow)  : Con Tryd.prog 93 (pvs [.st .macRow, .st .macRow] (x0, x1, ())) [rv (.sc .bool) [] (w_eqMacRow x0 x1)] := by
  exact evalFn_con0 teFact mixFact (orcOf_ok _) Tryd.func93 (by kernel_rfl) ((w_eqMacRow_lk x0 x1).trans (w_eqMacRow_p x0 x1  _ _ _))
noncomputable def w_eqMacRow_e : Ent1 Tryd.prog := entA 93 [.st .macRow, .st .macRow] (fun x => (w_eqMacRow x.1 x.2.1)) (fun v => [rv (.sc .bool) [] v]) (fun x => w_eqMacRow_c x.1 x.2.1)


/-- spec.ActWord -/
def s_ActWord_N (x0 : Int) (γ : Type) (fail : γ) (k : Bytes → γ) : γ :=
  letK (α := Bool) (s_l1In x0 1 8) fun c1 =>
  bif (!c1) then
    k []
  else
  bif ((decide (0 ≤ x0)) && (decide (x0 < 9))) then
  letK (α := Bytes) ([[], [102, 114, 97, 109, 101], [116, 105, 99, 107], [115, 101, 99, 114, 101, 116], [97, 99, 99, 101, 112, 116], [119, 114, 105, 116, 101], [114, 101, 97, 100], [115, 104, 117, 116], [97, 98, 111, 114, 116]].getD x0.toNat []) fun e2 =>
  k e2
  else fail
def s_ActWord (x0 : Int) : Bytes :=
  letK (α := Bool) (s_l1In x0 1 8) fun c1 =>
  bif (!c1) then
    []
  else
  letK (α := Bytes) ([[], [102, 114, 97, 109, 101], [116, 105, 99, 107], [115, 101, 99, 114, 101, 116], [97, 99, 99, 101, 112, 116], [119, 114, 105, 116, 101], [114, 101, 97, 100], [115, 104, 117, 116], [97, 98, 111, 114, 116]].getD x0.toNat []) fun e2 =>
  e2
theorem s_ActWord_lk (x0 : Int) : evalFn te (orcOf (P := Tryd.prog) [s_l1In_e]) lorc0 [] Tryd.f37 (pvs [.sc (.int .i64)] (x0, ())) =
  s_ActWord_N x0 _ none (fun v => some [(false, [RC.c (.str v)])]) := by kernel_rfl
theorem s_ActWord_p (x0 : Int) (hx0 : inK .i64 x0)  (γ : Type) (fail : γ) (k : Bytes → γ) : s_ActWord_N x0 γ fail k = k (s_ActWord x0) := by
  unfold s_ActWord_N s_ActWord
  exact letT (f := k) (fun c1 hc1 => bifT (f := k) (fun b0 => rfl)
      (fun b0 => bifG (by (try simp only [Nat.ble_eq, Bool.and_eq_true, decide_eq_true_eq]); grind [maxSl, maxStr, toBytes_length, toInts_length, List.length_set, wrap64, s_l1In_eq]) (letT (f := k) (fun e2 he2 => rfl))))
theorem s_ActWord_c (x0 : Int)  : Con Tryd.prog 37 (pvs [.sc (.int .i64)] (x0, ())) [rv (.sc .str) [] (s_ActWord x0)] := by
  refine Con.of_facts (enters_of Tryd.func37 rfl (by kernel_rfl)) fun hf => ?_
  replace hf := factAt hf
  exact evalFn_con0 teFact mixFact (orcOf_ok _) Tryd.func37 (by kernel_rfl) ((s_ActWord_lk x0).trans (s_ActWord_p x0 ((hf 0 0 rfl rfl).rng) _ _ _))
noncomputable def s_ActWord_e : Ent1 Tryd.prog := entA 37 [.sc (.int .i64)] (fun x => (s_ActWord x.1)) (fun v => [rv (.sc .str) [] v]) (fun x => s_ActWord_c x.1)

theorem s_ActWord_len (x0 : Int)   : (fun v : Bytes => v.length ≤ 8) (s_ActWord x0) := by
  unfold s_ActWord
  refine letP (P := (fun v : Bytes => v.length ≤ 8)) (fun c1 hc1 => bifP (P := (fun v : Bytes => v.length ≤ 8)) (fun b0 => ?_)
      (fun b0 => letP (P := (fun v : Bytes => v.length ≤ 8)) (fun e2 he2 => ?_)))
  all_goals (subst_vars; first | (simp; done) | exact getD_all (p := fun y => List.length y ≤ 8) (by simp) (by decide) _)

/-- impl.ActWord -/
def i_ActWord_N (x0 : Int) (γ : Type) (fail : γ) (k : Bytes → γ) : γ :=
  letK (α := Bool) (i_within x0 1 8) fun c1 =>
  bif (!c1) then
    k []
  else
  bif ((decide (0 ≤ x0)) && (decide (x0 < 9))) then
  letK (α := Bytes) ([[], [102, 114, 97, 109, 101], [116, 105, 99, 107], [115, 101, 99, 114, 101, 116], [97, 99, 99, 101, 112, 116], [119, 114, 105, 116, 101], [114, 101, 97, 100], [115, 104, 117, 116], [97, 98, 111, 114, 116]].getD x0.toNat []) fun e2 =>
  k e2
  else fail
def i_ActWord (x0 : Int) : Bytes :=
  letK (α := Bool) (i_within x0 1 8) fun c1 =>
  bif (!c1) then
    []
  else
  letK (α := Bytes) ([[], [102, 114, 97, 109, 101], [116, 105, 99, 107], [115, 101, 99, 114, 101, 116], [97, 99, 99, 101, 112, 116], [119, 114, 105, 116, 101], [114, 101, 97, 100], [115, 104, 117, 116], [97, 98, 111, 114, 116]].getD x0.toNat []) fun e2 =>
  e2
theorem i_ActWord_lk (x0 : Int) : evalFn te (orcOf (P := Tryd.prog) [i_within_e]) lorc0 [] Tryd.f42 (pvs [.sc (.int .i64)] (x0, ())) =
  i_ActWord_N x0 _ none (fun v => some [(false, [RC.c (.str v)])]) := by kernel_rfl
theorem i_ActWord_p (x0 : Int) (hx0 : inK .i64 x0)  (γ : Type) (fail : γ) (k : Bytes → γ) : i_ActWord_N x0 γ fail k = k (i_ActWord x0) := by
  unfold i_ActWord_N i_ActWord
  exact letT (f := k) (fun c1 hc1 => bifT (f := k) (fun b0 => rfl)
      (fun b0 => bifG (by (try simp only [Nat.ble_eq, Bool.and_eq_true, decide_eq_true_eq]); grind [maxSl, maxStr, toBytes_length, toInts_length, List.length_set, wrap64, i_within_eq]) (letT (f := k) (fun e2 he2 => rfl))))
theorem i_ActWord_c (x0 : Int)  : Con Tryd.prog 42 (pvs [.sc (.int .i64)] (x0, ())) [rv (.sc .str) [] (i_ActWord x0)] := by
  refine Con.of_facts (enters_of Tryd.func42 rfl (by kernel_rfl)) fun hf => ?_
  replace hf := factAt hf
  exact evalFn_con0 teFact mixFact (orcOf_ok _) Tryd.func42 (by kernel_rfl) ((i_ActWord_lk x0).trans (i_ActWord_p x0 ((hf 0 0 rfl rfl).rng) _ _ _))
noncomputable def i_ActWord_e : Ent1 Tryd.prog := entA 42 [.sc (.int .i64)] (fun x => (i_ActWord x.1)) (fun v => [rv (.sc .str) [] v]) (fun x => i_ActWord_c x.1)

theorem i_ActWord_len (x0 : Int)   : (fun v : Bytes => v.length ≤ 8) (i_ActWord x0) := by
  unfold i_ActWord
  refine letP (P := (fun v : Bytes => v.length ≤ 8)) (fun c1 hc1 => bifP (P := (fun v : Bytes => v.length ≤ 8)) (fun b0 => ?_)
      (fun b0 => letP (P := (fun v : Bytes => v.length ≤ 8)) (fun e2 he2 => ?_)))
  all_goals (subst_vars; first | (simp; done) | exact getD_all (p := fun y => List.length y ≤ 8) (by simp) (by decide) _)

/-- impl.keyHex -/
def i_keyHex_ann : List (Nat × Keep) := [(0, ⟨[0, 3, 4], [], false, 0⟩)]
def i_keyHex_L0_sh : Sh := ⟨[(0, false, [.int .u64]), (3, false, [.own 0]), (4, false, [.int .i64])], [.arr .u8 false true]⟩
def i_keyHex_L0_es : List (Ex × Sh) := [(.exit 0, ⟨[(2, false, [.undef]), (3, false, [.own 0])], [.arr .u8 false true]⟩)]
def i_keyHex_L0_mk (v0 : Int) (v1 : Int) (v2 : List Int) : i_keyHex_L0_sh.T := (((v0, ()), (((), ()), ((v1, ()), ()))), (v2, ()))
def i_keyHex_L0_mx0 (y0 : List Int) : Sh.T ⟨[(2, false, [.undef]), (3, false, [.own 0])], [.arr .u8 false true]⟩ := ((((), ()), (((), ()), ())), (y0, ()))
def i_keyHex_L0_B (v0 : Int) (v1 : Int) (v2 : List Int) (γ : Type) (fail : γ) (next : i_keyHex_L0_sh.T → γ) (out : WT i_keyHex_L0_es → γ) : γ :=
  bif (decide (0 ≤ v1)) then
    bif ((decide (0 ≤ v1)) && (decide (v1 < (v2.length : Int)))) then
    next (i_keyHex_L0_mk (v0.fdiv 256) (IntKind.wrap .i64 (v1 - 1)) (v2.set v1.toNat (IntKind.wrap .u8 v0)))
    else fail
  else
  out (i_keyHex_L0_mx0 v2)
theorem i_keyHex_L0_par (v0 : Int) (v1 : Int) (v2 : List Int) (γ : Type) (fail : γ) (next : i_keyHex_L0_sh.T → γ) (out : WT i_keyHex_L0_es → γ) : i_keyHex_L0_B v0 v1 v2 γ fail next out = optK (i_keyHex_L0_B v0 v1 v2 _ none (fun v' => some (.inl v')) (fun w => some (.inr w))) fail (fun r => Sum.elim next out r) := by
  unfold i_keyHex_L0_B
  exact bifT (f := (fun o => optK o fail (fun r => Sum.elim next out r))) (fun _ => bifT (f := (fun o => optK o fail (fun r => Sum.elim next out r))) (fun _ => rfl) (fun _ => rfl))
      (fun _ => rfl)
def i_keyHex_L0_r : Round i_keyHex_L0_sh.T (WT i_keyHex_L0_es) where
  B v γ fail next out := i_keyHex_L0_B v.1.1.1 v.1.2.2.1.1 v.2.1 γ fail next out
  par v γ fail next out := i_keyHex_L0_par v.1.1.1 v.1.2.2.1.1 v.2.1 γ fail next out
def i_keyHex_L0_fu (v0 : Int) (v1 : Int) (v2 : List Int) : Nat := (Int.toNat (v1 - 0 + 1)) + 1
theorem i_keyHex_L0_lk (v : i_keyHex_L0_sh.T) (next : St → Option Res) (k : Ex → St → Option Res) : evalK te (orcOf (P := Tryd.prog) [i_Hex_e]) (lorcOf []) Tryd.f43.ntmps i_keyHex_ann (nthLoop (bodyOf Tryd.f43) 0 0) 0 (i_keyHex_L0_sh.enc v) (endK ⟨[0, 3, 4], [], false, 0⟩ ⟨[2, 3], [], false, 0⟩ next k) =
  i_keyHex_L0_r.B v _ none (fun v' => next (i_keyHex_L0_sh.enc v')) (fun w => outK i_keyHex_L0_es k w) := by kernel_rfl
def i_keyHex_L0_le : LE := leOf 0 i_keyHex_L0_sh i_keyHex_L0_es i_keyHex_L0_r.step (fun v => i_keyHex_L0_fu v.1.1.1 v.1.2.2.1.1 v.2.1)
theorem i_keyHex_L0_ls (w0 : World) (mo : Mts) (I0 : Nat → Prop) (hmo : mo.length = 0) : LSem Tryd.prog (Sim w0 mo Tryd.f43.ntmps I0) (fun b s k => match Nat.beq 0 b with | true => i_keyHex_L0_le.run s k | false => none) 0 (nthLoop (bodyOf Tryd.f43) 0 0) :=
  le_sem hmo (lorc := lorcOf []) (ann := i_keyHex_ann) (keep := ⟨[0, 3, 4], [], false, 0⟩) (kout := ⟨[2, 3], [], false, 0⟩) teFact mixFact (orcOf_ok _) (by kernel_rfl) (allLoops_of (bs := []) (by kernel_rfl) trivial) i_keyHex_L0_r _ i_keyHex_L0_lk
def i_keyHex_L0_f  (v1 : Int) (a : Int × List Int) : Stp (Int × List Int) (Empty) :=
  .next ((a.1.fdiv 256), (a.2.set v1.toNat (IntKind.wrap .u8 a.1)))
theorem i_keyHex_L0_st (v0 : Int) (v1 : Int) (v2 : List Int) (hlo : 0 ≤ v1) (hhi : v1 ≤ 9223372036854775807) (hN : 0 ≤ 0) (hinv : (v2.length : Int) = 8 ∧ v1 < 8) : i_keyHex_L0_r.step (i_keyHex_L0_mk v0 v1 v2) = Stp.elim (fun a' : Int × List Int => some (Sum.inl (i_keyHex_L0_mk a'.1 (v1 + (-1)) a'.2))) (fun w => some (Sum.inr ((fun p : Empty => nomatch p) w))) (i_keyHex_L0_f  v1 (v0, v2)) := by
  have hw : (IntKind.wrap .i64 (v1 - 1)) = v1 + (-1) := wrap64 (by omega) (by omega)
  show i_keyHex_L0_B v0 v1 v2 (Option (i_keyHex_L0_sh.T ⊕ WT i_keyHex_L0_es)) none (fun v' => some (Sum.inl v')) (fun w => some (Sum.inr w)) = _
  unfold i_keyHex_L0_B i_keyHex_L0_f
  exact bifG (by simp only [decide_eq_true_eq]; omega) (bifG (by (try simp only [Nat.ble_eq, Bool.and_eq_true, decide_eq_true_eq]); grind [maxSl, maxStr, toBytes_length, toInts_length, List.length_set, wrap64, i_Hex_len]) ((by exact congrArg (fun z => some (Sum.inl (i_keyHex_L0_mk (v0.fdiv 256) z (v2.set v1.toNat (IntKind.wrap .u8 v0))))) hw)))
theorem i_keyHex_L0_cl (v0 : Int) (v1 : Int) (v2 : List Int) (h0 : v1 ≤ 9223372036854775807) (h1 : 0 ≤ 0) (h2 : (v2.length : Int) = 8 ∧ v1 < 8) : loopF i_keyHex_L0_r.step (i_keyHex_L0_fu v0 v1 v2) (i_keyHex_L0_mk v0 v1 v2) = some (Stp.elim (fun a => (fun i a => i_keyHex_L0_mx0 a.2) (v1 + (-1) * (((Int.toNat (v1 - 0 + 1)) : Nat) : Int)) a) (fun p : Empty => nomatch p) (forN (i_keyHex_L0_f ) (-1) (Int.toNat (v1 - 0 + 1)) v1 (v0, v2))) :=
  forN_loop (step := i_keyHex_L0_r.step) (mk := fun v1 a => i_keyHex_L0_mk a.1 v1 a.2) (f := i_keyHex_L0_f ) (e := (fun i a => i_keyHex_L0_mx0 a.2)) (emb := (fun p : Empty => nomatch p)) (st := (-1)) (Inv := fun v1 a => (a.2.length : Int) = 8 ∧ v1 < 8) (Int.toNat (v1 - 0 + 1)) v1 (v0, v2) _ (Nat.lt_succ_self _) h2
    (fun j a hj hv => ⟨i_keyHex_L0_st a.1 (v1 + (-1) * (j : Int)) a.2 (by omega) (by omega) (by omega) hv, by
      intro a' he
      grind [i_keyHex_L0_f, letK, Stp.elim, wrap64, List.length_set, i_Hex_len]⟩)
    (fun a hv => by
      show i_keyHex_L0_B a.1 (v1 + (-1) * (((Int.toNat (v1 - 0 + 1)) : Nat) : Int)) a.2 (Option (i_keyHex_L0_sh.T ⊕ WT i_keyHex_L0_es)) none (fun v' => some (Sum.inl v')) (fun w => some (Sum.inr w)) = _
      unfold i_keyHex_L0_B
      exact bifN (by simp only [decide_eq_false_iff_not]; omega) rfl)
theorem i_keyHex_L0_nx (v0 : Int) (v1 : Int) (v2 : List Int) (h0 : v1 ≤ 9223372036854775807) (h1 : 0 ≤ 0) (h2 : (v2.length : Int) = 8 ∧ v1 < 8) : ∀ a', forN (i_keyHex_L0_f ) (-1) (Int.toNat (v1 - 0 + 1)) v1 (v0, v2) = .next a' → (a'.2.length : Int) = 8 ∧ (v1 + (-1) * (((Int.toNat (v1 - 0 + 1)) : Nat) : Int)) < 8 :=
  forN_inv (f := i_keyHex_L0_f ) (st := (-1)) (Inv := fun v1 a => (a.2.length : Int) = 8 ∧ v1 < 8) (Int.toNat (v1 - 0 + 1)) v1 (v0, v2) h2
    (fun j a hj hv => by
      intro a' he
      grind [i_keyHex_L0_f, letK, Stp.elim, wrap64, List.length_set, i_Hex_len])
def i_keyHex_N (x0 : Int) (γ : Type) (fail : γ) (k : Bytes → γ) : γ :=
  optK (loopF i_keyHex_L0_r.step (i_keyHex_L0_fu x0 7 (List.replicate 8 0)) (i_keyHex_L0_mk x0 7 (List.replicate 8 0))) fail fun w1 =>
    bif (decide ((toBytes w1.2.1).length ≤ 4294967296)) then
    letK (α := Bytes) (i_Hex (toBytes w1.2.1)) fun c2 =>
    k c2
    else fail
def i_keyHex (x0 : Int) : Bytes :=
  Stp.elim (fun a3 =>
    letK (α := Bytes) (i_Hex (toBytes a3.2)) fun c4 =>
    c4)
    (fun p : Empty => nomatch p)
    (forN (i_keyHex_L0_f) (-1) (Int.toNat (7 - 0 + 1)) 7 (x0, (List.replicate 8 0)))
theorem i_keyHex_lk (x0 : Int) : evalFn te (orcOf (P := Tryd.prog) [i_Hex_e]) (lorcOf [i_keyHex_L0_le]) i_keyHex_ann Tryd.f43 (pvs [.sc (.int .u64)] (x0, ())) =
  i_keyHex_N x0 _ none (fun v => some [(false, [RC.c (.str v)])]) := by kernel_rfl
theorem i_keyHex_p (x0 : Int) (hx0 : inK .u64 x0)  (γ : Type) (fail : γ) (k : Bytes → γ) : i_keyHex_N x0 γ fail k = k (i_keyHex x0) := by
  unfold i_keyHex_N i_keyHex
  refine loopX (f := k) (i_keyHex_L0_cl x0 7 (List.replicate 8 0) ?_ ?_ ?_) (fun a3 ha3 => have ia3 := i_keyHex_L0_nx x0 7 (List.replicate 8 0) ?_ ?_ ?_ _ ha3; bifG ?_ (letT (f := k) (fun c4 hc4 => rfl)))
      (fun p : Empty => nomatch p)
  all_goals ((try simp only [Nat.ble_eq, Bool.and_eq_true, decide_eq_true_eq, i_keyHex_L0_mx0]); grind [maxSl, maxStr, toBytes_length, toInts_length, List.length_set, wrap64, i_Hex_len])
theorem i_keyHex_c (x0 : Int)  : Con Tryd.prog 43 (pvs [.sc (.int .u64)] (x0, ())) [rv (.sc .str) [] (i_keyHex x0)] := by
  refine Con.of_facts (enters_of Tryd.func43 rfl (by kernel_rfl)) fun hf => ?_
  replace hf := factAt hf
  refine evalFn_conL teFact mixFact (orcOf_ok _) Tryd.func43 ?_ (bs := [0]) ?_ ?_ (fun w0 mo I0 hmo => ⟨lsem_of_lorc (i_keyHex_L0_ls w0 mo I0 hmo) ?_, trivial⟩) ((i_keyHex_lk x0).trans (i_keyHex_p x0 ((hf 0 0 rfl rfl).rng) _ _ _))
  all_goals (kernel_rfl)
noncomputable def i_keyHex_e : Ent1 Tryd.prog := entA 43 [.sc (.int .u64)] (fun x => (i_keyHex x.1)) (fun v => [rv (.sc .str) [] v]) (fun x => i_keyHex_c x.1)

theorem i_keyHex_len (x0 : Int)   : (fun v : Bytes => v.length ≤ 64) (i_keyHex x0) := by
  unfold i_keyHex
  refine loopP (P := (fun v : Bytes => v.length ≤ 64)) (fun a3 ha3 => have ia3 := i_keyHex_L0_nx x0 7 (List.replicate 8 0) ?_ ?_ ?_ _ ha3; letP (P := (fun v : Bytes => v.length ≤ 64)) (fun c4 hc4 => ?_))
      (fun p _ => nomatch p)
  all_goals ((try simp only [Nat.ble_eq, Bool.and_eq_true, decide_eq_true_eq, i_keyHex_L0_mx0]); grind [maxSl, maxStr, toBytes_length, toInts_length, List.length_set, wrap64, i_Hex_len])

/-- impl.hexOr -/
def i_hexOr_N (x0 : Bytes) (γ : Type) (fail : γ) (k : Bytes → γ) : γ :=
  bif (x0 == []) then
    k [45]
  else
  bif (decide (x0.length ≤ 4294967296)) then
  letK (α := Bytes) (i_Hex x0) fun c1 =>
  k c1
  else fail
def i_hexOr (x0 : Bytes) : Bytes :=
  bif (x0 == []) then
    [45]
  else
  letK (α := Bytes) (i_Hex x0) fun c1 =>
  c1
theorem i_hexOr_lk (x0 : Bytes) : evalFn te (orcOf (P := Tryd.prog) [i_Hex_e]) lorc0 [] Tryd.f44 (pvs [.sc .str] (x0, ())) =
  i_hexOr_N x0 _ none (fun v => some [(false, [RC.c (.str v)])]) := by kernel_rfl
theorem i_hexOr_p (x0 : Bytes) (hx0 : List.length x0 ≤ 4611686018427387904) (hp : x0.length ≤ 4294967296) (γ : Type) (fail : γ) (k : Bytes → γ) : i_hexOr_N x0 γ fail k = k (i_hexOr x0) := by
  unfold i_hexOr_N i_hexOr
  exact bifT (f := k) (fun b0 => rfl)
      (fun b0 => bifG (by (try simp only [Nat.ble_eq, Bool.and_eq_true, decide_eq_true_eq]); grind [maxSl, maxStr, toBytes_length, toInts_length, List.length_set, wrap64, i_Hex_len]) (letT (f := k) (fun c1 hc1 => rfl)))
theorem i_hexOr_c (x0 : Bytes) (hp : x0.length ≤ 4294967296) : Con Tryd.prog 44 (pvs [.sc .str] (x0, ())) [rv (.sc .str) [] (i_hexOr x0)] := by
  refine Con.of_facts (enters_of Tryd.func44 rfl (by kernel_rfl)) fun hf => ?_
  replace hf := factAt hf
  exact evalFn_con0 teFact mixFact (orcOf_ok _) Tryd.func44 (by kernel_rfl) ((i_hexOr_lk x0).trans (i_hexOr_p x0 ((hf 0 0 rfl rfl).slen) hp _ _ _))
noncomputable def i_hexOr_e : Ent1 Tryd.prog := entP 44 [.sc .str] (fun x => (decide (x.1.length ≤ 4294967296))) (fun x => (i_hexOr x.1)) (fun v => [rv (.sc .str) [] v]) (fun x hx => i_hexOr_c x.1 (of_decide_eq_true hx))

theorem i_hexOr_len (x0 : Bytes) (hp : x0.length ≤ 4294967296)  : (fun v : Bytes => v.length ≤ 2 * x0.length + 1) (i_hexOr x0) := by
  unfold i_hexOr
  refine bifP (P := (fun v : Bytes => v.length ≤ 2 * x0.length + 1)) (fun b0 => ?_)
      (fun b0 => letP (P := (fun v : Bytes => v.length ≤ 2 * x0.length + 1)) (fun c1 hc1 => ?_))
  all_goals ((try simp only [Nat.ble_eq, Bool.and_eq_true, decide_eq_true_eq]); grind [maxSl, maxStr, toBytes_length, toInts_length, List.length_set, wrap64, i_Hex_len])

/-- spec.Unhex -/
def s_Unhex_ann : List (Nat × Keep) := [(0, ⟨[0, 4, 5], [], false, 0⟩)]
def s_Unhex_L0_sh : Sh := ⟨[(0, false, [.str]), (4, false, [.own 0]), (5, false, [.int .i64])], [.arr .u8 false true]⟩
def s_Unhex_L0_es : List (Ex × Sh) := [(.ret, ⟨[(2, false, [.str]), (3, false, [.bool]), (4, false, [.own 0])], [.arr .u8 false true]⟩), (.exit 0, ⟨[(2, false, [.undef]), (3, false, [.undef]), (4, false, [.own 0])], [.arr .u8 false true]⟩)]
def s_Unhex_L0_mk (v0 : Bytes) (v1 : Int) (v2 : List Int) : s_Unhex_L0_sh.T := (((v0, ()), (((), ()), ((v1, ()), ()))), (v2, ()))
def s_Unhex_L0_mx0 (y0 : Bytes) (y1 : Bool) (y2 : List Int) : Sh.T ⟨[(2, false, [.str]), (3, false, [.bool]), (4, false, [.own 0])], [.arr .u8 false true]⟩ := (((y0, ()), ((y1, ()), (((), ()), ()))), (y2, ()))
def s_Unhex_L0_mx1 (y0 : List Int) : Sh.T ⟨[(2, false, [.undef]), (3, false, [.undef]), (4, false, [.own 0])], [.arr .u8 false true]⟩ := ((((), ()), (((), ()), (((), ()), ()))), (y0, ()))
def s_Unhex_L0_B (v0 : Bytes) (v1 : Int) (v2 : List Int) (γ : Type) (fail : γ) (next : s_Unhex_L0_sh.T → γ) (out : WT s_Unhex_L0_es → γ) : γ :=
  bif (decide (v1 < (v0.length : Int))) then
    bif ((decide (0 ≤ v1)) && (decide (v1 < (v0.length : Int)))) then
    letK (α := Int) (s_l1Half (byteAt v0 v1.toNat)) fun c1 =>
    bif ((decide (0 ≤ (IntKind.wrap .i64 (v1 + 1)))) && (decide ((IntKind.wrap .i64 (v1 + 1)) < (v0.length : Int)))) then
    letK (α := Int) (s_l1Half (byteAt v0 ((IntKind.wrap .i64 (v1 + 1)).toNat))) fun c2 =>
    bif (decide (c1 < 0)) then
      out (Sum.inl (s_Unhex_L0_mx0 [] false v2))
    else
    bif (decide (c2 < 0)) then
      out (Sum.inl (s_Unhex_L0_mx0 [] false v2))
    else
    letK (α := Int) (IntKind.wrap .u8 (IntKind.wrap .i64 ((IntKind.wrap .i64 (16 * c1)) + c2))) fun e3 =>
    bif (Nat.ble ((2 * (v2.length + 1) + 1024) * 1) maxSl) then
    next (s_Unhex_L0_mk v0 (IntKind.wrap .i64 (v1 + 2)) (v2 ++ [e3]))
    else fail
    else fail
    else fail
  else
  out (Sum.inr (s_Unhex_L0_mx1 v2))
theorem s_Unhex_L0_par (v0 : Bytes) (v1 : Int) (v2 : List Int) (γ : Type) (fail : γ) (next : s_Unhex_L0_sh.T → γ) (out : WT s_Unhex_L0_es → γ) : s_Unhex_L0_B v0 v1 v2 γ fail next out = optK (s_Unhex_L0_B v0 v1 v2 _ none (fun v' => some (.inl v')) (fun w => some (.inr w))) fail (fun r => Sum.elim next out r) := by
  unfold s_Unhex_L0_B
  repeat' (first | refine letT (f := (fun o => optK o fail (fun r => Sum.elim next out r))) (fun _ _ => ?_) | refine bifT (f := (fun o => optK o fail (fun r => Sum.elim next out r))) (fun _ => ?_) (fun _ => ?_) | rfl)
def s_Unhex_L0_r : Round s_Unhex_L0_sh.T (WT s_Unhex_L0_es) where
  B v γ fail next out := s_Unhex_L0_B v.1.1.1 v.1.2.2.1.1 v.2.1 γ fail next out
  par v γ fail next out := s_Unhex_L0_par v.1.1.1 v.1.2.2.1.1 v.2.1 γ fail next out
def s_Unhex_L0_fu (v0 : Bytes) (v1 : Int) (v2 : List Int) : Nat := (Int.toNat (((v0.length : Int) - v1 + 1) / 2)) + 1
theorem s_Unhex_L0_lk (v : s_Unhex_L0_sh.T) (next : St → Option Res) (k : Ex → St → Option Res) : evalK te (orcOf (P := Tryd.prog) [s_l1Half_e]) (lorcOf []) Tryd.f52.ntmps s_Unhex_ann (nthLoop (bodyOf Tryd.f52) 0 0) 0 (s_Unhex_L0_sh.enc v) (endK ⟨[0, 4, 5], [], false, 0⟩ ⟨[2, 3, 4], [], false, 0⟩ next k) =
  s_Unhex_L0_r.B v _ none (fun v' => next (s_Unhex_L0_sh.enc v')) (fun w => outK s_Unhex_L0_es k w) := by kernel_rfl
def s_Unhex_L0_le : LE := leOf 0 s_Unhex_L0_sh s_Unhex_L0_es s_Unhex_L0_r.step (fun v => s_Unhex_L0_fu v.1.1.1 v.1.2.2.1.1 v.2.1)
theorem s_Unhex_L0_ls (w0 : World) (mo : Mts) (I0 : Nat → Prop) (hmo : mo.length = 0) : LSem Tryd.prog (Sim w0 mo Tryd.f52.ntmps I0) (fun b s k => match Nat.beq 0 b with | true => s_Unhex_L0_le.run s k | false => none) 0 (nthLoop (bodyOf Tryd.f52) 0 0) :=
  le_sem hmo (lorc := lorcOf []) (ann := s_Unhex_ann) (keep := ⟨[0, 4, 5], [], false, 0⟩) (kout := ⟨[2, 3, 4], [], false, 0⟩) teFact mixFact (orcOf_ok _) (by kernel_rfl) (allLoops_of (bs := []) (by kernel_rfl) trivial) s_Unhex_L0_r _ s_Unhex_L0_lk
def s_Unhex_L0_f (v0 : Bytes) (v1 : Int) (a : List Int) : Stp (List Int) ((List Int)) :=
  letK (α := Int) (s_l1Half (byteAt v0 v1.toNat)) fun c1 =>
  letK (α := Int) (s_l1Half (byteAt v0 ((IntKind.wrap .i64 (v1 + 1)).toNat))) fun c2 =>
  bif (decide (c1 < 0)) then
    .out (a)
  else
  bif (decide (c2 < 0)) then
    .out (a)
  else
  letK (α := Int) (IntKind.wrap .u8 (IntKind.wrap .i64 ((IntKind.wrap .i64 (16 * c1)) + c2))) fun e3 =>
  .next (a ++ [e3])
theorem s_Unhex_L0_st (v0 : Bytes) (v1 : Int) (v2 : List Int) (hlo : 0 ≤ v1) (hhi : v1 < (v0.length : Int)) (hN : (v0.length : Int) ≤ 4611686018427387904) (hi0 : (v0.length : Int) ≤ 4294967296) (hi1 : (v0.length : Int) % 2 = 0) (hinv : (v2.length : Int) ≤ v1 ∧ v1 % 2 = 0) : s_Unhex_L0_r.step (s_Unhex_L0_mk v0 v1 v2) = Stp.elim (fun a' : List Int => some (Sum.inl (s_Unhex_L0_mk v0 (v1 + 2) a'))) (fun w => some (Sum.inr ((fun p : List Int => Sum.inl (s_Unhex_L0_mx0 [] false p)) w))) (s_Unhex_L0_f v0 v1 v2) := by
  have hw : (IntKind.wrap .i64 (v1 + 2)) = v1 + 2 := wrap64 (by omega) (by omega)
  show s_Unhex_L0_B v0 v1 v2 (Option (s_Unhex_L0_sh.T ⊕ WT s_Unhex_L0_es)) none (fun v' => some (Sum.inl v')) (fun w => some (Sum.inr w)) = _
  unfold s_Unhex_L0_B s_Unhex_L0_f
  refine bifG (by simp only [decide_eq_true_eq]; omega) (bifG ?_ (letT (f := (Stp.elim (fun a' : List Int => some (Sum.inl (s_Unhex_L0_mk v0 (v1 + 2) a'))) (fun w => some (Sum.inr ((fun p : List Int => Sum.inl (s_Unhex_L0_mx0 [] false p)) w))))) (fun c1 hc1 => bifG ?_ (letT (f := (Stp.elim (fun a' : List Int => some (Sum.inl (s_Unhex_L0_mk v0 (v1 + 2) a'))) (fun w => some (Sum.inr ((fun p : List Int => Sum.inl (s_Unhex_L0_mx0 [] false p)) w))))) (fun c2 hc2 => bifT (f := (Stp.elim (fun a' : List Int => some (Sum.inl (s_Unhex_L0_mk v0 (v1 + 2) a'))) (fun w => some (Sum.inr ((fun p : List Int => Sum.inl (s_Unhex_L0_mx0 [] false p)) w))))) (fun b0 => rfl)
      (fun b0 => bifT (f := (Stp.elim (fun a' : List Int => some (Sum.inl (s_Unhex_L0_mk v0 (v1 + 2) a'))) (fun w => some (Sum.inr ((fun p : List Int => Sum.inl (s_Unhex_L0_mx0 [] false p)) w))))) (fun b1 => rfl)
      (fun b1 => letT (f := (Stp.elim (fun a' : List Int => some (Sum.inl (s_Unhex_L0_mk v0 (v1 + 2) a'))) (fun w => some (Sum.inr ((fun p : List Int => Sum.inl (s_Unhex_L0_mx0 [] false p)) w))))) (fun e3 he3 => bifG ?_ ((by exact congrArg (fun z => some (Sum.inl (s_Unhex_L0_mk v0 z (v2 ++ [e3])))) hw))))))))))
  all_goals ((try simp only [Nat.ble_eq, Bool.and_eq_true, decide_eq_true_eq]); grind [maxSl, maxStr, toBytes_length, toInts_length, List.length_set, wrap64])
theorem s_Unhex_L0_cl (v0 : Bytes) (v1 : Int) (v2 : List Int) (h0 : 0 ≤ v1) (h1 : (v0.length : Int) ≤ 4611686018427387904) (h2 : (v0.length : Int) ≤ 4294967296) (h3 : (v0.length : Int) % 2 = 0) (h4 : (v2.length : Int) ≤ v1 ∧ v1 % 2 = 0) : loopF s_Unhex_L0_r.step (s_Unhex_L0_fu v0 v1 v2) (s_Unhex_L0_mk v0 v1 v2) = some (Stp.elim (fun a => (fun i a => Sum.inr (s_Unhex_L0_mx1 a)) (v1 + 2 * (((Int.toNat (((v0.length : Int) - v1 + 1) / 2)) : Nat) : Int)) a) (fun p : List Int => Sum.inl (s_Unhex_L0_mx0 [] false p)) (forN (s_Unhex_L0_f v0) 2 (Int.toNat (((v0.length : Int) - v1 + 1) / 2)) v1 v2)) :=
  forN_loop (step := s_Unhex_L0_r.step) (mk := fun v1 a => s_Unhex_L0_mk v0 v1 a) (f := s_Unhex_L0_f v0) (e := (fun i a => Sum.inr (s_Unhex_L0_mx1 a))) (emb := (fun p : List Int => Sum.inl (s_Unhex_L0_mx0 [] false p))) (st := 2) (Inv := fun v1 a => (a.length : Int) ≤ v1 ∧ v1 % 2 = 0) (Int.toNat (((v0.length : Int) - v1 + 1) / 2)) v1 v2 _ (Nat.lt_succ_self _) h4
    (fun j a hj hv => ⟨s_Unhex_L0_st v0 (v1 + 2 * (j : Int)) a (by omega) (by omega) (by omega) h2 h3 hv, by
      intro a' he
      grind [s_Unhex_L0_f, letK, Stp.elim, wrap64, List.length_set]⟩)
    (fun a hv => by
      show s_Unhex_L0_B v0 (v1 + 2 * (((Int.toNat (((v0.length : Int) - v1 + 1) / 2)) : Nat) : Int)) a (Option (s_Unhex_L0_sh.T ⊕ WT s_Unhex_L0_es)) none (fun v' => some (Sum.inl v')) (fun w => some (Sum.inr w)) = _
      unfold s_Unhex_L0_B
      exact bifN (by simp only [decide_eq_false_iff_not]; omega) rfl)
theorem s_Unhex_L0_nx (v0 : Bytes) (v1 : Int) (v2 : List Int) (h0 : 0 ≤ v1) (h1 : (v0.length : Int) ≤ 4611686018427387904) (h2 : (v0.length : Int) ≤ 4294967296) (h3 : (v0.length : Int) % 2 = 0) (h4 : (v2.length : Int) ≤ v1 ∧ v1 % 2 = 0) : ∀ a', forN (s_Unhex_L0_f v0) 2 (Int.toNat (((v0.length : Int) - v1 + 1) / 2)) v1 v2 = .next a' → (a'.length : Int) ≤ (v1 + 2 * (((Int.toNat (((v0.length : Int) - v1 + 1) / 2)) : Nat) : Int)) ∧ (v1 + 2 * (((Int.toNat (((v0.length : Int) - v1 + 1) / 2)) : Nat) : Int)) % 2 = 0 :=
  forN_inv (f := s_Unhex_L0_f v0) (st := 2) (Inv := fun v1 a => (a.length : Int) ≤ v1 ∧ v1 % 2 = 0) (Int.toNat (((v0.length : Int) - v1 + 1) / 2)) v1 v2 h4
    (fun j a hj hv => by
      intro a' he
      grind [s_Unhex_L0_f, letK, Stp.elim, wrap64, List.length_set])
def s_Unhex_N (x0 : Bytes) (γ : Type) (fail : γ) (k : Bytes × Bool → γ) : γ :=
  bif (((x0.length : Int).tmod 2) == 1) then
    k ([], false)
  else
  optK (loopF s_Unhex_L0_r.step (s_Unhex_L0_fu x0 0 []) (s_Unhex_L0_mk x0 0 [])) fail fun w4 =>
    Sum.elim (fun w4 =>
      k (w4.1.1.1, w4.1.2.1.1))
    (fun w4 =>
      k ((toBytes w4.2.1), true)) w4
def s_Unhex (x0 : Bytes) : Bytes × Bool :=
  bif (((x0.length : Int).tmod 2) == 1) then
    ([], false)
  else
  Stp.elim (fun a5 =>
    ((toBytes a5), true))
    (fun p5 =>
      ([], false))
    (forN (s_Unhex_L0_f x0) 2 (Int.toNat (((x0.length : Int) - 0 + 1) / 2)) 0 [])
theorem s_Unhex_lk (x0 : Bytes) : evalFn te (orcOf (P := Tryd.prog) [s_l1Half_e]) (lorcOf [s_Unhex_L0_le]) s_Unhex_ann Tryd.f52 (pvs [.sc .str] (x0, ())) =
  s_Unhex_N x0 _ none (fun v => some [(false, [RC.c (.str v.1)]), (false, [RC.c (.bool v.2)])]) := by kernel_rfl
theorem s_Unhex_p (x0 : Bytes) (hx0 : List.length x0 ≤ 4611686018427387904) (hp : x0.length ≤ 4294967296) (γ : Type) (fail : γ) (k : Bytes × Bool → γ) : s_Unhex_N x0 γ fail k = k (s_Unhex x0) := by
  unfold s_Unhex_N s_Unhex
  refine bifT (f := k) (fun b0 => rfl)
      (fun b0 => loopX (f := k) (s_Unhex_L0_cl x0 0 [] ?_ ?_ ?_ ?_ ?_) (fun a5 ha5 => have ia5 := s_Unhex_L0_nx x0 0 [] ?_ ?_ ?_ ?_ ?_ _ ha5; rfl)
      (fun p5 => rfl))
  all_goals ((try simp only [Nat.ble_eq, Bool.and_eq_true, decide_eq_true_eq]); first | grind [maxSl, maxStr] | (have h1 := (tmod_pos (a := (x0.length : Int)) 2).1 (by omega); simp only [bne_eq_false_iff_eq] at b0; omega))
theorem s_Unhex_c (x0 : Bytes) (hp : x0.length ≤ 4294967296) : Con Tryd.prog 52 (pvs [.sc .str] (x0, ())) [rv (.sc .str) [] (s_Unhex x0).1, rv (.sc .bool) [] (s_Unhex x0).2] := by
  refine Con.of_facts (enters_of Tryd.func52 rfl (by kernel_rfl)) fun hf => ?_
  replace hf := factAt hf
  refine evalFn_conL teFact mixFact (orcOf_ok _) Tryd.func52 ?_ (bs := [0]) ?_ ?_ (fun w0 mo I0 hmo => ⟨lsem_of_lorc (s_Unhex_L0_ls w0 mo I0 hmo) ?_, trivial⟩) ((s_Unhex_lk x0).trans (s_Unhex_p x0 ((hf 0 0 rfl rfl).slen) hp _ _ _))
  all_goals (kernel_rfl)
noncomputable def s_Unhex_e : Ent1 Tryd.prog := entP 52 [.sc .str] (fun x => (decide (x.1.length ≤ 4294967296))) (fun x => (s_Unhex x.1)) (fun v => [rv (.sc .str) [] v.1, rv (.sc .bool) [] v.2]) (fun x hx => s_Unhex_c x.1 (of_decide_eq_true hx))

theorem s_Unhex_len (x0 : Bytes) (hp : x0.length ≤ 4294967296)  : (fun v : Bytes × Bool => v.1.length ≤ x0.length) (s_Unhex x0) := by
  unfold s_Unhex
  refine bifP (P := (fun v : Bytes × Bool => v.1.length ≤ x0.length)) (fun b0 => (by first | exact Nat.zero_le _ | (have h1 := (tmod_pos (a := (x0.length : Int)) 2).1 (by omega); have b1 := b0; simp only [bne_eq_false_iff_eq, beq_eq_false_iff_ne, ne_eq] at b1; show (toBytes a5).length ≤ _; rw [toBytes_length]; omega)))
      (fun b0 => loopP (P := (fun v : Bytes × Bool => v.1.length ≤ x0.length)) (fun a5 ha5 => have ia5 := s_Unhex_L0_nx x0 0 [] ?_ ?_ ?_ ?_ ?_ _ ha5; (by first | exact Nat.zero_le _ | (have h1 := (tmod_pos (a := (x0.length : Int)) 2).1 (by omega); have b1 := b0; simp only [bne_eq_false_iff_eq, beq_eq_false_iff_ne, ne_eq] at b1; show (toBytes a5).length ≤ _; rw [toBytes_length]; omega)))
      (fun p5 hp5 => (by first | exact Nat.zero_le _ | (have h1 := (tmod_pos (a := (x0.length : Int)) 2).1 (by omega); have b1 := b0; simp only [bne_eq_false_iff_eq, beq_eq_false_iff_ne, ne_eq] at b1; show (toBytes a5).length ≤ _; rw [toBytes_length]; omega))))
  all_goals ((try simp only [Nat.ble_eq, Bool.and_eq_true, decide_eq_true_eq, s_Unhex_L0_mx0, s_Unhex_L0_mx1]); grind [maxSl, maxStr, toBytes_length, toInts_length, List.length_set, wrap64])

/-- impl.readText -/
def i_readText_N (x0 : Bytes) (γ : Type) (fail : γ) (k : Bytes × Bool → γ) : γ :=
  bif (x0 == [45]) then
    k ([], true)
  else
  bif (decide (x0.length ≤ 4294967296)) then
  letK (α := Bytes × Bool) (i_Unhex x0) fun c1 =>
  bif c1.2 then
    k (c1.1, (!(c1.1 == [])))
  else
  k (c1.1, false)
  else fail
def i_readText (x0 : Bytes) : Bytes × Bool :=
  bif (x0 == [45]) then
    ([], true)
  else
  letK (α := Bytes × Bool) (i_Unhex x0) fun c1 =>
  bif c1.2 then
    (c1.1, (!(c1.1 == [])))
  else
  (c1.1, false)
theorem i_readText_lk (x0 : Bytes) : evalFn te (orcOf (P := Tryd.prog) [i_Unhex_e]) lorc0 [] Tryd.f54 (pvs [.sc .str] (x0, ())) =
  i_readText_N x0 _ none (fun v => some [(false, [RC.c (.str v.1)]), (false, [RC.c (.bool v.2)])]) := by kernel_rfl
theorem i_readText_p (x0 : Bytes) (hx0 : List.length x0 ≤ 4611686018427387904) (hp : x0.length ≤ 4294967296) (γ : Type) (fail : γ) (k : Bytes × Bool → γ) : i_readText_N x0 γ fail k = k (i_readText x0) := by
  unfold i_readText_N i_readText
  exact bifT (f := k) (fun b0 => rfl)
      (fun b0 => bifG (by (try simp only [Nat.ble_eq, Bool.and_eq_true, decide_eq_true_eq]); grind [maxSl, maxStr, toBytes_length, toInts_length, List.length_set, wrap64, i_Unhex_len]) (letT (f := k) (fun c1 hc1 => bifT (f := k) (fun b1 => rfl)
      (fun b1 => rfl))))
theorem i_readText_c (x0 : Bytes) (hp : x0.length ≤ 4294967296) : Con Tryd.prog 54 (pvs [.sc .str] (x0, ())) [rv (.sc .str) [] (i_readText x0).1, rv (.sc .bool) [] (i_readText x0).2] := by
  refine Con.of_facts (enters_of Tryd.func54 rfl (by kernel_rfl)) fun hf => ?_
  replace hf := factAt hf
  exact evalFn_con0 teFact mixFact (orcOf_ok _) Tryd.func54 (by kernel_rfl) ((i_readText_lk x0).trans (i_readText_p x0 ((hf 0 0 rfl rfl).slen) hp _ _ _))
noncomputable def i_readText_e : Ent1 Tryd.prog := entP 54 [.sc .str] (fun x => (decide (x.1.length ≤ 4294967296))) (fun x => (i_readText x.1)) (fun v => [rv (.sc .str) [] v.1, rv (.sc .bool) [] v.2]) (fun x hx => i_readText_c x.1 (of_decide_eq_true hx))

theorem i_readText_len (x0 : Bytes) (hp : x0.length ≤ 4294967296)  : (fun v : Bytes × Bool => v.1.length ≤ x0.length) (i_readText x0) := by
  unfold i_readText
  refine bifP (P := (fun v : Bytes × Bool => v.1.length ≤ x0.length)) (fun b0 => ?_)
      (fun b0 => letP (P := (fun v : Bytes × Bool => v.1.length ≤ x0.length)) (fun c1 hc1 => bifP (P := (fun v : Bytes × Bool => v.1.length ≤ x0.length)) (fun b1 => ?_)
      (fun b1 => ?_)))
  all_goals ((try simp only [Nat.ble_eq, Bool.and_eq_true, decide_eq_true_eq]); grind [maxSl, maxStr, toBytes_length, toInts_length, List.length_set, wrap64, i_Unhex_len])

/-- impl.readKey -/
def i_readKey_ann : List (Nat × Keep) := [(0, ⟨[4, 6, 20], [], false, 0⟩)]
def i_readKey_L0_sh : Sh := ⟨[(4, false, [.str]), (6, false, [.int .u64]), (20, false, [.int .i64])], []⟩
def i_readKey_L0_es : List (Ex × Sh) := [(.exit 0, ⟨[(2, false, [.undef]), (3, false, [.undef]), (6, false, [.int .u64])], []⟩)]
def i_readKey_L0_mk (v0 : Bytes) (v1 : Int) (v2 : Int) : i_readKey_L0_sh.T := (((v0, ()), ((v1, ()), ((v2, ()), ()))), ())
def i_readKey_L0_mx0 (y0 : Int) : Sh.T ⟨[(2, false, [.undef]), (3, false, [.undef]), (6, false, [.int .u64])], []⟩ := ((((), ()), (((), ()), ((y0, ()), ()))), ())
def i_readKey_L0_B (v0 : Bytes) (v1 : Int) (v2 : Int) (γ : Type) (fail : γ) (next : i_readKey_L0_sh.T → γ) (out : WT i_readKey_L0_es → γ) : γ :=
  bif (decide (v2 < 8)) then
    bif ((decide (0 ≤ v2)) && (decide (v2 < (v0.length : Int)))) then
    letK (α := Int) (bits .or .u64 (IntKind.wrap .u64 (v1 * 256)) (IntKind.wrap .u64 (byteAt v0 v2.toNat))) fun e2 =>
    next (i_readKey_L0_mk v0 e2 (IntKind.wrap .i64 (v2 + 1)))
    else fail
  else
  out (i_readKey_L0_mx0 v1)
theorem i_readKey_L0_par (v0 : Bytes) (v1 : Int) (v2 : Int) (γ : Type) (fail : γ) (next : i_readKey_L0_sh.T → γ) (out : WT i_readKey_L0_es → γ) : i_readKey_L0_B v0 v1 v2 γ fail next out = optK (i_readKey_L0_B v0 v1 v2 _ none (fun v' => some (.inl v')) (fun w => some (.inr w))) fail (fun r => Sum.elim next out r) := by
  unfold i_readKey_L0_B
  repeat' (first | refine letT (f := (fun o => optK o fail (fun r => Sum.elim next out r))) (fun _ _ => ?_) | refine bifT (f := (fun o => optK o fail (fun r => Sum.elim next out r))) (fun _ => ?_) (fun _ => ?_) | rfl)
def i_readKey_L0_r : Round i_readKey_L0_sh.T (WT i_readKey_L0_es) where
  B v γ fail next out := i_readKey_L0_B v.1.1.1 v.1.2.1.1 v.1.2.2.1.1 γ fail next out
  par v γ fail next out := i_readKey_L0_par v.1.1.1 v.1.2.1.1 v.1.2.2.1.1 γ fail next out
def i_readKey_L0_fu (v0 : Bytes) (v1 : Int) (v2 : Int) : Nat := (Int.toNat (8 - v2)) + 1
theorem i_readKey_L0_lk (v : i_readKey_L0_sh.T) (next : St → Option Res) (k : Ex → St → Option Res) : evalK te (orcOf (P := Tryd.prog) [i_Unhex_e]) (lorcOf []) Tryd.f55.ntmps i_readKey_ann (nthLoop (bodyOf Tryd.f55) 0 0) 0 (i_readKey_L0_sh.enc v) (endK ⟨[4, 6, 20], [], false, 0⟩ ⟨[2, 3, 6], [], false, 0⟩ next k) =
  i_readKey_L0_r.B v _ none (fun v' => next (i_readKey_L0_sh.enc v')) (fun w => outK i_readKey_L0_es k w) := by kernel_rfl
def i_readKey_L0_le : LE := leOf 0 i_readKey_L0_sh i_readKey_L0_es i_readKey_L0_r.step (fun v => i_readKey_L0_fu v.1.1.1 v.1.2.1.1 v.1.2.2.1.1)
theorem i_readKey_L0_ls (w0 : World) (mo : Mts) (I0 : Nat → Prop) (hmo : mo.length = 0) : LSem Tryd.prog (Sim w0 mo Tryd.f55.ntmps I0) (fun b s k => match Nat.beq 0 b with | true => i_readKey_L0_le.run s k | false => none) 0 (nthLoop (bodyOf Tryd.f55) 0 0) :=
  le_sem hmo (lorc := lorcOf []) (ann := i_readKey_ann) (keep := ⟨[4, 6, 20], [], false, 0⟩) (kout := ⟨[2, 3, 6], [], false, 0⟩) teFact mixFact (orcOf_ok _) (by kernel_rfl) (allLoops_of (bs := []) (by kernel_rfl) trivial) i_readKey_L0_r _ i_readKey_L0_lk
def i_readKey_L0_f (v0 : Bytes) (v2 : Int) (a : Int) : Stp (Int) (Empty) :=
  letK (α := Int) (bits .or .u64 (IntKind.wrap .u64 (a * 256)) (IntKind.wrap .u64 (byteAt v0 v2.toNat))) fun e2 =>
  .next e2
theorem i_readKey_L0_st (v0 : Bytes) (v1 : Int) (v2 : Int) (hlo : 0 ≤ v2) (hhi : v2 < 8) (hN : 8 ≤ 4611686018427387904) (hi0 : 8 ≤ (v0.length : Int)) : i_readKey_L0_r.step (i_readKey_L0_mk v0 v1 v2) = Stp.elim (fun a' : Int => some (Sum.inl (i_readKey_L0_mk v0 a' (v2 + 1)))) (fun w => some (Sum.inr ((fun p : Empty => nomatch p) w))) (i_readKey_L0_f v0 v2 v1) := by
  have hw : (IntKind.wrap .i64 (v2 + 1)) = v2 + 1 := wrap64 (by omega) (by omega)
  show i_readKey_L0_B v0 v1 v2 (Option (i_readKey_L0_sh.T ⊕ WT i_readKey_L0_es)) none (fun v' => some (Sum.inl v')) (fun w => some (Sum.inr w)) = _
  unfold i_readKey_L0_B i_readKey_L0_f
  exact bifG (by simp only [decide_eq_true_eq]; omega) (bifG (by (try simp only [Nat.ble_eq, Bool.and_eq_true, decide_eq_true_eq]); grind [maxSl, maxStr, toBytes_length, toInts_length, List.length_set, wrap64, i_Unhex_len]) (letT (f := (Stp.elim (fun a' : Int => some (Sum.inl (i_readKey_L0_mk v0 a' (v2 + 1)))) (fun w => some (Sum.inr ((fun p : Empty => nomatch p) w))))) (fun e2 he2 => (by exact congrArg (fun z => some (Sum.inl (i_readKey_L0_mk v0 e2 z))) hw))))
theorem i_readKey_L0_cl (v0 : Bytes) (v1 : Int) (v2 : Int) (h0 : 0 ≤ v2) (h1 : 8 ≤ 4611686018427387904) (h2 : 8 ≤ (v0.length : Int)) : loopF i_readKey_L0_r.step (i_readKey_L0_fu v0 v1 v2) (i_readKey_L0_mk v0 v1 v2) = some (Stp.elim (fun a => (fun i a => i_readKey_L0_mx0 a) (v2 + 1 * (((Int.toNat (8 - v2)) : Nat) : Int)) a) (fun p : Empty => nomatch p) (forN (i_readKey_L0_f v0) 1 (Int.toNat (8 - v2)) v2 v1)) :=
  forN_loop (step := i_readKey_L0_r.step) (mk := fun v2 a => i_readKey_L0_mk v0 a v2) (f := i_readKey_L0_f v0) (e := (fun i a => i_readKey_L0_mx0 a)) (emb := (fun p : Empty => nomatch p)) (st := 1) (Inv := fun v2 a => True) (Int.toNat (8 - v2)) v2 v1 _ (Nat.lt_succ_self _) trivial
    (fun j a hj hv => ⟨i_readKey_L0_st v0 a (v2 + 1 * (j : Int)) (by omega) (by omega) (by omega) h2, fun _ _ => trivial⟩)
    (fun a hv => by
      show i_readKey_L0_B v0 a (v2 + 1 * (((Int.toNat (8 - v2)) : Nat) : Int)) (Option (i_readKey_L0_sh.T ⊕ WT i_readKey_L0_es)) none (fun v' => some (Sum.inl v')) (fun w => some (Sum.inr w)) = _
      unfold i_readKey_L0_B
      exact bifN (by simp only [decide_eq_false_iff_not]; omega) rfl)
def i_readKey_N (x0 : Bytes) (γ : Type) (fail : γ) (k : Int × Bool → γ) : γ :=
  bif (decide (x0.length ≤ 4294967296)) then
  letK (α := Bytes × Bool) (i_Unhex x0) fun c1 =>
  bif (!c1.2) then
    k (0, false)
  else
  bif ((c1.1.length : Int) != 8) then
    k (0, false)
  else
  optK (loopF i_readKey_L0_r.step (i_readKey_L0_fu c1.1 0 0) (i_readKey_L0_mk c1.1 0 0)) fail fun w3 =>
    k (w3.1.2.2.1.1, true)
  else fail
def i_readKey (x0 : Bytes) : Int × Bool :=
  letK (α := Bytes × Bool) (i_Unhex x0) fun c1 =>
  bif (!c1.2) then
    (0, false)
  else
  bif ((c1.1.length : Int) != 8) then
    (0, false)
  else
  Stp.elim (fun a4 =>
    (a4, true))
    (fun p : Empty => nomatch p)
    (forN (i_readKey_L0_f c1.1) 1 (Int.toNat (8 - 0)) 0 0)
theorem i_readKey_lk (x0 : Bytes) : evalFn te (orcOf (P := Tryd.prog) [i_Unhex_e]) (lorcOf [i_readKey_L0_le]) i_readKey_ann Tryd.f55 (pvs [.sc .str] (x0, ())) =
  i_readKey_N x0 _ none (fun v => some [(false, [RC.c (.int .u64 v.1)]), (false, [RC.c (.bool v.2)])]) := by kernel_rfl
theorem i_readKey_p (x0 : Bytes) (hx0 : List.length x0 ≤ 4611686018427387904) (hp : x0.length ≤ 4294967296) (γ : Type) (fail : γ) (k : Int × Bool → γ) : i_readKey_N x0 γ fail k = k (i_readKey x0) := by
  unfold i_readKey_N i_readKey
  refine bifG ?_ (letT (f := k) (fun c1 hc1 => bifT (f := k) (fun b0 => rfl)
      (fun b0 => bifT (f := k) (fun b1 => rfl)
      (fun b1 => loopT (f := k) (i_readKey_L0_cl c1.1 0 0 ?_ ?_ ?_) (fun a4 => rfl)
      (fun p : Empty => nomatch p)))))
  all_goals ((try simp only [Nat.ble_eq, Bool.and_eq_true, decide_eq_true_eq, i_readKey_L0_mx0]); grind [maxSl, maxStr, toBytes_length, toInts_length, List.length_set, wrap64, i_Unhex_len])
theorem i_readKey_c (x0 : Bytes) (hp : x0.length ≤ 4294967296) : Con Tryd.prog 55 (pvs [.sc .str] (x0, ())) [rv (.sc (.int .u64)) [] (i_readKey x0).1, rv (.sc .bool) [] (i_readKey x0).2] := by
  refine Con.of_facts (enters_of Tryd.func55 rfl (by kernel_rfl)) fun hf => ?_
  replace hf := factAt hf
  refine evalFn_conL teFact mixFact (orcOf_ok _) Tryd.func55 ?_ (bs := [0]) ?_ ?_ (fun w0 mo I0 hmo => ⟨lsem_of_lorc (i_readKey_L0_ls w0 mo I0 hmo) ?_, trivial⟩) ((i_readKey_lk x0).trans (i_readKey_p x0 ((hf 0 0 rfl rfl).slen) hp _ _ _))
  all_goals (kernel_rfl)
noncomputable def i_readKey_e : Ent1 Tryd.prog := entP 55 [.sc .str] (fun x => (decide (x.1.length ≤ 4294967296))) (fun x => (i_readKey x.1)) (fun v => [rv (.sc (.int .u64)) [] v.1, rv (.sc .bool) [] v.2]) (fun x hx => i_readKey_c x.1 (of_decide_eq_true hx))


/-- laws.markMac -/
def w_markMac_N (x0 : Mac) (x1 : Int) (γ : Type) (fail : γ) (k : Int × List MacRow → γ) : γ :=
  letK (α := Int × List MacRow) (w_markMacRowS x0.rows x1) fun c1 =>
  k (c1.1, c1.2)
def w_markMac (x0 : Mac) (x1 : Int) : Int × List MacRow :=
  letK (α := Int × List MacRow) (w_markMacRowS x0.rows x1) fun c1 =>
  (c1.1, c1.2)
theorem w_markMac_lk (x0 : Mac) (x1 : Int) : evalFnM te (orcOf (P := Tryd.prog) [w_markMacRowS_e]) lorc0 [] Tryd.f58 (pvs [.wr true [.c .bool, .c (.int .u64), .c (.int .u64), .own 0], .sc (.int .i64)] ((x0.use, x0.k, x0.l, ()), x1, ())) (mos [.arr .macRow] (x0.rows, ())) =
  w_markMac_N x0 x1 _ none (fun v => some ([(false, [RC.c (.int .i64 v.1)])] ++ (mos [.arr .macRow] (v.2, ())).map encO)) := by kernel_rfl
theorem w_markMac_p (x0 : Mac) (x1 : Int)   (γ : Type) (fail : γ) (k : Int × List MacRow → γ) : w_markMac_N x0 x1 γ fail k = k (w_markMac x0 x1) := by
  unfold w_markMac_N w_markMac
  exact letT (f := k) (fun c1 hc1 => rfl)
theorem w_markMac_c (x0 : Mac) (x1 : Int)  : ConM Tryd.prog 58 (pvs [.wr true [.c .bool, .c (.int .u64), .c (.int .u64), .own 0], .sc (.int .i64)] ((x0.use, x0.k, x0.l, ()), x1, ())) (mos [.arr .macRow] (x0.rows, ())) [rv (.sc (.int .i64)) [] (w_markMac x0 x1).1] (mos [.arr .macRow] ((w_markMac x0 x1).2, ())) := by
  refine evalFn_conLM teFact mixFact (orcOf_ok _) Tryd.func58 ?_ (bs := []) ?_ ?_ ?_ rfl (fun w0 mo I0 hmo => trivial) ((w_markMac_lk x0 x1).trans (w_markMac_p x0 x1  _ _ _))
  all_goals (kernel_rfl)
noncomputable def w_markMac_e : Ent1 Tryd.prog := entM 58 [.wr true [.c .bool, .c (.int .u64), .c (.int .u64), .own 0], .sc (.int .i64)] [.arr .macRow] (fun x y => true) (fun x y => (w_markMac (⟨x.1.1, x.1.2.1, x.1.2.2.1, y.1⟩ : Mac) x.2.1)) (fun v => [rv (.sc (.int .i64)) [] v.1]) (fun x y v => (mos [.arr .macRow] (v.2, ()))) (fun x y hx => w_markMac_c (⟨x.1.1, x.1.2.1, x.1.2.2.1, y.1⟩ : Mac) x.2.1)


/-- laws.heldMac -/
def w_heldMac_N (x0 : Mac) (x1 : Int) (γ : Type) (fail : γ) (k : Int → γ) : γ :=
  letK (α := Int) (w_heldMacRowS x0.rows x1) fun c1 =>
  bif (decide (c1 < 0)) then
    k (-1)
  else
  k c1
def w_heldMac (x0 : Mac) (x1 : Int) : Int :=
  letK (α := Int) (w_heldMacRowS x0.rows x1) fun c1 =>
  bif (decide (c1 < 0)) then
    (-1)
  else
  c1
theorem w_heldMac_lk (x0 : Mac) (x1 : Int) : evalFn te (orcOf (P := Tryd.prog) [w_heldMacRowS_e]) lorc0 [] Tryd.f59 (pvs [.st .mac, .sc (.int .i64)] (x0, x1, ())) =
  w_heldMac_N x0 x1 _ none (fun v => some [(false, [RC.c (.int .i64 v)])]) := by kernel_rfl
theorem w_heldMac_p (x0 : Mac) (x1 : Int)   (γ : Type) (fail : γ) (k : Int → γ) : w_heldMac_N x0 x1 γ fail k = k (w_heldMac x0 x1) := by
  unfold w_heldMac_N w_heldMac
  exact letT (f := k) (fun c1 hc1 => bifT (f := k) (fun b0 => rfl)
      (fun b0 => rfl))
theorem w_heldMac_c (x0 : Mac) (x1 : Int)  : Con Tryd.prog 59 (pvs [.st .mac, .sc (.int .i64)] (x0, x1, ())) [rv (.sc (.int .i64)) [] (w_heldMac x0 x1)] := by
  exact evalFn_con0 teFact mixFact (orcOf_ok _) Tryd.func59 (by kernel_rfl) ((w_heldMac_lk x0 x1).trans (w_heldMac_p x0 x1  _ _ _))
noncomputable def w_heldMac_e : Ent1 Tryd.prog := entA 59 [.st .mac, .sc (.int .i64)] (fun x => (w_heldMac x.1 x.2.1)) (fun v => [rv (.sc (.int .i64)) [] v]) (fun x => w_heldMac_c x.1 x.2.1)


end Go.Proofs.YtcjbalpokdgicaaDoor
