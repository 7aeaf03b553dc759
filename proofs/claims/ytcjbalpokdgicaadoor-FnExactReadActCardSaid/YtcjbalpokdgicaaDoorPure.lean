/-
  Plain laws of the loops and of the numbers. Nothing of the dump is named here.
-/
import Derived.Test.YtcjbalpokdgicaaDoorEnt
import Derived.Laws.BitsLemmas
namespace Go.Proofs.YtcjbalpokdgicaaDoor
open Go

section
variable {T A W : Type}

/-- a loop over a list, by the list's own shape -/
def listN (F : Nat → T → A → Stp A W) : Nat → List T → A → Stp A W
  | _, [], a => .next a
  | j, x :: r, a => Stp.elim (fun a' => listN F (j + 1) r a') (fun w => .out w) (F j x a)

theorem forN_list_at {f : Int → A → Stp A W} {F : Nat → T → A → Stp A W} {xs : List T} (hf : ∀ (j : Nat) x a, xs[j]? = some x → f j a = F j x a) : ∀ (r : List T) (j : Nat) (a : A), (∀ i, r[i]? = xs[j + i]?) → forN f 1 r.length (j : Int) a = listN F j r a
  | [], _, _, _ => rfl
  | x :: r, j, a, h => by
    have hx : xs[j]? = some x := by have := h 0; simpa using this.symm
    simp only [List.length_cons, forN, listN, hf j x a hx]
    cases F j x a with
    | out w => rfl
    | next a' =>
      simp only [Stp.elim]
      have := forN_list_at hf r (j + 1) a' (fun i => by have := h (i + 1); simp only [List.getElem?_cons_succ] at this; rw [this]; congr 1; omega)
      rw [← this]
      congr 1

theorem forN_list {f : Int → A → Stp A W} {F : Nat → T → A → Stp A W} (xs : List T) (a : A) {k : Nat} (hk : k = xs.length) (hf : ∀ (j : Nat) x a, xs[j]? = some x → f j a = F j x a) : forN f 1 k 0 a = listN F 0 xs a := by
  subst hk
  exact forN_list_at hf xs 0 a (fun i => by rw [Nat.zero_add])

/-- the same out of one list or another -/
theorem forN_congr {f g : Int → A → Stp A W} {st : Int} (h : ∀ i a, f i a = g i a) : ∀ k i a, forN f st k i a = forN g st k i a := by
  have : f = g := by funext i a; exact h i a
  intro k i a; rw [this]

/-- a list is written, element by element -/
theorem listN_fill {T' : Type} (g : T → T') : ∀ (r : List T) (j : Nat) (a : List T'), a.length = j + r.length → listN (W := W) (fun j x (a : List T') => .next (a.set j (g x))) j r a = .next (a.take j ++ r.map g)
  | [], j, a, h => by simp only [listN, List.map_nil, List.append_nil]; rw [List.take_of_length_le (by simpa using Nat.le_of_eq h)]
  | x :: r, j, a, h => by
    simp only [listN, Stp.elim]
    rw [listN_fill g r (j + 1) _ (by simp only [List.length_set, List.length_cons] at h ⊢; omega)]
    congr 1
    have hj : j < a.length := by rw [h]; simp
    rw [List.take_succ_eq_append_getElem (by simpa using hj)]
    simp [List.take_set_of_le]

/-- a look for the first that is met -/
theorem listN_find {p : T → Bool} {w : Nat → T → W} : ∀ (r : List T) (j : Nat), listN (A := Unit) (fun j x _ => bif p x then .out (w j x) else .next ()) j r () = match r.findIdx? p with
    | some i => (match r[i]? with | some x => .out (w (j + i) x) | none => .next ())
    | none => .next ()
  | [], _ => rfl
  | x :: r, j => by
    simp only [listN, List.findIdx?_cons]
    cases hp : p x with
    | true => simp [Stp.elim]
    | false =>
      simp only [cond_false, Stp.elim, listN_find r (j + 1), Bool.false_eq_true, if_false]
      cases r.findIdx? p with
      | none => rfl
      | some i =>
        simp only [Option.map_some, List.getElem?_cons_succ]
        cases r[i]? with
        | none => rfl
        | some y => simp only []; congr 2; omega

theorem listN_all {p : T → Bool} {w : Nat → T → W} (r : List T) (j : Nat) (h : ∀ x ∈ r, p x = false) : listN (A := Unit) (fun j x _ => bif p x then .out (w j x) else .next ()) j r () = .next () := by
  rw [listN_find]
  rw [List.findIdx?_eq_none_iff.2 (by simpa using h)]
end

theorem toBytes_length (xs : List Int) : (toBytes xs).length = xs.length := by simp [toBytes]
theorem toInts_length (s : Bytes) : (toInts s).length = s.length := by simp [toInts]

theorem loopW {α β W W' : Type} {f : α → β} {o : Option W} {fail : β} {K : W → β} {emb : W' → W} {q : W'} {n2 : W' → α} (hc : o = some (emb q)) (h2 : ∀ p, p = q → K (emb p) = f (n2 p)) : optK o fail K = f (letK q n2) := by
  rw [hc]; exact h2 q rfl

/-! ### loops that run until they end -/
def whileN {A W : Type} [Inhabited W] (f : A → Stp A W) : Nat → A → W
  | 0, _ => default
  | n + 1, a => Stp.elim (whileN f n) (fun w => w) (f a)

theorem while_loop {V W W' A : Type} [Inhabited W'] {step : V → Option (V ⊕ W)} {mk : A → V} {f : A → Stp A W'} {emb : W' → W} {Inv : A → Prop} {meas : A → Nat}
    (h : ∀ a, Inv a → step (mk a) = Stp.elim (fun a' => some (.inl (mk a'))) (fun w => some (.inr (emb w))) (f a) ∧ ∀ a', f a = .next a' → Inv a' ∧ meas a' < meas a) :
    ∀ (m : Nat) (a : A), meas a < m → Inv a → loopF step m (mk a) = some (emb (whileN f m a))
  | 0, a, hm, _ => absurd hm (Nat.not_lt_zero _)
  | m + 1, a, hm, hi => by
    obtain ⟨h1, h2⟩ := h a hi
    simp only [loopF, h1, whileN]
    cases hf : f a with
    | out w => rfl
    | next a' =>
      obtain ⟨h3, h4⟩ := h2 a' hf
      simp only [Stp.elim, optK, Sum.elim_inl]
      exact while_loop h m a' (by omega) h3

/-- more rounds than are needed change nothing -/
theorem whileN_more {A W : Type} [Inhabited W] {f : A → Stp A W} {Inv : A → Prop} {meas : A → Nat} (h : ∀ a, Inv a → ∀ a', f a = .next a' → Inv a' ∧ meas a' < meas a) : ∀ (m m' : Nat) (a : A), meas a < m → meas a < m' → Inv a → whileN f m a = whileN f m' a
  | 0, _, _, hm, _, _ => absurd hm (Nat.not_lt_zero _)
  | _ + 1, 0, _, _, hm, _ => absurd hm (Nat.not_lt_zero _)
  | m + 1, m' + 1, a, h1, h2, hi => by
    simp only [whileN]
    cases hf : f a with
    | out w => rfl
    | next a' =>
      obtain ⟨h3, h4⟩ := h a hi a' hf
      simp only [Stp.elim]
      exact whileN_more h m m' a' (by omega) (by omega) h3

theorem whileN_post {A W : Type} [Inhabited W] {f : A → Stp A W} {Inv : A → Prop} {Q : W → Prop} {meas : A → Nat} (h : ∀ a, Inv a → ∀ a', f a = .next a' → Inv a' ∧ meas a' < meas a) (hq : ∀ a, Inv a → ∀ w, f a = .out w → Q w) : ∀ (m : Nat) (a : A), meas a < m → Inv a → Q (whileN f m a)
  | 0, _, hm, _ => absurd hm (Nat.not_lt_zero _)
  | m + 1, a, hm, hi => by
    simp only [whileN]
    cases hf : f a with
    | out w => exact hq a hi w hf
    | next a' =>
      obtain ⟨h3, h4⟩ := h a hi a' hf
      exact whileN_post h hq m a' (by omega) h3

theorem byteAt_rng (s : Bytes) (i : Nat) : 0 ≤ byteAt s i ∧ byteAt s i ≤ 255 := by
  unfold byteAt
  have := (s.getD i 0).toNat_lt
  omega

theorem inKU64 {n : Int} (h : inK .u64 n) : 0 ≤ n ∧ n ≤ 18446744073709551615 := ⟨h.1, h.2⟩
theorem andMask_nonneg (x : Int) {m : Int} : 0 ≤ bits .and .u64 x m := (inK_bits .and .u64 _ _ (.inl rfl)).1

theorem getD_all {T : Type} {p : T → Prop} {xs : List T} {d : T} (hd : p d) (h : ∀ y ∈ xs, p y) (k : Nat) : p (xs.getD k d) := by
  rw [List.getD]
  cases hk : xs[k]? with
  | none => exact hd
  | some y => exact h y (List.mem_of_getElem? hk)

theorem getD_len {xs : List Bytes} {n : Nat} (h : ∀ y ∈ xs, List.length y ≤ n) (k : Nat) : (xs.getD k []).length ≤ n := getD_all (p := fun y => List.length y ≤ n) (Nat.zero_le _) h k
theorem letK_eq {α γ : Type} (e : α) (k : α → γ) : letK e k = k e := (rfl)
theorem toNat_sub0 (n : Nat) : Int.toNat ((n : Int) - 0) = n := by simp
theorem getD_some {T : Type} {xs : List T} {j : Nat} {x d : T} (h : xs[j]? = some x) : xs.getD j d = x := by simp [List.getD, h]
theorem toNat_cast (n : Nat) : ((n : Int)).toNat = n := by simp

/-! ### numbers -/
theorem wrap64_def (m : Int) : IntKind.i64.wrap m = (m + 9223372036854775808) % 18446744073709551616 - 9223372036854775808 := by
  unfold IntKind.wrap
  simp only [IntKind.signed, IntKind.bits]
  simp
  omega

theorem wrapU_def (m : Int) : IntKind.u64.wrap m = m % 18446744073709551616 := by
  unfold IntKind.wrap
  simp [IntKind.signed, IntKind.bits]

theorem wrap8_def (m : Int) : IntKind.u8.wrap m = m % 256 := by
  unfold IntKind.wrap
  simp [IntKind.signed, IntKind.bits]

theorem i64_mask32 (n : Int) : bits .and .i64 n 4294967295 = n % 4294967296 := by
  have h : (BitVec.ofInt 64 4294967295).toNat = 2 ^ 32 - 1 := by decide
  have key : (BitVec.ofInt 64 n &&& BitVec.ofInt 64 4294967295).toNat = (n % ((2 ^ 64 : Nat) : Int)).toNat % 2 ^ 32 := by
    rw [BitVec.toNat_and, BitVec.toNat_ofInt, h, Nat.and_two_pow_sub_one_eq_mod]
  show IntKind.i64.wrap ((BitVec.ofInt 64 n &&& BitVec.ofInt 64 4294967295).toNat : Nat) = n % 4294967296
  rw [key, wrap64_def]
  omega

theorem i64_mask8 (n : Int) : bits .and .i64 n 255 = n % 256 := by
  have h : (BitVec.ofInt 64 255).toNat = 2 ^ 8 - 1 := by decide
  have key : (BitVec.ofInt 64 n &&& BitVec.ofInt 64 255).toNat = (n % ((2 ^ 64 : Nat) : Int)).toNat % 2 ^ 8 := by
    rw [BitVec.toNat_and, BitVec.toNat_ofInt, h, Nat.and_two_pow_sub_one_eq_mod]
  show IntKind.i64.wrap ((BitVec.ofInt 64 n &&& BitVec.ofInt 64 255).toNat : Nat) = n % 256
  rw [key, wrap64_def]
  omega
theorem and255 (n : Int) : 0 ≤ bits .and .i64 n 255 ∧ bits .and .i64 n 255 ≤ 255 := by
  rw [i64_mask8]; omega
theorem tmod_nn {a b : Int} (h : 0 ≤ a) : 0 ≤ a.tmod b := Int.tmod_nonneg b h
theorem tmod_lt {a b : Int} (h : 0 < b) : a.tmod b < b := Int.tmod_lt_of_pos a h

theorem inK64 {m : Int} (h : inK .i64 m) : -9223372036854775808 ≤ m ∧ m ≤ 9223372036854775807 := by
  obtain ⟨h1, h2⟩ := h
  exact ⟨by simpa [IntKind.min, IntKind.signed, IntKind.bits] using h1, by rw [IntKind.max_i64] at h2; omega⟩

theorem tmod_pos {a : Int} (b : Int) : (0 ≤ a → a.tmod b = a % b) ∧ (a < 0 → a.tmod b = -((-a) % b)) := by
  refine ⟨fun h => Int.tmod_eq_emod_of_nonneg h, fun h => ?_⟩
  rw [← Int.tmod_eq_emod_of_nonneg (by omega : 0 ≤ -a), Int.neg_tmod, Int.neg_neg]

theorem tdiv_pos {a : Int} (b : Int) : (0 ≤ a → a.tdiv b = a / b) ∧ (a < 0 → a.tdiv b = -((-a) / b)) := by
  refine ⟨fun h => Int.tdiv_eq_ediv_of_nonneg h, fun h => ?_⟩
  rw [← Int.tdiv_eq_ediv_of_nonneg (by omega : 0 ≤ -a), Int.neg_tdiv, Int.neg_neg]
end Go.Proofs.YtcjbalpokdgicaaDoor
