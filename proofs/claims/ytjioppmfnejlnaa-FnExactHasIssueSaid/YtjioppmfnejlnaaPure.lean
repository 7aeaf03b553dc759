/-
  Plain laws of the loops and of the numbers. Nothing of the dump is named here.
-/
import Derived.Test.YtjioppmfnejlnaaEnt
import Derived.Laws.BitsLemmas
namespace Go.Proofs.Ytjioppmfnejlnaa
open Go

section
variable {T A W : Type}

/-- a loop over a list, by the list's own shape -/
def listN (F : Nat → T → A → Stp A W) : Nat → List T → A → Stp A W
  | _, [], a => .next a
  | j, x :: r, a => Stp.elim (fun a' => listN F (j + 1) r a') (fun w => .out w) (F j x a)

theorem forN_list_at {f : Int → A → Stp A W} {F : Nat → T → A → Stp A W} {xs : List T} (hf : ∀ (j : Nat) x a, xs[j]? = some x → f j a = F j x a) : ∀ (r : List T) (j : Nat) (a : A), (∀ i, r[i]? = xs[j + i]?) → forN f 1 r.length (j : Int) a = listN F j r a
  | [], _, _, _ => rfl
  | x :: r, j, a, h => by
    have hx : xs[j]? = some x := by have := h 0; simpa using this.symm
    simp only [List.length_cons, forN, listN, hf j x a hx]
    cases F j x a with
    | out w => rfl
    | next a' =>
      simp only [Stp.elim]
      have := forN_list_at hf r (j + 1) a' (fun i => by have := h (i + 1); simp only [List.getElem?_cons_succ] at this; rw [this]; congr 1; omega)
      rw [← this]
      congr 1

theorem forN_list {f : Int → A → Stp A W} {F : Nat → T → A → Stp A W} (xs : List T) (a : A) {k : Nat} (hk : k = xs.length) (hf : ∀ (j : Nat) x a, xs[j]? = some x → f j a = F j x a) : forN f 1 k 0 a = listN F 0 xs a := by
  subst hk
  exact forN_list_at hf xs 0 a (fun i => by rw [Nat.zero_add])

/-- the same out of one list or another -/
theorem forN_congr {f g : Int → A → Stp A W} {st : Int} (h : ∀ i a, f i a = g i a) : ∀ k i a, forN f st k i a = forN g st k i a := by
  have : f = g := by funext i a; exact h i a
  intro k i a; rw [this]

/-- a list is written, element by element -/
theorem listN_fill {T' : Type} (g : T → T') : ∀ (r : List T) (j : Nat) (a : List T'), a.length = j + r.length → listN (W := W) (fun j x (a : List T') => .next (a.set j (g x))) j r a = .next (a.take j ++ r.map g)
  | [], j, a, h => by simp only [listN, List.map_nil, List.append_nil]; rw [List.take_of_length_le (by simpa using Nat.le_of_eq h)]
  | x :: r, j, a, h => by
    simp only [listN, Stp.elim]
    rw [listN_fill g r (j + 1) _ (by simp only [List.length_set, List.length_cons] at h ⊢; omega)]
    congr 1
    have hj : j < a.length := by rw [h]; simp
    rw [List.take_succ_eq_append_getElem (by simpa using hj)]
    simp [List.take_set_of_le]

/-- a look for the first that is met -/
theorem listN_find {p : T → Bool} {w : Nat → T → W} : ∀ (r : List T) (j : Nat), listN (A := Unit) (fun j x _ => bif p x then .out (w j x) else .next ()) j r () = match r.findIdx? p with
    | some i => (match r[i]? with | some x => .out (w (j + i) x) | none => .next ())
    | none => .next ()
  | [], _ => rfl
  | x :: r, j => by
    simp only [listN, List.findIdx?_cons]
    cases hp : p x with
    | true => simp [Stp.elim]
    | false =>
      simp only [cond_false, Stp.elim, listN_find r (j + 1), Bool.false_eq_true, if_false]
      cases r.findIdx? p with
      | none => rfl
      | some i =>
        simp only [Option.map_some, List.getElem?_cons_succ]
        cases r[i]? with
        | none => rfl
        | some y => simp only []; congr 2; omega

theorem listN_all {p : T → Bool} {w : Nat → T → W} (r : List T) (j : Nat) (h : ∀ x ∈ r, p x = false) : listN (A := Unit) (fun j x _ => bif p x then .out (w j x) else .next ()) j r () = .next () := by
  rw [listN_find]
  rw [List.findIdx?_eq_none_iff.2 (by simpa using h)]
end

theorem toNat_sub0 (n : Nat) : Int.toNat ((n : Int) - 0) = n := by simp
theorem getD_some {T : Type} {xs : List T} {j : Nat} {x d : T} (h : xs[j]? = some x) : xs.getD j d = x := by simp [List.getD, h]
theorem toNat_cast (n : Nat) : ((n : Int)).toNat = n := by simp

/-! ### numbers -/
theorem wrap64_def (m : Int) : IntKind.i64.wrap m = (m + 9223372036854775808) % 18446744073709551616 - 9223372036854775808 := by
  unfold IntKind.wrap
  simp only [IntKind.signed, IntKind.bits]
  simp
  omega

theorem wrapU_def (m : Int) : IntKind.u64.wrap m = m % 18446744073709551616 := by
  unfold IntKind.wrap
  simp [IntKind.signed, IntKind.bits]

theorem wrap8_def (m : Int) : IntKind.u8.wrap m = m % 256 := by
  unfold IntKind.wrap
  simp [IntKind.signed, IntKind.bits]

theorem i64_mask32 (n : Int) : bits .and .i64 n 4294967295 = n % 4294967296 := by
  have h : (BitVec.ofInt 64 4294967295).toNat = 2 ^ 32 - 1 := by decide
  have key : (BitVec.ofInt 64 n &&& BitVec.ofInt 64 4294967295).toNat = (n % ((2 ^ 64 : Nat) : Int)).toNat % 2 ^ 32 := by
    rw [BitVec.toNat_and, BitVec.toNat_ofInt, h, Nat.and_two_pow_sub_one_eq_mod]
  show IntKind.i64.wrap ((BitVec.ofInt 64 n &&& BitVec.ofInt 64 4294967295).toNat : Nat) = n % 4294967296
  rw [key, wrap64_def]
  omega

theorem inK64 {m : Int} (h : inK .i64 m) : -9223372036854775808 ≤ m ∧ m ≤ 9223372036854775807 := by
  obtain ⟨h1, h2⟩ := h
  exact ⟨by simpa [IntKind.min, IntKind.signed, IntKind.bits] using h1, by rw [IntKind.max_i64] at h2; omega⟩

theorem tmod_pos {a : Int} (b : Int) : (0 ≤ a → a.tmod b = a % b) ∧ (a < 0 → a.tmod b = -((-a) % b)) := by
  refine ⟨fun h => Int.tmod_eq_emod_of_nonneg h, fun h => ?_⟩
  rw [← Int.tmod_eq_emod_of_nonneg (by omega : 0 ≤ -a), Int.neg_tmod, Int.neg_neg]

theorem tdiv_pos {a : Int} (b : Int) : (0 ≤ a → a.tdiv b = a / b) ∧ (a < 0 → a.tdiv b = -((-a) / b)) := by
  refine ⟨fun h => Int.tdiv_eq_ediv_of_nonneg h, fun h => ?_⟩
  rw [← Int.tdiv_eq_ediv_of_nonneg (by omega : 0 ≤ -a), Int.neg_tdiv, Int.neg_neg]
end Go.Proofs.Ytjioppmfnejlnaa
