/-
  Contracts as an oracle; what is known of arguments.
-/
import Derived.Test.YtjioppmfnejlnaaRow2
import Derived.Test.YtjioppmfnejlnaaLoop
namespace Go.Proofs.Ytjioppmfnejlnaa
open Go Go.RowKit

/-- the contracts of one function -/
structure Ent1 (P : Program) where
  f : Nat
  g : List PV → (Res → Option Res) → Option Res
  ok : ∀ A k z, g A k = some z → ∃ R, Con P f A R ∧ k R = some z

def orcOf {P : Program} : List (Ent1 P) → Orc
  | [], _, _, _ => none
  | e :: r, f, A, k => match Nat.beq e.f f with
    | true => e.g A k
    | false => orcOf r f A k

theorem orcOf_ok {P : Program} : ∀ (L : List (Ent1 P)), OrcOk (Con P) (orcOf L)
  | [], _, _, _, _, h => by cases h
  | e :: r, f, A, k, z, h => by
    simp only [orcOf] at h
    cases hb : Nat.beq e.f f with
    | true =>
      rw [hb] at h
      obtain ⟨R, h1, h2⟩ := e.ok A k z h
      rw [Nat.eq_of_beq_eq_true hb] at h1
      exact ⟨R, h1, h2⟩
    | false => rw [hb] at h; exact orcOf_ok r f A k z h

def FactPV : PV → Prop
  | .val _ cs => ∀ c ∈ cs, FactC c
  | .fn _ _ => True

theorem RepPV.fact {J : Nat → Prop} {w : World} {A : PV} {v : Value} (h : RepPV J w A v) : FactPV A := by
  cases A with
  | fn f caps => trivial
  | val ag cs =>
    intro c hc
    obtain ⟨i, hi⟩ := List.getElem?_of_mem hc
    cases ag with
    | true =>
      obtain ⟨us, rfl, hu⟩ := h
      obtain ⟨u, _, hr⟩ := hu.at hi
      exact hr.fact
    | false =>
      obtain ⟨c', rfl, hr⟩ := h
      rw [List.mem_singleton] at hc
      subst hc
      exact hr.fact

/-- what is known of the arguments may be used -/
theorem Con.of_facts {P : Program} {f : Nat} {A : List PV} {R : Res} (he : ∀ args w, (callFunc f args).run P w = .ok (.enter f args) w) (h : (∀ a ∈ A, FactPV a) → Con P f A R) : Con P f A R := by
  refine ⟨he, fun w J vs hJ hA => ?_⟩
  refine (h fun a ha => ?_).2 w J vs hJ hA
  obtain ⟨i, hi⟩ := List.getElem?_of_mem ha
  obtain ⟨v, _, hr⟩ := hA.at hi
  exact hr.fact

/-! ### arguments by their types -/
inductive Pk where
  | sc (f : Fl) | st (t : Ty) | fn (f : Nat) (caps : List (Bool × List Fl))

@[reducible] def Pk.T : Pk → Type
  | .sc f => f.T
  | .st t => t.T
  | .fn _ caps => CapT caps

def Pk.pv : (k : Pk) → k.T → PV
  | .sc f, x => .val false [f.cell x]
  | .st t, x => .val true (t.cells x)
  | .fn f caps, x => .fn f (encCaps caps x)

def Pk.get : (k : Pk) → PV → Option k.T
  | .sc f, .val false [c] => f.get c
  | .st t, .val true cs => t.get cs
  | .fn f caps, .fn f' ds => match Nat.beq f f' with | true => decCaps caps ds | false => none
  | _, _ => none

theorem Pk.get_pv {k : Pk} {a : PV} {x : k.T} (h : k.get a = some x) : a = k.pv x := by
  unfold Pk.get at h
  split at h
  · rename_i f c; simp only [Pk.pv, Fl.get_cell h]
  · rename_i t cs; simp only [Pk.pv, Ty.get_cells h]
  · split at h
    · rename_i e
      cases Nat.eq_of_beq_eq_true e
      simp only [Pk.pv, decCaps_enc h]
    · cases h
  · cases h

/-- arguments in a row -/
@[reducible] def HP : List Pk → Type
  | [] => Unit
  | k :: r => k.T × HP r

def pvs : (ks : List Pk) → HP ks → List PV
  | [], _ => []
  | k :: r, x => k.pv x.1 :: pvs r x.2

def gets : (ks : List Pk) → List PV → Option (HP ks)
  | [], [] => some ()
  | k :: r, a :: s => match k.get a, gets r s with
    | some x, some y => some (x, y)
    | _, _ => none
  | _, _ => none

theorem gets_pvs : ∀ {ks : List Pk} {A : List PV} {x : HP ks}, gets ks A = some x → A = pvs ks x
  | [], [], _, _ => rfl
  | k :: r, a :: s, x, h => by
    simp only [gets] at h
    split at h
    · rename_i y z hy hz
      cases h
      simp only [pvs, ← Pk.get_pv hy, ← gets_pvs hz]
    · cases h
  | [], _ :: _, _, h => by cases h
  | _ :: _, [], _, h => by cases h

/-- contracts of a function for arguments of its types, if 'pre' holds of them -/
def entP {P : Program} (f : Nat) (ks : List Pk) (pre : HP ks → Bool) (R : HP ks → Res) (h : ∀ x, pre x = true → Con P f (pvs ks x) (R x)) : Ent1 P where
  f := f
  g A k := optK (gets ks A) none fun x => bif pre x then k (R x) else none
  ok A k z hg := by
    obtain ⟨x, hx, hg⟩ := optK_some hg
    cases hp : pre x with
    | true =>
      rw [hp] at hg
      exact ⟨R x, by rw [gets_pvs hx]; exact h x hp, hg⟩
    | false => rw [hp] at hg; cases hg

def entA {P : Program} (f : Nat) (ks : List Pk) (R : HP ks → Res) (h : ∀ x, Con P f (pvs ks x) (R x)) : Ent1 P where
  f := f
  g A k := optK (gets ks A) none fun x => k (R x)
  ok A k z hg := by
    obtain ⟨x, hx, hg⟩ := optK_some hg
    exact ⟨R x, by rw [gets_pvs hx]; exact h x, hg⟩

/-! ### results by their types: what cells are own arrays, and whether what they hold is new -/
inductive Ow where
  | c | o (deep : Bool)

def rcOf : Ow → Cell → RC
  | .o d, .sl t xs => .own d t xs
  | _, x => .c x

def rcs : List Ow → List Cell → List RC
  | [], cs => cs.map .c
  | _ :: _, [] => []
  | o :: r, x :: cs => rcOf o x :: rcs r cs

/-- a result of a type -/
def rv (k : Pk) (ow : List Ow) (x : k.T) : Bool × List RC :=
  match k.pv x with
  | .val ag cs => (ag, rcs ow cs)
  | .fn _ _ => (false, [])

/-! ### what is known of arguments -/
theorem FactC.len {t : Ty} {xs : List t.T} (h : FactC (.sl t xs)) : xs.length ≤ 140737488355328 := by cases h with | sl _ _ h _ => exact h
theorem FactC.slen {s : Bytes} (h : FactC (.str s)) : s.length ≤ 4611686018427387904 := by cases h with | str _ h => exact h
theorem FactC.rng {k : IntKind} {n : Int} (h : FactC (.int k n)) : inK k n := by cases h with | int _ _ h => exact h
theorem FactC.elem {t : Ty} {xs : List t.T} (h : FactC (.sl t xs)) {x : t.T} (hx : x ∈ xs) : ∀ c ∈ t.cells x, FactC c := by cases h with | sl _ _ _ hc => exact hc x hx

theorem factAt {A : List PV} (h : ∀ a ∈ A, FactPV a) (i j : Nat) {ag : Bool} {cs : List Cell} {c : Cell} (h1 : A[i]? = some (.val ag cs)) (h2 : cs[j]? = some c) : FactC c :=
  h _ (List.mem_of_getElem? h1) c (List.mem_of_getElem? h2)

theorem wrap64 {m : Int} (h0 : -9223372036854775808 ≤ m) (h1 : m ≤ 9223372036854775807) : IntKind.i64.wrap m = m := by
  unfold IntKind.wrap
  simp only [IntKind.signed, IntKind.bits]
  simp
  omega

theorem wrapU_nonneg (m : Int) : 0 ≤ IntKind.u64.wrap m := (inK_wrap .u64 m).1

def toInts (s : Bytes) : List Int := s.map fun c => (c.toNat : Int)
def toBytes (xs : List Int) : Bytes := List.map (fun n : Int => UInt8.ofNat n.toNat) xs
def byteAt (s : Bytes) (i : Nat) : Int := ((s.getD i 0).toNat : Int)

/-! ### trees -/
theorem bifT {α β : Type} {f : α → β} {c : Bool} {X Y : β} {a b : α} (h1 : c = true → X = f a) (h2 : c = false → Y = f b) : (bif c then X else Y) = f (bif c then a else b) := by
  cases c with
  | true => exact h1 rfl
  | false => exact h2 rfl
theorem bifG {β : Type} {c : Bool} {X Y Z : β} (h : c = true) (h1 : X = Z) : (bif c then X else Y) = Z := by subst h; exact h1
theorem bifN {β : Type} {c : Bool} {X Y Z : β} (h : c = false) (h1 : Y = Z) : (bif c then X else Y) = Z := by subst h; exact h1

/-- an argument of a row, by its type -/
theorem arg_sc {te : TE} {t : TypeId} {f : Fl} (hl : look te t = some (.sc f)) {A : PV} (h : ArgOk te t A) : ∃ x : f.T, A = (Pk.sc f).pv x := by
  obtain ⟨ti, xs, hl', rfl, hx, _⟩ := h
  rw [hl] at hl'; cases hl'
  match xs, hx with
  | [c], hx => obtain ⟨x, rfl⟩ := hx.1; exact ⟨x, rfl⟩
  | [], hx => exact hx.elim
  | _ :: _ :: _, hx => exact hx.2.elim

theorem arg_sl {te : TE} {t : TypeId} {ty : Ty} {b : Nat} (hl : look te t = some (.sl ty b)) {A : PV} (h : ArgOk te t A) : ∃ x : List ty.T, A = (Pk.sc (.sl ty)).pv x := by
  obtain ⟨ti, xs, hl', rfl, hx, _⟩ := h
  rw [hl] at hl'; cases hl'
  match xs, hx with
  | [c], hx => obtain ⟨x, rfl⟩ := hx.1; exact ⟨x, rfl⟩
  | [], hx => exact hx.elim
  | _ :: _ :: _, hx => exact hx.2.elim

theorem arg_st {te : TE} {t : TypeId} {ty : Ty} {fs : List (Nat × Nat)} (hl : look te t = some (.st ty fs)) {A : PV} (h : ArgOk te t A) : ∃ x : ty.T, A = (Pk.st ty).pv x := by
  obtain ⟨ti, xs, hl', rfl, hx, _⟩ := h
  rw [hl] at hl'; cases hl'
  obtain ⟨x, rfl⟩ := ty_of_flc hx
  exact ⟨x, rfl⟩
end Go.Proofs.Ytjioppmfnejlnaa
