/-
  Contracts as an oracle; what is known of arguments.
-/
import Derived.Test.YtjioppmfnejlnaaRow2
namespace Go.Proofs.Ytjioppmfnejlnaa
open Go Go.RowKit

/-- the contracts of one function -/
structure Ent1 (P : Program) where
  f : Nat
  g : List PV → Option Res
  ok : ∀ A R, g A = some R → Con P f A R

def findE {P : Program} : List (Ent1 P) → Nat → Option (List PV → Option Res)
  | [], _ => none
  | e :: r, f => match Nat.beq e.f f with
    | true => some e.g
    | false => findE r f

def orcOf {P : Program} (L : List (Ent1 P)) : Orc := fun f A k => match findE L f with
  | some g => match g A with
    | some R => k R
    | none => none
  | none => none

theorem orcOf_ok {P : Program} (L : List (Ent1 P)) : OrcOk (Con P) (orcOf L) := by
  intro f A k z h
  unfold orcOf at h
  split at h
  · rename_i g hg
    split at h
    · rename_i R hR
      refine ⟨R, ?_, h⟩
      clear h
      induction L with
      | nil => cases hg
      | cons e r ih =>
        simp only [findE] at hg
        cases hb : Nat.beq e.f f with
        | true =>
          rw [hb] at hg
          cases hg
          have := e.ok A R hR
          rwa [Nat.eq_of_beq_eq_true hb] at this
        | false => rw [hb] at hg; exact ih hg
    · cases h
  · cases h

def FactPV : PV → Prop
  | .val _ cs => ∀ c ∈ cs, FactC c
  | .fn _ _ => True

theorem RepPV.fact {J : Nat → Prop} {w : World} {A : PV} {v : Value} (h : RepPV J w A v) : FactPV A := by
  cases A with
  | fn f caps => trivial
  | val ag cs =>
    intro c hc
    obtain ⟨i, hi⟩ := List.getElem?_of_mem hc
    cases ag with
    | true =>
      obtain ⟨us, rfl, hu⟩ := h
      obtain ⟨u, _, hr⟩ := hu.at hi
      exact hr.fact
    | false =>
      obtain ⟨c', rfl, hr⟩ := h
      rw [List.mem_singleton] at hc
      subst hc
      exact hr.fact

/-- what is known of the arguments may be used -/
theorem Con.of_facts {P : Program} {f : Nat} {A : List PV} {R : Res} (he : ∀ args w, (callFunc f args).run P w = .ok (.enter f args) w) (h : (∀ a ∈ A, FactPV a) → Con P f A R) : Con P f A R := by
  refine ⟨he, fun w J vs hJ hA => ?_⟩
  refine (h fun a ha => ?_).2 w J vs hJ hA
  obtain ⟨i, hi⟩ := List.getElem?_of_mem ha
  obtain ⟨v, _, hr⟩ := hA.at hi
  exact hr.fact

/-! ### arguments by their types -/
inductive Pk where
  | sc (f : Fl) | st (t : Ty)

@[reducible] def Pk.T : Pk → Type
  | .sc f => f.T
  | .st t => t.T

def Pk.pv : (k : Pk) → k.T → PV
  | .sc f, x => .val false [f.cell x]
  | .st t, x => .val true (t.cells x)

def Pk.get : (k : Pk) → PV → Option k.T
  | .sc f, .val false [c] => f.get c
  | .st t, .val true cs => t.get cs
  | _, _ => none

theorem Pk.get_pv {k : Pk} {a : PV} {x : k.T} (h : k.get a = some x) : a = k.pv x := by
  unfold Pk.get at h
  split at h
  · rename_i f c; simp only [Pk.pv, Fl.get_cell h]
  · rename_i t cs; simp only [Pk.pv, Ty.get_cells h]
  · cases h

/-- contracts of a function of one, two, three parameters -/
def ent1 {P : Program} (f : Nat) (k : Pk) (R : k.T → Res) (h : ∀ x, Con P f [k.pv x] (R x)) : Ent1 P where
  f := f
  g A := match A with
    | [a] => match k.get a with | some x => some (R x) | none => none
    | _ => none
  ok A R' hg := by
    split at hg
    · split at hg
      · rename_i x hx
        cases hg
        rw [Pk.get_pv hx]; exact h x
      · cases hg
    · cases hg

def ent2 {P : Program} (f : Nat) (k l : Pk) (R : k.T → l.T → Res) (h : ∀ x y, Con P f [k.pv x, l.pv y] (R x y)) : Ent1 P where
  f := f
  g A := match A with
    | [a, b] => match k.get a, l.get b with | some x, some y => some (R x y) | _, _ => none
    | _ => none
  ok A R' hg := by
    split at hg
    · split at hg
      · rename_i x y hx hy
        cases hg
        rw [Pk.get_pv hx, Pk.get_pv hy]; exact h x y
      · cases hg
    · cases hg

def ent3 {P : Program} (f : Nat) (k l m : Pk) (R : k.T → l.T → m.T → Res) (h : ∀ x y z, Con P f [k.pv x, l.pv y, m.pv z] (R x y z)) : Ent1 P where
  f := f
  g A := match A with
    | [a, b, c] => match k.get a, l.get b, m.get c with | some x, some y, some z => some (R x y z) | _, _, _ => none
    | _ => none
  ok A R' hg := by
    split at hg
    · split at hg
      · rename_i x y z hx hy hz
        cases hg
        rw [Pk.get_pv hx, Pk.get_pv hy, Pk.get_pv hz]; exact h x y z
      · cases hg
    · cases hg

def ent0 {P : Program} (f : Nat) (R : Res) (h : Con P f [] R) : Ent1 P where
  f := f
  g A := match A with
    | [] => some R
    | _ => none
  ok A R' hg := by
    split at hg
    · cases hg; exact h
    · cases hg

/-! ### trees -/
theorem bifT {α β : Type} {f : α → β} {c : Bool} {X Y : β} {a b : α} (h1 : c = true → X = f a) (h2 : c = false → Y = f b) : (bif c then X else Y) = f (bif c then a else b) := by
  cases c with
  | true => exact h1 rfl
  | false => exact h2 rfl
theorem bifG {β : Type} {c : Bool} {X Y Z : β} (h : c = true) (h1 : X = Z) : (bif c then X else Y) = Z := by subst h; exact h1
theorem bifN {β : Type} {c : Bool} {X Y Z : β} (h : c = false) (h1 : Y = Z) : (bif c then X else Y) = Z := by subst h; exact h1

/-- an argument of a row, by its type -/
theorem arg_sc {te : TE} {t : TypeId} {f : Fl} (hl : look te t = some (.sc f)) {A : PV} (h : ArgOk te t A) : ∃ x : f.T, A = (Pk.sc f).pv x := by
  obtain ⟨ti, xs, hl', rfl, hx, _⟩ := h
  rw [hl] at hl'; cases hl'
  match xs, hx with
  | [c], hx => obtain ⟨x, rfl⟩ := hx.1; exact ⟨x, rfl⟩
  | [], hx => exact hx.elim
  | _ :: _ :: _, hx => exact hx.2.elim

theorem arg_sl {te : TE} {t : TypeId} {ty : Ty} {b : Nat} (hl : look te t = some (.sl ty b)) {A : PV} (h : ArgOk te t A) : ∃ x : List ty.T, A = (Pk.sc (.sl ty)).pv x := by
  obtain ⟨ti, xs, hl', rfl, hx, _⟩ := h
  rw [hl] at hl'; cases hl'
  match xs, hx with
  | [c], hx => obtain ⟨x, rfl⟩ := hx.1; exact ⟨x, rfl⟩
  | [], hx => exact hx.elim
  | _ :: _ :: _, hx => exact hx.2.elim

theorem arg_st {te : TE} {t : TypeId} {ty : Ty} {fs : List (Nat × Nat)} (hl : look te t = some (.st ty fs)) {A : PV} (h : ArgOk te t A) : ∃ x : ty.T, A = (Pk.st ty).pv x := by
  obtain ⟨ti, xs, hl', rfl, hx, _⟩ := h
  rw [hl] at hl'; cases hl'
  obtain ⟨x, rfl⟩ := ty_of_flc hx
  exact ⟨x, rfl⟩
end Go.Proofs.Ytjioppmfnejlnaa
