/-
  Contracts as an oracle; what is known of arguments.
-/
import Derived.Test.YtcjbalpokdgicaaDoorRow2
import Derived.Test.YtcjbalpokdgicaaDoorLoop
namespace Go.Proofs.YtcjbalpokdgicaaDoor
open Go Go.RowKit

/-- the contracts of one function -/
structure Ent1 (P : Program) where
  f : Nat
  g : List PV → List MO → (Res → List MO → Option Res) → Option Res
  ok : ∀ A O k z, g A O k = some z → ∃ R O', ConM P f A O R O' ∧ k R O' = some z

def orcOf {P : Program} : List (Ent1 P) → Orc
  | [], _, _, _, _ => none
  | e :: r, f, A, O, k => match Nat.beq e.f f with
    | true => e.g A O k
    | false => orcOf r f A O k

theorem orcOf_ok {P : Program} : ∀ (L : List (Ent1 P)), OrcOk (ConM P) (orcOf L)
  | [], _, _, _, _, _, h => by cases h
  | e :: r, f, A, O, k, z, h => by
    simp only [orcOf] at h
    cases hb : Nat.beq e.f f with
    | true =>
      rw [hb] at h
      obtain ⟨R, O', h1, h2⟩ := e.ok A O k z h
      rw [Nat.eq_of_beq_eq_true hb] at h1
      exact ⟨R, O', h1, h2⟩
    | false => rw [hb] at h; exact orcOf_ok r f A O k z h

def FactMC : MC → Prop
  | .c x => FactC x
  | _ => True

def FactPV : PV → Prop
  | .val _ cs => ∀ c ∈ cs, FactC c
  | .fn _ _ => True
  | .wr _ cs => ∀ c ∈ cs, FactMC c
  | .nils => True
  | .slx t xs => FactC (.sl t xs)

theorem RepMC.fact {mo : Mts} {J : Nat → Prop} {w : World} {c : MC} {v : Value} (h : RepMC mo J w c v) : FactMC c := by
  cases c with
  | c x => exact RepC.fact h
  | own _ => trivial
  | ptr _ => trivial

theorem RepPVm.fact {mo : Mts} {J : Nat → Prop} {w : World} {A : PV} {v : Value} (h : RepPVm mo J w A v) : FactPV A := by
  cases A with
  | fn f caps => trivial
  | nils => trivial
  | slx t xs => exact RepC.fact h.1
  | wr ag cs =>
    intro c hc
    obtain ⟨i, hi⟩ := List.getElem?_of_mem hc
    cases ag with
    | true =>
      obtain ⟨us, rfl, hu⟩ := h
      obtain ⟨u, _, hr⟩ := hu.at hi
      exact hr.1.fact
    | false =>
      obtain ⟨c', rfl, hr⟩ := h
      rw [List.mem_singleton] at hc
      subst hc
      exact hr.fact
  | val ag cs =>
    intro c hc
    obtain ⟨i, hi⟩ := List.getElem?_of_mem hc
    cases ag with
    | true =>
      obtain ⟨us, rfl, hu⟩ := h
      obtain ⟨u, _, hr⟩ := hu.at hi
      exact hr.fact
    | false =>
      obtain ⟨c', rfl, hr⟩ := h
      rw [List.mem_singleton] at hc
      subst hc
      exact hr.fact

/-- what is known of the arguments may be used -/
theorem Con.of_facts {P : Program} {f : Nat} {A : List PV} {R : Res} (he : ∀ args w, (callFunc f args).run P w = .ok (.enter f args) w) (h : (∀ a ∈ A, FactPV a) → Con P f A R) : Con P f A R := by
  refine ⟨he, fun w J mo vs hJ h1 h2 h3 hg hgx hA => ?_⟩
  refine (h fun a ha => ?_).2 w J mo vs hJ h1 h2 h3 hg hgx hA
  obtain ⟨i, hi⟩ := List.getElem?_of_mem ha
  obtain ⟨v, _, hr⟩ := hA.at hi
  exact hr.fact

def FactMO : MO → Prop
  | .box cs => ∀ c ∈ cs, FactMC c
  | .arr t xs => FactC (.sl t xs)

theorem RepMO.fact {mo : Mts} {J : Nat → Prop} {w : World} {m : Option (Nat × Nat) × Nat} {o : MO} (h : RepMO mo J w m o) : FactMO o := by
  cases o with
  | box cs =>
    obtain ⟨b, _, _, h3, _⟩ := h
    intro c hc
    obtain ⟨i, hi⟩ := List.getElem?_of_mem hc
    obtain ⟨u, _, hu⟩ := h3 i c hi
    exact hu.fact
  | arr t xs =>
    obtain ⟨_, _, h3⟩ := h
    rcases h3 with ⟨_, h3⟩ | ⟨b, cap, _, _, _, h4, _, h6⟩
    · subst h3; exact .sl t [] (by simp) (by simp)
    · refine .sl t xs h4 fun x hx c hc => ?_
      obtain ⟨i, hi⟩ := List.getElem?_of_mem hx
      obtain ⟨j, hj⟩ := List.getElem?_of_mem hc
      obtain ⟨u, _, hu⟩ := h6 i x j c hi hj
      exact hu.fact

/-- the same, of a function that writes -/
theorem ConM.of_facts {P : Program} {f : Nat} {A : List PV} {O O' : List MO} {R : Res} (he : ∀ args w, (callFunc f args).run P w = .ok (.enter f args) w) (h : (∀ a ∈ A, FactPV a) → (∀ o ∈ O, FactMO o) → ConM P f A O R O') : ConM P f A O R O' := by
  refine ⟨he, fun w J mo vs hJ h1 h2 h3 hg hgx hA => ?_⟩
  refine (h (fun a ha => ?_) fun o ho => ?_).2 w J mo vs hJ h1 h2 h3 hg hgx hA
  · obtain ⟨i, hi⟩ := List.getElem?_of_mem ha
    obtain ⟨v, _, hr⟩ := hA.at hi
    exact hr.fact
  · obtain ⟨i, hi⟩ := List.getElem?_of_mem ho
    obtain ⟨v, _, hr⟩ := All2.atR h1 hi
    exact hr.fact

/-- a slice that is handed in is nil, or it is not -/
theorem Con.byNil {P : Program} {f : Nat} {t : Ty} {xs : List t.T} {R : Res} (h1 : xs = [] → Con P f [.nils] R) (h2 : Con P f [.slx t xs] R) : Con P f [.val false [.sl t xs]] R := by
  refine ⟨h2.1, fun w J mo vs hJ hmo hinj hX hg hgx hA => ?_⟩
  obtain ⟨v, hv⟩ : ∃ v, vs.toList = [v] ∧ RepPVm mo J w (.val false [.sl t xs]) v := by
    generalize vs.toList = l at hA
    match l, hA with
    | [v], hA => exact ⟨v, rfl, hA.1⟩
  obtain ⟨hvs, c, hc, hr⟩ := hv
  cases hc
  by_cases hn : v = .slice none 0 0
  · have hx : xs = [] := by
      subst hn
      cases hr with
      | nil => rfl
    exact (h1 hx).2 w J mo vs hJ hmo hinj hX hg hgx (by rw [hvs]; exact ⟨hn, trivial⟩)
  · refine h2.2 w J mo vs hJ hmo hinj hX hg hgx ?_
    rw [hvs]
    refine ⟨⟨hr, ?_⟩, trivial⟩
    clear hvs
    cases hr with
    | nil => exact absurd rfl hn
    | emp _ a cap => exact ⟨a, 0, cap, rfl⟩
    | sl _ _ b off cap _ _ _ _ _ _ => exact ⟨_, _, _, rfl⟩

/-! ### arguments by their types -/
inductive WP where
  | c (f : Fl) | own (k : Nat) | ptr (k : Nat)

@[reducible] def HW : List WP → Type
  | [] => Unit
  | .c f :: r => f.T × HW r
  | .own _ :: r => HW r
  | .ptr _ :: r => HW r

def wrH : (ps : List WP) → HW ps → List MC
  | [], _ => []
  | .c f :: r, x => .c (f.cell x.1) :: wrH r x.2
  | .own k :: r, x => .own k :: wrH r x
  | .ptr k :: r, x => .ptr k :: wrH r x

def getW : (ps : List WP) → List MC → Option (HW ps)
  | [], [] => some ()
  | .c f :: r, .c x :: cs => match f.get x, getW r cs with
    | some y, some ys => some (y, ys)
    | _, _ => none
  | .own k :: r, .own k' :: cs => match Nat.beq k k' with | true => getW r cs | false => none
  | .ptr k :: r, .ptr k' :: cs => match Nat.beq k k' with | true => getW r cs | false => none
  | _, _ => none

theorem getW_wrH : ∀ {ps : List WP} {cs : List MC} {x : HW ps}, getW ps cs = some x → wrH ps x = cs
  | [], [], _, _ => rfl
  | .c f :: r, .c y :: cs, x, h => by
    simp only [getW] at h
    split at h
    · rename_i a b ha hb
      cases h
      simp only [wrH, Fl.get_cell ha, getW_wrH hb]
    · cases h
  | .own k :: r, .own k' :: cs, x, h => by
    simp only [getW] at h
    split at h
    · rename_i e
      rw [← Nat.eq_of_beq_eq_true e]
      simp only [wrH, getW_wrH h]
    · cases h
  | .ptr k :: r, .ptr k' :: cs, x, h => by
    simp only [getW] at h
    split at h
    · rename_i e
      rw [← Nat.eq_of_beq_eq_true e]
      simp only [wrH, getW_wrH h]
    · cases h
  | [], _ :: _, _, h => by cases h
  | .c _ :: _, [], _, h => by cases h
  | .own _ :: _, [], _, h => by cases h
  | .ptr _ :: _, [], _, h => by cases h
  | .c _ :: _, .own _ :: _, _, h => by cases h
  | .c _ :: _, .ptr _ :: _, _, h => by cases h
  | .own _ :: _, .c _ :: _, _, h => by cases h
  | .own _ :: _, .ptr _ :: _, _, h => by cases h
  | .ptr _ :: _, .c _ :: _, _, h => by cases h
  | .ptr _ :: _, .own _ :: _, _, h => by cases h

inductive Pk where
  | sc (f : Fl) | st (t : Ty) | fn (f : Nat) (ks : List Nat) | wr (agg : Bool) (ps : List WP)

@[reducible] def Pk.T : Pk → Type
  | .sc f => f.T
  | .st t => t.T
  | .fn _ _ => Unit
  | .wr _ ps => HW ps

def Pk.pv : (k : Pk) → k.T → PV
  | .sc f, x => .val false [f.cell x]
  | .st t, x => .val true (t.cells x)
  | .fn f ks, _ => .fn f ks
  | .wr ag ps, x => .wr ag (wrH ps x)

def Pk.get : (k : Pk) → PV → Option k.T
  | .sc f, .val false [c] => f.get c
  | .st t, .val true cs => t.get cs
  | .fn f ks, .fn f' ds => match Nat.beq f f' && beqL ks ds with | true => some () | false => none
  | .wr true ps, .wr true cs => getW ps cs
  | .wr false ps, .wr false cs => getW ps cs
  | _, _ => none

theorem Pk.get_pv {k : Pk} {a : PV} {x : k.T} (h : k.get a = some x) : a = k.pv x := by
  unfold Pk.get at h
  split at h
  · rename_i f c; simp only [Pk.pv, Fl.get_cell h]
  · rename_i t cs; simp only [Pk.pv, Ty.get_cells h]
  · split at h
    · rename_i e
      simp only [Bool.and_eq_true] at e
      cases Nat.eq_of_beq_eq_true e.1
      cases beqL_eq e.2
      rfl
    · cases h
  · simp only [Pk.pv, getW_wrH h]
  · simp only [Pk.pv, getW_wrH h]
  · cases h

/-- arguments in a row -/
@[reducible] def HP : List Pk → Type
  | [] => Unit
  | k :: r => k.T × HP r

def pvs : (ks : List Pk) → HP ks → List PV
  | [], _ => []
  | k :: r, x => k.pv x.1 :: pvs r x.2

def gets : (ks : List Pk) → List PV → Option (HP ks)
  | [], [] => some ()
  | k :: r, a :: s => match k.get a, gets r s with
    | some x, some y => some (x, y)
    | _, _ => none
  | _, _ => none

theorem gets_pvs : ∀ {ks : List Pk} {A : List PV} {x : HP ks}, gets ks A = some x → A = pvs ks x
  | [], [], _, _ => rfl
  | k :: r, a :: s, x, h => by
    simp only [gets] at h
    split at h
    · rename_i y z hy hz
      cases h
      simp only [pvs, ← Pk.get_pv hy, ← gets_pvs hz]
    · cases h
  | [], _ :: _, _, h => by cases h
  | _ :: _, [], _, h => by cases h

/-- contracts of a function for arguments of its types, if 'pre' holds of them -/
def entP {P : Program} (f : Nat) (ks : List Pk) {V : Type} (pre : HP ks → Bool) (val : HP ks → V) (R : V → Res) (h : ∀ x, pre x = true → Con P f (pvs ks x) (R (val x))) : Ent1 P where
  f := f
  g A O k := match O with | [] => optK (gets ks A) none fun x => bif pre x then letK (val x) fun v => k (R v) [] else none | _ :: _ => none
  ok A O k z hg := by
    cases O with
    | cons _ _ => cases hg
    | nil =>
    obtain ⟨x, hx, hg⟩ := optK_some hg
    cases hp : pre x with
    | true =>
      rw [hp] at hg
      exact ⟨R (val x), [], by rw [gets_pvs hx]; exact h x hp, hg⟩
    | false => rw [hp] at hg; cases hg

def entA {P : Program} (f : Nat) (ks : List Pk) {V : Type} (val : HP ks → V) (R : V → Res) (h : ∀ x, Con P f (pvs ks x) (R (val x))) : Ent1 P where
  f := f
  g A O k := match O with | [] => optK (gets ks A) none fun x => letK (val x) fun v => k (R v) [] | _ :: _ => none
  ok A O k z hg := by
    cases O with
    | cons _ _ => cases hg
    | nil =>
    obtain ⟨x, hx, hg⟩ := optK_some hg
    exact ⟨R (val x), [], by rw [gets_pvs hx]; exact h x, hg⟩

/-! ### what is handed in to be written, by its types -/
inductive Mk where
  | arr (t : Ty) | box (ps : List WP)

@[reducible] def Mk.T : Mk → Type
  | .arr t => List t.T
  | .box ps => HW ps

def Mk.mo : (k : Mk) → k.T → MO
  | .arr t, xs => .arr t xs
  | .box ps, x => .box (wrH ps x)

def Mk.get : (k : Mk) → MO → Option k.T
  | .arr t, .arr t' xs => if h : t' = t then some (h ▸ xs) else none
  | .box ps, .box cs => getW ps cs
  | _, _ => none

theorem Mk.get_mo {k : Mk} {o : MO} {x : k.T} (h : k.get o = some x) : o = k.mo x := by
  cases k with
  | arr t =>
    cases o with
    | box _ => cases h
    | arr t' xs =>
      simp only [Mk.get] at h
      split at h
      · rename_i e
        subst e
        cases h
        rfl
      · cases h
  | box fs =>
    cases o with
    | arr _ _ => cases h
    | box cs => simp only [Mk.get] at h; simp only [Mk.mo, getW_wrH h]

@[reducible] def HM : List Mk → Type
  | [] => Unit
  | k :: r => k.T × HM r

def mos : (ks : List Mk) → HM ks → List MO
  | [], _ => []
  | k :: r, x => k.mo x.1 :: mos r x.2

def getm : (ks : List Mk) → List MO → Option (HM ks)
  | [], [] => some ()
  | k :: r, a :: s => match k.get a, getm r s with
    | some x, some y => some (x, y)
    | _, _ => none
  | _, _ => none

theorem getm_mos : ∀ {ks : List Mk} {O : List MO} {x : HM ks}, getm ks O = some x → O = mos ks x
  | [], [], _, _ => rfl
  | k :: r, a :: s, x, h => by
    simp only [getm] at h
    split at h
    · rename_i y z hy hz
      cases h
      simp only [mos, ← Mk.get_mo hy, ← getm_mos hz]
    · cases h
  | [], _ :: _, _, h => by cases h
  | _ :: _, [], _, h => by cases h

def entM {P : Program} (f : Nat) (ks : List Pk) (ms : List Mk) {V : Type} (pre : HP ks → HM ms → Bool) (val : HP ks → HM ms → V) (R : V → Res) (O' : HP ks → HM ms → V → List MO) (h : ∀ x y, pre x y = true → ConM P f (pvs ks x) (mos ms y) (R (val x y)) (O' x y (val x y))) : Ent1 P where
  f := f
  g A O k := optK (gets ks A) none fun x => optK (getm ms O) none fun y => bif pre x y then letK (val x y) fun v => k (R v) (O' x y v) else none
  ok A O k z hg := by
    obtain ⟨x, hx, hg⟩ := optK_some hg
    obtain ⟨y, hy, hg⟩ := optK_some hg
    cases hp : pre x y with
    | true =>
      rw [hp] at hg
      exact ⟨R (val x y), O' x y (val x y), by rw [gets_pvs hx, getm_mos hy]; exact h x y hp, hg⟩
    | false => rw [hp] at hg; cases hg

/-! ### results by their types: what cells are own arrays, and whether what they hold is new -/
inductive Ow where
  | c | o (deep : Bool)

def rcOf : Ow → Cell → RC
  | .o d, .sl t xs => .own d t xs
  | _, x => .c x

def rcs : List Ow → List Cell → List RC
  | [], cs => cs.map .c
  | _ :: _, [] => []
  | o :: r, x :: cs => rcOf o x :: rcs r cs

/-- a result of a type -/
def rv (k : Pk) (ow : List Ow) (x : k.T) : Bool × List RC :=
  match k.pv x with
  | .val ag cs => (ag, rcs ow cs)
  | _ => (false, [])

/-- a result that is a box -/
def rb (t : Ty) (x : t.T) : Bool × List RC := (false, [.box (t.cells x)])

/-! ### what is known of arguments -/
theorem FactC.len {t : Ty} {xs : List t.T} (h : FactC (.sl t xs)) : xs.length ≤ 140737488355328 := by cases h with | sl _ _ h _ => exact h
theorem FactC.slen {s : Bytes} (h : FactC (.str s)) : s.length ≤ 4611686018427387904 := by cases h with | str _ h => exact h
theorem FactC.rng {k : IntKind} {n : Int} (h : FactC (.int k n)) : inK k n := by cases h with | int _ _ h => exact h
theorem FactC.elem {t : Ty} {xs : List t.T} (h : FactC (.sl t xs)) {x : t.T} (hx : x ∈ xs) : ∀ c ∈ t.cells x, FactC c := by cases h with | sl _ _ _ hc => exact hc x hx

theorem factAt {A : List PV} (h : ∀ a ∈ A, FactPV a) (i j : Nat) {ag : Bool} {cs : List Cell} {c : Cell} (h1 : A[i]? = some (.val ag cs)) (h2 : cs[j]? = some c) : FactC c :=
  h _ (List.mem_of_getElem? h1) c (List.mem_of_getElem? h2)

theorem moAt {O : List MO} (h : ∀ o ∈ O, FactMO o) (i : Nat) {t : Ty} {xs : List t.T} (h1 : O[i]? = some (.arr t xs)) : FactC (.sl t xs) := h _ (List.mem_of_getElem? h1)
theorem mbAt {O : List MO} (h : ∀ o ∈ O, FactMO o) (i j : Nat) {cs : List MC} {c : Cell} (h1 : O[i]? = some (.box cs)) (h2 : cs[j]? = some (.c c)) : FactC c := h _ (List.mem_of_getElem? h1) _ (List.mem_of_getElem? h2)

theorem wrap64 {m : Int} (h0 : -9223372036854775808 ≤ m) (h1 : m ≤ 9223372036854775807) : IntKind.i64.wrap m = m := by
  unfold IntKind.wrap
  simp only [IntKind.signed, IntKind.bits]
  simp
  omega

theorem wrapU_nonneg (m : Int) : 0 ≤ IntKind.u64.wrap m := (inK_wrap .u64 m).1

def toInts (s : Bytes) : List Int := s.map fun c => (c.toNat : Int)
def toBytes (xs : List Int) : Bytes := List.map (fun n : Int => UInt8.ofNat n.toNat) xs
def byteAt (s : Bytes) (i : Nat) : Int := ((s.getD i 0).toNat : Int)

/-! ### trees -/
theorem bifT {α β : Type} {f : α → β} {c : Bool} {X Y : β} {a b : α} (h1 : c = true → X = f a) (h2 : c = false → Y = f b) : (bif c then X else Y) = f (bif c then a else b) := by
  cases c with
  | true => exact h1 rfl
  | false => exact h2 rfl
theorem bifG {β : Type} {c : Bool} {X Y Z : β} (h : c = true) (h1 : X = Z) : (bif c then X else Y) = Z := by subst h; exact h1
theorem bifN {β : Type} {c : Bool} {X Y Z : β} (h : c = false) (h1 : Y = Z) : (bif c then X else Y) = Z := by subst h; exact h1

/-- an argument of a row, by its type -/
theorem arg_sc {te : TE} {t : TypeId} {f : Fl} (hl : look te t = some (.sc f)) {A : PV} (h : ArgOk te t A) : ∃ x : f.T, A = (Pk.sc f).pv x := by
  obtain ⟨ti, xs, hl', rfl, hx, _⟩ := h
  rw [hl] at hl'; cases hl'
  match xs, hx with
  | [c], hx => obtain ⟨x, rfl⟩ := hx.1; exact ⟨x, rfl⟩
  | [], hx => exact hx.elim
  | _ :: _ :: _, hx => exact hx.2.elim

theorem arg_sl {te : TE} {t : TypeId} {ty : Ty} {b : Nat} (hl : look te t = some (.sl ty b)) {A : PV} (h : ArgOk te t A) : ∃ x : List ty.T, A = (Pk.sc (.sl ty)).pv x := by
  obtain ⟨ti, xs, hl', rfl, hx, _⟩ := h
  rw [hl] at hl'; cases hl'
  match xs, hx with
  | [c], hx => obtain ⟨x, rfl⟩ := hx.1; exact ⟨x, rfl⟩
  | [], hx => exact hx.elim
  | _ :: _ :: _, hx => exact hx.2.elim

theorem arg_st {te : TE} {t : TypeId} {ty : Ty} {fs : List (Nat × Nat)} (hl : look te t = some (.st ty fs)) {A : PV} (h : ArgOk te t A) : ∃ x : ty.T, A = (Pk.st ty).pv x := by
  obtain ⟨ti, xs, hl', rfl, hx, _⟩ := h
  rw [hl] at hl'; cases hl'
  obtain ⟨x, rfl⟩ := ty_of_flc hx
  exact ⟨x, rfl⟩
end Go.Proofs.YtcjbalpokdgicaaDoor
