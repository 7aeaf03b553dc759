/-
  Loops: the shape of a state, and what a loop comes to out of its rounds.
-/
import Derived.Test.YtcjbalpokdgicaaDoorFn
namespace Go.Proofs.YtcjbalpokdgicaaDoor
open Go Go.RowKit

/-! ### shapes -/
inductive Pt where
  | bool | int (k : IntKind) | str | sl (p : Pv) (t : Ty) | nil | undef | skipped | own (id : Nat) | ptr (id off : Nat) | fn (f : Nat) (ids : List Nat) | ref (p : Pv) (fs : List Fl)

@[reducible] def Pt.T : Pt → Type
  | .bool => Bool | .int _ => Int | .str => Bytes | .sl _ t => List t.T | .nil => Unit | .undef => Unit | .skipped => Unit | .own _ => Unit | .ptr _ _ => Unit | .fn _ _ => Unit | .ref _ fs => HL fs

def beqL : List Nat → List Nat → Bool
  | [], [] => true
  | x :: r, y :: s => Nat.beq x y && beqL r s
  | _, _ => false

theorem beqL_eq : ∀ {x y : List Nat}, beqL x y = true → x = y
  | [], [], _ => rfl
  | x :: r, y :: s, h => by
    simp only [beqL, Bool.and_eq_true] at h
    rw [Nat.eq_of_beq_eq_true h.1, beqL_eq h.2]
  | [], _ :: _, h => by cases h
  | _ :: _, [], h => by cases h

def Pt.enc : (p : Pt) → p.T → DC
  | .bool, b => .bool b
  | .int k, n => .int k n
  | .str, s => .str s
  | .sl p t, xs => .sl p t xs
  | .nil, _ => .nil
  | .undef, _ => .undef
  | .skipped, _ => .skipped
  | .own id, _ => .own id 0
  | .ptr id off, _ => .ptr id off
  | .fn f ids, _ => .fn f ids
  | .ref p fs, x => .ref p (cellsH fs x)

def Pt.dec : (p : Pt) → DC → Option p.T
  | .bool, .bool b => some b
  | .int k, .int k' n => if k = k' then some n else none
  | .str, .str s => some s
  | .sl p t, .sl p' t' xs => if h : t' = t then (if p' = p then some (h ▸ xs) else none) else none
  | .nil, .nil => some ()
  | .undef, .undef => some ()
  | .skipped, .skipped => some ()
  | .own id, .own id' ver => match Nat.beq id id' && Nat.beq ver 0 with | true => some () | false => none
  | .ptr id off, .ptr id' off' => match Nat.beq id id' && Nat.beq off off' with | true => some () | false => none
  | .fn f ids, .fn f' ds => match Nat.beq f f' && beqL ids ds with | true => some () | false => none
  | .ref p fs, .ref p' cs => if p' = p then getH fs cs else none
  | _, _ => none

theorem Pt.dec_enc {p : Pt} {c : DC} {x : p.T} (h : p.dec c = some x) : p.enc x = c := by
  unfold Pt.dec at h
  split at h
  · cases h; rfl
  · split at h
    · rename_i e; cases h; subst e; rfl
    · cases h
  · cases h; rfl
  · split at h
    · rename_i e
      subst e
      split at h
      · rename_i e; subst e; cases h; rfl
      · cases h
    · cases h
  · cases h; rfl
  · cases h; rfl
  · cases h; rfl
  · split at h
    · rename_i e
      simp only [Bool.and_eq_true] at e
      cases Nat.eq_of_beq_eq_true e.1
      cases Nat.eq_of_beq_eq_true e.2
      rfl
    · cases h
  · split at h
    · rename_i e
      simp only [Bool.and_eq_true] at e
      cases Nat.eq_of_beq_eq_true e.1
      cases Nat.eq_of_beq_eq_true e.2
      rfl
    · cases h
  · split at h
    · rename_i e
      simp only [Bool.and_eq_true] at e
      cases Nat.eq_of_beq_eq_true e.1
      cases beqL_eq e.2
      rfl
    · cases h
  · split at h
    · rename_i e; subst e; simp only [Pt.enc, getH_cells h]
    · cases h
  · cases h

@[reducible] def PL : List Pt → Type
  | [] => Unit
  | p :: r => p.T × PL r

def encL : (ps : List Pt) → PL ps → List DC
  | [], _ => []
  | p :: r, x => p.enc x.1 :: encL r x.2

def decL : (ps : List Pt) → List DC → Option (PL ps)
  | [], [] => some ()
  | p :: r, c :: cs => match p.dec c, decL r cs with
    | some x, some y => some (x, y)
    | _, _ => none
  | _, _ => none

theorem decL_enc : ∀ {ps : List Pt} {cs : List DC} {x : PL ps}, decL ps cs = some x → encL ps x = cs
  | [], [], _, _ => rfl
  | p :: r, c :: cs, x, h => by
    simp only [decL] at h
    split at h
    · rename_i y z hy hz
      cases h
      simp only [encL, Pt.dec_enc hy, decL_enc hz]
    · cases h
  | [], _ :: _, _, h => by cases h
  | _ :: _, [], _, h => by cases h

@[reducible] def FT : List (Nat × Bool × List Pt) → Type
  | [] => Unit
  | p :: r => PL p.2.2 × FT r

def encF : (f : List (Nat × Bool × List Pt)) → FT f → List (Nat × DV)
  | [], _ => []
  | p :: r, x => (p.1, .v p.2.1 (encL p.2.2 x.1)) :: encF r x.2

def decF : (f : List (Nat × Bool × List Pt)) → List (Nat × DV) → Option (FT f)
  | [], [] => some ()
  | p :: r, (t, d) :: s => match d with
    | .v ag cs => match Nat.beq p.1 t && p.2.1 == ag, decL p.2.2 cs, decF r s with
      | true, some x, some y => some (x, y)
      | _, _, _ => none
    | .tup _ => none
  | _, _ => none

theorem decF_enc : ∀ {f : List (Nat × Bool × List Pt)} {l : List (Nat × DV)} {x : FT f}, decF f l = some x → encF f x = l
  | [], [], _, _ => rfl
  | p :: r, (t, d) :: s, x, h => by
    cases d with
    | tup _ => simp [decF] at h
    | v ag cs =>
      simp only [decF] at h
      split at h
      · rename_i y z hb hy hz
        cases h
        simp only [Bool.and_eq_true] at hb
        cases Nat.eq_of_beq_eq_true hb.1
        have := eq_of_beq hb.2
        subst this
        simp only [encF, decL_enc hy, decF_enc hz]
      · cases h
  | [], _ :: _, _, h => by cases h
  | _ :: _, [], _, h => by cases h

inductive Osh where
  | box (ps : List Pt) | arr (t : Ty) (frz deep : Bool)

@[reducible] def Osh.T : Osh → Type
  | .box ps => PL ps
  | .arr t _ _ => List t.T

def Osh.enc : (o : Osh) → o.T → Ob
  | .box ps, x => .box (encL ps x)
  | .arr t f d, xs => .arr t xs 0 f d

def Osh.dec : (o : Osh) → Ob → Option o.T
  | .box ps, .box cs => decL ps cs
  | .arr t f d, .arr t' xs ver f' d' => if h : t' = t then (match Nat.beq ver 0 && f == f' && d == d' with | true => some (h ▸ xs) | false => none) else none
  | _, _ => none

theorem Osh.dec_enc {o : Osh} {b : Ob} {x : o.T} (h : o.dec b = some x) : o.enc x = b := by
  unfold Osh.dec at h
  split at h
  · simp only [Osh.enc, decL_enc h]
  · split at h
    · rename_i e
      subst e
      split at h
      · rename_i e
        simp only [Bool.and_eq_true] at e
        cases Nat.eq_of_beq_eq_true e.1.1
        have h1 := eq_of_beq e.1.2
        have h2 := eq_of_beq e.2
        subst h1; subst h2
        cases h; rfl
      · cases h
    · cases h
  · cases h

@[reducible] def ST : List Osh → Type
  | [] => Unit
  | o :: r => o.T × ST r

def encS : Nat → (l : List Osh) → ST l → List (Nat × Ob)
  | _, [], _ => []
  | n, o :: r, x => (n, o.enc x.1) :: encS (n + 1) r x.2

def decS : Nat → (l : List Osh) → List (Nat × Ob) → Option (ST l)
  | _, [], [] => some ()
  | n, o :: r, (m, b) :: s => match Nat.beq n m, o.dec b, decS (n + 1) r s with
    | true, some x, some y => some (x, y)
    | _, _, _ => none
  | _, _, _ => none

theorem decS_enc : ∀ {n : Nat} {l : List Osh} {s : List (Nat × Ob)} {x : ST l}, decS n l s = some x → encS n l x = s
  | _, [], [], _, _ => rfl
  | n, o :: r, (m, b) :: s, x, h => by
    simp only [decS] at h
    split at h
    · rename_i y z hb hy hz
      cases h
      cases Nat.eq_of_beq_eq_true hb
      simp only [encS, Osh.dec_enc hy, decS_enc hz]
    · cases h
  | _, [], _ :: _, _, h => by cases h
  | _, _ :: _, [], _, h => by cases h

structure Sh where
  f : List (Nat × Bool × List Pt)
  o : List Osh

abbrev Sh.T (s : Sh) : Type := FT s.f × ST s.o
def Sh.enc (s : Sh) (x : s.T) : St := ⟨encF s.f x.1, encS 0 s.o x.2, s.o.length⟩
def Sh.dec (s : Sh) (t : St) : Option s.T :=
  match Nat.beq t.nx s.o.length, decF s.f t.fr, decS 0 s.o t.st with
  | true, some x, some y => some (x, y)
  | _, _, _ => none

theorem Sh.dec_enc {s : Sh} {t : St} {x : s.T} (h : s.dec t = some x) : s.enc x = t := by
  unfold Sh.dec at h
  split at h
  · rename_i y z hb hy hz
    cases h
    unfold Sh.enc
    rw [decF_enc hy, decS_enc hz, ← Nat.eq_of_beq_eq_true hb]
  · cases h

/-! ### loops -/
/-- a value by a name -/
def letK {α γ : Type} (e : α) (k : α → γ) : γ := k e
def optK {α γ : Type} (o : Option α) (fail : γ) (k : α → γ) : γ := match o with | some a => k a | none => fail

/-- a round: it fails, it goes on, it leaves -/
def loopF {V W : Type} (step : V → Option (V ⊕ W)) : Nat → V → Option W
  | 0, _ => none
  | m + 1, v => optK (step v) none fun r => Sum.elim (fun v' => loopF step m v') (fun w => some w) r

@[reducible] def WT : List (Ex × Sh) → Type
  | [] => Empty
  | [e] => e.2.T
  | e :: e' :: r => e.2.T ⊕ WT (e' :: r)

def outK {γ : Type} : (es : List (Ex × Sh)) → (Ex → St → γ) → WT es → γ
  | [], _, w => nomatch w
  | [e], k, w => k e.1 (e.2.enc w)
  | e :: e' :: r, k, w => Sum.elim (fun x => k e.1 (e.2.enc x)) (fun y => outK (e' :: r) k y) w

/-- a loop by the block around it -/
structure LE where
  blk : Nat
  run : St → (Ex → St → Option Res) → Option Res

def leOf (blk : Nat) (sh : Sh) (es : List (Ex × Sh)) (step : sh.T → Option (sh.T ⊕ WT es)) (fuel : sh.T → Nat) : LE where
  blk := blk
  run s k := optK (sh.dec s) none fun v => optK (loopF step (fuel v) v) none fun w => outK es k w

def lorcOf : List LE → LOrc
  | [], _, _, _ => none
  | e :: r, blk, s, k => match Nat.beq e.blk blk with
    | true => e.run s k
    | false => lorcOf r blk s k

theorem optK_some {α γ : Type} {o : Option α} {k : α → Option γ} {z : γ} (h : optK o none k = some z) : ∃ a, o = some a ∧ k a = some z := by
  cases o with
  | none => cases h
  | some a => exact ⟨a, rfl, h⟩

/-- a round's text, as it goes on with whatever -/
structure Round (V W : Type) where
  B : V → (γ : Type) → γ → (V → γ) → (W → γ) → γ
  par : ∀ v (γ : Type) (fail : γ) (next : V → γ) (out : W → γ), B v γ fail next out = optK (B v (Option (V ⊕ W)) none (fun v' => some (.inl v')) (fun w => some (.inr w))) fail (fun r => Sum.elim next out r)

def Round.step {V W : Type} (r : Round V W) (v : V) : Option (V ⊕ W) := r.B v _ none (fun v' => some (.inl v')) (fun w => some (.inr w))

/-- what ends a round in the executor -/
def endK (keep kout : Keep) (next : St → Option Res) (k : Ex → St → Option Res) : Ex → St → Option Res
  | .normal, s' => next (s'.norm keep)
  | e, s' => k e (s'.norm kout)

section
variable {P : Program} {te : TE} {n : Nat} {w0 : World} {mo : Mts} {I0 : Nat → Prop} {orc : Orc} {lorc : LOrc} {ann : List (Nat × Keep)}

theorem loopK_round {keep kout : Keep} {round : St → (Ex → St → Option Res) → Option Res} {m : Nat} {s : St} {k : Ex → St → Option Res} : loopK keep kout round (m + 1) s k = round s (endK keep kout (fun s' => loopK keep kout round m s' k) k) := by
  simp only [loopK]
  congr 1

/-- every head of a loop keeps the roots -/
def annOk (r : Nat) : List (Nat × Keep) → Bool
  | [] => true
  | p :: l => match Nat.beq p.2.roots r with | true => annOk r l | false => false

theorem annOk_look {r : Nat} : ∀ {ann : List (Nat × Keep)}, annOk r ann = true → ∀ b K, look ann b = some K → K.roots = r
  | [], _, _, _, h => by cases h
  | p :: l, h, b, K, hl => by
    simp only [annOk] at h
    cases hb : Nat.beq p.2.roots r with
    | false => rw [hb] at h; cases h
    | true =>
      rw [hb] at h
      obtain ⟨i, K'⟩ := p
      simp only [look] at hl
      cases hbi : Nat.beq i b with
      | true => rw [hbi] at hl; cases hl; exact Nat.eq_of_beq_eq_true hb
      | false => rw [hbi] at hl; exact annOk_look h b K hl

def rootsOk (r : Nat) (keep kout : Keep) (ann : List (Nat × Keep)) : Bool := Nat.ble r 10000 && Nat.beq keep.roots r && Nat.beq kout.roots r && annOk r ann

theorem le_sem {r0 : Nat} (hmo : mo.length = r0) (hte : teOk te P = true) (hmix : P.follows .mixedOrders = true) (ho : OrcOk (ConM P) orc) {keep kout : Keep} (hro : rootsOk r0 keep kout ann = true) {blk : Nat} {body : Code} (hl : ∀ p ∈ loopsIn body blk, LSem P (Sim w0 mo n I0) lorc p.1 p.2)
    {sh : Sh} {es : List (Ex × Sh)} (r : Round sh.T (WT es)) (fuel : sh.T → Nat)
    (hstep : ∀ (v : sh.T) (next : St → Option Res) (k : Ex → St → Option Res), evalK te orc lorc n ann body blk (sh.enc v) (endK keep kout next k) = r.B v _ none (fun v' => next (sh.enc v')) (fun w => outK es k w)) :
    LSem P (Sim w0 mo n I0) (fun b s k => match Nat.beq blk b with | true => (leOf blk sh es r.step fuel).run s k | false => none) blk body := by
  simp only [rootsOk, Bool.and_eq_true] at hro
  obtain ⟨⟨⟨hr1, hr2⟩, hr3⟩, hr4⟩ := hro
  have hr1 := Nat.le_of_ble_eq_true hr1
  refine loop_sem (r := r0) (orc := orc) (lorc := lorc) (ann := ann) (keep := keep) (kout := kout) (annOk_look hr4) (sim_ok hte w0 mo n I0) (fun keep s a w hk hs hb => norm_sim hs hb keep (by rw [hk, hmo]) (by omega)) hmix ho (Nat.eq_of_beq_eq_true hr2) (Nat.eq_of_beq_eq_true hr3) hl ?_
  intro s k z h
  have hbb : Nat.beq blk blk = true := Nat.beq_refl blk
  simp only [hbb, leOf] at h
  obtain ⟨v, hv, h1⟩ := optK_some h
  obtain ⟨w, hw, h2⟩ := optK_some h1
  clear h h1
  rw [← Sh.dec_enc hv]
  refine ⟨fuel v, ?_⟩
  clear hv
  generalize fuel v = m at hw
  induction m generalizing v with
  | zero => cases hw
  | succ m ih =>
    rw [loopK_round, hstep, r.par]
    simp only [loopF] at hw
    obtain ⟨q, hq, hw⟩ := optK_some hw
    have hq' : r.B v (Option (sh.T ⊕ WT es)) none (fun v' => some (.inl v')) (fun w => some (.inr w)) = some q := hq
    rw [hq']
    cases q with
    | inl v' => exact ih v' hw
    | inr w' => cases hw; exact h2

theorem lsem_of_lorc {S : FS → Act → World → Prop} {lorc lorc' : LOrc} {blk : Nat} {body : Code} (h : LSem P S lorc blk body) (he : lorc' blk = lorc blk) : LSem P S lorc' blk body := by
  intro s k z hz
  rw [he] at hz
  exact h s k z hz
end

/-! ### the loops of a function -/
def bodyOf (fn : Func) : Code := match fn.body with | some c => c | none => .skip
def nthLoop (c : Code) (blk i : Nat) : Code := match (loopsIn c blk)[i]? with | some p => p.2 | none => .skip

def AllLoops (Q : Nat → Code → Prop) (c : Code) (blk : Nat) : List Nat → Nat → Prop
  | [], _ => True
  | b :: r, i => Q b (nthLoop c blk i) ∧ AllLoops Q c blk r (i + 1)

theorem allLoops_of {Q : Nat → Code → Prop} {c : Code} {blk : Nat} {bs : List Nat} (hb : (loopsIn c blk).map (·.1) = bs) (h : AllLoops Q c blk bs 0) : ∀ p ∈ loopsIn c blk, Q p.1 p.2 := by
  have main : ∀ (bs : List Nat) (i : Nat), AllLoops Q c blk bs i → ∀ j b, bs[j]? = some b → Q b (nthLoop c blk (i + j)) := by
    intro bs
    induction bs with
    | nil => intro i _ j b hj; simp at hj
    | cons x r ih =>
      intro i h j b hj
      cases j with
      | zero => simp only [List.getElem?_cons_zero, Option.some.injEq] at hj; subst hj; exact h.1
      | succ j =>
        simp only [List.getElem?_cons_succ] at hj
        have := ih (i + 1) h.2 j b hj
        rwa [show i + 1 + j = i + (j + 1) from by omega] at this
  intro p hp
  obtain ⟨j, hj⟩ := List.getElem?_of_mem hp
  have := main bs 0 h j p.1 (by rw [← hb, List.getElem?_map, hj]; rfl)
  rw [Nat.zero_add] at this
  simp only [nthLoop, hj] at this
  exact this

/-- the contract of a function with loops -/
theorem evalFn_conL {P : Program} {te : TE} (hte : teOk te P = true) (hmix : P.follows .mixedOrders = true) {orc : Orc} (ho : OrcOk (ConM P) orc) {lorc : LOrc} {ann : List (Nat × Keep)} {f : Nat} {fn : Func} (hf : P.funcs[f]? = some fn)
    (hn : (fn.name == "runtime.NumGoroutine") = false) {bs : List Nat} (hb : (loopsIn (bodyOf fn) 0).map (·.1) = bs) {A : List PV} {R : Res}
    (hann : annOk 0 ann = true) (hloop : ∀ (w0 : World) (mo : Mts) (I0 : Nat → Prop), mo.length = 0 → AllLoops (LSem P (Sim w0 mo fn.ntmps I0) lorc) (bodyOf fn) 0 bs 0) (h : evalFn te orc lorc ann fn A = some R) : Con P f A R :=
  evalFn_con hte hmix ho hf hn (annOk_look hann) (fun c hc w0 mo I0 hmo => by
    have : bodyOf fn = c := by unfold bodyOf; rw [hc]
    rw [← this]
    exact allLoops_of hb (hloop w0 mo I0 hmo)) h

/-- the same, of a function that writes -/
theorem evalFn_conLM {P : Program} {te : TE} (hte : teOk te P = true) (hmix : P.follows .mixedOrders = true) {orc : Orc} (ho : OrcOk (ConM P) orc) {lorc : LOrc} {ann : List (Nat × Keep)} {f : Nat} {fn : Func} (hf : P.funcs[f]? = some fn)
    (hn : (fn.name == "runtime.NumGoroutine") = false) {bs : List Nat} (hb : (loopsIn (bodyOf fn) 0).map (·.1) = bs) {A : List PV} {O : List MO} {R : Res} {O' : List MO}
    (hann : annOk O.length ann = true) (hO : Nat.ble O.length 10000 = true) (hO' : O'.length = O.length) (hloop : ∀ (w0 : World) (mo : Mts) (I0 : Nat → Prop), mo.length = O.length → AllLoops (LSem P (Sim w0 mo fn.ntmps I0) lorc) (bodyOf fn) 0 bs 0) (h : evalFnM te orc lorc ann fn A O = some (R ++ O'.map encO)) : ConM P f A O R O' :=
  evalFn_conM hte hmix ho hf hn (annOk_look hann) (Nat.le_of_ble_eq_true hO) hO' (fun c hc w0 mo I0 hmo => by
    have : bodyOf fn = c := by unfold bodyOf; rw [hc]
    rw [← this]
    exact allLoops_of hb (hloop w0 mo I0 hmo)) h

/-! ### rounds that are counted -/
inductive Stp (A W : Type) where
  | next (a : A) | out (w : W)

def Stp.elim {A W γ : Type} (n : A → γ) (o : W → γ) : Stp A W → γ
  | .next a => n a
  | .out w => o w

def forN {A W : Type} (f : Int → A → Stp A W) (st : Int) : Nat → Int → A → Stp A W
  | 0, _, a => .next a
  | k + 1, i, a => Stp.elim (fun a' => forN f st k (i + st) a') (fun w => .out w) (f i a)

theorem forN_loop {V W W' A : Type} {step : V → Option (V ⊕ W)} {mk : Int → A → V} {f : Int → A → Stp A W'} {e : Int → A → W} {emb : W' → W} {st : Int} {Inv : Int → A → Prop} : ∀ (k : Nat) (i : Int) (a : A) (m : Nat), k < m → Inv i a →
    (∀ (j : Nat) (a : A), j < k → Inv (i + st * j) a → step (mk (i + st * j) a) = Stp.elim (fun a' => some (.inl (mk (i + st * j + st) a'))) (fun w => some (.inr (emb w))) (f (i + st * j) a) ∧ ∀ a', f (i + st * j) a = .next a' → Inv (i + st * j + st) a') →
    (∀ (a : A), Inv (i + st * k) a → step (mk (i + st * k) a) = some (.inr (e (i + st * k) a))) →
    loopF step m (mk i a) = some (Stp.elim (fun a' => e (i + st * k) a') emb (forN f st k i a))
  | 0, i, a, 0, hm, _, _, _ => absurd hm (Nat.lt_irrefl _)
  | k + 1, i, a, 0, hm, _, _, _ => absurd hm (Nat.not_lt_zero _)
  | 0, i, a, m + 1, _, h0, _, h2 => by
    have e0 : i + st * ((0 : Nat) : Int) = i := by simp
    have := h2 a (by rw [e0]; exact h0)
    rw [e0] at this
    simp only [loopF, this, optK, forN, Stp.elim, Sum.elim_inr]
    rw [e0]
  | k + 1, i, a, m + 1, hm, h0, h1, h2 => by
    have e0 : i + st * ((0 : Nat) : Int) = i := by simp
    have es : ∀ j : Nat, i + st + st * (j : Int) = i + st * ((j + 1 : Nat) : Int) := by
      intro j
      rw [Int.natCast_add, Int.mul_add, show ((1 : Nat) : Int) = 1 from rfl, Int.mul_one]
      generalize st * (j : Int) = q
      omega
    obtain ⟨hs, hi⟩ := h1 0 a (Nat.succ_pos _) (by rw [e0]; exact h0)
    rw [e0] at hs hi
    simp only [loopF, hs, forN]
    cases hf : f i a with
    | out w => rfl
    | next a' =>
      simp only [Stp.elim, optK, Sum.elim_inl]
      have := forN_loop (V := V) (W := W) (step := step) (mk := mk) (f := f) (e := e) (emb := emb) (st := st) (Inv := Inv) k (i + st) a' m (by omega) (hi a' hf) (by
        intro j a hj ha
        rw [es] at ha ⊢
        exact h1 (j + 1) a (by omega) ha) (by
        intro a ha
        rw [es] at ha ⊢
        exact h2 a ha)
      rw [this]
      rw [es]
      rfl

/-! ### trees -/
theorem loopT {α β A W W' : Type} {f : α → β} {o : Option W} {fail : β} {K : W → β} {e : A → W} {emb : W' → W} {s : Stp A W'} {n1 : A → α} {n2 : W' → α} (hc : o = some (Stp.elim e emb s)) (h1 : ∀ a, K (e a) = f (n1 a)) (h2 : ∀ p, K (emb p) = f (n2 p)) : optK o fail K = f (Stp.elim n1 n2 s) := by
  rw [hc]
  cases s with
  | next a => exact h1 a
  | out p => exact h2 p

theorem loopX {α β A W W' : Type} {f : α → β} {o : Option W} {fail : β} {K : W → β} {e : A → W} {emb : W' → W} {s : Stp A W'} {n1 : A → α} {n2 : W' → α} (hc : o = some (Stp.elim e emb s)) (h1 : ∀ a, s = .next a → K (e a) = f (n1 a)) (h2 : ∀ p, K (emb p) = f (n2 p)) : optK o fail K = f (Stp.elim n1 n2 s) := by
  rw [hc]
  cases s with
  | next a => exact h1 a rfl
  | out p => exact h2 p

theorem forN_inv {A W : Type} {f : Int → A → Stp A W} {st : Int} {Inv : Int → A → Prop} : ∀ (k : Nat) (i : Int) (a : A), Inv i a → (∀ (j : Nat) (a : A), j < k → Inv (i + st * j) a → ∀ a', f (i + st * j) a = .next a' → Inv (i + st * j + st) a') → ∀ a', forN f st k i a = .next a' → Inv (i + st * k) a'
  | 0, i, a, h0, _, a', h => by
    cases h
    have e0 : i + st * ((0 : Nat) : Int) = i := by simp
    rw [e0]; exact h0
  | k + 1, i, a, h0, h1, a', h => by
    have e0 : i + st * ((0 : Nat) : Int) = i := by simp
    have es : ∀ j : Nat, i + st + st * (j : Int) = i + st * ((j + 1 : Nat) : Int) := by
      intro j
      rw [Int.natCast_add, Int.mul_add, show ((1 : Nat) : Int) = 1 from rfl, Int.mul_one]
      generalize st * (j : Int) = q
      omega
    have hi := h1 0 a (Nat.succ_pos _) (by rw [e0]; exact h0)
    rw [e0] at hi
    simp only [forN] at h
    cases hf : f i a with
    | out w => rw [hf] at h; cases h
    | next a1 =>
      rw [hf] at h
      have := forN_inv k (i + st) a1 (hi a1 hf) (by
        intro j a hj ha
        rw [es] at ha ⊢
        exact h1 (j + 1) a (by omega) ha) a' h
      rw [es] at this
      exact this

theorem loopM {α β W W' : Type} {f : α → β} {o : Option W} {fail : β} {K : W → β} {emb : W' → W} {q : W'} {n2 : W' → α} (hc : o = some (emb q)) (h2 : ∀ p, K (emb p) = f (n2 p)) : optK o fail K = f (n2 q) := by
  rw [hc]; exact h2 q

theorem letT {α β γ : Type} {f : α → β} {X : γ → β} {Y : γ → α} {e : γ} (h : ∀ c, c = e → X c = f (Y c)) : letK e X = f (letK e Y) := h e rfl

theorem letL {α β : Type} {X : α → β} {e : α} {y : β} (h : X e = y) : letK e X = y := h
theorem letR {α β γ : Type} {f : α → β} {X : β} {Y : γ → α} {e : γ} (h : X = f (Y e)) : X = f (letK e Y) := h

theorem letP {α γ : Type} {P : α → Prop} {Y : γ → α} {e : γ} (h : ∀ c, c = e → P (Y c)) : P (letK e Y) := h e rfl
theorem bifP {α : Type} {P : α → Prop} {c : Bool} {a b : α} (h1 : c = true → P a) (h2 : c = false → P b) : P (bif c then a else b) := by
  cases c with
  | true => exact h1 rfl
  | false => exact h2 rfl
theorem loopP {α A W' : Type} {P : α → Prop} {s : Stp A W'} {n1 : A → α} {n2 : W' → α} (h1 : ∀ a, s = .next a → P (n1 a)) (h2 : ∀ p, s = .out p → P (n2 p)) : P (Stp.elim n1 n2 s) := by
  cases s with
  | next a => exact h1 a rfl
  | out p => exact h2 p rfl

theorem optT {α β γ : Type} {f : α → β} {o : Option γ} {x : β} {y : α} {X : γ → β} {Y : γ → α} (h : x = f y) (h2 : ∀ a, X a = f (Y a)) : optK o x X = f (optK o y Y) := by
  cases o with
  | none => exact h
  | some a => exact h2 a

theorem sumT {α β γ δ : Type} {f : α → β} {X : γ → β} {Y : δ → β} {X' : γ → α} {Y' : δ → α} {w : γ ⊕ δ} (h1 : ∀ a, X a = f (X' a)) (h2 : ∀ a, Y a = f (Y' a)) : Sum.elim X Y w = f (Sum.elim X' Y' w) := by
  cases w with
  | inl a => exact h1 a
  | inr a => exact h2 a
end Go.Proofs.YtcjbalpokdgicaaDoor
