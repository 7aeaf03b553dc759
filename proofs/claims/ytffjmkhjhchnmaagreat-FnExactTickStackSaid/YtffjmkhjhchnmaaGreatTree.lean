/- Trees of what a text comes to: how one runs, what it gives if no guard fails, that none fails. Nothing of the dump is named here. -/
import Derived.Test.YtffjmkhjhchnmaaGreatShp
set_option linter.unusedVariables false
set_option linter.unusedSimpArgs false
namespace Go.Proofs.YtffjmkhjhchnmaaGreat
open Go
@[reducible] def aY {α:Type} (v:List α) (i:Int):Bool:=decide (0≤i)&&decide (i<(v.length:Int))
@[reducible] def Q1 {α:Type} (v:List α) (i j:Int):Bool:=decide (0≤i)&&decide (i≤j)&&decide (j≤(v.length:Int))
@[reducible] def El {α:Type} (v:List α) (m b:Nat):Bool:=Nat.ble ((2*(v.length+m)+1024)*b) aD
inductive Stp (A W:Type) where
 |next (a:A)|out (w:W)
def Stp.elim {A W γ:Type}(n:A→γ)(o:W→γ):Stp A W→γ
 | .next a=>n a
 | .out w=>o w
structure Lp (W A P:Type) where
 m:Option W
 e:A→W
 o:P→W
 s:Stp A P
def Lp.ok {W A P:Type}(L:Lp W A P):Prop:=L.m=some (Stp.elim L.e L.o L.s)
structure Fnc (A R:Type)(p:A→Prop)(q:A→R→Prop) where
 f:A→R
 h:∀a,p a→q a (f a)
noncomputable def dc (p:Prop):Bool:= @decide p (Classical.propDecidable p)
theorem KU {p:Prop}(h:p):dc p=true:= @decide_eq_true p (Classical.propDecidable p) h
theorem K7 {p:Prop}(h:dc p=true):p:= @of_decide_eq_true p (Classical.propDecidable p) h
def Lp.okI {W A P:Type}(L:Lp W A P)(I:A→Prop)(J:P→Prop):Prop:=L.ok∧(∀a,L.s= .next a→I a)∧∀p,L.s= .out p→J p
inductive Tr:Type→Type 1 where
 |r {α:Type} (a:α):Tr α
 |u {α:Type} (b:Bool) (t e:Tr α):Tr α
 |grd {α:Type} (b:Bool) (t:Tr α):Tr α
 |ngd {α:Type} (b:Bool) (t:Tr α):Tr α
 |d {α β:Type} (e:β) (k:β→Tr α):Tr α
 |l {α A R:Type} {p:A→Prop} {q:A→R→Prop} (X:Fnc A R p q) (a:A) (k:R→Tr α):Tr α
 |lp {α W A P:Type} (L:Lp W A P) (k:W→Tr α):Tr α
 |bnd {α β:Type} (t:Tr β) (k:β→Tr α):Tr α
 |sum {α β δ:Type} (s:β⊕δ) (f:β→Tr α) (g:δ→Tr α):Tr α
namespace Tr
noncomputable def run:{α:Type}→Tr α→{γ:Type}→γ→(α→γ)→γ
 |_,.r a,_,_,k=>k a
 |_,.u b t e,_,z,k=>C6 b (t.run z k) (e.run z k)
 |_,.grd b t,_,z,k=>C6 b (t.run z k) z
 |_,.ngd b t,_,z,k=>C6 b z (t.run z k)
 |_,.d e f,_,z,k=>jt e λv=>(f v).run z k
 |_,.l (p:=p) X a f,_,z,k=>C6 (dc (p a)) (jt (X.f a) λv=>(f v).run z k) z
 |_,.lp L f,_,z,k=>rJ L.m z λw=>(f w).run z k
 |_,.bnd t f,_,z,k=>rJ (t.run none some) z λv=>(f v).run z k
 |_,.sum s f g,_,z,k=>Sum.elim (λx=>(f x).run z k) (λy=>(g y).run z k) s
def nice:{α:Type}→Tr α→α
 |_,.r a=>a
 |_,.u b t e=>bif b then t.nice else e.nice
 |_,.grd _ t=>t.nice
 |_,.ngd _ t=>t.nice
 |_,.d e f=>jt e λv=>(f v).nice
 |_,.l X a f=>jt (X.f a) λv=>(f v).nice
 |_,.lp L f=>Stp.elim (λa=>(f (L.e a)).nice) (λp=>(f (L.o p)).nice) L.s
 |_,.bnd t f=>jt t.nice λv=>(f v).nice
 |_,.sum s f g=>Sum.elim (λx=>(f x).nice) (λy=>(g y).nice) s
def okQ:{α:Type}→Tr α→(α→Prop)→Prop
 |_,.r a,Q=>Q a
 |_,.u b t e,Q=>(b=true→t.okQ Q)∧(b=false→e.okQ Q)
 |_,.grd b t,Q=>b=true∧t.okQ Q
 |_,.ngd b t,Q=>b=false∧t.okQ Q
 |_,.d e f,Q=>∀v,v=e→(f v).okQ Q
 |_,.l (p:=p) (q:=q) X a f,Q=>p a∧∀v,v=X.f a→q a v→(f v).okQ Q
 |_,.lp L f,Q=>L.ok∧(∀a,L.s= .next a→(f (L.e a)).okQ Q)∧∀p,L.s= .out p→(f (L.o p)).okQ Q
 |_,.bnd t f,Q=>t.okQ (λ_=>True)∧∀v,v=t.nice→(f v).okQ Q
 |_,.sum s f g,Q=>(∀x,s= .inl x→(f x).okQ Q)∧∀y,s= .inr y→(g y).okQ Q
def ok {α:Type}(t:Tr α):Prop:=t.okQ λ_=>True
def free:{α:Type}→Tr α→Bool
 |_,.r _=>true
 |_,.u _ t e=>t.free&&e.free
 |_,.d e f=>(f e).free
 |_,.bnd t f=>t.free&&(f t.nice).free
 |_,_=>false
def map {β:Type}:{α:Type}→(α→β)→Tr α→Tr β
 |_,h,.r a=> .r (h a)
 |_,h,.u b t e=> .u b (map h t) (map h e)
 |_,h,.grd b t=> .grd b (map h t)
 |_,h,.ngd b t=> .ngd b (map h t)
 |_,h,.d e f=> .d e λv=>map h (f v)
 |_,h,.l X a f=> .l X a λv=>map h (f v)
 |_,h,.lp L f=> .lp L λv=>map h (f v)
 |_,h,.bnd t f=> .bnd t λv=>map h (f v)
 |_,h,.sum s f g=> .sum s (λx=>map h (f x)) λy=>map h (g y)
theorem okQ.to:∀{α:Type} {t:Tr α} {Q Q':α→Prop},t.okQ Q→(∀a,Q a→Q' a)→t.okQ Q'
 |_,.r a,_,_,h,k=>k a h
 |_,.u _ t e,_,_,h,k=>⟨λhb=>okQ.to (h.1 hb) k,λhb=>okQ.to (h.2 hb) k⟩
 |_,.grd _ t,_,_,h,k=>⟨h.1,okQ.to (t:=t) h.2 k⟩
 |_,.ngd _ t,_,_,h,k=>⟨h.1,okQ.to (t:=t) h.2 k⟩
 |_,.d _ _,_,_,h,k=>λv hv=>okQ.to (h v hv) k
 |_,.l _ _ _,_,_,h,k=>⟨h.1,λv hv hq=>okQ.to (h.2 v hv hq) k⟩
 |_,.lp _ _,_,_,h,k=>⟨h.1,λa ha=>okQ.to (h.2.1 a ha) k,λp hp=>okQ.to (h.2.2 p hp) k⟩
 |_,.bnd _ _,_,_,h,k=>⟨h.1,λv hv=>okQ.to (h.2 v hv) k⟩
 |_,.sum _ _ _,_,_,h,k=>⟨λx hx=>okQ.to (h.1 x hx) k,λy hy=>okQ.to (h.2 y hy) k⟩
theorem okQ.q:∀{α:Type} {t:Tr α} {Q:α→Prop},t.okQ Q→Q t.nice
 |_,.r a,_,h=>h
 |_,.u b t e,_,h=>by
  cases b with
  |true=>exact okQ.q (t:=t) (h.1 rfl)
  |false=>exact okQ.q (t:=e) (h.2 rfl)
 |_,.grd _ t,_,h=>okQ.q (t:=t) h.2
 |_,.ngd _ t,_,h=>okQ.q (t:=t) h.2
 |_,.d e f,_,h=>okQ.q (t:=f e) (h e rfl)
 |_,.l X a f,_,h=>okQ.q (t:=f (X.f a)) (h.2 _ rfl (X.h a h.1))
 |_,.lp L f,Q,h=>by
  obtain⟨_,h2,h3⟩:=h
  simp only[nice]
  cases hs:L.s with
  |next a=>exact okQ.q (t:=f (L.e a)) (h2 a hs)
  |out p=>exact okQ.q (t:=f (L.o p)) (h3 p hs)
 |_,.bnd t f,_,h=>okQ.q (t:=f t.nice) (h.2 _ rfl)
 |_,.sum s f g,_,h=>by
  cases s with
  |inl x=>exact okQ.q (t:=f x) (h.1 x rfl)
  |inr y=>exact okQ.q (t:=g y) (h.2 y rfl)
theorem run_okQ:∀{α:Type} (t:Tr α) {Q:α→Prop},t.okQ Q→∀{γ:Type} (z:γ) (k:α→γ),t.run z k=k t.nice
 |_,.r a,_,_,_,z,k=>rfl
 |_,.u b t e,_,h,_,z,k=>by
  cases b with
  |true=>exact run_okQ t (h.1 rfl) z k
  |false=>exact run_okQ e (h.2 rfl) z k
 |_,.grd b t,_,h,_,z,k=>by
  obtain⟨hb,h⟩:=h
  subst hb
  exact run_okQ t h z k
 |_,.ngd b t,_,h,_,z,k=>by
  obtain⟨hb,h⟩:=h
  subst hb
  exact run_okQ t h z k
 |_,.d e f,_,h,_,z,k=>run_okQ (f e) (h e rfl) z k
 |_,.l X a f,_,h,_,z,k=>by
  simp only[run,nice,KU h.1,BT]
  exact run_okQ (f (X.f a)) (h.2 _ rfl (X.h a h.1)) z k
 |_,.lp L f,_,h,_,z,k=>by
  obtain⟨h1,h2,h3⟩:=h
  simp only[run,nice,show L.m=_ from h1]
  cases hs:L.s with
  |next a=>exact run_okQ (f (L.e a)) (h2 a hs) z k
  |out p=>exact run_okQ (f (L.o p)) (h3 p hs) z k
 |_,.bnd t f,_,h,_,z,k=>by
  simp only[run,nice,run_okQ t h.1]
  exact run_okQ (f t.nice) (h.2 _ rfl) z k
 |_,.sum s f g,_,h,_,z,k=>by
  cases s with
  |inl x=>exact run_okQ (f x) (h.1 x rfl) z k
  |inr y=>exact run_okQ (g y) (h.2 y rfl) z k
theorem run_opt:∀{α:Type} (t:Tr α) {γ:Type} (z:γ) (k:α→γ),t.run z k=rJ (t.run none some) z k
 |_,.r a,_,z,k=>rfl
 |_,.u b t e,_,z,k=>by
  cases b with
  |true=>exact run_opt t z k
  |false=>exact run_opt e z k
 |_,.grd b t,_,z,k=>by
  cases b with
  |true=>exact run_opt t z k
  |false=>rfl
 |_,.ngd b t,_,z,k=>by
  cases b with
  |true=>rfl
  |false=>exact run_opt t z k
 |_,.d e f,_,z,k=>run_opt (f e) z k
 |_,.l (p:=p) X a f,_,z,k=>by
  simp only[run]
  cases dc (p a)with
  |true=>exact run_opt (f (X.f a)) z k
  |false=>rfl
 |_,.lp L f,_,z,k=>by
  simp only[run]
  cases L.m with
  |none=>rfl
  |some w=>exact run_opt (f w) z k
 |_,.bnd t f,_,z,k=>by
  simp only[run]
  cases(t.run none some:Option _)with
  |none=>rfl
  |some w=>exact run_opt (f w) z k
 |_,.sum s f g,_,z,k=>by
  cases s with
  |inl x=>exact run_opt (f x) z k
  |inr y=>exact run_opt (g y) z k
theorem ok_of_free:∀{α:Type} (t:Tr α) {Q:α→Prop},t.free=true→Q t.nice→t.okQ Q
 |_,.r _,_,_,k=>k
 |_,.u b t e,_,h,k=>by
  simp only[free,Bool.and_eq_true]at h
  exact⟨λhb=>ok_of_free t h.1 (by subst hb;exact k),λhb=>ok_of_free e h.2 (by subst hb;exact k)⟩
 |_,.d e f,_,h,k=>λv hv=>by subst hv;exact ok_of_free (f v) h k
 |_,.bnd t f,_,h,k=>by
  simp only[free,Bool.and_eq_true]at h
  exact⟨ok_of_free t h.1 trivial,λv hv=>by subst hv;exact ok_of_free (f t.nice) h.2 k⟩
 |_,.grd _ _,_,h,_=>by cases h
 |_,.ngd _ _,_,h,_=>by cases h
 |_,.l _ _ _,_,h,_=>by cases h
 |_,.lp _ _,_,h,_=>by cases h
 |_,.sum _ _ _,_,h,_=>by cases h
theorem nice_map {β:Type}:∀{α:Type} (h:α→β) (t:Tr α),(map h t).nice=h t.nice
 |_,h,.r a=>rfl
 |_,h,.u b t e=>by
  cases b with
  |true=>exact nice_map h t
  |false=>exact nice_map h e
 |_,h,.grd b t=>nice_map h t
 |_,h,.ngd b t=>nice_map h t
 |_,h,.d e f=>nice_map h (f e)
 |_,h,.l X a f=>nice_map h (f (X.f a))
 |_,h,.lp L f=>by
  simp only[map,nice]
  cases L.s with
  |next a=>exact nice_map h (f (L.e a))
  |out p=>exact nice_map h (f (L.o p))
 |_,h,.bnd t f=>nice_map h (f t.nice)
 |_,h,.sum s f g=>by
  cases s with
  |inl x=>exact nice_map h (f x)
  |inr y=>exact nice_map h (g y)
theorem ok_map {β:Type}:∀{α:Type} (h:α→β) (t:Tr α) {Q:α→Prop},t.okQ Q→(map h t).ok
 |_,h,.r a,_,_=>trivial
 |_,h,.u b t e,_,k=>⟨λhb=>ok_map h t (k.1 hb),λhb=>ok_map h e (k.2 hb)⟩
 |_,h,.grd b t,_,k=>⟨k.1,ok_map h t k.2⟩
 |_,h,.ngd b t,_,k=>⟨k.1,ok_map h t k.2⟩
 |_,h,.d e f,_,k=>λv hv=>ok_map h (f v) (k v hv)
 |_,h,.l X a f,_,k=>⟨k.1,λv hv hq=>ok_map h (f v) (k.2 v hv hq)⟩
 |_,h,.lp L f,_,k=>⟨k.1,λa ha=>ok_map h _ (k.2.1 a ha),λp hp=>ok_map h _ (k.2.2 p hp)⟩
 |_,h,.bnd t f,_,k=>⟨k.1,λv hv=>ok_map h (f v) (k.2 v hv)⟩
 |_,h,.sum s f g,_,k=>⟨λx hx=>ok_map h _ (k.1 x hx),λy hy=>ok_map h _ (k.2 y hy)⟩
variable {α β δ W A P:Type} {Q:α→Prop}
theorem R {a:α}(h:Q a):(Tr.r a).okQ Q:=h
theorem Rn {a:A}{I:A→Prop}{J:P→Prop}(h:I a):(Tr.r (Stp.next a)).okQ (Stp.elim I J):=h
theorem Ro {a:P}{I:A→Prop}{J:P→Prop}(h:J a):(Tr.r (Stp.out a)).okQ (Stp.elim I J):=h
theorem F {t:Tr α}(h:t.free=true)(k:Q t.nice):t.okQ Q:=ok_of_free t h k
theorem I {b:Bool}{t e:Tr α}(h1:b=true→t.okQ Q)(h2:b=false→e.okQ Q):(Tr.u b t e).okQ Q:=⟨h1,h2⟩
theorem G {b:Bool}{t:Tr α}(h1:b=true)(h2:b=true→t.okQ Q):(Tr.grd b t).okQ Q:=⟨h1,h2 h1⟩
theorem G1 {a:Prop}[Decidable a]{t:Tr α}(h1:a)(h2:a→t.okQ Q):(Tr.grd (decide a) t).okQ Q:=⟨decide_eq_true h1,h2 h1⟩
theorem G2 {a b:Prop}[Decidable a][Decidable b]{t:Tr α}(h1:a∧b)(h2:a∧b→t.okQ Q):(Tr.grd (decide a&&decide b) t).okQ Q:=⟨by simp[h1.1,h1.2],h2 h1⟩
theorem G3 {a b c:Prop}[Decidable a][Decidable b][Decidable c]{t:Tr α}(h1:a∧b∧c)(h2:a∧b∧c→t.okQ Q):(Tr.grd (decide a&&decide b&&decide c) t).okQ Q:=⟨by simp[h1.1,h1.2.1,h1.2.2],h2 h1⟩
theorem G4 {a b c d:Prop}[Decidable a][Decidable b][Decidable c][Decidable d]{t:Tr α}(h1:a∧b∧c∧d)(h2:a∧b∧c∧d→t.okQ Q):(Tr.grd (decide a&&decide b&&decide c&&decide d) t).okQ Q:=⟨by simp[h1.1,h1.2.1,h1.2.2.1,h1.2.2.2],h2 h1⟩
theorem Gb {a b:Nat}{t:Tr α}(h1:a≤b)(h2:a≤b→t.okQ Q):(Tr.grd (Nat.ble a b) t).okQ Q:=⟨by simpa using h1,h2 h1⟩
theorem N {b:Bool}{t:Tr α}(h1:b=false)(h2:b=false→t.okQ Q):(Tr.ngd b t).okQ Q:=⟨h1,h2 h1⟩
theorem V {e:β}{k:β→Tr α}(h:∀v,v=e→(k v).okQ Q):(Tr.d e k).okQ Q:=h
theorem C {A R:Type}{p:A→Prop}{q:A→R→Prop}{X:Fnc A R p q}{a:A}{k:R→Tr α}(h1:p a)(h2:∀v,v=X.f a→q a v→(k v).okQ Q):(Tr.l X a k).okQ Q:=⟨h1,h2⟩
theorem L {l:Lp W A P}{k:W→Tr α}{I:A→Prop}{J:P→Prop}(h1:l.okI I J)(h2:∀a,I a→(k (l.e a)).okQ Q)(h3:∀p,J p→(k (l.o p)).okQ Q):(Tr.lp l k).okQ Q:=⟨h1.1,λa ha=>h2 a (h1.2.1 a ha),λp hp=>h3 p (h1.2.2 p hp)⟩
theorem B {t:Tr β}{k:β→Tr α}{Q':β→Prop}(h1:t.okQ Q')(h2:∀v,v=t.nice→Q' v→(k v).okQ Q):(Tr.bnd t k).okQ Q:=⟨okQ.to h1 λ_ _=>trivial,λv hv=>h2 v hv (hv▸h1.q)⟩
theorem S {s:β⊕δ}{f:β→Tr α}{g:δ→Tr α}(h1:∀x,s= .inl x→(f x).okQ Q)(h2:∀y,s= .inr y→(g y).okQ Q):(Tr.sum s f g).okQ Q:=⟨h1,h2⟩
theorem E {s:β⊕δ}{f:β→Tr α}{g:δ→Tr α}{J1:β→Prop}{J2:δ→Prop}(hq:Sum.elim J1 J2 s)(h1:∀x,J1 x→(f x).okQ Q)(h2:∀y,J2 y→(g y).okQ Q):(Tr.sum s f g).okQ Q:=by
 cases s with
 |inl x=>exact⟨λy hy=>by cases hy;exact h1 x hq,λy hy=>by cases hy⟩
 |inr x=>exact⟨λy hy=>(by cases hy),λy hy=>by cases hy;exact h2 x hq⟩
theorem Sl {x:β}{f:β→Tr α}{g:δ→Tr α}(h:(f x).okQ Q):(Tr.sum (.inl x) f g).okQ Q:=⟨λy hy=>by cases hy;exact h,λy hy=>by cases hy⟩
theorem Sr {x:δ}{f:β→Tr α}{g:δ→Tr α}(h:(g x).okQ Q):(Tr.sum (.inr x) f g).okQ Q:=⟨λy hy=>(by cases hy),λy hy=>by cases hy;exact h⟩
theorem W2 {J:β⊕δ→Prop}{M:β⊕δ→Prop}(h1:∀p,J (.inl p)→M (.inl p))(h2:∀p,J (.inr p)→M (.inr p)):∀p,J p→M p
 | .inl p=>h1 p
 | .inr p=>h2 p
def as {α:Type}(_:α→Prop)(t:Tr α):Tr α:=t
theorem Ba {t:Tr β}{k:β→Tr α}{Q':β→Prop}(h1:t.okQ Q')(h2:∀v,v=t.nice→Q' v→(k v).okQ Q):(Tr.bnd (Tr.as Q' t) k).okQ Q:=B h1 h2
theorem Bs {t:Tr (β⊕δ)}{k:β⊕δ→Tr α}{J1:β→Prop}{J2:δ→Prop}(h1:t.okQ (Sum.elim J1 J2))(h2:∀v,Sum.elim J1 J2 v→(k v).okQ Q):(Tr.bnd (Tr.as (Sum.elim J1 J2) t) k).okQ Q:=B h1 λv _=>h2 v
theorem WE {J1:β→Prop}{J2:δ→Prop}{M:β⊕δ→Prop}(h1:∀p,J1 p→M (.inl p))(h2:∀p,J2 p→M (.inr p)):∀p,Sum.elim J1 J2 p→M p
 | .inl p=>h1 p
 | .inr p=>h2 p
end Tr
structure FT (A R:Type)(p:A→Prop)(q:A→R→Prop) where
 T:A→Tr R
 h:∀a,p a→(T a).okQ (q a):=by
  repeat' first
   |with_reducible exact True.intro
   |refine Tr.WE ?_ ?_
   |refine Tr.W2 ?_ ?_
   |(with_reducible intro _;first|exact Empty.elim ‹_› |repeat cases ‹_×_›)
   |refine Tr.C ?_ ?_
   |refine Tr.I ?_ ?_
   |refine Tr.V ?_
   |refine Tr.G2 ?_ ?_
   |refine Tr.G3 ?_ ?_
   |refine Tr.G4 ?_ ?_
   |refine Tr.Gb ?_ ?_
   |refine Tr.G1 ?_ ?_
   |refine Tr.G ?_ ?_
   |refine Tr.Rn ?_
   |refine Tr.Ro ?_
   |refine Tr.R ?_
   |refine Tr.Bs ?_ ?_
   |refine Tr.Ba ?_ ?_
   |refine Tr.B (Q':=λ_=>True) ?_ ?_
   |refine Tr.Sl ?_
   |refine Tr.Sr ?_
   |refine Tr.S ?_ ?_
   |refine Tr.N ?_ ?_
  all_goals first
   |exact True.intro
   |((try simp only[LC.lp,LC.ct,Ct.lp,LW.lp,LW.cw,Cw.lp,Tr.nice,jt]at*)<;>grind)
def FT.f {A R:Type}{p:A→Prop}{q:A→R→Prop}(X:FT A R p q)(a:A):R:=(X.T a).nice
@[reducible] def FT.c {A R:Type} {p:A→Prop} {q:A→R→Prop} (X:FT A R p q):Fnc A R p q:=⟨X.f,λa h=>(X.h a h).q⟩
theorem ot {P1:Prop}{A R:Type}{p:A→Prop}{q:A→R→Prop}{T:A→Tr R}(g1:P1)(h:P1→∀a,p a→(T a).okQ (q a):=by
  intro hL1
  repeat' first
   |with_reducible exact True.intro
   |refine Tr.WE ?_ ?_
   |refine Tr.W2 ?_ ?_
   |(with_reducible intro _;first|exact Empty.elim ‹_› |repeat cases ‹_×_›)
   |refine Tr.C ?_ ?_
   |refine Tr.I ?_ ?_
   |refine Tr.V ?_
   |refine Tr.G2 ?_ ?_
   |refine Tr.G3 ?_ ?_
   |refine Tr.G4 ?_ ?_
   |refine Tr.Gb ?_ ?_
   |refine Tr.G1 ?_ ?_
   |refine Tr.G ?_ ?_
   |refine Tr.Rn ?_
   |refine Tr.Ro ?_
   |refine Tr.R ?_
   |refine Tr.Bs ?_ ?_
   |refine Tr.Ba ?_ ?_
   |refine Tr.B (Q':=λ_=>True) ?_ ?_
   |refine Tr.Sl ?_
   |refine Tr.Sr ?_
   |refine Tr.S ?_ ?_
   |refine Tr.N ?_ ?_
   |(apply Tr.L;first|apply hL1)
  all_goals clear hL1
  all_goals first
   |exact True.intro
   |((try simp only[LC.lp,LC.ct,Ct.lp,LW.lp,LW.cw,Cw.lp,Tr.nice,jt]at*)<;>grind)
  ):∀a,p a→(T a).okQ (q a):=h g1
theorem Rs {P1 P2 P3 P4:Prop}{A R:Type}{p:A→Prop}{q:A→R→Prop}{T:A→Tr R}(g1:P1)(g2:P2)(g3:P3)(g4:P4)(h:P1→P2→P3→P4→∀a,p a→(T a).okQ (q a):=by
  intro hL1 hL2 hL3 hL4
  repeat' first
   |with_reducible exact True.intro
   |refine Tr.WE ?_ ?_
   |refine Tr.W2 ?_ ?_
   |(with_reducible intro _;first|exact Empty.elim ‹_› |repeat cases ‹_×_›)
   |refine Tr.C ?_ ?_
   |refine Tr.I ?_ ?_
   |refine Tr.V ?_
   |refine Tr.G2 ?_ ?_
   |refine Tr.G3 ?_ ?_
   |refine Tr.G4 ?_ ?_
   |refine Tr.Gb ?_ ?_
   |refine Tr.G1 ?_ ?_
   |refine Tr.G ?_ ?_
   |refine Tr.Rn ?_
   |refine Tr.Ro ?_
   |refine Tr.R ?_
   |refine Tr.Bs ?_ ?_
   |refine Tr.Ba ?_ ?_
   |refine Tr.B (Q':=λ_=>True) ?_ ?_
   |refine Tr.Sl ?_
   |refine Tr.Sr ?_
   |refine Tr.S ?_ ?_
   |refine Tr.N ?_ ?_
   |(apply Tr.L;first|apply hL1|apply hL2|apply hL3|apply hL4)
  all_goals clear hL1 hL2 hL3 hL4
  all_goals first
   |exact True.intro
   |((try simp only[LC.lp,LC.ct,Ct.lp,LW.lp,LW.cw,Cw.lp,Tr.nice,jt]at*)<;>grind)
  ):∀a,p a→(T a).okQ (q a):=h g1 g2 g3 g4
structure FF (A R:Type) where
 T:A→Tr R
def FF.f {A R:Type}(X:FF A R)(a:A):R:=(X.T a).nice
noncomputable def tj {V W:Type}(B:V→Tr (V⊕W)):Nat→V→Option W
 |0,_=>none
 |m+1,v=>(B v).run none λr=>Sum.elim (λv'=>tj B m v') (λw=>some w) r
def a9 {A W:Type}(f:Int→A→Stp A W)(st:Int):Nat→Int→A→Stp A W
 |0,_,a=> .next a
 |k+1,i,a=>Stp.elim (λa'=>a9 f st k (i+st) a') (λw=> .out w) (f i a)
def cR {A P V W:Type}(c:Bool)(T:Tr (Stp A P))(n:A→V)(o:P→W)(e:W):Tr (V⊕W):= .u c (T.map (Stp.elim (λa=> .inl (n a)) λp=> .inr (o p))) (.r (.inr e))
theorem Rx {V W A P:Type}{B:V→Tr (V⊕W)}{mk:Int→A→V}{T:Int→A→Tr (Stp A P)}{o:P→W}{e:Int→A→W}{c:Int→A→Bool}{n:Int→Int}{st:Int}(Inv:Int→A→Prop)(J:P→Prop)
  (hB:∀j a,B (mk j a)=cR (c j a) (T j a) (mk (n j)) o (e j a)):∀(k:Nat) (i:Int) (a:A) (m:Nat),k<m→Inv i a→
  (∀(j:Nat) (a:A),j<k→Inv (i+st*j) a→(c (i+st*j) a=true∧n (i+st*j)=i+st*j+st)∧(T (i+st*j) a).okQ (Stp.elim (Inv (i+st*j+st)) J))→
  (∀(a:A),Inv (i+st*k) a→c (i+st*k) a=false)→
  tj B m (mk i a)=some (Stp.elim (λa'=>e (i+st*k) a') o (a9 (λj a=>(T j a).nice) st k i a))∧(∀a',a9 (λj a=>(T j a).nice) st k i a= .next a'→Inv (i+st*k) a')∧∀p,a9 (λj a=>(T j a).nice) st k i a= .out p→J p
 |0,i,a,0,hm,_,_,_=>absurd hm (Nat.lt_irrefl _)
 |k+1,i,a,0,hm,_,_,_=>absurd hm (Nat.not_lt_zero _)
 |0,i,a,m+1,_,h0,_,h2=>by
  have e0:i+st*((0:Nat):Int)=i:=by simp
  have:=h2 a (by rw[e0];exact h0)
  rw[e0]at this
  refine⟨?_,λa' ha=> ?_,λp hp=>by cases hp⟩
  ·simp only[tj,hB,cR,this,Tr.run,Ea,a9,Stp.elim,Sum.elim_inr]
   rw[e0]
  ·cases ha;rw[e0];exact h0
 |k+1,i,a,m+1,hm,h0,h1,h2=>by
  have e0:i+st*((0:Nat):Int)=i:=by simp
  have es:∀j:Nat,i+st+st*(j:Int)=i+st*((j+1:Nat):Int):=by
   intro j
   rw[Int.natCast_add,Int.mul_add,show((1:Nat):Int)=1 from rfl,Int.mul_one]
   generalize st*(j:Int)=q
   omega
  obtain⟨⟨hc,hn⟩,hok⟩:=h1 0 a (Nat.succ_pos _) (by rw[e0];exact h0)
  rw[e0]at hc hn hok
  have hq:=hok.q
  simp only[tj,hB,cR,hc,Tr.run,BT,a9]
  rw[Tr.run_okQ _ (Tr.ok_map _ _ hok),Tr.nice_map]
  cases hf:(T i a).nice with
  |out w=>
   rw[hf]at hq
   refine⟨rfl, ?_, ?_⟩
   ·intro a' ha;cases ha
   ·intro p hp;cases hp;exact hq
  |next a'=>
   rw[hf]at hq
   simp only[Stp.elim,Sum.elim_inl,hn]
   have:=Rx (V:=V) (W:=W) (B:=B) (mk:=mk) (T:=T) (e:=e) (o:=o) (c:=c) (n:=n) (st:=st) Inv J hB k (i+st) a' m (by omega) hq (by
    intro j a hj ha
    rw[es]at ha⊢
    exact h1 (j+1) a (by omega) ha) (by
    intro a ha
    rw[es]at ha⊢
    exact h2 a ha)
   rw[es]at this
   exact this
def up (i:Int):Int:=IntKind.wrap .i64 (i+1)
def dn (i:Int):Int:=IntKind.wrap .i64 (i-1)
structure Ct (V W A P:Type) where
 m:Int→A→V
 c:Int→A→Bool
 T:Int→A→Tr (Stp A P)
 n:Int→Int
 o:P→W
 e:Int→A→W
namespace Ct
variable {V W A P:Type}
def f (C:Ct V W A P)(i:Int)(a:A):Stp A P:=(C.T i a).nice
def rd (C:Ct V W A P)(i:Int)(a:A):Tr (V⊕W):=cR (C.c i a) (C.T i a) (C.m (C.n i)) C.o (C.e i a)
noncomputable def lp (C:Ct V W A P)(B:V→Tr (V⊕W))(st:Int)(k:Nat)(i:Int)(a:A):Lp W A P:=⟨tj B (k+1) (C.m i a),λa=>C.e (i+st*(k:Int)) a,C.o,a9 C.f st k i a⟩
theorem ok (C:Ct V W A P){B:V→Tr (V⊕W)}(hB:∀j a,B (C.m j a)=C.rd j a){st:Int}(Inv:Int→A→Prop)(J:P→Prop){k:Nat}{i:Int}{a:A}(h0:Inv i a)
  (h1:∀(j:Nat) (a:A),j<k→Inv (i+st*j) a→(C.c (i+st*j) a=true∧C.n (i+st*j)=i+st*j+st)∧(C.T (i+st*j) a).okQ (Stp.elim (Inv (i+st*j+st)) J))
  (h2:∀(a:A),Inv (i+st*k) a→C.c (i+st*k) a=false):(C.lp B st k i a).okI (Inv (i+st*k)) J:=
 Rx Inv J hB k i a (k+1) (Nat.lt_succ_self _) h0 h1 h2
end Ct
theorem MH {i:Int}(h:0≤i)(h1:i<4611686018427387905):up i=i+1:=by
 unfold up IntKind.wrap
 simp only[IntKind.signed,IntKind.bits]
 simp
 omega
theorem RG {i:Int}(h:0≤i)(h1:i≤9223372036854775807):dn i=i+ -1:=by
 unfold dn IntKind.wrap
 simp only[IntKind.signed,IntKind.bits]
 simp
 omega
theorem Ct.okU {V W A P:Type}(C:Ct V W A P){B:V→Tr (V⊕W)}(hB:∀j a,B (C.m j a)=C.rd j a)(Inv:Int→A→Prop)(J:P→Prop)(N:Int){i:Int}{a:A}(hc:∀j a,C.c j a=decide (j<N))(hn:∀j,C.n j=up j)(hi:0≤i)(hN:N≤4611686018427387904)(h0:Inv i a)
  (h1:∀(j:Int) (a:A),i≤j→j<N→Inv j a→(C.T j a).okQ (Stp.elim (Inv (j+1)) J)):(C.lp B 1 (Int.toNat (N-i)) i a).okI (Inv (max i N)) J:=by
 have:=C.ok (st:=1) hB Inv J (k:=Int.toNat (N-i)) h0 (λj a hj hv=>⟨⟨by rw[hc,decide_eq_true_eq];omega,by rw[hn,MH (by omega) (by omega)]⟩,h1 _ a (by omega) (by omega) hv⟩) λa _=>by rw[hc,decide_eq_false_iff_not];omega
 rwa [show i+1*((Int.toNat (N-i):Nat):Int)=max i N by omega]at this
theorem Ct.okD {V W A P:Type}(C:Ct V W A P){B:V→Tr (V⊕W)}(hB:∀j a,B (C.m j a)=C.rd j a)(Inv:Int→A→Prop)(J:P→Prop)(N:Int){i:Int}{a:A}(hc:∀j a,C.c j a=decide (N≤j))(hn:∀j,C.n j=dn j)(hi:i≤9223372036854775807)(hN:0≤N)(h0:Inv i a)
  (h1:∀(j:Int) (a:A),N≤j→j≤i→Inv j a→(C.T j a).okQ (Stp.elim (Inv (j-1)) J)):(C.lp B (-1) (Int.toNat (i-N+1)) i a).okI (Inv (min i (N-1))) J:=by
 have:=C.ok (st:= -1) hB Inv J (k:=Int.toNat (i-N+1)) h0 (λj a hj hv=>⟨⟨by rw[hc,decide_eq_true_eq];omega,by rw[hn,RG (by omega) (by omega)]⟩,by have:=h1 _ a (by omega) (by omega) hv;exact this⟩) λa _=>by rw[hc,decide_eq_false_iff_not];omega
 rwa [show i+ -1*((Int.toNat (i-N+1):Nat):Int)=min i (N-1) by omega]at this
def iO {A W:Type}[Inhabited W](f:A→Stp A W):Nat→A→W
 |0,_=>default
 |n+1,a=>Stp.elim (iO f n) (λw=>w) (f a)
structure Cw (V W A P:Type) where
 m:A→V
 T:A→Tr (Stp A P)
 o:P→W
namespace Cw
variable {V W A P:Type}
def f (C:Cw V W A P)(a:A):Stp A P:=(C.T a).nice
def rd (C:Cw V W A P)(a:A):Tr (V⊕W):=(C.T a).map (Stp.elim (λa=> .inl (C.m a)) λp=> .inr (C.o p))
noncomputable def lp [Inhabited P](C:Cw V W A P)(B:V→Tr (V⊕W))(k:Nat)(a:A):Lp W Empty P:=⟨tj B (k+1) (C.m a),(λe:Empty=>Empty.elim e),C.o,.out (iO C.f (k+1) a)⟩
theorem whl [Inhabited P](C:Cw V W A P){B:V→Tr (V⊕W)}(hB:∀a,B (C.m a)=C.rd a)(Inv:A→Prop)(J:P→Prop)(meas:A→Nat)
  (h:∀a,Inv a→(C.T a).okQ (Stp.elim (λa'=>Inv a'∧meas a'<meas a) J)):
  ∀(m:Nat) (a:A),meas a<m→Inv a→tj B m (C.m a)=some (C.o (iO C.f m a))∧J (iO C.f m a)
 |0,a,hm,_=>absurd hm (Nat.not_lt_zero _)
 |m+1,a,hm,hi=>by
  have hok:=h a hi
  have hq:=hok.q
  simp only[tj,hB,rd,iO,f]
  rw[Tr.run_okQ _ (Tr.ok_map _ _ hok),Tr.nice_map]
  cases hf:(C.T a).nice with
  |out w=>rw[hf]at hq;exact⟨rfl,hq⟩
  |next a'=>
   rw[hf]at hq
   simp only[Stp.elim,Sum.elim_inl]at hq⊢
   exact whl C hB Inv J meas h m a' (by omega) hq.1
theorem ok [Inhabited P](C:Cw V W A P){B:V→Tr (V⊕W)}(hB:∀a,B (C.m a)=C.rd a)(Inv:A→Prop)(J:P→Prop)(meas:A→Nat){a:A}(h0:Inv a)
  (h:∀a,Inv a→(C.T a).okQ (Stp.elim (λa'=>Inv a'∧meas a'<meas a) J)):(C.lp B (meas a) a).okI (λ_=>True) J:=by
 obtain⟨h1,h2⟩:=C.whl hB Inv J meas h (meas a+1) a (Nat.lt_succ_self _) h0
 refine⟨h1, ?_, ?_⟩
 ·intro e;cases e
 ·intro p hp;cases hp;exact h2
end Cw
end Go.Proofs.YtffjmkhjhchnmaaGreat
