/- Contracts of functions, and what a call does. -/
import Derived.Test.YtfpdenjmlnhnnaaGreatApp
set_option linter.unusedVariables false
set_option linter.unusedSimpArgs false
namespace Go.Proofs.YtfpdenjmlnhnnaaGreat
open Go Go.RowKit
def aeR (N:Nat)(J Jn:Nat→Prop)(w:World)(m:Option (Nat×Nat))(d:Bool)(t:Ty)(xs:List t.T)(v:Value):Prop:=
 dD m xs.length v∧((m=none∧xs=[])∨∃b cap,m=some (b,cap)∧N≤b∧b<w.heap.size∧¬Jn b∧xs.length≤cap∧xs.length≤bc∧
  (∀j,j<cap*t.size→(w.cell? ⟨b,j,none⟩).isSome=true∧w.frozen? ⟨b,j,none⟩=false)∧
  ∀i e j c,xs[i]? =some e→(t.cells e)[j]? =some c→∃u,w.cell? ⟨b,i*t.size+j,none⟩=some u∧RepC (λb=>(J b∧d=false)∨Jn b) w c u)
def aeu (N:Nat)(J Jn:Nat→Prop)(w:World)(m:Option (Nat×Nat))(cs:List Cell)(v:Value):Prop:=
 ∃b,m=some (b,0)∧v= .pointer (some ⟨b,0,none⟩)∧N≤b∧b<w.heap.size∧¬Jn b∧(∀j c,cs[j]? =some c→∃u,w.cell? ⟨b,j,none⟩=some u∧RepC (λb=>J b∨Jn b) w c u)∧∀j,j<cs.length→w.frozen? ⟨b,j,none⟩=false
def fy:List RC→Nat
 |[]=>0
 | .c _::r=>fy r
 | .own _ _ _::r=>fy r+1
 | .box _::r=>fy r+1
 | .shr _ _::r=>fy r
def dC (N:Nat)(J Jn:Nat→Prop)(w:World)(mm:Nat→Option (Nat×Nat)):Nat→List RC→List Value→Prop
 |_,[],[]=>True
 |n,.c x::r,v::vs=>RepC (λb=>J b∨Jn b) w x v∧dC N J Jn w mm n r vs
 |n,.own d t xs::r,v::vs=>aeR N J Jn w (mm n) d t xs v∧dC N J Jn w mm (n+1) r vs
 |n,.box bs::r,v::vs=>aeu N J Jn w (mm n) bs v∧dC N J Jn w mm (n+1) r vs
 |_,_,_=>False
def F9 (N:Nat)(J Jn:Nat→Prop)(w:World)(mm:Nat→Option (Nat×Nat))(n:Nat)(ag:Bool)(qx:List RC)(v:Value):Prop:=
 match ag with
 |true=>∃us:Array Value,v= .agg us∧dC N J Jn w mm n qx us.toList
 |false=>v.oneCell'=true∧qx.length=1∧dC N J Jn w mm n qx [v]
def xo (N:Nat)(J Jn:Nat→Prop)(w:World)(mm:Nat→Option (Nat×Nat)):Nat→ff→List Value→Prop
 |_,[],[]=>True
 |n,r::rs,v::vs=>F9 N J Jn w mm n r.1 r.2 v∧xo N J Jn w mm (n+fy r.2) rs vs
 |_,_,_=>False
def sw (N:Nat)(J Jn:Nat→Prop)(w:World)(mm:Nat→Option (Nat×Nat))(R:ff)(v:Value):Prop:=
 match R with
 |[r]=>F9 N J Jn w mm 0 r.1 r.2 v
 |_=>∃us:Array Value,v= .tuple us∧xo N J Jn w mm 0 R us.toList
def ka (mo:pY)(J:Nat→Prop)(w:World)(m:Option (Nat×Nat)×Nat):MO→Prop
 | .box cs=>∃b,m.1=some (b,0)∧b<w.heap.size∧(∀j c,cs[j]? =some c→∃u,w.cell? ⟨b,j,none⟩=some u∧qt mo J w c u)∧∀j,j<cs.length→w.frozen? ⟨b,j,none⟩=false
 | .arr t xs=>m.2=xs.length∧((m.1=none∧xs=[])∨∃b cap,m.1=some (b,cap)∧b<w.heap.size∧xs.length≤cap∧xs.length≤bc∧
   (∀j,j<cap*t.size→(w.cell? ⟨b,j,none⟩).isSome=true∧w.frozen? ⟨b,j,none⟩=false)∧
   ∀i e j c,xs[i]? =some e→(t.cells e)[j]? =some c→∃u,w.cell? ⟨b,i*t.size+j,none⟩=some u∧RepC J w c u)
def acv:MC→MC→Prop
 | .c _,.c _=>True
 | .own k,.own j=>k=j
 |_,_=>False
def y7:MO→MO→Prop
 | .box cs,.box ds=>aW acv cs ds
 | .arr t _,.arr t' _=>t'=t
 |_,_=>False
def nZ (mo:pY)(N:Nat)(J Jn:Nat→Prop)(w:World)(mm:Nat→Option (Nat×Nat))(R:ff)(v:Value):Prop:=
 match R with
 |[(false,[.shr k n])]=>∃m,mo[k]? =some m∧n≤m.2∧dD m.1 n v
 |R=>sw N J Jn w mm R v
def Tv:ff→Bool
 |[(false,[.shr _ _])]=>false
 |_=>true
theorem nZ.old {mo:pY}{N:Nat}{J Jn:Nat→Prop}{w:World}{mm:Nat→Option (Nat×Nat)}{R:ff}{v:Value}(h:nZ mo N J Jn w mm R v)(hn:Tv R=true):sw N J Jn w mm R v:=by
 unfold nZ at h
 split at h
 ·cases hn
 ·exact h
theorem nZ.of {mo:pY}{N:Nat}{J Jn:Nat→Prop}{w:World}{mm:Nat→Option (Nat×Nat)}{R:ff}{v:Value}(h:sw N J Jn w mm R v):nZ mo N J Jn w mm R v:=by
 unfold nZ
 split
 ·exact h.2.2.elim
 ·exact h
def un (P:Program)(f:Nat)(A:List PV)(O:List MO)(R:ff)(O':List MO):Prop:=
 (∀args w,(callFunc f args).run P w= .ok (.enter f args) w)∧
 ∀(w:World) (J:Nat→Prop) (mo:pY) (vs:Array Value),(∀b,J b→b<w.heap.size)→aW (ka mo J w) mo O→(∀(i j b c c':Nat) (m m':Option (Nat×Nat)×Nat),mo[i]? =some m→mo[j]? =some m'→m.1=some (b,c)→m'.1=some (b,c')→i=j)→(∀b,mo.X b→¬J b)→GW w→(∀b,mo.X b→¬gB b)→aW (qg mo J w) A vs.toList→
  Calls P f vs w λe w'=>∃v Jn mm,e= .returned v∧BelowX w.heap.size mo.X w w'∧(∀b,Jn b→w.heap.size≤b∧b<w'.heap.size)∧
   (∀i j b c c',mm i=some (b,c)→mm j=some (b,c')→i=j)∧(∀i b c,mm i=some (b,c)→w.heap.size≤b)∧nZ mo w.heap.size J Jn w' mm R v∧aW (ka mo (λb=>J b∨Jn b) w') mo O'∧aW y7 O O'
abbrev M4 (P:Program)(f:Nat)(A:List PV)(R:ff):Prop:=un P f A [] R []
theorem PF {P:Program}{f:Nat}{fn:Func}{c:Code}(hf:P.funcs[f]? =some fn)(hb:fn.body=some c)(hn:(fn.name== "runtime.NumGoroutine")=false)(args:Array Value)(w:World):
  (callFunc f args).run P w= .ok (.enter f args) w:=by
 have hn':¬fn.name= "runtime.NumGoroutine" :=by simpa using hn
 simp[callFunc,hf,hb,hn']
theorem dC.unshare {N:Nat}{J J' Jn:Nat→Prop}{w:World}{mm:Nat→Option (Nat×Nat)}:∀{n:Nat} {qx:List RC} {vs:List Value},qx.any RC.shares=false→dC N J Jn w mm n qx vs→dC N J' Jn w mm n qx vs
 |_,[],[],_,h=>h
 |n,.c x::r,v::vs,hs,h=>by
  simp only[List.any_cons,Bool.or_eq_false_iff]at hs
  refine⟨h.1.anyJ ?_,dC.unshare hs.2 h.2⟩
  rintro t xs rfl
  cases hs.1
 |n,.own d t xs::r,v::vs,hs,h=>by
  simp only[List.any_cons,Bool.or_eq_false_iff]at hs
  refine⟨⟨h.1.1, ?_⟩,dC.unshare hs.2 h.2⟩
  rcases h.1.2 with h1|⟨b,cap,h1,h2,h3,h4,h5,h6,h7,h8⟩
  ·exact .inl h1
  ·refine .inr ⟨b,cap,h1,h2,h3,h4,h5,h6,h7,λi e j c he hc=> ?_⟩
   obtain⟨u,hu,hr⟩:=h8 i e j c he hc
   refine⟨u,hu, ?_⟩
   cases d with
   |true=>exact hr.mono (λ_ _=>rfl) (by rintro b (⟨_,h⟩|h)<;>first|cases h|exact .inr h)
   |false=>
    refine hr.anyJ ?_
    rintro t' ys rfl
    have h9:=hs.1
    simp only[RC.shares,Bool.not_false,Bool.true_and]at h9
    rw[u9 hc]at h9;cases h9
 |n,.box bs::r,v::vs,hs,h=>by
  simp only[List.any_cons,Bool.or_eq_false_iff]at hs
  refine⟨?_,dC.unshare hs.2 h.2⟩
  obtain⟨b,h1,h2,h3,h4,h5,h6,h7⟩:=h.1
  refine⟨b,h1,h2,h3,h4,h5,λj c hc=> ?_,h7⟩
  obtain⟨u,hu,hr⟩:=h6 j c hc
  refine⟨u,hu,hr.anyJ ?_⟩
  rintro t xs rfl
  have h9:=hs.1
  simp only[RC.shares,List.any_eq_false]at h9
  exact h9 _ (List.mem_of_getElem? hc) rfl
 |_,[],_::_,_,h=>h.elim
 |_,.c _::_,[],_,h=>h.elim
 |_,.own _ _ _::_,[],_,h=>h.elim
 |_,.box _::_,[],_,h=>h.elim
 |_,.shr _ _::_,[],_,h=>h.elim
 |_,.shr _ _::_,_::_,_,h=>h.elim
theorem dC.mono {N:Nat}{J J' Jn:Nat→Prop}{w:World}{mm:Nat→Option (Nat×Nat)}(hJ:∀b,J b→J' b):∀{n:Nat} {qx:List RC} {vs:List Value},dC N J Jn w mm n qx vs→dC N J' Jn w mm n qx vs
 |_,[],[],h=>h
 |n,.c x::r,v::vs,h=>⟨h.1.mono (λ_ _=>rfl) (λb hb=>hb.imp (hJ b) id),dC.mono hJ h.2⟩
 |n,.own d t xs::r,v::vs,h=>by
  refine⟨⟨h.1.1, ?_⟩,dC.mono hJ h.2⟩
  rcases h.1.2 with h1|⟨b,cap,h1,h2,h3,h4,h5,h6,h7,h8⟩
  ·exact .inl h1
  ·refine .inr ⟨b,cap,h1,h2,h3,h4,h5,h6,h7,λi e j c he hc=> ?_⟩
   obtain⟨u,hu,hr⟩:=h8 i e j c he hc
   exact⟨u,hu,hr.mono (λ_ _=>rfl) (λb hb=>hb.imp (λh=>⟨hJ b h.1,h.2⟩) id)⟩
 |n,.box bs::r,v::vs,h=>by
  refine⟨?_,dC.mono hJ h.2⟩
  obtain⟨b,h1,h2,h3,h4,h5,h6,h7⟩:=h.1
  refine⟨b,h1,h2,h3,h4,h5,λj c hc=> ?_,h7⟩
  obtain⟨u,hu,hr⟩:=h6 j c hc
  exact⟨u,hu,hr.mono (λ_ _=>rfl) (λb hb=>hb.imp (hJ b) id)⟩
 |_,[],_::_,h=>h.elim
 |_,.c _::_,[],h=>h.elim
 |_,.own _ _ _::_,[],h=>h.elim
 |_,.box _::_,[],h=>h.elim
 |_,.shr _ _::_,[],h=>h.elim
 |_,.shr _ _::_,_::_,h=>h.elim
section
variable {N:Nat} {J J' Jn:Nat→Prop} {w:World} {mm:Nat→Option (Nat×Nat)}
theorem F9.imp {n:Nat}{ag:Bool}{qx:List RC}{v:Value}(hh:∀n vs,dC N J Jn w mm n qx vs→dC N J' Jn w mm n qx vs)(h:F9 N J Jn w mm n ag qx v):F9 N J' Jn w mm n ag qx v:=by
 cases ag with
 |true=>obtain⟨us,hv,hu⟩:=h;exact⟨us,hv,hh _ _ hu⟩
 |false=>exact⟨h.1,h.2.1,hh _ _ h.2.2⟩
theorem xo.imp:∀{n:Nat} {R:ff} {vs:List Value},(∀r∈R,∀n vs,dC N J Jn w mm n r.2 vs→dC N J' Jn w mm n r.2 vs)→xo N J Jn w mm n R vs→xo N J' Jn w mm n R vs
 |_,[],[],_,h=>h
 |_,r::rs,v::vs,hh,h=>⟨h.1.imp (hh r (by simp)),xo.imp (λr hr=>hh r (List.mem_cons_of_mem _ hr)) h.2⟩
 |_,[],_::_,_,h=>h.elim
 |_,_::_,[],_,h=>h.elim
theorem sw.imp {R:ff}{v:Value}(hh:∀r∈R,∀n vs,dC N J Jn w mm n r.2 vs→dC N J' Jn w mm n r.2 vs)(h:sw N J Jn w mm R v):sw N J' Jn w mm R v:=by
 match R,hh,h with
 |[r],hh,h=>exact F9.imp (hh r (by simp)) h
 |[],hh,h=>obtain⟨us,hu1,hu2⟩:=h;exact⟨us,hu1,hu2.imp hh⟩
 |_::_::_,hh,h=>obtain⟨us,hu1,hu2⟩:=h;exact⟨us,hu1,hu2.imp hh⟩
theorem sw.settle {R:ff}{v:Value}(J':Nat→Prop)(h:sw N J Jn w mm R v)(hs:R.any (λr=>r.2.any RC.shares)=true→∀b,J b→J' b):sw N J' Jn w mm R v:=by
 cases hb:R.any (λr=>r.2.any RC.shares)with
 |true=>exact h.imp λr _ _ _ hh=>hh.mono (hs hb)
 |false=>
  refine h.imp λr hr _ _ hh=>hh.unshare ?_
  rw[List.any_eq_false]at hb
  have:=hb r hr
  simpa using this
end
section
variable {w0:World} {mo:pY} {n:Nat} {I0 I:Nat→Prop} {M:Nat→Option (Nat×Nat)} {s:FSt} {a:Act} {w:World}
theorem SimX.add (h:SimX w0 mo n I0 I M s a w){id:Nat}(hid:s.obj id=none){o:Ob}{m:Option (Nat×Nat)}(hfree:∀i b c c',s.obj i≠none→M i=some (b,c)→m=some (b,c')→False)(hmN:∀b c,m=some (b,c)→w0.heap.size≤b)
  (ho:∀(_:Ext (bf w0 I0 I M s w) ⟨w0.heap.size,I0,I,cd M id m,aR s.obj id o,w⟩),Fj ⟨w0.heap.size,I0,I,cd M id m,aR s.obj id o,w⟩ id o):
  Ext (bf w0 I0 I M s w) ⟨w0.heap.size,I0,I,cd M id m,aR s.obj id o,w⟩∧SimX w0 mo n I0 I (cd M id m) ⟨s.tmp,aR s.obj id o⟩ a w:=by
 have hne:∀i,s.obj i≠none→i≠id:=by rintro i hi rfl;exact hi hid
 have hext:Ext (bf w0 I0 I M s w) ⟨w0.heap.size,I0,I,cd M id m,aR s.obj id o,w⟩:=by
  refine⟨rfl,rfl,h.i00,λ_ hb=>hb,λb hb=>rfl,λi cs hi=> ?_,λi t xs v f d hi=> ?_⟩
  ·have hi':i≠id:=hne i (by simp only[]at hi;rw[hi];simp)
   exact⟨⟨cs,by simp only[aR,if_neg hi'];exact hi⟩,by simp only[cd,if_neg hi']⟩
  ·have hi':i≠id:=hne i (by simp only[]at hi;rw[hi];simp)
   exact⟨t,xs,v,f,d,by simp only[aR,if_neg hi'];exact hi,Nat.le_refl _,λ_=>⟨rfl,rfl,by simp only[cd,if_neg hi']⟩⟩
 refine⟨hext,h.turn hext (BelowX.refl _ _ _) h.ilt h.idiv (λi b c hi hM=>by
   by_cases e:i=id
   ·simp only[cd,if_pos e]at hM
    exact .inl (hmN b c hM)
   ·simp only[cd,if_neg e]at hM
    simp only[aR,if_neg e]at hi
    exact h.own i b c hi hM) ?_ ?_⟩
 ·intro i x hx
  by_cases e:i=id
  ·subst e
   simp only[aR,if_pos]at hx
   cases hx
   exact ho hext
  ·simp only[aR,if_neg e]at hx
   exact(h.objs i x hx).ext hext (by simp only[cd,if_neg e]) (Nat.le_refl _) λb cap hb=>⟨rfl,λy=>y⟩
 ·intro i j b c c' hi hj hb hb'
  by_cases ei:i=id<;>by_cases ej:j=id
  ·rw[ei,ej]
  ·simp only[cd,if_pos ei,if_neg ej]at hb hb'
   simp only[aR,if_neg ej]at hj
   exact(hfree j b c' c hj hb' hb).elim
  ·simp only[cd,if_pos ej,if_neg ei]at hb hb'
   simp only[aR,if_neg ei]at hi
   exact(hfree i b c c' hi hb hb').elim
  ·simp only[cd,if_neg ei,if_neg ej]at hb hb'
   simp only[aR,if_neg ei]at hi
   simp only[aR,if_neg ej]at hj
   exact h.inj i j b c c' hi hj hb hb'
def qc (obj:Nat→Option Ob)(base:Nat)(os:List Ob):Nat→Option Ob:=λid=>match ar (aZ base os) id with|some o=>some o|none=>obj id
theorem uU:∀{base:Nat} {os:List Ob} {i:Nat},i∈(aZ base os).map (·.1)→base≤i∧i<base+os.length
 |_,[],i,h=>by simp[aZ]at h
 |base,o::os,i,h=>by
  simp only[aZ,List.map_cons,List.mem_cons]at h
  rcases h with rfl|h
  ·simp
  ·have:=uU h
   simp;omega
theorem Ps:∀{base:Nat} {os:List Ob} {i:Nat},base≤i→i<base+os.length→i∈(aZ base os).map (·.1)
 |base,[],i,h1,h2=>by simp at h2;omega
 |base,o::os,i,h1,h2=>by
  simp only[aZ,List.map_cons,List.mem_cons]
  by_cases e:i=base
  ·exact .inl e
  ·exact .inr (Ps (by omega) (by simp at h2;omega))
theorem D7:∀(base:Nat) (os os':List Ob),aZ base (os++os')=aZ base os++aZ (base+os.length) os'
 |base,[],os'=>by simp[aZ]
 |base,o::os,os'=>by
  simp only[List.cons_append,aZ,D7 (base+1) os os',List.length_cons]
  rw[show base+1+os.length=base+(os.length+1) from by omega]
theorem zQ (obj:Nat→Option Ob)(base:Nat)(os os':List Ob):qc (qc obj base os) (base+os.length) os'=qc obj base (os++os'):=by
 funext id
 unfold qc
 rw[D7,eQ]
 cases h1:ar (aZ base os) id with
 |none=>rfl
 |some o=>
  have:ar (aZ (base+os.length) os') id=none:=by
   refine k9 λhc=> ?_
   have h2:=uU hc
   have h3:=uU (jI h1)
   omega
  rw[this]
def ZO (s:FSt)(M:Nat→Option (Nat×Nat))(mm:Nat→Option (Nat×Nat))(k:Nat):Prop:=
 ∀i id b c c',k≤i→s.obj id≠none→M id=some (b,c)→mm i=some (b,c')→False
theorem qW {base N:Nat}{J Jn:Nat→Prop}{mm:Nat→Option (Nat×Nat)}(hinj:∀i j b c c',mm i=some (b,c)→mm j=some (b,c')→i=j)(hN:w0.heap.size≤N)(hIN:∀b,N≤b→I b→Jn b)(hJ:∀b,J b→I b)
  (hJn:∀b,Jn b→I b∧w0.heap.size≤b):∀{k:Nat} {qx:List RC} {vs:List Value} {s:FSt} {M:Nat→Option (Nat×Nat)} {a:Act},SimX w0 mo n I0 I M s a w→dC N J Jn w mm k qx vs→ZO s M mm k→
   (∀id,base+k≤id→id<base+k+fy qx→s.obj id=none)→
   ∃M',Ext (bf w0 I0 I M s w) ⟨w0.heap.size,I0,I,M',qc s.obj (base+k) (aY (base+k) qx).2.1,w⟩∧SimX w0 mo n I0 I M' ⟨s.tmp,qc s.obj (base+k) (aY (base+k) qx).2.1⟩ a w∧
    aW (λc u=>bo ⟨w0.heap.size,I0,I,M',qc s.obj (base+k) (aY (base+k) qx).2.1,w⟩ c u∧u.oneCell'=true) (aY (base+k) qx).1 vs∧
    ZO ⟨s.tmp,qc s.obj (base+k) (aY (base+k) qx).2.1⟩ M' mm (k+fy qx)∧(aY (base+k) qx).2.2=base+k+fy qx∧(aY (base+k) qx).2.1.length=fy qx
 |k,[],[],s,M,a,h,_,hfr,_=>⟨M,Ext.refl h.i00,h,trivial,hfr,rfl,rfl⟩
 |k,.c x::r,v::vs,s,M,a,h,hr,hfr,hid=>by
  obtain⟨M',hext,hs,hall,hfr',hn,hl⟩:=qW hinj hN hIN hJ hJn h hr.2 hfr hid
  refine⟨M',hext,hs,⟨⟨?_,hr.1.one⟩,hall⟩,hfr',hn,hl⟩
  refine RepC.toD (p:= .any) (hr.1.mono (λ_ _=>rfl) ?_)
  rintro b (hb|hb)
  ·exact hJ b hb
  ·exact(hJn b hb).1
 |k,.own d t xs::r,v::vs,s,M,a,h,hr,hfr,hid=>by
  obtain⟨hval,hown⟩:=hr.1
  have hidk:s.obj (base+k)=none:=hid _ (Nat.le_refl _) (by simp[fy])
  have h1:v.oneCell'=true:=by
   cases hm:mm k with
   |none=>rw[hm]at hval;obtain⟨_,rfl⟩:=hval;rfl
   |some p=>obtain⟨b,cap⟩:=p;rw[hm]at hval;simp only[dD]at hval;rw[hval];rfl
  obtain⟨hext,hs⟩:=h.add hidk (o:= .arr t xs 0 false d) (m:=mm k) (λi b c c' hi hM hm=>hfr k i b c c' (Nat.le_refl _) hi hM hm) (λb c hm=>by
   rcases hown with⟨h0,_⟩|⟨b',cap,h0,h1,_⟩
   ·rw[h0]at hm;cases hm
   ·rw[h0]at hm;cases hm;exact Nat.le_trans hN h1) (by
   intro hext
   rcases hown with⟨hm,hx⟩|⟨b,cap,hm,hb1,hb2,hb3,hb4,hb5,hb6,hb7⟩
   ·exact .inl ⟨by simp only[cd,if_pos];exact hm,hx⟩
   ·refine .inr ⟨b,cap,by simp only[cd,if_pos];exact hm,λ_=>Nat.le_trans hN hb1,hb2,⟨λhI=>(hb3 (hIN b hb1 hI)).elim,by simp⟩,hb4,hb5,hb6,λi e j c he hc=> ?_⟩
    obtain⟨u,hu,hru⟩:=hb7 i e j c he hc
    refine⟨u,hu,hru.mono (λ_ _=>rfl) ?_⟩
    rintro b' (⟨hb',hd⟩|hb')
    ·subst hd;exact hJ b' hb'
    ·cases d
     ·exact(hJn b' hb').1
     ·exact hJn b' hb')
  have hfr1:ZO ⟨s.tmp,aR s.obj (base+k) (.arr t xs 0 false d)⟩ (cd M (base+k) (mm k)) mm (k+1):=by
   intro i id b c c' hki hid' hM hm
   by_cases e:id=base+k
   ·simp only[cd,if_pos e]at hM
    have:=hinj k i b c c' hM hm
    omega
   ·simp only[cd,if_neg e]at hM
    simp only[aR,if_neg e]at hid'
    exact hfr i id b c c' (by omega) hid' hM hm
  obtain⟨M',hext2,q0,hall,hfr',hn,hl⟩:=qW (base:=base) (k:=k+1) hinj hN hIN hJ hJn hs hr.2 hfr1 (by
   intro id h1 h2
   have hne:id≠base+k:=by omega
   simp only[aR,if_neg hne]
   exact hid id (by omega) (by simp only[fy];omega))
  have hfun:qc (aR s.obj (base+k) (.arr t xs 0 false d)) (base+(k+1)) (aY (base+(k+1)) r).2.1=qc s.obj (base+k) (aY (base+k) (.own d t xs::r)).2.1:=by
   have e1:aR s.obj (base+k) (.arr t xs 0 false d)=qc s.obj (base+k) [.arr t xs 0 false d]:=by
    funext i
    rw[cP];rfl
   rw[e1]
   have:=zQ s.obj (base+k) [.arr t xs 0 false d] (aY (base+(k+1)) r).2.1
   simp only[List.length_singleton]at this
   rw[show base+(k+1)=base+k+1 from rfl,show base+k+1=base+k+1 from rfl]at*
   rw[this]
   rfl
  have hcs:(aY (base+k) (.own d t xs::r)).1= .own (base+k) 0::(aY (base+(k+1)) r).1:=rfl
  rw[hfun]at hext2 q0 hall hfr'
  refine⟨M',hext.trans hext2,q0, ?_,by rw[show k+fy (.own d t xs::r)=k+1+fy r from by simp only[fy];omega];exact hfr', ?_, ?_⟩
  ·rw[hcs]
   refine⟨⟨?_,h1⟩,hall⟩
   have hrep:bo ⟨w0.heap.size,I0,I,cd M (base+k) (mm k),aR s.obj (base+k) (.arr t xs 0 false d),w⟩ (.own (base+k) 0) v:=
    ⟨t,xs,0,false,d,by simp only[aR,if_pos],Nat.le_refl _,λ_=>by simp only[cd,if_pos];exact hval,h1⟩
   exact hrep.ext hext2
  ·have:(aY (base+k) (.own d t xs::r)).2.2=(aY (base+(k+1)) r).2.2:=rfl
   rw[this,hn];simp only[fy];omega
  ·have:(aY (base+k) (.own d t xs::r)).2.1= .arr t xs 0 false d::(aY (base+(k+1)) r).2.1:=rfl
   rw[this,List.length_cons,hl];simp only[fy]
 |k,.box bs::r,v::vs,s,M,a,h,hr,hfr,hid=>by
  obtain⟨b0,hm,hval,hb1,hb2,hb3,hb4,hb5⟩:=hr.1
  have hidk:s.obj (base+k)=none:=hid _ (Nat.le_refl _) (by simp[fy])
  have h1:v.oneCell'=true:=by rw[hval];rfl
  obtain⟨hext,hs⟩:=h.add hidk (o:= .box (bs.map (Cell.toD .any))) (m:=mm k) (λi b c c' hi hM hm=>hfr k i b c c' (Nat.le_refl _) hi hM hm) (λb c hm'=>by rw[hm]at hm';cases hm';exact Nat.le_trans hN hb1) (by
   intro hext
   refine⟨b0,by simp only[cd,if_pos];exact hm,trivial,hb2,λhI=>hb3 (hIN b0 hb1 hI),λj c hj=> ?_,λj hj=>hb5 j (by simpa using hj)⟩
   rw[List.getElem?_map,Option.map_eq_some_iff]at hj
   obtain⟨x,hx,rfl⟩:=hj
   obtain⟨u,hu,hru⟩:=hb4 j x hx
   refine⟨u,hu,RepC.toD (p:= .any) (hru.mono (λ_ _=>rfl) ?_),hru.one⟩
   rintro b' (hb'|hb')
   ·exact hJ b' hb'
   ·exact(hJn b' hb').1)
  have hfr1:ZO ⟨s.tmp,aR s.obj (base+k) (.box (bs.map (Cell.toD .any)))⟩ (cd M (base+k) (mm k)) mm (k+1):=by
   intro i id b c c' hki hid' hM hm
   by_cases e:id=base+k
   ·simp only[cd,if_pos e]at hM
    have:=hinj k i b c c' hM hm
    omega
   ·simp only[cd,if_neg e]at hM
    simp only[aR,if_neg e]at hid'
    exact hfr i id b c c' (by omega) hid' hM hm
  obtain⟨M',hext2,q0,hall,hfr',hn,hl⟩:=qW (base:=base) (k:=k+1) hinj hN hIN hJ hJn hs hr.2 hfr1 (by
   intro id h1 h2
   have hne:id≠base+k:=by omega
   simp only[aR,if_neg hne]
   exact hid id (by omega) (by simp only[fy];omega))
  have hfun:qc (aR s.obj (base+k) (.box (bs.map (Cell.toD .any)))) (base+(k+1)) (aY (base+(k+1)) r).2.1=qc s.obj (base+k) (aY (base+k) (.box bs::r)).2.1:=by
   have e1:aR s.obj (base+k) (.box (bs.map (Cell.toD .any)))=qc s.obj (base+k) [.box (bs.map (Cell.toD .any))]:=by
    funext i
    rw[cP];rfl
   rw[e1]
   exact zQ s.obj (base+k) [.box (bs.map (Cell.toD .any))] (aY (base+(k+1)) r).2.1
  have hcs:(aY (base+k) (.box bs::r)).1= .ptr (base+k) 0::(aY (base+(k+1)) r).1:=rfl
  rw[hfun]at hext2 q0 hall hfr'
  refine⟨M',hext.trans hext2,q0, ?_,by rw[show k+fy (.box bs::r)=k+1+fy r from by simp only[fy];omega];exact hfr', ?_, ?_⟩
  ·rw[hcs]
   refine⟨⟨?_,h1⟩,hall⟩
   have hrep:bo ⟨w0.heap.size,I0,I,cd M (base+k) (mm k),aR s.obj (base+k) (.box (bs.map (Cell.toD .any))),w⟩ (.ptr (base+k) 0) v:=
    ⟨bs.map (Cell.toD .any),b0,by simp only[aR,if_pos],by simp only[cd,if_pos];exact hm,hval⟩
   exact hrep.ext hext2
  ·have:(aY (base+k) (.box bs::r)).2.2=(aY (base+(k+1)) r).2.2:=rfl
   rw[this,hn];simp only[fy];omega
  ·have:(aY (base+k) (.box bs::r)).2.1= .box (bs.map (Cell.toD .any))::(aY (base+(k+1)) r).2.1:=rfl
   rw[this,List.length_cons,hl];simp only[fy]
 |_,[],_::_,_,_,_,_,h,_,_=>h.elim
 |_,.c _::_,[],_,_,_,_,h,_,_=>h.elim
 |_,.box _::_,[],_,_,_,_,h,_,_=>h.elim
 |_,.own _ _ _::_,[],_,_,_,_,h,_,_=>h.elim
end
end Go.Proofs.YtfpdenjmlnhnnaaGreat
