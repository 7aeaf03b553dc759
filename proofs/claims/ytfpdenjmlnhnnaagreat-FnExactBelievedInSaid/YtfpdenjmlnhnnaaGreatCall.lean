/- Contracts of functions, and what a call does. -/
import Derived.Test.YtfpdenjmlnhnnaaGreatApp
set_option linter.unusedVariables false
set_option linter.unusedSimpArgs false
namespace Go.Proofs.YtfpdenjmlnhnnaaGreat
open Go Go.RowKit
def ady (N:Nat)(J Jn:Nat→Prop)(w:World)(m:Option (Nat×Nat))(d:Bool)(t:Ty)(xs:List t.T)(v:Value):Prop:=
 dk m xs.length v∧((m=none∧xs=[])∨∃b cap,m=some (b,cap)∧N≤b∧b<w.heap.size∧¬Jn b∧xs.length≤cap∧xs.length≤aU∧
  (∀j,j<cap*t.size→(w.cell? ⟨b,j,none⟩).isSome=true∧w.frozen? ⟨b,j,none⟩=false)∧
  ∀i e j c,xs[i]? =some e→(t.cells e)[j]? =some c→∃u,w.cell? ⟨b,i*t.size+j,none⟩=some u∧RepC (λb=>(J b∧d=false)∨Jn b) w c u)
def adL (N:Nat)(J Jn:Nat→Prop)(w:World)(m:Option (Nat×Nat))(cs:List Cell)(v:Value):Prop:=
 ∃b,m=some (b,0)∧v= .pointer (some ⟨b,0,none⟩)∧N≤b∧b<w.heap.size∧¬Jn b∧(∀j c,cs[j]? =some c→∃u,w.cell? ⟨b,j,none⟩=some u∧RepC (λb=>J b∨Jn b) w c u)∧∀j,j<cs.length→w.frozen? ⟨b,j,none⟩=false
def fh:List RC→Nat
 |[]=>0
 | .c _::r=>fh r
 | .own _ _ _::r=>fh r+1
 | .box _::r=>fh r+1
 | .shr _ _::r=>fh r
def di (N:Nat)(J Jn:Nat→Prop)(w:World)(mm:Nat→Option (Nat×Nat)):Nat→List RC→List Value→Prop
 |_,[],[]=>True
 |n,.c x::r,v::vs=>RepC (λb=>J b∨Jn b) w x v∧di N J Jn w mm n r vs
 |n,.own d t xs::r,v::vs=>ady N J Jn w (mm n) d t xs v∧di N J Jn w mm (n+1) r vs
 |n,.box bs::r,v::vs=>adL N J Jn w (mm n) bs v∧di N J Jn w mm (n+1) r vs
 |_,_,_=>False
def Fc (N:Nat)(J Jn:Nat→Prop)(w:World)(mm:Nat→Option (Nat×Nat))(n:Nat)(ag:Bool)(pN:List RC)(v:Value):Prop:=
 match ag with
 |true=>∃us:Array Value,v= .agg us∧di N J Jn w mm n pN us.toList
 |false=>v.oneCell'=true∧pN.length=1∧di N J Jn w mm n pN [v]
def wz (N:Nat)(J Jn:Nat→Prop)(w:World)(mm:Nat→Option (Nat×Nat)):Nat→eT→List Value→Prop
 |_,[],[]=>True
 |n,r::rs,v::vs=>Fc N J Jn w mm n r.1 r.2 v∧wz N J Jn w mm (n+fh r.2) rs vs
 |_,_,_=>False
def qZ (N:Nat)(J Jn:Nat→Prop)(w:World)(mm:Nat→Option (Nat×Nat))(R:eT)(v:Value):Prop:=
 match R with
 |[r]=>Fc N J Jn w mm 0 r.1 r.2 v
 |_=>∃us:Array Value,v= .tuple us∧wz N J Jn w mm 0 R us.toList
def jF (mo:o8)(J:Nat→Prop)(w:World)(m:Option (Nat×Nat)×Nat):MO→Prop
 | .box cs=>∃b,m.1=some (b,0)∧b<w.heap.size∧(∀j c,cs[j]? =some c→∃u,w.cell? ⟨b,j,none⟩=some u∧pK mo J w c u)∧∀j,j<cs.length→w.frozen? ⟨b,j,none⟩=false
 | .arr t xs=>m.2=xs.length∧((m.1=none∧xs=[])∨∃b cap,m.1=some (b,cap)∧b<w.heap.size∧xs.length≤cap∧xs.length≤aU∧
   (∀j,j<cap*t.size→(w.cell? ⟨b,j,none⟩).isSome=true∧w.frozen? ⟨b,j,none⟩=false)∧
   ∀i e j c,xs[i]? =some e→(t.cells e)[j]? =some c→∃u,w.cell? ⟨b,i*t.size+j,none⟩=some u∧RepC J w c u)
def Z3:MC→MC→Prop
 | .c _,.c _=>True
 | .own k,.own j=>k=j
 |_,_=>False
def yA:MO→MO→Prop
 | .box cs,.box ds=>aL Z3 cs ds
 | .arr t _,.arr t' _=>t'=t
 |_,_=>False
def m8 (mo:o8)(N:Nat)(J Jn:Nat→Prop)(w:World)(mm:Nat→Option (Nat×Nat))(R:eT)(v:Value):Prop:=
 match R with
 |[(false,[.shr k n])]=>∃m,mo[k]? =some m∧n≤m.2∧dk m.1 n v
 |R=>qZ N J Jn w mm R v
def Td:eT→Bool
 |[(false,[.shr _ _])]=>false
 |_=>true
theorem m8.old {mo:o8}{N:Nat}{J Jn:Nat→Prop}{w:World}{mm:Nat→Option (Nat×Nat)}{R:eT}{v:Value}(h:m8 mo N J Jn w mm R v)(hn:Td R=true):qZ N J Jn w mm R v:=by
 unfold m8 at h
 split at h
 ·cases hn
 ·exact h
theorem m8.of {mo:o8}{N:Nat}{J Jn:Nat→Prop}{w:World}{mm:Nat→Option (Nat×Nat)}{R:eT}{v:Value}(h:qZ N J Jn w mm R v):m8 mo N J Jn w mm R v:=by
 unfold m8
 split
 ·exact h.2.2.elim
 ·exact h
def tA (P:Program)(f:Nat)(A:List PV)(O:List MO)(R:eT)(O':List MO):Prop:=
 (∀args w,(callFunc f args).run P w= .ok (.enter f args) w)∧
 ∀(w:World) (J:Nat→Prop) (mo:o8) (vs:Array Value),(∀b,J b→b<w.heap.size)→aL (jF mo J w) mo O→(∀(i j b c c':Nat) (m m':Option (Nat×Nat)×Nat),mo[i]? =some m→mo[j]? =some m'→m.1=some (b,c)→m'.1=some (b,c')→i=j)→(∀b,mo.X b→¬J b)→GW w→(∀b,mo.X b→¬gB b)→aL (pF mo J w) A vs.toList→
  Calls P f vs w λe w'=>∃v Jn mm,e= .returned v∧BelowX w.heap.size mo.X w w'∧(∀b,Jn b→w.heap.size≤b∧b<w'.heap.size)∧
   (∀i j b c c',mm i=some (b,c)→mm j=some (b,c')→i=j)∧(∀i b c,mm i=some (b,c)→w.heap.size≤b)∧m8 mo w.heap.size J Jn w' mm R v∧aL (jF mo (λb=>J b∨Jn b) w') mo O'∧aL yA O O'
abbrev II (P:Program)(f:Nat)(A:List PV)(R:eT):Prop:=tA P f A [] R []
theorem EP {P:Program}{f:Nat}{fn:Func}{c:Code}(hf:P.funcs[f]? =some fn)(hb:fn.body=some c)(hn:(fn.name== "runtime.NumGoroutine")=false)(args:Array Value)(w:World):
  (callFunc f args).run P w= .ok (.enter f args) w:=by
 have hn':¬fn.name= "runtime.NumGoroutine" :=by simpa using hn
 simp[callFunc,hf,hb,hn']
theorem di.unshare {N:Nat}{J J' Jn:Nat→Prop}{w:World}{mm:Nat→Option (Nat×Nat)}:∀{n:Nat} {pN:List RC} {vs:List Value},pN.any RC.shares=false→di N J Jn w mm n pN vs→di N J' Jn w mm n pN vs
 |_,[],[],_,h=>h
 |n,.c x::r,v::vs,hs,h=>by
  simp only[List.any_cons,Bool.or_eq_false_iff]at hs
  refine⟨h.1.anyJ ?_,di.unshare hs.2 h.2⟩
  rintro t xs rfl
  cases hs.1
 |n,.own d t xs::r,v::vs,hs,h=>by
  simp only[List.any_cons,Bool.or_eq_false_iff]at hs
  refine⟨⟨h.1.1, ?_⟩,di.unshare hs.2 h.2⟩
  rcases h.1.2 with h1|⟨b,cap,h1,h2,h3,h4,h5,h6,h7,h8⟩
  ·exact .inl h1
  ·refine .inr ⟨b,cap,h1,h2,h3,h4,h5,h6,h7,λi e j c he hc=> ?_⟩
   obtain⟨u,hu,hr⟩:=h8 i e j c he hc
   refine⟨u,hu, ?_⟩
   cases d with
   |true=>exact hr.mono (λ_ _=>rfl) (by rintro b (⟨_,h⟩|h)<;>first|cases h|exact .inr h)
   |false=>
    refine hr.anyJ ?_
    rintro t' ys rfl
    have h9:=hs.1
    simp only[RC.shares,Bool.not_false,Bool.true_and]at h9
    rw[tN hc]at h9;cases h9
 |n,.box bs::r,v::vs,hs,h=>by
  simp only[List.any_cons,Bool.or_eq_false_iff]at hs
  refine⟨?_,di.unshare hs.2 h.2⟩
  obtain⟨b,h1,h2,h3,h4,h5,h6,h7⟩:=h.1
  refine⟨b,h1,h2,h3,h4,h5,λj c hc=> ?_,h7⟩
  obtain⟨u,hu,hr⟩:=h6 j c hc
  refine⟨u,hu,hr.anyJ ?_⟩
  rintro t xs rfl
  have h9:=hs.1
  simp only[RC.shares,List.any_eq_false]at h9
  exact h9 _ (List.mem_of_getElem? hc) rfl
 |_,[],_::_,_,h=>h.elim
 |_,.c _::_,[],_,h=>h.elim
 |_,.own _ _ _::_,[],_,h=>h.elim
 |_,.box _::_,[],_,h=>h.elim
 |_,.shr _ _::_,[],_,h=>h.elim
 |_,.shr _ _::_,_::_,_,h=>h.elim
theorem di.mono {N:Nat}{J J' Jn:Nat→Prop}{w:World}{mm:Nat→Option (Nat×Nat)}(hJ:∀b,J b→J' b):∀{n:Nat} {pN:List RC} {vs:List Value},di N J Jn w mm n pN vs→di N J' Jn w mm n pN vs
 |_,[],[],h=>h
 |n,.c x::r,v::vs,h=>⟨h.1.mono (λ_ _=>rfl) (λb hb=>hb.imp (hJ b) id),di.mono hJ h.2⟩
 |n,.own d t xs::r,v::vs,h=>by
  refine⟨⟨h.1.1, ?_⟩,di.mono hJ h.2⟩
  rcases h.1.2 with h1|⟨b,cap,h1,h2,h3,h4,h5,h6,h7,h8⟩
  ·exact .inl h1
  ·refine .inr ⟨b,cap,h1,h2,h3,h4,h5,h6,h7,λi e j c he hc=> ?_⟩
   obtain⟨u,hu,hr⟩:=h8 i e j c he hc
   exact⟨u,hu,hr.mono (λ_ _=>rfl) (λb hb=>hb.imp (λh=>⟨hJ b h.1,h.2⟩) id)⟩
 |n,.box bs::r,v::vs,h=>by
  refine⟨?_,di.mono hJ h.2⟩
  obtain⟨b,h1,h2,h3,h4,h5,h6,h7⟩:=h.1
  refine⟨b,h1,h2,h3,h4,h5,λj c hc=> ?_,h7⟩
  obtain⟨u,hu,hr⟩:=h6 j c hc
  exact⟨u,hu,hr.mono (λ_ _=>rfl) (λb hb=>hb.imp (hJ b) id)⟩
 |_,[],_::_,h=>h.elim
 |_,.c _::_,[],h=>h.elim
 |_,.own _ _ _::_,[],h=>h.elim
 |_,.box _::_,[],h=>h.elim
 |_,.shr _ _::_,[],h=>h.elim
 |_,.shr _ _::_,_::_,h=>h.elim
section
variable {N:Nat} {J J' Jn:Nat→Prop} {w:World} {mm:Nat→Option (Nat×Nat)}
theorem Fc.imp {n:Nat}{ag:Bool}{pN:List RC}{v:Value}(hh:∀n vs,di N J Jn w mm n pN vs→di N J' Jn w mm n pN vs)(h:Fc N J Jn w mm n ag pN v):Fc N J' Jn w mm n ag pN v:=by
 cases ag with
 |true=>obtain⟨us,hv,hu⟩:=h;exact⟨us,hv,hh _ _ hu⟩
 |false=>exact⟨h.1,h.2.1,hh _ _ h.2.2⟩
theorem wz.imp:∀{n:Nat} {R:eT} {vs:List Value},(∀r∈R,∀n vs,di N J Jn w mm n r.2 vs→di N J' Jn w mm n r.2 vs)→wz N J Jn w mm n R vs→wz N J' Jn w mm n R vs
 |_,[],[],_,h=>h
 |_,r::rs,v::vs,hh,h=>⟨h.1.imp (hh r (by simp)),wz.imp (λr hr=>hh r (List.mem_cons_of_mem _ hr)) h.2⟩
 |_,[],_::_,_,h=>h.elim
 |_,_::_,[],_,h=>h.elim
theorem qZ.imp {R:eT}{v:Value}(hh:∀r∈R,∀n vs,di N J Jn w mm n r.2 vs→di N J' Jn w mm n r.2 vs)(h:qZ N J Jn w mm R v):qZ N J' Jn w mm R v:=by
 match R,hh,h with
 |[r],hh,h=>exact Fc.imp (hh r (by simp)) h
 |[],hh,h=>obtain⟨us,hu1,hu2⟩:=h;exact⟨us,hu1,hu2.imp hh⟩
 |_::_::_,hh,h=>obtain⟨us,hu1,hu2⟩:=h;exact⟨us,hu1,hu2.imp hh⟩
theorem qZ.settle {R:eT}{v:Value}(J':Nat→Prop)(h:qZ N J Jn w mm R v)(hs:R.any (λr=>r.2.any RC.shares)=true→∀b,J b→J' b):qZ N J' Jn w mm R v:=by
 cases hb:R.any (λr=>r.2.any RC.shares)with
 |true=>exact h.imp λr _ _ _ hh=>hh.mono (hs hb)
 |false=>
  refine h.imp λr hr _ _ hh=>hh.unshare ?_
  rw[List.any_eq_false]at hb
  have:=hb r hr
  simpa using this
end
section
variable {w0:World} {mo:o8} {n:Nat} {I0 I:Nat→Prop} {M:Nat→Option (Nat×Nat)} {s:FSt} {a:Act} {w:World}
theorem SimX.add (h:SimX w0 mo n I0 I M s a w){id:Nat}(hid:s.obj id=none){o:Ob}{m:Option (Nat×Nat)}(hfree:∀i b c c',s.obj i≠none→M i=some (b,c)→m=some (b,c')→False)(hmN:∀b c,m=some (b,c)→w0.heap.size≤b)
  (ho:∀(_:Ext (aY w0 I0 I M s w) ⟨w0.heap.size,I0,I,bR M id m,aJ s.obj id o,w⟩),Em ⟨w0.heap.size,I0,I,bR M id m,aJ s.obj id o,w⟩ id o):
  Ext (aY w0 I0 I M s w) ⟨w0.heap.size,I0,I,bR M id m,aJ s.obj id o,w⟩∧SimX w0 mo n I0 I (bR M id m) ⟨s.tmp,aJ s.obj id o⟩ a w:=by
 have hne:∀i,s.obj i≠none→i≠id:=by rintro i hi rfl;exact hi hid
 have hext:Ext (aY w0 I0 I M s w) ⟨w0.heap.size,I0,I,bR M id m,aJ s.obj id o,w⟩:=by
  refine⟨rfl,rfl,h.i00,λ_ hb=>hb,λb hb=>rfl,λi cs hi=> ?_,λi t xs v f d hi=> ?_⟩
  ·have hi':i≠id:=hne i (by simp only[]at hi;rw[hi];simp)
   exact⟨⟨cs,by simp only[aJ,if_neg hi'];exact hi⟩,by simp only[bR,if_neg hi']⟩
  ·have hi':i≠id:=hne i (by simp only[]at hi;rw[hi];simp)
   exact⟨t,xs,v,f,d,by simp only[aJ,if_neg hi'];exact hi,Nat.le_refl _,λ_=>⟨rfl,rfl,by simp only[bR,if_neg hi']⟩⟩
 refine⟨hext,h.turn hext (BelowX.refl _ _ _) h.ilt h.idiv (λi b c hi hM=>by
   by_cases e:i=id
   ·simp only[bR,if_pos e]at hM
    exact .inl (hmN b c hM)
   ·simp only[bR,if_neg e]at hM
    simp only[aJ,if_neg e]at hi
    exact h.own i b c hi hM) ?_ ?_⟩
 ·intro i x hx
  by_cases e:i=id
  ·subst e
   simp only[aJ,if_pos]at hx
   cases hx
   exact ho hext
  ·simp only[aJ,if_neg e]at hx
   exact(h.objs i x hx).ext hext (by simp only[bR,if_neg e]) (Nat.le_refl _) λb cap hb=>⟨rfl,λy=>y⟩
 ·intro i j b c c' hi hj hb hb'
  by_cases ei:i=id<;>by_cases ej:j=id
  ·rw[ei,ej]
  ·simp only[bR,if_pos ei,if_neg ej]at hb hb'
   simp only[aJ,if_neg ej]at hj
   exact(hfree j b c' c hj hb' hb).elim
  ·simp only[bR,if_pos ej,if_neg ei]at hb hb'
   simp only[aJ,if_neg ei]at hi
   exact(hfree i b c c' hi hb hb').elim
  ·simp only[bR,if_neg ei,if_neg ej]at hb hb'
   simp only[aJ,if_neg ei]at hi
   simp only[aJ,if_neg ej]at hj
   exact h.inj i j b c c' hi hj hb hb'
def pm (obj:Nat→Option Ob)(base:Nat)(os:List Ob):Nat→Option Ob:=λid=>match ao (aR base os) id with|some o=>some o|none=>obj id
theorem uB:∀{base:Nat} {os:List Ob} {i:Nat},i∈(aR base os).map (·.1)→base≤i∧i<base+os.length
 |_,[],i,h=>by simp[aR]at h
 |base,o::os,i,h=>by
  simp only[aR,List.map_cons,List.mem_cons]at h
  rcases h with rfl|h
  ·simp
  ·have:=uB h
   simp;omega
theorem Mw:∀{base:Nat} {os:List Ob} {i:Nat},base≤i→i<base+os.length→i∈(aR base os).map (·.1)
 |base,[],i,h1,h2=>by simp at h2;omega
 |base,o::os,i,h1,h2=>by
  simp only[aR,List.map_cons,List.mem_cons]
  by_cases e:i=base
  ·exact .inl e
  ·exact .inr (Mw (by omega) (by simp at h2;omega))
theorem BZ:∀(base:Nat) (os os':List Ob),aR base (os++os')=aR base os++aR (base+os.length) os'
 |base,[],os'=>by simp[aR]
 |base,o::os,os'=>by
  simp only[List.cons_append,aR,BZ (base+1) os os',List.length_cons]
  rw[show base+1+os.length=base+(os.length+1) from by omega]
theorem xX (obj:Nat→Option Ob)(base:Nat)(os os':List Ob):pm (pm obj base os) (base+os.length) os'=pm obj base (os++os'):=by
 funext id
 unfold pm
 rw[BZ,eG]
 cases h1:ao (aR base os) id with
 |none=>rfl
 |some o=>
  have:ao (aR (base+os.length) os') id=none:=by
   refine ke λhc=> ?_
   have h2:=uB hc
   have h3:=uB (ja h1)
   omega
  rw[this]
def XY (s:FSt)(M:Nat→Option (Nat×Nat))(mm:Nat→Option (Nat×Nat))(k:Nat):Prop:=
 ∀i id b c c',k≤i→s.obj id≠none→M id=some (b,c)→mm i=some (b,c')→False
theorem p9 {base N:Nat}{J Jn:Nat→Prop}{mm:Nat→Option (Nat×Nat)}(hinj:∀i j b c c',mm i=some (b,c)→mm j=some (b,c')→i=j)(hN:w0.heap.size≤N)(hIN:∀b,N≤b→I b→Jn b)(hJ:∀b,J b→I b)
  (hJn:∀b,Jn b→I b∧w0.heap.size≤b):∀{k:Nat} {pN:List RC} {vs:List Value} {s:FSt} {M:Nat→Option (Nat×Nat)} {a:Act},SimX w0 mo n I0 I M s a w→di N J Jn w mm k pN vs→XY s M mm k→
   (∀id,base+k≤id→id<base+k+fh pN→s.obj id=none)→
   ∃M',Ext (aY w0 I0 I M s w) ⟨w0.heap.size,I0,I,M',pm s.obj (base+k) (aQ (base+k) pN).2.1,w⟩∧SimX w0 mo n I0 I M' ⟨s.tmp,pm s.obj (base+k) (aQ (base+k) pN).2.1⟩ a w∧
    aL (λc u=>be ⟨w0.heap.size,I0,I,M',pm s.obj (base+k) (aQ (base+k) pN).2.1,w⟩ c u∧u.oneCell'=true) (aQ (base+k) pN).1 vs∧
    XY ⟨s.tmp,pm s.obj (base+k) (aQ (base+k) pN).2.1⟩ M' mm (k+fh pN)∧(aQ (base+k) pN).2.2=base+k+fh pN∧(aQ (base+k) pN).2.1.length=fh pN
 |k,[],[],s,M,a,h,_,hfr,_=>⟨M,Ext.refl h.i00,h,trivial,hfr,rfl,rfl⟩
 |k,.c x::r,v::vs,s,M,a,h,hr,hfr,hid=>by
  obtain⟨M',hext,hs,hall,hfr',hn,hl⟩:=p9 hinj hN hIN hJ hJn h hr.2 hfr hid
  refine⟨M',hext,hs,⟨⟨?_,hr.1.one⟩,hall⟩,hfr',hn,hl⟩
  refine RepC.toD (p:= .any) (hr.1.mono (λ_ _=>rfl) ?_)
  rintro b (hb|hb)
  ·exact hJ b hb
  ·exact(hJn b hb).1
 |k,.own d t xs::r,v::vs,s,M,a,h,hr,hfr,hid=>by
  obtain⟨hval,hown⟩:=hr.1
  have hidk:s.obj (base+k)=none:=hid _ (Nat.le_refl _) (by simp[fh])
  have h1:v.oneCell'=true:=by
   cases hm:mm k with
   |none=>rw[hm]at hval;obtain⟨_,rfl⟩:=hval;rfl
   |some p=>obtain⟨b,cap⟩:=p;rw[hm]at hval;simp only[dk]at hval;rw[hval];rfl
  obtain⟨hext,hs⟩:=h.add hidk (o:= .arr t xs 0 false d) (m:=mm k) (λi b c c' hi hM hm=>hfr k i b c c' (Nat.le_refl _) hi hM hm) (λb c hm=>by
   rcases hown with⟨h0,_⟩|⟨b',cap,h0,h1,_⟩
   ·rw[h0]at hm;cases hm
   ·rw[h0]at hm;cases hm;exact Nat.le_trans hN h1) (by
   intro hext
   rcases hown with⟨hm,hx⟩|⟨b,cap,hm,hb1,hb2,hb3,hb4,hb5,hb6,hb7⟩
   ·exact .inl ⟨by simp only[bR,if_pos];exact hm,hx⟩
   ·refine .inr ⟨b,cap,by simp only[bR,if_pos];exact hm,λ_=>Nat.le_trans hN hb1,hb2,⟨λhI=>(hb3 (hIN b hb1 hI)).elim,by simp⟩,hb4,hb5,hb6,λi e j c he hc=> ?_⟩
    obtain⟨u,hu,hru⟩:=hb7 i e j c he hc
    refine⟨u,hu,hru.mono (λ_ _=>rfl) ?_⟩
    rintro b' (⟨hb',hd⟩|hb')
    ·subst hd;exact hJ b' hb'
    ·cases d
     ·exact(hJn b' hb').1
     ·exact hJn b' hb')
  have hfr1:XY ⟨s.tmp,aJ s.obj (base+k) (.arr t xs 0 false d)⟩ (bR M (base+k) (mm k)) mm (k+1):=by
   intro i id b c c' hki hid' hM hm
   by_cases e:id=base+k
   ·simp only[bR,if_pos e]at hM
    have:=hinj k i b c c' hM hm
    omega
   ·simp only[bR,if_neg e]at hM
    simp only[aJ,if_neg e]at hid'
    exact hfr i id b c c' (by omega) hid' hM hm
  obtain⟨M',hext2,pU,hall,hfr',hn,hl⟩:=p9 (base:=base) (k:=k+1) hinj hN hIN hJ hJn hs hr.2 hfr1 (by
   intro id h1 h2
   have hne:id≠base+k:=by omega
   simp only[aJ,if_neg hne]
   exact hid id (by omega) (by simp only[fh];omega))
  have hfun:pm (aJ s.obj (base+k) (.arr t xs 0 false d)) (base+(k+1)) (aQ (base+(k+1)) r).2.1=pm s.obj (base+k) (aQ (base+k) (.own d t xs::r)).2.1:=by
   have e1:aJ s.obj (base+k) (.arr t xs 0 false d)=pm s.obj (base+k) [.arr t xs 0 false d]:=by
    funext i
    rw[cI];rfl
   rw[e1]
   have:=xX s.obj (base+k) [.arr t xs 0 false d] (aQ (base+(k+1)) r).2.1
   simp only[List.length_singleton]at this
   rw[show base+(k+1)=base+k+1 from rfl,show base+k+1=base+k+1 from rfl]at*
   rw[this]
   rfl
  have hcs:(aQ (base+k) (.own d t xs::r)).1= .own (base+k) 0::(aQ (base+(k+1)) r).1:=rfl
  rw[hfun]at hext2 pU hall hfr'
  refine⟨M',hext.trans hext2,pU, ?_,by rw[show k+fh (.own d t xs::r)=k+1+fh r from by simp only[fh];omega];exact hfr', ?_, ?_⟩
  ·rw[hcs]
   refine⟨⟨?_,h1⟩,hall⟩
   have hrep:be ⟨w0.heap.size,I0,I,bR M (base+k) (mm k),aJ s.obj (base+k) (.arr t xs 0 false d),w⟩ (.own (base+k) 0) v:=
    ⟨t,xs,0,false,d,by simp only[aJ,if_pos],Nat.le_refl _,λ_=>by simp only[bR,if_pos];exact hval,h1⟩
   exact hrep.ext hext2
  ·have:(aQ (base+k) (.own d t xs::r)).2.2=(aQ (base+(k+1)) r).2.2:=rfl
   rw[this,hn];simp only[fh];omega
  ·have:(aQ (base+k) (.own d t xs::r)).2.1= .arr t xs 0 false d::(aQ (base+(k+1)) r).2.1:=rfl
   rw[this,List.length_cons,hl];simp only[fh]
 |k,.box bs::r,v::vs,s,M,a,h,hr,hfr,hid=>by
  obtain⟨b0,hm,hval,hb1,hb2,hb3,hb4,hb5⟩:=hr.1
  have hidk:s.obj (base+k)=none:=hid _ (Nat.le_refl _) (by simp[fh])
  have h1:v.oneCell'=true:=by rw[hval];rfl
  obtain⟨hext,hs⟩:=h.add hidk (o:= .box (bs.map (Cell.toD .any))) (m:=mm k) (λi b c c' hi hM hm=>hfr k i b c c' (Nat.le_refl _) hi hM hm) (λb c hm'=>by rw[hm]at hm';cases hm';exact Nat.le_trans hN hb1) (by
   intro hext
   refine⟨b0,by simp only[bR,if_pos];exact hm,trivial,hb2,λhI=>hb3 (hIN b0 hb1 hI),λj c hj=> ?_,λj hj=>hb5 j (by simpa using hj)⟩
   rw[List.getElem?_map,Option.map_eq_some_iff]at hj
   obtain⟨x,hx,rfl⟩:=hj
   obtain⟨u,hu,hru⟩:=hb4 j x hx
   refine⟨u,hu,RepC.toD (p:= .any) (hru.mono (λ_ _=>rfl) ?_),hru.one⟩
   rintro b' (hb'|hb')
   ·exact hJ b' hb'
   ·exact(hJn b' hb').1)
  have hfr1:XY ⟨s.tmp,aJ s.obj (base+k) (.box (bs.map (Cell.toD .any)))⟩ (bR M (base+k) (mm k)) mm (k+1):=by
   intro i id b c c' hki hid' hM hm
   by_cases e:id=base+k
   ·simp only[bR,if_pos e]at hM
    have:=hinj k i b c c' hM hm
    omega
   ·simp only[bR,if_neg e]at hM
    simp only[aJ,if_neg e]at hid'
    exact hfr i id b c c' (by omega) hid' hM hm
  obtain⟨M',hext2,pU,hall,hfr',hn,hl⟩:=p9 (base:=base) (k:=k+1) hinj hN hIN hJ hJn hs hr.2 hfr1 (by
   intro id h1 h2
   have hne:id≠base+k:=by omega
   simp only[aJ,if_neg hne]
   exact hid id (by omega) (by simp only[fh];omega))
  have hfun:pm (aJ s.obj (base+k) (.box (bs.map (Cell.toD .any)))) (base+(k+1)) (aQ (base+(k+1)) r).2.1=pm s.obj (base+k) (aQ (base+k) (.box bs::r)).2.1:=by
   have e1:aJ s.obj (base+k) (.box (bs.map (Cell.toD .any)))=pm s.obj (base+k) [.box (bs.map (Cell.toD .any))]:=by
    funext i
    rw[cI];rfl
   rw[e1]
   exact xX s.obj (base+k) [.box (bs.map (Cell.toD .any))] (aQ (base+(k+1)) r).2.1
  have hcs:(aQ (base+k) (.box bs::r)).1= .ptr (base+k) 0::(aQ (base+(k+1)) r).1:=rfl
  rw[hfun]at hext2 pU hall hfr'
  refine⟨M',hext.trans hext2,pU, ?_,by rw[show k+fh (.box bs::r)=k+1+fh r from by simp only[fh];omega];exact hfr', ?_, ?_⟩
  ·rw[hcs]
   refine⟨⟨?_,h1⟩,hall⟩
   have hrep:be ⟨w0.heap.size,I0,I,bR M (base+k) (mm k),aJ s.obj (base+k) (.box (bs.map (Cell.toD .any))),w⟩ (.ptr (base+k) 0) v:=
    ⟨bs.map (Cell.toD .any),b0,by simp only[aJ,if_pos],by simp only[bR,if_pos];exact hm,hval⟩
   exact hrep.ext hext2
  ·have:(aQ (base+k) (.box bs::r)).2.2=(aQ (base+(k+1)) r).2.2:=rfl
   rw[this,hn];simp only[fh];omega
  ·have:(aQ (base+k) (.box bs::r)).2.1= .box (bs.map (Cell.toD .any))::(aQ (base+(k+1)) r).2.1:=rfl
   rw[this,List.length_cons,hl];simp only[fh]
 |_,[],_::_,_,_,_,_,h,_,_=>h.elim
 |_,.c _::_,[],_,_,_,_,h,_,_=>h.elim
 |_,.box _::_,[],_,_,_,_,h,_,_=>h.elim
 |_,.own _ _ _::_,[],_,_,_,_,h,_,_=>h.elim
end
end Go.Proofs.YtfpdenjmlnhnnaaGreat
