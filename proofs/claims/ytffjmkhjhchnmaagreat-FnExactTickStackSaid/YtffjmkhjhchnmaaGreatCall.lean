/- Contracts of functions, and what a call does. -/
import Derived.Test.YtffjmkhjhchnmaaGreatApp
set_option linter.unusedVariables false
set_option linter.unusedSimpArgs false
namespace Go.Proofs.YtffjmkhjhchnmaaGreat
open Go Go.RowKit
def Qf (N:Nat)(J Jn:Nat→Prop)(w:World)(m:Option (Nat×Nat))(d:Bool)(t:Ty)(xs:List t.T)(v:Value):Prop:=
 aM m xs.length v∧((m=none∧xs=[])∨∃b cap,m=some (b,cap)∧N≤b∧b<w.heap.size∧¬Jn b∧xs.length≤cap∧xs.length≤aD∧
  (∀j,j<cap*t.size→(w.cell? ⟨b,j,none⟩).isSome=true∧w.frozen? ⟨b,j,none⟩=false)∧
  ∀i e j c,xs[i]? =some e→(t.cells e)[j]? =some c→∃u,w.cell? ⟨b,i*t.size+j,none⟩=some u∧RepC (λb=>(J b∧d=false)∨Jn b) w c u)
def Qq (N:Nat)(J Jn:Nat→Prop)(w:World)(m:Option (Nat×Nat))(cs:List Cell)(v:Value):Prop:=
 ∃b,m=some (b,0)∧v= .pointer (some ⟨b,0,none⟩)∧N≤b∧b<w.heap.size∧¬Jn b∧(∀j c,cs[j]? =some c→∃u,w.cell? ⟨b,j,none⟩=some u∧RepC (λb=>J b∨Jn b) w c u)∧∀j,j<cs.length→w.frozen? ⟨b,j,none⟩=false
def PT (N:Nat)(Jn:Nat→Prop)(w:World)(m:Option (Nat×Nat))(nn:Nat→Nat→Option (Nat×Nat))(t:Ty)(xs:List t.T)(v:Value):Prop:=
 aM m xs.length v∧((m=none∧xs=[])∨∃b cap,m=some (b,cap)∧N≤b∧b<w.heap.size∧¬Jn b∧xs.length≤cap∧xs.length≤aD∧
  (∀j,j<cap*t.size→(w.cell? ⟨b,j,none⟩).isSome=true∧w.frozen? ⟨b,j,none⟩=false)∧
  ∀i e j c,xs[i]? =some e→(t.cells e)[j]? =some c→∃u,w.cell? ⟨b,i*t.size+j,none⟩=some u∧d9 nn w i j c u)∧∀i j b c,nn i j=some (b,c)→N≤b∧b<w.heap.size∧¬Jn b
structure MmOk (mm:MF)(N:Nat):Prop where
 inj:∀(i j b c c':Nat),mm i=some (b,c)→mm j=some (b,c')→i=j
 vinj:∀(i i' j j' k k' b c c':Nat),mm.n i j k=some (b,c)→mm.n i' j' k'=some (b,c')→i=i'∧j=j'∧k=k'
 vdis:∀(i i' j k b c c':Nat),mm.n i j k=some (b,c)→mm i'=some (b,c')→False
 vlo:∀(i j k b c:Nat),mm.n i j k=some (b,c)→N≤b
def MO.isDar:MO→Bool
 | .dar _ _=>true
 |_=>false
structure MtsOk (mo:gj)(O:List MO):Prop where
 flat:∀(k:Nat) (m:Mt) (o:MO),mo[k]? =some m→O[k]? =some o→o.isDar=false→∀i j,m.inn i j=none
 inj:∀(i j b c c':Nat) (m m':Mt),mo[i]? =some m→mo[j]? =some m'→m.1=some (b,c)→m'.1=some (b,c')→i=j
 vinj:∀(i i' j j' k k' b c c':Nat) (m m':Mt),mo[i]? =some m→mo[i']? =some m'→m.inn j k=some (b,c)→m'.inn j' k'=some (b,c')→i=i'∧j=j'∧k=k'
 vdis:∀(i i' j k b c c':Nat) (m m':Mt),mo[i]? =some m→mo[i']? =some m'→m.inn j k=some (b,c)→m'.1=some (b,c')→False
def cq:List RC→Nat
 |[]=>0
 | .c _::r=>cq r
 | .own _ _ _::r=>cq r+1
 | .box _::r=>cq r+1
 | .dar _ _::r=>cq r+1
 | .shr _ _::r=>cq r
def b9 (N:Nat)(J Jn:Nat→Prop)(w:World)(mm:MF):Nat→List RC→List Value→Prop
 |_,[],[]=>True
 |n,.c x::r,v::vs=>RepC (λb=>J b∨Jn b) w x v∧b9 N J Jn w mm n r vs
 |n,.own d t xs::r,v::vs=>Qf N J Jn w (mm n) d t xs v∧b9 N J Jn w mm (n+1) r vs
 |n,.box bs::r,v::vs=>Qq N J Jn w (mm n) bs v∧b9 N J Jn w mm (n+1) r vs
 |n,.dar t xs::r,v::vs=>PT N Jn w (mm n) (mm.n n) t xs v∧b9 N J Jn w mm (n+1) r vs
 |_,_,_=>False
def yW (N:Nat)(J Jn:Nat→Prop)(w:World)(mm:MF)(n:Nat)(ag:Bool)(mu:List RC)(v:Value):Prop:=
 match ag with
 |true=>∃us:Array Value,v= .agg us∧b9 N J Jn w mm n mu us.toList
 |false=>v.oneCell'=true∧mu.length=1∧b9 N J Jn w mm n mu [v]
def rj (N:Nat)(J Jn:Nat→Prop)(w:World)(mm:MF):Nat→cS→List Value→Prop
 |_,[],[]=>True
 |n,r::rs,v::vs=>yW N J Jn w mm n r.1 r.2 v∧rj N J Jn w mm (n+cq r.2) rs vs
 |_,_,_=>False
def nG (N:Nat)(J Jn:Nat→Prop)(w:World)(mm:MF)(R:cS)(v:Value):Prop:=
 match R with
 |[r]=>yW N J Jn w mm 0 r.1 r.2 v
 |_=>∃us:Array Value,v= .tuple us∧rj N J Jn w mm 0 R us.toList
def dk (mo:gj)(J:Nat→Prop)(w:World)(m:Mt):MO→Prop
 | .box cs=>∃b,m.1=some (b,0)∧b<w.heap.size∧(∀j c,cs[j]? =some c→∃u,w.cell? ⟨b,j,none⟩=some u∧jH mo J w c u)∧∀j,j<cs.length→w.frozen? ⟨b,j,none⟩=false
 | .arr t xs=>m.2=xs.length∧((m.1=none∧xs=[])∨∃b cap,m.1=some (b,cap)∧b<w.heap.size∧xs.length≤cap∧xs.length≤aD∧
   (∀j,j<cap*t.size→(w.cell? ⟨b,j,none⟩).isSome=true∧w.frozen? ⟨b,j,none⟩=false)∧
   ∀i e j c,xs[i]? =some e→(t.cells e)[j]? =some c→∃u,w.cell? ⟨b,i*t.size+j,none⟩=some u∧RepC J w c u)
 | .dar t xs=>m.2=xs.length∧((m.1=none∧xs=[])∨∃b cap,m.1=some (b,cap)∧b<w.heap.size∧xs.length≤cap∧xs.length≤aD∧
   (∀j,j<cap*t.size→(w.cell? ⟨b,j,none⟩).isSome=true∧w.frozen? ⟨b,j,none⟩=false)∧
   ∀i e j c,xs[i]? =some e→(t.cells e)[j]? =some c→∃u,w.cell? ⟨b,i*t.size+j,none⟩=some u∧d9 m.inn w i j c u)∧GG xs m.ln∧∀i j b c,m.inn i j=some (b,c)→b<w.heap.size
def Nb:MC→MC→Prop
 | .c _,.c _=>True
 | .own k,.own j=>k=j
 |_,_=>False
def nW:MO→MO→Prop
 | .box cs,.box ds=>ar Nb cs ds
 | .arr t _,.arr t' _=>t'=t
 | .dar t _,.dar t' _=>t'=t
 |_,_=>False
def iu (mo:gj)(N:Nat)(J Jn:Nat→Prop)(w:World)(mm:MF)(R:cS)(v:Value):Prop:=
 match R with
 |[(false,[.shr k n])]=>∃m,mo[k]? =some m∧n≤m.2∧aM m.1 n v
 |R=>nG N J Jn w mm R v
def lw (mo:gj)(J:Nat→Prop)(w w':World)(R:cS)(v:Value)(O':List MO):Prop:=
 match R,O',mo with
 |[(false,[.shr 0 n])],.dar t xs::Os,m::ms=>∃m':Mt,m'.1=m.1∧m'.2=m.2∧dk mo J w' m' (.dar t xs)∧(∀i j b c,m'.inn i j=some (b,c)→∃i0 j0 c0,m.inn i0 j0=some (b,c0))∧
   (∀i j i' j' b c c',m'.inn i j=some (b,c)→m'.inn i' j'=some (b,c')→i=i'∧j=j')∧(∀i j b c,m.inn i j=some (b,c)→w'.heap[b]? =w.heap[b]?)∧ar (dk mo J w') ms Os∧n≤m.2∧aM m.1 n v
 |_,_,_=>False
def Em:cS→Bool
 |[(false,[.shr _ _])]=>false
 |_=>true
theorem iu.old {mo:gj}{N:Nat}{J Jn:Nat→Prop}{w:World}{mm:MF}{R:cS}{v:Value}(h:iu mo N J Jn w mm R v)(hn:Em R=true):nG N J Jn w mm R v:=by
 unfold iu at h
 split at h
 ·cases hn
 ·exact h
theorem lw.shr {mo:gj}{J:Nat→Prop}{w w':World}{R:cS}{v:Value}{O':List MO}(h:lw mo J w w' R v O')(hn:Em R=true):False:=by
 unfold lw at h
 split at h
 ·cases hn
 ·exact h
theorem iu.of {mo:gj}{N:Nat}{J Jn:Nat→Prop}{w:World}{mm:MF}{R:cS}{v:Value}(h:nG N J Jn w mm R v):iu mo N J Jn w mm R v:=by
 unfold iu
 split
 ·exact h.2.2.elim
 ·exact h
def kI (P:Program)(f:Nat)(A:List PV)(O:List MO)(R:cS)(O':List MO):Prop:=
 (∀args w,(callFunc f args).run P w= .ok (.enter f args) w)∧
 ∀(w:World) (J:Nat→Prop) (mo:gj) (vs:Array Value),(∀b,J b→b<w.heap.size)→ar (dk mo J w) mo O→MtsOk mo O→(∀b,mo.X b→¬J b)→GW w→(∀b,mo.X b→¬gB b)→ar (ia mo J w) A vs.toList→
  Calls P f vs w λe w'=>∃v Jn mm,e= .returned v∧BelowX w.heap.size mo.X w w'∧(∀b,Jn b→w.heap.size≤b∧b<w'.heap.size)∧
   MmOk mm w.heap.size∧(∀i b c,mm i=some (b,c)→w.heap.size≤b)∧((iu mo w.heap.size J Jn w' mm R v∧ar (dk mo (λb=>J b∨Jn b) w') mo O')∨lw mo (λb=>J b∨Jn b) w w' R v O')∧ar nW O O'
abbrev zO (P:Program)(f:Nat)(A:List PV)(R:cS):Prop:=kI P f A [] R []
theorem t9 {P:Program}{f:Nat}{fn:Func}{c:Code}(hf:P.funcs[f]? =some fn)(hb:fn.body=some c)(hn:(fn.name== "runtime.NumGoroutine")=false)(args:Array Value)(w:World):
  (callFunc f args).run P w= .ok (.enter f args) w:=by
 have hn':¬fn.name= "runtime.NumGoroutine" :=by simpa using hn
 simp[callFunc,hf,hb,hn']
theorem b9.unshare {N:Nat}{J J' Jn:Nat→Prop}{w:World}{mm:MF}:∀{n:Nat} {mu:List RC} {vs:List Value},mu.any RC.shares=false→b9 N J Jn w mm n mu vs→b9 N J' Jn w mm n mu vs
 |_,[],[],_,h=>h
 |n,.c x::r,v::vs,hs,h=>by
  simp only[List.any_cons,Bool.or_eq_false_iff]at hs
  refine⟨h.1.anyJ ?_,b9.unshare hs.2 h.2⟩
  rintro t xs rfl
  cases hs.1
 |n,.own d t xs::r,v::vs,hs,h=>by
  simp only[List.any_cons,Bool.or_eq_false_iff]at hs
  refine⟨⟨h.1.1, ?_⟩,b9.unshare hs.2 h.2⟩
  rcases h.1.2 with h1|⟨b,cap,h1,h2,h3,h4,h5,h6,h7,h8⟩
  ·exact .inl h1
  ·refine .inr ⟨b,cap,h1,h2,h3,h4,h5,h6,h7,λi e j c he hc=> ?_⟩
   obtain⟨u,hu,hr⟩:=h8 i e j c he hc
   refine⟨u,hu, ?_⟩
   cases d with
   |true=>exact hr.mono (λ_ _=>rfl) (by rintro b (⟨_,h⟩|h)<;>first|cases h|exact .inr h)
   |false=>
    refine hr.anyJ ?_
    rintro t' ys rfl
    have h9:=hs.1
    simp only[RC.shares,Bool.not_false,Bool.true_and]at h9
    rw[lU hc]at h9;cases h9
 |n,.box bs::r,v::vs,hs,h=>by
  simp only[List.any_cons,Bool.or_eq_false_iff]at hs
  refine⟨?_,b9.unshare hs.2 h.2⟩
  obtain⟨b,h1,h2,h3,h4,h5,h6,h7⟩:=h.1
  refine⟨b,h1,h2,h3,h4,h5,λj c hc=> ?_,h7⟩
  obtain⟨u,hu,hr⟩:=h6 j c hc
  refine⟨u,hu,hr.anyJ ?_⟩
  rintro t xs rfl
  have h9:=hs.1
  simp only[RC.shares,List.any_eq_false]at h9
  exact h9 _ (List.mem_of_getElem? hc) rfl
 |n,.dar t xs::r,v::vs,hs,h=>by
  simp only[List.any_cons,Bool.or_eq_false_iff]at hs
  exact⟨h.1,b9.unshare hs.2 h.2⟩
 |_,.dar _ _::_,[],_,h=>h.elim
 |_,[],_::_,_,h=>h.elim
 |_,.c _::_,[],_,h=>h.elim
 |_,.own _ _ _::_,[],_,h=>h.elim
 |_,.box _::_,[],_,h=>h.elim
 |_,.shr _ _::_,[],_,h=>h.elim
 |_,.shr _ _::_,_::_,_,h=>h.elim
theorem b9.mono {N:Nat}{J J' Jn:Nat→Prop}{w:World}{mm:MF}(hJ:∀b,J b→J' b):∀{n:Nat} {mu:List RC} {vs:List Value},b9 N J Jn w mm n mu vs→b9 N J' Jn w mm n mu vs
 |_,[],[],h=>h
 |n,.c x::r,v::vs,h=>⟨h.1.mono (λ_ _=>rfl) (λb hb=>hb.imp (hJ b) id),b9.mono hJ h.2⟩
 |n,.own d t xs::r,v::vs,h=>by
  refine⟨⟨h.1.1, ?_⟩,b9.mono hJ h.2⟩
  rcases h.1.2 with h1|⟨b,cap,h1,h2,h3,h4,h5,h6,h7,h8⟩
  ·exact .inl h1
  ·refine .inr ⟨b,cap,h1,h2,h3,h4,h5,h6,h7,λi e j c he hc=> ?_⟩
   obtain⟨u,hu,hr⟩:=h8 i e j c he hc
   exact⟨u,hu,hr.mono (λ_ _=>rfl) (λb hb=>hb.imp (λh=>⟨hJ b h.1,h.2⟩) id)⟩
 |n,.box bs::r,v::vs,h=>by
  refine⟨?_,b9.mono hJ h.2⟩
  obtain⟨b,h1,h2,h3,h4,h5,h6,h7⟩:=h.1
  refine⟨b,h1,h2,h3,h4,h5,λj c hc=> ?_,h7⟩
  obtain⟨u,hu,hr⟩:=h6 j c hc
  exact⟨u,hu,hr.mono (λ_ _=>rfl) (λb hb=>hb.imp (hJ b) id)⟩
 |n,.dar t xs::r,v::vs,h=>⟨h.1,b9.mono hJ h.2⟩
 |_,.dar _ _::_,[],h=>h.elim
 |_,[],_::_,h=>h.elim
 |_,.c _::_,[],h=>h.elim
 |_,.own _ _ _::_,[],h=>h.elim
 |_,.box _::_,[],h=>h.elim
 |_,.shr _ _::_,[],h=>h.elim
 |_,.shr _ _::_,_::_,h=>h.elim
section
variable {N:Nat} {J J' Jn:Nat→Prop} {w:World} {mm:MF}
theorem yW.imp {n:Nat}{ag:Bool}{mu:List RC}{v:Value}(hh:∀n vs,b9 N J Jn w mm n mu vs→b9 N J' Jn w mm n mu vs)(h:yW N J Jn w mm n ag mu v):yW N J' Jn w mm n ag mu v:=by
 cases ag with
 |true=>obtain⟨us,hv,hu⟩:=h;exact⟨us,hv,hh _ _ hu⟩
 |false=>exact⟨h.1,h.2.1,hh _ _ h.2.2⟩
theorem rj.imp:∀{n:Nat} {R:cS} {vs:List Value},(∀r∈R,∀n vs,b9 N J Jn w mm n r.2 vs→b9 N J' Jn w mm n r.2 vs)→rj N J Jn w mm n R vs→rj N J' Jn w mm n R vs
 |_,[],[],_,h=>h
 |_,r::rs,v::vs,hh,h=>⟨h.1.imp (hh r (by simp)),rj.imp (λr hr=>hh r (List.mem_cons_of_mem _ hr)) h.2⟩
 |_,[],_::_,_,h=>h.elim
 |_,_::_,[],_,h=>h.elim
theorem nG.imp {R:cS}{v:Value}(hh:∀r∈R,∀n vs,b9 N J Jn w mm n r.2 vs→b9 N J' Jn w mm n r.2 vs)(h:nG N J Jn w mm R v):nG N J' Jn w mm R v:=by
 match R,hh,h with
 |[r],hh,h=>exact yW.imp (hh r (by simp)) h
 |[],hh,h=>obtain⟨us,hu1,hu2⟩:=h;exact⟨us,hu1,hu2.imp hh⟩
 |_::_::_,hh,h=>obtain⟨us,hu1,hu2⟩:=h;exact⟨us,hu1,hu2.imp hh⟩
theorem nG.settle {R:cS}{v:Value}(J':Nat→Prop)(h:nG N J Jn w mm R v)(hs:R.any (λr=>r.2.any RC.shares)=true→∀b,J b→J' b):nG N J' Jn w mm R v:=by
 cases hb:R.any (λr=>r.2.any RC.shares)with
 |true=>exact h.imp λr _ _ _ hh=>hh.mono (hs hb)
 |false=>
  refine h.imp λr hr _ _ hh=>hh.unshare ?_
  rw[List.any_eq_false]at hb
  have:=hb r hr
  simpa using this
end
section
variable {w0:World} {mo:gj} {n:Nat} {I0 I:Nat→Prop} {M:MF} {s:FSt} {a:Act} {w:World}
theorem SimX.add (h:SimX w0 mo n I0 I M s a w){id:Nat}(hid:s.obj id=none){o:Ob}{m:Option (Nat×Nat)}(hfree:∀i b c c',s.obj i≠none→M i=some (b,c)→m=some (b,c')→False)(hmN:∀b c,m=some (b,c)→w0.heap.size≤b)(hfv:∀i j k b c c',isDar (s.obj i)=true→M.n i j k=some (b,c)→m=some (b,c')→False)(hnd:isDar (some o)=false)
  (ho:∀(_:Ext (ax w0 I0 I M s w) ⟨w0.heap.size,I0,I,bp M id m,af s.obj id o,w⟩),xS ⟨w0.heap.size,I0,I,bp M id m,af s.obj id o,w⟩ id o):
  Ext (ax w0 I0 I M s w) ⟨w0.heap.size,I0,I,bp M id m,af s.obj id o,w⟩∧SimX w0 mo n I0 I (bp M id m) ⟨s.tmp,af s.obj id o⟩ a w:=by
 have hne:∀i,s.obj i≠none→i≠id:=by rintro i hi rfl;exact hi hid
 have hext:Ext (ax w0 I0 I M s w) ⟨w0.heap.size,I0,I,bp M id m,af s.obj id o,w⟩:=by
  refine⟨rfl,rfl,h.i00,λ_ hb=>hb,λb hb=>rfl,λi cs hi=> ?_,λi t xs v f d hi=> ?_,λi t xs v k hi=> ?_⟩
  ·have hi':i≠id:=hne i (by simp only[]at hi;rw[hi];simp)
   exact⟨⟨cs,by simp only[af,if_neg hi'];exact hi⟩,by simp only[bp,if_neg hi']⟩
  ·have hi':i≠id:=hne i (by simp only[]at hi;rw[hi];simp)
   exact⟨t,xs,v,f,d,by simp only[af,if_neg hi'];exact hi,Nat.le_refl _,λ_=>⟨rfl,rfl,by simp only[bp,if_neg hi']⟩⟩
  ·have hi':i≠id:=hne i (by simp only[]at hi;rw[hi];simp)
   exact⟨_,by simp only[af,if_neg hi'];exact hi,.same (by simp only[bp,if_neg hi']) rfl⟩
 have hdar:∀i,isDar (af s.obj id o i)=true→isDar (s.obj i)=true:=by
  intro i hi
  by_cases e:i=id
  ·simp only[af,if_pos e]at hi;rw[hnd]at hi;cases hi
  ·simpa only[af,if_neg e]using hi
 refine⟨hext,h.turn hext (BelowX.refl _ _ _) h.ilt h.idiv (λi b c hi hM=>by
   by_cases e:i=id
   ·simp only[bp,if_pos e]at hM
    exact .inl (hmN b c hM)
   ·simp only[bp,if_neg e]at hM
    simp only[af,if_neg e]at hi
    exact h.own i b c hi hM) ?_ ?_ (h.vir.keep (λi hi=>⟨hdar i hi,rfl⟩) (λ_ hb=> .inl hb) (λi b c hi hM i' k j c' hi' hn=>by
   by_cases e:i=id
   ·simp only[bp,if_pos e]at hM
    exact hfv i' k j b c' c (hdar i' hi') hn hM
   ·simp only[bp,if_neg e]at hM
    simp only[af,if_neg e]at hi
    exact h.vir.dis i' i k j b c' c (hdar i' hi') hi hn hM) (Nat.le_refl _))⟩
 ·intro i x hx
  by_cases e:i=id
  ·subst e
   simp only[af,if_pos]at hx
   cases hx
   exact ho hext
  ·simp only[af,if_neg e]at hx
   exact(h.objs i x hx).ext hext (by simp only[bp,if_neg e]) (Nat.le_refl _) (λb cap hb=>⟨rfl,λy=>y⟩) rfl λ_ _ _ _ _ _=>rfl
 ·intro i j b c c' hi hj hb hb'
  by_cases ei:i=id<;>by_cases ej:j=id
  ·rw[ei,ej]
  ·simp only[bp,if_pos ei,if_neg ej]at hb hb'
   simp only[af,if_neg ej]at hj
   exact(hfree j b c' c hj hb' hb).elim
  ·simp only[bp,if_pos ej,if_neg ei]at hb hb'
   simp only[af,if_neg ei]at hi
   exact(hfree i b c c' hi hb hb').elim
  ·simp only[bp,if_neg ei,if_neg ej]at hb hb'
   simp only[af,if_neg ei]at hi
   simp only[af,if_neg ej]at hj
   exact h.inj i j b c c' hi hj hb hb'
def kC (obj:Nat→Option Ob)(base:Nat)(os:List Ob):Nat→Option Ob:=λid=>match ac (au base os) id with|some o=>some o|none=>obj id
theorem pN:∀{base:Nat} {os:List Ob} {i:Nat},i∈(au base os).map (·.1)→base≤i∧i<base+os.length
 |_,[],i,h=>by simp[au]at h
 |base,o::os,i,h=>by
  simp only[au,List.map_cons,List.mem_cons]at h
  rcases h with rfl|h
  ·simp
  ·have:=pN h
   simp;omega
theorem EV:∀{base:Nat} {os:List Ob} {i:Nat},base≤i→i<base+os.length→i∈(au base os).map (·.1)
 |base,[],i,h1,h2=>by simp at h2;omega
 |base,o::os,i,h1,h2=>by
  simp only[au,List.map_cons,List.mem_cons]
  by_cases e:i=base
  ·exact .inl e
  ·exact .inr (EV (by omega) (by simp at h2;omega))
theorem wW:∀(base:Nat) (os os':List Ob),au base (os++os')=au base os++au (base+os.length) os'
 |base,[],os'=>by simp[au]
 |base,o::os,os'=>by
  simp only[List.cons_append,au,wW (base+1) os os',List.length_cons]
  rw[show base+1+os.length=base+(os.length+1) from by omega]
theorem oK (obj:Nat→Option Ob)(base:Nat)(os os':List Ob):kC (kC obj base os) (base+os.length) os'=kC obj base (os++os'):=by
 funext id
 unfold kC
 rw[wW,bZ]
 cases h1:ac (au base os) id with
 |none=>rfl
 |some o=>
  have:ac (au (base+os.length) os') id=none:=by
   refine dN λhc=> ?_
   have h2:=pN hc
   have h3:=pN (cY h1)
   omega
  rw[this]
structure Free (s:FSt)(M:MF)(mm:MF)(k:Nat):Prop where
 xm:∀(i id b c c':Nat),k≤i→s.obj id≠none→M id=some (b,c)→mm i=some (b,c')→False
 xn:∀(i id j l b c c':Nat),k≤i→isDar (s.obj id)=true→M.n id j l=some (b,c)→mm i=some (b,c')→False
 ym:∀(i j l id b c c':Nat),k≤i→s.obj id≠none→M id=some (b,c)→mm.n i j l=some (b,c')→False
 yn:∀(i j l id j' l' b c c':Nat),k≤i→isDar (s.obj id)=true→M.n id j' l'=some (b,c)→mm.n i j l=some (b,c')→False
theorem Free.step {s:FSt}{M mm:MF}{k base:Nat}(hfr:Free s M mm k){N:Nat}(hmm:MmOk mm N){o:Ob}(hnd:isDar (some o)=false):Free ⟨s.tmp,af s.obj (base+k) o⟩ (bp M (base+k) (mm k)) mm (k+1):=by
 have hd:∀id,isDar (af s.obj (base+k) o id)=true→isDar (s.obj id)=true:=by
  intro id hi
  by_cases e:id=base+k
  ·simp only[af,if_pos e]at hi;rw[hnd]at hi;cases hi
  ·simpa only[af,if_neg e]using hi
 refine⟨λi id b c c' hki hid hM hm=> ?_,λi id j l b c c' hki hid hM hm=>hfr.xn i id j l b c c' (by omega) (hd id hid) hM hm,λi j l id b c c' hki hid hM hm=> ?_,λi j l id j' l' b c c' hki hid hM hm=>hfr.yn i j l id j' l' b c c' (by omega) (hd id hid) hM hm⟩
 ·by_cases e:id=base+k
  ·simp only[bp,if_pos e]at hM
   have:=hmm.inj k i b c c' hM hm
   omega
  ·simp only[bp,if_neg e]at hM
   simp only[af,if_neg e]at hid
   exact hfr.xm i id b c c' (by omega) hid hM hm
 ·by_cases e:id=base+k
  ·simp only[bp,if_pos e]at hM
   exact hmm.vdis i k j l b c' c hm hM
  ·simp only[bp,if_neg e]at hM
   simp only[af,if_neg e]at hid
   exact hfr.ym i j l id b c c' (by omega) hid hM hm
theorem Free.stepD {s:FSt}{M mm:MF}{k base:Nat}(hfr:Free s M mm k){N:Nat}(hmm:MmOk mm N){o:Ob}:Free ⟨s.tmp,af s.obj (base+k) o⟩ (aE M (base+k) (mm k) (mm.n k)) mm (k+1):=by
 refine⟨λi id b c c' hki hid hM hm=> ?_,λi id j l b c c' hki hid hM hm=> ?_,λi j l id b c c' hki hid hM hm=> ?_,λi j l id j' l' b c c' hki hid hM hm=> ?_⟩<;>by_cases e:id=base+k
 ·simp only[aE,if_pos e]at hM
  have:=hmm.inj k i b c c' hM hm
  omega
 ·simp only[aE,if_neg e]at hM
  simp only[af,if_neg e]at hid
  exact hfr.xm i id b c c' (by omega) hid hM hm
 ·simp only[aE,if_pos e]at hM
  exact hmm.vdis k i j l b c c' hM hm
 ·simp only[aE,if_neg e]at hM
  simp only[af,if_neg e]at hid
  exact hfr.xn i id j l b c c' (by omega) hid hM hm
 ·simp only[aE,if_pos e]at hM
  exact hmm.vdis i k j l b c' c hm hM
 ·simp only[aE,if_neg e]at hM
  simp only[af,if_neg e]at hid
  exact hfr.ym i j l id b c c' (by omega) hid hM hm
 ·simp only[aE,if_pos e]at hM
  have:=(hmm.vinj k i j' j l' l b c c' hM hm).1
  omega
 ·simp only[aE,if_neg e]at hM
  simp only[af,if_neg e]at hid
  exact hfr.yn i j l id j' l' b c c' (by omega) hid hM hm
theorem kA {base N:Nat}{J Jn:Nat→Prop}{mm:MF}(hinj:MmOk mm N)(hN:w0.heap.size≤N)(hIN:∀b,N≤b→I b→Jn b)(hJ:∀b,J b→I b)
  (hJn:∀b,Jn b→I b∧w0.heap.size≤b):∀{k:Nat} {mu:List RC} {vs:List Value} {s:FSt} {M:MF} {a:Act},SimX w0 mo n I0 I M s a w→b9 N J Jn w mm k mu vs→Free s M mm k→
   (∀id,base+k≤id→id<base+k+cq mu→s.obj id=none)→
   ∃M',Ext (ax w0 I0 I M s w) ⟨w0.heap.size,I0,I,M',kC s.obj (base+k) (aq (base+k) mu).2.1,w⟩∧SimX w0 mo n I0 I M' ⟨s.tmp,kC s.obj (base+k) (aq (base+k) mu).2.1⟩ a w∧
    ar (λc u=>aA ⟨w0.heap.size,I0,I,M',kC s.obj (base+k) (aq (base+k) mu).2.1,w⟩ c u∧u.oneCell'=true) (aq (base+k) mu).1 vs∧
    Free ⟨s.tmp,kC s.obj (base+k) (aq (base+k) mu).2.1⟩ M' mm (k+cq mu)∧(aq (base+k) mu).2.2=base+k+cq mu∧(aq (base+k) mu).2.1.length=cq mu
 |k,[],[],s,M,a,h,_,hfr,_=>⟨M,Ext.refl h.i00,h,trivial,hfr,rfl,rfl⟩
 |k,.c x::r,v::vs,s,M,a,h,hr,hfr,hid=>by
  obtain⟨M',hext,hs,hall,hfr',hn,hl⟩:=kA hinj hN hIN hJ hJn h hr.2 hfr hid
  refine⟨M',hext,hs,⟨⟨?_,hr.1.one⟩,hall⟩,hfr',hn,hl⟩
  refine RepC.toD (p:= .any) (hr.1.mono (λ_ _=>rfl) ?_)
  rintro b (hb|hb)
  ·exact hJ b hb
  ·exact(hJn b hb).1
 |k,.own d t xs::r,v::vs,s,M,a,h,hr,hfr,hid=>by
  obtain⟨hval,hown⟩:=hr.1
  have hidk:s.obj (base+k)=none:=hid _ (Nat.le_refl _) (by simp[cq])
  have h1:v.oneCell'=true:=by
   cases hm:mm k with
   |none=>rw[hm]at hval;obtain⟨_,rfl⟩:=hval;rfl
   |some p=>obtain⟨b,cap⟩:=p;rw[hm]at hval;simp only[aM]at hval;rw[hval];rfl
  obtain⟨hext,hs⟩:=h.add hidk (o:= .arr t xs 0 false d) (m:=mm k) (λi b c c' hi hM hm=>hfr.xm k i b c c' (Nat.le_refl _) hi hM hm) (λb c hm=>by
   rcases hown with⟨h0,_⟩|⟨b',cap,h0,h1,_⟩
   ·rw[h0]at hm;cases hm
   ·rw[h0]at hm;cases hm;exact Nat.le_trans hN h1) (λi j l b c c' hi hM hm=>hfr.xn k i j l b c c' (Nat.le_refl _) hi hM hm) rfl (by
   intro hext
   rcases hown with⟨hm,hx⟩|⟨b,cap,hm,hb1,hb2,hb3,hb4,hb5,hb6,hb7⟩
   ·exact .inl ⟨by simp only[bp,if_pos];exact hm,hx⟩
   ·refine .inr ⟨b,cap,by simp only[bp,if_pos];exact hm,λ_=>Nat.le_trans hN hb1,hb2,⟨λhI=>(hb3 (hIN b hb1 hI)).elim,by simp⟩,hb4,hb5,hb6,λi e j c he hc=> ?_⟩
    obtain⟨u,hu,hru⟩:=hb7 i e j c he hc
    refine⟨u,hu,hru.mono (λ_ _=>rfl) ?_⟩
    rintro b' (⟨hb',hd⟩|hb')
    ·subst hd;exact hJ b' hb'
    ·cases d
     ·exact(hJn b' hb').1
     ·exact hJn b' hb')
  have hfr1:=hfr.step (base:=base) hinj (o:= .arr t xs 0 false d) rfl
  obtain⟨M',hext2,hs2,hall,hfr',hn,hl⟩:=kA (base:=base) (k:=k+1) hinj hN hIN hJ hJn hs hr.2 hfr1 (by
   intro id h1 h2
   have hne:id≠base+k:=by omega
   simp only[af,if_neg hne]
   exact hid id (by omega) (by simp only[cq];omega))
  have hfun:kC (af s.obj (base+k) (.arr t xs 0 false d)) (base+(k+1)) (aq (base+(k+1)) r).2.1=kC s.obj (base+k) (aq (base+k) (.own d t xs::r)).2.1:=by
   have e1:af s.obj (base+k) (.arr t xs 0 false d)=kC s.obj (base+k) [.arr t xs 0 false d]:=by
    funext i
    rw[aR];rfl
   rw[e1]
   have:=oK s.obj (base+k) [.arr t xs 0 false d] (aq (base+(k+1)) r).2.1
   simp only[List.length_singleton]at this
   rw[show base+(k+1)=base+k+1 from rfl,show base+k+1=base+k+1 from rfl]at*
   rw[this]
   rfl
  have hcs:(aq (base+k) (.own d t xs::r)).1= .own (base+k) 0::(aq (base+(k+1)) r).1:=rfl
  rw[hfun]at hext2 hs2 hall hfr'
  refine⟨M',hext.trans hext2,hs2, ?_,by rw[show k+cq (.own d t xs::r)=k+1+cq r from by simp only[cq];omega];exact hfr', ?_, ?_⟩
  ·rw[hcs]
   refine⟨⟨?_,h1⟩,hall⟩
   have hrep:aA ⟨w0.heap.size,I0,I,bp M (base+k) (mm k),af s.obj (base+k) (.arr t xs 0 false d),w⟩ (.own (base+k) 0) v:=
    ⟨t,xs,0,false,d,by simp only[af,if_pos],Nat.le_refl _,λ_=>by simp only[bp,if_pos];exact hval,h1⟩
   exact hrep.ext hext2
  ·have:(aq (base+k) (.own d t xs::r)).2.2=(aq (base+(k+1)) r).2.2:=rfl
   rw[this,hn];simp only[cq];omega
  ·have:(aq (base+k) (.own d t xs::r)).2.1= .arr t xs 0 false d::(aq (base+(k+1)) r).2.1:=rfl
   rw[this,List.length_cons,hl];simp only[cq]
 |k,.box bs::r,v::vs,s,M,a,h,hr,hfr,hid=>by
  obtain⟨b0,hm,hval,hb1,hb2,hb3,hb4,hb5⟩:=hr.1
  have hidk:s.obj (base+k)=none:=hid _ (Nat.le_refl _) (by simp[cq])
  have h1:v.oneCell'=true:=by rw[hval];rfl
  obtain⟨hext,hs⟩:=h.add hidk (o:= .box (bs.map (Cell.toD .any))) (m:=mm k) (λi b c c' hi hM hm=>hfr.xm k i b c c' (Nat.le_refl _) hi hM hm) (λb c hm'=>by rw[hm]at hm';cases hm';exact Nat.le_trans hN hb1) (λi j l b c c' hi hM hm=>hfr.xn k i j l b c c' (Nat.le_refl _) hi hM hm) rfl (by
   intro hext
   refine⟨b0,by simp only[bp,if_pos];exact hm,trivial,hb2,λhI=>hb3 (hIN b0 hb1 hI),λj c hj=> ?_,λj hj=>hb5 j (by simpa using hj)⟩
   rw[List.getElem?_map,Option.map_eq_some_iff]at hj
   obtain⟨x,hx,rfl⟩:=hj
   obtain⟨u,hu,hru⟩:=hb4 j x hx
   refine⟨u,hu,RepC.toD (p:= .any) (hru.mono (λ_ _=>rfl) ?_),hru.one⟩
   rintro b' (hb'|hb')
   ·exact hJ b' hb'
   ·exact(hJn b' hb').1)
  have hfr1:=hfr.step (base:=base) hinj (o:= .box (bs.map (Cell.toD .any))) rfl
  obtain⟨M',hext2,hs2,hall,hfr',hn,hl⟩:=kA (base:=base) (k:=k+1) hinj hN hIN hJ hJn hs hr.2 hfr1 (by
   intro id h1 h2
   have hne:id≠base+k:=by omega
   simp only[af,if_neg hne]
   exact hid id (by omega) (by simp only[cq];omega))
  have hfun:kC (af s.obj (base+k) (.box (bs.map (Cell.toD .any)))) (base+(k+1)) (aq (base+(k+1)) r).2.1=kC s.obj (base+k) (aq (base+k) (.box bs::r)).2.1:=by
   have e1:af s.obj (base+k) (.box (bs.map (Cell.toD .any)))=kC s.obj (base+k) [.box (bs.map (Cell.toD .any))]:=by
    funext i
    rw[aR];rfl
   rw[e1]
   exact oK s.obj (base+k) [.box (bs.map (Cell.toD .any))] (aq (base+(k+1)) r).2.1
  have hcs:(aq (base+k) (.box bs::r)).1= .ptr (base+k) 0::(aq (base+(k+1)) r).1:=rfl
  rw[hfun]at hext2 hs2 hall hfr'
  refine⟨M',hext.trans hext2,hs2, ?_,by rw[show k+cq (.box bs::r)=k+1+cq r from by simp only[cq];omega];exact hfr', ?_, ?_⟩
  ·rw[hcs]
   refine⟨⟨?_,h1⟩,hall⟩
   have hrep:aA ⟨w0.heap.size,I0,I,bp M (base+k) (mm k),af s.obj (base+k) (.box (bs.map (Cell.toD .any))),w⟩ (.ptr (base+k) 0) v:=
    ⟨bs.map (Cell.toD .any),b0,by simp only[af,if_pos],by simp only[bp,if_pos];exact hm,hval⟩
   exact hrep.ext hext2
  ·have:(aq (base+k) (.box bs::r)).2.2=(aq (base+(k+1)) r).2.2:=rfl
   rw[this,hn];simp only[cq];omega
  ·have:(aq (base+k) (.box bs::r)).2.1= .box (bs.map (Cell.toD .any))::(aq (base+(k+1)) r).2.1:=rfl
   rw[this,List.length_cons,hl];simp only[cq]
 |k,.dar t xs::r,v::vs,s,M,a,h,hr,hfr,hid=>by
  obtain⟨hval,hown,hvir⟩:=hr.1
  have hidk:s.obj (base+k)=none:=hid _ (Nat.le_refl _) (by simp[cq])
  have h1:v.oneCell'=true:=by
   cases hm:mm k with
   |none=>rw[hm]at hval;obtain⟨_,rfl⟩:=hval;rfl
   |some p=>obtain⟨b,cap⟩:=p;rw[hm]at hval;simp only[aM]at hval;rw[hval];rfl
  have hfB:∀b,N≤b→b<w.heap.size→¬Jn b→(∀i c,s.obj i≠none→M i≠some (b,c))→(∀i j l c,isDar (s.obj i)=true→M.n i j l≠some (b,c))→FreeB w0 I M s.obj w.heap.size b:=
   λb g1 g2 g3 g4 g5=>⟨Nat.le_trans hN g1,g2,λhI=>g3 (hIN b g1 hI),g4,g5⟩
  obtain⟨hext,hs⟩:=h.dput (id:=base+k) (t':=t) (xs':=xs) (ver':=0) (iv':=0) (m:=mm k) (n':=mm.n k) (w':=w) (by rw[hidk];trivial) (λ_ _ _=>rfl) (Nat.le_refl _) rfl rfl rfl
   (λb c hm=>by
    rcases hown with⟨h0,_⟩|⟨b',cap,h0,g1,g2,g3,_⟩
    ·rw[h0]at hm;cases hm
    ·rw[h0]at hm;cases hm
     exact .inl (hfB _ g1 g2 g3 (λi c' hi hM=>hfr.xm k i b c' _ (Nat.le_refl _) hi hM h0) (λi j l c' hi hM=>hfr.xn k i j l b c' _ (Nat.le_refl _) hi hM h0)))
   (λi j b c hm=>by
    obtain⟨g1,g2,g3⟩:=hvir i j b c hm
    exact .inl (hfB _ g1 g2 g3 (λi' c' hi hM=>hfr.ym k i j i' b c' c (Nat.le_refl _) hi hM hm) (λi' j' l' c' hi hM=>hfr.yn k i j i' j' l' b c' c (Nat.le_refl _) hi hM hm)))
   (λi j i' j' b c c' g1 g2=>(hinj.vinj k k i i' j j' b c c' g1 g2).2) (λi j b c c' g1 g2=>hinj.vdis k k i j b c c' g1 g2) (λhext=>by
    rcases hown with⟨hm,hx⟩|⟨b,cap,hm,hb1,hb2,hb3,hb4,hb5,hb6,hb7⟩
    ·exact .inl ⟨by simp only[aE,if_pos];exact hm,hx⟩
    ·exact .inr ⟨b,cap,by simp only[aE,if_pos];exact hm,hb2,λhI=>hb3 (hIN b hb1 hI),hb4,hb5,hb6,λi e j c he hc=>by simp only[aE,if_pos];exact hb7 i e j c he hc⟩)
  have hfr1:=hfr.stepD (base:=base) hinj (o:= .dar t xs 0 0)
  obtain⟨M',hext2,hs2,hall,hfr',hn,hl⟩:=kA (base:=base) (k:=k+1) hinj hN hIN hJ hJn hs hr.2 hfr1 (by
   intro id h1 h2
   have hne:id≠base+k:=by omega
   simp only[af,if_neg hne]
   exact hid id (by omega) (by simp only[cq];omega))
  have hfun:kC (af s.obj (base+k) (.dar t xs 0 0)) (base+(k+1)) (aq (base+(k+1)) r).2.1=kC s.obj (base+k) (aq (base+k) (.dar t xs::r)).2.1:=by
   have e1:af s.obj (base+k) (.dar t xs 0 0)=kC s.obj (base+k) [.dar t xs 0 0]:=by
    funext i
    rw[aR];rfl
   rw[e1]
   exact oK s.obj (base+k) [.dar t xs 0 0] (aq (base+(k+1)) r).2.1
  have hcs:(aq (base+k) (.dar t xs::r)).1= .down (base+k) 0::(aq (base+(k+1)) r).1:=rfl
  rw[hfun]at hext2 hs2 hall hfr'
  refine⟨M',hext.trans hext2,hs2, ?_,by rw[show k+cq (.dar t xs::r)=k+1+cq r from by simp only[cq];omega];exact hfr', ?_, ?_⟩
  ·rw[hcs]
   refine⟨⟨?_,h1⟩,hall⟩
   have hrep:aA ⟨w0.heap.size,I0,I,aE M (base+k) (mm k) (mm.n k),af s.obj (base+k) (.dar t xs 0 0),w⟩ (.down (base+k) 0) v:=
    ⟨h1,.dar t xs 0 0,by simp only[af,if_pos],Nat.le_refl _,λ_=>by simp only[aE,if_pos];exact hval⟩
   exact hrep.ext hext2
  ·have:(aq (base+k) (.dar t xs::r)).2.2=(aq (base+(k+1)) r).2.2:=rfl
   rw[this,hn];simp only[cq];omega
  ·have:(aq (base+k) (.dar t xs::r)).2.1= .dar t xs 0 0::(aq (base+(k+1)) r).2.1:=rfl
   rw[this,List.length_cons,hl];simp only[cq]
 |_,.dar _ _::_,[],_,_,_,_,h,_,_=>h.elim
 |_,[],_::_,_,_,_,_,h,_,_=>h.elim
 |_,.c _::_,[],_,_,_,_,h,_,_=>h.elim
 |_,.box _::_,[],_,_,_,_,h,_,_=>h.elim
 |_,.own _ _ _::_,[],_,_,_,_,h,_,_=>h.elim
end
end Go.Proofs.YtffjmkhjhchnmaaGreat
