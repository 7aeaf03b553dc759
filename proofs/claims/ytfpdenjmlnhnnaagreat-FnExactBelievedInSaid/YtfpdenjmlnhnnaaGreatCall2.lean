/- A call: its arguments, its results. -/
import Derived.Test.YtfpdenjmlnhnnaaGreatCall
set_option linter.unusedVariables false
set_option linter.unusedSimpArgs false
namespace Go.Proofs.YtfpdenjmlnhnnaaGreat
open Go Go.RowKit
section
variable {w0:World} {mo:o8} {n:Nat} {I0 I Jn:Nat→Prop} {M:Nat→Option (Nat×Nat)} {s:FSt} {a:Act} {w w':World}
theorem yg (k:Nat)(ag:Bool)(cs:List RC)(r:eT):
  eY k ((ag,cs)::r)=((ag,(aQ k cs).1)::(eY (aQ k cs).2.2 r).1,(aQ k cs).2.1++(eY (aQ k cs).2.2 r).2):=rfl
def tZ:eT→Nat
 |[]=>0
 |r::rs=>fh r.2+tZ rs
def aa3 (ag:Bool)(v:Value)(us:List Value):Prop:=match ag with|true=>∃a:Array Value,v= .agg a∧a.toList=us|false=>us=[v]
theorem Zo {x:Cx}{ag:Bool}{ds:List DC}{v:Value}{us:List Value}(hall:aL (λc u=>be x c u∧u.oneCell'=true) ds us)(hv:aa3 ag v us):kP x ag ds v:=by
 cases ag with
 |true=>obtain⟨a,rfl,rfl⟩:=hv;exact⟨a,rfl,hall⟩
 |false=>
  simp only[aa3]at hv
  subst hv
  match ds,hall with
  |[c],hall=>exact⟨c,rfl,hall.1.1⟩
  |[],hall=>exact hall.elim
  |_::_::_,hall=>exact hall.2.elim
theorem L5 {base N:Nat}{J Jn:Nat→Prop}{mm:Nat→Option (Nat×Nat)}(hinj:∀i j b c c',mm i=some (b,c)→mm j=some (b,c')→i=j)(hN:w0.heap.size≤N)(hIN:∀b,N≤b→I b→Jn b)(hJ:∀b,J b→I b)
  (hJn:∀b,Jn b→I b∧w0.heap.size≤b):∀{R:eT} {k:Nat} {vs:List Value} {s:FSt} {M:Nat→Option (Nat×Nat)} {a:Act},SimX w0 mo n I0 I M s a w→wz N J Jn w mm k R vs→XY s M mm k→
   (∀id,base+k≤id→id<base+k+tZ R→s.obj id=none)→
   ∃M',Ext (aY w0 I0 I M s w) ⟨w0.heap.size,I0,I,M',pm s.obj (base+k) (eY (base+k) R).2,w⟩∧SimX w0 mo n I0 I M' ⟨s.tmp,pm s.obj (base+k) (eY (base+k) R).2⟩ a w∧
    aL (λp u=>kP ⟨w0.heap.size,I0,I,M',pm s.obj (base+k) (eY (base+k) R).2,w⟩ p.1 p.2 u) (eY (base+k) R).1 vs
 |[],k,[],s,M,a,h,_,hfr,_=>⟨M,Ext.refl h.i00,h,trivial⟩
 |(ag,pN)::R,k,v::vs,s,M,a,h,hr,hfr,hid=>by
  have h1:∃us,di N J Jn w mm k pN us∧aa3 ag v us:=by
   have:=hr.1
   cases ag with
   |true=>obtain⟨us,hv,hu⟩:=this;exact⟨us.toList,hu,us,hv,rfl⟩
   |false=>exact⟨[v],this.2.2,rfl⟩
  obtain⟨us,hus,hv⟩:=h1
  obtain⟨M1,hext1,hs1,hall1,hfr1,hn1,hl1⟩:=p9 (base:=base) hinj hN hIN hJ hJn h hus hfr (λid h1 h2=>hid id h1 (by simp only[tZ];omega))
  obtain⟨M2,hext2,pU,hall2⟩:=L5 (base:=base) (R:=R) (k:=k+fh pN) hinj hN hIN hJ hJn hs1 hr.2 hfr1 (by
   intro id h1 h2
   have:ao (aR (base+k) (aQ (base+k) pN).2.1) id=none:=ke λhc=>by
    have:=uB hc
    omega
   simp only[pm,this]
   exact hid id (by omega) (by simp only[tZ];omega))
  rw[yg]
  simp only[]
  have e1:(aQ (base+k) pN).2.2=base+(k+fh pN):=by rw[hn1];omega
  have e2:pm (pm s.obj (base+k) (aQ (base+k) pN).2.1) (base+(k+fh pN)) (eY (base+(k+fh pN)) R).2=pm s.obj (base+k) ((aQ (base+k) pN).2.1++(eY (base+(k+fh pN)) R).2):=by
   rw[←xX,hl1,Nat.add_assoc]
  rw[e1]
  simp only[]at hext2 pU hall2
  rw[e2]at hext2 pU hall2
  refine⟨M2,hext1.trans hext2,pU,(Zo hall1 hv).ext hext2,hall2⟩
 |[],_,_::_,_,_,_,_,h,_,_=>h.elim
 |_::_,_,[],_,_,_,_,h,_,_=>h.elim
def QF (W:List (Nat×MO×Ob))(d:DC)(c:MC):Prop:=
 match c with
 | .c x=>ia [d]=some [x]
 | .own k=>∃id ver t xs dp,d= .own id ver∧W[k]? =some (id,.arr t xs,.arr t xs ver false dp)
 | .ptr _=>False
def aaK (x:Cx)(W:List (Nat×MO×Ob))(p:Nat×MO×Ob):Prop:=x.obj p.1=some p.2.2∧match p.2.2,p.2.1 with
  | .box cs,.box xs=>aL (QF W) cs xs
  | .arr t xs _ f _,.arr t' xs'=>f=false∧∃h:t'=t,xs=h▸xs'
  |_,_=>False
def BP (x:Cx)(W:List (Nat×MO×Ob)):Prop:=(W.map (·.1)).Nodup∧∀p∈W,aaK x W p
theorem QF.mono {W W':List (Nat×MO×Ob)}{d:DC}{c:MC}(h:QF W d c)(hW:∀(k:Nat) p,W[k]? =some p→W'[k]? =some p):QF W' d c:=by
 cases c with
 |c x=>exact h
 |own k=>obtain⟨id,ver,t,xs,dp,h1,h2⟩:=h;exact⟨id,ver,t,xs,dp,h1,hW _ _ h2⟩
 |ptr _=>exact h
theorem aaK.mono {x:Cx}{W W':List (Nat×MO×Ob)}{p:Nat×MO×Ob}(h:aaK x W p)(hW:∀(k:Nat) p,W[k]? =some p→W'[k]? =some p):aaK x W' p:=by
 obtain⟨h1,h2⟩:=h
 refine⟨h1, ?_⟩
 split at h2
 ·exact h2.mono λ_ _ hh=>hh.mono hW
 ·exact h2
 ·exact h2.elim
def C3:MO→Nat
 | .box _=>0
 | .arr _ xs=>xs.length
def ev (M:Nat→Option (Nat×Nat))(W:List (Nat×MO×Ob)):o8:=W.map λp=>(M p.1,C3 p.2.1)
theorem oV {M:Nat→Option (Nat×Nat)}{W:List (Nat×MO×Ob)}{k:Nat}{m:Option (Nat×Nat)×Nat}(h:(ev M W)[k]? =some m):∃p,W[k]? =some p∧m=(M p.1,C3 p.2.1):=by
 unfold ev at h
 rw[List.getElem?_map,Option.map_eq_some_iff]at h
 obtain⟨p,hp,rfl⟩:=h
 exact⟨p,hp,rfl⟩
theorem zY {M:Nat→Option (Nat×Nat)}{W:List (Nat×MO×Ob)}{b:Nat}:(ev M W).X b↔∃p∈W,∃c,M p.1=some (b,c):=by
 constructor
 ·rintro⟨m,hm,c,hc⟩
  obtain⟨k,hk⟩:=List.getElem?_of_mem hm
  obtain⟨p,hp,rfl⟩:=oV hk
  exact⟨p,List.mem_of_getElem? hp,c,hc⟩
 ·rintro⟨p,hp,c,hc⟩
  exact⟨(M p.1,C3 p.2.1),List.mem_map.2 ⟨p,hp,rfl⟩,c,hc⟩
theorem jI:∀{W:List (Nat×MO×Ob)} {O:List MO},W.length=O.length→∀{id:Nat} {ob:Ob},ao (dd W O) id=some ob→∃(k:Nat) (p:Nat×MO×Ob) (o:MO),W[k]? =some p∧O[k]? =some o∧p.1=id∧ob=Pe p.2.2 o
 |[],[],_,_,_,h=>by simp[dd,ao]at h
 |(i,m,o0)::W,o::O,hl,id,ob,h=>by
  simp only[dd,ao]at h
  cases hb:Nat.beq i id with
  |true=>
   rw[hb]at h
   cases h
   exact⟨0,(i,m,o0),o,rfl,rfl,Nat.eq_of_beq_eq_true hb,rfl⟩
  |false=>
   rw[hb]at h
   obtain⟨k,p,o',h1,h2,h3,h4⟩:=jI (by simpa using hl) h
   exact⟨k+1,p,o',by simpa using h1,by simpa using h2,h3,h4⟩
 |[],_::_,hl,_,_,_=>by simp at hl
 |_::_,[],hl,_,_,_=>by simp at hl
theorem uc:∀{W:List (Nat×MO×Ob)} {O:List MO},W.length=O.length→∀{id:Nat},ao (dd W O) id=none→id∉W.map (·.1)
 |[],[],_,_,_=>by simp
 |(i,m,o0)::W,o::O,hl,id,h=>by
  simp only[dd,ao]at h
  cases hb:Nat.beq i id with
  |true=>rw[hb]at h;cases h
  |false=>
   rw[hb]at h
   have:=uc (by simpa using hl) h
   simp only[List.map_cons,List.mem_cons,not_or]
   exact⟨λe=>Nat.ne_of_beq_eq_false hb e.symm,this⟩
 |[],_::_,hl,_,_=>by simp at hl
 |_::_,[],hl,_,_=>by simp at hl
theorem pK.one {mo:o8}{J:Nat→Prop}{w:World}{c:MC}{v:Value}(h:pK mo J w c v):v.oneCell'=true:=by
 cases c with
 |c x=>exact RepC.one h
 |own k=>
  obtain⟨m,_,hv⟩:=h
  cases hm:m.1 with
  |none=>rw[hm]at hv;obtain⟨_,rfl⟩:=hv;rfl
  |some p=>obtain⟨b,c⟩:=p;rw[hm]at hv;simp only[dk]at hv;rw[hv];rfl
 |ptr k=>obtain⟨m,b,_,_,rfl⟩:=h;rfl
theorem Ma:∀{cs:List DC} {ds:List MC},cs.length=ds.length→(Cr cs ds).length=ds.length
 |[],[],_=>rfl
 |_::_,_::_,h=>by simp only[Cr,List.length_cons];rw[Ma (by simpa using h)]
 |[],_::_,h=>by simp at h
 |_::_,[],h=>by simp at h
theorem PZ:∀{cs:List DC} {ds:List MC} {j:Nat} {c:DC},(Cr cs ds)[j]? =some c→∃d x,cs[j]? =some d∧ds[j]? =some x∧c=(match x with| .c x=>x.toD .any|_=>d)
 |d::cs,x::ds,j,c,h=>by
  cases j with
  |zero=>simp only[Cr,List.getElem?_cons_zero,Option.some.injEq]at h;exact⟨d,x,rfl,rfl,h.symm⟩
  |succ j=>
   simp only[Cr,List.getElem?_cons_succ]at h
   obtain⟨d',x',h1,h2,h3⟩:=PZ h
   exact⟨d',x',by simpa using h1,by simpa using h2,h3⟩
 |[],_,j,c,h=>by simp[Cr]at h
 |_::_,[],j,c,h=>by simp[Cr]at h
theorem SimX.wrote (h:SimX w0 mo n I0 I M s a w){W:List (Nat×MO×Ob)}(hW:BP (aY w0 I0 I M s w) W){O':List MO}(hk:aL yA (W.map (·.2.1)) O'){w':World}(hB:BelowX w.heap.size (ev M W).X w w'){Jn:Nat→Prop}(hJn:∀b,Jn b→w.heap.size≤b∧b<w'.heap.size)
  (hO:aL (jF (ev M W) (λb=>I b∨Jn b) w') (ev M W) O'):
  Ext (aY w0 I0 I M s w) ⟨w0.heap.size,I0,λb=>I b∨Jn b,M,gJ s.obj (dd W O'),w'⟩∧SimX w0 mo n I0 (λb=>I b∨Jn b) M ⟨s.tmp,gJ s.obj (dd W O')⟩ a w':=by
 have hlen:W.length=O'.length:=by have:=hk.length;simpa using this
 have hXI:∀b,(ev M W).X b→¬I b:=by
  intro b hb hI
  obtain⟨p,hp,c,hc⟩:=zY.1 hb
  obtain⟨ho,hm⟩:=hW.2 p hp
  have hr:=h.objs p.1 _ ho
  cases h22:p.2.2 with
  |box cs=>
   rw[h22]at hr
   obtain⟨b',h1,_,_,h4,_⟩:=hr
   simp only[]at h1;rw[hc]at h1;cases h1;exact h4 hI
  |arr t xs v f d=>
   rw[h22]at hr hm
   cases h21:p.2.1 with
   |box _=>rw[h21]at hm;exact hm.elim
   |arr t' xs'=>
    rw[h21]at hm
    rcases hr with⟨h1,_⟩|⟨b',cap,h1,_,_,h4,_⟩
    ·simp only[]at h1;rw[hc]at h1;cases h1
    ·simp only[]at h1;rw[hc]at h1;cases h1
     have:=h4.1 hI
     rw[hm.1]at this;cases this
 have hI:∀b,I b→w'.heap[b]? =w.heap[b]? :=λb hb=>hB.block b (h.ilt b hb) λhx=>hXI b hx hb
 have hat:∀id ob,ao (dd W O') id=some ob→∃(p:Nat×MO×Ob) (k:Nat) (o:MO),W[k]? =some p∧O'[k]? =some o∧p.1=id∧s.obj id=some p.2.2∧jF (ev M W) (λb=>I b∨Jn b) w' (M id,C3 p.2.1) o∧yA p.2.1 o∧ob=Pe p.2.2 o:=by
  intro id ob hl
  obtain⟨k,p,o,h1,h2,h3,h4⟩:=jI hlen hl
  obtain⟨o2,h5,h6⟩:=hO.at (j:=k) (a:=(M p.1,C3 p.2.1)) (by simp[ev,h1])
  rw[h2]at h5;cases h5
  obtain⟨o3,h7,h8⟩:=hk.at (j:=k) (a:=p.2.1) (by simp[h1])
  rw[h2]at h7;cases h7
  have:=(hW.2 p (List.mem_of_getElem? h1)).1
  rw[h3]at this h6
  exact⟨p,k,o,h1,h2,h3,this,h6,h8,h4⟩
 have hext:Ext (aY w0 I0 I M s w) ⟨w0.heap.size,I0,λb=>I b∨Jn b,M,gJ s.obj (dd W O'),w'⟩:=by
  refine⟨rfl,rfl,h.i00,λ_ hb=> .inl hb,hI,λi cs hi=> ?_,λi t xs v f d hi=> ?_⟩
  ·refine⟨?_,rfl⟩
   simp only[gJ]
   cases hl:ao (dd W O') i with
   |none=>exact⟨cs,hi⟩
   |some ob=>
    obtain⟨p,k,o,h1,h2,h3,h4,h5,h6,h7⟩:=hat i ob hl
    simp only[]at hi
    rw[hi]at h4
    have h22:=Option.some.inj h4
    have hm:=(hW.2 p (List.mem_of_getElem? h1)).2
    rw[←h22]at hm
    cases h21:p.2.1 with
    |arr _ _=>rw[h21]at hm;exact hm.elim
    |box xs=>
     rw[h21]at h6
     cases o with
     |arr _ _=>exact h6.elim
     |box ds=>exact⟨_,by rw[h7,←h22];rfl⟩
  ·simp only[gJ]
   cases hl:ao (dd W O') i with
   |none=>exact⟨t,xs,v,f,d,hi,Nat.le_refl _,λ_=>by refine⟨rfl,rfl, ?_⟩;trivial⟩
   |some ob=>
    obtain⟨p,k,o,h1,h2,h3,h4,h5,h6,h7⟩:=hat i ob hl
    simp only[]at hi
    rw[hi]at h4
    have h22:=Option.some.inj h4
    have hm:=(hW.2 p (List.mem_of_getElem? h1)).2
    rw[←h22]at hm h7
    cases h21:p.2.1 with
    |box _=>rw[h21]at hm;exact hm.elim
    |arr t' xs'=>
     rw[h21]at hm h6 h5
     cases o with
     |box _=>exact h6.elim
     |arr t2 ys=>
      obtain⟨hf,ht,hx⟩:=hm
      subst ht
      simp only[]at hx
      subst hx
      have h6':t2=t':=h6
      subst h6'
      refine⟨t2,ys,v,f,d&& !oZ t2,by rw[h7];rfl,Nat.le_refl _,λ_=> ?_⟩
      refine⟨rfl,h5.1.symm, ?_⟩
      trivial
 refine⟨hext,h.turn hext ⟨hB.os,hB.tape,hB.output,hB.size,λb hb hnx=>hB.block b (Nat.lt_of_lt_of_le hb h.below.size) λhx=> ?_⟩ (by
  rintro b (hb|hb)
  ·exact Nat.lt_of_lt_of_le (h.ilt b hb) hB.size
  ·exact(hJn b hb).2) (by
  rintro b (hb|hb)
  ·exact h.idiv b hb
  ·exact .inr (.inl (Nat.le_trans h.below.size (hJn b hb).1))) (λi b c hi hM=>h.own i b c (by
   simp only[gJ]at hi
   cases hl:ao (dd W O') i with
   |none=>rw[hl]at hi;exact hi
   |some ob=>obtain⟨p,k,o,_,_,_,h4,_⟩:=hat i ob hl;rw[h4];simp) hM) ?_ ?_⟩
 ·obtain⟨p,hp,c,hc⟩:=zY.1 hx
  rcases h.own p.1 b c (by have e:s.obj p.1=_:=(hW.2 p hp).1;rw[e];simp) hc with h1|h1
  ·omega
  ·exact hnx h1.x
 ·intro i ob hi
  simp only[gJ]at hi
  cases hl:ao (dd W O') i with
  |none=>
   rw[hl]at hi
   have hi:s.obj i=some ob:=hi
   have hni:=uc hlen hl
   refine(h.objs i ob hi).ext hext rfl hB.size λb cap hM=> ?_
   simp only[]at hM
   have hlt:=(h.blk (by rw[hi];simp) hM).2
   refine⟨hB.block b hlt λhx=> ?_, ?_⟩
   ·obtain⟨p,hp,c,hc⟩:=zY.1 hx
    have:=h.inj i p.1 b cap c (by rw[hi];simp) (by have e:s.obj p.1=_:=(hW.2 p hp).1;rw[e];simp) hM hc
    exact hni (List.mem_map.2 ⟨p,hp,this.symm⟩)
   ·rintro(hb|hb)
    ·exact hb
    ·have:=(hJn b hb).1;omega
  |some ob'=>
   rw[hl]at hi
   cases hi
   obtain⟨p,k,o,h1,h2,h3,h4,h5,h6,h7⟩:=hat i _ hl
   have hr:=h.objs i _ h4
   have hm:=(hW.2 p (List.mem_of_getElem? h1)).2
   cases o with
   |box ds=>
    cases h22:p.2.2 with
    |arr _ _ _ _ _=>
     rw[h22]at hm
     cases h21:p.2.1 with
     |box _=>rw[h21]at hm;exact hm.elim
     |arr _ _=>rw[h21]at h6;exact h6.elim
    |box cs=>
    rw[h22]at hm h7 hr
    cases h21:p.2.1 with
    |arr _ _=>rw[h21]at hm;exact hm.elim
    |box xs=>
    rw[h21]at hm h6
    rw[h7]
    obtain⟨b,g1,g2,g3,g4⟩:=h5
    simp only[]at g1
    have hl2:=Ma (ds:=ds) (by rw[hm.length];exact h6.length)
    refine⟨b,g1,trivial,g2, ?_,λj c hj=> ?_,λj hj=>g4 j (by rw[←hl2];exact hj)⟩
    ·have hx:(ev M W).X b:=zY.2 ⟨p,List.mem_of_getElem? h1,0,by rw[h3];exact g1⟩
     rintro(hb|hb)
     ·exact hXI b hx hb
     ·have:=(hJn b hb).1
      have:=(h.blk (by rw[h4];simp) g1).2
      omega
    ·obtain⟨d0,x,hd0,hx,rfl⟩:=PZ hj
     obtain⟨u,hu,hru⟩:=g3 j x hx
     refine⟨u,hu, ?_,hru.one⟩
     cases x with
     |c x=>exact RepC.toD (p:= .any) hru
     |ptr _=>
      obtain⟨x0,hx0,hs0⟩:=aL.atR h6 hx
      cases x0<;>exact hs0.elim
     |own k2=>
      obtain⟨x0,hx0,hs0⟩:=hm.at hd0
      obtain⟨y,hy,hsy⟩:=aL.atR h6 hx
      rw[hx0]at hy
      cases hy
      cases x0 with
      |c _=>exact hsy.elim
      |ptr _=>exact hsy.elim
      |own k3=>
       cases(hsy:k3=k2)
       obtain⟨id2,ver2,t2,xs2,dp2,rfl,hk2⟩:=hs0
       obtain⟨m2,hm2,hv2⟩:=hru
       obtain⟨p2,hp2,rfl⟩:=oV hm2
       rw[hk2]at hp2
       cases hp2
       have hold:=(h.objs i _ h4)
       have hobj2:=(hW.2 _ (List.mem_of_getElem? hk2)).1
       obtain⟨_,_,_,_,hbx,_⟩:=hr
       obtain⟨t3,xs3,v3,f3,d3,q1,q2,q3⟩:=hext.arr id2 t2 xs2 ver2 false dp2 hobj2
       refine⟨t3,xs3,v3,f3,d3,q1,q2,λe=> ?_,pK.one (c:= .own k2) (mo:=ev M W) (J:=λ_=>True) (w:=w') ⟨_,hm2,hv2⟩⟩
       have e2:=(q3 e).2.1
       show dk (M id2) xs3.length u
       rw[e2]
       exact hv2
   |arr t2 ys=>
    cases h22:p.2.2 with
    |box _=>
     rw[h22]at hm
     cases h21:p.2.1 with
     |box _=>rw[h21]at h6;exact h6.elim
     |arr _ _=>rw[h21]at hm;exact hm.elim
    |arr t xs v f d=>
     rw[h22]at hm hr h7
     cases h21:p.2.1 with
     |box _=>rw[h21]at hm;exact hm.elim
     |arr t' xs'=>
      rw[h21]at hm h6 h5
      obtain⟨hf,ht,hx⟩:=hm
      subst ht
      simp only[]at hx
      subst hx
      have h6':t2=t':=h6
      subst h6'
      rw[h7]
      obtain⟨g1,g2⟩:=h5
      rcases g2 with⟨g2,g3⟩|⟨b,cap,g2,g3,g4,g5,g6,g7⟩
      ·exact .inl ⟨g2,g3⟩
      ·simp only[]at g2
       rcases hr with⟨q1,_⟩|⟨b',cap',q1,q2,q3,q4,_⟩
       ·simp only[]at q1;rw[g2]at q1;cases q1
       ·simp only[]at q1 q2 q4
        rw[g2]at q1;cases q1
        refine .inr ⟨b,cap,g2,λhd=>q2 (by cases d<;>simp_all),g3,⟨?_,λhff=> .inl (q4.2 hff)⟩,g4,g5,g6,λi' e j c he hc=> ?_⟩
        ·rintro(hb|hb)
         ·exact q4.1 hb
         ·have:=(hJn b hb).1
          have:=(h.blk (by rw[h4];simp) g2).2
          omega
        ·obtain⟨u,hu,hru⟩:=g7 i' e j c he hc
         refine⟨u,hu, ?_⟩
         cases hsl:oZ t2 with
         |true=>cases d<;>exact hru
         |false=>
          refine hru.anyJ ?_
          rintro t3 zs rfl
          rw[tN hc]at hsl;cases hsl
 ·intro i j b c c' hi hj hb hb'
  have hold:∀k,gJ s.obj (dd W O') k≠none→s.obj k≠none:=by
   intro k hk'
   simp only[gJ]at hk'
   cases hl:ao (dd W O') k with
   |none=>rw[hl]at hk';exact hk'
   |some ob=>obtain⟨p,q,o,_,_,_,h4,_⟩:=hat k ob hl;rw[h4];simp
  exact h.inj i j b c c' (hold i hi) (hold j hj) hb hb'
theorem VT (h:SimX w0 mo n I0 (λb=>I b∨Jn b) M s a w')(hw:w0.heap.size≤w.heap.size)(hilt:∀b,I b→b<w.heap.size)(hblk:∀id b c,s.obj id≠none→M id=some (b,c)→b<w.heap.size){base:Nat}{mm:Nat→Option (Nat×Nat)}(hJn:∀b,Jn b→w.heap.size≤b∧b<w'.heap.size)
  (hinj:∀i j b c c',mm i=some (b,c)→mm j=some (b,c')→i=j)(hmm:∀i b c,mm i=some (b,c)→w.heap.size≤b){R:eT}{v:Value}(hR:qZ w.heap.size I Jn w' mm R v)
  (hid:∀id,base≤id→id<base+tZ R→s.obj id=none):
  ∃M',SimX w0 mo n I0 (λb=>I b∨Jn b) M' ⟨s.tmp,pm s.obj base (eY base R).2⟩ a w'∧lw ⟨w0.heap.size,I0,λb=>I b∨Jn b,M',pm s.obj base (eY base R).2,w'⟩ (Jf (eY base R).1) v:=by
 have hfr:XY ⟨s.tmp,s.obj⟩ M mm 0:=by
  intro i id b c c' _ ho hM hm
  have:=hblk id b c ho hM
  have:=hmm i b c' hm
  omega
 have hIN:∀b,w.heap.size≤b→(I b∨Jn b)→Jn b:=by
  rintro b hb (h1|h1)
  ·have:=hilt b h1;omega
  ·exact h1
 have hJn':∀b,Jn b→(I b∨Jn b)∧w0.heap.size≤b:=λb hb=>⟨.inr hb,Nat.le_trans hw (hJn b hb).1⟩
 have hmain:∀vs,wz w.heap.size I Jn w' mm 0 R vs→∃M',SimX w0 mo n I0 (λb=>I b∨Jn b) M' ⟨s.tmp,pm s.obj base (eY base R).2⟩ a w'∧
   aL (λp u=>kP ⟨w0.heap.size,I0,λb=>I b∨Jn b,M',pm s.obj base (eY base R).2,w'⟩ p.1 p.2 u) (eY base R).1 vs:=by
  intro vs hvs
  obtain⟨M',_,h2,h3⟩:=L5 (base:=base) (k:=0) hinj hw hIN (λb hb=> .inl hb) hJn' h hvs hfr hid
  exact⟨M',h2,h3⟩
 match R,hR,hmain with
 |[r],hR,hmain=>
  obtain⟨M',h2,h3⟩:=hmain [v] ⟨hR,trivial⟩
  obtain⟨ag,pN⟩:=r
  rw[yg]at h2 h3⊢
  exact⟨M',h2,h3.1⟩
 |[],hR,hmain=>
  obtain⟨us,rfl,hu⟩:=hR
  obtain⟨M',h2,h3⟩:=hmain _ hu
  exact⟨M',h2,us,rfl,h3⟩
 |r1::r2::rs,hR,hmain=>
  obtain⟨us,rfl,hu⟩:=hR
  obtain⟨M',h2,h3⟩:=hmain _ hu
  exact⟨M',h2,us,rfl,h3⟩
end
section
variable {α:Type} {C:Nat→List PV→List MO→eT→List MO→Prop} {w0:World} {mo:o8} {n:Nat} {I0 I:Nat→Prop} {M:Nat→Option (Nat×Nat)} {s:FSt} {a:Act} {w:World} {te:TE} {P:Program} {base:Nat} {o:Oper}
def KK (x:Cx)(u:List (Nat×Ob))(W:List (Nat×MO×Ob))(A:PV)(v:Value):Prop:=
 ∀x' mo,Ext x x'→x'.w=x.w→(∀p∈u,∀b k,x.M p.1=some (b,k)→x'.I b)→(∀(k:Nat) m,(ev x.M W)[k]? =some m→mo[k]? =some m)→pF mo x'.I x'.w A v
theorem RepC.ofPv {x:Cx}{d:Bool}{w:World}{c:Cell}{v:Value}(h:RepC (x.J (wn d)) w c v):RepC x.I w c v:=by
 cases d with
 |true=>exact h.mono (λ_ _=>rfl) λb hb=>hb.1
 |false=>exact h
theorem L2 (h:SimX w0 mo n I0 I M s a w){ti:TI}{d:DV}{v:Value}(hd:lw (aY w0 I0 I M s w) d v){k:PV→List (Nat×Ob)→Rd α}{e:α}(hr:bF C s (aaT ti d k) e):
  ∃A u,KK (aY w0 I0 I M s w) u [] A v∧eS s u∧bF C s (k A u) e:=by
 unfold aaT at hr
 split at hr
 ·rename_i f
  refine⟨_,_,λx' mo' hext hw _ _=> ?_,by simp[eS],hr⟩
  obtain⟨c,hc,hv⟩:=hd
  cases hc
  obtain⟨us,hv,hu⟩:=hv
  refine⟨us,hv, ?_⟩
  generalize us.toList=l at hu
  cases l with
  |nil=>trivial
  |cons _ _=>exact hu.elim
 ·rename_i ag cs _
  obtain⟨xs,d',u,hlay,hfz,hr⟩:=pX h (BD hd) hr
  refine⟨_,_,λx' mo' hext hw hb _=> ?_,hfz,hr⟩
  have hall:=mQ.get hlay hext hw hb
  cases ag with
  |true=>
   obtain⟨us,rfl,_⟩:=hd
   exact⟨us,rfl,hall.mono λ_ _ hh=>RepC.ofPv hh⟩
  |false=>
   simp only[Bool.false_eq_true,if_false]at hall
   match xs,hall with
   |[c],hall=>exact⟨c,rfl,RepC.ofPv hall.1⟩
   |[],hall=>exact hall.elim
   |_::_::_,hall=>exact hall.2.elim
 ·exact hr.fail.elim
theorem KK.mono {x:Cx}{u u':List (Nat×Ob)}{W W':List (Nat×MO×Ob)}{A:PV}{v:Value}(h:KK x u W A v)(hu:∀p∈u,p∈u')(hW:∀(k:Nat) p,W[k]? =some p→W'[k]? =some p):KK x u' W' A v:=
 λx' mo' hext hw hb hm=>h x' mo' hext hw (λp hp=>hb p (hu p hp)) λk m hk=>hm k m (by
  obtain⟨p,hp,rfl⟩:=oV hk
  simp only[ev,List.getElem?_map,hW k p hp,Option.map_some])
def DH (x:Cx)(W:List (Nat×MO×Ob))(c:MC)(v:Value):Prop:=
 ∀x' mo,Ext x x'→x'.w=x.w→(∀(k:Nat) m,(ev x.M W)[k]? =some m→mo[k]? =some m)→pK mo x'.I x'.w c v
theorem DH.mono {x:Cx}{W W':List (Nat×MO×Ob)}{c:MC}{v:Value}(h:DH x W c v)(hW:∀(k:Nat) p,W[k]? =some p→W'[k]? =some p):DH x W' c v:=
 λx' mo' hext hw hm=>h x' mo' hext hw λk m hk=>hm k m (by
  obtain⟨p,hp,rfl⟩:=oV hk
  simp only[ev,List.getElem?_map,hW k p hp,Option.map_some])
theorem iv {β:Type}{l r:List β}{k:Nat}{b:β}(h:l[k]? =some b):(l++r)[k]? =some b:=by
 rw[List.getElem?_append_left (List.getElem?_eq_some_iff.1 h).1];exact h
theorem BP.snoc {x:Cx}{W:List (Nat×MO×Ob)}{p:Nat×MO×Ob}(h:BP x W)(hn:p.1∉W.map (·.1))(hm:aaK x W p):BP x (W++[p]):=by
 refine⟨?_,λq hq=> ?_⟩
 ·rw[List.map_append,List.nodup_append]
  refine⟨h.1,by simp,λa ha b hb=> ?_⟩
  simp only[List.map_cons,List.map_nil,List.mem_singleton]at hb
  subst hb
  rintro rfl
  exact hn ha
 ·rcases List.mem_append.1 hq with hq|hq
  ·exact(h.2 q hq).mono λ_ _ hp=>iv hp
  ·rw[List.mem_singleton]at hq
   subst hq
   exact hm.mono λ_ _ hp=>iv hp
theorem H3 (_h:SimX w0 mo n I0 I M s a w){id ver:Nat}{v:Value}(hc:be (aY w0 I0 I M s w) (.own id ver) v){W:List (Nat×MO×Ob)}(hW:BP (aY w0 I0 I M s w) W){k:MC→List (Nat×MO×Ob)→Rd α}{e:α}(hr:bF C s (VA id ver W k) e):
  ∃x V,DH (aY w0 I0 I M s w) (W++V) x v∧BP (aY w0 I0 I M s w) (W++V)∧QF (W++V) (.own id ver) x∧bF C s (k x (W++V)) e:=by
 obtain⟨ob,hob,hr⟩:=hr.get
 cases ob with
 |box _=>exact hr.fail.elim
 |arr t xs ver' fz d=>
  obtain⟨hg,hr⟩:=hr.guard
  simp only[Bool.and_eq_true,Bool.not_eq_true']at hg
  obtain⟨⟨hv,hfz⟩,hmem⟩:=hg
  obtain⟨t1,xs1,v1,f1,d1,h1,h2,h3,h4⟩:=hc
  simp only[]at h1 h3
  rw[hob]at h1;cases h1
  have hval:=h3 (Nat.eq_of_beq_eq_true hv)
  refine⟨_,[(id,.arr t xs,.arr t xs ver' fz d)],λx' mo' hext hw hm=> ?_,hW.snoc ?_ ⟨hob,hfz,rfl,rfl⟩, ?_,hr⟩
  ·refine⟨(M id,xs.length),hm W.length _ ?_,hval⟩
   simp[ev,C3]
  ·intro hc
   rw[li.2 hc]at hmem;cases hmem
  ·refine⟨id,ver,t,xs,d,rfl, ?_⟩
   rw[←Nat.eq_of_beq_eq_true hv,hfz]
   simp
theorem EC (h:SimX w0 mo n I0 I M s a w):∀{cs:List DC} {W:List (Nat×MO×Ob)},(∀c∈cs,∃v,be (aY w0 I0 I M s w) c v)→BP (aY w0 I0 I M s w) W→∀{k:List MC→List (Nat×MO×Ob)→Rd α} {e:α},bF C s (AK cs W k) e→
  ∃xs V,BP (aY w0 I0 I M s w) (W++V)∧aL (QF (W++V)) cs xs∧bF C s (k xs (W++V)) e
 |[],W,_,hW,k,e,hr=>⟨[],[],by simpa using hW,trivial,by simpa [AK]using hr⟩
 |c::cs,W,hcs,hW,k,e,hr=>by
  have hpure:∀x,ia [c]=some [x]→bF C s (AK cs W λxs W=>k (.c x::xs) W) e→∃xs V,BP (aY w0 I0 I M s w) (W++V)∧aL (QF (W++V)) (c::cs) xs∧bF C s (k xs (W++V)) e:=by
   intro x hx hr
   obtain⟨xs,V,h1,h2,h3⟩:=EC h (λc hc=>hcs c (List.mem_cons_of_mem _ hc)) hW hr
   exact⟨.c x::xs,V,h1,⟨hx,h2⟩,h3⟩
  cases c with
  |bool b=>exact hpure _ rfl hr
  |int kk m=>exact hpure _ rfl hr
  |str b=>exact hpure _ rfl hr
  |sl p t ys=>exact hpure _ rfl hr
  |own id ver=>
   obtain⟨v,hv⟩:=hcs _ (List.mem_cons_self)
   simp only[AK]at hr
   obtain⟨x,V,_,hV,hin,hr⟩:=H3 h hv hW hr
   obtain⟨xs,V',h1,h2,h3⟩:=EC h (λc hc=>hcs c (List.mem_cons_of_mem _ hc)) hV hr
   refine⟨x::xs,V++V',by rw[←List.append_assoc];exact h1,⟨?_,by rw[←List.append_assoc];exact h2⟩,by rw[←List.append_assoc];exact h3⟩
   rw[←List.append_assoc]
   exact hin.mono λ_ _ hp=>iv hp
  |nil=>exact hr.fail.elim
  |ptr _ _=>exact hr.fail.elim
  |eptr _ _ _ _=>exact hr.fail.elim
  |vw _ _ _ _=>exact hr.fail.elim
  |ref _ _=>exact hr.fail.elim
  |fn _ _=>exact hr.fail.elim
  |slx _ _=>exact hr.fail.elim
  |undef=>exact hr.fail.elim
  |skipped=>exact hr.fail.elim
theorem JE (h:SimX w0 mo n I0 I M s a w){id:Nat}{v:Value}(hc:be (aY w0 I0 I M s w) (.ptr id 0) v){W:List (Nat×MO×Ob)}(hW:BP (aY w0 I0 I M s w) W){k:Nat→List (Nat×MO×Ob)→Rd α}{e:α}(hr:bF C s (UO id W k) e):
  ∃j V,DH (aY w0 I0 I M s w) (W++V) (.ptr j) v∧BP (aY w0 I0 I M s w) (W++V)∧bF C s (k j (W++V)) e:=by
 obtain⟨ob,hob,hr⟩:=hr.get
 cases ob with
 |arr _ _ _ _ _=>exact hr.fail.elim
 |box cs=>
  have hro:=h.objs id _ hob
  obtain⟨b0,_,_,_,_,hcells,_⟩:=hro
  obtain⟨xs,V,hV,hin,hr⟩:=EC h (λc hc=>by
   obtain⟨j,hj⟩:=List.getElem?_of_mem hc
   obtain⟨u,_,hu,_⟩:=hcells j c hj
   exact⟨u,hu⟩) hW hr
  obtain⟨hg,hr⟩:=hr.guard
  obtain⟨cs',b,h1,h2,h3⟩:=hc
  simp only[]at h1 h2
  refine⟨(W++V).length,V++[(id,.box xs,.box cs)],λx' mo' hext hw hm=> ?_, ?_, ?_⟩
  ·refine⟨(M id,0),b,hm (W++V).length _ ?_,h2,h3⟩
   simp[ev,C3]
  ·rw[←List.append_assoc]
   refine hV.snoc (p:=(id,.box xs,.box cs)) ?_ ⟨hob,hin⟩
   intro hc
   rw[li.2 hc]at hg;cases hg
  ·rw[←List.append_assoc];exact hr
theorem Bk (h:SimX w0 mo n I0 I M s a w):∀{ids:List Nat} {us:List Value} {W:List (Nat×MO×Ob)},aL (λid u=>∃cs b,s.obj id=some (.box cs)∧M id=some (b,0)∧u= .pointer (some ⟨b,0,none⟩)) ids us→BP (aY w0 I0 I M s w) W→∀{k:List Nat→List (Nat×MO×Ob)→Rd α} {e:α},bF C s (Kf ids W k) e→
  ∃js V,aL (λj u=>DH (aY w0 I0 I M s w) (W++V) (.ptr j) u) js us∧BP (aY w0 I0 I M s w) (W++V)∧bF C s (k js (W++V)) e
 |[],[],W,_,hW,k,e,hr=>⟨[],[],trivial,by simpa using hW,by simpa [Kf]using hr⟩
 |id::ids,u::us,W,hall,hW,k,e,hr=>by
  obtain⟨j,V,h1,h2,hr⟩:=JE h (v:=u) hall.1 hW hr
  obtain⟨js,V',h3,h4,hr⟩:=Bk h hall.2 h2 hr
  refine⟨j::js,V++V',⟨?_, ?_⟩, ?_, ?_⟩
  ·rw[←List.append_assoc];exact h1.mono λk p hp=>iv hp
  ·rw[←List.append_assoc];exact h3
  ·rw[←List.append_assoc];exact h4
  ·rw[←List.append_assoc];exact hr
 |[],_::_,_,hall,_,_,_,_=>hall.elim
 |_::_,[],_,hall,_,_,_,_=>hall.elim
theorem FG (h:SimX w0 mo n I0 I M s a w){f:Fl}{c:DC}{v:Value}(hc:be (aY w0 I0 I M s w) c v){W:List (Nat×MO×Ob)}(hW:BP (aY w0 I0 I M s w) W){k:MC→List (Nat×MO×Ob)→Rd α}{e:α}(hr:bF C s (oM f c W k) e):
  ∃x V,DH (aY w0 I0 I M s w) (W++V) x v∧BP (aY w0 I0 I M s w) (W++V)∧bF C s (k x (W++V)) e:=by
 cases c with
 |bool b=>simp only[be]at hc;rw[hc];exact⟨.c (.bool b),[],λ_ _ _ _ _=>RepC.bool b,by simpa using hW,by simpa [oM]using hr⟩
 |int k' m=>rw[hc.1];exact⟨.c (.int k' m),[],λ_ _ _ _ _=>RepC.int _ _ hc.2,by simpa using hW,by simpa [oM]using hr⟩
 |str b=>obtain⟨b',rfl,rfl,hl⟩:=hc;exact⟨.c (.str _),[],λ_ _ _ _ _=>RepC.str b' hl,by simpa using hW,by simpa [oM]using hr⟩
 |nil=>
  simp only[be]at hc
  rw[hc]
  cases f with
  |sl t=>exact⟨.c (.sl t []),[],λ_ _ _ _ _=>RepC.nil t,by simpa using hW,by simpa [oM]using hr⟩
  |_=>exact hr.fail.elim
 |own id ver=>
  simp only[oM]at hr
  obtain⟨x,V,h1,h2,_,h3⟩:=H3 h hc hW hr
  exact⟨x,V,h1,h2,h3⟩
 |ptr id off=>
  cases off with
  |succ _=>exact hr.fail.elim
  |zero=>
   simp only[oM]at hr
   obtain⟨j,V,h1,h2,h3⟩:=JE h hc hW hr
   exact⟨_,V,h1,h2,h3⟩
 |sl p t xs=>
  refine⟨.c (.sl t xs),[],λx' mo' hext hw hm=> ?_,by simpa using hW,by simpa [oM]using hr⟩
  have h1:=RepC.ext hext hc
  refine h1.mono (λ_ _=>rfl) λb hb=> ?_
  cases p with
  |arg=>exact hext.i b (hext.i00 b (by rw[←hext.i0];exact hb))
  |new=>exact hb.1
  |any=>exact hb
 |eptr _ _ _ _=>exact hr.fail.elim
 |vw _ _ _ _=>exact hr.fail.elim
 |ref _ _=>exact hr.fail.elim
 |fn _ _=>exact hr.fail.elim
 |slx _ _=>exact hr.fail.elim
 |undef=>exact hr.fail.elim
 |skipped=>exact hr.fail.elim
theorem C5 (h:SimX w0 mo n I0 I M s a w):∀{fs:List Fl} {cs:List DC} {us:List Value},aL (λc u=>be (aY w0 I0 I M s w) c u) cs us→∀{W:List (Nat×MO×Ob)},BP (aY w0 I0 I M s w) W→∀{k:List MC→List (Nat×MO×Ob)→Rd α} {e:α},bF C s (DE fs cs W k) e→
  ∃xs V,aL (DH (aY w0 I0 I M s w) (W++V)) xs us∧BP (aY w0 I0 I M s w) (W++V)∧bF C s (k xs (W++V)) e
 |[],[],[],_,W,hW,k,e,hr=>⟨[],[],trivial,by simpa using hW,by simpa [DE]using hr⟩
 |f::fs,c::cs,u::us,hall,W,hW,k,e,hr=>by
  obtain⟨x,V,hx,hV,hr⟩:=FG h hall.1 hW hr
  obtain⟨xs,V',hxs,hV',hr⟩:=C5 h hall.2 hV hr
  refine⟨x::xs,V++V',⟨?_, ?_⟩, ?_, ?_⟩
  ·rw[←List.append_assoc];exact hx.mono λk p hp=>iv hp
  ·rw[←List.append_assoc];exact hxs
  ·rw[←List.append_assoc];exact hV'
  ·rw[←List.append_assoc];exact hr
 |[],_::_,_,_,_,_,_,_,hr=>hr.fail.elim
 |_::_,[],_,_,_,_,_,_,hr=>hr.fail.elim
 |_::_,_::_,[],hall,_,_,_,_,_=>hall.elim
 |[],[],_::_,hall,_,_,_,_,_=>hall.elim
theorem Zv (h:SimX w0 mo n I0 I M s a w){ti:TI}{d:DV}{v:Value}(hd:lw (aY w0 I0 I M s w) d v){W:List (Nat×MO×Ob)}(hW:BP (aY w0 I0 I M s w) W){k:PV→List (Nat×MO×Ob)→Rd α}{e:α}(hr:bF C s (adn ti d W k) e):
  ∃A V,KK (aY w0 I0 I M s w) [] (W++V) A v∧BP (aY w0 I0 I M s w) (W++V)∧bF C s (k A (W++V)) e:=by
 unfold adn at hr
 split at hr
 ·rename_i id off
  obtain⟨c,hc,hv⟩:=hd
  cases hc
  obtain⟨x,V,hx,hV,hr⟩:=FG h hv hW hr
  exact⟨.wr false [x],V,λx' mo' hext hw _ hm=>⟨x,rfl,hx x' mo' hext hw hm⟩,hV,hr⟩
 ·rename_i f ids
  obtain⟨c,hc,hv⟩:=hd
  cases hc
  obtain⟨us,hv,hu⟩:=hv
  obtain⟨js,V,hjs,hV,hr⟩:=Bk h hu hW hr
  exact⟨.fn f js,V,λx' mo' hext hw _ hm=>⟨us,hv,hjs.mono λ_ _ hh=>hh x' mo' hext hw hm⟩,hV,hr⟩
 ·rename_i ag cs _ _
  obtain⟨xs,V,hxs,hV,hr⟩:=C5 h (BD hd) hW hr
  refine⟨.wr ag xs,V,λx' mo' hext hw _ hm=> ?_,hV,hr⟩
  cases ag with
  |true=>
   obtain⟨us,rfl,_⟩:=hd
   exact⟨us,rfl,hxs.mono λ_ _ hh=>⟨hh x' mo' hext hw hm,(hh x' mo' hext hw hm).one⟩⟩
  |false=>
   simp only[Bool.false_eq_true,if_false]at hxs
   match xs,hxs with
   |[c],hxs=>exact⟨c,rfl,hxs.1 x' mo' hext hw hm⟩
   |[],hxs=>exact hxs.elim
   |_::_::_,hxs=>exact hxs.2.elim
 ·exact hr.fail.elim
theorem uU (h:SimX w0 mo n I0 I M s a w):∀{ms:List Bool} {args:List Operand} {tys:List TypeId} {W:List (Nat×MO×Ob)},BP (aY w0 I0 I M s w) W→∀{k:List PV→List (Nat×Ob)→List (Nat×MO×Ob)→Rd α} {e:α},bF C s (xF te ms args tys W k) e→
  ∃A u V,aL (KK (aY w0 I0 I M s w) u (W++V)) A (args.map a.eval)∧eS s u∧BP (aY w0 I0 I M s w) (W++V)∧bF C s (k A u (W++V)) e
 |_,[],[],W,hW,k,e,hr=>⟨[],[],[],trivial,by simp[eS],by simpa using hW,by simpa [xF]using hr⟩
 |true::ms,x::xs,t::ts,W,hW,k,e,hr=>by
  simp only[xF]at hr
  obtain⟨d,hd,hr⟩:=iR h hr
  obtain⟨A,V,hA,hV,hr⟩:=Zv h hd hW hr
  obtain⟨As,us,V',hAs,hus,hV',hr⟩:=uU h hV hr
  refine⟨A::As,us,V++V',⟨?_, ?_⟩,hus, ?_, ?_⟩
  ·rw[←List.append_assoc];exact hA.mono (by simp) λk p hp=>iv hp
  ·rw[←List.append_assoc];exact hAs
  ·rw[←List.append_assoc];exact hV'
  ·rw[←List.append_assoc];exact hr
 |[],x::xs,t::ts,W,hW,k,e,hr=>by
  simp only[xF]at hr
  split at hr
  ·rename_i ti hl
   obtain⟨d,hd,hr⟩:=iR h hr
   obtain⟨A,u,hA,hu,hr⟩:=L2 h hd hr
   obtain⟨As,us,V',hAs,hus,hV',hr⟩:=uU h hW hr
   exact⟨A::As,u++us,V',⟨hA.mono (λp hp=>List.mem_append_left _ hp) (by simp),hAs.mono λ_ _ hh=>hh.mono (λp hp=>List.mem_append_right _ hp) λ_ _ hp=>hp⟩,hu.append hus,hV',hr⟩
  ·exact hr.fail.elim
 |false::ms,x::xs,t::ts,W,hW,k,e,hr=>by
  simp only[xF]at hr
  split at hr
  ·rename_i ti hl
   obtain⟨d,hd,hr⟩:=iR h hr
   obtain⟨A,u,hA,hu,hr⟩:=L2 h hd hr
   obtain⟨As,us,V',hAs,hus,hV',hr⟩:=uU h hW hr
   exact⟨A::As,u++us,V',⟨hA.mono (λp hp=>List.mem_append_left _ hp) (by simp),hAs.mono λ_ _ hh=>hh.mono (λp hp=>List.mem_append_right _ hp) λ_ _ hp=>hp⟩,hu.append hus,hV',hr⟩
  ·exact hr.fail.elim
 |ms,[],_::_,_,_,_,_,hr=>by cases ms with|nil=>exact hr.fail.elim|cons m _=>cases m<;>exact hr.fail.elim
 |ms,_::_,[],_,_,_,_,hr=>by cases ms with|nil=>exact hr.fail.elim|cons m _=>cases m<;>exact hr.fail.elim
theorem mF:∀(k:Nat) (pN:List RC),(aQ k pN).2.1.length=fh pN∧(aQ k pN).2.2=k+fh pN
 |k,[]=>⟨rfl,rfl⟩
 |k,.c x::r=>mF k r
 |k,.own d t xs::r=>by
  have:=mF (k+1) r
  refine⟨?_, ?_⟩
  ·show(aQ (k+1) r).2.1.length+1=_
   rw[this.1];rfl
  ·show(aQ (k+1) r).2.2=_
   rw[this.2];simp only[fh];omega
 |k,.box bs::r=>by
  have:=mF (k+1) r
  refine⟨?_, ?_⟩
  ·show(aQ (k+1) r).2.1.length+1=_
   rw[this.1];rfl
  ·show(aQ (k+1) r).2.2=_
   rw[this.2];simp only[fh];omega
 |k,.shr _ _::r=>mF k r
theorem A9:∀(R:eT) (k:Nat),(eY k R).2.length=tZ R
 |[],_=>rfl
 |(ag,pN)::R,k=>by
  rw[yg]
  simp only[List.length_append,tZ,(mF k pN).1,A9 R]
theorem pV:∀{cs:List DC} {xs:List Cell},ia cs=some xs→∀{j:Nat} {x:Cell},xs[j]? =some x→∃c,cs[j]? =some c∧∀(X:Cx) (u:Value),(∀b,X.I0 b→X.I b)→be X c u→RepC X.I X.w x u
 |[],[],_,j,x,hj=>by simp at hj
 |[],_::_,h,_,_,_=>by simp[ia]at h
 |c::cs,ys,h,j,x,hj=>by
  simp only[ia]at h
  split at h
  ·rename_i y zs hy hz
   cases h
   cases j with
   |succ j=>
    simp only[List.getElem?_cons_succ]at hj
    obtain⟨c',h1,h2⟩:=pV hz hj
    exact⟨c',by simpa using h1,h2⟩
   |zero=>
    simp only[List.getElem?_cons_zero,Option.some.injEq]at hj
    subst hj
    refine⟨c,rfl,λX u h00 hr=> ?_⟩
    cases c with
    |bool b=>cases hy;simp only[be]at hr;rw[hr];exact .bool b
    |int k m=>cases hy;rw[hr.1];exact .int _ _ hr.2
    |str s=>cases hy;obtain⟨b',rfl,rfl,hl⟩:=hr;exact .str b' hl
    |sl p t xs=>
     cases hy
     have hr':RepC (X.J p) X.w (.sl t xs) u:=hr
     cases p with
     |arg=>exact hr'.mono (λ_ _=>rfl) h00
     |new=>exact hr'.mono (λ_ _=>rfl) λb hb=>hb.1
     |any=>exact hr'
    |_=>cases hy
  ·cases h
theorem aao (h:SimX w0 mo n I0 I M s a w){W:List (Nat×MO×Ob)}(hW:BP (aY w0 I0 I M s w) W):aL (jF (ev M W) I w) (ev M W) (W.map (·.2.1)):=by
 refine aL.of W.length (by simp[ev]) (by simp) λk m o hm ho=> ?_
 obtain⟨p,hp,rfl⟩:=oV hm
 rw[List.getElem?_map,hp]at ho
 cases ho
 obtain⟨hob,hk⟩:=hW.2 p (List.mem_of_getElem? hp)
 have hr:=h.objs p.1 _ hob
 obtain⟨id,o,ob⟩:=p
 simp only[]at hob hk hr⊢
 cases ob with
 |box cs=>
  cases o with
  |arr _ _=>exact hk.elim
  |box xs=>
   obtain⟨b,h1,_,h3,h4,h5,h6⟩:=hr
   have hk:aL (QF W) cs xs:=hk
   have hlen:xs.length=cs.length:=hk.length.symm
   refine⟨b,h1,h3,λj c hj=> ?_,λj hj=>h6 j (by omega)⟩
   obtain⟨c',hc',hcc⟩:=aL.atR hk hj
   obtain⟨u,hu,hru,_⟩:=h5 j c' hc'
   refine⟨u,hu, ?_⟩
   cases c with
   |ptr _=>exact hcc.elim
   |c x=>
    obtain⟨c2,hc2,hcc2⟩:=pV (cs:=[c']) (xs:=[x]) hcc (j:=0) rfl
    cases hc2
    exact hcc2 _ u h.i00 hru
   |own k2=>
    obtain⟨id2,ver2,t2,xs2,dp2,rfl,hk2⟩:=hcc
    refine⟨(M id2,xs2.length),by simp[ev,hk2,C3], ?_⟩
    obtain⟨t3,xs3,v3,f3,d3,q1,q2,q3,_⟩:=hru
    have q4:=(hW.2 _ (List.mem_of_getElem? hk2)).1
    simp only[]at q1 q3 q4
    rw[q4]at q1
    cases q1
    exact q3 rfl
 |arr t xs ver f d=>
  cases o with
  |box _=>exact hk.elim
  |arr t' xs'=>
   obtain⟨hf,ht,hx⟩:=hk
   subst ht
   simp only[]at hx
   subst hx
   refine⟨rfl, ?_⟩
   rcases hr with⟨h1,h2⟩|⟨b,cap,h1,_,h3,_,h5,h6,h7,h8⟩
   ·exact .inl ⟨h1,h2⟩
   ·refine .inr ⟨b,cap,h1,h3,h5,h6,h7,λi e j c he hc=> ?_⟩
    obtain⟨u,hu,hru⟩:=h8 i e j c he hc
    exact⟨u,hu,RepC.ofPv hru⟩
theorem Zw (h:SimX w0 mo n I0 I M s a w){W:List (Nat×MO×Ob)}(hW:BP (aY w0 I0 I M s w) W)(i j b c c':Nat)(m m':Option (Nat×Nat)×Nat)(hi:(ev M W)[i]? =some m)(hj:(ev M W)[j]? =some m')(h1:m.1=some (b,c))(h2:m'.1=some (b,c')):i=j:=by
 obtain⟨p,hp,rfl⟩:=oV hi
 obtain⟨q,hq,rfl⟩:=oV hj
 have:=h.inj p.1 q.1 b c c' (by rw[show s.obj p.1=_ from(hW.2 p (List.mem_of_getElem? hp)).1];simp) (by rw[show s.obj q.1=_ from(hW.2 q (List.mem_of_getElem? hq)).1];simp) h1 h2
 have hpi:=List.getElem?_eq_some_iff.1 hp
 have hqi:=List.getElem?_eq_some_iff.1 hq
 obtain⟨hl1,he1⟩:=hpi
 obtain⟨hl2,he2⟩:=hqi
 have hnd:=hW.1
 have e1:(W.map (·.1))[i]'(by simpa using hl1)=(W.map (·.1))[j]'(by simpa using hl2):=by simp[he1,he2,this]
 exact(List.getElem_inj hnd).1 e1
theorem Z0 (h:SimX w0 mo n I0 I M s a w){W:List (Nat×MO×Ob)}(hW:BP (aY w0 I0 I M s w) W)(b:Nat)(hb:(ev M W).X b):¬I b:=by
 intro hI
 obtain⟨p,hp,c,hc⟩:=zY.1 hb
 obtain⟨ho,hm⟩:=hW.2 p hp
 have hr:=h.objs p.1 _ ho
 obtain⟨id,o,ob⟩:=p
 simp only[]at ho hm hr hc
 cases ob with
 |box cs=>
  obtain⟨b',h1,_,_,h4,_⟩:=hr
  simp only[]at h1;rw[hc]at h1;cases h1;exact h4 hI
 |arr t xs v f d=>
  cases o with
  |box _=>exact hm.elim
  |arr t' xs'=>
   rcases hr with⟨h1,_⟩|⟨b',cap,h1,_,_,h4,_⟩
   ·simp only[]at h1;rw[hc]at h1;cases h1
   ·simp only[]at h1;rw[hc]at h1;cases h1
    have:=h4.1 hI
    rw[hm.1]at this;cases this
theorem abs (h:SimX w0 mo n I0 I M s a w){W:List (Nat×MO×Ob)}(hW:BP (aY w0 I0 I M s w) W)(b:Nat)(hb:(ev M W).X b):¬gB b:=by
 intro hg
 obtain⟨p,hp,c,hc⟩:=zY.1 hb
 obtain⟨ho,_⟩:=hW.2 p hp
 rcases h.own p.1 b c (by show s.obj p.1≠none;rw[show s.obj p.1=_ from ho];simp) hc with h1|h1
 ·have:=h.gw.lt hg;omega
 ·exact h.gx b h1.x hg
theorem jF.mono {mo:o8}{J J':Nat→Prop}{w:World}{m:Option (Nat×Nat)×Nat}{o:MO}(h:jF mo J w m o)(hJ:o.shares=true→∀b,J b→J' b):jF mo J' w m o:=by
 cases o with
 |box cs=>
  obtain⟨b,h1,h2,h3,h4⟩:=h
  refine⟨b,h1,h2,λj c hc=> ?_,h4⟩
  obtain⟨u,hu,hr⟩:=h3 j c hc
  refine⟨u,hu, ?_⟩
  cases c with
  |own _=>exact hr
  |ptr _=>exact hr
  |c c=>
  have hr:RepC J w c u:=hr
  show RepC J' w c u
  cases hsh:(MO.box cs).shares with
  |true=>exact hr.mono (λ_ _=>rfl) (hJ hsh)
  |false=>
   refine hr.anyJ ?_
   rintro t xs rfl
   simp only[MO.shares,List.any_eq_false]at hsh
   exact hsh _ (List.mem_of_getElem? hc) rfl
 |arr t xs=>
  obtain⟨h2,h3⟩:=h
  refine⟨h2, ?_⟩
  rcases h3 with h3|⟨b,cap,g1,g2,g3,g4,g5,g6⟩
  ·exact .inl h3
  ·refine .inr ⟨b,cap,g1,g2,g3,g4,g5,λi e j c he hc=> ?_⟩
   obtain⟨u,hu,hr⟩:=g6 i e j c he hc
   refine⟨u,hu, ?_⟩
   cases hsl:oZ t with
   |true=>exact hr.mono (λ_ _=>rfl) (hJ hsl)
   |false=>
    refine hr.anyJ ?_
    rintro t3 zs rfl
    rw[tN hc]at hsl;cases hsl
theorem aL.memMono {β γ:Type}{R R':β→γ→Prop}:∀{as:List β} {bs:List γ},(∀a b,b∈bs→R a b→R' a b)→aL R as bs→aL R' as bs
 |[],[],_,_=>trivial
 |a::as,b::bs,h,hh=>⟨h a b (by simp) hh.1,aL.memMono (λa b hb=>h a b (List.mem_cons_of_mem _ hb)) hh.2⟩
 |[],_::_,_,h=>h.elim
 |_::_,[],_,h=>h.elim
theorem Pu {u:List (Nat×Ob)}{W:List (Nat×MO×Ob)}{R:eT}{O':List MO}(h:Td R=true):
  yh base u W R O'= .ret ⟨Jf (eY base R).1,(eY base R).2,(if R.any (λr=>r.2.any RC.shares)||O'.any MO.shares then u else[])++dd W O'⟩:=by
 unfold yh
 split
 ·cases h
 ·rfl
theorem ZT (h:SimX w0 mo n I0 I M s a w){u:List (Nat×Ob)}{I1:Nat→Prop}(hs1:SimX w0 mo n I0 I1 M ⟨s.tmp,gJ s.obj u⟩ a w){W:List (Nat×MO×Ob)}(hW:BP (aY w0 I0 I M s w) W)(hW1:BP (aY w0 I0 I1 M ⟨s.tmp,gJ s.obj u⟩ w) W)(hWu:∀p∈W,ao u p.1=none)
  {O':List MO}(hlen:W.length=O'.length)(hsame:aL yA (W.map (·.2.1)) O'){w':World}{Jn:Nat→Prop}{mm:Nat→Option (Nat×Nat)}(hB:BelowX w.heap.size (ev M W).X w w')(hJn:∀b,Jn b→w.heap.size≤b∧b<w'.heap.size){R:eT}{v:Value}
  (hR:m8 (ev M W) w.heap.size I1 Jn w' mm R v)(hO:aL (jF (ev M W) (λb=>I1 b∨Jn b) w') (ev M W) O'){e:Eff}(hr:bF C s (yh base u W R O') e)(hns:Td R=false):
  ∃v' I' M' obj',Ending.returned v= .returned v'∧SimX w0 mo n I0 I' M' ⟨s.tmp,obj'⟩ a w'∧lw ⟨w0.heap.size,I0,I',M',obj',w'⟩ e.val v'∧
   ∀id,obj' id=(match ao (e.upd++aR base e.new) id with|some o=>some o|none=>s.obj id):=by
 unfold Td at hns
 split at hns
 ·rename_i k cn
  obtain⟨m,hm,hn,hv⟩:=hR
  unfold yh at hr
  simp only[]at hr
  split at hr
  ·rename_i id o1 o2 hWk
   split at hr
   ·rename_i t xs ver d hlk
    cases hr.ret
    obtain⟨p,hp,rfl⟩:=oV hm
    rw[hWk]at hp;cases hp
    obtain⟨k',p',o',q1,q2,q3,q4⟩:=jI hlen hlk
    have hkk:k'=k:=by
     have hnd:=hW.1
     obtain⟨l1,e1⟩:=List.getElem?_eq_some_iff.1 q1
     obtain⟨l2,e2⟩:=List.getElem?_eq_some_iff.1 hWk
     have e3:(W.map (·.1))[k']'(by simpa using l1)=(W.map (·.1))[k]'(by simpa using l2):=by simp[e1,e2,q3]
     exact(List.getElem_inj hnd).1 e3
    subst hkk
    rw[hWk]at q1;cases q1
    obtain⟨o3,q5,q6⟩:=hO.at hm
    rw[q2]at q5;cases q5
    have hxl:C3 o1=xs.length:=by
     cases o2 with
     |box _=>cases o'<;>cases q4
     |arr t2 xs2 ver2 f2 d2=>
      cases o' with
      |box _=>
       obtain⟨o4,g1,g2⟩:=hsame.at (j:=k') (a:=o1) (by simp[hWk])
       rw[q2]at g1;cases g1
       have:=(hW.2 _ (List.mem_of_getElem? hWk)).2
       cases o1 with
       |box _=>exact this.elim
       |arr _ _=>exact g2.elim
      |arr t3 xs3=>
       cases q4
       exact q6.1
    have fin:∀(Is:Nat→Prop) (ob:Nat→Option Ob) (u':List (Nat×Ob)),SimX w0 mo n I0 Is M ⟨s.tmp,ob⟩ a w→BP (aY w0 I0 Is M ⟨s.tmp,ob⟩ w) W→aL (jF (ev M W) (λb=>Is b∨Jn b) w') (ev M W) O'→
      (∀p∈W,ao u' p.1=none)→(∀id,ob id=(match ao u' id with|some o=>some o|none=>s.obj id))→
      ∃v' I' M' obj',Ending.returned v= .returned v'∧SimX w0 mo n I0 I' M' ⟨s.tmp,obj'⟩ a w'∧lw ⟨w0.heap.size,I0,I',M',obj',w'⟩ (one (.own id (ver+1))) v'∧
       ∀i,obj' i=(match ao ((u'++((id,.arr t (xs.take cn) (ver+1) false d)::dd W O'))++aR base []) i with|some o=>some o|none=>s.obj i):=by
     intro Is ob u' hs hWs hOs hWn hob
     obtain⟨_,pU⟩:=hs.wrote hWs hsame hB hJn hOs
     have ho:gJ ob (dd W O') id=some (.arr t xs ver false d):=by simp only[gJ,hlk]
     have hro:=pU.objs id _ ho
     obtain⟨_,hs3⟩:=pU.redo ho (Nat.lt_succ_self ver) (t':=t) (xs':=xs.take cn) (d':=d) (m:=M id) (w':=w') (λ_ _ _=>rfl) (Nat.le_refl _) rfl rfl rfl (λb c hb=> .inr ⟨c,hb⟩) (λhext=>by
      rcases hro with⟨g1,g2⟩|⟨b,cap,g1,g2,g3,g4,g5,g6,g7,g8⟩
      ·exact .inl ⟨by simp only[bR,if_pos];exact g1,by rw[g2];simp⟩
      ·refine .inr ⟨b,cap,by simp only[bR,if_pos];exact g1,g2,g3,g4,Nat.le_trans (List.length_take_le' _ _) g5,Nat.le_trans (List.length_take_le' _ _) g6,g7,λi e j c he hc=> ?_⟩
       have hin:i<cn∧xs[i]? =some e:=by
        rw[List.getElem?_take]at he
        split at he
        ·exact⟨by assumption,he⟩
        ·cases he
       obtain⟨x,hx,hrx⟩:=g8 i e j c hin.2 hc
       exact⟨x,hx,hrx.ext hext⟩)
     refine⟨v,_,_,_,rfl,hs3,⟨_,rfl,t,xs.take cn,ver+1,false,d,by simp only[aJ,if_pos],Nat.le_refl _,λ_=> ?_, ?_⟩,λi=> ?_⟩
     ·simp only[bR,if_pos]
      rw[List.length_take,Nat.min_eq_left (by simp only[]at hn;omega)]
      exact hv
     ·simp only[]at hv
      unfold dk at hv
      split at hv
      ·obtain⟨a,rfl⟩:=hv;rfl
      ·subst hv;rfl
     ·simp only[eG,aR,ao,aJ,gJ]
      cases hu:ao u' i with
      |some ox=>
       have hne:i≠id:=by
        rintro rfl
        have:=hWn _ (List.mem_of_getElem? hWk)
        simp only[]at this
        rw[this]at hu;cases hu
       simp only[if_neg hne]
       cases hw:ao (dd W O') i with
       |some ow=>
        exfalso
        obtain⟨_,p2,_,r1,_,r3,_⟩:=jI hlen hw
        have:=hWn p2 (List.mem_of_getElem? r1)
        rw[r3,hu]at this;cases this
       |none=>simp only[hob,hu]
      |none=>
       by_cases hne:i=id
       ·subst hne;simp
       ·have hb:Nat.beq id i=false:=by
         cases hq:Nat.beq id i with
         |true=>exact absurd (Nat.eq_of_beq_eq_true hq).symm hne
         |false=>rfl
        simp only[if_neg hne,hb]
        cases hw:ao (dd W O') i with
        |some ow=>rfl
        |none=>simp only[hob,hu]
    cases hsh:O'.any MO.shares with
    |true=>exact fin I1 (gJ s.obj u) u hs1 hW1 hO hWu (λ_=>rfl)
    |false=>
     refine fin I s.obj [] h hW ?_ (λ_ _=>rfl) (λ_=>rfl)
     refine aL.memMono (λm o ho hh=>hh.mono λpU=> ?_) hO
     have:=List.any_eq_false.1 hsh o ho
     rw[pU]at this;exact absurd rfl this
   ·exact hr.fail.elim
  ·exact hr.fail.elim
 ·cases hns
theorem Yi (h:SimX w0 mo n I0 I M s a w){f:Nat}{args:List Operand}{tys:List TypeId}{ids:List Nat}{us:List Value}(hcaps:aL (λid u=>∃cs b,s.obj id=some (.box cs)∧M id=some (b,0)∧u= .pointer (some ⟨b,0,none⟩)) ids us){e:Eff}
  (hr:bF (tA P) s (IM te base f args tys ids) e)(hid:∀id∈(aR base e.new).map (·.1),s.obj id=none)(vs:Array Value)(hvs:vs.toList=args.map a.eval++us):
  (∀args w,(callFunc f args).run P w= .ok (.enter f args) w)∧Calls P f vs w λe' w'=>∃v I' M' obj',e'= .returned v∧SimX w0 mo n I0 I' M' ⟨s.tmp,obj'⟩ a w'∧lw ⟨w0.heap.size,I0,I',M',obj',w'⟩ e.val v∧
   ∀id,obj' id=(match ao (e.upd++aR base e.new) id with|some o=>some o|none=>s.obj id):=by
 unfold IM at hr
 obtain⟨A,u,W,hA,hfz,hW,hr⟩:=uU h (W:=[]) ⟨by simp,by simp⟩ hr
 rw[List.nil_append]at hA hW hr
 obtain⟨js,V,hjs,hV,hr⟩:=Bk h hcaps hW hr
 have hA:=hA.mono λ_ _ hh=>KK.mono (W':=W++V) hh (λ_ hp=>hp) λ_ _ hp=>iv hp
 clear hW
 revert hA hjs hV hr
 generalize W++V=W
 intro hjs hW hr hA
 obtain⟨hg,hr⟩:=hr.guard
 obtain⟨R,O',hcon,hr⟩:=hr.call
 obtain⟨I1,hIb,hext1,hs1⟩:=yW h hfz
 have hWu:∀p∈W,ao u p.1=none:=by
  intro p hp
  refine ke λhc=> ?_
  obtain⟨q,hq,hqe⟩:=List.mem_map.1 hc
  rw[List.all_eq_true]at hg
  have:=hg q hq
  rw[Bool.not_eq_true']at this
  rw[li.2 (List.mem_map.2 ⟨p,hp,hqe.symm⟩)]at this
  cases this
 have hW1:BP (aY w0 I0 I1 M ⟨s.tmp,gJ s.obj u⟩ w) W:=by
  refine⟨hW.1,λp hp=>⟨?_,(hW.2 p hp).2⟩⟩
  show gJ s.obj u p.1=_
  simp only[gJ,hWu p hp]
  exact(hW.2 p hp).1
 refine⟨hcon.1,(hcon.2 w I1 (ev M W) vs hs1.ilt (aao hs1 hW1) (Zw hs1 hW1) (Z0 hs1 hW1) hs1.gww (abs hs1 hW1) ?_).mono ?_⟩
 ·rw[hvs]
  refine aL.append (hA.mono λ_ _ hh=>hh _ _ hext1 rfl hIb λ_ _ hm=>hm) ?_
  have hcp:∀{js:List Nat} {us:List Value},aL (λj u=>DH (aY w0 I0 I M s w) W (.ptr j) u) js us→aL (pF (ev M W) I1 w) (js.map λk=> .wr false [.ptr k]) us:=by
   intro js
   induction js with
   |nil=>intro us hc;cases us with|nil=>trivial|cons _ _=>exact hc.elim
   |cons c cs ih=>intro us hc;cases us with|nil=>exact hc.elim|cons u us=>exact⟨⟨_,rfl,hc.1 _ _ hext1 rfl λ_ _ hm=>hm⟩,ih hc.2⟩
  exact hcp hjs
 ·rintro e' w' ⟨v,Jn,mm,rfl,hB,hJn,hinj,hmm,hRb,hO,hsame⟩
  have hlen:W.length=O'.length:=by have:=hsame.length;simpa using this
  cases hns:Td R with
  |false=>exact ZT h hs1 hW hW1 hWu hlen hsame hB hJn hRb hO hr hns
  |true=>
  have hR:=hRb.old hns
  have hr2:bF (tA P) s (.ret ⟨Jf (eY base R).1,(eY base R).2,(if R.any (λr=>r.2.any RC.shares)||O'.any MO.shares then u else[])++dd W O'⟩) e:=by
   rw[Pu hns]at hr;exact hr
  cases hr2.ret
  have hids:∀id,base≤id→id<base+tZ R→s.obj id=none:=λid h1 h2=>hid id (Mw h1 (by simp only[A9];exact h2))
  have hids1:∀id,base≤id→id<base+tZ R→gJ s.obj u id=none:=by
   intro id h1 h2
   have h3:=hids id h1 h2
   unfold gJ
   cases hlk:ao u id with
   |none=>exact h3
   |some ob=>
    exfalso
    obtain⟨q,hq,hqi⟩:=List.mem_map.1 (ja hlk)
    obtain⟨t',xs',ver',f',d',_,h4⟩:=hfz q hq
    rw[hqi,h3]at h4;cases h4
  have hnw:∀id,base≤id→id<base+tZ R→ao (dd W O') id=none:=by
   intro id h1 h2
   cases hlk:ao (dd W O') id with
   |none=>rfl
   |some ob=>
    exfalso
    obtain⟨k,p,o,q1,_,q3,_⟩:=jI hlen hlk
    have:=(hW.2 p (List.mem_of_getElem? q1)).1
    simp only[]at this
    rw[q3,hids id h1 h2]at this;cases this
  have fin:∀(Is:Nat→Prop) (ob:Nat→Option Ob) (u':List (Nat×Ob)),SimX w0 mo n I0 Is M ⟨s.tmp,ob⟩ a w→BP (aY w0 I0 Is M ⟨s.tmp,ob⟩ w) W→qZ w.heap.size Is Jn w' mm R v→aL (jF (ev M W) (λb=>Is b∨Jn b) w') (ev M W) O'→
    (∀id,base≤id→id<base+tZ R→ob id=none)→(∀p∈W,ao u' p.1=none)→(∀id,ob id=(match ao u' id with|some o=>some o|none=>s.obj id))→
    ∃v' I' M' obj',Ending.returned v= .returned v'∧SimX w0 mo n I0 I' M' ⟨s.tmp,obj'⟩ a w'∧lw ⟨w0.heap.size,I0,I',M',obj',w'⟩ (Jf (eY base R).1) v'∧
     ∀id,obj' id=(match ao (u'++dd W O'++aR base (eY base R).2) id with|some o=>some o|none=>s.obj id):=by
   intro Is ob u' hs hWs hRs hOs hidn hWn hob
   obtain⟨hext2,pU⟩:=hs.wrote hWs hsame hB hJn hOs
   obtain⟨M',hs',hv'⟩:=VT (w:=w) (base:=base) pU hs.below.size hs.ilt (λid b c hi hM=>by
    refine(hs.blk (id:=id) ?_ hM).2
    intro hc
    apply hi
    have hc':ob id=none:=hc
    show gJ ob (dd W O') id=none
    simp only[gJ]
    cases hlk:ao (dd W O') id with
    |none=>exact hc'
    |some o2=>
     obtain⟨k,p,o,q1,_,q3,_⟩:=jI hlen hlk
     have:=(hWs.2 p (List.mem_of_getElem? q1)).1
     simp only[]at this
     rw[q3,hc']at this;cases this) hJn hinj hmm hRs (λid h1 h2=>by
    show gJ ob (dd W O') id=none
    simp only[gJ,hnw id h1 h2]
    exact hidn id h1 h2)
   refine⟨v,_,M',_,rfl,hs',hv',λid=> ?_⟩
   simp only[pm,eG,gJ]
   cases h1:ao (aR base (eY base R).2) id with
   |some ob2=>
    have h2:=uB (ja h1)
    rw[A9]at h2
    rw[hnw id h2.1 h2.2]
    have h3:=hidn id h2.1 h2.2
    rw[hob]at h3
    cases h4:ao u' id with
    |none=>rfl
    |some _=>rw[h4]at h3;cases h3
   |none=>
    simp only[]
    cases h2:ao (dd W O') id with
    |none=>
     simp only[]
     rw[hob]
     cases ao u' id<;>rfl
    |some o2=>
     simp only[]
     cases h4:ao u' id with
     |none=>rfl
     |some o3=>
      exfalso
      obtain⟨k,p,o,q1,_,q3,_⟩:=jI hlen h2
      have e1:=hWn p (List.mem_of_getElem? q1)
      rw[q3,h4]at e1
      cases e1
  cases hsh:(R.any (λr=>r.2.any RC.shares)||O'.any MO.shares)with
  |true=>
   exact fin I1 (gJ s.obj u) u hs1 hW1 (hR.settle I1 (λ_ _ hb=>hb)) hO hids1 hWu (λ_=>rfl)
  |false=>
   rw[Bool.or_eq_false_iff]at hsh
   refine fin I s.obj [] h hW (hR.settle I (λhc=>by rw[hsh.1]at hc;cases hc)) ?_ hids (λ_ _=>rfl) (λ_=>rfl)
   refine aL.memMono (λm o ho hh=>hh.mono λpU=> ?_) hO
   have:=List.any_eq_false.1 hsh.2 o ho
   rw[pU]at this;exact absurd rfl this
theorem P8 (h:SimX w0 mo n I0 I M s a w){f:Nat}{args:List Operand}{tys:List TypeId}{ids:List Nat}{us:List Value}(hcaps:aL (λid u=>∃cs b,s.obj id=some (.box cs)∧M id=some (b,0)∧u= .pointer (some ⟨b,0,none⟩)) ids us){e:Eff}
  (hr:bF (tA P) s (IM te base f args tys ids) e)(hid:∀id∈(aR base e.new).map (·.1),s.obj id=none)(vs:Array Value)(hvs:vs.toList=args.map a.eval++us)
  (hrun:execOp a.eval o=callFunc f vs)(hd:∀d,o.dst=some d→d<n){K:Act→World→Prop}{Q:Exit→Act→World→Prop}
  (hK:∀a' w',C0 w0 mo n I0 (s.wr o.dst e.val (e.upd++aR base e.new)) a' w'→K a' w'):o.wp P a w K Q:=by
 obtain⟨henter,hcalls⟩:=Yi h hcaps hr hid vs hvs
 unfold Oper.wp
 rw[hrun,henter,Oper.upon_enter]
 refine hcalls.mono ?_
 rintro e' w' ⟨v,I',M',obj',rfl,hs,hv,hobj⟩
 refine hK _ _ ⟨I',M', ?_⟩
 have:=hs.put (dst:=o.dst) hd hv
 have e1:(FSt.mk s.tmp obj').wr o.dst e.val []=s.wr o.dst e.val (e.upd++aR base e.new):=by
  simp only[FSt.wr,FSt.mk.injEq,true_and]
  funext id
  simp only[ao]
  exact hobj id
 rw[e1]at this
 exact this
end
end Go.Proofs.YtfpdenjmlnhnnaaGreat
