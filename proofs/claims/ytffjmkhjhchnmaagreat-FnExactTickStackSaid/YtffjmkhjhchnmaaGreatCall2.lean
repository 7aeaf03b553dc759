/- A call: its arguments, its results. -/
import Derived.Test.YtffjmkhjhchnmaaGreatCall
set_option linter.unusedVariables false
set_option linter.unusedSimpArgs false
namespace Go.Proofs.YtffjmkhjhchnmaaGreat
open Go Go.RowKit
section
variable {w0:World} {mo:gj} {n:Nat} {I0 I Jn:Nat→Prop} {M:MF} {s:FSt} {a:Act} {w w':World}
theorem sg (k:Nat)(ag:Bool)(cs:List RC)(r:cS):
  dF k ((ag,cs)::r)=((ag,(aq k cs).1)::(dF (aq k cs).2.2 r).1,(aq k cs).2.1++(dF (aq k cs).2.2 r).2):=rfl
def pz:cS→Nat
 |[]=>0
 |r::rs=>cq r.2+pz rs
def NC (ag:Bool)(v:Value)(us:List Value):Prop:=match ag with|true=>∃a:Array Value,v= .agg a∧a.toList=us|false=>us=[v]
theorem MQ {x:Cx}{ag:Bool}{ds:List DC}{v:Value}{us:List Value}(hall:ar (λc u=>aA x c u∧u.oneCell'=true) ds us)(hv:NC ag v us):iQ x ag ds v:=by
 cases ag with
 |true=>obtain⟨a,rfl,rfl⟩:=hv;exact⟨a,rfl,hall⟩
 |false=>
  simp only[NC]at hv
  subst hv
  match ds,hall with
  |[c],hall=>exact⟨c,rfl,hall.1.1⟩
  |[],hall=>exact hall.elim
  |_::_::_,hall=>exact hall.2.elim
theorem ER {base N:Nat}{J Jn:Nat→Prop}{mm:MF}(hinj:MmOk mm N)(hN:w0.heap.size≤N)(hIN:∀b,N≤b→I b→Jn b)(hJ:∀b,J b→I b)
  (hJn:∀b,Jn b→I b∧w0.heap.size≤b):∀{R:cS} {k:Nat} {vs:List Value} {s:FSt} {M:MF} {a:Act},SimX w0 mo n I0 I M s a w→rj N J Jn w mm k R vs→Free s M mm k→
   (∀id,base+k≤id→id<base+k+pz R→s.obj id=none)→
   ∃M',Ext (ax w0 I0 I M s w) ⟨w0.heap.size,I0,I,M',kC s.obj (base+k) (dF (base+k) R).2,w⟩∧SimX w0 mo n I0 I M' ⟨s.tmp,kC s.obj (base+k) (dF (base+k) R).2⟩ a w∧
    ar (λp u=>iQ ⟨w0.heap.size,I0,I,M',kC s.obj (base+k) (dF (base+k) R).2,w⟩ p.1 p.2 u) (dF (base+k) R).1 vs
 |[],k,[],s,M,a,h,_,hfr,_=>⟨M,Ext.refl h.i00,h,trivial⟩
 |(ag,mu)::R,k,v::vs,s,M,a,h,hr,hfr,hid=>by
  have h1:∃us,b9 N J Jn w mm k mu us∧NC ag v us:=by
   have:=hr.1
   cases ag with
   |true=>obtain⟨us,hv,hu⟩:=this;exact⟨us.toList,hu,us,hv,rfl⟩
   |false=>exact⟨[v],this.2.2,rfl⟩
  obtain⟨us,hus,hv⟩:=h1
  obtain⟨M1,hext1,hs1,hall1,hfr1,hn1,hl1⟩:=kA (base:=base) hinj hN hIN hJ hJn h hus hfr (λid h1 h2=>hid id h1 (by simp only[pz];omega))
  obtain⟨M2,hext2,hs2,hall2⟩:=ER (base:=base) (R:=R) (k:=k+cq mu) hinj hN hIN hJ hJn hs1 hr.2 hfr1 (by
   intro id h1 h2
   have:ac (au (base+k) (aq (base+k) mu).2.1) id=none:=dN λhc=>by
    have:=pN hc
    omega
   simp only[kC,this]
   exact hid id (by omega) (by simp only[pz];omega))
  rw[sg]
  simp only[]
  have e1:(aq (base+k) mu).2.2=base+(k+cq mu):=by rw[hn1];omega
  have e2:kC (kC s.obj (base+k) (aq (base+k) mu).2.1) (base+(k+cq mu)) (dF (base+(k+cq mu)) R).2=kC s.obj (base+k) ((aq (base+k) mu).2.1++(dF (base+(k+cq mu)) R).2):=by
   rw[←oK,hl1,Nat.add_assoc]
  rw[e1]
  simp only[]at hext2 hs2 hall2
  rw[e2]at hext2 hs2 hall2
  refine⟨M2,hext1.trans hext2,hs2,(MQ hall1 hv).ext hext2,hall2⟩
 |[],_,_::_,_,_,_,_,h,_,_=>h.elim
 |_::_,_,[],_,_,_,_,h,_,_=>h.elim
def IV (W:List (Nat×MO×Ob))(d:DC)(c:MC):Prop:=
 match c with
 | .c x=>ff [d]=some [x]
 | .own k=>∃id ver t xs dp,d= .own id ver∧W[k]? =some (id,.arr t xs,.arr t xs ver false dp)
 | .ptr _=>False
 | .down _=>False
def M9 (x:Cx)(W:List (Nat×MO×Ob))(p:Nat×MO×Ob):Prop:=x.obj p.1=some p.2.2∧match p.2.2,p.2.1 with
  | .box cs,.box xs=>ar (IV W) cs xs
  | .arr t xs _ f _,.arr t' xs'=>f=false∧∃h:t'=t,xs=h▸xs'
  | .dar t xs _ _,.dar t' xs'=>∃h:t'=t,xs=h▸xs'
  |_,_=>False
def p5 (x:Cx)(W:List (Nat×MO×Ob)):Prop:=(W.map (·.1)).Nodup∧∀p∈W,M9 x W p
theorem IV.mono {W W':List (Nat×MO×Ob)}{d:DC}{c:MC}(h:IV W d c)(hW:∀(k:Nat) p,W[k]? =some p→W'[k]? =some p):IV W' d c:=by
 cases c with
 |c x=>exact h
 |own k=>obtain⟨id,ver,t,xs,dp,h1,h2⟩:=h;exact⟨id,ver,t,xs,dp,h1,hW _ _ h2⟩
 |ptr _=>exact h
 |down _=>exact h
theorem M9.mono {x:Cx}{W W':List (Nat×MO×Ob)}{p:Nat×MO×Ob}(h:M9 x W p)(hW:∀(k:Nat) p,W[k]? =some p→W'[k]? =some p):M9 x W' p:=by
 obtain⟨h1,h2⟩:=h
 refine⟨h1, ?_⟩
 split at h2
 ·exact h2.mono λ_ _ hh=>hh.mono hW
 ·exact h2
 ·exact h2
 ·exact h2.elim
def EI:MO→Nat
 | .box _=>0
 | .arr _ xs=>xs.length
 | .dar _ xs=>xs.length
def Ou {t:Ty}(xs:List t.T)(i j:Nat):Nat:=
 match xs[i]? with
 |some e=>match(t.cells e)[j]? with|some (.sl _ ys)=>ys.length|_=>0
 |none=>0
theorem z8 {t:Ty}(xs:List t.T):GG xs (Ou xs):=by
 intro i j e t1 ys h1 h2
 simp only[Ou,h1,h2]
def QT:MO→Nat→Nat→Nat
 | .dar _ xs=>Ou xs
 |_=>λ_ _=>0
def B0 (M:MF)(p:Nat×MO×Ob):Nat→Nat→Option (Nat×Nat):=match p.2.2 with| .dar _ _ _ _=>M.n p.1|_=>λ_ _=>none
def kT (M:MF)(p:Nat×MO×Ob):Mt:=⟨M p.1,EI p.2.1,B0 M p,QT p.2.1⟩
def br (M:MF)(W:List (Nat×MO×Ob)):gj:=W.map (kT M)
theorem fy {M:MF}{W:List (Nat×MO×Ob)}{k:Nat}{m:Mt}(h:(br M W)[k]? =some m):∃p,W[k]? =some p∧m=kT M p:=by
 unfold br at h
 rw[List.getElem?_map,Option.map_eq_some_iff]at h
 obtain⟨p,hp,rfl⟩:=h
 exact⟨p,hp,rfl⟩
theorem m7 {M:MF}{W:List (Nat×MO×Ob)}{b:Nat}:(br M W).X b↔∃p∈W,(∃c,M p.1=some (b,c))∨∃i j c,B0 M p i j=some (b,c):=by
 constructor
 ·rintro⟨m,hm,hc⟩
  obtain⟨k,hk⟩:=List.getElem?_of_mem hm
  obtain⟨p,hp,rfl⟩:=fy hk
  exact⟨p,List.mem_of_getElem? hp,hc⟩
 ·rintro⟨p,hp,hc⟩
  exact⟨kT M p,List.mem_map.2 ⟨p,hp,rfl⟩,hc⟩
theorem jk {M:MF}{p:Nat×MO×Ob}{i j b c:Nat}(h:B0 M p i j=some (b,c)):isDar (some p.2.2)=true∧M.n p.1 i j=some (b,c):=by
 obtain⟨id,m,ob⟩:=p
 cases ob with
 |dar _ _ _ _=>exact⟨rfl,h⟩
 |box _=>cases h
 |arr _ _ _ _ _=>cases h
theorem Bn (h:SimX w0 mo n I0 I M s a w){W:List (Nat×MO×Ob)}(hW:p5 (ax w0 I0 I M s w) W)(b:Nat)(hb:(br M W).X b):¬I b:=by
 intro hI
 obtain⟨p,hp,hc⟩:=m7.1 hb
 obtain⟨ho,hm⟩:=hW.2 p hp
 rcases hc with⟨c,hc⟩|⟨i,j,c,hc⟩
 ·have hr:=h.objs p.1 _ ho
  obtain⟨id,o,ob⟩:=p
  simp only[]at ho hm hr hc
  cases ob with
  |box cs=>
   obtain⟨b',h1,_,_,h4,_⟩:=hr
   simp only[]at h1;rw[hc]at h1;cases h1;exact h4 hI
  |dar t xs v iv=>
   rcases hr with⟨h1,_⟩|⟨b',cap,h1,_,h4,_⟩
   ·simp only[]at h1;rw[hc]at h1;cases h1
   ·simp only[]at h1;rw[hc]at h1;cases h1;exact h4 hI
  |arr t xs v f d=>
   cases o with
   |box _=>exact hm.elim
   |dar _ _=>exact hm.elim
   |arr t' xs'=>
    rcases hr with⟨h1,_⟩|⟨b',cap,h1,_,_,h4,_⟩
    ·simp only[]at h1;rw[hc]at h1;cases h1
    ·simp only[]at h1;rw[hc]at h1;cases h1
     have:=h4.1 hI
     rw[hm.1]at this;cases this
 ·obtain⟨h1,h2⟩:=jk hc
  exact(h.vir.lt p.1 i j b c (by rw[show s.obj p.1=_ from ho];exact h1) h2).2.2 hI
theorem Cp (h:SimX w0 mo n I0 I M s a w){W:List (Nat×MO×Ob)}(hW:p5 (ax w0 I0 I M s w) W){id:Nat}(hid:id∉W.map (·.1))(hl:s.obj id≠none){b:Nat}(hb:(br M W).X b):(∀c,M id≠some (b,c))∧(isDar (s.obj id)=true→∀i j c,M.n id i j≠some (b,c)):=by
 obtain⟨p,hp,hc⟩:=m7.1 hb
 have ho:s.obj p.1=some p.2.2:=(hW.2 p hp).1
 have hpl:s.obj p.1≠none:=by rw[ho];simp
 have hne:id≠p.1:=by rintro rfl;exact hid (List.mem_map.2 ⟨p,hp,rfl⟩)
 rcases hc with⟨c,hc⟩|⟨i,j,c,hc⟩
 ·exact⟨λc' hM=>hne (h.inj id p.1 b c' c hl hpl hM hc),λhd i j c' hM=>h.vir.dis id p.1 i j b c' c hd hpl hM hc⟩
 ·obtain⟨h1,h2⟩:=jk hc
  have hd1:isDar (s.obj p.1)=true:=by rw[ho];exact h1
  exact⟨λc' hM=>h.vir.dis p.1 id i j b c c' hd1 hl h2 hM,λhd i' j' c' hM=>hne (h.vir.inj id p.1 i' i j' j b c' c hd hd1 hM h2).1⟩
theorem ez:∀{W:List (Nat×MO×Ob)} {O:List MO},W.length=O.length→∀{id:Nat} {ob:Ob},ac (aJ W O) id=some ob→∃(k:Nat) (p:Nat×MO×Ob) (o:MO),W[k]? =some p∧O[k]? =some o∧p.1=id∧ob=qA p.2.2 o
 |[],[],_,_,_,h=>by simp[aJ,ac]at h
 |(i,m,o0)::W,o::O,hl,id,ob,h=>by
  simp only[aJ,ac]at h
  cases hb:Nat.beq i id with
  |true=>
   rw[hb]at h
   cases h
   exact⟨0,(i,m,o0),o,rfl,rfl,Nat.eq_of_beq_eq_true hb,rfl⟩
  |false=>
   rw[hb]at h
   obtain⟨k,p,o',h1,h2,h3,h4⟩:=ez (by simpa using hl) h
   exact⟨k+1,p,o',by simpa using h1,by simpa using h2,h3,h4⟩
 |[],_::_,hl,_,_,_=>by simp at hl
 |_::_,[],hl,_,_,_=>by simp at hl
theorem pm:∀{W:List (Nat×MO×Ob)} {O:List MO},W.length=O.length→∀{id:Nat},ac (aJ W O) id=none→id∉W.map (·.1)
 |[],[],_,_,_=>by simp
 |(i,m,o0)::W,o::O,hl,id,h=>by
  simp only[aJ,ac]at h
  cases hb:Nat.beq i id with
  |true=>rw[hb]at h;cases h
  |false=>
   rw[hb]at h
   have:=pm (by simpa using hl) h
   simp only[List.map_cons,List.mem_cons,not_or]
   exact⟨λe=>Nat.ne_of_beq_eq_false hb e.symm,this⟩
 |[],_::_,hl,_,_=>by simp at hl
 |_::_,[],hl,_,_=>by simp at hl
theorem jH.one {mo:gj}{J:Nat→Prop}{w:World}{c:MC}{v:Value}(h:jH mo J w c v):v.oneCell'=true:=by
 cases c with
 |c x=>exact RepC.one h
 |own k=>
  obtain⟨m,_,hv⟩:=h
  cases hm:m.1 with
  |none=>rw[hm]at hv;obtain⟨_,rfl⟩:=hv;rfl
  |some p=>obtain⟨b,c⟩:=p;rw[hm]at hv;simp only[aM]at hv;rw[hv];rfl
 |ptr k=>obtain⟨m,b,_,_,rfl⟩:=h;rfl
 |down k=>
  obtain⟨m,_,hv⟩:=h
  cases hm:m.1 with
  |none=>rw[hm]at hv;obtain⟨_,rfl⟩:=hv;rfl
  |some p=>obtain⟨b,c⟩:=p;rw[hm]at hv;simp only[aM]at hv;rw[hv];rfl
theorem Ek:∀{cs:List DC} {ds:List MC},cs.length=ds.length→(vN cs ds).length=ds.length
 |[],[],_=>rfl
 |_::_,_::_,h=>by simp only[vN,List.length_cons];rw[Ek (by simpa using h)]
 |[],_::_,h=>by simp at h
 |_::_,[],h=>by simp at h
theorem HG:∀{cs:List DC} {ds:List MC} {j:Nat} {c:DC},(vN cs ds)[j]? =some c→∃d x,cs[j]? =some d∧ds[j]? =some x∧c=(match x with| .c x=>x.toD .any|_=>d)
 |d::cs,x::ds,j,c,h=>by
  cases j with
  |zero=>simp only[vN,List.getElem?_cons_zero,Option.some.injEq]at h;exact⟨d,x,rfl,rfl,h.symm⟩
  |succ j=>
   simp only[vN,List.getElem?_cons_succ]at h
   obtain⟨d',x',h1,h2,h3⟩:=HG h
   exact⟨d',x',by simpa using h1,by simpa using h2,h3⟩
 |[],_,j,c,h=>by simp[vN]at h
 |_::_,[],j,c,h=>by simp[vN]at h
theorem SimX.wrote (h:SimX w0 mo n I0 I M s a w){W:List (Nat×MO×Ob)}(hW:p5 (ax w0 I0 I M s w) W){O':List MO}(hk:ar nW (W.map (·.2.1)) O'){w':World}(hB:BelowX w.heap.size (br M W).X w w'){Jn:Nat→Prop}(hJn:∀b,Jn b→w.heap.size≤b∧b<w'.heap.size)
  (hO:ar (dk (br M W) (λb=>I b∨Jn b) w') (br M W) O'):
  Ext (ax w0 I0 I M s w) ⟨w0.heap.size,I0,λb=>I b∨Jn b,M,bx s.obj (aJ W O'),w'⟩∧SimX w0 mo n I0 (λb=>I b∨Jn b) M ⟨s.tmp,bx s.obj (aJ W O')⟩ a w':=by
 have hlen:W.length=O'.length:=by have:=hk.length;simpa using this
 have hXI:=Bn h hW
 have hI:∀b,I b→w'.heap[b]? =w.heap[b]? :=λb hb=>hB.block b (h.ilt b hb) λhx=>hXI b hx hb
 have hat:∀id ob,ac (aJ W O') id=some ob→∃(p:Nat×MO×Ob) (k:Nat) (o:MO),W[k]? =some p∧O'[k]? =some o∧p.1=id∧s.obj id=some p.2.2∧dk (br M W) (λb=>I b∨Jn b) w' (kT M p) o∧nW p.2.1 o∧ob=qA p.2.2 o:=by
  intro id ob hl
  obtain⟨k,p,o,h1,h2,h3,h4⟩:=ez hlen hl
  obtain⟨o2,h5,h6⟩:=hO.at (j:=k) (a:=kT M p) (by simp[br,h1])
  rw[h2]at h5;cases h5
  obtain⟨o3,h7,h8⟩:=hk.at (j:=k) (a:=p.2.1) (by simp[h1])
  rw[h2]at h7;cases h7
  have:=(hW.2 p (List.mem_of_getElem? h1)).1
  rw[h3]at this
  exact⟨p,k,o,h1,h2,h3,this,h6,h8,h4⟩
 have hext:Ext (ax w0 I0 I M s w) ⟨w0.heap.size,I0,λb=>I b∨Jn b,M,bx s.obj (aJ W O'),w'⟩:=by
  refine⟨rfl,rfl,h.i00,λ_ hb=> .inl hb,hI,λi cs hi=> ?_,λi t xs v f d hi=> ?_,λi t xs v k0 hi=> ?_⟩
  ·refine⟨?_,rfl⟩
   simp only[bx]
   cases hl:ac (aJ W O') i with
   |none=>exact⟨cs,hi⟩
   |some ob=>
    obtain⟨p,k,o,h1,h2,h3,h4,h5,h6,h7⟩:=hat i ob hl
    simp only[]at hi
    rw[hi]at h4
    have h22:=Option.some.inj h4
    have hm:=(hW.2 p (List.mem_of_getElem? h1)).2
    rw[←h22]at hm
    cases h21:p.2.1 with
    |arr _ _=>rw[h21]at hm;exact hm.elim
    |dar _ _=>rw[h21]at hm;exact hm.elim
    |box xs=>
     rw[h21]at h6
     cases o with
     |arr _ _=>exact h6.elim
     |dar _ _=>exact h6.elim
     |box ds=>exact⟨_,by rw[h7,←h22];rfl⟩
  ·simp only[bx]
   cases hl:ac (aJ W O') i with
   |none=>exact⟨t,xs,v,f,d,hi,Nat.le_refl _,λ_=>by refine⟨rfl,rfl, ?_⟩;trivial⟩
   |some ob=>
    obtain⟨p,k,o,h1,h2,h3,h4,h5,h6,h7⟩:=hat i ob hl
    simp only[]at hi
    rw[hi]at h4
    have h22:=Option.some.inj h4
    have hm:=(hW.2 p (List.mem_of_getElem? h1)).2
    rw[←h22]at hm h7
    cases h21:p.2.1 with
    |box _=>rw[h21]at hm;exact hm.elim
    |dar _ _=>rw[h21]at hm;exact hm.elim
    |arr t' xs'=>
     have h5l:=λt (ys:List (Ty.T t)) (e:o= .arr t ys)=>(show dk _ _ _ _ (.arr t ys) from e▸h5).1
     rw[h21]at hm h6
     cases o with
     |box _=>exact h6.elim
     |dar _ _=>exact h6.elim
     |arr t2 ys=>
      obtain⟨hf,ht,hx⟩:=hm
      subst ht
      simp only[]at hx
      subst hx
      have h6':t2=t':=h6
      subst h6'
      have hl:=h5l _ _ rfl
      simp only[kT,h21,EI]at hl
      exact⟨t2,ys,v,f,d&& !jI t2,by rw[h7];rfl,Nat.le_refl _,λ_=>⟨rfl,hl.symm,trivial⟩⟩
  ·simp only[bx]
   cases hl:ac (aJ W O') i with
   |none=>exact⟨_,hi,.same rfl rfl⟩
   |some ob=>
    obtain⟨p,k,o,h1,h2,h3,h4,h5,h6,h7⟩:=hat i ob hl
    simp only[]at hi
    rw[hi]at h4
    have h22:=Option.some.inj h4
    have hm:=(hW.2 p (List.mem_of_getElem? h1)).2
    rw[←h22]at hm h7
    cases h21:p.2.1 with
    |box _=>rw[h21]at hm;exact hm.elim
    |arr _ _=>rw[h21]at hm;exact hm.elim
    |dar t' xs'=>
     rw[h21]at hm h6
     cases o with
     |box _=>exact h6.elim
     |arr _ _=>exact h6.elim
     |dar t2 ys=>
      obtain⟨ht,hx⟩:=hm
      subst ht
      simp only[]at hx
      subst hx
      have h6':t2=t':=h6
      subst h6'
      obtain⟨q1,_,q2,_⟩:=h5
      simp only[kT,h21,EI,QT]at q1 q2
      exact⟨.dar t2 ys v k0,by rw[h7];rfl,Nat.le_refl _,Nat.le_refl _,λ_=>⟨rfl,q1.symm,rfl⟩,λ_=>⟨rfl,rfl,(z8 xs).inn q2 q1.symm⟩⟩
 have hold:∀k,bx s.obj (aJ W O') k≠none→s.obj k≠none:=by
  intro k hk'
  simp only[bx]at hk'
  cases hl:ac (aJ W O') k with
  |none=>rw[hl]at hk';exact hk'
  |some ob=>obtain⟨p,q,o,_,_,_,h4,_⟩:=hat k ob hl;rw[h4];simp
 have hdar:∀k,isDar (bx s.obj (aJ W O') k)=true→isDar (s.obj k)=true:=by
  intro k hk'
  simp only[bx]at hk'
  cases hl:ac (aJ W O') k with
  |none=>rw[hl]at hk';exact hk'
  |some ob=>
   obtain⟨p,q,o,_,_,_,h4,_,_,h7⟩:=hat k ob hl
   rw[hl,h7]at hk'
   rw[h4]
   cases h22:p.2.2 with
   |dar _ _ _ _=>rfl
   |box _=>rw[h22]at hk';cases o<;>cases hk'
   |arr _ _ _ _ _=>rw[h22]at hk';cases o<;>cases hk'
 refine⟨hext,h.turn hext ⟨hB.os,hB.tape,hB.output,hB.size,λb hb hnx=>hB.block b (Nat.lt_of_lt_of_le hb h.below.size) λhx=> ?_⟩ (by
  rintro b (hb|hb)
  ·exact Nat.lt_of_lt_of_le (h.ilt b hb) hB.size
  ·exact(hJn b hb).2) (by
  rintro b (hb|hb)
  ·exact h.idiv b hb
  ·exact .inr (.inl (Nat.le_trans h.below.size (hJn b hb).1))) (λi b c hi hM=>h.own i b c (by
   simp only[bx]at hi
   cases hl:ac (aJ W O') i with
   |none=>rw[hl]at hi;exact hi
   |some ob=>obtain⟨p,k,o,_,_,_,h4,_⟩:=hat i ob hl;rw[h4];simp) hM) ?_ ?_ (h.vir.keep (λi hi=>⟨hdar i hi,rfl⟩) (by
  rintro b (hb|hb)
  ·exact .inl hb
  ·exact .inr λi j k c hi hn=>by
    have:=(h.vir.lt i j k b c (hdar i hi) hn).2.1
    have:=(hJn b hb).1
    omega) (λi b c hi hM i' k j c' hi' hn=>h.vir.dis i' i k j b c' c (hdar i' hi') (hold i hi) hn hM) hB.size)⟩
 ·obtain⟨p,hp,hc⟩:=m7.1 hx
  have e:s.obj p.1=_:=(hW.2 p hp).1
  rcases hc with⟨c,hc⟩|⟨i,j,c,hc⟩
  ·rcases h.own p.1 b c (by rw[e];simp) hc with h1|h1
   ·omega
   ·exact hnx h1.x
  ·obtain⟨h1,h2⟩:=jk hc
   rcases(h.vir.lt p.1 i j b c (by rw[e];exact h1) h2).1 with h1|h1
   ·omega
   ·exact hnx h1.x
 ·intro i ob hi
  simp only[bx]at hi
  cases hl:ac (aJ W O') i with
  |none=>
   rw[hl]at hi
   have hi:s.obj i=some ob:=hi
   have hni:=pm hlen hl
   have hil:s.obj i≠none:=by rw[hi];simp
   refine(h.objs i ob hi).ext hext rfl hB.size (λb cap hM=> ?_) rfl λhd k j b c hM=>hB.block b (h.vir.lt i k j b c (by rw[hi];exact hd) hM).2.1 λhx=>(Cp h hW hni hil hx).2 (by rw[hi];exact hd) k j c hM
   simp only[]at hM
   have hlt:=(h.blk hil hM).2
   refine⟨hB.block b hlt λhx=>(Cp h hW hni hil hx).1 cap hM, ?_⟩
   rintro(hb|hb)
   ·exact hb
   ·have:=(hJn b hb).1;omega
  |some ob'=>
   rw[hl]at hi
   cases hi
   obtain⟨p,k,o,h1,h2,h3,h4,h5,h6,h7⟩:=hat i _ hl
   have hr:=h.objs i _ h4
   have hm:=(hW.2 p (List.mem_of_getElem? h1)).2
   cases o with
   |box ds=>
    cases h22:p.2.2 with
    |arr _ _ _ _ _=>
     rw[h22]at hm
     cases h21:p.2.1 with
     |box _=>rw[h21]at hm;exact hm.elim
     |arr _ _=>rw[h21]at h6;exact h6.elim
     |dar _ _=>rw[h21]at h6;exact h6.elim
    |dar _ _ _ _=>
     rw[h22]at hm
     cases h21:p.2.1 with
     |box _=>rw[h21]at hm;exact hm.elim
     |arr _ _=>rw[h21]at h6;exact h6.elim
     |dar _ _=>rw[h21]at h6;exact h6.elim
    |box cs=>
    rw[h22]at hm h7 hr
    cases h21:p.2.1 with
    |arr _ _=>rw[h21]at hm;exact hm.elim
    |dar _ _=>rw[h21]at hm;exact hm.elim
    |box xs=>
    rw[h21]at hm h6
    rw[h7]
    obtain⟨b,g1,g2,g3,g4⟩:=h5
    simp only[kT,h3]at g1
    have hl2:=Ek (ds:=ds) (by rw[hm.length];exact h6.length)
    refine⟨b,g1,trivial,g2, ?_,λj c hj=> ?_,λj hj=>g4 j (by rw[←hl2];exact hj)⟩
    ·have hx:(br M W).X b:=m7.2 ⟨p,List.mem_of_getElem? h1,.inl ⟨0,by rw[h3];exact g1⟩⟩
     rintro(hb|hb)
     ·exact hXI b hx hb
     ·have:=(hJn b hb).1
      have:=(h.blk (by rw[h4];simp) g1).2
      omega
    ·obtain⟨d0,x,hd0,hx,rfl⟩:=HG hj
     obtain⟨u,hu,hru⟩:=g3 j x hx
     refine⟨u,hu, ?_,hru.one⟩
     cases x with
     |c x=>exact RepC.toD (p:= .any) hru
     |ptr _=>
      obtain⟨x0,hx0,hs0⟩:=ar.atR h6 hx
      cases x0<;>exact hs0.elim
     |down _=>
      obtain⟨x0,hx0,hs0⟩:=ar.atR h6 hx
      cases x0<;>exact hs0.elim
     |own k2=>
      obtain⟨x0,hx0,hs0⟩:=hm.at hd0
      obtain⟨y,hy,hsy⟩:=ar.atR h6 hx
      rw[hx0]at hy
      cases hy
      cases x0 with
      |c _=>exact hsy.elim
      |ptr _=>exact hsy.elim
      |down _=>exact hsy.elim
      |own k3=>
       cases(hsy:k3=k2)
       obtain⟨id2,ver2,t2,xs2,dp2,rfl,hk2⟩:=hs0
       obtain⟨m2,hm2,hv2⟩:=hru
       obtain⟨p2,hp2,rfl⟩:=fy hm2
       rw[hk2]at hp2
       cases hp2
       have hold:=(h.objs i _ h4)
       have hobj2:=(hW.2 _ (List.mem_of_getElem? hk2)).1
       obtain⟨_,_,_,_,hbx,_⟩:=hr
       obtain⟨t3,xs3,v3,f3,d3,q1,q2,q3⟩:=hext.arr id2 t2 xs2 ver2 false dp2 hobj2
       refine⟨t3,xs3,v3,f3,d3,q1,q2,λe=> ?_,jH.one (c:= .own k2) (mo:=br M W) (J:=λ_=>True) (w:=w') ⟨_,hm2,hv2⟩⟩
       have e2:=(q3 e).2.1
       show aM (M id2) xs3.length u
       rw[e2]
       exact hv2
   |arr t2 ys=>
    cases h22:p.2.2 with
    |box _=>
     rw[h22]at hm
     cases h21:p.2.1 with
     |box _=>rw[h21]at h6;exact h6.elim
     |dar _ _=>rw[h21]at h6;exact h6.elim
     |arr _ _=>rw[h21]at hm;exact hm.elim
    |dar _ _ _ _=>
     rw[h22]at hm
     cases h21:p.2.1 with
     |box _=>rw[h21]at h6;exact h6.elim
     |dar _ _=>rw[h21]at h6;exact h6.elim
     |arr _ _=>rw[h21]at hm;exact hm.elim
    |arr t xs v f d=>
     rw[h22]at hm hr h7
     cases h21:p.2.1 with
     |box _=>rw[h21]at hm;exact hm.elim
     |dar _ _=>rw[h21]at hm;exact hm.elim
     |arr t' xs'=>
      rw[h21]at hm h6
      obtain⟨hf,ht,hx⟩:=hm
      subst ht
      simp only[]at hx
      subst hx
      have h6':t2=t':=h6
      subst h6'
      rw[h7]
      obtain⟨g1,g2⟩:=h5
      rcases g2 with⟨g2,g3⟩|⟨b,cap,g2,g3,g4,g5,g6,g7⟩
      ·exact .inl ⟨by simp only[kT,h3]at g2;exact g2,g3⟩
      ·simp only[kT,h3]at g2
       rcases hr with⟨q1,_⟩|⟨b',cap',q1,q2,q3,q4,_⟩
       ·simp only[]at q1;rw[g2]at q1;cases q1
       ·simp only[]at q1 q2 q4
        rw[g2]at q1;cases q1
        refine .inr ⟨b,cap,g2,λhd=>q2 (by cases d<;>simp_all),g3,⟨?_,λhff=> .inl (q4.2 hff)⟩,g4,g5,g6,λi' e j c he hc=> ?_⟩
        ·rintro(hb|hb)
         ·exact q4.1 hb
         ·have:=(hJn b hb).1
          have:=(h.blk (by rw[h4];simp) g2).2
          omega
        ·obtain⟨u,hu,hru⟩:=g7 i' e j c he hc
         refine⟨u,hu, ?_⟩
         cases hsl:jI t2 with
         |true=>cases d<;>exact hru
         |false=>
          refine hru.anyJ ?_
          rintro t3 zs rfl
          rw[lU hc]at hsl;cases hsl
   |dar t2 ys=>
    cases h22:p.2.2 with
    |box _=>
     rw[h22]at hm
     cases h21:p.2.1 with
     |box _=>rw[h21]at h6;exact h6.elim
     |arr _ _=>rw[h21]at h6;exact h6.elim
     |dar _ _=>rw[h21]at hm;exact hm.elim
    |arr _ _ _ _ _=>
     rw[h22]at hm
     cases h21:p.2.1 with
     |box _=>rw[h21]at h6;exact h6.elim
     |arr _ _=>rw[h21]at h6;exact h6.elim
     |dar _ _=>rw[h21]at hm;exact hm.elim
    |dar t xs v iv=>
     rw[h22]at h7
     rw[h7]
     have hx:=λb cap (g:M i=some (b,cap))=>m7.2 ⟨p,List.mem_of_getElem? h1,.inl ⟨cap,by rw[h3];exact g⟩⟩
     obtain⟨g1,g2,_,_⟩:=h5
     have hin:(kT M p).inn=M.n i:=by simp only[kT,B0,h22,h3]
     rw[hin]at g2
     rcases g2 with⟨g2,g3⟩|⟨b,cap,g2,g3,g4,g5,g6,g7⟩
     ·exact .inl ⟨by simp only[kT,h3]at g2;exact g2,g3⟩
     ·simp only[kT,h3]at g2
      refine .inr ⟨b,cap,g2,g3, ?_,g4,g5,g6,g7⟩
      rintro(hb|hb)
      ·exact hXI b (hx b cap g2) hb
      ·have:=(hJn b hb).1
       have:=(h.blk (by rw[h4];simp) g2).2
       omega
 ·intro i j b c c' hi hj hb hb'
  exact h.inj i j b c c' (hold i hi) (hold j hj) hb hb'
theorem I9 (h:SimX w0 mo n I0 (λb=>I b∨Jn b) M s a w')(hw:w0.heap.size≤w.heap.size)(hilt:∀b,I b→b<w.heap.size)(hblk:∀id b c,s.obj id≠none→M id=some (b,c)→b<w.heap.size){base:Nat}{mm:MF}(hJn:∀b,Jn b→w.heap.size≤b∧b<w'.heap.size)
  (hvl:∀id i j b c,isDar (s.obj id)=true→M.n id i j=some (b,c)→b<w.heap.size)(hinj:MmOk mm w.heap.size)(hmm:∀i b c,mm i=some (b,c)→w.heap.size≤b){R:cS}{v:Value}(hR:nG w.heap.size I Jn w' mm R v)
  (hid:∀id,base≤id→id<base+pz R→s.obj id=none):
  ∃M',SimX w0 mo n I0 (λb=>I b∨Jn b) M' ⟨s.tmp,kC s.obj base (dF base R).2⟩ a w'∧hU ⟨w0.heap.size,I0,λb=>I b∨Jn b,M',kC s.obj base (dF base R).2,w'⟩ (Bm (dF base R).1) v:=by
 have hfr:Free ⟨s.tmp,s.obj⟩ M mm 0:=by
  refine⟨λi id b c c' _ ho hM hm=> ?_,λi id j l b c c' _ ho hM hm=> ?_,λi j l id b c c' _ ho hM hm=> ?_,λi j l id j' l' b c c' _ ho hM hm=> ?_⟩
  ·have:=hblk id b c ho hM;have:=hmm i b c' hm;omega
  ·have:=hvl id j l b c ho hM;have:=hmm i b c' hm;omega
  ·have:=hblk id b c ho hM;have:=hinj.vlo i j l b c' hm;omega
  ·have:=hvl id j' l' b c ho hM;have:=hinj.vlo i j l b c' hm;omega
 have hIN:∀b,w.heap.size≤b→(I b∨Jn b)→Jn b:=by
  rintro b hb (h1|h1)
  ·have:=hilt b h1;omega
  ·exact h1
 have hJn':∀b,Jn b→(I b∨Jn b)∧w0.heap.size≤b:=λb hb=>⟨.inr hb,Nat.le_trans hw (hJn b hb).1⟩
 have hmain:∀vs,rj w.heap.size I Jn w' mm 0 R vs→∃M',SimX w0 mo n I0 (λb=>I b∨Jn b) M' ⟨s.tmp,kC s.obj base (dF base R).2⟩ a w'∧
   ar (λp u=>iQ ⟨w0.heap.size,I0,λb=>I b∨Jn b,M',kC s.obj base (dF base R).2,w'⟩ p.1 p.2 u) (dF base R).1 vs:=by
  intro vs hvs
  obtain⟨M',_,h2,h3⟩:=ER (base:=base) (k:=0) hinj hw hIN (λb hb=> .inl hb) hJn' h hvs hfr hid
  exact⟨M',h2,h3⟩
 match R,hR,hmain with
 |[r],hR,hmain=>
  obtain⟨M',h2,h3⟩:=hmain [v] ⟨hR,trivial⟩
  obtain⟨ag,mu⟩:=r
  rw[sg]at h2 h3⊢
  exact⟨M',h2,h3.1⟩
 |[],hR,hmain=>
  obtain⟨us,rfl,hu⟩:=hR
  obtain⟨M',h2,h3⟩:=hmain _ hu
  exact⟨M',h2,us,rfl,h3⟩
 |r1::r2::rs,hR,hmain=>
  obtain⟨us,rfl,hu⟩:=hR
  obtain⟨M',h2,h3⟩:=hmain _ hu
  exact⟨M',h2,us,rfl,h3⟩
end
section
variable {α:Type} {C:Nat→List PV→List MO→cS→List MO→Prop} {w0:World} {mo:gj} {n:Nat} {I0 I:Nat→Prop} {M:MF} {s:FSt} {a:Act} {w:World} {te:TE} {P:Program} {base:Nat} {o:Oper}
def Av (x:Cx)(u:List (Nat×Ob))(W:List (Nat×MO×Ob))(A:PV)(v:Value):Prop:=
 ∀x' mo,Ext x x'→x'.w=x.w→u9 x x' u→(∀(k:Nat) m,(br x.M W)[k]? =some m→mo[k]? =some m)→ia mo x'.I x'.w A v
theorem RepC.ofPv {x:Cx}{d:Bool}{w:World}{c:Cell}{v:Value}(h:RepC (x.J (pX d)) w c v):RepC x.I w c v:=by
 cases d with
 |true=>exact h.mono (λ_ _=>rfl) λb hb=>hb.1
 |false=>exact h
theorem Eu (h:SimX w0 mo n I0 I M s a w){ti:TI}{d:DV}{v:Value}(hd:hU (ax w0 I0 I M s w) d v){k:PV→List (Nat×Ob)→Rd α}{e:α}(hr:aU C s (NG ti d k) e):
  ∃A u,Av (ax w0 I0 I M s w) u [] A v∧cW s u∧aU C s (k A u) e:=by
 unfold NG at hr
 split at hr
 ·rename_i f
  refine⟨_,_,λx' mo' hext hw _ _=> ?_,by simp[cW],hr⟩
  obtain⟨c,hc,hv⟩:=hd
  cases hc
  obtain⟨us,hv,hu⟩:=hv
  refine⟨us,hv, ?_⟩
  generalize us.toList=l at hu
  cases l with
  |nil=>trivial
  |cons _ _=>exact hu.elim
 ·rename_i ag cs _
  obtain⟨xs,d',u,hlay,hfz,hr⟩:=mP h (vq hd) hr
  refine⟨_,_,λx' mo' hext hw hb _=> ?_,hfz,hr⟩
  have hall:=kb.get hlay hext hw hb
  cases ag with
  |true=>
   obtain⟨us,rfl,_⟩:=hd
   exact⟨us,rfl,hall.mono λ_ _ hh=>RepC.ofPv hh⟩
  |false=>
   simp only[Bool.false_eq_true,if_false]at hall
   match xs,hall with
   |[c],hall=>exact⟨c,rfl,RepC.ofPv hall.1⟩
   |[],hall=>exact hall.elim
   |_::_::_,hall=>exact hall.2.elim
 ·exact hr.fail.elim
theorem Av.mono {x:Cx}{u u':List (Nat×Ob)}{W W':List (Nat×MO×Ob)}{A:PV}{v:Value}(h:Av x u W A v)(hu:∀p∈u,p∈u')(hW:∀(k:Nat) p,W[k]? =some p→W'[k]? =some p):Av x u' W' A v:=
 λx' mo' hext hw hb hm=>h x' mo' hext hw (hb.sub hu) λk m hk=>hm k m (by
  obtain⟨p,hp,rfl⟩:=fy hk
  simp only[br,List.getElem?_map,hW k p hp,Option.map_some])
def u3 (x:Cx)(W:List (Nat×MO×Ob))(c:MC)(v:Value):Prop:=
 ∀x' mo,Ext x x'→x'.w=x.w→(∀(k:Nat) m,(br x.M W)[k]? =some m→mo[k]? =some m)→jH mo x'.I x'.w c v
theorem u3.mono {x:Cx}{W W':List (Nat×MO×Ob)}{c:MC}{v:Value}(h:u3 x W c v)(hW:∀(k:Nat) p,W[k]? =some p→W'[k]? =some p):u3 x W' c v:=
 λx' mo' hext hw hm=>h x' mo' hext hw λk m hk=>hm k m (by
  obtain⟨p,hp,rfl⟩:=fy hk
  simp only[br,List.getElem?_map,hW k p hp,Option.map_some])
theorem fR {β:Type}{l r:List β}{k:Nat}{b:β}(h:l[k]? =some b):(l++r)[k]? =some b:=by
 rw[List.getElem?_append_left (List.getElem?_eq_some_iff.1 h).1];exact h
theorem p5.snoc {x:Cx}{W:List (Nat×MO×Ob)}{p:Nat×MO×Ob}(h:p5 x W)(hn:p.1∉W.map (·.1))(hm:M9 x W p):p5 x (W++[p]):=by
 refine⟨?_,λq hq=> ?_⟩
 ·rw[List.map_append,List.nodup_append]
  refine⟨h.1,by simp,λa ha b hb=> ?_⟩
  simp only[List.map_cons,List.map_nil,List.mem_singleton]at hb
  subst hb
  rintro rfl
  exact hn ha
 ·rcases List.mem_append.1 hq with hq|hq
  ·exact(h.2 q hq).mono λ_ _ hp=>fR hp
  ·rw[List.mem_singleton]at hq
   subst hq
   exact hm.mono λ_ _ hp=>fR hp
theorem AX (_h:SimX w0 mo n I0 I M s a w){id ver:Nat}{v:Value}(hc:aA (ax w0 I0 I M s w) (.own id ver) v){W:List (Nat×MO×Ob)}(hW:p5 (ax w0 I0 I M s w) W){k:MC→List (Nat×MO×Ob)→Rd α}{e:α}(hr:aU C s (Ku id ver W k) e):
  ∃x V,u3 (ax w0 I0 I M s w) (W++V) x v∧p5 (ax w0 I0 I M s w) (W++V)∧IV (W++V) (.own id ver) x∧aU C s (k x (W++V)) e:=by
 obtain⟨ob,hob,hr⟩:=hr.get
 cases ob with
 |box _=>exact hr.fail.elim
 |dar _ _ _ _=>exact hr.fail.elim
 |arr t xs ver' fz d=>
  obtain⟨hg,hr⟩:=hr.guard
  simp only[Bool.and_eq_true,Bool.not_eq_true']at hg
  obtain⟨⟨hv,hfz⟩,hmem⟩:=hg
  obtain⟨t1,xs1,v1,f1,d1,h1,h2,h3,h4⟩:=hc
  simp only[]at h1 h3
  rw[hob]at h1;cases h1
  have hval:=h3 (Nat.eq_of_beq_eq_true hv)
  refine⟨_,[(id,.arr t xs,.arr t xs ver' fz d)],λx' mo' hext hw hm=> ?_,hW.snoc ?_ ⟨hob,hfz,rfl,rfl⟩, ?_,hr⟩
  ·refine⟨kT M (id,.arr t xs,.arr t xs ver' fz d),hm W.length _ ?_,hval⟩
   simp[br]
  ·intro hc
   rw[fW.2 hc]at hmem;cases hmem
  ·refine⟨id,ver,t,xs,d,rfl, ?_⟩
   rw[←Nat.eq_of_beq_eq_true hv,hfz]
   simp
theorem Hs (_h:SimX w0 mo n I0 I M s a w){id ver:Nat}{v:Value}(hc:aA (ax w0 I0 I M s w) (.down id ver) v){W:List (Nat×MO×Ob)}(hW:p5 (ax w0 I0 I M s w) W){k:MC→List (Nat×MO×Ob)→Rd α}{e:α}(hr:aU C s (KQ id ver W k) e):
  ∃x V,u3 (ax w0 I0 I M s w) (W++V) x v∧p5 (ax w0 I0 I M s w) (W++V)∧aU C s (k x (W++V)) e:=by
 obtain⟨ob,hob,hr⟩:=hr.get
 cases ob with
 |box _=>exact hr.fail.elim
 |arr _ _ _ _ _=>exact hr.fail.elim
 |dar t xs ver' iv=>
  obtain⟨hg,hr⟩:=hr.guard
  simp only[Bool.and_eq_true,Bool.not_eq_true']at hg
  obtain⟨hv,hmem⟩:=hg
  obtain⟨_,o2,ho2,hd⟩:=hc
  simp only[]at ho2
  rw[hob]at ho2;cases ho2
  have hval:=hd.2 (Nat.eq_of_beq_eq_true hv)
  refine⟨_,[(id,.dar t xs,.dar t xs ver' iv)],λx' mo' hext hw hm=> ?_,hW.snoc ?_ ⟨hob,rfl,rfl⟩,hr⟩
  ·refine⟨kT M (id,.dar t xs,.dar t xs ver' iv),hm W.length _ ?_,hval⟩
   simp[br]
  ·intro hc
   rw[fW.2 hc]at hmem;cases hmem
theorem xH (h:SimX w0 mo n I0 I M s a w):∀{cs:List DC} {W:List (Nat×MO×Ob)},(∀c∈cs,∃v,aA (ax w0 I0 I M s w) c v)→p5 (ax w0 I0 I M s w) W→∀{k:List MC→List (Nat×MO×Ob)→Rd α} {e:α},aU C s (uY cs W k) e→
  ∃xs V,p5 (ax w0 I0 I M s w) (W++V)∧ar (IV (W++V)) cs xs∧aU C s (k xs (W++V)) e
 |[],W,_,hW,k,e,hr=>⟨[],[],by simpa using hW,trivial,by simpa [uY]using hr⟩
 |c::cs,W,hcs,hW,k,e,hr=>by
  have hpure:∀x,ff [c]=some [x]→aU C s (uY cs W λxs W=>k (.c x::xs) W) e→∃xs V,p5 (ax w0 I0 I M s w) (W++V)∧ar (IV (W++V)) (c::cs) xs∧aU C s (k xs (W++V)) e:=by
   intro x hx hr
   obtain⟨xs,V,h1,h2,h3⟩:=xH h (λc hc=>hcs c (List.mem_cons_of_mem _ hc)) hW hr
   exact⟨.c x::xs,V,h1,⟨hx,h2⟩,h3⟩
  cases c with
  |bool b=>exact hpure _ rfl hr
  |int kk m=>exact hpure _ rfl hr
  |str b=>exact hpure _ rfl hr
  |raw b=>exact hr.fail.elim
  |sl p t ys=>exact hpure _ rfl hr
  |own id ver=>
   obtain⟨v,hv⟩:=hcs _ (List.mem_cons_self)
   simp only[uY]at hr
   obtain⟨x,V,_,hV,hin,hr⟩:=AX h hv hW hr
   obtain⟨xs,V',h1,h2,h3⟩:=xH h (λc hc=>hcs c (List.mem_cons_of_mem _ hc)) hV hr
   refine⟨x::xs,V++V',by rw[←List.append_assoc];exact h1,⟨?_,by rw[←List.append_assoc];exact h2⟩,by rw[←List.append_assoc];exact h3⟩
   rw[←List.append_assoc]
   exact hin.mono λ_ _ hp=>fR hp
  |nil=>exact hr.fail.elim
  |ptr _ _=>exact hr.fail.elim
  |eptr _ _ _ _=>exact hr.fail.elim
  |vw _ _ _ _=>exact hr.fail.elim
  |dptr _ _ _ _=>exact hr.fail.elim
  |down _ _=>exact hr.fail.elim
  |inn _ _ _ _=>exact hr.fail.elim
  |iptr _ _ _ _ _ _=>exact hr.fail.elim
  |bsl _=>exact hr.fail.elim
  |ref _ _=>exact hr.fail.elim
  |fn _ _=>exact hr.fail.elim
  |slx _ _=>exact hr.fail.elim
  |undef=>exact hr.fail.elim
  |skipped=>exact hr.fail.elim
theorem Bg (h:SimX w0 mo n I0 I M s a w){id:Nat}{v:Value}(hc:aA (ax w0 I0 I M s w) (.ptr id 0) v){W:List (Nat×MO×Ob)}(hW:p5 (ax w0 I0 I M s w) W){k:Nat→List (Nat×MO×Ob)→Rd α}{e:α}(hr:aU C s (Kc id W k) e):
  ∃j V,u3 (ax w0 I0 I M s w) (W++V) (.ptr j) v∧p5 (ax w0 I0 I M s w) (W++V)∧aU C s (k j (W++V)) e:=by
 obtain⟨ob,hob,hr⟩:=hr.get
 cases ob with
 |arr _ _ _ _ _=>exact hr.fail.elim
 |dar _ _ _ _=>exact hr.fail.elim
 |box cs=>
  have hro:=h.objs id _ hob
  obtain⟨b0,_,_,_,_,hcells,_⟩:=hro
  obtain⟨xs,V,hV,hin,hr⟩:=xH h (λc hc=>by
   obtain⟨j,hj⟩:=List.getElem?_of_mem hc
   obtain⟨u,_,hu,_⟩:=hcells j c hj
   exact⟨u,hu⟩) hW hr
  obtain⟨hg,hr⟩:=hr.guard
  obtain⟨cs',b,h1,h2,h3⟩:=hc
  simp only[]at h1 h2
  refine⟨(W++V).length,V++[(id,.box xs,.box cs)],λx' mo' hext hw hm=> ?_, ?_, ?_⟩
  ·refine⟨kT M (id,.box xs,.box cs),b,hm (W++V).length _ ?_,h2,h3⟩
   simp[br]
  ·rw[←List.append_assoc]
   refine hV.snoc (p:=(id,.box xs,.box cs)) ?_ ⟨hob,hin⟩
   intro hc
   rw[fW.2 hc]at hg;cases hg
  ·rw[←List.append_assoc];exact hr
theorem vm (h:SimX w0 mo n I0 I M s a w):∀{ids:List Nat} {us:List Value} {W:List (Nat×MO×Ob)},ar (λid u=>∃cs b,s.obj id=some (.box cs)∧M id=some (b,0)∧u= .pointer (some ⟨b,0,none⟩)) ids us→p5 (ax w0 I0 I M s w) W→∀{k:List Nat→List (Nat×MO×Ob)→Rd α} {e:α},aU C s (BX ids W k) e→
  ∃js V,ar (λj u=>u3 (ax w0 I0 I M s w) (W++V) (.ptr j) u) js us∧p5 (ax w0 I0 I M s w) (W++V)∧aU C s (k js (W++V)) e
 |[],[],W,_,hW,k,e,hr=>⟨[],[],trivial,by simpa using hW,by simpa [BX]using hr⟩
 |id::ids,u::us,W,hall,hW,k,e,hr=>by
  obtain⟨j,V,h1,h2,hr⟩:=Bg h (v:=u) hall.1 hW hr
  obtain⟨js,V',h3,h4,hr⟩:=vm h hall.2 h2 hr
  refine⟨j::js,V++V',⟨?_, ?_⟩, ?_, ?_⟩
  ·rw[←List.append_assoc];exact h1.mono λk p hp=>fR hp
  ·rw[←List.append_assoc];exact h3
  ·rw[←List.append_assoc];exact h4
  ·rw[←List.append_assoc];exact hr
 |[],_::_,_,hall,_,_,_,_=>hall.elim
 |_::_,[],_,hall,_,_,_,_=>hall.elim
theorem yV (h:SimX w0 mo n I0 I M s a w){f:Fl}{c:DC}{v:Value}(hc:aA (ax w0 I0 I M s w) c v){W:List (Nat×MO×Ob)}(hW:p5 (ax w0 I0 I M s w) W){k:MC→List (Nat×MO×Ob)→Rd α}{e:α}(hr:aU C s (ki f c W k) e):
  ∃x V,u3 (ax w0 I0 I M s w) (W++V) x v∧p5 (ax w0 I0 I M s w) (W++V)∧aU C s (k x (W++V)) e:=by
 cases c with
 |bool b=>simp only[aA]at hc;rw[hc];exact⟨.c (.bool b),[],λ_ _ _ _ _=>RepC.bool b,by simpa using hW,by simpa [ki]using hr⟩
 |int k' m=>rw[hc.1];exact⟨.c (.int k' m),[],λ_ _ _ _ _=>RepC.int _ _ hc.2,by simpa using hW,by simpa [ki]using hr⟩
 |str b=>obtain⟨b',rfl,rfl,hl⟩:=hc;exact⟨.c (.str _),[],λ_ _ _ _ _=>RepC.str b' hl,by simpa using hW,by simpa [ki]using hr⟩
 |raw b=>exact hr.fail.elim
 |nil=>
  simp only[aA]at hc
  rw[hc]
  cases f with
  |sl t=>exact⟨.c (.sl t []),[],λ_ _ _ _ _=>RepC.nil t,by simpa using hW,by simpa [ki]using hr⟩
  |_=>exact hr.fail.elim
 |own id ver=>
  simp only[ki]at hr
  obtain⟨x,V,h1,h2,_,h3⟩:=AX h hc hW hr
  exact⟨x,V,h1,h2,h3⟩
 |ptr id off=>
  cases off with
  |succ _=>exact hr.fail.elim
  |zero=>
   simp only[ki]at hr
   obtain⟨j,V,h1,h2,h3⟩:=Bg h hc hW hr
   exact⟨_,V,h1,h2,h3⟩
 |sl p t xs=>
  refine⟨.c (.sl t xs),[],λx' mo' hext hw hm=> ?_,by simpa using hW,by simpa [ki]using hr⟩
  have h1:=RepC.ext hext hc
  refine h1.mono (λ_ _=>rfl) λb hb=> ?_
  cases p with
  |arg=>exact hext.i b (hext.i00 b (by rw[←hext.i0];exact hb))
  |new=>exact hb.1
  |any=>exact hb
 |eptr _ _ _ _=>exact hr.fail.elim
 |vw _ _ _ _=>exact hr.fail.elim
 |dptr _ _ _ _=>exact hr.fail.elim
 |inn _ _ _ _=>exact hr.fail.elim
 |iptr _ _ _ _ _ _=>exact hr.fail.elim
 |down id ver=>
  simp only[ki]at hr
  exact Hs h hc hW hr
 |bsl _=>exact hr.fail.elim
 |ref _ _=>exact hr.fail.elim
 |fn _ _=>exact hr.fail.elim
 |slx _ _=>exact hr.fail.elim
 |undef=>exact hr.fail.elim
 |skipped=>exact hr.fail.elim
theorem wa (h:SimX w0 mo n I0 I M s a w):∀{fs:List Fl} {cs:List DC} {us:List Value},ar (λc u=>aA (ax w0 I0 I M s w) c u) cs us→∀{W:List (Nat×MO×Ob)},p5 (ax w0 I0 I M s w) W→∀{k:List MC→List (Nat×MO×Ob)→Rd α} {e:α},aU C s (wC fs cs W k) e→
  ∃xs V,ar (u3 (ax w0 I0 I M s w) (W++V)) xs us∧p5 (ax w0 I0 I M s w) (W++V)∧aU C s (k xs (W++V)) e
 |[],[],[],_,W,hW,k,e,hr=>⟨[],[],trivial,by simpa using hW,by simpa [wC]using hr⟩
 |f::fs,c::cs,u::us,hall,W,hW,k,e,hr=>by
  obtain⟨x,V,hx,hV,hr⟩:=yV h hall.1 hW hr
  obtain⟨xs,V',hxs,hV',hr⟩:=wa h hall.2 hV hr
  refine⟨x::xs,V++V',⟨?_, ?_⟩, ?_, ?_⟩
  ·rw[←List.append_assoc];exact hx.mono λk p hp=>fR hp
  ·rw[←List.append_assoc];exact hxs
  ·rw[←List.append_assoc];exact hV'
  ·rw[←List.append_assoc];exact hr
 |[],_::_,_,_,_,_,_,_,hr=>hr.fail.elim
 |_::_,[],_,_,_,_,_,_,hr=>hr.fail.elim
 |_::_,_::_,[],hall,_,_,_,_,_=>hall.elim
 |[],[],_::_,hall,_,_,_,_,_=>hall.elim
theorem NA (h:SimX w0 mo n I0 I M s a w){ti:TI}{d:DV}{v:Value}(hd:hU (ax w0 I0 I M s w) d v){W:List (Nat×MO×Ob)}(hW:p5 (ax w0 I0 I M s w) W){k:PV→List (Nat×MO×Ob)→Rd α}{e:α}(hr:aU C s (Qd ti d W k) e):
  ∃A V,Av (ax w0 I0 I M s w) [] (W++V) A v∧p5 (ax w0 I0 I M s w) (W++V)∧aU C s (k A (W++V)) e:=by
 unfold Qd at hr
 split at hr
 ·rename_i id off
  obtain⟨c,hc,hv⟩:=hd
  cases hc
  obtain⟨x,V,hx,hV,hr⟩:=yV h hv hW hr
  exact⟨.wr false [x],V,λx' mo' hext hw _ hm=>⟨x,rfl,hx x' mo' hext hw hm⟩,hV,hr⟩
 ·rename_i f ids
  obtain⟨c,hc,hv⟩:=hd
  cases hc
  obtain⟨us,hv,hu⟩:=hv
  obtain⟨js,V,hjs,hV,hr⟩:=vm h hu hW hr
  exact⟨.fn f js,V,λx' mo' hext hw _ hm=>⟨us,hv,hjs.mono λ_ _ hh=>hh x' mo' hext hw hm⟩,hV,hr⟩
 ·rename_i ag cs _ _
  obtain⟨xs,V,hxs,hV,hr⟩:=wa h (vq hd) hW hr
  refine⟨.wr ag xs,V,λx' mo' hext hw _ hm=> ?_,hV,hr⟩
  cases ag with
  |true=>
   obtain⟨us,rfl,_⟩:=hd
   exact⟨us,rfl,hxs.mono λ_ _ hh=>⟨hh x' mo' hext hw hm,(hh x' mo' hext hw hm).one⟩⟩
  |false=>
   simp only[Bool.false_eq_true,if_false]at hxs
   match xs,hxs with
   |[c],hxs=>exact⟨c,rfl,hxs.1 x' mo' hext hw hm⟩
   |[],hxs=>exact hxs.elim
   |_::_::_,hxs=>exact hxs.2.elim
 ·exact hr.fail.elim
theorem qx (h:SimX w0 mo n I0 I M s a w):∀{ms:List Bool} {args:List Operand} {tys:List TypeId} {W:List (Nat×MO×Ob)},p5 (ax w0 I0 I M s w) W→∀{k:List PV→List (Nat×Ob)→List (Nat×MO×Ob)→Rd α} {e:α},aU C s (sB te ms args tys W k) e→
  ∃A u V,ar (Av (ax w0 I0 I M s w) u (W++V)) A (args.map a.eval)∧cW s u∧p5 (ax w0 I0 I M s w) (W++V)∧aU C s (k A u (W++V)) e
 |_,[],[],W,hW,k,e,hr=>⟨[],[],[],trivial,by simp[cW],by simpa using hW,by simpa [sB]using hr⟩
 |true::ms,x::xs,t::ts,W,hW,k,e,hr=>by
  simp only[sB]at hr
  obtain⟨d,hd,hr⟩:=eV h hr
  obtain⟨A,V,hA,hV,hr⟩:=NA h hd hW hr
  obtain⟨As,us,V',hAs,hus,hV',hr⟩:=qx h hV hr
  refine⟨A::As,us,V++V',⟨?_, ?_⟩,hus, ?_, ?_⟩
  ·rw[←List.append_assoc];exact hA.mono (by simp) λk p hp=>fR hp
  ·rw[←List.append_assoc];exact hAs
  ·rw[←List.append_assoc];exact hV'
  ·rw[←List.append_assoc];exact hr
 |[],x::xs,t::ts,W,hW,k,e,hr=>by
  simp only[sB]at hr
  split at hr
  ·rename_i ti hl
   obtain⟨d,hd,hr⟩:=eV h hr
   obtain⟨A,u,hA,hu,hr⟩:=Eu h hd hr
   obtain⟨As,us,V',hAs,hus,hV',hr⟩:=qx h hW hr
   exact⟨A::As,u++us,V',⟨hA.mono (λp hp=>List.mem_append_left _ hp) (by simp),hAs.mono λ_ _ hh=>hh.mono (λp hp=>List.mem_append_right _ hp) λ_ _ hp=>hp⟩,hu.append hus,hV',hr⟩
  ·exact hr.fail.elim
 |false::ms,x::xs,t::ts,W,hW,k,e,hr=>by
  simp only[sB]at hr
  split at hr
  ·rename_i ti hl
   obtain⟨d,hd,hr⟩:=eV h hr
   obtain⟨A,u,hA,hu,hr⟩:=Eu h hd hr
   obtain⟨As,us,V',hAs,hus,hV',hr⟩:=qx h hW hr
   exact⟨A::As,u++us,V',⟨hA.mono (λp hp=>List.mem_append_left _ hp) (by simp),hAs.mono λ_ _ hh=>hh.mono (λp hp=>List.mem_append_right _ hp) λ_ _ hp=>hp⟩,hu.append hus,hV',hr⟩
  ·exact hr.fail.elim
 |ms,[],_::_,_,_,_,_,hr=>by cases ms with|nil=>exact hr.fail.elim|cons m _=>cases m<;>exact hr.fail.elim
 |ms,_::_,[],_,_,_,_,hr=>by cases ms with|nil=>exact hr.fail.elim|cons m _=>cases m<;>exact hr.fail.elim
theorem im:∀(k:Nat) (mu:List RC),(aq k mu).2.1.length=cq mu∧(aq k mu).2.2=k+cq mu
 |k,[]=>⟨rfl,rfl⟩
 |k,.c x::r=>im k r
 |k,.own d t xs::r=>by
  have:=im (k+1) r
  refine⟨?_, ?_⟩
  ·show(aq (k+1) r).2.1.length+1=_
   rw[this.1];rfl
  ·show(aq (k+1) r).2.2=_
   rw[this.2];simp only[cq];omega
 |k,.box bs::r=>by
  have:=im (k+1) r
  refine⟨?_, ?_⟩
  ·show(aq (k+1) r).2.1.length+1=_
   rw[this.1];rfl
  ·show(aq (k+1) r).2.2=_
   rw[this.2];simp only[cq];omega
 |k,.shr _ _::r=>im k r
 |k,.dar t xs::r=>by
  have:=im (k+1) r
  refine⟨?_, ?_⟩
  ·show(aq (k+1) r).2.1.length+1=_
   rw[this.1];rfl
  ·show(aq (k+1) r).2.2=_
   rw[this.2];simp only[cq];omega
theorem vd:∀(R:cS) (k:Nat),(dF k R).2.length=pz R
 |[],_=>rfl
 |(ag,mu)::R,k=>by
  rw[sg]
  simp only[List.length_append,pz,(im k mu).1,vd R]
theorem mE:∀{cs:List DC} {xs:List Cell},ff cs=some xs→∀{j:Nat} {x:Cell},xs[j]? =some x→∃c,cs[j]? =some c∧∀(X:Cx) (u:Value),(∀b,X.I0 b→X.I b)→aA X c u→RepC X.I X.w x u
 |[],[],_,j,x,hj=>by simp at hj
 |[],_::_,h,_,_,_=>by simp[ff]at h
 |c::cs,ys,h,j,x,hj=>by
  simp only[ff]at h
  split at h
  ·rename_i y zs hy hz
   cases h
   cases j with
   |succ j=>
    simp only[List.getElem?_cons_succ]at hj
    obtain⟨c',h1,h2⟩:=mE hz hj
    exact⟨c',by simpa using h1,h2⟩
   |zero=>
    simp only[List.getElem?_cons_zero,Option.some.injEq]at hj
    subst hj
    refine⟨c,rfl,λX u h00 hr=> ?_⟩
    cases c with
    |bool b=>cases hy;simp only[aA]at hr;rw[hr];exact .bool b
    |int k m=>cases hy;rw[hr.1];exact .int _ _ hr.2
    |str s=>cases hy;obtain⟨b',rfl,rfl,hl⟩:=hr;exact .str b' hl
    |raw s=>cases hy
    |sl p t xs=>
     cases hy
     have hr':RepC (X.J p) X.w (.sl t xs) u:=hr
     cases p with
     |arg=>exact hr'.mono (λ_ _=>rfl) h00
     |new=>exact hr'.mono (λ_ _=>rfl) λb hb=>hb.1
     |any=>exact hr'
    |_=>cases hy
  ·cases h
theorem Nt (h:SimX w0 mo n I0 I M s a w){W:List (Nat×MO×Ob)}(hW:p5 (ax w0 I0 I M s w) W):ar (dk (br M W) I w) (br M W) (W.map (·.2.1)):=by
 refine ar.of W.length (by simp[br]) (by simp) λk m o hm ho=> ?_
 obtain⟨p,hp,rfl⟩:=fy hm
 rw[List.getElem?_map,hp]at ho
 cases ho
 obtain⟨hob,hk⟩:=hW.2 p (List.mem_of_getElem? hp)
 have hr:=h.objs p.1 _ hob
 obtain⟨id,o,ob⟩:=p
 simp only[]at hob hk hr⊢
 cases ob with
 |dar t xs ver iv=>
  cases o with
  |box _=>exact hk.elim
  |arr _ _=>exact hk.elim
  |dar t' xs'=>
   obtain⟨ht,hx⟩:=hk
   subst ht
   simp only[]at hx
   subst hx
   refine⟨rfl, ?_,z8 _,λi j b c hb=>(h.vir.lt id i j b c (by rw[show s.obj id=_ from hob];rfl) hb).2.1⟩
   rcases hr with⟨h1,h2⟩|⟨b,cap,h1,h3,_,h5,h6,h7,h8⟩
   ·exact .inl ⟨h1,h2⟩
   ·exact .inr ⟨b,cap,h1,h3,h5,h6,h7,h8⟩
 |box cs=>
  cases o with
  |arr _ _=>exact hk.elim
  |dar _ _=>exact hk.elim
  |box xs=>
   obtain⟨b,h1,_,h3,h4,h5,h6⟩:=hr
   have hk:ar (IV W) cs xs:=hk
   have hlen:xs.length=cs.length:=hk.length.symm
   refine⟨b,h1,h3,λj c hj=> ?_,λj hj=>h6 j (by omega)⟩
   obtain⟨c',hc',hcc⟩:=ar.atR hk hj
   obtain⟨u,hu,hru,_⟩:=h5 j c' hc'
   refine⟨u,hu, ?_⟩
   cases c with
   |ptr _=>exact hcc.elim
   |down _=>exact hcc.elim
   |c x=>
    obtain⟨c2,hc2,hcc2⟩:=mE (cs:=[c']) (xs:=[x]) hcc (j:=0) rfl
    cases hc2
    exact hcc2 _ u h.i00 hru
   |own k2=>
    obtain⟨id2,ver2,t2,xs2,dp2,rfl,hk2⟩:=hcc
    refine⟨kT M (id2,.arr t2 xs2,.arr t2 xs2 ver2 false dp2),by simp[br,hk2], ?_⟩
    obtain⟨t3,xs3,v3,f3,d3,q1,q2,q3,_⟩:=hru
    have q4:=(hW.2 _ (List.mem_of_getElem? hk2)).1
    simp only[]at q1 q3 q4
    rw[q4]at q1
    cases q1
    exact q3 rfl
 |arr t xs ver f d=>
  cases o with
  |box _=>exact hk.elim
  |dar _ _=>exact hk.elim
  |arr t' xs'=>
   obtain⟨hf,ht,hx⟩:=hk
   subst ht
   simp only[]at hx
   subst hx
   refine⟨rfl, ?_⟩
   rcases hr with⟨h1,h2⟩|⟨b,cap,h1,_,h3,_,h5,h6,h7,h8⟩
   ·exact .inl ⟨h1,h2⟩
   ·refine .inr ⟨b,cap,h1,h3,h5,h6,h7,λi e j c he hc=> ?_⟩
    obtain⟨u,hu,hru⟩:=h8 i e j c he hc
    exact⟨u,hu,RepC.ofPv hru⟩
theorem M3 (h:SimX w0 mo n I0 I M s a w){W:List (Nat×MO×Ob)}(hW:p5 (ax w0 I0 I M s w) W):MtsOk (br M W) (W.map (·.2.1)):=by
 have huniq:∀(i j:Nat) (p q:Nat×MO×Ob),W[i]? =some p→W[j]? =some q→p.1=q.1→i=j:=by
  intro i j p q hp hq he
  obtain⟨hl1,he1⟩:=List.getElem?_eq_some_iff.1 hp
  obtain⟨hl2,he2⟩:=List.getElem?_eq_some_iff.1 hq
  have e1:(W.map (·.1))[i]'(by simpa using hl1)=(W.map (·.1))[j]'(by simpa using hl2):=by simp[he1,he2,he]
  exact(List.getElem_inj hW.1).1 e1
 have hob:∀{i:Nat} {p:Nat×MO×Ob},W[i]? =some p→s.obj p.1=some p.2.2:=λhp=>(hW.2 _ (List.mem_of_getElem? hp)).1
 refine⟨λk m o hi ho hd i j=> ?_,λi j b c c' m m' hi hj h1 h2=> ?_,λi i' j j' k k' b c c' m m' hi hj h1 h2=> ?_,λi i' j k b c c' m m' hi hj h1 h2=> ?_⟩
 ·obtain⟨p,hp,rfl⟩:=fy hi
  rw[List.getElem?_map,hp]at ho
  cases ho
  have hm:=(hW.2 p (List.mem_of_getElem? hp)).2
  obtain⟨id,o1,o2⟩:=p
  cases o2 with
  |box _=>rfl
  |arr _ _ _ _ _=>rfl
  |dar _ _ _ _=>cases o1 with
   |box _=>exact hm.elim
   |arr _ _=>exact hm.elim
   |dar _ _=>cases hd
 ·obtain⟨p,hp,rfl⟩:=fy hi
  obtain⟨q,hq,rfl⟩:=fy hj
  exact huniq i j p q hp hq (h.inj p.1 q.1 b c c' (by rw[hob hp];simp) (by rw[hob hq];simp) h1 h2)
 ·obtain⟨p,hp,rfl⟩:=fy hi
  obtain⟨q,hq,rfl⟩:=fy hj
  obtain⟨d1,g1⟩:=jk h1
  obtain⟨d2,g2⟩:=jk h2
  obtain⟨e1,e2⟩:=h.vir.inj p.1 q.1 j j' k k' b c c' (by rw[hob hp];exact d1) (by rw[hob hq];exact d2) g1 g2
  exact⟨huniq i i' p q hp hq e1,e2⟩
 ·obtain⟨p,hp,rfl⟩:=fy hi
  obtain⟨q,hq,rfl⟩:=fy hj
  obtain⟨d1,g1⟩:=jk h1
  exact h.vir.dis p.1 q.1 j k b c c' (by rw[hob hp];exact d1) (by rw[hob hq];simp) g1 h2
theorem Ov (h:SimX w0 mo n I0 I M s a w){W:List (Nat×MO×Ob)}(hW:p5 (ax w0 I0 I M s w) W)(b:Nat)(hb:(br M W).X b):¬gB b:=by
 intro hg
 obtain⟨p,hp,hc⟩:=m7.1 hb
 have ho:s.obj p.1=some p.2.2:=(hW.2 p hp).1
 rcases hc with⟨c,hc⟩|⟨i,j,c,hc⟩
 ·rcases h.own p.1 b c (by rw[ho];simp) hc with h1|h1
  ·have:=h.gw.lt hg;omega
  ·exact h.gx b h1.x hg
 ·obtain⟨d1,g1⟩:=jk hc
  rcases(h.vir.lt p.1 i j b c (by rw[ho];exact d1) g1).1 with h1|h1
  ·have:=h.gw.lt hg;omega
  ·exact h.gx b h1.x hg
theorem dk.mono {mo:gj}{J J':Nat→Prop}{w:World}{m:Mt}{o:MO}(h:dk mo J w m o)(hJ:o.shares=true→∀b,J b→J' b):dk mo J' w m o:=by
 cases o with
 |dar t xs=>exact h
 |box cs=>
  obtain⟨b,h1,h2,h3,h4⟩:=h
  refine⟨b,h1,h2,λj c hc=> ?_,h4⟩
  obtain⟨u,hu,hr⟩:=h3 j c hc
  refine⟨u,hu, ?_⟩
  cases c with
  |own _=>exact hr
  |ptr _=>exact hr
  |down _=>exact hr
  |c c=>
  have hr:RepC J w c u:=hr
  show RepC J' w c u
  cases hsh:(MO.box cs).shares with
  |true=>exact hr.mono (λ_ _=>rfl) (hJ hsh)
  |false=>
   refine hr.anyJ ?_
   rintro t xs rfl
   simp only[MO.shares,List.any_eq_false]at hsh
   exact hsh _ (List.mem_of_getElem? hc) rfl
 |arr t xs=>
  obtain⟨h2,h3⟩:=h
  refine⟨h2, ?_⟩
  rcases h3 with h3|⟨b,cap,g1,g2,g3,g4,g5,g6⟩
  ·exact .inl h3
  ·refine .inr ⟨b,cap,g1,g2,g3,g4,g5,λi e j c he hc=> ?_⟩
   obtain⟨u,hu,hr⟩:=g6 i e j c he hc
   refine⟨u,hu, ?_⟩
   cases hsl:jI t with
   |true=>exact hr.mono (λ_ _=>rfl) (hJ hsl)
   |false=>
    refine hr.anyJ ?_
    rintro t3 zs rfl
    rw[lU hc]at hsl;cases hsl
theorem ar.memMono {β γ:Type}{R R':β→γ→Prop}:∀{as:List β} {bs:List γ},(∀a b,b∈bs→R a b→R' a b)→ar R as bs→ar R' as bs
 |[],[],_,_=>trivial
 |a::as,b::bs,h,hh=>⟨h a b (by simp) hh.1,ar.memMono (λa b hb=>h a b (List.mem_cons_of_mem _ hb)) hh.2⟩
 |[],_::_,_,h=>h.elim
 |_::_,[],_,h=>h.elim
theorem E3 {u:List (Nat×Ob)}{W:List (Nat×MO×Ob)}{R:cS}{O':List MO}(h:Em R=true):
  sF base u W R O'= .ret ⟨Bm (dF base R).1,(dF base R).2,(if R.any (λr=>r.2.any RC.shares)||O'.any MO.shares then u else[])++aJ W O'⟩:=by
 unfold sF
 split
 ·cases h
 ·rfl
theorem SimX.cut (h:SimX w0 mo n I0 I M s a w){id:Nat}{t:Ty}{xs:List t.T}{v k v' k' cn:Nat}(ho:s.obj id=some (.dar t xs v k))(hv:v<v')(hk:k<k')(hn:cn≤xs.length){val:Value}(hval:aM (M id) cn val):
  ∃M',SimX w0 mo n I0 I M' ⟨s.tmp,af s.obj id (.dar t (xs.take cn) v' k')⟩ a w∧aA ⟨w0.heap.size,I0,I,M',af s.obj id (.dar t (xs.take cn) v' k'),w⟩ (.down id v') val:=by
 have hd:isDar (s.obj id)=true:=by rw[ho];rfl
 have hl:s.obj id≠none:=by rw[ho];simp
 obtain⟨_,hs⟩:=h.dput (id:=id) (t':=t) (xs':=xs.take cn) (ver':=v') (iv':=k') (m:=M id) (n':=M.n id) (w':=w) (by rw[ho];exact⟨Nat.le_of_lt hv,Nat.le_of_lt hk,λe=>by omega,λe=>by omega⟩)
  (λ_ _ _=>rfl) (Nat.le_refl _) rfl rfl rfl (λb c hb=> .inr ⟨hl,c,hb⟩) (λi j b c hb=> .inr ⟨hl,i,j,c,hb⟩) (λi j i' j' b c c' h1 h2=>(h.vir.inj id id i i' j j' b c c' hd hd h1 h2).2) (λi j b c c' h1 h2=>h.vir.dis id id i j b c c' hd hl h1 h2) (λ_=>by
   rcases h.objs id _ ho with⟨g1,g2⟩|⟨b,cap,g1,g2,g3,g4,g5,g6,g7⟩
   ·exact .inl ⟨by simp only[aE,if_pos];exact g1,by rw[g2];simp⟩
   ·refine .inr ⟨b,cap,by simp only[aE,if_pos];exact g1,g2,g3,Nat.le_trans (List.length_take_le' _ _) g4,Nat.le_trans (List.length_take_le' _ _) g5,g6,λi e j c he hc=> ?_⟩
    have hin:xs[i]? =some e:=by
     rw[List.getElem?_take]at he
     split at he
     ·exact he
     ·cases he
    obtain⟨u,hu,hru⟩:=g7 i e j c hin hc
    exact⟨u,hu,by simp only[aE,if_pos];exact hru⟩)
 refine⟨_,hs, ?_,_,(by simp only[af,if_pos]:af s.obj id (.dar t (xs.take cn) v' k') id=some (.dar t (xs.take cn) v' k')),Nat.le_refl _,λ_=> ?_⟩
 ·unfold aM at hval
  split at hval
  ·obtain⟨a,rfl⟩:=hval;rfl
  ·subst hval;rfl
 ·simp only[aE,if_pos]
  rw[List.length_take,Nat.min_eq_left hn]
  exact hval
theorem jH.mts {mo mo':gj}{J:Nat→Prop}{w:World}(hm:∀(k:Nat) m,mo[k]? =some m→∃m':Mt,mo'[k]? =some m'∧m'.1=m.1∧m'.2=m.2){c:MC}{v:Value}(h:jH mo J w c v):jH mo' J w c v:=by
 cases c with
 |c x=>exact h
 |own k=>obtain⟨m,h1,h2⟩:=h;obtain⟨m',h3,h4,h5⟩:=hm k m h1;exact⟨m',h3,by rw[h4,h5];exact h2⟩
 |ptr k=>obtain⟨m,b,h1,h2,h3⟩:=h;obtain⟨m',h4,h5,_⟩:=hm k m h1;exact⟨m',b,h4,by rw[h5];exact h2,h3⟩
 |down k=>obtain⟨m,h1,h2⟩:=h;obtain⟨m',h3,h4,h5⟩:=hm k m h1;exact⟨m',h3,by rw[h4,h5];exact h2⟩
theorem dk.mts {mo mo':gj}{J:Nat→Prop}{w:World}(hm:∀(k:Nat) m,mo[k]? =some m→∃m':Mt,mo'[k]? =some m'∧m'.1=m.1∧m'.2=m.2){m:Mt}{o:MO}(h:dk mo J w m o):dk mo' J w m o:=by
 cases o with
 |box cs=>
  obtain⟨b,h1,h2,h3,h4⟩:=h
  exact⟨b,h1,h2,λj c hj=>by obtain⟨u,hu,hr⟩:=h3 j c hj;exact⟨u,hu,hr.mts hm⟩,h4⟩
 |arr t xs=>exact h
 |dar t xs=>exact h
theorem World.graft (w w':World)(m:Option (Nat×Nat))(hm:∀b c,m=some (b,c)→b<w.heap.size∧b<w'.heap.size):
  ∃w1:World,w1.heap.size=w.heap.size∧w1.os=w.os∧w1.tape=w.tape∧w1.output=w.output∧(∀b,(∀c,m≠some (b,c))→w1.heap[b]? =w.heap[b]?)∧∀b c,m=some (b,c)→w1.heap[b]? =w'.heap[b]? :=by
 cases m with
 |none=>exact⟨w,rfl,rfl,rfl,rfl,λ_ _=>rfl,λ_ _ h=>by cases h⟩
 |some p=>
  obtain⟨b,c⟩:=p
  obtain⟨h1,h2⟩:=hm b c rfl
  refine⟨{w with heap:=w.heap.set b w'.heap[b] h1},by simp,rfl,rfl,rfl,λb' hb=> ?_,λb' c' hb=> ?_⟩
  ·have hne:b≠b':=by rintro rfl;exact hb c rfl
   simp only[]
   simp[Array.getElem?_set,hne]
  ·cases hb
   simp only[]
   simp[Array.getElem?_set,Array.getElem?_eq_getElem h2]
theorem NZ {x:Cx}{W V:List (Nat×MO×Ob)}{id:Nat}{o1:MO}{o2:Ob}(hW:p5 x W)(hWe:W=(id,o1,o2)::V){t:Ty}{xs:List t.T}{Os:List MO}(hsame:ar nW (W.map (·.2.1)) (.dar t xs::Os)):
  ∃(xs0:List t.T) (ver iv:Nat),o1= .dar t xs0∧o2= .dar t xs0 ver iv:=by
 subst hWe
 have h1:=(hW.2 _ List.mem_cons_self).2
 have h2:=hsame.1
 simp only[]at h1 h2
 cases o1 with
 |box _=>exact h2.elim
 |arr _ _=>exact h2.elim
 |dar t1 xs1=>
  cases(h2:t=t1)
  cases o2 with
  |box _=>exact h1.elim
  |arr _ _ _ _ _=>exact h1.elim
  |dar t2 xs2 ver iv=>
   obtain⟨rfl,rfl⟩:=h1
   exact⟨_,ver,iv,rfl,rfl⟩
theorem O9 {x:Cx}{W:List (Nat×MO×Ob)}(hW:p5 x W){O':List MO}(hsame:ar nW (W.map (·.2.1)) O'){k id:Nat}{o1:MO}{o2:Ob}(hWk:W[k]? =some (id,o1,o2)){t:Ty}{xs:List t.T}{ver:Nat}{f d:Bool}(hlk:ac (aJ W O') id=some (.arr t xs ver f d))
  {J:Nat→Prop}{w w':World}{cn:Nat}{v:Value}{M:MF}:¬lw (br M W) J w w' [(false,[.shr k cn])] v O':=by
 intro hd
 cases k with
 |succ k=>exact hd
 |zero=>
 match W,O',hWk,hsame,hW,hlk,hd with
 |[],_,hWk,_,_,_,_=>cases hWk
 |p::V,[],_,_,_,_,hd=>exact hd
 |p::V,.box _::_,_,_,_,_,hd=>exact hd
 |p::V,.arr _ _::_,_,_,_,_,hd=>exact hd
 |p::V,.dar t1 xs1::Os,hWk,hsame,hW,hlk,hd=>
  simp only[List.getElem?_cons_zero,Option.some.injEq]at hWk
  subst hWk
  obtain⟨xs0,ver0,iv0,rfl,rfl⟩:=NZ hW rfl hsame
  simp only[aJ,ac,Nat.beq_refl,qA]at hlk
  cases hlk
theorem N8 (h:SimX w0 mo n I0 I M s a w){u:List (Nat×Ob)}{I1:Nat→Prop}(hs1:SimX w0 mo n I0 I1 M ⟨s.tmp,bx s.obj u⟩ a w){W:List (Nat×MO×Ob)}(hW:p5 (ax w0 I0 I M s w) W)(hW1:p5 (ax w0 I0 I1 M ⟨s.tmp,bx s.obj u⟩ w) W)(hWu:∀p∈W,ac u p.1=none)
  {O':List MO}(hlen:W.length=O'.length)(hsame:ar nW (W.map (·.2.1)) O'){w':World}{Jn:Nat→Prop}{mm:MF}(hB:BelowX w.heap.size (br M W).X w w')(hJn:∀b,Jn b→w.heap.size≤b∧b<w'.heap.size){v:Value}{cn id:Nat}{o1:MO}{o2:Ob}(hWk:W[0]? =some (id,o1,o2))
  {t:Ty}{xs:List t.T}{ver iv:Nat}(hlk:ac (aJ W O') id=some (.dar t xs ver iv))
  (hRO:(iu (br M W) w.heap.size I1 Jn w' mm [(false,[.shr 0 cn])] v∧ar (dk (br M W) (λb=>I1 b∨Jn b) w') (br M W) O')∨lw (br M W) (λb=>I1 b∨Jn b) w w' [(false,[.shr 0 cn])] v O'):
  ∃v' I' M' obj',Ending.returned v= .returned v'∧SimX w0 mo n I0 I' M' ⟨s.tmp,obj'⟩ a w'∧hU ⟨w0.heap.size,I0,I',M',obj',w'⟩ (one (.down id (ver+2))) v'∧
   ∀i,obj' i=(match ac (((if O'.any MO.shares then u else[])++((id,.dar t (xs.take cn) (ver+2) (iv+2))::aJ W O'))++au base []) i with|some o=>some o|none=>s.obj i):=by
 obtain⟨V,rfl⟩:∃V,W=(id,o1,o2)::V:=by
  cases W with
  |nil=>cases hWk
  |cons p V=>simp only[List.getElem?_cons_zero,Option.some.injEq]at hWk;subst hWk;exact⟨V,rfl⟩
 obtain⟨Os,xs0,rfl,rfl,rfl⟩:∃(Os:List MO) (xs0:List t.T),O'= .dar t xs::Os∧o1= .dar t xs0∧o2= .dar t xs0 ver iv:=by
  cases O' with
  |nil=>simp at hlen
  |cons o Os=>
   simp only[aJ,ac,Nat.beq_refl]at hlk
   have h1:=(hW.2 _ List.mem_cons_self).2
   have h2:=hsame.1
   simp only[]at h1 h2
   cases o2 with
   |box _=>cases o<;>cases hlk
   |arr _ _ _ _ _=>cases o<;>cases hlk
   |dar t2 xs2 v2 k2=>
    cases o1 with
    |box _=>exact h1.elim
    |arr _ _=>exact h1.elim
    |dar t1 xs1=>
     obtain⟨rfl,rfl⟩:=h1
     cases o with
     |box _=>exact h2.elim
     |arr _ _=>exact h2.elim
     |dar t3 xs3=>
      cases(h2:t3=t1)
      cases hlk
      exact⟨Os,_,rfl,rfl,rfl⟩
 have hnd:=hW.1
 simp only[List.map_cons,List.nodup_cons]at hnd
 have hlook:∀(ob:Nat→Option Ob) (u':List (Nat×Ob)) (obj2:Nat→Option Ob),(∀p∈(id,(MO.dar t xs0),(Ob.dar t xs0 ver iv))::V,ac u' p.1=none)→(∀i,ob i=(match ac u' i with|some o=>some o|none=>s.obj i))→(∀i,i≠id→obj2 i=bx ob (aJ V Os) i)→
   ∀i,af obj2 id (.dar t (xs.take cn) (ver+2) (iv+2)) i=(match ac ((u'++((id,.dar t (xs.take cn) (ver+2) (iv+2))::aJ ((id,(MO.dar t xs0),(Ob.dar t xs0 ver iv))::V) (.dar t xs::Os)))++au base []) i with|some o=>some o|none=>s.obj i):=by
  intro ob u' obj2 hWn hob ho2 i
  have hVl:V.length=Os.length:=by simpa using hlen
  simp only[bZ,au,ac,af,aJ,qA]
  by_cases hne:i=id
  ·subst hne
   have:=hWn _ List.mem_cons_self
   simp only[]at this
   rw[this]
   simp
  ·have hb:Nat.beq id i=false:=by
    cases hq:Nat.beq id i with
    |true=>exact absurd (Nat.eq_of_beq_eq_true hq).symm hne
    |false=>rfl
   simp only[if_neg hne,hb,ho2 i hne,bx]
   cases hu:ac u' i with
   |some ox=>
    cases hw:ac (aJ V Os) i with
    |some ow=>
     exfalso
     obtain⟨_,p2,_,r1,_,r3,_⟩:=ez hVl hw
     have:=hWn p2 (List.mem_cons_of_mem _ (List.mem_of_getElem? r1))
     rw[r3,hu]at this;cases this
    |none=>simp only[hob,hu]
   |none=>
    cases hw:ac (aJ V Os) i with
    |some ow=>rfl
    |none=>simp only[hob,hu]
 have fin:∀(Is:Nat→Prop) (ob:Nat→Option Ob) (u':List (Nat×Ob)),SimX w0 mo n I0 Is M ⟨s.tmp,ob⟩ a w→p5 (ax w0 I0 Is M ⟨s.tmp,ob⟩ w) ((id,(MO.dar t xs0),(Ob.dar t xs0 ver iv))::V)→
   ((iu (br M ((id,(MO.dar t xs0),(Ob.dar t xs0 ver iv))::V)) w.heap.size Is Jn w' mm [(false,[.shr 0 cn])] v∧ar (dk (br M ((id,(MO.dar t xs0),(Ob.dar t xs0 ver iv))::V)) (λb=>Is b∨Jn b) w') (br M ((id,(MO.dar t xs0),(Ob.dar t xs0 ver iv))::V)) (.dar t xs::Os))∨
    lw (br M ((id,(MO.dar t xs0),(Ob.dar t xs0 ver iv))::V)) (λb=>Is b∨Jn b) w w' [(false,[.shr 0 cn])] v (.dar t xs::Os))→
   (∀p∈(id,(MO.dar t xs0),(Ob.dar t xs0 ver iv))::V,ac u' p.1=none)→(∀i,ob i=(match ac u' i with|some o=>some o|none=>s.obj i))→
   ∃v' I' M' obj',Ending.returned v= .returned v'∧SimX w0 mo n I0 I' M' ⟨s.tmp,obj'⟩ a w'∧hU ⟨w0.heap.size,I0,I',M',obj',w'⟩ (one (.down id (ver+2))) v'∧
    ∀i,obj' i=(match ac ((u'++((id,.dar t (xs.take cn) (ver+2) (iv+2))::aJ ((id,(MO.dar t xs0),(Ob.dar t xs0 ver iv))::V) (.dar t xs::Os)))++au base []) i with|some o=>some o|none=>s.obj i):=by
  intro Is ob u' hs hWs hRO hWn hob
  have hobi:ob id=some (.dar t xs0 ver iv):=(hWs.2 _ List.mem_cons_self).1
  have hdi:isDar (ob id)=true:=by rw[hobi];rfl
  have hli:ob id≠none:=by rw[hobi];simp
  rcases hRO with⟨⟨m,hm,hn,hv⟩,hO⟩|⟨m',e1,e2,hr,hin,hinj,hkeep,hOs,hn,hv⟩
  ·obtain⟨_,hs2⟩:=hs.wrote hWs hsame hB hJn hO
   simp only[br,List.map_cons,List.getElem?_cons_zero,Option.some.injEq]at hm
   subst hm
   have hl:xs0.length=xs.length:=hO.1.1
   have ho2:bx ob (aJ ((id,(MO.dar t xs0),(Ob.dar t xs0 ver iv))::V) (.dar t xs::Os)) id=some (.dar t xs ver iv):=by simp only[bx,aJ,ac,Nat.beq_refl,qA]
   obtain⟨M',hs3,hval⟩:=hs2.cut ho2 (v':=ver+2) (k':=iv+2) (by omega) (by omega) (cn:=cn) (by have hn:cn≤xs0.length:=hn;omega) hv
   refine⟨v,_,M',_,rfl,hs3,⟨_,rfl,hval⟩,hlook ob u' _ hWn hob λi hi=> ?_⟩
   have hb:Nat.beq id i=false:=by
    cases hq:Nat.beq id i with
    |true=>exact absurd (Nat.eq_of_beq_eq_true hq).symm hi
    |false=>rfl
   simp only[bx,aJ,ac,hb]
  ·have e1:m'.1=M id:=e1
   have e2:m'.2=xs0.length:=e2
   have hin:∀i j b c,m'.inn i j=some (b,c)→∃i0 j0 c0,M.n id i0 j0=some (b,c0):=hin
   have hkeep:∀i j b c,M.n id i j=some (b,c)→w'.heap[b]? =w.heap[b]? :=hkeep
   have hn:cn≤xs0.length:=hn
   have hv:aM (M id) cn v:=hv
   obtain⟨r1,r2,_,r4⟩:=hr
   have hl:xs0.length=xs.length:=by rw[←e2];exact r1
   have hMlt:∀b c,M id=some (b,c)→b<w.heap.size:=λb c hb=>(hs.blk hli hb).2
   obtain⟨w1,q1,q2,q3,q4,q5,q6⟩:=World.graft w w' (M id) λb c hb=>⟨hMlt b c hb,Nat.lt_of_lt_of_le (hMlt b c hb) hB.size⟩
   have hinw:∀i j b c,m'.inn i j=some (b,c)→w1.heap[b]? =w'.heap[b]? :=by
    intro i j b c hb
    obtain⟨i0,j0,c0,h0⟩:=hin i j b c hb
    rw[q5 b λc' hc=>hs.vir.dis id id i0 j0 b c0 c' hdi hli h0 hc,hkeep i0 j0 b c0 h0]
   have hmX:∀b,(br M ((id,(MO.dar t xs0),(Ob.dar t xs0 ver iv))::V)).X b→¬Is b:=Bn hs hWs
   obtain⟨_,hsC⟩:=hs.dput (id:=id) (t':=t) (xs':=xs) (ver':=ver+1) (iv':=iv+1) (m:=M id) (n':=m'.inn) (w':=w1) (by show Jr M id xs (ver+1) (iv+1) (M id) m'.inn (ob id);rw[hobi];exact⟨Nat.le_succ _,Nat.le_succ _,λe=>by omega,λe=>by omega⟩)
    (λb _ hb=>q5 b λc hc=>hb c hli hc) (Nat.le_of_eq q1.symm) q2 q3 q4 (λb c hb=> .inr ⟨hli,c,hb⟩) (λi j b c hb=> .inr ⟨hli,hin i j b c hb⟩) hinj (λi j b c c' h1 h2=>by
     obtain⟨i0,j0,c0,h0⟩:=hin i j b c h1
     exact hs.vir.dis id id i0 j0 b c0 c' hdi hli h0 h2) (λ_=>by
     rcases r2 with⟨g1,g2⟩|⟨b,cap,g1,g2,g3,g4,g5,g6⟩
     ·exact .inl ⟨by simp only[aE,if_pos];rw[←e1];exact g1,g2⟩
     ·rw[e1]at g1
      have hbw:=q6 b cap g1
      refine .inr ⟨b,cap,by simp only[aE,if_pos];exact g1,by show b<w1.heap.size;rw[q1];exact hMlt b cap g1,hmX b (m7.2 ⟨_,List.mem_cons_self,.inl ⟨cap,g1⟩⟩),g3,g4,λj hj=> ?_,λi e j c he hc=> ?_⟩
      ·show(w1.cell? _).isSome=true∧w1.frozen? _=false
       rw[World.cell?_of_block (w:=w') hbw,World.frozen?_of_block (w:=w') hbw];exact g5 j hj
      ·obtain⟨u1,hu1,hru⟩:=g6 i e j c he hc
       refine⟨u1,by show w1.cell? _=_;rw[World.cell?_of_block (w:=w') hbw];exact hu1, ?_⟩
       simp only[aE,if_pos]
       exact hru.mono λb' c' hb'=>hinw i j b' c' hb')
   have hne:∀p∈V,p.1≠id:=λp hp e=>hnd.1 (List.mem_map.2 ⟨p,hp,e⟩)
   have hmt:∀p∈V,kT (aE M id (M id) m'.inn) p=kT M p:=by
    intro p hp
    have:=hne p hp
    simp only[kT,aE,if_neg this,Mt.mk.injEq,true_and,and_true]
    obtain⟨i,o,ob⟩:=p
    simp only[B0]
    cases ob with
    |box _=>rfl
    |arr _ _ _ _ _=>rfl
    |dar _ _ _ _=>simp only[aE,if_neg this]
   have hmts:br (aE M id (M id) m'.inn) V=br M V:=List.map_congr_left hmt
   have hW1:p5 (ax w0 I0 Is (aE M id (M id) m'.inn) ⟨s.tmp,af ob id (.dar t xs (ver+1) (iv+1))⟩ w1) ((id,(MO.dar t xs),(Ob.dar t xs (ver+1) (iv+1)))::V):=by
    refine⟨by simp only[List.map_cons,List.nodup_cons];exact hnd,λp hp=> ?_⟩
    rcases List.mem_cons.1 hp with rfl|hp
    ·exact⟨by simp only[af,if_pos],rfl,rfl⟩
    ·obtain⟨h1,h2⟩:=hWs.2 p (List.mem_cons_of_mem _ hp)
     refine⟨by simp only[af,if_neg (hne p hp)];exact h1, ?_⟩
     split at h2
     ·refine h2.mono λd c hh=> ?_
      cases c with
      |c x=>exact hh
      |ptr _=>exact hh
      |down _=>exact hh
      |own k=>
       obtain⟨id2,ver2,t2,xs2,dp2,h3,h4⟩:=hh
       cases k with
       |zero=>simp at h4
       |succ k=>exact⟨id2,ver2,t2,xs2,dp2,h3,by simpa using h4⟩
     ·exact h2
     ·exact h2
     ·exact h2.elim
   have hB1:BelowX w1.heap.size (br (aE M id (M id) m'.inn) ((id,(MO.dar t xs),(Ob.dar t xs (ver+1) (iv+1)))::V)).X w1 w':=by
    refine⟨by rw[q2];exact hB.os,by rw[q3];exact hB.tape,by rw[q4];exact hB.output,by rw[q1];exact hB.size,λb hb hx=> ?_⟩
    rw[q1]at hb
    have hnM:∀c,M id≠some (b,c):=λc hc=>hx (m7.2 ⟨_,List.mem_cons_self,.inl ⟨c,by simp only[aE,if_pos];exact hc⟩⟩)
    rw[q5 b hnM]
    by_cases hX:(br M ((id,(MO.dar t xs0),(Ob.dar t xs0 ver iv))::V)).X b
    ·obtain⟨p,hp,hc⟩:=m7.1 hX
     rcases List.mem_cons.1 hp with rfl|hp
     ·rcases hc with⟨c,hc⟩|⟨i,j,c,hc⟩
      ·exact absurd hc (hnM c)
      ·exact hkeep i j b c hc
     ·exfalso
      refine hx ⟨kT M p, ?_,hc⟩
      simp only[br,List.map_cons,List.mem_cons]
      exact .inr (List.mem_map.2 ⟨p,hp,hmt p hp⟩)
    ·exact hB.block b hb hX
   have hO1:ar (dk (br (aE M id (M id) m'.inn) ((id,(MO.dar t xs),(Ob.dar t xs (ver+1) (iv+1)))::V)) (λb=>Is b∨Jn b) w') (br (aE M id (M id) m'.inn) ((id,(MO.dar t xs),(Ob.dar t xs (ver+1) (iv+1)))::V)) (.dar t xs::Os):=by
    refine⟨?_, ?_⟩
    ·refine⟨rfl, ?_,z8 xs,λi j b c hb=>r4 i j b c (by simp only[kT,B0,aE,if_pos]at hb;exact hb)⟩
     simp only[kT,B0,aE,if_pos]
     rw[←e1]
     exact r2
    ·show ar _ (br (aE M id (M id) m'.inn) V) Os
     rw[hmts]
     refine hOs.mono λm o hh=>hh.mts λk m2 hk=> ?_
     simp only[br,List.map_cons]at hk⊢
     cases k with
     |zero=>
      simp only[List.getElem?_cons_zero,Option.some.injEq]at hk
      subst hk
      exact⟨_,rfl,by simp only[kT,aE,if_pos],by simp only[kT,EI];exact hl.symm⟩
     |succ k=>
      simp only[List.getElem?_cons_succ]at hk⊢
      refine⟨m2, ?_,rfl,rfl⟩
      rw[show V.map (kT (aE M id (M id) m'.inn))=V.map (kT M) from hmts]
      exact hk
   obtain⟨_,hs2⟩:=hsC.wrote hW1 (O':= .dar t xs::Os) ⟨rfl,hsame.2⟩ hB1 (λb hb=>by rw[q1];exact hJn b hb) hO1
   have ho2:bx (af ob id (.dar t xs (ver+1) (iv+1))) (aJ ((id,(MO.dar t xs),(Ob.dar t xs (ver+1) (iv+1)))::V) (.dar t xs::Os)) id=some (.dar t xs (ver+1) (iv+1)):=by simp only[bx,aJ,ac,Nat.beq_refl,qA]
   obtain⟨M',hs3,hval⟩:=hs2.cut ho2 (v':=ver+2) (k':=iv+2) (by omega) (by omega) (cn:=cn) (by omega) (by simp only[aE,if_pos];exact hv)
   refine⟨v,_,M',_,rfl,hs3,⟨_,rfl,hval⟩,hlook ob u' _ hWn hob λi hi=> ?_⟩
   have hb:Nat.beq id i=false:=by
    cases hq:Nat.beq id i with
    |true=>exact absurd (Nat.eq_of_beq_eq_true hq).symm hi
    |false=>rfl
   simp only[bx,aJ,ac,hb,af,if_neg hi]
 cases hsh:(MO.dar t xs::Os).any MO.shares with
 |true=>exact fin I1 (bx s.obj u) u hs1 hW1 hRO hWu (λ_=>rfl)
 |false=>
  have hns:∀o∈Os,MO.shares o=true→False:=λo ho hs2=>by
   have:=List.any_eq_false.1 hsh o (List.mem_cons_of_mem _ ho)
   exact this hs2
  refine fin I s.obj [] h hW ?_ (λ_ _=>rfl) (λ_=>rfl)
  rcases hRO with⟨h1,h2⟩|⟨m',e1,e2,hr,hin,hinj,hkeep,hOs,hn,hv⟩
  ·refine .inl ⟨h1,ar.memMono (λm o ho hh=>hh.mono λhs2=> ?_) h2⟩
   exact absurd hs2 (List.any_eq_false.1 hsh o ho)
  ·refine .inr ⟨m',e1,e2,hr,hin,hinj,hkeep,ar.memMono (λm o ho hh=>hh.mono λhs2=> ?_) hOs,hn,hv⟩
   exact(hns o ho hs2).elim
theorem Nk (h:SimX w0 mo n I0 I M s a w){u:List (Nat×Ob)}{I1:Nat→Prop}(hs1:SimX w0 mo n I0 I1 M ⟨s.tmp,bx s.obj u⟩ a w){W:List (Nat×MO×Ob)}(hW:p5 (ax w0 I0 I M s w) W)(hW1:p5 (ax w0 I0 I1 M ⟨s.tmp,bx s.obj u⟩ w) W)(hWu:∀p∈W,ac u p.1=none)
  {O':List MO}(hlen:W.length=O'.length)(hsame:ar nW (W.map (·.2.1)) O'){w':World}{Jn:Nat→Prop}{mm:MF}(hB:BelowX w.heap.size (br M W).X w w')(hJn:∀b,Jn b→w.heap.size≤b∧b<w'.heap.size){R:cS}{v:Value}
  (hRO:(iu (br M W) w.heap.size I1 Jn w' mm R v∧ar (dk (br M W) (λb=>I1 b∨Jn b) w') (br M W) O')∨lw (br M W) (λb=>I1 b∨Jn b) w w' R v O'){e:Eff}(hr:aU C s (sF base u W R O') e)(hns:Em R=false):
  ∃v' I' M' obj',Ending.returned v= .returned v'∧SimX w0 mo n I0 I' M' ⟨s.tmp,obj'⟩ a w'∧hU ⟨w0.heap.size,I0,I',M',obj',w'⟩ e.val v'∧
   ∀id,obj' id=(match ac (e.upd++au base e.new) id with|some o=>some o|none=>s.obj id):=by
 unfold Em at hns
 split at hns
 ·rename_i k cn
  unfold sF at hr
  simp only[]at hr
  split at hr
  ·rename_i id o1 o2 hWk
   split at hr
   ·rename_i t xs ver d hlk
    cases hr.ret
    obtain⟨⟨m,hm,hn,hv⟩,hO⟩:=hRO.resolve_right (O9 hW hsame hWk hlk)
    obtain⟨p,hp,rfl⟩:=fy hm
    rw[hWk]at hp;cases hp
    obtain⟨k',p',o',q1,q2,q3,q4⟩:=ez hlen hlk
    have hkk:k'=k:=by
     have hnd:=hW.1
     obtain⟨l1,e1⟩:=List.getElem?_eq_some_iff.1 q1
     obtain⟨l2,e2⟩:=List.getElem?_eq_some_iff.1 hWk
     have e3:(W.map (·.1))[k']'(by simpa using l1)=(W.map (·.1))[k]'(by simpa using l2):=by simp[e1,e2,q3]
     exact(List.getElem_inj hnd).1 e3
    subst hkk
    rw[hWk]at q1;cases q1
    obtain⟨o3,q5,q6⟩:=hO.at hm
    rw[q2]at q5;cases q5
    have hxl:EI o1=xs.length:=by
     obtain⟨o4,g1,g2⟩:=hsame.at (j:=k') (a:=o1) (by simp[hWk])
     rw[q2]at g1;cases g1
     have hm2:=(hW.2 _ (List.mem_of_getElem? hWk)).2
     cases o2 with
     |box _=>cases o'<;>cases q4
     |dar _ _ _ _=>cases o'<;>cases q4
     |arr t2 xs2 ver2 f2 d2=>
      cases o' with
      |box _=>
       cases o1 with
       |box _=>exact hm2.elim
       |dar _ _=>exact g2.elim
       |arr _ _=>exact g2.elim
      |dar _ _=>
       cases o1 with
       |box _=>exact g2.elim
       |dar _ _=>exact hm2.elim
       |arr _ _=>exact g2.elim
      |arr t3 xs3=>
       cases q4
       exact q6.1
    have fin:∀(Is:Nat→Prop) (ob:Nat→Option Ob) (u':List (Nat×Ob)),SimX w0 mo n I0 Is M ⟨s.tmp,ob⟩ a w→p5 (ax w0 I0 Is M ⟨s.tmp,ob⟩ w) W→ar (dk (br M W) (λb=>Is b∨Jn b) w') (br M W) O'→
      (∀p∈W,ac u' p.1=none)→(∀id,ob id=(match ac u' id with|some o=>some o|none=>s.obj id))→
      ∃v' I' M' obj',Ending.returned v= .returned v'∧SimX w0 mo n I0 I' M' ⟨s.tmp,obj'⟩ a w'∧hU ⟨w0.heap.size,I0,I',M',obj',w'⟩ (one (.own id (ver+1))) v'∧
       ∀i,obj' i=(match ac ((u'++((id,.arr t (xs.take cn) (ver+1) false d)::aJ W O'))++au base []) i with|some o=>some o|none=>s.obj i):=by
     intro Is ob u' hs hWs hOs hWn hob
     obtain⟨_,hs2⟩:=hs.wrote hWs hsame hB hJn hOs
     have ho:bx ob (aJ W O') id=some (.arr t xs ver false d):=by simp only[bx,hlk]
     have hro:=hs2.objs id _ ho
     obtain⟨_,hs3⟩:=hs2.redo ho (Nat.lt_succ_self ver) (t':=t) (xs':=xs.take cn) (d':=d) (m:=M id) (w':=w') (λ_ _ _=>rfl) (Nat.le_refl _) rfl rfl rfl (λb c hb=> .inr ⟨c,hb⟩) (λhext=>by
      rcases hro with⟨g1,g2⟩|⟨b,cap,g1,g2,g3,g4,g5,g6,g7,g8⟩
      ·exact .inl ⟨by simp only[bp,if_pos];exact g1,by rw[g2];simp⟩
      ·refine .inr ⟨b,cap,by simp only[bp,if_pos];exact g1,g2,g3,g4,Nat.le_trans (List.length_take_le' _ _) g5,Nat.le_trans (List.length_take_le' _ _) g6,g7,λi e j c he hc=> ?_⟩
       have hin:i<cn∧xs[i]? =some e:=by
        rw[List.getElem?_take]at he
        split at he
        ·exact⟨by assumption,he⟩
        ·cases he
       obtain⟨x,hx,hrx⟩:=g8 i e j c hin.2 hc
       exact⟨x,hx,hrx.ext hext⟩)
     refine⟨v,_,_,_,rfl,hs3,⟨_,rfl,t,xs.take cn,ver+1,false,d,by simp only[af,if_pos],Nat.le_refl _,λ_=> ?_, ?_⟩,λi=> ?_⟩
     ·simp only[bp,if_pos]
      rw[List.length_take,Nat.min_eq_left (by have hn:cn≤EI o1:=hn;omega)]
      exact hv
     ·unfold aM at hv
      split at hv
      ·obtain⟨a,rfl⟩:=hv;rfl
      ·subst hv;rfl
     ·simp only[bZ,au,ac,af,bx]
      cases hu:ac u' i with
      |some ox=>
       have hne:i≠id:=by
        rintro rfl
        have:=hWn _ (List.mem_of_getElem? hWk)
        simp only[]at this
        rw[this]at hu;cases hu
       simp only[if_neg hne]
       cases hw:ac (aJ W O') i with
       |some ow=>
        exfalso
        obtain⟨_,p2,_,r1,_,r3,_⟩:=ez hlen hw
        have:=hWn p2 (List.mem_of_getElem? r1)
        rw[r3,hu]at this;cases this
       |none=>simp only[hob,hu]
      |none=>
       by_cases hne:i=id
       ·subst hne;simp
       ·have hb:Nat.beq id i=false:=by
         cases hq:Nat.beq id i with
         |true=>exact absurd (Nat.eq_of_beq_eq_true hq).symm hne
         |false=>rfl
        simp only[if_neg hne,hb]
        cases hw:ac (aJ W O') i with
        |some ow=>rfl
        |none=>simp only[hob,hu]
    cases hsh:O'.any MO.shares with
    |true=>exact fin I1 (bx s.obj u) u hs1 hW1 hO hWu (λ_=>rfl)
    |false=>
     refine fin I s.obj [] h hW ?_ (λ_ _=>rfl) (λ_=>rfl)
     refine ar.memMono (λm o ho hh=>hh.mono λhs2=> ?_) hO
     have:=List.any_eq_false.1 hsh o ho
     rw[hs2]at this;exact absurd rfl this
   ·rename_i t xs ver iv hlk
    obtain⟨hk,hr2⟩:=hr.guard
    clear hr
    have hk:=Nat.eq_of_beq_eq_true hk
    subst hk
    cases hr2.ret
    exact N8 h hs1 hW hW1 hWu hlen hsame hB hJn hWk hlk hRO
   ·exact hr.fail.elim
  ·exact hr.fail.elim
 ·cases hns
theorem BO (h:SimX w0 mo n I0 I M s a w){f:Nat}{args:List Operand}{tys:List TypeId}{ids:List Nat}{us:List Value}(hcaps:ar (λid u=>∃cs b,s.obj id=some (.box cs)∧M id=some (b,0)∧u= .pointer (some ⟨b,0,none⟩)) ids us){e:Eff}
  (hr:aU (kI P) s (Af te base f args tys ids) e)(hid:∀id∈(au base e.new).map (·.1),s.obj id=none)(vs:Array Value)(hvs:vs.toList=args.map a.eval++us):
  (∀args w,(callFunc f args).run P w= .ok (.enter f args) w)∧Calls P f vs w λe' w'=>∃v I' M' obj',e'= .returned v∧SimX w0 mo n I0 I' M' ⟨s.tmp,obj'⟩ a w'∧hU ⟨w0.heap.size,I0,I',M',obj',w'⟩ e.val v∧
   ∀id,obj' id=(match ac (e.upd++au base e.new) id with|some o=>some o|none=>s.obj id):=by
 unfold Af at hr
 obtain⟨A,u,W,hA,hfz,hW,hr⟩:=qx h (W:=[]) ⟨by simp,by simp⟩ hr
 rw[List.nil_append]at hA hW hr
 obtain⟨js,V,hjs,hV,hr⟩:=vm h hcaps hW hr
 have hA:=hA.mono λ_ _ hh=>Av.mono (W':=W++V) hh (λ_ hp=>hp) λ_ _ hp=>fR hp
 clear hW
 revert hA hjs hV hr
 generalize W++V=W
 intro hjs hW hr hA
 obtain⟨hg,hr⟩:=hr.guard
 obtain⟨R,O',hcon,hr⟩:=hr.call
 obtain⟨I1,hIb,hext1,hs1⟩:=uk h hfz
 have hWu:∀p∈W,ac u p.1=none:=by
  intro p hp
  refine dN λhc=> ?_
  obtain⟨q,hq,hqe⟩:=List.mem_map.1 hc
  rw[List.all_eq_true]at hg
  have:=hg q hq
  rw[Bool.not_eq_true']at this
  rw[fW.2 (List.mem_map.2 ⟨p,hp,hqe.symm⟩)]at this
  cases this
 have hW1:p5 (ax w0 I0 I1 M ⟨s.tmp,bx s.obj u⟩ w) W:=by
  refine⟨hW.1,λp hp=>⟨?_,(hW.2 p hp).2⟩⟩
  show bx s.obj u p.1=_
  simp only[bx,hWu p hp]
  exact(hW.2 p hp).1
 refine⟨hcon.1,(hcon.2 w I1 (br M W) vs hs1.ilt (Nt hs1 hW1) (M3 hs1 hW1) (Bn hs1 hW1) hs1.gww (Ov hs1 hW1) ?_).mono ?_⟩
 ·rw[hvs]
  refine ar.append (hA.mono λ_ _ hh=>hh _ _ hext1 rfl hIb λ_ _ hm=>hm) ?_
  have hcp:∀{js:List Nat} {us:List Value},ar (λj u=>u3 (ax w0 I0 I M s w) W (.ptr j) u) js us→ar (ia (br M W) I1 w) (js.map λk=> .wr false [.ptr k]) us:=by
   intro js
   induction js with
   |nil=>intro us hc;cases us with|nil=>trivial|cons _ _=>exact hc.elim
   |cons c cs ih=>intro us hc;cases us with|nil=>exact hc.elim|cons u us=>exact⟨⟨_,rfl,hc.1 _ _ hext1 rfl λ_ _ hm=>hm⟩,ih hc.2⟩
  exact hcp hjs
 ·rintro e' w' ⟨v,Jn,mm,rfl,hB,hJn,hinj,hmm,hRO,hsame⟩
  have hlen:W.length=O'.length:=by have:=hsame.length;simpa using this
  cases hns:Em R with
  |false=>exact Nk h hs1 hW hW1 hWu hlen hsame hB hJn hRO hr hns
  |true=>
  obtain⟨hRb,hO⟩:=hRO.resolve_right λhd=>hd.shr hns
  have hR:=hRb.old hns
  have hr2:aU (kI P) s (.ret ⟨Bm (dF base R).1,(dF base R).2,(if R.any (λr=>r.2.any RC.shares)||O'.any MO.shares then u else[])++aJ W O'⟩) e:=by
   rw[E3 hns]at hr;exact hr
  cases hr2.ret
  have hids:∀id,base≤id→id<base+pz R→s.obj id=none:=λid h1 h2=>hid id (EV h1 (by simp only[vd];exact h2))
  have hids1:∀id,base≤id→id<base+pz R→bx s.obj u id=none:=by
   intro id h1 h2
   have h3:=hids id h1 h2
   unfold bx
   cases hlk:ac u id with
   |none=>exact h3
   |some ob=>
    exfalso
    obtain⟨q,hq,hqi⟩:=List.mem_map.1 (cY hlk)
    obtain⟨t',xs',ver',d',_,h4⟩:=hfz q hq
    rw[hqi]at h4;exact h4.live h3
  have hnw:∀id,base≤id→id<base+pz R→ac (aJ W O') id=none:=by
   intro id h1 h2
   cases hlk:ac (aJ W O') id with
   |none=>rfl
   |some ob=>
    exfalso
    obtain⟨k,p,o,q1,_,q3,_⟩:=ez hlen hlk
    have:=(hW.2 p (List.mem_of_getElem? q1)).1
    simp only[]at this
    rw[q3,hids id h1 h2]at this;cases this
  have fin:∀(Is:Nat→Prop) (ob:Nat→Option Ob) (u':List (Nat×Ob)),SimX w0 mo n I0 Is M ⟨s.tmp,ob⟩ a w→p5 (ax w0 I0 Is M ⟨s.tmp,ob⟩ w) W→nG w.heap.size Is Jn w' mm R v→ar (dk (br M W) (λb=>Is b∨Jn b) w') (br M W) O'→
    (∀id,base≤id→id<base+pz R→ob id=none)→(∀p∈W,ac u' p.1=none)→(∀id,ob id=(match ac u' id with|some o=>some o|none=>s.obj id))→
    ∃v' I' M' obj',Ending.returned v= .returned v'∧SimX w0 mo n I0 I' M' ⟨s.tmp,obj'⟩ a w'∧hU ⟨w0.heap.size,I0,I',M',obj',w'⟩ (Bm (dF base R).1) v'∧
     ∀id,obj' id=(match ac (u'++aJ W O'++au base (dF base R).2) id with|some o=>some o|none=>s.obj id):=by
   intro Is ob u' hs hWs hRs hOs hidn hWn hob
   obtain⟨hext2,hs2⟩:=hs.wrote hWs hsame hB hJn hOs
   have hdar2:∀id,isDar (bx ob (aJ W O') id)=true→isDar (ob id)=true:=by
    intro id hi
    simp only[bx]at hi
    cases hlk:ac (aJ W O') id with
    |none=>rw[hlk]at hi;exact hi
    |some o1=>
     rw[hlk]at hi
     obtain⟨k,p,o2,k1,k2,k3,k4⟩:=ez hlen hlk
     have hob2:ob p.1=some p.2.2:=(hWs.2 p (List.mem_of_getElem? k1)).1
     rw[←k3,hob2]
     rw[k4]at hi
     cases h22:p.2.2 with
     |dar _ _ _ _=>rfl
     |box _=>rw[h22]at hi;cases o2<;>cases hi
     |arr _ _ _ _ _=>rw[h22]at hi;cases o2<;>cases hi
   obtain⟨M',hs',hv'⟩:=I9 (w:=w) (base:=base) hs2 hs.below.size hs.ilt (hvl:=λid i j b c hi hM=>(hs.vir.lt id i j b c (hdar2 id hi) hM).2.1) (λid b c hi hM=>by
    refine(hs.blk (id:=id) ?_ hM).2
    intro hc
    apply hi
    have hc':ob id=none:=hc
    show bx ob (aJ W O') id=none
    simp only[bx]
    cases hlk:ac (aJ W O') id with
    |none=>exact hc'
    |some o2=>
     obtain⟨k,p,o,q1,_,q3,_⟩:=ez hlen hlk
     have:=(hWs.2 p (List.mem_of_getElem? q1)).1
     simp only[]at this
     rw[q3,hc']at this;cases this) hJn hinj hmm hRs (λid h1 h2=>by
    show bx ob (aJ W O') id=none
    simp only[bx,hnw id h1 h2]
    exact hidn id h1 h2)
   refine⟨v,_,M',_,rfl,hs',hv',λid=> ?_⟩
   simp only[kC,bZ,bx]
   cases h1:ac (au base (dF base R).2) id with
   |some ob2=>
    have h2:=pN (cY h1)
    rw[vd]at h2
    rw[hnw id h2.1 h2.2]
    have h3:=hidn id h2.1 h2.2
    rw[hob]at h3
    cases h4:ac u' id with
    |none=>rfl
    |some _=>rw[h4]at h3;cases h3
   |none=>
    simp only[]
    cases h2:ac (aJ W O') id with
    |none=>
     simp only[]
     rw[hob]
     cases ac u' id<;>rfl
    |some o2=>
     simp only[]
     cases h4:ac u' id with
     |none=>rfl
     |some o3=>
      exfalso
      obtain⟨k,p,o,q1,_,q3,_⟩:=ez hlen h2
      have e1:=hWn p (List.mem_of_getElem? q1)
      rw[q3,h4]at e1
      cases e1
  cases hsh:(R.any (λr=>r.2.any RC.shares)||O'.any MO.shares)with
  |true=>
   exact fin I1 (bx s.obj u) u hs1 hW1 (hR.settle I1 (λ_ _ hb=>hb)) hO hids1 hWu (λ_=>rfl)
  |false=>
   rw[Bool.or_eq_false_iff]at hsh
   refine fin I s.obj [] h hW (hR.settle I (λhc=>by rw[hsh.1]at hc;cases hc)) ?_ hids (λ_ _=>rfl) (λ_=>rfl)
   refine ar.memMono (λm o ho hh=>hh.mono λhs2=> ?_) hO
   have:=List.any_eq_false.1 hsh.2 o ho
   rw[hs2]at this;exact absurd rfl this
theorem N6 (h:SimX w0 mo n I0 I M s a w){f id iv i off:Nat}{y:Operand}{v:Value}(hv:aA (ax w0 I0 I M s w) (.inn id iv i off) v){e:Eff}(hr:aU (kI P) s (FI f id iv i off y) e)(vs:Array Value)(hvs:vs.toList=[v,a.eval y]):
  (∀args w,(callFunc f args).run P w= .ok (.enter f args) w)∧Calls P f vs w λe' w'=>∃v I' M' obj',e'= .returned v∧SimX w0 mo n I0 I' M' ⟨s.tmp,obj'⟩ a w'∧hU ⟨w0.heap.size,I0,I',M',obj',w'⟩ e.val v∧
   ∀id,obj' id=(match ac (e.upd++au base e.new) id with|some o=>some o|none=>s.obj id):=by
 unfold FI at hr
 obtain⟨ob,hob,hr⟩:=hr.get
 cases ob with
 |box _=>exact hr.fail.elim
 |arr _ _ _ _ _=>exact hr.fail.elim
 |dar t xs ver iv'=>
  have hidl:s.obj id≠none:=by rw[hob];simp
  have hidd:isDar (s.obj id)=true:=by rw[hob];rfl
  simp only[]at hr
  split at hr
  case h_2=>exact hr.fail.elim
  rename_i t' ys hcell
  obtain⟨kk,m,hy,hk,hr⟩:=cg h hr
  obtain⟨hg,hr2⟩:=hr.guard
  clear hr
  have hg:=Nat.eq_of_beq_eq_true hg
  subst hg
  obtain⟨R,O',hcon,hr⟩:=hr2.call
  obtain⟨t1,ys1,hi,hcell1,hown⟩:=F1 h hob hv
  rw[hcell]at hcell1
  injection hcell1 with hcell1
  injection hcell1 with e1 e2
  subst e1
  have e2:=eq_of_heq e2
  subst e2
  split at hr
  case h_2=>exact hr.fail.elim
  rename_i kr nr t2 ys'
  obtain⟨hg,hr3⟩:=hr.guard
  clear hr hr2
  simp only[Bool.and_eq_true,decide_eq_true_eq,Bool.not_eq_true']at hg
  obtain⟨rfl,hsl⟩:=hg
  split at hr3
  case h_2=>exact hr3.fail.elim
  rename_i e1 hget
  cases hr3.ret
  have hce:=Ty.get_cells hget
  have hx0:xs[i]? =some (xs.getD i t.zero):=by simp[List.getD,List.getElem?_eq_getElem hi]
  let m1:Mt:=⟨M.n id i off,ys.length,λ_ _=>none,λ_ _=>0⟩
  have hX:∀b,gj.X [m1] b→∃c,M.n id i off=some (b,c):=by
   rintro b ⟨m2,hm2,h2⟩
   rw[List.mem_singleton]at hm2
   subst hm2
   rcases h2 with h2|⟨_,_,_,h2⟩
   ·exact h2
   ·cases h2
  have hXI:∀b,gj.X [m1] b→b<w.heap.size∧¬I b∧(w0.heap.size≤b∨mo.X b):=by
   intro b hb
   obtain⟨c,hc⟩:=hX b hb
   obtain⟨h1,h2,h3⟩:=h.vir.lt id i off b c hidd hc
   exact⟨h2,h3,h1.imp_right gj.AtV.x⟩
  have hmt:MtsOk [m1] [.arr t2 ys]:=by
   have h0:∀(i:Nat) (m:Mt),[m1][i]? =some m→i=0∧m=m1:=by
    intro i m hi
    cases i with
    |zero=>simp only[List.getElem?_cons_zero,Option.some.injEq]at hi;exact⟨rfl,hi.symm⟩
    |succ i=>simp at hi
   refine⟨λk m o h1 _ _ i j=>by rw[(h0 k m h1).2],λi j b c c' m m' h1 h2 _ _=>by rw[(h0 i m h1).1,(h0 j m' h2).1],λi i' j j' k k' b c c' m m' h1 _ h3 _=> ?_,λi i' j k b c c' m m' h1 _ h3 _=> ?_⟩<;>(obtain⟨_,rfl⟩:=h0 i m h1;cases h3)
  have hmo:ar (dk [m1] I w) [m1] [.arr t2 ys]:=by
   refine⟨⟨rfl, ?_⟩,trivial⟩
   rcases hown.2 with h1|⟨b,cap,h1,h2,h3,h4,h5⟩
   ·exact .inl h1
   ·exact .inr ⟨b,cap,h1,(h.vir.lt id i off b cap hidd h1).2.1,h2,h3,h4,λi e j c he hc=>by
     obtain⟨u,hu,hru⟩:=h5 i e j c he hc
     exact⟨u,hu,hru.mono (λ_ _=>rfl) λ_ h=>h.elim⟩⟩
  refine⟨hcon.1,(hcon.2 w I [m1] vs h.ilt hmo hmt (λb hb=>(hXI b hb).2.1) h.gww (λb hb hg=>by
   rcases(hXI b hb).2.2 with h1|h1
   ·have:=h.gw.lt hg;omega
   ·exact h.gx b h1 hg) (by rw[hvs];exact⟨⟨_,rfl,m1,rfl,hown.1⟩,⟨_,rfl,by rw[hy];exact .int _ _ hk⟩,trivial⟩)).mono ?_⟩
  rintro e' w' ⟨v',Jn,mm,rfl,hB,hJn,_,_,hRO,_⟩
  obtain⟨hRb,hO⟩:=hRO.resolve_right λhd=>hd.shr rfl
  have hR:RepC (λb=>I b∨Jn b) w' (.int kr nr) v':=hRb.2.2.1
  obtain⟨hlen0,hown'⟩:=hO.1
  have hlen:ys.length=ys'.length:=hlen0
  clear hlen0
  have hI:∀b,I b→w'.heap[b]? =w.heap[b]? :=λb hb=>hB.block b (h.ilt b hb) λhx=>(hXI b hx).2.1 hb
  have hfl:off<(t.cells (xs.getD i t.zero)).length:=(List.getElem?_eq_some_iff.1 hcell).1
  have hfit0:off+[Cell.sl t2 ys'].length≤(t.cells (xs.getD i t.zero)).length:=by show off+1≤_;omega
  have hil:jA xs (xs.set i e1):=by
   intro i' k e2 t1 zs hxi hck
   by_cases hii:i=i'
   ·subst hii
    rw[hx0]at hxi;cases hxi
    by_cases hko:k=off
    ·subst hko
     rw[hcell]at hck
     injection hck with hck
     injection hck with q1 q2
     subst q1
     have q2:=eq_of_heq q2
     subst q2
     refine⟨e1,ys',by rw[List.getElem?_set,if_pos rfl,if_pos hi], ?_,hlen.symm⟩
     rw[hce,em hfit0 (Nat.le_refl _) (by simp),Nat.sub_self]
     rfl
    ·refine⟨e1,zs,by rw[List.getElem?_set,if_pos rfl,if_pos hi], ?_,rfl⟩
     rw[hce,cD hfit0 (by simp;omega)]
     exact hck
   ·exact⟨e2,zs,by rw[List.getElem?_set,if_neg hii];exact hxi,hck,rfl⟩
  have hlive:∀k,af s.obj id (.dar t (xs.set i e1) ver iv) k≠none→s.obj k≠none:=by
   intro k hk
   by_cases e:k=id
   ·rw[e];exact hidl
   ·simpa only[af,if_neg e]using hk
  have hdar:∀k,isDar (af s.obj id (.dar t (xs.set i e1) ver iv) k)=true→isDar (s.obj k)=true:=by
   intro k hk
   by_cases e:k=id
   ·rw[e];exact hidd
   ·simpa only[af,if_neg e]using hk
  have hext:Ext (ax w0 I0 I M s w) ⟨w0.heap.size,I0,λb=>I b∨Jn b,M,af s.obj id (.dar t (xs.set i e1) ver iv),w'⟩:=by
   refine⟨rfl,rfl,h.i00,λ_ hb=> .inl hb,hI,λk cs hk=> ?_,λk t3 xs3 v3 f3 d3 hk=> ?_,λk t3 xs3 v3 k3 hk=> ?_⟩
   ·have hne:k≠id:=by rintro rfl;simp only[]at hk;rw[hob]at hk;cases hk
    exact⟨⟨cs,by simp only[af,if_neg hne];exact hk⟩,rfl⟩
   ·have hne:k≠id:=by rintro rfl;simp only[]at hk;rw[hob]at hk;cases hk
    exact⟨t3,xs3,v3,f3,d3,by simp only[af,if_neg hne];exact hk,Nat.le_refl _,λ_=>⟨rfl,rfl,rfl⟩⟩
   ·by_cases e:k=id
    ·subst e
     simp only[]at hk
     rw[hob]at hk;cases hk
     exact⟨.dar t (xs.set i e1) ver iv,by simp only[af,if_pos],Nat.le_refl _,Nat.le_refl _,λ_=>⟨rfl,by simp,rfl⟩,λ_=>⟨rfl,rfl,hil⟩⟩
    ·exact⟨_,by simp only[af,if_neg e];exact hk,.same rfl rfl⟩
  have hnot:∀b,(∀c,M.n id i off≠some (b,c))→b<w.heap.size→w'.heap[b]? =w.heap[b]? :=λb hb hlt=>hB.block b hlt λhx=>by
   obtain⟨c,hc⟩:=hX b hx
   exact hb c hc
  have hs':=h.turn hext ⟨hB.os,hB.tape,hB.output,hB.size,λb hb hnx=>hB.block b (Nat.lt_of_lt_of_le hb h.below.size) λhx=>by
    rcases(hXI b hx).2.2 with h1|h1
    ·omega
    ·exact hnx h1⟩ (by
   rintro b (hb|hb)
   ·exact Nat.lt_of_lt_of_le (h.ilt b hb) hB.size
   ·exact(hJn b hb).2) (by
   rintro b (hb|hb)
   ·exact h.idiv b hb
   ·exact .inr (.inl (Nat.le_trans h.below.size (hJn b hb).1))) (λk b c hk hM=>h.own k b c (hlive k hk) hM) (λk x hx=> ?_) (λk j b c c' hk hj hb hb'=>h.inj k j b c c' (hlive k hk) (hlive j hj) hb hb')
   (h.vir.keep (λk hk=>⟨hdar k hk,rfl⟩) (by
    rintro b (hb|hb)
    ·exact .inl hb
    ·exact .inr λk j l c hk hn=>by
      have:=(h.vir.lt k j l b c (hdar k hk) hn).2.1
      have:=(hJn b hb).1
      omega) (λk b c hk hM k' l j c' hk' hn=>h.vir.dis k' k l j b c' c (hdar k' hk') (hlive k hk) hn hM) hB.size)
  ·refine⟨v',_,_,_,rfl,hs',⟨_,rfl, ?_⟩,λk=> ?_⟩
   ·exact RepC.toD (x:=⟨w0.heap.size,I0,λb=>I b∨Jn b,M,af s.obj id (.dar t (xs.set i e1) ver iv),w'⟩) (p:= .any) (c:= .int kr nr) hR
   ·simp only[List.append_nil,au];exact aR _ _ _ _
  ·by_cases e:k=id
   ·subst e
    simp only[af,if_pos]at hx
    cases hx
    rcases h.objs k _ hob with⟨_,hnil⟩|⟨b,cap,hM,hblt,hnI,hle,hmx,hcells,hel⟩
    ·rw[hnil]at hi;simp at hi
    ·simp only[]at hM hblt hnI hcells hel
     have hb:w'.heap[b]? =w.heap[b]? :=hnot b (λc hc=>h.vir.dis k k i off b c cap hidd hidl hc hM) hblt
     refine .inr ⟨b,cap,hM,Nat.lt_of_lt_of_le hblt hB.size, ?_,by simpa using hle,by simpa using hmx,λj hj=> ?_,λi' x j c hxi hcj=> ?_⟩
     ·rintro(h1|h1)
      ·exact hnI h1
      ·have:=(hJn b h1).1;omega
     ·simp only[]
      rw[World.cell?_of_block (w:=w) hb,World.frozen?_of_block (w:=w) hb]
      exact hcells j hj
     ·simp only[]
      rw[World.cell?_of_block (w:=w) hb]
      have hkeep:∀(y0:t.T) (c0:Cell),xs[i']? =some y0→(t.cells y0)[j]? =some c0→¬(i'=i∧j=off)→∃u1,w.cell? ⟨b,i'*t.size+j,none⟩=some u1∧d9 (M.n k) w' i' j c0 u1:=by
       intro y0 c0 hy0 hc0 hne
       obtain⟨u1,hu1,hru1⟩:=hel i' y0 j c0 hy0 hc0
       refine⟨u1,hu1,hru1.mono λb' c' hb'=>hnot b' (λc hc=> ?_) (h.vir.lt k i' j b' c' hidd hb').2.1⟩
       exact hne (h.vir.inj k k i' i j off b' c' c hidd hidd hb' hc).2
      rw[List.getElem?_set]at hxi
      by_cases hii:i=i'
      ·subst hii
       rw[if_pos rfl,if_pos hi]at hxi
       cases hxi
       by_cases hjo:j=off
       ·subst hjo
        rw[hce,em hfit0 (Nat.le_refl _) (by simp),Nat.sub_self]at hcj
        simp only[List.getElem?_cons_zero,Option.some.injEq]at hcj
        subst hcj
        obtain⟨u1,hu1,hru1⟩:=hel i _ j _ hx0 hcell
        refine⟨u1,hu1, ?_, ?_⟩
        ·have:=hru1.1
         rw[hlen]at this
         exact this
        ·rcases hown' with h1|⟨b2,cap2,g1,_,g3,g4,g5,g6⟩
         ·exact .inl h1
         ·refine .inr ⟨b2,cap2,g1,g3,g4,g5,λi2 e2 j2 c2 he2 hc2=> ?_⟩
          obtain⟨u2,hu2,hru2⟩:=g6 i2 e2 j2 c2 he2 hc2
          refine⟨u2,hu2,hru2.anyJ ?_⟩
          rintro t3 zs rfl
          rw[lU hc2]at hsl;cases hsl
       ·rw[hce,cD hfit0 (by simp;omega)]at hcj
        exact hkeep _ c hx0 hcj (λhc=>hjo hc.2)
      ·rw[if_neg hii]at hxi
       exact hkeep x c hxi hcj (λhc=>hii hc.1.symm)
   ·simp only[af,if_neg e]at hx
    have hkl:s.obj k≠none:=by rw[hx];simp
    refine(h.objs k x hx).ext hext rfl hB.size (λb cap hM=>⟨hnot b (λc hc=>h.vir.dis id k i off b c cap hidd hkl hc hM) (h.blk hkl hM).2, ?_⟩) rfl λhd k2 j b c hM=>hnot b (λc' hc=> ?_) (h.vir.lt k k2 j b c (by rw[hx];exact hd) hM).2.1
    ·rintro(h1|h1)
     ·exact h1
     ·have:=(hJn b h1).1
      have:=(h.blk hkl hM).2
      omega
    ·exact e (h.vir.inj k id k2 i j off b c c' (by rw[hx];exact hd) hidd hM hc).1
theorem J3 {d:DV}{id iv i off:Nat}(h:MV d=some (id,iv,i,off)):d= .v false [.inn id iv i off]:=by
 unfold MV at h
 split at h
 ·cases h;rfl
 ·cases h
theorem Ly (h:SimX w0 mo n I0 I M s a w){f:Nat}{args:List Operand}{tys:List TypeId}{ids:List Nat}{us:List Value}(hcaps:ar (λid u=>∃cs b,s.obj id=some (.box cs)∧M id=some (b,0)∧u= .pointer (some ⟨b,0,none⟩)) ids us){e:Eff}
  (hr:aU (kI P) s (CF te base f args tys ids) e)(hid:∀id∈(au base e.new).map (·.1),s.obj id=none)(vs:Array Value)(hvs:vs.toList=args.map a.eval++us):
  (∀args w,(callFunc f args).run P w= .ok (.enter f args) w)∧Calls P f vs w λe' w'=>∃v I' M' obj',e'= .returned v∧SimX w0 mo n I0 I' M' ⟨s.tmp,obj'⟩ a w'∧hU ⟨w0.heap.size,I0,I',M',obj',w'⟩ e.val v∧
   ∀id,obj' id=(match ac (e.upd++au base e.new) id with|some o=>some o|none=>s.obj id):=by
 unfold CF at hr
 split at hr
 ·rename_i t y hm
  have hr:=hr.tmp
  split at hr
  ·rename_i id iv i off hinn
   have ht:=h.tmps t
   rw[J3 hinn]at ht
   obtain⟨c,hc,hv⟩:=ht
   cases hc
   have hus:us=[]:=by
    cases us with
    |nil=>rfl
    |cons _ _=>exact hcaps.elim
   subst hus
   exact N6 h hv hr vs (by rw[hvs];rfl)
  ·exact BO h hcaps hr hid vs hvs
 ·exact BO h hcaps hr hid vs hvs
theorem Hw (h:SimX w0 mo n I0 I M s a w){f:Nat}{args:List Operand}{tys:List TypeId}{ids:List Nat}{us:List Value}(hcaps:ar (λid u=>∃cs b,s.obj id=some (.box cs)∧M id=some (b,0)∧u= .pointer (some ⟨b,0,none⟩)) ids us){e:Eff}
  (hr:aU (kI P) s (CF te base f args tys ids) e)(hid:∀id∈(au base e.new).map (·.1),s.obj id=none)(vs:Array Value)(hvs:vs.toList=args.map a.eval++us)
  (hrun:execOp a.eval o=callFunc f vs)(hd:∀d,o.dst=some d→d<n){K:Act→World→Prop}{Q:Exit→Act→World→Prop}
  (hK:∀a' w',ui w0 mo n I0 (s.wr o.dst e.val (e.upd++au base e.new)) a' w'→K a' w'):o.wp P a w K Q:=by
 obtain⟨henter,hcalls⟩:=Ly h hcaps hr hid vs hvs
 unfold Oper.wp
 rw[hrun,henter,Oper.upon_enter]
 refine hcalls.mono ?_
 rintro e' w' ⟨v,I',M',obj',rfl,hs,hv,hobj⟩
 refine hK _ _ ⟨I',M', ?_⟩
 have:=hs.put (dst:=o.dst) hd hv
 have e1:(FSt.mk s.tmp obj').wr o.dst e.val []=s.wr o.dst e.val (e.upd++au base e.new):=by
  simp only[FSt.wr,FSt.mk.injEq,true_and]
  funext id
  simp only[ac]
  exact hobj id
 rw[e1]at this
 exact this
end
end Go.Proofs.YtffjmkhjhchnmaaGreat
