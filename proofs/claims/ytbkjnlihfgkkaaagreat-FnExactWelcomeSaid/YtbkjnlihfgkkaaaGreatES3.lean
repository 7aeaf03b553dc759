/-
  Contracts of functions and plain laws (printed by a program): each theorem says what a function of the program returns; conditions are its hypotheses.
-/
import Derived.Test.YtbkjnlihfgkkaaaGreatES2
set_option linter.all false
set_option maxRecDepth 4000
namespace Go.Proofs.YtbkjnlihfgkkaaaGreat
open Go Go.RowKit
noncomputable section
theorem Kk (x:Recv)(seq:Int)(t:aA)(fin:Bool)(hs:bJ x.held)(ht:t.length≤4294967296):su.f (x,seq,t,fin,())=md x seq t fin:=by
 simp only[PX,su,rP,zG x hs]
 unfold md
 cases hok:br.f (x,())with
 |false=>rfl
 |true=>
 cases hdn:x.done with
 |true=>rfl
 |false=>
 have hx:=(qb x hs).1 hok
 have hpo:cU po x.held:=Eu x hx
 obtain⟨r2,e1⟩:=W9 x seq (nY x) t ⟨hx.n0,hx.n1⟩ ht (⟨0,[],[],0,false⟩:Recv) (mP x.held)
 have hsl:=Ek x hx seq t
 have hw:=oT x hx.dl
 have hn0:=hx.n0
 have hn1:=hx.n1
 have hf0:=hx.f0
 have hf1:=hx.f1
 have hL:Fr x seq t=xj x seq (nY x) (mP x.held) 0 t:=rfl
 rw[←hL]at e1 hsl
 have ee:IntKind.wrap .i64 ((seq+(t.length:Int))%4294967296-x.next)%4294967296=(seq+(t.length:Int)-x.next)%4294967296:=by
  rw[au (by omega) (by omega),Qw]
 simp only[Bool.not_true,cond_false,pg,gJ x hx.dl,Pb x hpo,eQ,e1,Stp.elim,PX,ig,bH,m8,true_and,if_true,ee]
 obtain⟨e,he⟩:∃e,(seq+(t.length:Int)-x.next)%4294967296=e:=⟨_,rfl⟩
 have he0:0≤e:=by omega
 obtain⟨sl,hsl2⟩:∃sl,Fr x seq t=sl:=⟨_,rfl⟩
 simp only[he,hsl2]at hsl⊢
 clear e1 ee hL he hsl2
 obtain⟨hl,hat⟩:=hsl
 have hr:∀s∈sl,s≤255:=λs hs=>by
  obtain⟨k,hk,rfl⟩:=List.getElem_of_mem hs
  exact(hat k _ (List.getElem?_eq_getElem hk)).2.1
 have hld:ax sl<sl.length:=by
  rcases Nat.lt_or_ge (ax sl) sl.length with h|h
  ·exact h
  ·obtain⟨s,h1,h2⟩:=qu sl 32 (by omega)
   have:=(hat 32 s h1).2.2 h2
   split at this<;>omega
 have hc:(bif fin then bif decide (x.fin<0)then bif decide (e≤nY x)then(rK.f (sl,e,()),())else(false,())else(false,())else(false,())).1=decide (fin=true∧x.fin<0∧e≤nY x∧(sl.drop e.toNat).all (λs=>decide (s<0))=true):=by
  cases fin with
  |false=>simp
  |true=>
   by_cases c1:x.fin<0
   ·by_cases c2:e≤nY x
    ·have h1:=Sk sl e.toNat (by omega)
     rw[show((e.toNat:Nat):Int)=e by omega]at h1
     simp only[cond_true,decide_eq_true c1,decide_eq_true c2,h1]
     simp only[c1,c2,true_and,Bool.decide_eq_true]
    ·simp[c1,c2]
   ·simp[c1]
 have tail:∀(r u:Recv),(d6 (0,x,r,u,sl,[],())).lp.s= .out ((ax sl:Int),({r with held:=[]}:Recv),sl.take (ax sl)):=by
  intro r u
  have:=T9 sl hr hld (ax sl) 0 r (by omega)
  rw[←ar sl.length]at this
  exact this
 have tp:∀(r u:Recv) (w:Int×Recv×List Int),(d6 (0,x,r,u,sl,[],())).lp.o w= .inl w:=λ_ _ _=>rfl
 have hld2:(ax sl:Int)≤33:=by omega
 by_cases hcc:fin=true∧x.fin<0∧e≤nY x∧(sl.drop e.toNat).all (λs=>decide (s<0))=true
 ·have hfn:Ea x sl e fin=e:=if_pos hcc
  have hew:=hcc.2.2.1
  rw[hfn]
  simp only[hc,decide_eq_true hcc,cond_true]
  dsimp only[Tr.nice]
  simp only[PX,tail,tp,Stp.elim,Sum.elim_inl,z8,Co sl hr hl (ax sl) (by omega)]
  unfold MZ
  have hd:decide (0≤e)=true:=decide_eq_true (by omega)
  simp only[hd,cond_true]
  rw[au (m:=e-(ax sl:Int)) (by omega) (by omega)]
  change (bif ((e-(ax sl:Int))==0)then(bif decide ((3:Int)<((cf 33 0 (sl.drop (ax sl))).length:Int))then dN.f (x,())else(⟨((x.next+(ax sl:Int))%4294967296+1)%4294967296,x.data++ay (sl.take (ax sl)),cf 33 0 (sl.drop (ax sl)),-1,true⟩:Recv))else(bif decide ((3:Int)<((cf 33 0 (sl.drop (ax sl))).length:Int))then dN.f (x,())else(⟨(x.next+(ax sl:Int))%4294967296,x.data++ay (sl.take (ax sl)),cf 33 0 (sl.drop (ax sl)),(e-(ax sl:Int)),false⟩:Recv)))=_
  rw[rP]
  by_cases h3:3<(cf 33 0 (sl.drop (ax sl))).length
  ·rw[if_pos h3,decide_eq_true (show(3:Int)<((cf 33 0 (sl.drop (ax sl))).length:Int) by omega)]
   cases(e-(ax sl:Int)==0)<;>rfl
  ·rw[if_neg h3,decide_eq_false (show¬(3:Int)<((cf 33 0 (sl.drop (ax sl))).length:Int) by omega)]
   by_cases h4:e-(ax sl:Int)=0
   ·rw[if_pos h4,show(e-(ax sl:Int)==0)=true by simp[h4]]
    simp only[cond_true,cond_false]
    rw[show((x.next+(ax sl:Int))%4294967296+1)%4294967296=(x.next+(ax sl:Int)+1)%4294967296 by omega]
   ·rw[if_neg h4,show(e-(ax sl:Int)==0)=false by simp[h4]]
    simp only[cond_false,if_neg (show¬e= -1 by omega),hdn]
 ·have hfn:Ea x sl e fin=x.fin:=if_neg hcc
  rw[hfn]
  simp only[hc,decide_eq_false hcc,cond_false]
  dsimp only[Tr.nice]
  simp only[PX,tail,tp,Stp.elim,Sum.elim_inl,z8,Co sl hr hl (ax sl) (by omega)]
  unfold MZ
  by_cases hF:0≤x.fin
  ·have hd:decide (0≤x.fin)=true:=decide_eq_true (by omega)
   simp only[hd,cond_true]
   rw[au (m:=x.fin-(ax sl:Int)) (by omega) (by omega)]
   change (bif ((x.fin-(ax sl:Int))==0)then(bif decide ((3:Int)<((cf 33 0 (sl.drop (ax sl))).length:Int))then dN.f (x,())else(⟨((x.next+(ax sl:Int))%4294967296+1)%4294967296,x.data++ay (sl.take (ax sl)),cf 33 0 (sl.drop (ax sl)),-1,true⟩:Recv))else(bif decide ((3:Int)<((cf 33 0 (sl.drop (ax sl))).length:Int))then dN.f (x,())else(⟨(x.next+(ax sl:Int))%4294967296,x.data++ay (sl.take (ax sl)),cf 33 0 (sl.drop (ax sl)),(x.fin-(ax sl:Int)),x.done⟩:Recv)))=_
   rw[rP]
   by_cases h3:3<(cf 33 0 (sl.drop (ax sl))).length
   ·rw[if_pos h3,decide_eq_true (show(3:Int)<((cf 33 0 (sl.drop (ax sl))).length:Int) by omega)]
    cases(x.fin-(ax sl:Int)==0)<;>rfl
   ·rw[if_neg h3,decide_eq_false (show¬(3:Int)<((cf 33 0 (sl.drop (ax sl))).length:Int) by omega)]
    by_cases h4:x.fin-(ax sl:Int)=0
    ·rw[if_pos h4,show(x.fin-(ax sl:Int)==0)=true by simp[h4]]
     simp only[cond_true,cond_false]
     rw[show((x.next+(ax sl:Int))%4294967296+1)%4294967296=(x.next+(ax sl:Int)+1)%4294967296 by omega]
    ·rw[if_neg h4,show(x.fin-(ax sl:Int)==0)=false by simp[h4]]
     simp only[cond_false,if_neg (show¬x.fin= -1 by omega),hdn]
  ·have hF1:x.fin= -1:=by omega
   have hd:decide (0≤x.fin)=false:=decide_eq_false hF
   simp only[hd,cond_false]
   change (bif (x.fin==0)then(bif decide ((3:Int)<((cf 33 0 (sl.drop (ax sl))).length:Int))then dN.f (x,())else(⟨((x.next+(ax sl:Int))%4294967296+1)%4294967296,x.data++ay (sl.take (ax sl)),cf 33 0 (sl.drop (ax sl)),-1,true⟩:Recv))else(bif decide ((3:Int)<((cf 33 0 (sl.drop (ax sl))).length:Int))then dN.f (x,())else(⟨(x.next+(ax sl:Int))%4294967296,x.data++ay (sl.take (ax sl)),cf 33 0 (sl.drop (ax sl)),x.fin,x.done⟩:Recv)))=_
   rw[rP]
   rw[show(x.fin==0)=false by simp[hF1]]
   by_cases h3:3<(cf 33 0 (sl.drop (ax sl))).length
   ·rw[if_pos h3,decide_eq_true (show(3:Int)<((cf 33 0 (sl.drop (ax sl))).length:Int) by omega)]
    rfl
   ·rw[if_neg h3,decide_eq_false (show¬(3:Int)<((cf 33 0 (sl.drop (ax sl))).length:Int) by omega)]
    rw[if_neg (show¬x.fin-(ax sl:Int)=0 by omega),if_pos hF1,hF1,hdn]
    rfl
theorem Gi (x:Recv)(seq:Int)(t:aA)(fin:Bool)(hx:RV x):RV (md x seq t fin):=by
 unfold md
 by_cases hc:br.f (x,())=true∧x.done=false
 ·rw[if_pos hc]
  obtain⟨hl,hat⟩:=Ek x hx seq t
  have hw:=oT x hx.dl
  have hf0:=hx.f0
  have hf1:=hx.f1
  change (Fr x seq t).length=33 at hl
  change ∀(k:Nat) (s:Int),(Fr x seq t)[k]? =some s→_ at hat
  generalize Fr x seq t=sl at hl hat
  have he0:0≤(seq+(t.length:Int)-x.next)%4294967296:=by omega
  generalize(seq+(t.length:Int)-x.next)%4294967296=e at he0
  unfold Ea
  split
  ·rename_i h
   obtain⟨h1,h2,h3,h4⟩:=h
   refine Qg x sl e hx hc.2 hl (by omega) h3 (λk s hk hs=> ?_)
   rw[if_neg (show¬e= -1 by omega)]
   apply Int.not_le.1
   intro hke
   rw[List.all_eq_true]at h4
   have hm:s∈sl.drop e.toNat:=by
    refine List.mem_of_getElem? (i:=k-e.toNat) ?_
    rw[List.getElem?_drop,show e.toNat+(k-e.toNat)=k by omega];exact hk
   have:=h4 s hm
   simp only[decide_eq_true_eq]at this
   omega
  ·exact Qg x sl x.fin hx hc.2 hl (by omega) hf1 (λk s hk hs=>(hat k s hk).2.2 hs)
 ·rw[if_neg hc];exact hx
def qj (a b:Int):Int:=if 2147483647<(a-b)%4294967296 then(a-b)%4294967296-4294967296 else(a-b)%4294967296
theorem tC (a b:Int):oY.f (a,b,())=qj a b:=by
 simp only[PX,oY,m8,z8]
 rw[au (m:=a%4294967296-b%4294967296) (by omega) (by omega),show(a%4294967296-b%4294967296)%4294967296=(a-b)%4294967296 by omega]
 unfold qj
 by_cases h:2147483647<(a-b)%4294967296
 ·rw[decide_eq_true h,if_pos h,au (by omega) (by omega)];rfl
 ·rw[decide_eq_false h,if_neg h];rfl
def DA (s:Sndr):Int:=if s.finSent=true then s.sent+1 else s.sent
theorem rO (s:Sndr)(h:SO s):cG.f (s,())=DA s:=by
 rw[I5 s h];rfl
def ck (s:Sndr)(n:Int):Sndr:=⟨(s.una+n)%4294967296,s.data.drop (if s.sent<n then s.sent else n).toNat,s.sent-(if s.sent<n then s.sent else n),s.fin,if s.sent<n then false else s.finSent,if s.sent<n then true else s.done⟩
def rY (s:Sndr)(ack:Int):Bool:=bp.f (s,())&&(decide (0≤qj ack s.una)&&decide (qj ack s.una≤DA s))
theorem OW (s:Sndr)(ack:Int):DK.f (s,ack,())=if rY s ack=true then(ck s (qj ack s.una),true)else(s,false):=by
 simp only[PX,DK,tC,sG,uS,cx,ig,bH]
 unfold rY
 cases hk:bp.f (s,())with
 |false=>rfl
 |true=>
  have hs:=(EV s).1 hk
  rw[rO s hs]
  have h1:=hs.2.2.2.1
  have h2:=hs.2.2.2.2.1
  have h3:=hs.2.2.1
  generalize qj ack s.una=n
  simp only[Bool.not_true,cond_false,Bool.true_and]
  by_cases hn:0≤n∧n≤DA s
  ·rw[decide_eq_true hn.1,decide_eq_true hn.2]
   simp only[Bool.and_self,Bool.not_true,cond_false,if_true]
   unfold ck
   by_cases hc:s.sent<n
   ·simp only[decide_eq_true hc,if_pos hc,cond_true]
    simp only[PX,aa,List.take_length]
    rw[au (by omega) (by omega)]
   ·simp only[decide_eq_false hc,if_neg hc,cond_false]
    simp only[PX,aa,List.take_length]
    rw[au (by omega) (by omega)]
  ·have e:(decide (0≤n)&&decide (n≤DA s))=false:=by
    rw[Bool.and_eq_false_iff];simp only[decide_eq_false_iff_not];omega
   rw[e];rfl
theorem FK (s:Sndr)(hs:SO s)(n:Int)(h0:0≤n)(h1:n≤DA s):SO (ck s n)∧(ck s n).fin=s.fin∧(s.done=true→(ck s n).done=true):=by
 obtain⟨e1,e2,e3,e4,e5,e6,e7⟩:=hs
 unfold DA at h1
 by_cases hc:s.sent<n
 ·have ea:ck s n=⟨(s.una+n)%4294967296,s.data.drop s.sent.toNat,s.sent-s.sent,s.fin,false,true⟩:=by unfold ck;simp only[if_pos hc]
  rw[ea]
  have hf:s.finSent=true:=by
   cases hfs:s.finSent with
   |true=>rfl
   |false=>rw[hfs]at h1;simp only[Bool.false_eq_true,if_false]at h1;omega
  have hl:=(e6 hf).2
  refine⟨⟨by show 0≤(s.una+n)%4294967296;omega,by show(s.una+n)%4294967296≤4294967295;omega, ?_, ?_, ?_,λh=>(by cases h),λ_=>⟨(e6 hf).1,rfl, ?_⟩⟩,rfl,λ_=>rfl⟩
  ·show(s.data.drop s.sent.toNat).length≤48
   rw[List.length_drop];omega
  ·show 0≤s.sent-s.sent;omega
  ·show s.sent-s.sent≤((s.data.drop s.sent.toNat).length:Int)
   omega
  ·show s.data.drop s.sent.toNat=[]
   exact List.drop_of_length_le (by omega)
 ·have ea:ck s n=⟨(s.una+n)%4294967296,s.data.drop n.toNat,s.sent-n,s.fin,s.finSent,s.done⟩:=by unfold ck;simp only[if_neg hc]
  rw[ea]
  refine⟨⟨by show 0≤(s.una+n)%4294967296;omega,by show(s.una+n)%4294967296≤4294967295;omega, ?_, ?_, ?_, ?_, ?_⟩,rfl,λh=>h⟩
  ·show(s.data.drop n.toNat).length≤48
   rw[List.length_drop];omega
  ·show 0≤s.sent-n;omega
  ·show s.sent-n≤((s.data.drop n.toNat).length:Int)
   rw[List.length_drop];omega
  ·intro h
   refine⟨(e6 h).1, ?_⟩
   have:=(e6 h).2
   show s.sent-n=((s.data.drop n.toNat).length:Int)
   rw[List.length_drop];omega
  ·intro h
   refine⟨(e7 h).1,(e7 h).2.1, ?_⟩
   show s.data.drop n.toNat=[]
   rw[(e7 h).2.2];simp
def mM (k:Int)(sd rd:Bool):Int:=if k=1 then(if rd=true then 4 else 1)else if k=2 then(if sd=true then(if rd=true then 7 else 3)else if rd=true then 5 else 2)else if k=3 then(if rd=true then 7 else 3)else if k=5 then(if sd=true then 7 else 5)else if k=6 then(if sd=true then 8 else 6)else k
theorem Tv (x:Conn):ta.f (x,())=mM x.state x.s.done x.r.done:=by
 simp only[PX,ta]
 unfold mM
 by_cases h1:x.state=1
 ·rw[if_pos h1,h1];cases x.r.done<;>first|rfl|exact h1
 by_cases h2:x.state=2
 ·rw[if_neg h1,if_pos h2,h2];cases x.s.done<;>cases x.r.done<;>first|rfl|exact h2
 by_cases h3:x.state=3
 ·rw[if_neg h1,if_neg h2,if_pos h3,h3];cases x.r.done<;>first|rfl|exact h3
 by_cases h5:x.state=5
 ·rw[if_neg h1,if_neg h2,if_neg h3,if_pos h5,h5];cases x.s.done<;>first|rfl|exact h5
 by_cases h6:x.state=6
 ·rw[if_neg h1,if_neg h2,if_neg h3,if_neg h5,if_pos h6,h6];cases x.s.done<;>first|rfl|exact h6
 rw[if_neg h1,if_neg h2,if_neg h3,if_neg h5,if_neg h6]
 rw[show(x.state==1)=false by simp[h1],show(x.state==2)=false by simp[h2],show(x.state==3)=false by simp[h3],show(x.state==5)=false by simp[h5],show(x.state==6)=false by simp[h6]]
 rfl
def DZ (x:Conn):Bool:=bG.f ({x with state:=mM x.state x.s.done x.r.done,timer:=0,tries:=0},())&&((decide (0≤x.timer)&&decide (x.timer≤4))&&(decide (0≤x.tries)&&decide (x.tries≤3)))
def du (x:Conn):Conn:=
 if DZ x=true then
  if mM x.state x.s.done x.r.done=x.state then x
  else if mM x.state x.s.done x.r.done=7 then{x with state:=7,timer:=4,tries:=0}
  else if mM x.state x.s.done x.r.done=8 then{x with state:=8,timer:=0,tries:=0}
  else{x with state:=mM x.state x.s.done x.r.done}
 else x
theorem Ce (x:Conn)(hs:bJ x.r.held):pS.f (x,())=du x:=by
 simp only[PX,pS,kS,Tv,cx]
 rw[Af ({x with state:=mM x.state x.s.done x.r.done,timer:=0,tries:=0}:Conn) hs]
 unfold du DZ
 generalize(decide (0≤x.timer)&&decide (x.timer≤4))=b1
 generalize(decide (0≤x.tries)&&decide (x.tries≤3))=b2
 generalize mM x.state x.s.done x.r.done=k
 cases bG.f (({x with state:=k,timer:=0,tries:=0}:Conn),())with
 |false=>rfl
 |true=>
 cases b1 with
 |false=>rfl
 |true=>
 cases b2 with
 |false=>rfl
 |true=>
 simp only[Bool.not_true,cond_false,Bool.and_self,if_true]
 by_cases h1:k=x.state
 ·subst h1
  simp only[if_true,beq_self_eq_true,cond_true]
 ·rw[if_neg h1,show(k==x.state)=false by simp[h1]]
  simp only[cond_false]
  by_cases h7:k=7
  ·subst h7;rfl
  ·rw[if_neg h7,show(k==7)=false by simp[h7]]
   simp only[cond_false]
   by_cases h8:k=8
   ·subst h8;rfl
   ·rw[if_neg h8,show(k==8)=false by simp[h8]];rfl
structure TR (x:Conn):Prop where
 tup:az.f (x.tuple,())=true
 snd:SO x.s
 rcv:br.f (x.r,())=true
 opt:aF.f (x.opts,())=true
 s1:1≤x.state
 s7:x.state≤7
 m0:0≤x.most
 m1:x.most≤1073725440
 w0:0≤x.window
 w1:x.window≤x.most
 t0:0≤x.timer
 t4:x.timer≤4
 t3:x.state≠7→x.timer≤3
 r0:0≤x.tries
 r3:x.tries≤3
 fl:Uu (mM x.state x.s.done x.r.done) x.s.fin x.s.done x.r.done=true
theorem UA (k:Int)(sd rd:Bool)(h1:1≤k)(h7:k≤7):1≤mM k sd rd∧mM k sd rd≤8:=by
 unfold mM;repeat' split
 all_goals omega
theorem TR.turned {x:Conn}(h:TR x):CO (du x):=by
 have hk:=UA x.state x.s.done x.r.done h.s1 h.s7
 have hfl:=h.fl
 have hs1:=h.s1
 have hs7:=h.s7
 have hr0:=h.r0
 have hr3:=h.r3
 have ht0:=h.t0
 have ht4:=h.t4
 have hco:CO ({x with state:=mM x.state x.s.done x.r.done,timer:=0,tries:=0}:Conn):=⟨h.tup,h.snd,h.rcv,h.opt,hk.1,hk.2,h.m0,h.m1,h.w0,h.w1,Int.le_refl _,by show(0:Int)≤4;omega,λ_=>by show(0:Int)≤3;omega,Int.le_refl _,by show(0:Int)≤3;omega,hfl⟩
 have hok:DZ x=true:=by
  unfold DZ
  rw[(D1 _).2 hco,decide_eq_true ht0,decide_eq_true ht4,decide_eq_true hr0,decide_eq_true hr3];rfl
 unfold du
 rw[if_pos hok]
 by_cases h1:mM x.state x.s.done x.r.done=x.state
 ·rw[if_pos h1]
  rw[h1]at hfl
  exact⟨h.tup,h.snd,h.rcv,h.opt,hs1,by omega,h.m0,h.m1,h.w0,h.w1,ht0,ht4,h.t3,hr0,hr3,hfl⟩
 ·rw[if_neg h1]
  have hn7:x.state≠7:=by
   intro h7;apply h1;rw[h7];rfl
  have ht3:=h.t3 hn7
  by_cases h7:mM x.state x.s.done x.r.done=7
  ·rw[if_pos h7]
   rw[h7]at hfl
   exact⟨h.tup,h.snd,h.rcv,h.opt,by show(1:Int)≤7;omega,by show(7:Int)≤8;omega,h.m0,h.m1,h.w0,h.w1,by show(0:Int)≤4;omega,Int.le_refl _,λhh=>absurd rfl hh,Int.le_refl _,by show(0:Int)≤3;omega,hfl⟩
  ·rw[if_neg h7]
   by_cases h8:mM x.state x.s.done x.r.done=8
   ·rw[if_pos h8]
    rw[h8]at hfl
    exact⟨h.tup,h.snd,h.rcv,h.opt,by show(1:Int)≤8;omega,Int.le_refl _,h.m0,h.m1,h.w0,h.w1,Int.le_refl _,by show(0:Int)≤4;omega,λ_=>by show(0:Int)≤3;omega,Int.le_refl _,by show(0:Int)≤3;omega,hfl⟩
   ·rw[if_neg h8]
    exact⟨h.tup,h.snd,h.rcv,h.opt,hk.1,hk.2,h.m0,h.m1,h.w0,h.w1,ht0,ht4,λ_=>ht3,hr0,hr3,hfl⟩
theorem zw (x:Conn):(du x).tuple=x.tuple:=by
 unfold du;repeat' split
 all_goals rfl
def gN (w sc:Int):Int:=w*2 ^ (if sc<0 then 0 else sc).toNat
theorem Eg (w sc:Int)(h0:0≤w)(h1:w≤65535)(h2:sc≤14):0≤gN w sc∧gN w sc≤1073725440:=by
 unfold gN
 have hk:(if sc<0 then 0 else sc).toNat≤14:=by split<;>omega
 generalize(if sc<0 then 0 else sc).toNat=k at hk
 have:k=0∨k=1∨k=2∨k=3∨k=4∨k=5∨k=6∨k=7∨k=8∨k=9∨k=10∨k=11∨k=12∨k=13∨k=14:=by omega
 rcases this with rfl|rfl|rfl|rfl|rfl|rfl|rfl|rfl|rfl|rfl|rfl|rfl|rfl|rfl|rfl<;>simp only[Int.reducePow,Int.pow_zero]<;>omega
theorem fw (o:Opti)(h:aF.f (o,())=true): -1≤o.scale∧o.scale≤14:=by
 simp only[PX,aF,aC]at h
 revert h
 cases hq:(decide (-1≤o.scale)&&decide (o.scale≤14))with
 |true=>
  intro _
  simpa [Bool.and_eq_true,decide_eq_true_eq]using hq
 |false=>
  cases aj.f (o.mss,16,())<;>cases o.stamp<;>cases(o.val != 0)<;>cases(o.echo != 0)<;>simp
def tA (c:Conn)(g:Segm):Conn:=
 if rY c.s g.ack=true then
  if((ck c.s (qj g.ack c.s.una)).una≠c.s.una∨DA (ck c.s (qj g.ack c.s.una))=0)∧c.state≠7 then
   ⟨c.tuple,c.state,ck c.s (qj g.ack c.s.una),c.r,gN g.window c.opts.scale,if c.most<gN g.window c.opts.scale then gN g.window c.opts.scale else c.most,c.opts,if 0<DA (ck c.s (qj g.ack c.s.una))then 3 else 0,0⟩
  else⟨c.tuple,c.state,ck c.s (qj g.ack c.s.una),c.r,gN g.window c.opts.scale,if c.most<gN g.window c.opts.scale then gN g.window c.opts.scale else c.most,c.opts,c.timer,c.tries⟩
 else c
def fa (c:Conn)(g:Segm):Conn:=
 if 1≤c.state∧c.state≤3 then du {tA c g with r:=md c.r g.seq g.body (fZ.f (g,1,()))}else du (tA c g)
theorem Tk (k:Int)(h1:1≤k)(h7:k≤7)(sf sd rd sd' rd':Bool)(h:Uu k sf sd rd=true)(hsd:sd=true→sd'=true)(hsf:sd'=true→sf=true)(hrd:rd'=rd∨(rd=false∧k≤3)):Uu (mM k sd' rd') sf sd' rd'=true:=by
 have hk:k=1∨k=2∨k=3∨k=4∨k=5∨k=6∨k=7:=by omega
 rcases hk with rfl|rfl|rfl|rfl|rfl|rfl|rfl<;>revert h hsd hsf hrd<;>revert sf sd rd sd' rd'<;>decide+kernel
theorem RV.small {x:Recv}(h:RV x):bJ x.held:=by
 intro y hy
 have:=Eu x h y hy
 unfold po at this;omega
theorem NJ (m:Int):IntKind.u32.wrap m=m%4294967296:=by
 unfold IntKind.wrap
 simp[IntKind.signed,IntKind.bits]
theorem N6 (m:Int):IntKind.i32.wrap m=(m+2147483648)%4294967296-2147483648:=by
 unfold IntKind.wrap
 simp only[IntKind.signed,IntKind.bits]
 simp
 omega
theorem sC (a b:Int):o9.f (a,b,())=qj a b:=by
 simp only[PX,o9,NJ,N6,dh]
 unfold qj
 split<;>omega
theorem I7 (g:Segm)(n:Int):fZ.f (g,n,())=bk.f (g,n,()):=by simp only[PX,fZ,bk]
theorem sP (g:Segm):gX.f (g,())=aH.f (g,()):=by simp only[PX,gX,aH,I7]
theorem pQ (a b:Int):qN.f (a,b,())=(a-b)%4294967296:=ML a b
def sN (x o n:Int):Bool:=decide (0<n)&&decide ((x-o)%4294967296<n)
theorem nA (x o n:Int):mJ.f (x,o,n,())=sN x o n:=by
 simp only[PX,mJ,m8]
 unfold sN
 rw[au (by omega) (by omega),show(x%4294967296-o%4294967296)%4294967296=(x-o)%4294967296 by omega]
 cases decide (0<n)<;>rfl
theorem ra (x o n:Int):nb.f (x,o,n,())=sN x o n:=by
 simp only[PX,nb,pQ]
 unfold sN
 by_cases h:4294967295<n
 ·rw[decide_eq_true h,decide_eq_true (show 0<n by omega),decide_eq_true (show(x-o)%4294967296<n by omega)];rfl
 ·rw[decide_eq_false h]
  by_cases h1:0<n
  ·rw[decide_eq_true h1,decide_eq_true (show 1≤n by omega)];rfl
  ·rw[decide_eq_false h1,decide_eq_false (show¬1≤n by omega)];rfl
def WL (x n o w:Int):Bool:=decide (0<n)&&(decide (0<w)&&(decide ((x-o)%4294967296<w)||decide ((o-x)%4294967296<n)))
theorem GU (x n o w:Int)(hn:n≤65536):tu.f (x,n,o,w,())=WL x n o w:=by
 simp only[PX,tu,pQ,ra]
 rw[if_neg (show¬65536<n by omega)]
 unfold WL sN
 by_cases h1:0<n
 ·rw[decide_eq_true h1,decide_eq_false (show¬n<1 by omega)]
  by_cases h2:0<w
  ·rw[decide_eq_true h2,decide_eq_false (show¬w<1 by omega)]
   cases decide ((x-o)%4294967296<w)<;>rfl
  ·rw[decide_eq_false h2,decide_eq_true (show w<1 by omega)];rfl
 ·rw[decide_eq_false h1,decide_eq_true (show n<1 by omega)];rfl
theorem IR (x o w:Int):∀(k j:Nat),j+k≤65536→(aU (λj a=>(ii x o w j a).nice) 1 k (j:Int) ()= .next ()∧∀i:Nat,j≤i→i<j+k→sN (x+(i:Int)) o w=false)∨(aU (λj a=>(ii x o w j a).nice) 1 k (j:Int) ()= .out (.inl ())∧∃i:Nat,j≤i∧i<j+k∧sN (x+(i:Int)) o w=true)
 |0,j,_=> .inl ⟨rfl,λi h1 h2=>by omega⟩
 |k+1,j,h=>by
  have ih:=IR x o w k (j+1) (by omega)
  have e:sN ((x+(j:Int))%4294967296) o w=sN (x+(j:Int)) o w:=by
   unfold sN
   rw[show((x+(j:Int))%4294967296-o)%4294967296=(x+(j:Int)-o)%4294967296 by omega]
  simp only[aU,PX,ii,ig,bH,nA,decide_eq_true (show(j:Int)<65536 by omega),cond_true,e]
  simp only[PX,ii,ig,bH,nA]at ih
  cases hj:sN (x+(j:Int)) o w with
  |true=>exact .inr ⟨rfl,j,Nat.le_refl _,by omega,hj⟩
  |false=>
   simp only[cond_false,Stp.elim]
   rw[show(j:Int)+1=((j+1:Nat):Int) by omega]
   rcases ih with⟨h1,h2⟩|⟨h1,i,h2,h3,h4⟩
   ·refine .inl ⟨h1,λi h3 h4=> ?_⟩
    rcases Nat.eq_or_lt_of_le h3 with h5|h5
    ·rw[←h5];exact hj
    ·exact h2 i h5 (by omega)
   ·exact .inr ⟨h1,i,by omega,by omega,h4⟩
theorem HE (x n o w:Int)(hn:n≤65536)(hw:w≤2147483648):tv.f (x,n,o,w,())=WL x n o w:=by
 simp only[PX,tv,ke]
 have key:=IR x o w (Int.toNat (n-0)) 0 (by omega)
 rw[show((0:Nat):Int)=0 from rfl]at key
 unfold WL
 rcases key with⟨h1,h2⟩|⟨h1,i,h2,h3,h4⟩
 ·rw[h1]
  simp only[Stp.elim,Sum.elim_inr,Sum.elim_inl]
  by_cases c1:0<n
  ·by_cases c2:0<w
   ·have a0:=h2 0 (Nat.le_refl _) (by omega)
    unfold sN at a0
    rw[decide_eq_true c2,show x+((0:Nat):Int)=x by omega,Bool.true_and,decide_eq_false_iff_not]at a0
    have a1:¬(o-x)%4294967296<n:=by
     intro h
     have:=h2 ((o-x)%4294967296).toNat (by omega) (by omega)
     unfold sN at this
     rw[decide_eq_true c2,Bool.true_and,decide_eq_false_iff_not]at this
     omega
    rw[decide_eq_true c1,decide_eq_true c2,decide_eq_false a0,decide_eq_false a1];rfl
   ·rw[decide_eq_false c2];cases decide (0<n)<;>rfl
  ·rw[decide_eq_false c1];rfl
 ·rw[h1]
  simp only[Stp.elim,Sum.elim_inr,Sum.elim_inl]
  unfold sN at h4
  simp only[Bool.and_eq_true,decide_eq_true_eq]at h4
  have c1:0<n:=by omega
  rw[decide_eq_true c1,decide_eq_true h4.1]
  by_cases c3:(x-o)%4294967296<w
  ·rw[decide_eq_true c3];rfl
  ·rw[decide_eq_true (show(o-x)%4294967296<n by omega),Bool.or_true];rfl
def PA (c:Conn)(g:Segm):Bool:=bif aH.f (g,())==0 then qj g.seq c.r.next==0||sN g.seq c.r.next (nY c.r)else WL g.seq (aH.f (g,())) c.r.next (nY c.r)
theorem qf (g:Segm)(hb:g.body.length≤60000):0≤aH.f (g,())∧aH.f (g,())≤(g.body.length:Int)+2:=by
 simp only[PX,aH]
 rw[au (m:=(g.body.length:Int)+1) (by omega) (by omega),au (m:=(g.body.length:Int)+1+1) (by omega) (by omega)]
 cases bk.f (g,2,())<;>cases bk.f (g,1,())<;>simp only[cond_true,cond_false]<;>omega
theorem CU (c:Conn)(g:Segm)(hd:c.r.data.length≤32)(hb:g.body.length≤60000):oO.f (c,g,())=PA c g:=by
 have h1:=qf g hb
 have hw:=oT c.r hd
 simp only[PX,oO,sP,pg,gJ c.r hd,tC,nA,HE _ _ _ _ (show aH.f (g,())≤65536 by omega) (show nY c.r≤2147483648 by omega)]
 unfold PA
 cases(aH.f (g,())==0)with
 |false=>rfl
 |true=>cases(qj g.seq c.r.next==0)<;>rfl
theorem Dm (c:Conn)(g:Segm)(hd:c.r.data.length≤32)(hb:g.body.length≤60000):oD.f (c,g,())=PA c g:=by
 have h1:=qf g hb
 have hw:=oT c.r hd
 simp only[PX,oD,gJ c.r hd,sC,ra,GU _ _ _ _ (show aH.f (g,())≤65536 by omega)]
 unfold PA
 cases(aH.f (g,())==0)with
 |false=>rfl
 |true=>cases(qj g.seq c.r.next==0)<;>rfl
def LN (c:Conn)(a:Int):Bool:=decide (qj a c.s.una≤DA c.s)&&(decide (0≤qj a c.s.una)||decide (-c.most≤qj a c.s.una))
theorem KX (c:Conn)(a:Int)(hs:SO c.s)(h0:0≤c.most)(h1:c.most≤1073725440):wE.f (c,a,())=LN c a:=by
 simp only[PX,wE,tC,uS,rO c.s hs]
 unfold LN
 rw[au (by omega) (by omega),decide_eq_false (show¬2147483648≤c.most by omega)]
 generalize qj a c.s.una=d
 cases decide (d≤DA c.s)with
 |false=>rfl
 |true=>
  by_cases h2:0≤d
  ·rw[decide_eq_true h2];rfl
  ·rw[decide_eq_false h2]
   by_cases h3:0<c.most
   ·rw[decide_eq_true h3,show(0-c.most)= -c.most by omega];rfl
   ·rw[decide_eq_false h3,decide_eq_false (show¬-c.most≤d by omega)];rfl
theorem KU (c:Conn)(a:Int)(hs:SO c.s)(h0:0≤c.most)(h1:c.most≤1073725440):we.f (c,a,())=LN c a:=by
 simp only[PX,we,sC,rO c.s hs,aC]
 unfold LN
 rw[if_neg (show¬2147483648<c.most by omega),show(if 0<c.most then c.most else 0)=c.most by split<;>omega,au (by omega) (by omega),show(0-c.most)= -c.most by omega]
 generalize qj a c.s.una=d
 by_cases h2:0≤d
 ·rw[decide_eq_true h2,decide_eq_true (show-c.most≤d by omega)];simp
 ·rw[decide_eq_false h2,Bool.and_comm];simp
def AO (c:Conn)(g:Segm):Int:=
 bif bG.f (c,())&&(!(c.state==8)&&ae.f (g,()))then
  bif bk.f (g,4,())then(bif g.seq==c.r.next then 2 else bif sN g.seq c.r.next (nY c.r)then 3 else 1)
  else bif bk.f (g,2,())then 3
  else bif !PA c g then 4
  else bif !bk.f (g,16,())then 1
  else bif !LN c g.ack then 3 else 5
 else 1
theorem lE (g:Segm)(h:ae.f (g,())=true):g.body.length≤1420:=by
 simp only[PX,ae]at h
 revert h
 cases aj.f (g.from_,16,())<;>cases aj.f (g.to,16,())<;>cases aj.f (g.seq,32,())<;>cases aj.f (g.ack,32,())<;>cases aj.f (g.flags,6,())<;>cases aj.f (g.window,16,())<;>cases aF.f (g.opts,())<;>simp<;>omega
theorem AH (c:Conn)(g:Segm)(hs:bJ c.r.held):rZ.f (c,g,())=AO c g:=by
 simp only[PX,rZ,Af c hs,vr,I7]
 unfold AO
 rcases Bool.eq_false_or_eq_true (bG.f (c,()))with h1|h1
 case inr=>rw[h1];rfl
 rcases Bool.eq_false_or_eq_true (c.state==8)with h2|h2
 ·rw[h1,h2];rfl
 rcases Bool.eq_false_or_eq_true (ae.f (g,()))with h3|h3
 case inr=>rw[h1,h2,h3];rfl
 have hc:=(D1 c).1 h1
 have hr:=(qb c.r hs).1 hc.rcv
 have hb:=lE g h3
 simp only[h1,h2,h3,pg,gJ c.r hr.dl,nA,CU c g hr.dl (by omega),KX c g.ack hc.snd hc.m0 hc.m1,Bool.not_true,Bool.not_false,cond_true,cond_false,Bool.and_self]
 cases bk.f (g,4,())with
 |false=>rfl
 |true=>cases(g.seq==c.r.next)<;>cases sN g.seq c.r.next (nY c.r)<;>rfl
theorem yS (c:Conn)(g:Segm)(hs:bJ c.r.held):rE.f (c,g,())=AO c g:=by
 simp only[PX,rE]
 unfold AO
 rcases Bool.eq_false_or_eq_true (bG.f (c,()))with h1|h1
 case inr=>rw[h1];rfl
 rcases Bool.eq_false_or_eq_true (c.state==8)with h2|h2
 ·rw[h1,h2];rfl
 rcases Bool.eq_false_or_eq_true (ae.f (g,()))with h3|h3
 case inr=>rw[h1,h2,h3];rfl
 have hc:=(D1 c).1 h1
 have hr:=(qb c.r hs).1 hc.rcv
 have hb:=lE g h3
 simp only[h1,h2,h3,gJ c.r hr.dl,ra,Dm c g hr.dl (by omega),KU c g.ack hc.snd hc.m0 hc.m1,Bool.not_true,Bool.not_false,cond_true,cond_false,Bool.and_self]
def gP (w:Nat)(sl:List Int):List Bool:=(sl.take w).map (λs=>decide (0≤s))
def ld (w:Nat)(sl:List Int):List Int:=(sl.take w).map (λs=>if s<0 then 0 else s)
def WC (sl:List Int)(o b:Int):List Int:=if sl.getD o.toNat 0<0 then sl.set o.toNat b else sl
theorem TS (w:Nat)(sl:List Int)(o:Nat)(b:Int)(hb:0≤b):gP w (sl.set o b)=(gP w sl).set o true:=by
 unfold gP
 rw[List.take_set,List.map_set,decide_eq_true hb]
theorem S0 (w:Nat)(sl:List Int)(o:Nat)(b:Int)(hb:0≤b):ld w (sl.set o b)=(ld w sl).set o b:=by
 unfold ld
 rw[List.take_set,List.map_set,if_neg (show¬b<0 by omega)]
theorem sr (w:Nat)(sl:List Int)(o:Nat)(ho:o<w)(hl:w≤sl.length):(gP w sl).getD o false=decide (0≤sl.getD o 0):=by
 unfold gP
 simp[List.getD,List.getElem?_take,ho,show o<sl.length by omega]
theorem ER (w:Nat)(sl:List Int)(o b:Int)(h0:0≤o)(h1:o<(w:Int))(hl:w≤sl.length)(hb:0≤b):fS.f (o,b,gP w sl,ld w sl,())=(gP w (WC sl o b),ld w (WC sl o b)):=by
 simp only[PX,fS]
 rw[sr w sl o.toNat (by omega) hl]
 unfold WC
 by_cases h:sl.getD o.toNat 0<0
 ·rw[decide_eq_false (by omega),if_pos h,TS _ _ _ _ hb,S0 _ _ _ _ hb];rfl
 ·rw[decide_eq_true (by omega),if_neg h];rfl
theorem Vv (p:Piec)(w:Nat)(h1:1≤p.off)(h2:p.off+(p.text.length:Int)≤(w:Int))(hw:w≤33):∀(n k:Nat) (sl:List Int) (r:Recv),w≤sl.length→k+n=p.text.length→(∀(j:Nat) (s:Int),p.off.toNat+k≤j→sl[j]? =some s→s<0)→∃r2,aU (λj a=>(mH p j a).nice) 1 n (k:Int) (r,ld w sl,gP w sl)= .next (r2,ld w (pj sl (p.off.toNat+k) (p.text.drop k)),gP w (pj sl (p.off.toNat+k) (p.text.drop k)))
 |0,k,sl,r,hl,h,hf=>⟨r,by rw[List.drop_of_length_le (by omega)];rfl⟩
 |n+1,k,sl,r,hl,h,hf=>by
  have hk:k<p.text.length:=by omega
  have ho:p.off.toNat+k<sl.length:=by omega
  have hfree:=hf (p.off.toNat+k) sl[p.off.toNat+k] (Nat.le_refl _) (List.getElem?_eq_getElem ho)
  have hst:WC sl (p.off+(k:Int)) (p.text[k].toNat:Int)=sl.set (p.off.toNat+k) (p.text[k].toNat:Int):=by
   unfold WC
   rw[show(p.off+(k:Int)).toNat=p.off.toNat+k by omega,getD_some (List.getElem?_eq_getElem ho),if_pos hfree]
  obtain⟨r2,e⟩:=Vv p w h1 h2 hw n (k+1) (sl.set (p.off.toNat+k) (p.text[k].toNat:Int)) ({r with held:=[]}:Recv) (by rw[List.length_set];exact hl) (by omega) (λj s hj hs=>by
   rw[List.getElem?_set_ne (by omega)]at hs
   exact hf j s (by omega) hs)
  refine⟨r2, ?_⟩
  rw[List.drop_eq_getElem_cons hk]
  simp only[pj]
  simp only[aU,PX,mH,aa,IL _ _ hk]
  rw[au (by omega) (by omega),ER w sl _ _ (by omega) (by omega) hl (by omega),hst]
  simp only[Stp.elim]
  rw[show(k:Int)+1=((k+1:Nat):Int) by omega]
  exact e
theorem ID:∀(t:aA) (sl:List Int) (o:Nat) (a:Int),((o:Int)+(t.length:Int)≤a)→(∀(j:Nat) (s:Int),a≤(j:Int)→sl[j]? =some s→s<0)→∀(j:Nat) (s:Int),a≤(j:Int)→(pj sl o t)[j]? =some s→s<0
 |[],_,_,_,_,h,j,s,hj,hs=>h j s hj hs
 |b::t,sl,o,a,ha,h,j,s,hj,hs=>by
  simp only[pj]at hs
  simp only[List.length_cons]at ha
  refine ID t (sl.set o (b.toNat:Int)) (o+1) a (by omega) (λj s hj hs=> ?_) j s hj hs
  rw[List.getElem?_set_ne (by omega)]at hs
  exact h j s hj hs
theorem QO (v0:Int)(v1:aA)(v2:Bool)(v3:Int)(v4:List Piec)(v5:Int)(v7 v9:Recv)(w:Nat)(hw:w≤33):∀(held:List Piec) (j:Nat) (a b:Int) (L:Int) (sl:List Int) (r:Recv),eh L a held=some b→0≤a→L≤(w:Int)→w≤sl.length→(∀(j:Nat) (s:Int),a≤(j:Int)→sl[j]? =some s→s<0)→(∀p∈held,p.text.length≤33)→∃r2,eJ (W:=Empty) (λ_ p (x:Recv×List Int×List Bool)=>(gv v0 v1 v2 v3 [p] v5 v7 v9 0 x).nice) j held (r,ld w sl,gP w sl)= .next (r2,ld w (held.foldl (λsl p=>pj sl p.off.toNat p.text) sl),gP w (held.foldl (λsl p=>pj sl p.off.toNat p.text) sl))
 |[],_,a,b,L,sl,r,_,_,_,_,_,_=>⟨r,rfl⟩
 |p::held,j,a,b,L,sl,r,hp,ha,hL,hl,hf,ht=>by
  simp only[eh]at hp
  cases hc:((p.text==[])||decide (p.off≤a)||decide (L<p.off+(p.text.length:Int)))with
  |true=>rw[hc]at hp;cases hp
  |false=>
   rw[hc]at hp
   simp only[Bool.or_eq_false_iff,decide_eq_false_iff_not]at hc
   have hpl:=ht p (List.mem_cons_self ..)
   obtain⟨r1,e1⟩:=Vv p w (by omega) (by omega) hw p.text.length 0 sl ({r with held:=[]}:Recv) hl (by omega) (λj s hj hs=>hf j s (by omega) hs)
   rw[List.drop_zero,Nat.add_zero]at e1
   obtain⟨r2,e2⟩:=QO v0 v1 v2 v3 v4 v5 v7 v9 w hw held (j+1) _ b L (pj sl p.off.toNat p.text) ({r1 with held:=[]}:Recv) hp (by omega) hL (by rw[EE];exact hl) (ID p.text sl p.off.toNat _ (by omega) (λj s hj hs=>hf j s (by omega) hs)) (λq hq=>ht q (List.mem_cons_of_mem _ hq))
   refine⟨r2, ?_⟩
   rw[eJ]
   rw[show(gv v0 v1 v2 v3 [p] v5 v7 v9 0 (r,ld w sl,gP w sl)).nice= .next (({r1 with held:=[]}:Recv),ld w (pj sl p.off.toNat p.text),gP w (pj sl p.off.toNat p.text)) by
    simp only[PX,gv,cQ,show Int.toNat 0=0 from rfl,List.getD_cons_zero]
    rw[ar]
    refine(congrArg (Stp.elim _ _) e1).trans ?_
    rfl]
   simp only[Stp.elim]
   exact e2
theorem Vz (v0:Int)(v1:aA)(x:Recv)(w:Nat)(hw:w≤33)(hf: -1≤x.fin):∀(t:aA) (j:Nat) (sl:List Int) (r:Recv),w≤sl.length→(∀i,t[i]? =v1[j+i]?)→∃r2,aU (λj a=>(lB v0 v1 (w:Int) x j a).nice) 1 t.length (j:Int) (r,ld w sl,gP w sl)= .next (r2,ld w (xj x v0 (w:Int) sl j t),gP w (xj x v0 (w:Int) sl j t))
 |[],j,sl,r,hl,ht=>⟨r,rfl⟩
 |b::t,j,sl,r,hl,ht=>by
  have hb:v1[j]? =some b:=by have:=ht 0;simpa using this.symm
  have hbt:ce v1 j=(b.toNat:Int):=by simp[ce,List.getD,hb]
  have hll:(yD x v0 (w:Int) sl j b).length=sl.length:=by unfold yD;split<;>simp
  obtain⟨r2,e⟩:=Vz v0 v1 x w hw hf t (j+1) (yD x v0 (w:Int) sl j b) ({r with held:=[]}:Recv) (by rw[hll];exact hl) (λi=>by have:=ht (i+1);simp only[List.getElem?_cons_succ]at this;rw[this];congr 1;omega)
  refine⟨r2, ?_⟩
  have eo:((v0+(j:Int))%4294967296-x.next)%4294967296=(v0+(j:Int)-x.next)%4294967296:=by omega
  have hst:(bif (bif decide ((v0+(j:Int)-x.next)%4294967296<(w:Int))then bif x.fin== -1 then(true,())else(decide ((v0+(j:Int)-x.next)%4294967296<x.fin),())else(false,())).1 then(.next (({r with held:=[]}:Recv),(fS.f ((v0+(j:Int)-x.next)%4294967296,(b.toNat:Int),gP w sl,ld w sl,())).2,(fS.f ((v0+(j:Int)-x.next)%4294967296,(b.toNat:Int),gP w sl,ld w sl,())).1):Stp (Recv×List Int×List Bool) Empty)else .next (({r with held:=[]}:Recv),ld w sl,gP w sl))= .next (({r with held:=[]}:Recv),ld w (yD x v0 (w:Int) sl j b),gP w (yD x v0 (w:Int) sl j b)):=by
   have h0:0≤(v0+(j:Int)-x.next)%4294967296:=by omega
   unfold yD
   generalize(v0+(j:Int)-x.next)%4294967296=o at h0
   by_cases c1:o<(w:Int)
   ·rw[ER w sl o _ h0 c1 hl (by omega)]
    unfold WC
    rw[decide_eq_true c1]
    by_cases c2:x.fin= -1
    ·rw[show(x.fin== -1)=true by simp[c2]]
     by_cases c3:sl.getD o.toNat 0<0
     ·rw[if_pos c3,if_pos ⟨c1,.inl (by omega),c3⟩];rfl
     ·rw[if_neg c3,if_neg (λh=>c3 h.2.2)];rfl
    ·rw[show(x.fin== -1)=false by simp[c2]]
     by_cases c4:o<x.fin
     ·rw[decide_eq_true c4]
      by_cases c3:sl.getD o.toNat 0<0
      ·rw[if_pos c3,if_pos ⟨c1,.inr c4,c3⟩];rfl
      ·rw[if_neg c3,if_neg (λh=>c3 h.2.2)];rfl
     ·rw[decide_eq_false c4,if_neg (show¬(o<(w:Int)∧(x.fin<0∨o<x.fin)∧sl.getD o.toNat 0<0) from λh=>h.2.1.elim (λh=>by omega) c4)];rfl
   ·rw[decide_eq_false c1,if_neg (show¬(o<(w:Int)∧(x.fin<0∨o<x.fin)∧sl.getD o.toNat 0<0) from λh=>c1 h.1)];rfl
  simp only[List.length_cons,aU,PX,lB,bH,pQ,eo,aa,hbt,xj]
  rw[hst]
  simp only[Stp.elim]
  rw[show(j:Int)+1=((j+1:Nat):Int) by omega]
  simp only[PX,lB,bH,pQ]at e
  exact e
theorem Fp {f:Int→Recv→Stp Recv (Int×Recv)}{g:Recv→Recv}(w:Nat)(sl:List Int)(hl:w≤sl.length)(hf:∀(j:Nat) r,f (j:Int) r=bif (gP w sl).getD j false then .next (g r)else .out ((j:Int),g r))(i:Nat)(hi:i+ax (sl.drop i)≤w):∀(n j:Nat) (r:Recv),j+n=w→i≤j→j≤i+ax (sl.drop i)→∃r2,(i+ax (sl.drop i)<w∧aU f 1 n (j:Int) r= .out (((i+ax (sl.drop i):Nat):Int),r2))∨(i+ax (sl.drop i)=w∧aU f 1 n (j:Int) r= .next r2)
 |0,j,r,h,_,h2=>⟨r,.inr ⟨by omega,rfl⟩⟩
 |n+1,j,r,h,h1,h2=>by
  have hj:j<w:=by omega
  rcases Nat.eq_or_lt_of_le h2 with h3|h3
  ·refine⟨g r,.inl ⟨by omega, ?_⟩⟩
   have hjl:j<sl.length:=by omega
   have hneg:=BW (sl.drop i) sl[j] (by rw[List.getElem?_drop,show i+ax (sl.drop i)=j by omega];exact List.getElem?_eq_getElem hjl)
   simp only[aU,hf]
   rw[sr w sl j hj hl,getD_some (List.getElem?_eq_getElem hjl),decide_eq_false (by omega),←h3]
   rfl
  ·obtain⟨s,hs1,lg⟩:=qu (sl.drop i) (j-i) (by omega)
   rw[List.getElem?_drop,show i+(j-i)=j by omega]at hs1
   obtain⟨r2,h4⟩:=Fp (g:=g) w sl hl hf i hi n (j+1) (g r) (by omega) (by omega) (by omega)
   refine⟨r2, ?_⟩
   have e:aU f 1 (n+1) (j:Int) r=aU f 1 n ((j+1:Nat):Int) (g r):=by
    simp only[aU,hf]
    rw[sr w sl j hj hl,getD_some hs1,decide_eq_true lg]
    simp only[cond_true,Stp.elim]
    rw[show(j:Int)+1=((j+1:Nat):Int) by omega]
   rw[e];exact h4
theorem wL:∀(k k':Nat) (i:Int) (r:List Int),r.length≤k→r.length≤k'→cf k i r=cf k' i r
 |0,k',_,r,h,_=>by
  have:r=[]:=List.eq_nil_of_length_eq_zero (by omega)
  subst this;cases k'<;>simp[cf]
 |k+1,0,_,r,_,h=>by
  have:r=[]:=List.eq_nil_of_length_eq_zero (by omega)
  subst this;simp[cf]
 |k+1,k'+1,i,[],_,_=>by simp[cf]
 |k+1,k'+1,i,s::r,h1,h2=>by
  simp only[List.length_cons]at h1 h2
  simp only[cf]
  have hd:(r.dropWhile (λx=>decide (0≤x))).length≤r.length:=(List.dropWhile_sublist _).length_le
  rw[wL k k' (i+1) r (by omega) (by omega),wL k k' _ (r.dropWhile (λx=>decide (0≤x))) (by omega) (by omega)]
theorem L9 (w:Nat)(sl:List Int)(i n:Nat)(h:i+n≤w)(hn:∀(j:Nat) (s:Int),i≤j→j<i+n→sl[j]? =some s→0≤s):((ld w sl).take (i+n)).drop i=(sl.drop i).take n:=by
 apply List.ext_getElem?
 intro k
 unfold ld
 rw[List.getElem?_drop,List.getElem?_take,List.getElem?_take,List.getElem?_drop,List.getElem?_map,List.getElem?_take]
 by_cases hk:k<n
 ·rw[if_pos (by omega),if_pos hk,if_pos (by omega)]
  cases hs:sl[i+k]? with
  |none=>rfl
  |some s=>
   have:=hn (i+k) s (by omega) (by omega) hs
   simp only[Option.map_some,if_neg (show¬s<0 by omega)]
 ·rw[if_neg (by omega),if_neg hk]
theorem F2 {p:Int→Bool}(r:List Int):r.take (r.takeWhile p).length=r.takeWhile p:=by
 have h:=List.takeWhile_append_dropWhile (p:=p) (l:=r)
 conv=>lhs;arg 2;rw[←h]
 rw[List.take_left'];rfl
theorem Eb {p:Int→Bool}(r:List Int):r.drop (r.takeWhile p).length=r.dropWhile p:=by
 have h:=List.takeWhile_append_dropWhile (p:=p) (l:=r)
 conv=>lhs;arg 2;rw[←h]
 rw[List.drop_left'];rfl
theorem O4 (v4:Recv)(w:Nat)(sl:List Int)(hw:w≤32)(hl:sl.length=33)(hneg:∀(j:Nat) (s:Int),w≤j→sl[j]? =some s→s<0)(n:Nat):∀(m i:Nat) (r o:Recv),i≤w→w-i<m→n≤i→∃r2,cz (λa=>(fj (w:Int) (n:Int) v4 (gP w sl) (ld w sl) a).nice) m ((i:Int),r,o)=(r2,{o with held:=o.held++cf 33 ((i:Int)-(n:Int)) (sl.drop i)})
 |0,i,r,o,_,h,_=>by omega
 |m+1,i,r,o,hi,hm,hn=>by
  rcases Nat.eq_or_lt_of_le hi with h|h
  ·subst h
   refine⟨{r with held:=[]}, ?_⟩
   rw[Gl 33 _ (sl.drop i) (λs hs=>by
    obtain⟨p,hp,rfl⟩:=List.getElem_of_mem hs
    rw[List.getElem_drop]
    exact hneg (i+p) _ (by omega) (List.getElem?_eq_getElem (by rw[List.length_drop]at hp;omega))),List.append_nil]
   simp only[cz,PX,fj,decide_eq_false (show¬((i:Int)<(i:Int)) by omega),cond_false,Stp.elim]
  ·have hil:i<sl.length:=by omega
   have hd:sl.drop i=sl[i]::sl.drop (i+1):=List.drop_eq_getElem_cons hil
   have hdl:(sl.drop (i+1)).length≤32:=by rw[List.length_drop];omega
   by_cases hs:sl[i]<0
   ·obtain⟨r2,e⟩:=O4 v4 w sl hw hl hneg n m (i+1) ({r with held:=[]}:Recv) o (by omega) (by omega) (by omega)
    refine⟨r2, ?_⟩
    rw[hd,show cf 33 ((i:Int)-(n:Int)) (sl[i]::sl.drop (i+1))=cf 33 (((i+1:Nat):Int)-(n:Int)) (sl.drop (i+1)) by
     rw[←wL 32 33 _ (sl.drop (i+1)) hdl (by omega)]
     simp only[cf,if_pos hs]
     congr 1;omega]
    rw[←e]
    rw[cz]
    rw[show(fj (w:Int) (n:Int) v4 (gP w sl) (ld w sl) ((i:Int),r,o)).nice= .next (((i+1:Nat):Int),({r with held:=[]}:Recv),o) by
     simp only[PX,fj,decide_eq_true (show((i:Int)<(w:Int)) by omega),cond_true,aa]
     rw[sr w sl i h (by omega),getD_some (List.getElem?_eq_getElem hil),decide_eq_false (by omega),au (by omega) (by omega)]
     rfl]
    rfl
   ·have hlead:i+ax (sl.drop i)≤w:=by
     apply Nat.le_of_not_lt
     intro hc
     obtain⟨s,h1,h2⟩:=qu (sl.drop i) (w-i) (by omega)
     rw[List.getElem?_drop,show i+(w-i)=w by omega]at h1
     have:=hneg w s (Nat.le_refl _) h1
     omega
    have hle:ax (sl.drop i)=1+((sl.drop (i+1)).takeWhile (λx=>decide (0≤x))).length:=by
     unfold ax
     rw[hd,List.takeWhile_cons,decide_eq_true (show 0≤sl[i] by omega)]
     simp only[if_true,List.length_cons];omega
    obtain⟨r1,e1⟩:=Fp (g:=λr:Recv=>({r with held:=[]}:Recv)) (f:=λj a=>(mV (gP w sl) j a).nice) w sl (by omega) (λj r=>by
     simp only[PX,mV,aa]) i hlead (w-i) i ({r with held:=[]}:Recv) (by omega) (Nat.le_refl _) (by omega)
    have hseg:((ld w sl).take (i+ax (sl.drop i))).drop i=sl[i]::(sl.drop (i+1)).takeWhile (λx=>decide (0≤x)):=by
     rw[L9 w sl i (ax (sl.drop i)) hlead (λj s h1 h2 h3=>by
      obtain⟨s2,h4,h5⟩:=qu (sl.drop i) (j-i) (by omega)
      rw[List.getElem?_drop,show i+(j-i)=j by omega,h3]at h4
      cases h4;exact h5)]
     have:ax (sl.drop i)=((sl.drop i).takeWhile (λx=>decide (0≤x))).length:=rfl
     rw[this,F2,hd,List.takeWhile_cons,decide_eq_true (show 0≤sl[i] by omega)]
     rfl
    have hdd:sl.drop (i+ax (sl.drop i))=(sl.drop (i+1)).dropWhile (λx=>decide (0≤x)):=by
     rw[hle,←Nat.add_assoc,←List.drop_drop,Eb]
    have hr:cf 33 ((i:Int)-(n:Int)) (sl.drop i)=⟨(i:Int)-(n:Int),ay (sl[i]::(sl.drop (i+1)).takeWhile (λx=>decide (0≤x)))⟩::cf 33 (((i+ax (sl.drop i):Nat):Int)-(n:Int)) (sl.drop (i+ax (sl.drop i))):=by
     conv=>lhs;rw[hd]
     rw[hdd]
     have hdw:((sl.drop (i+1)).dropWhile (λx=>decide (0≤x))).length≤32:=Nat.le_trans (List.dropWhile_sublist _).length_le hdl
     rw[←wL 32 33 _ _ hdw (by omega)]
     simp only[cf,if_neg hs]
     congr 2;omega
    rw[hr]
    have hstep:∃r3:Recv,(fj (w:Int) (n:Int) v4 (gP w sl) (ld w sl) ((i:Int),r,o)).nice= .next (((i+ax (sl.drop i):Nat):Int),r3,({o with held:=o.held++[⟨(i:Int)-(n:Int),ay (sl[i]::(sl.drop (i+1)).takeWhile (λx=>decide (0≤x)))⟩]}:Recv)):=by
     simp only[PX,fj,decide_eq_true (show((i:Int)<(w:Int)) by omega),cond_true,aa,dK]
     rw[sr w sl i h (by omega),getD_some (List.getElem?_eq_getElem hil),decide_eq_true (show 0≤sl[i] by omega),au (m:=(i:Int)-(n:Int)) (by omega) (by omega)]
     simp only[Bool.not_true,cond_false]
     rw[show Int.toNat ((w:Int)-(i:Int))=w-i by omega]
     rcases e1 with⟨h1,h2⟩|⟨h1,h2⟩
     ·rw[h2]
      simp only[Stp.elim,Sum.elim_inl,aa,hseg]
      exact⟨_,rfl⟩
     ·rw[h2]
      rw[h1]at hseg
      simp only[Stp.elim,Sum.elim_inr,h1]
      rw[show(i:Int)+1*((w-i:Nat):Int)=(w:Int) by omega,aa,hseg]
      exact⟨_,rfl⟩
    obtain⟨r3,hst⟩:=hstep
    obtain⟨r2,e⟩:=O4 v4 w sl hw hl hneg n m (i+ax (sl.drop i)) r3 ({o with held:=o.held++[⟨(i:Int)-(n:Int),ay (sl[i]::(sl.drop (i+1)).takeWhile (λx=>decide (0≤x)))⟩]}:Recv) hlead (by omega) (by omega)
    refine⟨r2, ?_⟩
    rw[cz,hst]
    simp only[Stp.elim]
    rw[e]
    simp only[List.append_assoc,List.singleton_append]
def DG (x:Recv)(w:Nat)(sl:List Int)(z o:Recv):Tr Recv:=
 .lp (di ((w:Int),(ax sl:Int),(ax sl:Int),({z with held:=[]}:Recv),x,gP w sl,({o with held:=[]}:Recv),ld w sl,())).lp λp=>
  .ite (decide (3<(p.2.held.length:Int))) (.ret x)<| .ite (p.2.fin==0) (.val ((p.2.next+1)%4294967296) λc=> .ret (⟨c,p.2.data,p.2.held,-1,true⟩:Recv))<| .ret p.2
theorem JT (x:Recv)(w:Nat)(sl:List Int)(z o:Recv)(hw:w≤32)(hl:sl.length=33)(hneg:∀(j:Nat) (s:Int),w≤j→sl[j]? =some s→s<0)(hld:ax sl≤w):(DG x w sl z o).nice=if 3<(cf 33 0 (sl.drop (ax sl))).length then x else if o.fin=0 then(⟨(o.next+1)%4294967296,o.data,cf 33 0 (sl.drop (ax sl)),-1,true⟩:Recv)else⟨o.next,o.data,cf 33 0 (sl.drop (ax sl)),o.fin,o.done⟩:=by
 obtain⟨r5,e5⟩:=O4 x w sl hw hl hneg (ax sl) (w-ax sl+1) (ax sl) ({z with held:=[]}:Recv) ({o with held:=[]}:Recv) hld (by omega) (Nat.le_refl _)
 rw[Int.sub_self]at e5
 simp only[DG,PX,di]
 rw[show Int.toNat ((w:Int)-(ax sl:Int))=w-ax sl by omega,e5]
 simp only[List.nil_append]
 by_cases h3:3<(cf 33 0 (sl.drop (ax sl))).length
 ·rw[if_pos h3,decide_eq_true (show(3:Int)<((cf 33 0 (sl.drop (ax sl))).length:Int) by omega)];rfl
 ·rw[if_neg h3,decide_eq_false (show¬(3:Int)<((cf 33 0 (sl.drop (ax sl))).length:Int) by omega)]
  by_cases h0:o.fin=0
  ·rw[if_pos h0,show(o.fin==0)=true by simp[h0]];rfl
  ·rw[if_neg h0,show(o.fin==0)=false by simp[h0]];rfl
theorem NB (x:Recv)(w:Nat)(sl:List Int)(z:Recv)(F f:Int)(hw:w≤32)(hl:sl.length=33)(hneg:∀(j:Nat) (s:Int),w≤j→sl[j]? =some s→s<0)(hld:ax sl≤w)(hF: -1≤F)(hdn:x.done=false)(hn:0≤x.next)(hf:(F= -1∧f=F)∨(F≠-1∧f=F-(ax sl:Int))):(DG x w sl z (⟨(x.next+(ax sl:Int))%4294967296,x.data++ay (sl.take (ax sl)),x.held,f,false⟩:Recv)).nice=MZ x sl F:=by
 rw[JT x w sl z _ hw hl hneg hld]
 unfold MZ
 by_cases h3:3<(cf 33 0 (sl.drop (ax sl))).length
 ·rw[if_pos h3,if_pos h3]
 ·rw[if_neg h3,if_neg h3]
  simp only[]
  rcases hf with⟨h1,h2⟩|⟨h1,h2⟩
  ·rw[if_neg (show¬f=0 by omega),if_neg (show¬F-(ax sl:Int)=0 by omega),if_pos h1,h2,h1,hdn]
  ·by_cases h4:F-(ax sl:Int)=0
   ·rw[if_pos (show f=0 by omega),if_pos h4,show((x.next+(ax sl:Int))%4294967296+1)%4294967296=(x.next+(ax sl:Int)+1)%4294967296 by omega]
   ·rw[if_neg (show¬f=0 by omega),if_neg h4,if_neg h1,h2,hdn]
theorem Ic {α β:Type}{K:α→β}{r:β}{s:α⊕α}(P:α→Prop)(hs:Sum.elim P P s)(h:∀z,P z→K z=r):Sum.elim K K s=r:=by
 cases s with
 |inl a=>exact h a hs
 |inr a=>exact h a hs
theorem Xt (x:Recv)(hx:RV x):∃w:Nat,nY x=(w:Int)∧w≤32:=by
 have:=oT x hx.dl
 exact⟨(nY x).toNat,by omega,by omega⟩
theorem Hq (xs:List Bool)(t:Bool):oq.f (xs,t,())=jJ (λb=>t==b) xs:=by
 simp only[PX,oq,iP]
 rw[mR (λb=>t==b) xs (λj x a h=>by
  simp only[PX,qm,aa,getD_some h])]
 unfold jJ
 cases xs.findIdx? (λb=>t==b)<;>rfl
theorem BK (xs:List Bool)(t:Bool):ew.f (xs,t,())=xs.any (λb=>t==b):=by
 simp only[PX,ew,Hq,qM]
theorem Jo (x:Recv)(seq:Int)(t:aA)(fin:Bool)(hs:bJ x.held):r6.f (x,seq,t,fin,())=md x seq t fin:=by
 simp only[PX,r6,uy]
 unfold md
 cases hok:br.f (x,())with
 |false=>rfl
 |true=>
 cases hdn:x.done with
 |true=>rfl
 |false=>
 have hx:=(qb x hs).1 hok
 have hpo:cU po x.held:=Eu x hx
 obtain⟨w,hwe,hw⟩:=Xt x hx
 have hsl:=Ek x hx seq t
 have hn0:=hx.n0
 have hn1:=hx.n1
 have hf0:=hx.f0
 have hf1:=hx.f1
 obtain⟨bb,hwk⟩:=hx.wk
 simp only[Bool.not_true,cond_false,gJ x hx.dl,hwe,fp,fc,aa]
 have z1:List.replicate w (0:Int)=ld w (List.replicate 33 (-1)):=by
  unfold ld;rw[List.take_replicate,Nat.min_eq_left (by omega),List.map_replicate];rfl
 have z2:List.replicate w false=gP w (List.replicate 33 (-1)):=by
  unfold gP;rw[List.take_replicate,Nat.min_eq_left (by omega),List.map_replicate];rfl
 rw[z1,z2]
 obtain⟨r1,e1⟩:=QO seq t fin (w:Int) x.held (x.held.length:Int) x x w (by omega) x.held 0 0 bb _ (List.replicate 33 (-1)) (⟨0,[],[],0,false⟩:Recv) hwk (Int.le_refl _) (by split<;>omega) (by rw[List.length_replicate];omega) (λj s _ h=>by
  have:=List.eq_of_mem_replicate (List.mem_of_getElem? h);omega) (λp hp=>by have:=hpo p hp;unfold po at this;omega)
 rw[bE x.held _ (ar _) (F:=λ_ p (a:Recv×List Int×List Bool)=>(gv seq t fin (w:Int) [p] (x.held.length:Int) x x 0 a).nice) (by
  intro j p a hp
  simp only[PX,gv,cQ,aa,getD_some hp,show Int.toNat 0=0 from rfl,List.getD_cons_zero])]
 rw[e1]
 simp only[Stp.elim]
 have hsn:x.held.foldl (λsl p=>pj sl p.off.toNat p.text) (List.replicate 33 (-1))=mP x.held:=rfl
 rw[hsn]
 obtain⟨r2,e2⟩:=Vz seq t x w (by omega) hf0 t 0 (mP x.held) ({r1 with held:=[]}:Recv) (by unfold mP;rw[qd,List.length_replicate];omega) (λi=>by rw[Nat.zero_add])
 rw[show((0:Nat):Int)=0 from rfl]at e2
 rw[ar,e2]
 simp only[Stp.elim,bH,pQ]
 have hL:xj x seq (w:Int) (mP x.held) 0 t=Fr x seq t:=by unfold Fr;rw[hwe]
 rw[hL]
 have hL2:xj x seq (nY x) (mP x.held) 0 t=Fr x seq t:=rfl
 rw[hL2]at hsl
 have ee:((seq+(t.length:Int))%4294967296-x.next)%4294967296=(seq+(t.length:Int)-x.next)%4294967296:=by omega
 rw[ee]
 have he0:0≤(seq+(t.length:Int)-x.next)%4294967296:=by omega
 generalize(seq+(t.length:Int)-x.next)%4294967296=e at he0
 generalize Fr x seq t=sl at hsl
 clear e1 e2 hL hL2 hsn z1 z2 ee
 obtain⟨hl,hat⟩:=hsl
 have hneg:∀(j:Nat) (s:Int),w≤j→sl[j]? =some s→s<0:=λj s hj h=>by
  apply Int.not_le.1
  intro h0
  have:=(hat j s h).2.2 h0
  rw[hwe]at this hf1
  split at this<;>omega
 have hany:(gP w sl).drop e.toNat=((sl.drop e.toNat).take (w-e.toNat)).map (λs=>decide (0≤s)):=by
  unfold gP
  rw[←List.map_drop,List.drop_take]
 have hcont:e≤(w:Int)→ew.f (((gP w sl).take (gP w sl).length).drop e.toNat,true,())= !(sl.drop e.toNat).all (λs=>decide (s<0)):=by
  intro hew
  rw[List.take_length,BK,hany]
  rw[Bool.eq_iff_iff]
  simp only[List.any_eq_true,List.mem_map,Bool.not_eq_true',List.all_eq_false]
  constructor
  ·rintro⟨b,⟨s,hs1,rfl⟩,hb⟩
   refine⟨s,List.mem_of_mem_take hs1, ?_⟩
   simp at hb⊢;omega
  ·rintro⟨s,hs1,lg⟩
   refine⟨true,⟨s, ?_, ?_⟩,rfl⟩
   ·obtain⟨k,hk,rfl⟩:=List.getElem_of_mem hs1
    rw[List.getElem_drop]at lg⊢
    have hk2:e.toNat+k<w:=by
     apply Nat.lt_of_not_le
     intro hc
     have:=hneg (e.toNat+k) _ hc (List.getElem?_eq_getElem (by rw[List.length_drop]at hk;omega))
     simp at lg;omega
    rw[List.mem_take_iff_getElem]
    refine⟨k,by rw[List.length_drop];omega, ?_⟩
    rw[List.getElem_drop]
   ·simp at lg⊢;omega
 have hF0: -1≤Ea x sl e fin:=by unfold Ea;split<;>omega
 have hF1:Ea x sl e fin≤(w:Int):=by unfold Ea;rw[hwe]at hf1⊢;split<;>omega
 have hcond:(bif (bif fin then bif x.fin== -1 then bif decide (e≤(w:Int))then(!ew.f (((gP w sl).take (gP w sl).length).drop e.toNat,true,()),())else(false,())else(false,())else(false,())).1 then((w:Int),x,({r2 with held:=[]}:Recv),x,gP w sl,(⟨x.next,x.data,x.held,e,false⟩:Recv),ld w sl,())else((w:Int),x,({r2 with held:=[]}:Recv),x,gP w sl,x,ld w sl,()))=((w:Int),x,({r2 with held:=[]}:Recv),x,gP w sl,(⟨x.next,x.data,x.held,Ea x sl e fin,x.done⟩:Recv),ld w sl,()):=by
  unfold Ea
  cases fin with
  |false=>simp
  |true=>
   by_cases c1:x.fin= -1
   ·rw[show(x.fin== -1)=true by simp[c1]]
    by_cases c2:e≤(w:Int)
    ·rw[decide_eq_true c2,hcont c2,hwe]
     cases hall:(sl.drop e.toNat).all (λs=>decide (s<0))with
     |true=>simp only[cond_true,Bool.not_true,Bool.not_false,true_and,if_pos (show x.fin<0∧e≤(w:Int)∧True from⟨by omega,c2,trivial⟩),hdn]
     |false=>simp
    ·rw[decide_eq_false c2,hwe,if_neg (λh=>c2 h.2.2.1)];rfl
   ·rw[show(x.fin== -1)=false by simp[c1],if_neg (λh=>by have:=h.2.1;omega)];rfl
 have hld0:ax sl≤w:=by
  apply Nat.le_of_not_lt
  intro hc
  obtain⟨s,h1,h2⟩:=qu sl w hc
  have:=hneg w s (Nat.le_refl _) h1
  omega
 obtain⟨r3,e3⟩:=Fp (g:=λr:Recv=>({r with held:=[]}:Recv)) (f:=λj a=>(pR (gP w sl) j a).nice) w sl (by omega) (λj r=>by
  simp only[PX,pR,aa]) 0 (by rw[List.drop_zero,Nat.zero_add];exact hld0) w 0 ({r2 with held:=[]}:Recv) (by omega) (Nat.le_refl _) (Nat.zero_le _)
 rw[List.drop_zero,Nat.zero_add,show((0:Nat):Int)=0 from rfl]at e3
 have hdat:ay (((ld w sl).take (ax sl)).drop 0)=ay (sl.take (ax sl)):=by
  have:=L9 w sl 0 (ax sl) (by omega) (λj s _ h2 h3=>by
   obtain⟨s2,h4,h5⟩:=qu sl j (by omega)
   rw[h3]at h4;cases h4;exact h5)
  rw[Nat.zero_add]at this
  rw[this,List.drop_zero]
 generalize hF:Ea x sl e fin=F at hF0 hF1 hcond⊢
 generalize(bif fin then bif x.fin== -1 then bif decide (e≤(w:Int))then(!ew.f (((gP w sl).take (gP w sl).length).drop e.toNat,true,()),())else(false,())else(false,())else(false,())).1=b at hcond⊢
 rw[if_pos (⟨trivial,trivial⟩:True∧True)]
 have hE:∀(z:Recv),(DG x w sl z (⟨(x.next+(ax sl:Int))%4294967296,x.data++ay (sl.take (ax sl)),x.held,if F= -1 then F else F-(ax sl:Int),false⟩:Recv)).nice=MZ x sl F:=λz=>NB x w sl z F _ hw hl hneg hld0 hF0 hdn hn0 (by
  by_cases hh:F= -1
  ·exact .inl ⟨hh,if_pos hh⟩
  ·exact .inr ⟨hh,if_neg hh⟩)
 have hwr:IntKind.wrap .i64 (F-(ax sl:Int))=F-(ax sl:Int):=au (by omega) (by omega)
 cases b with
 |true=>
  simp only[cond_true]at hcond⊢
  have hfin:e=F:=(by simpa using congrArg (λp=>p.2.2.2.2.2.1.fin) hcond)
  clear hcond
  dsimp only[Tr.nice]
  simp only[PX,dV,hfin]
  rw[show Int.toNat ((w:Int)-0)=w by omega]
  rcases e3 with⟨h1,h2⟩|⟨h1,h2⟩<;>refine(congrArg (Stp.elim _ _) h2).trans ?_ <;>simp only[Stp.elim]<;>refine Ic (λz:Int×Recv=>z.1=(ax sl:Int)) (by first|rfl|(show(0:Int)+1*((w:Nat):Int)=_;omega)) ?_ <;>rintro⟨z1,z2⟩ hz<;>simp only[]at hz<;>subst hz<;>simp only[z8,aa,hdat,hwr]<;>by_cases hF2:F= -1
  all_goals (have hE2:=hE z2)
  all_goals (first|rw[if_pos hF2]at hE2|rw[if_neg hF2]at hE2)
  ·rw[show(F != -1)=false by simp[hF2]];exact hE2
  ·rw[show(F != -1)=true by simp[hF2]];exact hE2
  ·rw[show(F != -1)=false by simp[hF2]];exact hE2
  ·rw[show(F != -1)=true by simp[hF2]];exact hE2
 |false=>
  simp only[cond_false]at hcond⊢
  have hfin:x.fin=F:=(by simpa using congrArg (λp=>p.2.2.2.2.2.1.fin) hcond)
  clear hcond
  dsimp only[Tr.nice]
  simp only[PX,dV,hfin,hdn]
  rw[show Int.toNat ((w:Int)-0)=w by omega]
  rcases e3 with⟨h1,h2⟩|⟨h1,h2⟩<;>refine(congrArg (Stp.elim _ _) h2).trans ?_ <;>simp only[Stp.elim]<;>refine Ic (λz:Int×Recv=>z.1=(ax sl:Int)) (by first|rfl|(show(0:Int)+1*((w:Nat):Int)=_;omega)) ?_ <;>rintro⟨z1,z2⟩ hz<;>simp only[]at hz<;>subst hz<;>simp only[z8,aa,hdat,hwr]<;>by_cases hF2:F= -1
  all_goals (have hE2:=hE z2)
  all_goals (first|rw[if_pos hF2]at hE2|rw[if_neg hF2]at hE2)
  ·rw[show(F != -1)=false by simp[hF2]];exact hE2
  ·rw[show(F != -1)=true by simp[hF2]];exact hE2
  ·rw[show(F != -1)=false by simp[hF2]];exact hE2
  ·rw[show(F != -1)=true by simp[hF2]];exact hE2
theorem Ps (s:Sndr)(ack:Int):DN.f (s,ack,())=if rY s ack=true then(ck s (qj ack s.una),true)else(s,false):=by
 simp only[PX,DN,sC,aC,bH]
 unfold rY
 cases hk:bp.f (s,())with
 |false=>rfl
 |true=>
  have hs:=(EV s).1 hk
  simp only[rO s hs]
  obtain⟨e1,e2,e3,e4,e5,e6,e7⟩:=hs
  generalize qj ack s.una=n
  simp only[Bool.not_true,cond_false,Bool.true_and]
  by_cases hn:0≤n∧n≤DA s
  ·rw[decide_eq_true hn.1,decide_eq_true hn.2]
   simp only[Bool.and_self,Bool.not_true,cond_false,if_true]
   have hfl:=hn.2
   unfold DA at hfl
   unfold ck
   by_cases hc:s.sent<n
   ·have hf:s.finSent=true:=by
     cases hfs:s.finSent with
     |true=>rfl
     |false=>rw[hfs]at hfl;simp only[Bool.false_eq_true,if_false]at hfl;omega
    have hl:=(e6 hf).2
    rw[hf]at hfl;simp only[if_true]at hfl
    have e:(if(s.data.length:Int)<n then(s.data.length:Int)else n)=s.sent:=by rw[if_pos (by omega)];omega
    simp only[if_pos hc,e]
    rw[au (m:=s.sent+1) (by omega) (by omega),show(n==s.sent+1)=true by simp;omega,au (by omega) (by omega)]
    simp only[PX,aa,List.take_length,cond_true]
   ·have e:(if(s.data.length:Int)<n then(s.data.length:Int)else n)=n:=by rw[if_neg (by omega)]
    simp only[if_neg hc,e]
    rw[au (m:=s.sent+1) (by omega) (by omega),show(n==s.sent+1)=false by simp;omega,au (by omega) (by omega)]
    simp only[PX,aa,List.take_length,cond_false]
  ·have e:(decide (0≤n)&&decide (n≤DA s))=false:=by
    rw[Bool.and_eq_false_iff];simp only[decide_eq_false_iff_not];omega
   rw[e];rfl
theorem Ok (w sc:Int)(h0:0≤w)(h1:w≤65535)(h2:sc≤14):IntKind.wrap .i64 (w*2 ^ (min (if sc<0 then 0 else sc).toNat 64))=gN w sc∧gN w sc≤1073725440:=by
 have hr:=Eg w sc h0 h1 h2
 have hk:(if sc<0 then 0 else sc).toNat≤14:=by split<;>omega
 rw[Nat.min_eq_left (by omega)]
 unfold gN at hr⊢
 exact⟨au (by omega) (by omega),hr.2⟩
theorem B6 (w:Int)(o:Opti)(h0:0≤w)(h1:w≤65535)(h2:o.scale≤14):vc.f (w,o,())=gN w o.scale:=by
 obtain⟨e1,e2⟩:=Ok w o.scale h0 h1 h2
 simp only[PX,vc,e1]
 rw[if_neg (by omega)]
theorem Ee (n:Int)(h0:0≤n)(h1:n≤100):IntKind.wrap .u64 n=n:=by rw[xc];omega
theorem Kl (x:Conn):bG.f (x,())=(bG.f ({x with tries:=0},())&&(decide (0≤x.tries)&&decide (x.tries≤3))):=by
 rw[F8,F8]
 simp only[]
 generalize az.f (x.tuple,())=b1
 generalize bp.f (x.s,())=b2
 generalize br.f (x.r,())=b3
 generalize aF.f (x.opts,())=b4
 generalize(decide (1≤x.state)&&decide (x.state≤8))=b5
 generalize(decide (0≤x.most)&&decide (x.most≤1073725440))=b6
 generalize(decide (0≤x.window)&&decide (x.window≤x.most))=b7
 generalize(decide (0≤x.timer)&&bif x.state==7 then decide (x.timer≤4)else decide (x.timer≤3))=b8
 generalize(decide (0≤x.tries)&&decide (x.tries≤3))=b9
 generalize Uu x.state x.s.fin x.s.done x.r.done=b10
 have z:(decide ((0:Int)≤0)&&decide ((0:Int)≤3))=true:=rfl
 rw[z]
 cases b1<;>cases b2<;>cases b3<;>cases b4<;>cases b5<;>cases b6<;>cases b7<;>cases b8<;>simp[Bool.and_comm]
def QB (x:Conn)(k:Int):Conn:=bif (bif !bG.f ({x with state:=k,timer:=0},())then(true,())else(!(decide (0≤x.timer)&&decide (x.timer≤4)),())).1 then x else bif k==7 then{x with state:=k,timer:=4,tries:=0}else bif k==8 then{x with state:=k,timer:=0,tries:=0}else{x with state:=k}
theorem Om (x:Conn)(hk:mM x.state x.s.done x.r.done≠x.state):QB x (mM x.state x.s.done x.r.done)=du x:=by
 unfold QB du DZ
 rw[Kl]
 simp only[]
 generalize mM x.state x.s.done x.r.done=k at hk
 rw[if_neg hk]
 generalize(decide (0≤x.timer)&&decide (x.timer≤4))=b1
 generalize(decide (0≤x.tries)&&decide (x.tries≤3))=b2
 cases bG.f (({x with state:=k,timer:=0,tries:=0}:Conn),())with
 |false=>rfl
 |true=>
 cases b1 with
 |false=>cases b2<;>rfl
 |true=>
 cases b2 with
 |false=>rfl
 |true=>
 simp only[Bool.not_true,cond_false,Bool.and_self,if_true]
 by_cases h7:k=7
 ·subst h7;rfl
 ·rw[if_neg h7,show(k==7)=false by simp[h7]]
  simp only[cond_false]
  by_cases h8:k=8
  ·subst h8;rfl
  ·rw[if_neg h8,show(k==8)=false by simp[h8]];rfl
theorem Ki (x:Conn)(hk:mM x.state x.s.done x.r.done=x.state):du x=x:=by
 unfold du
 split
 ·rfl
 ·rfl
theorem Ck (x:Conn):qi.f (x,())=du x:=by
 simp only[PX,qi,dd,aC]
 have t1:=Om x
 have t2:=Ki x
 have hst:x.state=1∨x.state=2∨x.state=3∨x.state=5∨x.state=6∨(x.state≠1∧x.state≠2∧x.state≠3∧x.state≠5∧x.state≠6):=by omega
 rcases hst with h|h|h|h|h|⟨h1,h2,h3,h5,h6⟩
 case inr.inr.inr.inr.inr=>
  have e:mM x.state x.s.done x.r.done=x.state:=by
   unfold mM;rw[if_neg h1,if_neg h2,if_neg h3,if_neg h5,if_neg h6]
  rw[t2 e,show(x.state==1)=false by simp[h1],show(x.state==2)=false by simp[h2],show(x.state==3)=false by simp[h3],show(x.state==5)=false by simp[h5],show(x.state==6)=false by simp[h6]]
  rfl
 all_goals (rw[h]at t1 t2⊢;cases hs:x.s.done<;>cases hr:x.r.done<;>rw[hs,hr]at t1 t2<;>first|exact(t2 rfl).symm|exact t1 (by decide))
structure V5 (c:Conn)(g:Segm):Prop where
 co:CO c
 s8:c.state≠8
 sg:ae.f (g,())=true
 n4:bk.f (g,4,())=false
 n2:bk.f (g,2,())=false
 fit:LN c g.ack=true
theorem Xd (c:Conn)(g:Segm)(h:AO c g=5):V5 c g:=by
 unfold AO at h
 cases h1:bG.f (c,())with
 |false=>rw[h1]at h;simp at h
 |true=>
 cases h2:(c.state==8)with
 |true=>rw[h1,h2]at h;simp at h
 |false=>
 cases h3:ae.f (g,())with
 |false=>rw[h1,h2,h3]at h;simp at h
 |true=>
 rw[h1,h2,h3]at h
 simp only[Bool.not_false,Bool.and_self,cond_true]at h
 cases h4:bk.f (g,4,())with
 |true=>
  rw[h4]at h
  simp only[cond_true]at h
  exfalso;revert h
  cases(g.seq==c.r.next)<;>cases sN g.seq c.r.next (nY c.r)<;>simp
 |false=>
 rw[h4]at h
 simp only[cond_false]at h
 cases h5:bk.f (g,2,())with
 |true=>rw[h5]at h;simp at h
 |false=>
 rw[h5]at h
 simp only[cond_false]at h
 refine⟨(D1 c).1 h1,by simpa using h2,h3,h4,h5, ?_⟩
 revert h
 cases PA c g<;>cases bk.f (g,16,())<;>cases LN c g.ack<;>simp
theorem bj (g:Segm):ae.f (g,())=true↔((0≤g.from_∧g.from_≤65535)∧(0≤g.to∧g.to≤65535)∧(0≤g.seq∧g.seq≤4294967295)∧(0≤g.ack∧g.ack≤4294967295)∧(0≤g.flags∧g.flags≤63)∧(0≤g.window∧g.window≤65535)∧aF.f (g.opts,())=true∧g.body.length≤1420):=by
 simp only[PX,ae,eO,cl,OO]
 rw[show((g.body.length≤1420)↔decide (((g.body.length:Nat):Int)≤1420)=true) by simp;omega]
 simp only[←Bool.decide_and,Bool.cond_eq_ite,Bool.if_false_right,Bool.decide_eq_true,Bool.and_eq_true,decide_eq_true_eq]
 constructor
 ·rintro⟨a,b,w,s,k,f,o,bd⟩;exact⟨a,b,s,k,f,w,o,bd⟩
 ·rintro⟨a,b,s,k,f,w,o,bd⟩;exact⟨a,b,w,s,k,f,o,bd⟩
theorem TK (a b:Int):ne.f (a,b,())=if a<b then a else b:=sH a b
theorem EP (a b:Int):fL.f (a,b,())=if b<a then a else b:=pf a b
theorem Nu (w sc:Int)(h0:0≤w)(h1:w≤65535)(h2:sc≤14):ne.f (1073725440,IntKind.wrap .i64 (w*2 ^ (min (IntKind.wrap .u64 (fL.f (0,sc,()))).toNat 64)),())=gN w sc:=by
 obtain⟨e1,e2⟩:=Ok w sc h0 h1 h2
 rw[EP,show(if sc<0 then(0:Int)else sc)=(if sc<0 then 0 else sc) from rfl,Ee _ (by split<;>omega) (by split<;>omega),e1,TK,if_neg (by omega)]
theorem Gm (a b f k:Int):(bif a != b then(k != 7,())else bif f==0 then(k != 7,())else(false,())).1=decide ((a≠b∨f=0)∧k≠7):=by
 cases h1:(a != b)<;>cases h2:(f==0)<;>cases h3:(k != 7)<;>simp_all
theorem Ja (x:Recv)(seq:Int)(t:aA)(fin:Bool)(hx:RV x):bJ (md x seq t fin).held:=(Gi x seq t fin hx).small
theorem Qd (c:Conn)(g:Segm)(hs:bJ c.r.held):Ao.f (c,g,())=if AO c g=5 then fa c g else c:=by
 simp only[PX,Ao,kS,AH c g hs]
 by_cases hv:AO c g=5
 ·rw[if_pos hv,show(AO c g != 5)=false by simp[hv]]
  have h:=Xd c g hv
  have hr:=(qb c.r hs).1 h.co.rcv
  have hb:=lE g h.sg
  have hw:=((bj g).1 h.sg).2.2.2.2.2.1
  have hsc:=(fw c.opts h.co.opt).2
  have hS:=Nu g.window c.opts.scale hw.1 hw.2 hsc
  have tl:∀u:Conn,u.r=c.r→(bif dz.f (c.state,1,3,())then pS.f (({u with r:=su.f (c.r,g.seq,g.body,fZ.f (g,1,()),())}:Conn),())else pS.f (u,()))=if 1≤c.state∧c.state≤3 then du {u with r:=md c.r g.seq g.body (fZ.f (g,1,()))}else du u:=by
   intro u hu
   rw[Kk c.r _ _ _ hs (by omega),Ce u (by rw[hu];exact hs),Ce _ (Ja c.r _ _ _ hr),cx]
   by_cases h3:1≤c.state∧c.state≤3
   ·rw[if_pos h3,decide_eq_true h3.1,decide_eq_true h3.2];rfl
   ·rw[if_neg h3,show(decide (1≤c.state)&&decide (c.state≤3))=false by rw[Bool.and_eq_false_iff];simp only[decide_eq_false_iff_not];omega];rfl
  simp only[OW,cond_false]
  unfold fa tA
  by_cases ha:rY c.s g.ack=true
  ·have hso:=FK c.s h.co.snd (qj g.ack c.s.una) (by
    unfold rY at ha;simp only[Bool.and_eq_true,decide_eq_true_eq]at ha;exact ha.2.1) (by
    unfold rY at ha;simp only[Bool.and_eq_true,decide_eq_true_eq]at ha;exact ha.2.2)
   have hM:fL.f (c.most,gN g.window c.opts.scale,())=if c.most<gN g.window c.opts.scale then gN g.window c.opts.scale else c.most:=by
    rw[EP];split<;>split<;>omega
   simp only[if_pos ha,cond_true,uS,rO _ hso.1,hS,hM]
   have hcnd:(bif (ck c.s (qj g.ack c.s.una)).una != c.s.una then(c.state != 7,())else bif DA (ck c.s (qj g.ack c.s.una))==0 then(c.state != 7,())else(false,())).1=decide (((ck c.s (qj g.ack c.s.una)).una≠c.s.una∨DA (ck c.s (qj g.ack c.s.una))=0)∧c.state≠7):=Gm _ _ _ _
   rw[hcnd]
   have tl2:=λ(t r:Int)=>tl ({c with s:=ck c.s (qj g.ack c.s.una),window:=gN g.window c.opts.scale,most:=(if c.most<gN g.window c.opts.scale then gN g.window c.opts.scale else c.most),timer:=t,tries:=r}:Conn) rfl
   by_cases hq:((ck c.s (qj g.ack c.s.una)).una≠c.s.una∨DA (ck c.s (qj g.ack c.s.una))=0)∧c.state≠7
   ·simp only[decide_eq_true hq,if_pos hq,cond_true]
    by_cases h0:0<DA (ck c.s (qj g.ack c.s.una))
    ·simp only[decide_eq_true h0,if_pos h0,cond_true]
     dsimp only[Tr.nice]
     exact tl2 3 0
    ·simp only[decide_eq_false h0,if_neg h0,cond_false]
     dsimp only[Tr.nice]
     exact tl2 0 0
   ·simp only[decide_eq_false hq,if_neg hq,cond_false]
    dsimp only[Tr.nice]
    exact tl2 c.timer c.tries
  ·simp only[if_neg ha,cond_false]
   dsimp only[Tr.nice]
   exact tl c rfl
 ·rw[if_neg hv,show(AO c g != 5)=true by simp[hv]];rfl
theorem OM (c:Conn)(g:Segm)(hs:bJ c.r.held):Ak.f (c,g,())=if AO c g=5 then fa c g else c:=by
 simp only[PX,Ak,dd,yS c g hs]
 by_cases hv:AO c g=5
 ·rw[if_pos hv,show(AO c g != 5)=false by simp[hv]]
  have h:=Xd c g hv
  have hr:=(qb c.r hs).1 h.co.rcv
  have hw:=((bj g).1 h.sg).2.2.2.2.2.1
  have hsc:=(fw c.opts h.co.opt).2
  have tl:∀u:Conn,u.r=c.r→(bif (bif c.state==1 then(true,())else bif c.state==2 then(true,())else(c.state==3,())).1 then qi.f (({u with r:=r6.f (c.r,g.seq,g.body,bk.f (g,1,()),())}:Conn),())else qi.f (u,()))=if 1≤c.state∧c.state≤3 then du {u with r:=md c.r g.seq g.body (fZ.f (g,1,()))}else du u:=by
   intro u hu
   rw[Jo c.r _ _ _ hs,Ck u,Ck,I7]
   have hk:(bif c.state==1 then(true,())else bif c.state==2 then(true,())else(c.state==3,())).1=decide (1≤c.state∧c.state≤3):=by
    by_cases k1:c.state=1
    ·simp[k1]
    ·by_cases k2:c.state=2
     ·simp[k2]
     ·by_cases k3:c.state=3
      ·simp[k3]
      ·rw[show(c.state==1)=false by simp[k1],show(c.state==2)=false by simp[k2],show(c.state==3)=false by simp[k3],decide_eq_false (by omega)];rfl
   rw[hk]
   by_cases h3:1≤c.state∧c.state≤3
   ·rw[if_pos h3,decide_eq_true h3];rfl
   ·rw[if_neg h3,decide_eq_false h3];rfl
  simp only[Ps,cond_false]
  unfold fa tA
  by_cases ha:rY c.s g.ack=true
  ·have hso:=FK c.s h.co.snd (qj g.ack c.s.una) (by
    unfold rY at ha;simp only[Bool.and_eq_true,decide_eq_true_eq]at ha;exact ha.2.1) (by
    unfold rY at ha;simp only[Bool.and_eq_true,decide_eq_true_eq]at ha;exact ha.2.2)
   simp only[if_pos ha,cond_true,rO _ hso.1,B6 _ _ hw.1 hw.2 hsc]
   have hcnd:(bif (ck c.s (qj g.ack c.s.una)).una != c.s.una then(c.state != 7,())else bif DA (ck c.s (qj g.ack c.s.una))==0 then(c.state != 7,())else(false,())).1=decide (((ck c.s (qj g.ack c.s.una)).una≠c.s.una∨DA (ck c.s (qj g.ack c.s.una))=0)∧c.state≠7):=Gm _ _ _ _
   rw[hcnd]
   have tl2:=λ(t r:Int)=>tl ({c with s:=ck c.s (qj g.ack c.s.una),window:=gN g.window c.opts.scale,most:=(if c.most<gN g.window c.opts.scale then gN g.window c.opts.scale else c.most),timer:=t,tries:=r}:Conn) rfl
   by_cases hq:((ck c.s (qj g.ack c.s.una)).una≠c.s.una∨DA (ck c.s (qj g.ack c.s.una))=0)∧c.state≠7
   ·simp only[decide_eq_true hq,if_pos hq,cond_true]
    by_cases h0:0<DA (ck c.s (qj g.ack c.s.una))
    ·simp only[decide_eq_true h0,if_pos h0,cond_true]
     dsimp only[Tr.nice]
     exact tl2 3 0
    ·simp only[decide_eq_false h0,if_neg h0,cond_false]
     dsimp only[Tr.nice]
     exact tl2 0 0
   ·simp only[decide_eq_false hq,if_neg hq,cond_false]
    dsimp only[Tr.nice]
    exact tl2 c.timer c.tries
  ·simp only[if_neg ha,cond_false]
   dsimp only[Tr.nice]
   exact tl c rfl
 ·rw[if_neg hv,show(AO c g != 5)=true by simp[hv]];rfl
structure H1 (c u:Conn):Prop where
 tup:u.tuple=c.tuple
 st:u.state=c.state
 op:u.opts=c.opts
 rr:u.r=c.r
 so:SO u.s
 fin:u.s.fin=c.s.fin
 dn:c.s.done=true→u.s.done=true
 m0:0≤u.most
 m1:u.most≤1073725440
 w0:0≤u.window
 w1:u.window≤u.most
 t0:0≤u.timer
 t4:u.timer≤4
 t3:c.state≠7→u.timer≤3
 r0:0≤u.tries
 r3:u.tries≤3
theorem TM (c:Conn)(g:Segm)(h:V5 c g):H1 c (tA c g):=by
 have hc:=h.co
 have hw:=((bj g).1 h.sg).2.2.2.2.2.1
 have hsc:=(fw c.opts hc.opt).2
 have hr:=Eg g.window c.opts.scale hw.1 hw.2 hsc
 have a1:=hc.m0
 have a2:=hc.m1
 have a3:=hc.w0
 have a4:=hc.w1
 have a5:=hc.t0
 have a6:=hc.t4
 have a7:=hc.r0
 have a8:=hc.r3
 unfold tA
 split
 ·rename_i ha
  have hso:=FK c.s hc.snd (qj g.ack c.s.una) (by
    unfold rY at ha;simp only[Bool.and_eq_true,decide_eq_true_eq]at ha;exact ha.2.1) (by
    unfold rY at ha;simp only[Bool.and_eq_true,decide_eq_true_eq]at ha;exact ha.2.2)
  split
  ·refine⟨rfl,rfl,rfl,rfl,hso.1,hso.2.1,hso.2.2, ?_, ?_,hr.1, ?_, ?_, ?_,λ_=> ?_,Int.le_refl _,by show(0:Int)≤3;omega⟩
   ·show 0≤(if c.most<gN g.window c.opts.scale then gN g.window c.opts.scale else c.most);split<;>omega
   ·show(if c.most<gN g.window c.opts.scale then gN g.window c.opts.scale else c.most)≤1073725440;split<;>omega
   ·show gN g.window c.opts.scale≤(if c.most<gN g.window c.opts.scale then gN g.window c.opts.scale else c.most);split<;>omega
   ·show 0≤(if 0<DA (ck c.s (qj g.ack c.s.una))then(3:Int)else 0);split<;>omega
   ·show(if 0<DA (ck c.s (qj g.ack c.s.una))then(3:Int)else 0)≤4;split<;>omega
   ·show(if 0<DA (ck c.s (qj g.ack c.s.una))then(3:Int)else 0)≤3;split<;>omega
  ·refine⟨rfl,rfl,rfl,rfl,hso.1,hso.2.1,hso.2.2, ?_, ?_,hr.1, ?_,a5,a6,hc.t3,a7,a8⟩
   ·show 0≤(if c.most<gN g.window c.opts.scale then gN g.window c.opts.scale else c.most);split<;>omega
   ·show(if c.most<gN g.window c.opts.scale then gN g.window c.opts.scale else c.most)≤1073725440;split<;>omega
   ·show gN g.window c.opts.scale≤(if c.most<gN g.window c.opts.scale then gN g.window c.opts.scale else c.most);split<;>omega
 ·exact⟨rfl,rfl,rfl,rfl,hc.snd,rfl,λh=>h,a1,a2,a3,a4,a5,a6,hc.t3,a7,a8⟩
theorem N2 {s:Sndr}(h:SO s)(hd:s.done=true):s.fin=true:=(h.2.2.2.2.2.2 hd).1
theorem QH {c u:Conn}(hc:CO c)(h8:c.state≠8)(h:H1 c u)(rv:Recv)(hrv:RV rv)(hd:rv.done=c.r.done∨(c.r.done=false∧c.state≤3)):TR ({u with r:=rv}:Conn):=by
 have s1:=hc.s1
 have s8:=hc.s8
 refine⟨by show az.f (u.tuple,())=true;rw[h.tup];exact hc.tup,h.so,(qb rv hrv.small).2 hrv,by show aF.f (u.opts,())=true;rw[h.op];exact hc.opt,by show 1≤u.state;rw[h.st];exact s1,by show u.state≤7;rw[h.st];omega,h.m0,h.m1,h.w0,h.w1,h.t0,h.t4,λhn=>h.t3 (by rw[←h.st];exact hn),h.r0,h.r3, ?_⟩
 show Uu (mM u.state u.s.done rv.done) u.s.fin u.s.done rv.done=true
 rw[h.st,h.fin]
 exact Tk c.state s1 (by omega) c.s.fin c.s.done c.r.done u.s.done rv.done hc.fl h.dn (λhh=>by rw[←h.fin];exact N2 h.so hh) hd
theorem Wi (k:Int)(sf sd rd:Bool)(h:Uu k sf sd rd=true)(h1:1≤k)(h3:k≤3):rd=false:=by
 have hk:k=1∨k=2∨k=3:=by omega
 rcases hk with rfl|rfl|rfl<;>revert h<;>revert sf sd rd<;>decide+kernel
theorem Ml (x:Conn):(du x).s=x.s:=by
 unfold du;repeat' split
 all_goals rfl
theorem LZ (x:Conn):(du x).r=x.r:=by
 unfold du;repeat' split
 all_goals rfl
theorem Mj (x:Conn)(h:(du x).state=8)(h8:x.state≠8):x.state=6∧x.s.done=true:=by
 have hl:mM x.state x.s.done x.r.done=8:=by
  unfold du at h
  split at h
  ·split at h
   ·exact absurd h h8
   ·split at h
    ·simp at h
    ·split at h
     ·assumption
     ·exact h
  ·exact absurd h h8
 unfold mM at hl
 repeat' split at hl
 all_goals first|omega|(rename_i h6 hd;exact⟨by assumption,by assumption⟩)
theorem LX (c:Conn)(g:Segm)(hs:bJ c.r.held)(hv:AO c g=5):CO (fa c g)∧(fa c g).tuple=c.tuple∧((fa c g).state=8→c.state=6∧(fa c g).s.done=true)∧bJ (fa c g).r.held:=by
 have h:=Xd c g hv
 have hH:=TM c g h
 have hr:=(qb c.r hs).1 h.co.rcv
 unfold fa
 by_cases h3:1≤c.state∧c.state≤3
 ·rw[if_pos h3]
  have hT:=QH h.co h.s8 hH (md c.r g.seq g.body (fZ.f (g,1,()))) (Gi _ _ _ _ hr) (.inr ⟨Wi _ _ _ _ h.co.fl h3.1 h3.2,h3.2⟩)
  refine⟨hT.turned,by rw[zw];exact hH.tup,λh8=> ?_, ?_⟩
  ·have:=Mj _ h8 (by show(tA c g).state≠8;rw[hH.st];exact h.s8)
   rw[Ml]
   exact⟨by rw[←hH.st];exact this.1,this.2⟩
  ·rw[LZ];exact Ja _ _ _ _ hr
 ·rw[if_neg h3]
  have hT:=QH h.co h.s8 hH c.r hr (.inl rfl)
  have e:({tA c g with r:=c.r}:Conn)=tA c g:=by rw[←hH.rr]
  rw[e]at hT
  refine⟨hT.turned,by rw[zw];exact hH.tup,λh8=> ?_, ?_⟩
  ·have:=Mj _ h8 (by rw[hH.st];exact h.s8)
   rw[Ml]
   exact⟨by rw[←hH.st];exact this.1,this.2⟩
  ·rw[LZ,hH.rr];exact hs
theorem SI (c:Conn)(g:Segm):AO c g=1∨AO c g=2∨AO c g=3∨AO c g=4∨AO c g=5:=by
 unfold AO
 cases(bG.f (c,())&&(!(c.state==8)&&ae.f (g,())))with
 |false=>exact .inl rfl
 |true=>
  cases bk.f (g,4,())<;>cases(g.seq==c.r.next)<;>cases sN g.seq c.r.next (nY c.r)<;>cases bk.f (g,2,())<;>cases PA c g<;>cases bk.f (g,16,())<;>cases LN c g.ack<;>simp
def dm (c:Conn)(g:Segm):Conn×List Segm×Int:=
 if AO c g=2 then({c with state:=8,timer:=0,tries:=0},[],2)
 else if AO c g=3 then(c,[cp.f (c,())],3)
 else if AO c g=4 then(if c.state=7∧bk.f (g,1,())=true then{c with timer:=4}else c,[cp.f (c,())],4)
 else if AO c g=5 then
  (if(fa c g).state=8 then(fa c g,[],5)
  else((dT.f (fa c g,(fa c g).window,())).1,if(dT.f (fa c g,(fa c g).window,())).2=[]∧aH.f (g,())≠0 then[cp.f ((dT.f (fa c g,(fa c g).window,())).1,())]else(dT.f (fa c g,(fa c g).window,())).2,5))
 else(c,[],1)
theorem yX (c:Conn)(g:Segm)(hs:bJ c.r.held):mD.f (c,g,())=dm c g:=by
 simp only[PX,mD,dd,yS c g hs,OM c g hs]
 have hv:=SI c g
 unfold dm
 generalize AO c g=v at hv⊢
 rcases hv with rfl|rfl|rfl|rfl|rfl
 ·rfl
 ·rfl
 ·rfl
 ·have e:(bif (4:Int)==4 then bif c.state==7 then(bk.f (g,1,()),())else(false,())else(false,())).1=decide (c.state=7∧bk.f (g,1,())=true):=by
   by_cases h7:c.state=7
   ·simp[h7]
   ·rw[show(c.state==7)=false by simp[h7],decide_eq_false (λh=>h7 h.1)];rfl
  rw[e]
  by_cases hq:c.state=7∧bk.f (g,1,())=true
  ·rw[decide_eq_true hq];simp only[if_pos hq];rfl
  ·rw[decide_eq_false hq];simp only[if_neg hq];rfl
 ·simp only[if_true]
  rw[if_neg (show¬(5:Int)=2 by omega),if_neg (show¬(5:Int)=3 by omega),if_neg (show¬(5:Int)=4 by omega)]
  generalize fa c g=x
  change (bif x.state==8 then(x,[],(5:Int))else bif (bif ((dT.f (x,x.window,())).2.length:Int)==0 then(aH.f (g,()) != 0,())else(false,())).1 then((dT.f (x,x.window,())).1,[cp.f ((dT.f (x,x.window,())).1,())],5)else((dT.f (x,x.window,())).1,(dT.f (x,x.window,())).2,5))=_
  by_cases h8:x.state=8
  ·rw[if_pos h8,show(x.state==8)=true by simp[h8]];rfl
  ·rw[if_neg h8,show(x.state==8)=false by simp[h8]]
   generalize dT.f (x,x.window,())=p
   obtain⟨p1,p2⟩:=p
   cases p2 with
   |nil=>
    by_cases h0:aH.f (g,())=0
    ·simp[h0]
    ·have h0':(aH.f (g,()) != 0)=true:=by simp[h0]
     simp[h0,h0']
   |cons a r=>
    have h0:(((a::r).length:Int)==0)=false:=by rw[beq_eq_false_iff_ne];simp only[List.length_cons];omega
    simp only[h0,cond_false,if_neg (show¬((a::r:List Segm)=[]∧aH.f (g,())≠0) by simp)]
theorem SU (c:Conn)(w:Int)(hc:SO c.s)(h:(dT.f (c,w,())).2=[]):(dT.f (c,w,())).1=c:=by
 revert h
 simp only[PX,dT,dd,je]
 cases(bif !bG.f (c,())then(true,())else bif (c.state==8)then(true,())else((c.state==7),())).1 with
 |true=>exact λ_=>rfl
 |false=>
 simp only[cond_false]
 have key:=qs (f:=λa=>(bN w a).nice) (Inv:=λa=>Sent c a.2.1∧(a.2.2=[]→a.2.1=c)) (Q:=λp=>p.2.2=[]→p.2.1=c) (meas:=λa=>DX a.2.1.s) (λa hi a' he=>by
  rcases oX w c a hi.1 with⟨l,e⟩|⟨a2,e,h1,h2⟩
  ·simp only[e]at he;cases he
  ·simp only[e,Stp.next.injEq]at he;subst he
   refine⟨⟨h1,λh3=> ?_⟩,h2⟩
   exfalso
   obtain⟨a1,a2',al⟩:=a
   revert e
   simp only[PX,bN]
   cases(aO.f (a2'.s,w,cT.f (a2',()),())).2 with
   |false=>intro e;cases e
   |true=>
    cases((aO.f (a2'.s,w,cT.f (a2',()),())).1.text==[])<;>cases(aO.f (a2'.s,w,cT.f (a2',()),())).1.fin<;>(intro e;simp only[Stp.next.injEq,cond_true,cond_false,Bool.not_true,Bool.not_false]at e;subst e;simp at h3)) (λa hi p he=>by
  rcases oX w c a hi.1 with⟨l,e⟩|⟨a2,e,h1,h2⟩
  ·obtain⟨a1,a2',al⟩:=a
   have hl:l=al:=by
    revert e
    simp only[PX,bN]
    cases(aO.f (a2'.s,w,cT.f (a2',()),())).2 with
    |false=>intro e;cases e;rfl
    |true=>cases((aO.f (a2'.s,w,cT.f (a2',()),())).1.text==[])<;>cases(aO.f (a2'.s,w,cT.f (a2',()),())).1.fin<;>(intro e;cases e)
   simp only[e,Stp.out.injEq]at he;subst he;subst hl;exact hi.2
  ·simp only[e]at he;cases he) (DX c.s+1) (⟨⟨0,0,0⟩,0,⟨0,[],0,false,false,false⟩,⟨0,[],[],0,false⟩,0,0,⟨0,0,false,false,0,0⟩,0,0⟩,c,[]) (Nat.lt_succ_self _) ⟨Sent.refl c hc,λ_=>rfl⟩
 obtain⟨q,hq⟩:∃q,cz (λa=>(bN w a).nice) (DX c.s+1) (⟨⟨0,0,0⟩,0,⟨0,[],0,false,false,false⟩,⟨0,[],[],0,false⟩,0,0,⟨0,0,false,false,0,0⟩,0,0⟩,c,[])=q:=⟨_,rfl⟩
 rw[hq]at key
 simp only[hq]
 obtain⟨q1,q2,q3⟩:=q
 simp only[]at key⊢
 intro h3
 have h4:q3=[]:=by
  revert h3
  cases(bif decide (0<(q3.length:Int))then((q2.timer==0),())else(false,())).1<;>exact λh=>h
 subst h4
 rw[key rfl]
 rfl
theorem Ax (c:Conn)(g:Segm)(hs:bJ c.r.held):sm.f (c,g,())=dm c g:=by
 simp only[PX,sm,kS,AH c g hs,Qd c g hs,z7,sP,I7]
 have hv:=SI c g
 have h5:=LX c g hs
 have hb:AO c g=5→g.body.length≤1420:=λh=>lE g (Xd c g h).sg
 unfold dm
 generalize AO c g=v at hv h5 hb⊢
 rcases hv with rfl|rfl|rfl|rfl|rfl
 ·rfl
 ·rfl
 ·show(c,[lk.f (c,())],(3:Int))=_
  rw[z7];rfl
 ·have e:(bif (4:Int)==4 then bif c.state==7 then(bk.f (g,1,()),())else(false,())else(false,())).1=decide (c.state=7∧bk.f (g,1,())=true):=by
   by_cases h7:c.state=7
   ·simp[h7]
   ·rw[show(c.state==7)=false by simp[h7],decide_eq_false (λh=>h7 h.1)];rfl
  rw[e]
  by_cases hq:c.state=7∧bk.f (g,1,())=true
  ·rw[decide_eq_true hq];simp only[if_pos hq]
   show(({c with timer:=4}:Conn),[lk.f (c,())],(4:Int))=_
   rw[z7];rfl
  ·rw[decide_eq_false hq];simp only[if_neg hq]
   show(c,[lk.f (c,())],(4:Int))=_
   rw[z7];rfl
 ·simp only[if_true]
  rw[if_neg (show¬(5:Int)=2 by omega),if_neg (show¬(5:Int)=3 by omega),if_neg (show¬(5:Int)=4 by omega)]
  obtain⟨hx,-,-,hxs⟩:=h5 rfl
  have hl:=qf g (by have:=hb rfl;omega)
  generalize fa c g=x at hx hxs⊢
  have hP:=V8 x x.window (by have:=hx.w1;have:=hx.m1;omega) hxs
  have hN:=SU x x.window hx.snd
  change (bif x.state==8 then(x,[],(5:Int))else bif (bif decide (0<aH.f (g,()))then(((rg.f (x,x.window,())).2.length:Int)==0,())else(false,())).1 then((rg.f (x,x.window,())).1,(rg.f (x,x.window,())).2++[cp.f (x,())],5)else((rg.f (x,x.window,())).1,(rg.f (x,x.window,())).2,5))=_
  rw[hP]
  by_cases h8:x.state=8
  ·rw[if_pos h8,show(x.state==8)=true by simp[h8]];rfl
  ·rw[if_neg h8,show(x.state==8)=false by simp[h8]]
   generalize dT.f (x,x.window,())=p at hN⊢
   obtain⟨p1,p2⟩:=p
   cases p2 with
   |nil=>
    have hN:=hN rfl
    simp only[]at hN
    subst hN
    by_cases h0:aH.f (g,())=0
    ·simp[h0]
    ·rw[decide_eq_true (show 0<aH.f (g,()) by omega)]
     simp[h0]
   |cons a r=>
    have h0:(((a::r).length:Int)==0)=false:=by rw[beq_eq_false_iff_ne];simp only[List.length_cons];omega
    cases decide (0<aH.f (g,()))<;>simp only[h0,cond_true,cond_false,if_neg (show¬((a::r:List Segm)=[]∧aH.f (g,())≠0) by simp)]
theorem Ih (n:Int):bits .and .i64 n 15=n%16:=by
 have h:(BitVec.ofInt 64 15).toNat=2 ^ 4-1:=by decide
 have key:(BitVec.ofInt 64 n&&& BitVec.ofInt 64 15).toNat=(n%((2 ^ 64:Nat):Int)).toNat%2 ^ 4:=by
  rw[BitVec.toNat_and,BitVec.toNat_ofInt,h,Nat.and_two_pow_sub_one_eq_mod]
 show IntKind.i64.wrap ((BitVec.ofInt 64 n&&& BitVec.ofInt 64 15).toNat:Nat)=n%16
 rw[key,dh]
 omega
theorem RR (v:Int):wY.f (v,())=kM.f (v,()):=by
 simp only[PX,wY,kM,eE,Ih]
 rcases Bool.eq_false_or_eq_true (aj.f (v,32,()))with h|h
 ·rw[h]
  rw[cl]at h
  simp only[Bool.and_eq_true,decide_eq_true_eq]at h
  rw[Int.tmod_eq_emod_of_nonneg h.1]
 ·rw[h];rfl
theorem A7 (i:Int)(o:Opti):jI.f (i,o,())=cr.f (i,o,()):=by
 simp only[PX,jI,cr,RR,Qx,dC,cA]
theorem Ib (t:Tupl)(h:az.f (t,())=true):(0≤t.ip∧t.ip≤4294967295)∧(0≤t.port∧t.port≤65535)∧(0≤t.my∧t.my≤65535):=by
 simp only[PX,az,eO,cl]at h
 by_cases h1:0≤t.ip∧t.ip≤4294967295
 ·by_cases h2:0≤t.port∧t.port≤65535
  ·by_cases h3:0≤t.my∧t.my≤65535
   ·exact⟨h1,h2,h3⟩
   ·rw[show(decide (0≤t.my)&&decide (t.my≤65535))=false by rw[Bool.and_eq_false_iff];simp only[decide_eq_false_iff_not];omega]at h
    revert h
    cases(decide (0≤t.ip)&&decide (t.ip≤4294967295))<;>cases(decide (0≤t.port)&&decide (t.port≤65535))<;>simp
  ·rw[show(decide (0≤t.port)&&decide (t.port≤65535))=false by rw[Bool.and_eq_false_iff];simp only[decide_eq_false_iff_not];omega]at h
   revert h
   cases(decide (0≤t.ip)&&decide (t.ip≤4294967295))<;>simp
 ·rw[show(decide (0≤t.ip)&&decide (t.ip≤4294967295))=false by rw[Bool.and_eq_false_iff];simp only[decide_eq_false_iff_not];omega]at h
  simp at h
theorem IU (s:Sndr):jr.f (s,())=(s.una+cG.f (s,()))%4294967296:=by simp only[PX,jr,bH]
theorem sV:aF.f (cA.f (()),())=true:=by decide+kernel
theorem TA (c:Conn)(hc:az.f (c.tuple,())=true)(hd:c.r.data.length≤32)(hn:0≤c.r.next∧c.r.next≤4294967295)(sq fl:Int)(b:aA)(h0:0≤sq∧sq≤4294967295)(hf:0≤fl∧fl≤63)(hb:b.length≤1420):ae.f ({cp.f (c,())with seq:=sq,flags:=fl,body:=b},())=true:=by
 rw[bj]
 have ht:=Ib c.tuple hc
 have hw:=oT c.r hd
 simp only[PX,cp,gJ c.r hd]
 exact⟨ht.2.2,ht.2.1,h0,hn,hf,⟨hw.1,by omega⟩,sV,hb⟩
theorem Lv (c:Conn)(hc:CO c)(hs:bJ c.r.held):ae.f (cp.f (c,()),())=true:=by
 have hr:=(qb c.r hs).1 hc.rcv
 have h:=TA c hc.tup hr.dl ⟨hr.n0,hr.n1⟩ (jr.f (c.s,())) 16 [] (by rw[IU];omega) (by omega) (by simp)
 have e:({cp.f (c,())with seq:=jr.f (c.s,()),flags:=16,body:=[]}:Segm)=cp.f (c,()):=by simp only[PX,cp]
 rw[e]at h;exact h
theorem Hp (s:Sndr)(w m:Int)(h:(aO.f (s,w,m,())).2=true):(aO.f (s,w,m,())).1.seq=jr.f (s,()):=by
 revert h
 simp only[PX,aO]
 generalize(if 0<(if(IntKind.wrap .i64 ((if w<(-1)then(-1)else w)-cG.f (s,())))<(if m<(((s.data.take ((s.data.length:Int).toNat)).drop s.sent.toNat).length:Int)then m else(((s.data.take ((s.data.length:Int).toNat)).drop s.sent.toNat).length:Int))then(IntKind.wrap .i64 ((if w<(-1)then(-1)else w)-cG.f (s,())))else(if m<(((s.data.take ((s.data.length:Int).toNat)).drop s.sent.toNat).length:Int)then m else(((s.data.take ((s.data.length:Int).toNat)).drop s.sent.toNat).length:Int)))then(if(IntKind.wrap .i64 ((if w<(-1)then(-1)else w)-cG.f (s,())))<(if m<(((s.data.take ((s.data.length:Int).toNat)).drop s.sent.toNat).length:Int)then m else(((s.data.take ((s.data.length:Int).toNat)).drop s.sent.toNat).length:Int))then(IntKind.wrap .i64 ((if w<(-1)then(-1)else w)-cG.f (s,())))else(if m<(((s.data.take ((s.data.length:Int).toNat)).drop s.sent.toNat).length:Int)then m else(((s.data.take ((s.data.length:Int).toNat)).drop s.sent.toNat).length:Int)))else 0)=n
 generalize(IntKind.wrap .i64 ((if w<(-1)then(-1)else w)-cG.f (s,())))=v
 generalize(((s.data.take ((s.data.length:Int).toNat)).drop s.sent.toNat).take n.toNat).drop 0=tx
 generalize(((s.data.take ((s.data.length:Int).toNat)).drop s.sent.toNat).length:Int)=ln
 cases bp.f (s,())<;>cases s.fin<;>cases s.finSent<;>cases s.done<;>cases(n==ln)<;>cases(tx==[])<;>cases decide (n<v)<;>simp
theorem Rx (c:Conn)(w:Int)(hc:CO c)(hs:bJ c.r.held):∀g∈(dT.f (c,w,())).2,ae.f (g,())=true:=by
 have hr:=(qb c.r hs).1 hc.rcv
 simp only[PX,dT,dd,je]
 cases(bif !bG.f (c,())then(true,())else bif (c.state==8)then(true,())else((c.state==7),())).1 with
 |true=>intro g hg;cases hg
 |false=>
 simp only[cond_false]
 have key:=qs (f:=λa=>(bN w a).nice) (Inv:=λa=>Sent c a.2.1∧(∀g∈a.2.2,ae.f (g,())=true)) (Q:=λp=>∀g∈p.2.2,ae.f (g,())=true) (meas:=λa=>DX a.2.1.s) (λa hi a' he=>by
  rcases oX w c a hi.1 with⟨l,e⟩|⟨a2,e,h1,h2⟩
  ·simp only[e]at he;cases he
  ·simp only[e,Stp.next.injEq]at he;subst he
   refine⟨⟨h1, ?_⟩,h2⟩
   obtain⟨hS,hl⟩:=hi
   obtain⟨a1,b2,al⟩:=a
   simp only[]at hS hl
   have hre:=hS.re
   have htup:az.f (b2.tuple,())=true:=by rw[hre];exact hc.tup
   have hrr:b2.r=c.r:=by rw[hre]
   have hch:=aO.c.h (b2.s,w,cT.f (b2,()),()) (Gu hS.so)
   have hsq:=Hp b2.s w (cT.f (b2,()))
   revert e
   simp only[PX,bN]
   simp only[PX]at hch
   generalize aO.f (b2.s,w,cT.f (b2,()),())=z at hch hsq⊢
   obtain⟨y,b⟩:=z
   cases b with
   |false=>intro e;cases e
   |true=>
    obtain⟨-,hch⟩:=hch
    obtain⟨-,hlen,-,-,-⟩:=hch rfl
    have hsq:=hsq rfl
    simp only[]at hlen hsq
    have hdl:=hS.so.2.2.1
    have hs0:=hS.so.2.2.2.1
    have ok:∀fl:Int,0≤fl∧fl≤63→ae.f (({cp.f (b2,())with seq:=y.seq,flags:=fl,body:=y.text}:Segm),())=true:=λfl hf=>TA b2 htup (by rw[hrr];exact hr.dl) (by rw[hrr];exact⟨hr.n0,hr.n1⟩) y.seq fl y.text (by rw[hsq,IU];omega) hf (by omega)
    have fin:∀fl:Int,0≤fl∧fl≤63→∀g∈al++[({cp.f (b2,())with seq:=y.seq,flags:=fl,body:=y.text}:Segm)],ae.f (g,())=true:=by
     intro fl hf g hg
     rcases List.mem_append.1 hg with h3|h3
     ·exact hl g h3
     ·rw[List.mem_singleton.1 h3];exact ok fl hf
    have hfl:(cp.f (b2,())).flags=16:=by simp only[PX,cp]
    simp only[hfl]
    cases(y.text==[])<;>cases y.fin<;>(intro e;simp only[Stp.next.injEq,cond_true,cond_false,Bool.not_true,Bool.not_false]at e;subst e;refine fin _ (by decide+kernel))) (λa hi p he=>by
  rcases oX w c a hi.1 with⟨l,e⟩|⟨a2,e,h1,h2⟩
  ·obtain⟨a1,a2',al⟩:=a
   have hl:l=al:=by
    revert e
    simp only[PX,bN]
    cases(aO.f (a2'.s,w,cT.f (a2',()),())).2 with
    |false=>intro e;cases e;rfl
    |true=>cases((aO.f (a2'.s,w,cT.f (a2',()),())).1.text==[])<;>cases(aO.f (a2'.s,w,cT.f (a2',()),())).1.fin<;>(intro e;cases e)
   simp only[e,Stp.out.injEq]at he;subst he;subst hl;exact hi.2
  ·simp only[e]at he;cases he) (DX c.s+1) (⟨⟨0,0,0⟩,0,⟨0,[],0,false,false,false⟩,⟨0,[],[],0,false⟩,0,0,⟨0,0,false,false,0,0⟩,0,0⟩,c,[]) (Nat.lt_succ_self _) ⟨Sent.refl c hc.snd,λg hg=>by cases hg⟩
 obtain⟨q,hq⟩:∃q,cz (λa=>(bN w a).nice) (DX c.s+1) (⟨⟨0,0,0⟩,0,⟨0,[],0,false,false,false⟩,⟨0,[],[],0,false⟩,0,0,⟨0,0,false,false,0,0⟩,0,0⟩,c,[])=q:=⟨_,rfl⟩
 rw[hq]at key
 simp only[hq]
 obtain⟨q1,q2,q3⟩:=q
 simp only[]at key⊢
 cases(bif decide (0<(q3.length:Int))then((q2.timer==0),())else(false,())).1<;>exact key
theorem DQ (c:Conn)(g:Segm)(hc:CO c)(hs:bJ c.r.held):CO (dm c g).1∧(dm c g).1.tuple=c.tuple∧(∀y∈(dm c g).2.1,ae.f (y,())=true)∧bJ (dm c g).1.r.held:=by
 have one:∀y∈[cp.f (c,())],ae.f (y,())=true:=λy hy=>by rw[List.mem_singleton.1 hy];exact Lv c hc hs
 have nil:∀y∈([]:List Segm),ae.f (y,())=true:=λy hy=>by cases hy
 unfold dm
 split
 ·exact⟨CO.set hc 8 0 0 (.inr rfl) (by omega) (by omega) (λ_=>by omega) (by omega) (by omega),rfl,nil,hs⟩
 ·split
  ·exact⟨hc,rfl,one,hs⟩
  ·split
   ·split
    ·rename_i h7
     exact⟨CO.set hc c.state 4 c.tries (.inl rfl) (by omega) (by omega) (λh=>absurd h7.1 h) hc.r0 hc.r3,rfl,one,hs⟩
    ·exact⟨hc,rfl,one,hs⟩
   ·split
    ·rename_i hv
     obtain⟨hx,hxt,-,hxs⟩:=LX c g hs hv
     generalize fa c g=x at hx hxt hxs⊢
     split
     ·exact⟨hx,hxt,nil,hxs⟩
     ·have hS:=Rc x x.window hx.snd
      have hp:=Sent.ok hS hx (hS.tm.elim .inr λe=> .inl (by omega))
      have ht:(dT.f (x,x.window,())).1.tuple=x.tuple:=by rw[hS.re]
      have hr:(dT.f (x,x.window,())).1.r=x.r:=by rw[hS.re]
      refine⟨hp,ht.trans hxt, ?_,by show bJ (dT.f (x,x.window,())).1.r.held;rw[hr];exact hxs⟩
      simp only[]
      split
      ·intro y hy
       rw[List.mem_singleton.1 hy];exact Lv _ hp (by rw[hr];exact hxs)
      ·exact Rx x x.window hx hxs
    ·exact⟨hc,rfl,nil,hs⟩
theorem RB (t:Tabl)(c:Conn):wl.f (t,c,())=er.f (t,c,()):=by
 simp only[PX,wl,er,Bc,lq,ji,kS,dd]
theorem QQ (t:Tabl)(c:Conn)(l:Limi)(hs:∀y∈t.conns,bJ y.r.held)(hc:bJ c.r.held):xb.f (t,c,l,())=kY.f (t,c,l,()):=by
 simp only[PX,xb,kY,Bc,lq,kS,dd]
 rw[IQ _ _ (λy hy=>by
  rcases List.mem_append.1 hy with h|h
  ·exact hs y h
  ·rw[List.mem_singleton.1 h];exact hc)]
theorem UG (xs:List Conn)(t:Tupl)(h:decide (0≤jJ (λh=>kI t h.tuple) xs)=true):∃i:Nat,jJ (λh:Conn=>kI t h.tuple) xs=(i:Int)∧∃hi:i<xs.length,xs[i].tuple=t:=by
 unfold jJ at h⊢
 cases hf:xs.findIdx? (λh=>kI t h.tuple)with
 |none=>rw[hf]at h;simp at h
 |some i=>
  obtain⟨h1,h2,-⟩:=List.findIdx?_eq_some_iff_getElem.1 hf
  exact⟨i,rfl,h1,((AK _ _).1 h2).symm⟩
theorem wG (xs:List Half)(t:Tupl)(h:decide (0≤jJ (λh=>kI t h.tuple) xs)=true):∃i:Nat,jJ (λh:Half=>kI t h.tuple) xs=(i:Int)∧∃hi:i<xs.length,xs[i].tuple=t:=by
 unfold jJ at h⊢
 cases hf:xs.findIdx? (λh=>kI t h.tuple)with
 |none=>rw[hf]at h;simp at h
 |some i=>
  obtain⟨h1,h2,-⟩:=List.findIdx?_eq_some_iff_getElem.1 hf
  exact⟨i,rfl,h1,((AK _ _).1 h2).symm⟩
theorem TO.set {t:Tabl}{l:Limi}(h:TO t l)(i:Nat)(c:Conn)(hc:CO c)(hi:i<t.conns.length)(ht:c.tuple=t.conns[i].tuple):TO (⟨t.conns.set i c,t.waiting⟩:Tabl) l:=by
 have hm:(t.conns.set i c).map Conn.tuple=t.conns.map Conn.tuple:=by
  rw[List.map_set,ht]
  apply List.ext_getElem?
  intro j
  rw[List.getElem?_set]
  split
  ·rename_i hj
   subst hj
   simp[hi]
  ·rfl
 refine⟨h.lim,by show((t.conns.set i c).length:Int)≤l.conns;rw[List.length_set];exact h.nc,h.nw, ?_, ?_,h.dw, ?_⟩
 ·intro y hy
  rcases List.mem_or_eq_of_mem_set hy with h1|h1
  ·exact h.co y h1
  ·rw[h1];exact hc
 ·show((t.conns.set i c).map Conn.tuple).Nodup
  rw[hm];exact h.dc
 ·intro w hw
  show w∈(t.conns.set i c).map Conn.tuple
  rw[hm];exact h.wc w hw
theorem UZ (xs:List Conn)(i:Nat)(c:Conn)(hi:i<xs.length)(ht:c.tuple=xs[i].tuple):(xs.set i c).map Conn.tuple=xs.map Conn.tuple:=by
 rw[List.map_set,ht]
 apply List.ext_getElem?
 intro j
 rw[List.getElem?_set]
 split
 ·rename_i hj
  subst hj
  simp[hi]
 ·rfl
theorem P9 (xs:List Conn)(hd:(xs.map Conn.tuple).Nodup)(i:Nat)(hi:i<xs.length):jJ (λh:Conn=>kI xs[i].tuple h.tuple) xs=(i:Int):=by
 have h:=(vZ Conn.tuple xs).2 hd i xs[i] (List.getElem?_eq_getElem hi)
 have h2:=zO (λh:Conn=>kI xs[i].tuple h.tuple) xs i xs[i] (List.getElem?_eq_getElem hi) (vp _)
 rw[h]at h2
 simpa using h2
theorem zh (t:Tabl)(c:Conn)(hd:(t.conns.map Conn.tuple).Nodup)(i:Nat)(hi:i<t.conns.length)(ht:c.tuple=t.conns[i].tuple):er.f (t,c,())=⟨t.conns.set i c,t.waiting⟩:=by
 simp only[PX,er,lq,dd,fg]
 rw[ht,P9 t.conns hd i hi,decide_eq_true (show(0:Int)≤(i:Int) by omega),aa]
 rfl
theorem yY (t:Tabl)(c:Conn)(l:Limi):kY.f (t,c,l,())=if cX.f ((⟨t.conns++[c],t.waiting++[c.tuple]⟩:Tabl),l,())=true then(⟨t.conns++[c],t.waiting++[c.tuple]⟩,true)else(t,false):=by
 simp only[PX,kY,lq,dd]
 cases cX.f ((⟨t.conns++[c],t.waiting++[c.tuple]⟩:Tabl),l,())<;>rfl
def rU (xs:List Half)(t:Tupl):List Half:=bif decide (0≤jJ (λh:Half=>kI t h.tuple) xs)then xs.take (jJ (λh:Half=>kI t h.tuple) xs).toNat++xs.drop ((jJ (λh:Half=>kI t h.tuple) xs).toNat+1)else xs
theorem xu (xs:List Half)(t:Tupl)(hl:xs.length≤4294967296):pW.f (xs,t,())=rU xs t:=by
 simp only[PX,pW,tJ,gu]
 unfold rU
 cases h:decide (0≤jJ (λh:Half=>kI t h.tuple) xs)with
 |false=>
  rw[show decide (jJ (λh:Half=>kI t h.tuple) xs<0)=true by simp at h⊢;exact h]
  simp
 |true=>
  obtain⟨i,e,hi,-⟩:=wG xs t h
  rw[e,decide_eq_false (show¬(i:Int)<0 by omega),au (by omega) (by omega),aa,show((i:Int)+1).toNat=i+1 by omega]
  simp
theorem xq (xs:List Half)(t:Tupl)(hl:xs.length≤4294967296):mZ.f (xs,t,())=rU xs t:=by
 simp only[PX,mZ,dQ,qZ,gu]
 unfold rU
 cases h:decide (0≤jJ (λh:Half=>kI t h.tuple) xs)with
 |false=>simp
 |true=>
  obtain⟨i,e,hi,-⟩:=wG xs t h
  rw[e,au (by omega) (by omega),show((i:Int)==(i:Int)+1)=false by simp;omega,aa,show((i:Int)+1).toNat=i+1 by omega]
  simp only[cond_false,cond_true]
  have hL:(xs.take i++xs.drop (i+1)).length=i+(xs.length-(i+1)):=by
   rw[List.length_append,List.length_take,List.length_drop];omega
  generalize xs.take i++xs.drop (i+1)=L at hL⊢
  rw[List.drop_zero,List.take_left' hL,aa,hL,List.take_left' hL,List.append_assoc,List.take_left' hL]
theorem H3 (xs:List Half)(t:Tupl):(rU xs t).Sublist xs:=by
 unfold rU
 cases h:decide (0≤jJ (λh:Half=>kI t h.tuple) xs)with
 |false=>exact List.Sublist.refl _
 |true=>
  obtain⟨i,e,hi,-⟩:=wG xs t h
  rw[e,aa,cond_true]
  have h1:(xs.take i++xs.drop (i+1)).Sublist (xs.take i++xs.drop i):=List.Sublist.append (List.Sublist.refl _) (by
   rw[←List.drop_drop];exact List.drop_sublist _ _)
  rw[List.take_append_drop]at h1
  exact h1
theorem HO.sub {xs ys:List Half}(h:HO xs)(hs:ys.Sublist xs):HO ys:=⟨λy hy=>h.ok y (hs.subset hy),List.Nodup.sublist (hs.map _) h.nd,Nat.le_trans hs.length_le h.len⟩
theorem OH (xs:List Half)(t:Tupl)(hd:(xs.map Half.tuple).Nodup):t∉(rU xs t).map Half.tuple:=by
 unfold rU
 cases h:decide (0≤jJ (λh:Half=>kI t h.tuple) xs)with
 |false=>
  rw[qM]at h
  rw[cond_false,←Aa,h];simp
 |true=>
  obtain⟨i,e,hi,ht⟩:=wG xs t h
  rw[e,aa,cond_true,List.map_append,List.mem_append]
  have h1:xs.map Half.tuple=(xs.take i).map Half.tuple++t::(xs.drop (i+1)).map Half.tuple:=by
   conv=>lhs;rw[←List.take_append_drop i xs,List.drop_eq_getElem_cons hi]
   rw[List.map_append,List.map_cons,ht]
  rw[h1]at hd
  obtain⟨-,h3,h4⟩:=List.nodup_append.1 hd
  rintro(h5|h5)
  ·exact h4 t h5 t (List.mem_cons_self ..) rfl
  ·exact(List.nodup_cons.1 h3).1 h5
theorem RH (g:Segm):fB.f (g,())=bif bk.f (g,4,())then[]else[(iY.f (g,())).1]:=by
 simp only[PX,fB,iY]
 cases bk.f (g,4,())with
 |true=>rfl
 |false=>cases bk.f (g,16,())<;>rfl
theorem Og (g:Segm):sy.f (g,())=iY.f (g,()):=by
 simp only[PX,sy,iY,I7,sP,ig,dC,cA]
theorem Fi (d:Door)(g:Segm):kw.f (d,g,())=(d,fB.f (g,()),0):=by
 simp only[PX,kw,Og,kP,fB]
 cases(iY.f (g,())).2<;>rfl
theorem wm (g:Segm)(hg:ae.f (g,())=true):∀y∈fB.f (g,()),ae.f (y,())=true:=by
 have h:=(bj g).1 hg
 rw[RH]
 cases h4:bk.f (g,4,())with
 |true=>intro y hy;cases hy
 |false=>
  intro y hy
  rw[cond_false,List.mem_singleton]at hy
  subst hy
  simp only[PX,iY,h4,bH,cond_false]
  cases bk.f (g,16,())with
  |true=>
   rw[bj]
   exact⟨h.2.1,h.1,h.2.2.2.1,by show(0:Int)≤0∧(0:Int)≤4294967295;omega,by show(0:Int)≤4∧(4:Int)≤63;omega,by show(0:Int)≤0∧(0:Int)≤65535;omega,sV,by simp⟩
  |false=>
   rw[bj]
   refine⟨h.2.1,h.1,by show(0:Int)≤0∧(0:Int)≤4294967295;omega, ?_,by show(0:Int)≤20∧(20:Int)≤63;omega,by show(0:Int)≤0∧(0:Int)≤65535;omega,sV,by simp⟩
   show 0≤(g.seq+aH.f (g,()))%4294967296∧(g.seq+aH.f (g,()))%4294967296≤4294967295
   omega
theorem Hv (n:Int):ng.f (n,())=iz.f (n,()):=by
 simp only[PX,ng,iz,m8,bH,Int.add_zero]
def FD (t:Tupl)(iss irs:Int)(o:Opti)(w:Int):Conn:=⟨t,1,⟨(iss+1)%4294967296,[],0,false,false,false⟩,⟨(irs+1)%4294967296,[],[],-1,false⟩,gN w o.scale,gN w o.scale,o,0,0⟩
theorem zQ (t:Tupl)(iss irs:Int)(o:Opti)(w:Int)(ho:aF.f (o,())=true)(h0:0≤w)(h1:w≤65535):sj.f (t,iss,irs,o,w,())=FD t iss irs o w:=by
 have hs:=(fw o ho).2
 have hw:aj.f (w,16,())=true:=by rw[eO,decide_eq_true h0,decide_eq_true h1];rfl
 simp only[PX,sj,ho,hw,Bool.not_true,cond_false,iz,bH,Int.add_zero]
 rw[B6 w o h0 h1 hs,show((irs+1)%4294967296%4294967296)=(irs+1)%4294967296 by omega]
 rfl
theorem yV (t:Tupl)(iss irs:Int)(o:Opti)(w:Int)(ho:aF.f (o,())=true)(h0:0≤w)(h1:w≤65535):ru.f (t,iss,irs,o,w,())=FD t iss irs o w:=by
 have hs:=(fw o ho).2
 have hw:aj.f (w,16,())=true:=by rw[eO,decide_eq_true h0,decide_eq_true h1];rfl
 have e:=(Ok w o.scale h0 h1 hs).1
 have hl:IntKind.wrap .u64 (fL.f (0,o.scale,()))=if o.scale<0 then 0 else o.scale:=by
  rw[EP,Ee _ (by split<;>omega) (by split<;>omega)]
 simp only[PX,ru,gG,eE,ho,hw,Bool.not_true,cond_false,Hv,iz,ig,bH,Int.add_zero]
 rw[hl,e,show((irs+1)%4294967296%4294967296)=(irs+1)%4294967296 by omega]
 rfl
theorem BR (t:Tupl)(iss irs:Int)(o:Opti)(w:Int)(ht:az.f (t,())=true)(ho:aF.f (o,())=true)(h0:0≤w)(h1:w≤65535):CO (FD t iss irs o w)∧bJ (FD t iss irs o w).r.held:=by
 have hs:=(fw o ho).2
 have hr:=Eg w o.scale h0 h1 hs
 have hsm:bJ (FD t iss irs o w).r.held:=λy hy=>by cases hy
 refine⟨⟨ht, ?_, ?_,ho,by show(1:Int)≤1;omega,by show(1:Int)≤8;omega,hr.1,hr.2,hr.1,Int.le_refl _,Int.le_refl _,by show(0:Int)≤4;omega,λ_=>by show(0:Int)≤3;omega,Int.le_refl _,by show(0:Int)≤3;omega,rfl⟩,hsm⟩
 ·refine⟨by show 0≤(iss+1)%4294967296;omega,by show(iss+1)%4294967296≤4294967295;omega,by show(0:Nat)≤48;omega,Int.le_refl _,by show(0:Int)≤((0:Nat):Int);omega,λh=>(by cases h),λh=>(by cases h)⟩
 ·rw[qb _ hsm]
  exact⟨by show 0≤(irs+1)%4294967296;omega,by show(irs+1)%4294967296≤4294967295;omega,by show(0:Nat)≤32;omega,by show(0:Nat)≤3;omega,Int.le_refl _,by show(-1:Int)≤nY _;unfold nY;simp[FD],by show(-1:Int)≠0;omega,⟨0,by simp[FD,eh]⟩,λh=>(by cases h)⟩
theorem yA (i:Int)(o:Opti)(ho:aF.f (o,())=true):aF.f (cr.f (i,o,()),())=true:=by
 have hm:0≤fq.f (i,())∧fq.f (i,())≤65535:=by
  simp only[PX,fq,aC]
  by_cases h:0≤i∧i≤7
  ·rw[decide_eq_true h.1,decide_eq_true h.2]
   have:i=0∨i=1∨i=2∨i=3∨i=4∨i=5∨i=6∨i=7:=by omega
   rcases this with rfl|rfl|rfl|rfl|rfl|rfl|rfl|rfl<;>decide+kernel
  ·rw[show(decide (0≤i)&&decide (i≤7))=false by rw[Bool.and_eq_false_iff];simp only[decide_eq_false_iff_not];omega]
   simp
 have hsc: -1≤(kM.f (o.echo,())).1∧(kM.f (o.echo,())).1≤14:=by
  simp only[PX,kM,Ih]
  cases(bif !aj.f (o.echo,32,())then(true,())else((bits .and .i64 o.echo 32)==0,())).1 with
  |true=>simp only[cond_true];omega
  |false=>
   by_cases h:o.echo%16=15
   ·rw[show(o.echo%16==15)=true by simp[h]];simp only[cond_true,cond_false];omega
   ·rw[show(o.echo%16==15)=false by simp[h]];simp only[cond_false];omega
 simp only[PX,cr,cA]
 cases hs:o.stamp with
 |false=>
  simp only[cond_false]
  simp only[PX,aF,aC,eO,cl,decide_eq_true hm.1,decide_eq_true hm.2]
  rfl
 |true=>
  have hv:0≤o.val∧o.val≤4294967295:=by
   simp only[PX,aF,hs,aC,eO,cl,Bool.not_true,cond_false]at ho
   by_cases h:0≤o.val∧o.val≤4294967295
   ·exact h
   ·rw[show(decide (0≤o.val)&&decide (o.val≤4294967295))=false by rw[Bool.and_eq_false_iff];simp only[decide_eq_false_iff_not];omega]at ho
    revert ho
    cases(decide (0≤o.mss)&&decide (o.mss≤65535))<;>cases(decide (-1≤o.scale)&&decide (o.scale≤14))<;>simp
  simp only[cond_true]
  cases(kM.f (o.echo,())).2.2 with
  |false=>
   simp only[cond_false]
   simp only[PX,aF,aC,eO,cl,decide_eq_true hm.1,decide_eq_true hm.2]
   rfl
  |true=>
   simp only[cond_true]
   simp only[PX,aF,aC,eO,cl,decide_eq_true hm.1,decide_eq_true hm.2,decide_eq_true hsc.1,decide_eq_true hsc.2,decide_eq_true hv.1,decide_eq_true hv.2]
   rfl
def Hx (d:Door)(c:Conn)(g:Segm)(made:Int):Door×List Segm×Int:=
 if cX.f ((⟨d.table.conns++[c],d.table.waiting++[c.tuple]⟩:Tabl),d.limits,())=true then
  ({d with halves:=rU d.halves c.tuple,table:=⟨d.table.conns++[(dm c g).1],d.table.waiting++[c.tuple]⟩},(dm c g).2.1,made)
 else(d,[],0)
theorem IX (t:Tabl)(l:Limi)(c:Conn)(g:Segm)(hs:bJ c.r.held)(hT:cX.f ((⟨t.conns++[c],t.waiting++[c.tuple]⟩:Tabl),l,())=true):er.f ((⟨t.conns++[c],t.waiting++[c.tuple]⟩:Tabl),(dm c g).1,())=⟨t.conns++[(dm c g).1],t.waiting++[c.tuple]⟩:=by
 have h:=(Ov _ _).1 hT
 have hc:=h.co c (by simp)
 have hr:=DQ c g hc hs
 rw[zh _ _ h.dc t.conns.length (by simp) (by simp[hr.2.1])]
 simp
theorem Lg (d:Door)(c:Conn)(g:Segm)(m:Int)(hd:ic d)(hc:bJ c.r.held)(hl:d.halves.length≤4294967296):uY.f (d,c,g,m,())=Hx d c g m:=by
 simp only[PX,uY,kP,QQ d.table c d.limits hd hc,yY,Ax c g hc,RB,xu _ _ hl]
 unfold Hx
 by_cases hT:cX.f ((⟨d.table.conns++[c],d.table.waiting++[c.tuple]⟩:Tabl),d.limits,())=true
 ·rw[if_pos hT,if_pos hT,IX d.table d.limits c g hc hT];rfl
 ·rw[if_neg hT,if_neg hT];rfl
def HT (d:Door)(t:Tupl)(g:Segm):Door×List Segm×Int:=
 if bL.f (d,())=true∧az.f (t,())=true∧ae.f (g,())=true∧¬0≤aw.f (d.table,t,())then
  if 0≤aJ.f (d.halves,t,())then
   if g.ack≠((d.halves.getD (aJ.f (d.halves,t,())).toNat (Ty.zero .half)).iss+1)%4294967296 then(d,fB.f (g,()),0)
   else if g.seq≠((d.halves.getD (aJ.f (d.halves,t,())).toNat (Ty.zero .half)).irs+1)%4294967296 then(d,[],0)
   else Hx d (FD t (d.halves.getD (aJ.f (d.halves,t,())).toNat (Ty.zero .half)).iss (d.halves.getD (aJ.f (d.halves,t,())).toNat (Ty.zero .half)).irs (d.halves.getD (aJ.f (d.halves,t,())).toNat (Ty.zero .half)).opts g.window) g 1
  else if(cH.f (d.keys,t,(g.seq+ -1)%4294967296,(g.ack+ -1)%4294967296,())).2.2=true then
   Hx d (FD t ((g.ack+ -1)%4294967296) ((g.seq+ -1)%4294967296) (cr.f ((cH.f (d.keys,t,(g.seq+ -1)%4294967296,(g.ack+ -1)%4294967296,())).2.1,g.opts,())) g.window) g 2
  else(d,fB.f (g,()),0)
 else(d,[],0)
theorem BX (xs:List Half)(t:Tupl)(h:HO xs)(hf:0≤aJ.f (xs,t,())):aF.f ((xs.getD (aJ.f (xs,t,())).toNat (Ty.zero .half)).opts,())=true:=by
 rw[gu]at hf⊢
 obtain⟨i,e,hi,-⟩:=wG xs t (decide_eq_true hf)
 rw[e,aa,getD_some (List.getElem?_eq_getElem hi)]
 have:=h.ok _ (List.getElem_mem hi)
 unfold yk at this
 simp only[Bool.and_eq_true]at this
 exact this.2.2.2.2.1
theorem Xn {A B C:Type}(x:A×B×C):(x.1,x.2.1,x.2.2)=x:=rfl
theorem Fk (d:Door)(t:Tupl)(g:Segm)(hs:ic d)(hl:d.halves.length≤4294967296):wa.f (d,t,g,())=HT d t g:=by
 simp only[PX,wa,kP,FS d t g hs,ji,tJ,ig,bH,Fi,GV,A7]
 unfold HT
 cases h1:bL.f (d,())with
 |false=>simp
 |true=>
 cases h2:az.f (t,())with
 |false=>simp
 |true=>
 cases h3:ae.f (g,())with
 |false=>simp
 |true=>
 have hD:=(yj d).1 h1
 have hg:=(bj g).1 h3
 have hw:=hg.2.2.2.2.2.1
 by_cases h4:0≤aw.f (d.table,t,())
 ·rw[if_neg (λh=>h.2.2.2 h4),decide_eq_true h4];rfl
 rw[if_pos ⟨rfl,rfl,rfl,h4⟩,decide_eq_false h4]
 simp only[Bool.and_self,Bool.not_true,cond_false]
 by_cases h5:0≤aJ.f (d.halves,t,())
 ·rw[if_pos h5,decide_eq_true h5]
  have ho:=BX d.halves t hD.hal h5
  obtain⟨h,hh⟩:∃h,d.halves.getD (aJ.f (d.halves,t,())).toNat (Ty.zero .half)=h:=⟨_,rfl⟩
  rw[hh]at ho
  rw[cond_true,hh]
  by_cases h6:g.ack=(h.iss+1)%4294967296
  ·rw[if_neg (λhh=>hh h6),show(g.ack != (h.iss+1)%4294967296)=false by simp[h6]]
   by_cases h7:g.seq=(h.irs+1)%4294967296
   ·rw[if_neg (λhh=>hh h7),show(g.seq != (h.irs+1)%4294967296)=false by simp[h7]]
    rw[yV t h.iss h.irs h.opts g.window ho hw.1 hw.2,Lg d _ g 1 hs (BR t h.iss h.irs h.opts g.window h2 ho hw.1 hw.2).2 hl]
    generalize Hx d (FD t h.iss h.irs h.opts g.window) g 1=z
    exact Xn z
   ·rw[if_pos h7,show(g.seq != (h.irs+1)%4294967296)=true by simp[h7]];rfl
  ·rw[if_pos h6,show(g.ack != (h.iss+1)%4294967296)=true by simp[h6]];rfl
 ·rw[if_neg h5,decide_eq_false h5]
  have ho:=yA (cH.f (d.keys,t,(g.seq+ -1)%4294967296,(g.ack+ -1)%4294967296,())).2.1 g.opts hg.2.2.2.2.2.2.1
  generalize cH.f (d.keys,t,(g.seq+ -1)%4294967296,(g.ack+ -1)%4294967296,())=k at ho⊢
  rw[cond_false]
  cases h6:k.2.2 with
  |false=>simp
  |true=>
   simp only[Bool.not_true,cond_false,if_true]
   have e1:=yV t ((g.ack+ -1)%4294967296) ((g.seq+ -1)%4294967296) (cr.f (k.2.1,g.opts,())) g.window ho hw.1 hw.2
   have e2:=Lg d (FD t ((g.ack+ -1)%4294967296) ((g.seq+ -1)%4294967296) (cr.f (k.2.1,g.opts,())) g.window) g 2 hs (BR t _ _ _ g.window h2 ho hw.1 hw.2).2 hl
   simp only[e1,e2]
theorem xX (d:Door)(t:Tupl)(g:Segm)(hl:d.halves.length≤4294967296):jR.f (d,t,g,())=HT d t g:=by
 simp only[PX,jR,iX,bH]
 unfold HT
 have e:(bif !bL.f (d,())then(true,())else bif !az.f (t,())then(true,())else bif !ae.f (g,())then(true,())else(decide (0≤aw.f (d.table,t,())),())).1= !decide (bL.f (d,())=true∧az.f (t,())=true∧ae.f (g,())=true∧¬0≤aw.f (d.table,t,())):=by
  by_cases h4:0≤aw.f (d.table,t,())
  ·rw[decide_eq_true h4];cases bL.f (d,())<;>cases az.f (t,())<;>cases ae.f (g,())<;>simp[h4]
  ·rw[decide_eq_false h4];cases bL.f (d,())<;>cases az.f (t,())<;>cases ae.f (g,())<;>simp[h4]
 rw[e]
 by_cases hq:bL.f (d,())=true∧az.f (t,())=true∧ae.f (g,())=true∧¬0≤aw.f (d.table,t,())
 case neg=>rw[decide_eq_false hq,if_neg hq];rfl
 rw[decide_eq_true hq,if_pos hq]
 obtain⟨h1,h2,h3,h4⟩:=hq
 have hD:=(yj d).1 h1
 have hg:=(bj g).1 h3
 have hw:=hg.2.2.2.2.2.1
 have L:∀(c:Conn) (m:Int),bJ c.r.held→(c.tuple=t)→(bif !(kY.f (d.table,c,d.limits,())).2 then(d,([]:List Segm),(0:Int))else(({d with halves:=mZ.f (d.halves,t,()),table:=er.f ((kY.f (d.table,c,d.limits,())).1,(mD.f (c,g,())).1,())}:Door),(mD.f (c,g,())).2.1,m))=Hx d c g m:=by
  intro c m hc ht
  rw[yY,yX c g hc,xq _ _ hl]
  unfold Hx
  by_cases hT:cX.f ((⟨d.table.conns++[c],d.table.waiting++[c.tuple]⟩:Tabl),d.limits,())=true
  ·rw[if_pos hT,if_pos hT]
   simp only[Bool.not_true,cond_false]
   rw[IX d.table d.limits c g hc hT,ht]
  ·rw[if_neg hT,if_neg hT];rfl
 simp only[Bool.not_true,cond_false]
 by_cases h5:0≤aJ.f (d.halves,t,())
 ·rw[if_pos h5]
  simp only[decide_eq_true h5,cond_true]
  have ho:=BX d.halves t hD.hal h5
  generalize d.halves.getD (aJ.f (d.halves,t,())).toNat (Ty.zero .half)=h at ho⊢
  by_cases h6:g.ack=(h.iss+1)%4294967296
  ·rw[if_neg (λhh=>hh h6)]
   simp only[show(g.ack != (h.iss+1)%4294967296)=false by simp[h6],cond_false]
   by_cases h7:g.seq=(h.irs+1)%4294967296
   ·rw[if_neg (λhh=>hh h7)]
    simp only[show(g.seq != (h.irs+1)%4294967296)=false by simp[h7],cond_false]
    rw[←L _ 1 (BR t h.iss h.irs h.opts g.window h2 ho hw.1 hw.2).2 rfl,←zQ t h.iss h.irs h.opts g.window ho hw.1 hw.2]
    rfl
   ·rw[if_pos h7]
    simp only[show(g.seq != (h.irs+1)%4294967296)=true by simp[h7],cond_true]
    rfl
  ·rw[if_pos h6]
   simp only[show(g.ack != (h.iss+1)%4294967296)=true by simp[h6],cond_true]
   rfl
 ·rw[if_neg h5]
  simp only[decide_eq_false h5,cond_false]
  have ho:=yA (cH.f (d.keys,t,(g.seq+ -1)%4294967296,(g.ack+ -1)%4294967296,())).2.1 g.opts hg.2.2.2.2.2.2.1
  generalize cH.f (d.keys,t,(g.seq+ -1)%4294967296,(g.ack+ -1)%4294967296,())=k at ho⊢
  cases h6:k.2.2 with
  |false=>
   simp only[Bool.not_false,cond_true,Bool.false_eq_true,if_false]
   rfl
  |true=>
   simp only[Bool.not_true,cond_false,if_true]
   rw[←L _ 2 (BR t _ _ _ g.window h2 ho hw.1 hw.2).2 rfl,←zQ t _ _ _ g.window ho hw.1 hw.2]
   rfl
def uI (src:Int)(g:Segm):Tupl:=⟨src,g.from_,g.to⟩
def EM (d:Door)(k:Nat)(g:Segm):Door×List Segm×Int:=
 if(dm (d.table.conns.getD k (Ty.zero .conn)) g).2.2=3 then
  if d.chal=d.limits.chal then({d with table.conns:=d.table.conns.set k (dm (d.table.conns.getD k (Ty.zero .conn)) g).1},[],0)
  else({d with table.conns:=d.table.conns.set k (dm (d.table.conns.getD k (Ty.zero .conn)) g).1,chal:=d.chal+1},(dm (d.table.conns.getD k (Ty.zero .conn)) g).2.1,0)
 else({d with table.conns:=d.table.conns.set k (dm (d.table.conns.getD k (Ty.zero .conn)) g).1},(dm (d.table.conns.getD k (Ty.zero .conn)) g).2.1,0)
def TC (d:Door)(t:Tupl)(g:Segm):Door:=
 if 0≤aJ.f (d.halves,t,())∧g.seq=((d.halves.getD (aJ.f (d.halves,t,())).toNat (Ty.zero .half)).irs+1)%4294967296 then{d with halves:=rU d.halves t}else d
def iV (d:Door)(src:Int)(g:Segm):Door×List Segm×Int:=
 if bL.f (d,())=true∧aj.f (src,32,())=true∧ae.f (g,())=true then
  if g.to≠d.port then(d,fB.f (g,()),0)
  else if 0≤aw.f (d.table,uI src g,())then EM d (aw.f (d.table,uI src g,())).toNat g
  else bif bk.f (g,4,())then(TC d (uI src g) g,[],0)
  else bif bk.f (g,2,())&&(!bk.f (g,16,())&& !bk.f (g,1,()))then((dR.f (d,uI src g,g,())).1,(dR.f (d,uI src g,g,())).2,0)
  else bif bk.f (g,16,())&& !bk.f (g,2,())then HT d (uI src g) g
  else bif bk.f (g,16,())then(d,fB.f (g,()),0)else(d,[],0)
 else(d,[],0)
theorem Fg (d:Door)(t:Tupl)(h:0≤aw.f (d.table,t,())):∃k:Nat,aw.f (d.table,t,())=(k:Int)∧∃hk:k<d.table.conns.length,d.table.conns[k].tuple=t:=by
 rw[fg]at h⊢
 exact UG _ _ (decide_eq_true h)
theorem UW (d:Door)(k:Nat)(g:Segm)(hs:ic d)(hD:DO d)(hk:k<d.table.conns.length):wK.f (d,(k:Int),g,())=EM d k g:=by
 have hsk:bJ (d.table.conns.getD k (Ty.zero .conn)).r.held:=by
  rw[getD_some (List.getElem?_eq_getElem hk)];exact hs _ (List.getElem_mem hk)
 have k0:=hD.k0
 have k1:=hD.k1
 have k2:=hD.tab.lim.k1
 simp only[PX,wK,kP,aa,Ax _ g hsk]
 unfold EM
 rw[au (by omega) (by omega)]
 by_cases h3:(dm (d.table.conns.getD k (Ty.zero .conn)) g).2.2=3
 ·rw[if_pos h3,show((dm (d.table.conns.getD k (Ty.zero .conn)) g).2.2==3)=true by rw[h3];rfl,cond_true]
  by_cases h4:d.chal=d.limits.chal
  ·rw[if_pos h4,show(d.chal==d.limits.chal)=true by simp[h4]];rfl
  ·rw[if_neg h4,show(d.chal==d.limits.chal)=false by simp[h4]];rfl
 ·rw[if_neg h3,show((dm (d.table.conns.getD k (Ty.zero .conn)) g).2.2==3)=false from beq_eq_false_iff_ne.2 h3];rfl
theorem Rq (s:Int)(g:Segm):wM.f (s,g,())=uI s g:=by simp only[PX,wM,uI]
theorem Jy (s:Int)(g:Segm):wF.f (s,g,())=uI s g:=by simp only[PX,wF,uI]
theorem XC (a b c:Bool):(bif !a then(true,())else bif !b then(true,())else(!c,())).1= !decide (a=true∧b=true∧c=true):=by cases a<;>cases b<;>cases c<;>rfl
theorem Ug (a b c:Bool):(bif a then bif !b then(!c,())else(false,())else(false,())).1=(a&&(!b&& !c)):=by cases a<;>cases b<;>cases c<;>rfl
theorem lg (a b:Bool):(bif a then(!b,())else(false,())).1=(a&& !b):=by cases a<;>cases b<;>rfl
theorem MA (p:Prop)[Decidable p](a b:Int):(bif decide p then(a==b,())else(false,())).1=decide (p∧a=b):=by
 by_cases h:p<;>by_cases h2:a=b<;>simp[h,h2]
theorem yI (d:Door)(src:Int)(g:Segm)(hs:ic d)(hl:d.halves.length≤4294967296):tS.f (d,src,g,())=iV d src g:=by
 simp only[PX,tS,kP,My d hs,eE,vr,Rq,ji,tJ,ig,bH,Fi,I7,Qs d _ g hs,Fk d _ g hs hl,xu _ _ hl,XC,Ug,lg]
 unfold iV
 by_cases hq:bL.f (d,())=true∧aj.f (src,32,())=true∧ae.f (g,())=true
 case neg=>rw[decide_eq_false hq,if_neg hq];rfl
 rw[decide_eq_true hq,if_pos hq,Bool.not_true,cond_false]
 have hD:=(yj d).1 hq.1
 by_cases hp:g.to=d.port
 case neg=>rw[if_pos hp,show(g.to != d.port)=true by simp[hp]];rfl
 rw[if_neg (λh=>h hp),show(g.to != d.port)=false by simp[hp],cond_false]
 by_cases hc:0≤aw.f (d.table,uI src g,())
 ·rw[if_pos hc,decide_eq_true hc,cond_true]
  obtain⟨k,e,hk,-⟩:=Fg d _ hc
  rw[e,aa,UW d k g hs hD hk]
 rw[if_neg hc,decide_eq_false hc,cond_false]
 cases bk.f (g,4,())with
 |true=>
  rw[cond_true,cond_true,MA]
  unfold TC
  by_cases hr:0≤aJ.f (d.halves,uI src g,())∧g.seq=((d.halves.getD (aJ.f (d.halves,uI src g,())).toNat (Ty.zero .half)).irs+1)%4294967296
  ·rw[decide_eq_true hr,if_pos hr];rfl
  ·rw[decide_eq_false hr,if_neg hr];rfl
 |false=>
  rw[cond_false,cond_false]
theorem pt (d:Door)(src:Int)(g:Segm)(hs:ic d)(hl:d.halves.length≤4294967296):gR.f (d,src,g,())=iV d src g:=by
 simp only[PX,gR,iX,Jy,bH,xX d _ g hl,xq _ _ hl,XC,Ug,lg]
 unfold iV
 by_cases hq:bL.f (d,())=true∧aj.f (src,32,())=true∧ae.f (g,())=true
 case neg=>rw[decide_eq_false hq,if_neg hq];rfl
 rw[decide_eq_true hq,if_pos hq,Bool.not_true,cond_false]
 have hD:=(yj d).1 hq.1
 by_cases hp:g.to=d.port
 case neg=>rw[if_pos hp,show(g.to != d.port)=true by simp[hp]];rfl
 rw[if_neg (λh=>h hp),show(g.to != d.port)=false by simp[hp],cond_false]
 by_cases hc:0≤aw.f (d.table,uI src g,())
 ·rw[if_pos hc,decide_eq_true hc,cond_true]
  obtain⟨k,e,hk,ht⟩:=Fg d _ hc
  rw[e,aa]
  have hsk:bJ (d.table.conns.getD k (Ty.zero .conn)).r.held:=by
   rw[getD_some (List.getElem?_eq_getElem hk)];exact hs _ (List.getElem_mem hk)
  have hck:CO (d.table.conns.getD k (Ty.zero .conn)):=by
   rw[getD_some (List.getElem?_eq_getElem hk)];exact hD.tab.co _ (List.getElem_mem hk)
  have hrk:=DQ _ g hck hsk
  have hset:er.f (d.table,(dm (d.table.conns.getD k (Ty.zero .conn)) g).1,())=⟨d.table.conns.set k (dm (d.table.conns.getD k (Ty.zero .conn)) g).1,d.table.waiting⟩:=zh d.table _ hD.tab.dc k hk (by rw[hrk.2.1,getD_some (List.getElem?_eq_getElem hk)])
  have k0:=hD.k0
  have k1:=hD.k1
  have k2:=hD.tab.lim.k1
  rw[yX _ g hsk]
  unfold EM
  by_cases h3:(dm (d.table.conns.getD k (Ty.zero .conn)) g).2.2=3
  ·rw[if_pos h3,show((dm (d.table.conns.getD k (Ty.zero .conn)) g).2.2==3)=true by rw[h3];rfl,cond_true]
   by_cases h4:d.chal=d.limits.chal
   ·rw[if_pos h4,show(d.chal==d.limits.chal)=true by simp[h4]]
    show(({d with table:=er.f (d.table,(dm (d.table.conns.getD k (Ty.zero .conn)) g).1,())}:Door),([]:List Segm),(0:Int))=_
    rw[hset]
   ·rw[if_neg h4,show(d.chal==d.limits.chal)=false by simp[h4]]
    show(({d with table:=er.f (d.table,(dm (d.table.conns.getD k (Ty.zero .conn)) g).1,()),chal:=IntKind.wrap .i64 (d.chal+1)}:Door),(dm (d.table.conns.getD k (Ty.zero .conn)) g).2.1,(0:Int))=_
    rw[hset,au (by omega) (by omega)]
  ·rw[if_neg h3,show((dm (d.table.conns.getD k (Ty.zero .conn)) g).2.2==3)=false from beq_eq_false_iff_ne.2 h3]
   show(({d with table:=er.f (d.table,(dm (d.table.conns.getD k (Ty.zero .conn)) g).1,())}:Door),(dm (d.table.conns.getD k (Ty.zero .conn)) g).2.1,(0:Int))=_
   rw[hset]
 rw[if_neg hc,decide_eq_false hc,cond_false]
 cases bk.f (g,4,())with
 |true=>
  rw[cond_true,cond_true,MA]
  unfold TC
  by_cases hr:0≤aJ.f (d.halves,uI src g,())∧g.seq=((d.halves.getD (aJ.f (d.halves,uI src g,())).toNat (Ty.zero .half)).irs+1)%4294967296
  ·rw[decide_eq_true hr,if_pos hr];rfl
  ·rw[decide_eq_false hr,if_neg hr];rfl
 |false=>
  rw[cond_false,cond_false]
theorem Mg (t:Tabl)(x:Tupl):¬0≤aw.f (t,x,())↔x∉t.conns.map Conn.tuple:=by
 rw[fg,←Aa,←qM]
 simp
theorem Tz (d:Door)(c:Conn)(g:Segm)(m:Int)(hD:DO d)(hs:bJ c.r.held)(hn:c.tuple∉d.table.conns.map Conn.tuple):DO (Hx d c g m).1∧∀y∈(Hx d c g m).2.1,ae.f (y,())=true:=by
 unfold Hx
 by_cases hT:cX.f ((⟨d.table.conns++[c],d.table.waiting++[c.tuple]⟩:Tabl),d.limits,())=true
 case neg=>rw[if_neg hT];exact⟨hD,λy hy=>by cases hy⟩
 rw[if_pos hT]
 have h:=(Ov _ _).1 hT
 have hc:=h.co c (by simp)
 have hr:=DQ c g hc hs
 have hset:=TO.set h d.table.conns.length (dm c g).1 hr.1 (by simp) (by simp[hr.2.1])
 have e:(d.table.conns++[c]).set d.table.conns.length (dm c g).1=d.table.conns++[(dm c g).1]:=by simp
 rw[e]at hset
 have hsub:=H3 d.halves c.tuple
 refine⟨⟨hD.port,hD.c0,hD.c1,hD.keys,hset,HO.sub hD.hal hsub, ?_,hD.k0,hD.k1, ?_⟩,hr.2.2.1⟩
 ·show((rU d.halves c.tuple).length:Int)≤d.limits.halves
  have:=hsub.length_le
  have:=hD.nh
  omega
 ·intro y hy hm
  have hy2:y∈rU d.halves c.tuple:=hy
  have hm2:y.tuple∈(d.table.conns++[(dm c g).1]).map Conn.tuple:=hm
  rw[List.map_append,List.mem_append]at hm2
  rcases hm2 with h1|h1
  ·exact hD.ap y (hsub.subset hy2) h1
  ·simp only[List.map_cons,List.map_nil,List.mem_singleton,hr.2.1]at h1
   have hy3:=List.mem_map_of_mem (f:=Half.tuple) hy2
   rw[h1]at hy3
   exact OH d.halves c.tuple hD.hal.nd hy3
theorem Tj (d:Door)(t:Tupl)(g:Segm)(hD:DO d):DO (HT d t g).1∧∀y∈(HT d t g).2.1,ae.f (y,())=true:=by
 have nil:∀y∈([]:List Segm),ae.f (y,())=true:=λy hy=>by cases hy
 unfold HT
 split
 ·rename_i hq
  obtain⟨h1,h2,h3,h4⟩:=hq
  have hg:=(bj g).1 h3
  have hw:=hg.2.2.2.2.2.1
  have hn:=(Mg d.table t).1 h4
  split
  ·rename_i h5
   have ho:=BX d.halves t hD.hal h5
   split
   ·exact⟨hD,wm g h3⟩
   ·split
    ·exact⟨hD,nil⟩
    ·exact Tz d _ g 1 hD (BR t _ _ _ g.window h2 ho hw.1 hw.2).2 hn
  ·split
   ·have ho:=yA (cH.f (d.keys,t,(g.seq+ -1)%4294967296,(g.ack+ -1)%4294967296,())).2.1 g.opts hg.2.2.2.2.2.2.1
    exact Tz d _ g 2 hD (BR t _ _ _ g.window h2 ho hw.1 hw.2).2 hn
   ·exact⟨hD,wm g h3⟩
 ·exact⟨hD,nil⟩
theorem Qe (xs:List Half)(h:Half)(n:Int):m6.f (xs,h,n,())=if(xs.length:Int)<n∧ez.f (xs++[h],())=true then(xs++[h],true)else(xs,false):=by
 simp only[PX,m6,dQ,List.nil_append]
 by_cases h1:n≤(xs.length:Int)
 ·rw[decide_eq_true h1,if_neg (by omega)];rfl
 ·rw[decide_eq_false h1]
  cases h2:ez.f (xs++[h],())with
  |true=>rw[if_pos ⟨by omega,rfl⟩];rfl
  |false=>rw[if_neg (by simp)];rfl
theorem R2 (d:Door)(t:Tupl)(g:Segm)(hk:fG.f (d.keys,())=true)(ht:az.f (t,())=true)(hg:ae.f (g,())=true)(sq:Int)(h0:0≤sq∧sq≤4294967295):ae.f (({ec.f (d,t,g,())with seq:=sq}:Segm),())=true:=by
 have hp:=(bj g).1 hg
 have h1:=Ib t ht
 have ho:=B0 g.opts d.clock (by rw[gG];exact hp.2.2.2.2.2.2.1)
 rw[gG]at ho
 rw[bj]
 simp only[PX,ec,bH]
 exact⟨h1.2.2,h1.2.1,h0,by omega,by omega,by omega,ho,by simp⟩
theorem S6 (d:Door)(t:Tupl)(g:Segm)(hD:DO d)(ht:az.f (t,())=true)(hg:ae.f (g,())=true):DO (dR.f (d,t,g,())).1∧(∀y∈(dR.f (d,t,g,())).2,ae.f (y,())=true)∧(dR.f (d,t,g,())).1.table=d.table∧(dR.f (d,t,g,())).1={d with halves:=(dR.f (d,t,g,())).1.halves}:=by
 have nil:∀y∈([]:List Segm),ae.f (y,())=true:=λy hy=>by cases hy
 have hp:=(bj g).1 hg
 have hsq:=OC d t g
 have ha:=R2 d t g hD.keys ht hg
 have hown:∀y∈[ec.f (d,t,g,())],ae.f (y,())=true:=λy hy=>by
  rw[List.mem_singleton.1 hy]
  exact ha (ec.f (d,t,g,())).seq ⟨hsq.1,hsq.2 ht hD.keys hp.2.2.1⟩
 rw[Iz,(yj d).2 hD,ht,hg]
 simp only[Bool.and_self,cond_true]
 by_cases h5:0≤aJ.f (d.halves,t,())
 ·rw[decide_eq_true h5,cond_true]
  have hiss:0≤(d.halves.getD (aJ.f (d.halves,t,())).toNat (Ty.zero .half)).iss∧(d.halves.getD (aJ.f (d.halves,t,())).toNat (Ty.zero .half)).iss≤4294967295:=by
   rw[gu]at h5⊢
   obtain⟨i,e,hi,-⟩:=wG d.halves t (decide_eq_true h5)
   rw[e,aa,getD_some (List.getElem?_eq_getElem hi)]
   have:=hD.hal.ok _ (List.getElem_mem hi)
   unfold yk at this
   simp only[Bool.and_eq_true,cl,decide_eq_true_eq]at this
   exact this.2.1
  generalize d.halves.getD (aJ.f (d.halves,t,())).toNat (Ty.zero .half)=h at hiss⊢
  cases(h.irs != g.seq)with
  |true=>exact⟨hD,nil,rfl,rfl⟩
  |false=>exact⟨hD,λy hy=>by
    simp only[cond_false,List.mem_singleton]at hy
    rw[hy];exact ha h.iss hiss,rfl,rfl⟩
 ·rw[decide_eq_false h5,cond_false]
  by_cases h4:0≤aw.f (d.table,t,())
  ·rw[decide_eq_false (show¬aw.f (d.table,t,())<0 by omega),cond_false]
   exact⟨hD,hown,rfl,rfl⟩
  ·rw[decide_eq_true (show aw.f (d.table,t,())<0 by omega),cond_true,Qe]
   refine⟨?_,hown,rfl,rfl⟩
   by_cases h6:(d.halves.length:Int)<d.limits.halves∧ez.f (d.halves++[(⟨t,(ec.f (d,t,g,())).seq,g.seq,iC.f (g.opts,()),0,g.window⟩:Half)],())=true
   ·rw[if_pos h6]
    refine⟨hD.port,hD.c0,hD.c1,hD.keys,hD.tab,(SQ _).1 h6.2, ?_,hD.k0,hD.k1, ?_⟩
    ·show(((d.halves++[_]).length:Nat):Int)≤d.limits.halves
     rw[List.length_append,List.length_singleton];omega
    ·intro y hy
     rcases List.mem_append.1 hy with h7|h7
     ·exact hD.ap y h7
     ·rw[List.mem_singleton.1 h7]
      exact(Mg d.table t).1 h4
   ·rw[if_neg h6];exact hD
theorem Ui (d:Door)(k:Nat)(g:Segm)(hs:ic d)(hD:DO d)(hk:k<d.table.conns.length):DO (EM d k g).1∧∀y∈(EM d k g).2.1,ae.f (y,())=true:=by
 have nil:∀y∈([]:List Segm),ae.f (y,())=true:=λy hy=>by cases hy
 have hsk:bJ (d.table.conns.getD k (Ty.zero .conn)).r.held:=by
  rw[getD_some (List.getElem?_eq_getElem hk)];exact hs _ (List.getElem_mem hk)
 have hck:CO (d.table.conns.getD k (Ty.zero .conn)):=by
  rw[getD_some (List.getElem?_eq_getElem hk)];exact hD.tab.co _ (List.getElem_mem hk)
 have hr:=DQ _ g hck hsk
 have ht:(dm (d.table.conns.getD k (Ty.zero .conn)) g).1.tuple=d.table.conns[k].tuple:=by
  rw[hr.2.1,getD_some (List.getElem?_eq_getElem hk)]
 have k0:=hD.k0
 have k1:=hD.k1
 have hset:=TO.set hD.tab k _ hr.1 hk ht
 have hmap:=UZ d.table.conns k _ hk ht
 have base:∀ch:Int,0≤ch→ch≤d.limits.chal→DO ({d with table.conns:=d.table.conns.set k (dm (d.table.conns.getD k (Ty.zero .conn)) g).1,chal:=ch}:Door):=λch h0 h1=>by
  refine⟨hD.port,hD.c0,hD.c1,hD.keys,hset,hD.hal,hD.nh,h0,h1,λy hy hm=>hD.ap y hy ?_⟩
  have hm2:y.tuple∈(d.table.conns.set k (dm (d.table.conns.getD k (Ty.zero .conn)) g).1).map Conn.tuple:=hm
  rw[hmap]at hm2;exact hm2
 unfold EM
 split
 ·split
  ·exact⟨base d.chal k0 k1,nil⟩
  ·exact⟨base (d.chal+1) (by omega) (by omega),hr.2.2.1⟩
 ·exact⟨base d.chal k0 k1,hr.2.2.1⟩
theorem U6 (src:Int)(g:Segm)(h1:aj.f (src,32,())=true)(hg:ae.f (g,())=true):az.f (uI src g,())=true:=by
 have hp:=(bj g).1 hg
 simp only[PX,az,uI,h1,eO,decide_eq_true hp.1.1,decide_eq_true hp.1.2,decide_eq_true hp.2.1.1,decide_eq_true hp.2.1.2]
 rfl
theorem VU (d:Door)(t:Tupl)(g:Segm)(hD:DO d):DO (TC d t g):=by
 unfold TC
 split
 ·have hsub:=H3 d.halves t
  refine⟨hD.port,hD.c0,hD.c1,hD.keys,hD.tab,HO.sub hD.hal hsub, ?_,hD.k0,hD.k1,λy hy=>hD.ap y (hsub.subset hy)⟩
  show((rU d.halves t).length:Int)≤d.limits.halves
  have:=hsub.length_le
  have:=hD.nh
  omega
 ·exact hD
theorem VE (d:Door)(src:Int)(g:Segm)(hs:ic d)(hD:DO d):DO (iV d src g).1∧∀y∈(iV d src g).2.1,ae.f (y,())=true:=by
 have nil:∀y∈([]:List Segm),ae.f (y,())=true:=λy hy=>by cases hy
 unfold iV
 split
 ·rename_i hq
  obtain⟨h1,h2,h3⟩:=hq
  have ht:=U6 src g h2 h3
  split
  ·exact⟨hD,wm g h3⟩
  ·split
   ·rename_i hc
    obtain⟨k,e,hk,-⟩:=Fg d _ hc
    rw[e,aa]
    exact Ui d k g hs hD hk
   ·cases bk.f (g,4,())with
    |true=>exact⟨VU d _ g hD,nil⟩
    |false=>
     rw[cond_false]
     cases(bk.f (g,2,())&&(!bk.f (g,16,())&& !bk.f (g,1,())))with
     |true=>exact⟨(S6 d _ g hD ht h3).1,(S6 d _ g hD ht h3).2.1⟩
     |false=>
      rw[cond_false]
      cases(bk.f (g,16,())&& !bk.f (g,2,()))with
      |true=>exact Tj d _ g hD
      |false=>
       rw[cond_false]
       cases bk.f (g,16,())with
       |true=>exact⟨hD,wm g h3⟩
       |false=>exact⟨hD,nil⟩
 ·exact⟨hD,nil⟩
def ws:Bool→aA→Int
 |_,[]=>0
 |false,b::t=>256*(b.toNat:Int)+ws true t
 |true,b::t=>(b.toNat:Int)+ws false t
theorem KH (x:Tupl):pa.f (x,x,())=true:=by simp only[PX,pa,bne_self_eq_false,cond_false]
theorem Bx (x:Opti):kR.f (x,x,())=true:=by simp only[PX,kR,bne_self_eq_false,beq_self_eq_true,Bool.not_true,cond_false]
theorem Td (x:Sndr):tn.f (x,x,())=true:=by simp only[PX,tn,bne_self_eq_false,beq_self_eq_true,Bool.not_true,cond_false]
theorem SJ (x:MacRow):tk.f (x,x,())=true:=by simp only[PX,tk,bne_self_eq_false,beq_self_eq_true,Bool.not_true,cond_false]
theorem UJ (x:Piec):wC.f (x,x,())=true:=by simp only[PX,wC,bne_self_eq_false,beq_self_eq_true,Bool.not_true,cond_false]
theorem V1 (x:Half):Ay.f (x,x,())=true:=by simp only[PX,Ay,KH,Bx,bne_self_eq_false,Bool.not_true,cond_false]
theorem TV (x:Limi):tw.f (x,x,())=true:=by simp only[PX,tw,bne_self_eq_false,cond_false]
theorem Uc (x:List Tupl):sZ.f (x,x,())=true:=by
 simp only[PX,sZ,ko,bne_self_eq_false,cond_false]
 rw[kW _ _ λj=>by simp only[PX,ul,KH,Bool.not_true,cond_false]]
 rfl
theorem Sd (x:List MacRow):qr.f (x,x,())=true:=by
 simp only[PX,qr,jE,bne_self_eq_false,cond_false]
 rw[kW _ _ λj=>by simp only[PX,sv,SJ,Bool.not_true,cond_false]]
 rfl
theorem Ua (x:List Piec):sI.f (x,x,())=true:=by
 simp only[PX,sI,kn,bne_self_eq_false,cond_false]
 rw[kW _ _ λj=>by simp only[PX,uC,UJ,Bool.not_true,cond_false]]
 rfl
theorem Us (x:List Half):wV.f (x,x,())=true:=by
 simp only[PX,wV,mh,bne_self_eq_false,cond_false]
 rw[kW _ _ λj=>by simp only[PX,vP,V1,Bool.not_true,cond_false]]
 rfl
theorem PQ (x:Recv):oE.f (x,x,())=true:=by simp only[PX,oE,Ua,bne_self_eq_false,beq_self_eq_true,Bool.not_true,cond_false]
theorem Pi (x:Conn):pE.f (x,x,())=true:=by simp only[PX,pE,KH,Td,PQ,Bx,bne_self_eq_false,Bool.not_true,cond_false]
theorem U0 (x:List Conn):wR.f (x,x,())=true:=by
 simp only[PX,wR,lF,bne_self_eq_false,cond_false]
 rw[kW _ _ λj=>by simp only[PX,uO,Pi,Bool.not_true,cond_false]]
 rfl
theorem Vl (x:Mac):wH.f (x,x,())=true:=by simp only[PX,wH,Sd,bne_self_eq_false,beq_self_eq_true,Bool.not_true,cond_false]
theorem VV (x:Keys):zE.f (x,x,())=true:=by simp only[PX,zE,Vl,bne_self_eq_false,beq_self_eq_true,Bool.not_true,cond_false]
theorem Uo (x:Tabl):wt.f (x,x,())=true:=by simp only[PX,wt,U0,Uc,Bool.not_true,cond_false]
theorem va (x:Door):dq.f (x,x,())=true:=by simp only[PX,dq,VV,TV,Us,Uo,bne_self_eq_false,Bool.not_true,cond_false]
theorem RX (x:Limi):sW.f (x,())=x:=by simp only[PX,sW]
theorem PC (x:List MacRow):qx.f (x,())=x:=by
 simp only[PX,qx,gm,ar,aa]
 rw[bE x _ rfl (F:=λj y a=> .next (a.set j y)) (λj y a h=>by simp only[PX,rC,yx,aa,getD_some h])]
 have:=kF (W:=Empty) (λy:MacRow=>y) x 0 (List.replicate x.length (⟨[],0⟩:MacRow)) (by simp)
 rw[this]
 simp[Stp.elim]
theorem TB (x:Mac):wo.f (x,())=x:=by simp only[PX,wo,PC]
def jT:Int→List MacRow→List MacRow
 |_,[]=>[]
 |k,_::r=>⟨bz.f (k,()),k+1⟩::jT (k+2) r
theorem Ik:∀(k:Int) (xs:List MacRow),(jT k xs).length=xs.length
 |_,[]=>rfl
 |k,_::r=>by simp[jT,Ik (k+2) r]
theorem Ii:∀(r A:List MacRow) (k:Int),0≤k→k+2*(r.length:Int)≤4611686018427387904→aU (λj a=>(gU j a).nice) 1 r.length (A.length:Int) (k,A++r)= .next (k+2*(r.length:Int),A++jT k r)
 |[],A,k,_,_=>by simp[aU,jT]
 |x::r,A,k,h0,h1=>by
  simp only[List.length_cons]at h1
  have w1:IntKind.wrap .i64 (k+1)=k+1:=au (by omega) (by omega)
  have w2:IntKind.wrap .i64 (k+1+1)=k+2:=by rw[au (by omega) (by omega)];omega
  have ih:=Ii r (A++[⟨bz.f (k,()),k+1⟩]) (k+2) (by omega) (by omega)
  simp only[PX,gU]at ih
  simp only[List.length_cons,aU,PX,gU,aa,Stp.elim,w1,w2]
  have e1:∀y z:MacRow,(A++y::r).set A.length z=A++z::r:=λy z=>by
   rw[List.set_append_right _ _ (Nat.le_refl _)];simp
  have e2:∀y:MacRow,(A++y::r).getD A.length (Ty.zero .macRow)=y:=λy=>getD_some (by simp)
  simp only[e1,e2]
  have e3:A++(⟨bz.f (k,()),k+1⟩:MacRow)::r=(A++[⟨bz.f (k,()),k+1⟩])++r:=by simp
  rw[e3,show(A.length:Int)+1=((A++[(⟨bz.f (k,()),k+1⟩:MacRow)]).length:Int) by simp,ih]
  simp only[jT,List.append_assoc,List.cons_append,List.nil_append]
  congr 2;omega
theorem BL (xs:List MacRow)(k:Int)(h0:0≤k)(h1:k+2*(xs.length:Int)≤4611686018427387904):j3.f (xs,k,())=(k+2*(xs.length:Int),jT k xs):=by
 have:=Ii xs [] k h0 h1
 rw[List.nil_append,List.nil_append]at this
 simp only[PX,j3,bm,ar]
 refine(congrArg (Stp.elim _ _) this).trans ?_
 simp only[Stp.elim]
theorem IP (v:List MacRow):∀(r:List MacRow) (j:Nat) (k:Int),0≤k→k+2*(r.length:Int)≤4611686018427387904→v.drop j=jT k r→aU (λj a=>(g9 v j a).nice) 1 r.length (j:Int) k= .next (k+2*(r.length:Int))
 |[],_,k,_,_,_=>by simp[aU]
 |x::r,j,k,h0,h1,h2=>by
  simp only[List.length_cons]at h1
  have w1:IntKind.wrap .i64 (k+1)=k+1:=au (by omega) (by omega)
  have w2:IntKind.wrap .i64 (k+1+1)=k+2:=by rw[au (by omega) (by omega)];omega
  have hg:v[j]? =some ⟨bz.f (k,()),k+1⟩:=by
   have:=congrArg (λl=>l[0]?) h2
   simpa [jT]using this
  have h3:v.drop (j+1)=jT (k+2) r:=by
   have:=congrArg (List.drop 1) h2
   simpa [jT,List.drop_drop]using this
  have ih:=IP v r (j+1) (k+2) (by omega) (by omega) h3
  simp only[PX,g9]at ih
  simp only[List.length_cons,aU,PX,g9,aa,getD_some hg,w1,w2,beq_self_eq_true,bne_self_eq_false,Bool.not_true,cond_false,Stp.elim]
  rw[show(j:Int)+1=((j+1:Nat):Int) by omega,ih]
  congr 1;omega
theorem I9 (xs:List MacRow)(k:Int)(h0:0≤k)(h1:k+2*(xs.length:Int)≤4611686018427387904):ny.f (jT k xs,k,())=k+2*(xs.length:Int):=by
 have:=IP (jT k xs) xs 0 k h0 h1 rfl
 simp only[PX,ny,ia,ar,Ik]
 refine(congrArg (Stp.elim _ _) this).trans ?_
 simp only[Stp.elim]
def WI (k:Keys)(ms:List Mac):Keys:=ms.foldl (λk m=>mQ.f (k,m,())) k
def H9:Conn:=⟨⟨0,0,0⟩,0,⟨0,[],0,false,false,false⟩,⟨0,[],[],0,false⟩,0,0,⟨0,0,false,false,0,0⟩,0,0⟩
def cN (c:Clie):Segm:=⟨c.tuple.port,c.tuple.my,c.isn,0,2,c.window,c.opts,[]⟩
def R3 (d:Door)(ms:List Mac):Door:={d with keys:=WI d.keys ms}
def WQ (d:Door)(c:Clie)(now:Door)(g:Segm):Door×Conn×Int:=
 bif (bif (iV now c.tuple.ip g).2.2==0 then(true,())else(decide (aw.f ((iV now c.tuple.ip g).1.table,c.tuple,())<0),())).1 then(d,H9,0)
 else((iV now c.tuple.ip g).1,(iV now c.tuple.ip g).1.table.conns.getD (aw.f ((iV now c.tuple.ip g).1.table,c.tuple,())).toNat (Ty.zero .conn),(iV now c.tuple.ip g).2.2)
def Sj (d:Door)(c:Clie)(ms:List Mac):Door×Conn×Int:=
 bif !kC.f (c,())then(d,H9,0)else bif ((iV d c.tuple.ip (cN c)).2.1.length:Int)==0 then(d,H9,0)else
 bif !(kV.f (c,(iV d c.tuple.ip (cN c)).2.1.getD 0 (Ty.zero .segm),())).2 then(d,H9,0)else
 WQ d c (R3 (iV d c.tuple.ip (cN c)).1 ms) (kV.f (c,(iV d c.tuple.ip (cN c)).2.1.getD 0 (Ty.zero .segm),())).1
theorem D4 {f:Int→Door×Conn×Door→Stp (Door×Conn×Door) Empty}(ms:List Mac)(hf:∀(j:Nat) x a,ms[j]? =some x→∃p q,f (j:Int) a= .next (p,q,{a.2.2 with keys:=mQ.f (a.2.2.keys,x,())})):∀(n j:Nat) (a:Door×Conn×Door),j+n=ms.length→∃p q,aU f 1 n (j:Int) a= .next (p,q,R3 a.2.2 (ms.drop j))
 |0,j,a,h=>⟨a.1,a.2.1,by rw[List.drop_of_length_le (by omega)];rfl⟩
 |n+1,j,a,h=>by
  have hj:j<ms.length:=by omega
  obtain⟨p,q,e⟩:=hf j ms[j] a (List.getElem?_eq_getElem hj)
  obtain⟨p2,q2,e2⟩:=D4 ms hf n (j+1) (p,q,{a.2.2 with keys:=mQ.f (a.2.2.keys,ms[j],())}) (by omega)
  refine⟨p2,q2, ?_⟩
  simp only[aU,e,Stp.elim]
  rw[show(j:Int)+1=((j+1:Nat):Int) by omega,e2,List.drop_eq_getElem_cons hj]
  rfl
theorem OB (c:Clie):tB.f (c,())=kC.f (c,()):=by
 simp only[PX,tB,kC,oV,gG,eE]
theorem PY (c:Clie):DW.f (c,())=cN c:=by simp only[PX,DW,cN]
theorem Oj (c:Clie):DR.f (c,())=cN c:=by simp only[PX,DR,cN]
theorem Rh (c:Clie)(g:Segm):wq.f (c,g,())=kV.f (c,g,()):=by
 simp only[PX,wq,kV,ig,dC,cA]
set_option maxHeartbeats 2000000 in theorem JZ (d:Door)(c:Clie)(ms:List Mac)(hs:ic d)(hl:d.halves.length≤4294967296)(lg:ic (iV d c.tuple.ip (cN c)).1)(hl2:(iV d c.tuple.ip (cN c)).1.halves.length≤4294967296):dL.f (d,c,ms,())=Sj d c ms:=by
 simp only[PX,dL,iX,PY,dd,iW,pt d c.tuple.ip (cN c) hs hl,Sj,H9]
 cases kC.f (c,())with
 |false=>rfl
 |true=>
  simp only[Bool.not_true,cond_false]
  cases(((iV d c.tuple.ip (cN c)).2.1.length:Int)==0)with
  |true=>rfl
  |false=>
   simp only[cond_false,ar]
   obtain⟨p,q,e⟩:=D4 (f:=λj a=>(pL ms j a).nice) ms (λj x a h=>by
    simp only[PX,pL,aa,getD_some h,k7,iX]
    exact⟨_,_,rfl⟩) ms.length 0 ((⟨0,0,⟨0,⟨false,0,0,[]⟩,⟨false,0,0,[]⟩,false⟩,⟨0,0,0,0⟩,[],⟨[],[]⟩,0⟩:Door),(⟨⟨0,0,0⟩,0,⟨0,[],0,false,false,false⟩,⟨0,[],[],0,false⟩,0,0,⟨0,0,false,false,0,0⟩,0,0⟩:Conn),(iV d c.tuple.ip (cN c)).1) (by omega)
   refine(congrArg (Stp.elim _ _) e).trans ?_
   simp only[Stp.elim,List.drop_zero]
   cases(kV.f (c,(iV d c.tuple.ip (cN c)).2.1.getD 0 (Ty.zero .segm),())).2 with
   |false=>rfl
   |true=>
    have Ug:ic (R3 (iV d c.tuple.ip (cN c)).1 ms):=lg
    simp only[Bool.not_true,cond_false]
    rw[pt (R3 (iV d c.tuple.ip (cN c)).1 ms) _ _ Ug hl2]
    rfl
set_option maxHeartbeats 2000000 in theorem KM (d:Door)(c:Clie)(ms:List Mac)(hs:ic d)(hl:d.halves.length≤4294967296)(lg:ic (iV d c.tuple.ip (cN c)).1)(hl2:(iV d c.tuple.ip (cN c)).1.halves.length≤4294967296):r7.f (d,c,ms,())=Sj d c ms:=by
 simp only[PX,r7,kP,Oj,kS,ja,yI d c.tuple.ip (cN c) hs hl,Sj,H9,OB,Rh,ji]
 cases kC.f (c,())with
 |false=>rfl
 |true=>
  simp only[Bool.not_true,cond_false,ar]
  obtain⟨p,q,e⟩:=D4 (f:=λj a=>(pm ms j a).nice) ms (λj x a h=>by
   simp only[PX,pm,aa,getD_some h,N1,k7,iX]
   exact⟨_,_,rfl⟩) ms.length 0 ((⟨0,0,⟨0,⟨false,0,0,[]⟩,⟨false,0,0,[]⟩,false⟩,⟨0,0,0,0⟩,[],⟨[],[]⟩,0⟩:Door),(⟨⟨0,0,0⟩,0,⟨0,[],0,false,false,false⟩,⟨0,[],[],0,false⟩,0,0,⟨0,0,false,false,0,0⟩,0,0⟩:Conn),(iV d c.tuple.ip (cN c)).1) (by omega)
  refine(congrArg (Stp.elim _ _) e).trans ?_
  simp only[Stp.elim,List.drop_zero]
  cases(((iV d c.tuple.ip (cN c)).2.1.length:Int)==0)with
  |true=>rfl
  |false=>
   simp only[cond_false]
   cases(kV.f (c,(iV d c.tuple.ip (cN c)).2.1.getD 0 (Ty.zero .segm),())).2 with
   |false=>rfl
   |true=>
    have Ug:ic (R3 (iV d c.tuple.ip (cN c)).1 ms):=lg
    simp only[Bool.not_true,cond_false]
    rw[yI (R3 (iV d c.tuple.ip (cN c)).1 ms) _ _ Ug hl2]
    rfl
def Vh (t:Tabl):Tabl×Tupl×Bool:=match t.waiting with|[]=>(t,⟨0,0,0⟩,false)|w::r=>(⟨t.conns,r⟩,w,true)
theorem TO.take {t:Tabl}{l:Limi}(h:TO t l):TO (Vh t).1 l:=by
 obtain⟨cs,ws⟩:=t
 unfold Vh
 cases ws with
 |nil=>exact h
 |cons w r=>
  have h2:=h.nw
  have h3:=h.dw
  simp only[List.length_cons,List.nodup_cons]at h2 h3
  exact⟨h.lim,h.nc,by show(r.length:Int)≤_;omega,h.co,h.dc,h3.2,λx hx=>h.wc x (List.mem_cons_of_mem _ hx)⟩
theorem pe (x:Tupl):eP.f (x,())=x:=by simp only[PX,eP]
theorem tG (x:Opti):jh.f (x,())=x:=by simp only[PX,jh]
theorem Uy (x:Half):zv.f (x,())=x:=by simp only[PX,zv,pe,tG]
theorem Sw (x:List Tupl):tD.f (x,())=x:=by
 simp only[PX,tD,iu,ar,aa]
 rw[bE x _ rfl (F:=λj y a=> .next (a.set j y)) (λj y a h=>by simp only[PX,uD,pe,aa,getD_some h])]
 rw[kF (W:=Empty) (λy:Tupl=>y) x 0 _ (by simp)]
 simp[Stp.elim]
theorem S4 (x:List Half):wh.f (x,())=x:=by
 simp only[PX,wh,jo,ar,aa]
 rw[bE x _ rfl (F:=λj y a=> .next (a.set j y)) (λj y a h=>by simp only[PX,vo,Uy,aa,getD_some h])]
 rw[kF (W:=Empty) (λy:Half=>y) x 0 _ (by simp)]
 simp[Stp.elim]
theorem RY (x:List Piec):tN.f (x,())=x:=by
 simp only[PX,tN,ij,ar,aa]
 rw[bE x _ rfl (F:=λj y a=> .next (a.set j y)) (λj y a h=>by simp only[PX,un,BG,aa,getD_some h])]
 rw[kF (W:=Empty) (λy:Piec=>y) x 0 _ (by simp)]
 simp[Stp.elim]
theorem QV (x:Sndr):tL.f (x,())=x:=by simp only[PX,tL]
theorem Lj (x:Recv):oC.f (x,())=x:=by simp only[PX,oC,RY]
theorem Uk (x:Conn):y8.f (x,())=x:=by simp only[PX,y8,pe,tG,QV,Lj]
theorem S3 (x:List Conn):wT.f (x,())=x:=by
 simp only[PX,wT,jd,ar,aa]
 rw[bE x _ rfl (F:=λj y a=> .next (a.set j y)) (λj y a h=>by simp only[PX,vT,Uk,aa,getD_some h])]
 rw[kF (W:=Empty) (λy:Conn=>y) x 0 _ (by simp)]
 simp[Stp.elim]
theorem Ut (x:Keys):AL.f (x,())=x:=by simp only[PX,AL,TB]
theorem S2 (x:Tabl):wg.f (x,())=x:=by simp only[PX,wg,S3,Sw]
theorem Dy (x:Door):dA.f (x,())=x:=by simp only[PX,dA,Ut,RX,S4,S2]
def bB {α:Type}(n:α→Int):List α→Int
 |[]=>0
 |x::r=>n x+bB n r
def cB {α:Type}(n:α→Int)(M:Int→α→α):Int→List α→List α
 |_,[]=>[]
 |k,x::r=>M k x::cB n M (k+n x) r
theorem o7 {α:Type}(n:α→Int)(M:Int→α→α):∀(k:Int) (xs:List α),(cB n M k xs).length=xs.length
 |_,[]=>rfl
 |k,x::r=>by simp[cB,o7 n M (k+n x) r]
theorem bv {α:Type}{n:α→Int}(hn:∀x,0≤n x):∀(xs:List α),0≤bB n xs
 |[]=>Int.le_refl _
 |x::r=>by
  have:=bv hn r
  have:=hn x
  simp only[bB];omega
theorem qT {α:Type}{n:α→Int}{B:Int}:∀(xs:List α),(∀x∈xs,n x≤B)→bB n xs≤B*(xs.length:Int)
 |[],_=>by simp[bB]
 |x::r,h=>by
  have h1:=qT r λy hy=>h y (List.mem_cons_of_mem _ hy)
  have h2:=h x List.mem_cons_self
  have e:B*((x::r).length:Int)=B*(r.length:Int)+B:=by rw[List.length_cons];push_cast;rw[Int.mul_add,Int.mul_one]
  simp only[bB];omega
theorem kH {α:Type}{n:α→Int}{M:Int→α→α}{T:Int→Int×List α→Stp (Int×List α) Empty}(hn:∀x,0≤n x)(hT:∀(A r:List α) (x:α) (k:Int),0≤k→k+n x≤4611686018427387904→T (A.length:Int) (k,A++x::r)= .next (k+n x,A++M k x::r)):∀(r A:List α) (k:Int),0≤k→k+bB n r≤4611686018427387904→aU T 1 r.length (A.length:Int) (k,A++r)= .next (k+bB n r,A++cB n M k r)
 |[],A,k,_,_=>by simp[aU,cB,bB]
 |x::r,A,k,h0,h1=>by
  simp only[bB]at h1
  have h2:=hn x
  have h3:=bv hn r
  have ih:=kH hn hT r (A++[M k x]) (k+n x) (by omega) (by omega)
  rw[List.length_cons]
  simp only[aU]
  rw[hT A r x k h0 (by omega)]
  simp only[Stp.elim]
  rw[show A++M k x::r=(A++[M k x])++r by simp,show(A.length:Int)+1=((A++[M k x]).length:Int) by simp,ih]
  simp only[cB,bB,List.append_assoc,List.cons_append,List.nil_append]
  congr 2;omega
theorem mW {α W:Type}{n:α→Int}{M:Int→α→α}{H:Int→Int→Stp Int W}(v:List α)(hn:∀x,0≤n x)(hH:∀(j:Nat) (x:α) (k:Int),0≤k→k+n x≤4611686018427387904→v[j]? =some (M k x)→H (j:Int) k= .next (k+n x)):∀(r:List α) (j:Nat) (k:Int),0≤k→k+bB n r≤4611686018427387904→v.drop j=cB n M k r→aU H 1 r.length (j:Int) k= .next (k+bB n r)
 |[],_,k,_,_,_=>by simp[aU,bB]
 |x::r,j,k,h0,h1,h2=>by
  simp only[bB]at h1
  have h5:=hn x
  have h6:=bv hn r
  have hg:v[j]? =some (M k x):=by
   have:=congrArg (λl=>l[0]?) h2
   simpa [cB]using this
  have h3:v.drop (j+1)=cB n M (k+n x) r:=by
   have:=congrArg (List.drop 1) h2
   simpa [cB,List.drop_drop]using this
  have ih:=mW v hn hH r (j+1) (k+n x) (by omega) (by omega) h3
  rw[List.length_cons]
  simp only[aU]
  rw[hH j x k h0 (by omega) hg]
  simp only[Stp.elim]
  rw[show(j:Int)+1=((j+1:Nat):Int) by omega,ih]
  simp only[bB]
  congr 1;omega
theorem wx {α:Type}(A r:List α)(y z:α):(A++y::r).set A.length z=A++z::r:=by
 rw[List.set_append_right _ _ (Nat.le_refl _)];simp
theorem wX {α:Type}(A r:List α)(y d:α):(A++y::r).getD A.length d=y:=getD_some (by simp)
theorem DT {k L N:Int}(j j':Int)(h:j'=j+1)(hj:0≤j)(hN:j'≤N)(h0:0≤k)(hL:0≤L)(h1:k+(N+L)≤4611686018427387904):IntKind.wrap .i64 (k+j+L+1)=k+j'+L:=by rw[au (by omega) (by omega)];omega
theorem DM {k L N:Int}(j j':Int)(h:j'=j+1)(hj:0≤j)(hN:j'≤N)(h0:0≤k)(hL:0≤L)(h1:k+(N+L)≤4611686018427387904):IntKind.wrap .i64 (k+j+1)=k+j':=by rw[au (by omega) (by omega)];omega
theorem nl {k N:Int}(j j':Int)(h:j'=j+1)(hj:0≤j)(hN:j'≤N)(h0:0≤k)(h1:k+N≤4611686018427387904):IntKind.wrap .i64 (k+j+1)=k+j':=by rw[au (by omega) (by omega)];omega
theorem Xs {k L N:Int}(hN:1≤N)(h0:0≤k)(hL:0≤L)(h1:k+(N+L)≤4611686018427387904):IntKind.wrap .i64 (k+1)=k+1:=au (by omega) (by omega)
theorem VA {k N:Int}(hN:1≤N)(h0:0≤k)(h1:k+N≤4611686018427387904):IntKind.wrap .i64 (k+1)=k+1:=au (by omega) (by omega)
def cy (_x:Piec):Int:=2
def rR (k:Int)(_x:Piec):Piec:=⟨k,bz.f (k+1,())⟩
theorem gT (x:Piec):0≤cy x:=by unfold cy;omega
theorem D3 (A r:List Piec)(x:Piec)(k:Int)(h0:0≤k)(h1:k+cy x≤4611686018427387904):(iH (A.length:Int) (k,A++x::r)).nice= .next (k+cy x,A++rR k x::r):=by
 unfold cy at h1⊢
 have e0:IntKind.wrap .i64 (k+1)=k+1:=VA (by decide) h0 h1
 have e1:IntKind.wrap .i64 (k+1+1)=k+2:=nl 1 2 (by decide) (by decide) (by decide) h0 h1
 simp only[PX,iH,aa,wx,wX,e0,e1,rR]
theorem Gf (v:List Piec)(j:Nat)(x:Piec)(k:Int)(h0:0≤k)(h1:k+cy x≤4611686018427387904)(hg:v[j]? =some (rR k x)):(iI v (j:Int) k).nice= .next (k+cy x):=by
 unfold cy at h1⊢
 have e0:IntKind.wrap .i64 (k+1)=k+1:=VA (by decide) h0 h1
 have e1:IntKind.wrap .i64 (k+1+1)=k+2:=nl 1 2 (by decide) (by decide) (by decide) h0 h1
 simp only[PX,iI,aa,getD_some hg,rR,e0,e1,beq_self_eq_true,bne_self_eq_false,Bool.not_true,cond_false]
theorem EG (xs:List Piec)(k:Int)(h0:0≤k)(h1:k+bB cy xs≤4611686018427387904):lx.f (xs,k,())=(k+bB cy xs,cB cy rR k xs):=by
 have:=kH (T:=λj a=>(iH j a).nice) (M:=rR) gT D3 xs [] k h0 h1
 rw[List.nil_append,List.nil_append]at this
 simp only[PX,lx,bt,ar]
 refine(congrArg (Stp.elim _ _) this).trans ?_
 simp only[Stp.elim]
theorem Fw (xs:List Piec)(k:Int)(h0:0≤k)(h1:k+bB cy xs≤4611686018427387904):lZ.f (cB cy rR k xs,k,())=k+bB cy xs:=by
 have:=mW (W:=Int) (H:=λj a=>(iI (cB cy rR k xs) j a).nice) (M:=rR) (cB cy rR k xs) gT (λj x k h0 h1 hg=>Gf _ j x k h0 h1 hg) xs 0 k h0 h1 rfl
 simp only[PX,lZ,iJ,ar,o7]
 refine(congrArg (Stp.elim _ _) this).trans ?_
 simp only[Stp.elim]
def fH (_x:Half):Int:=13
def uB (k:Int)(_x:Half):Half:=⟨⟨k,k+1,k+2⟩,k+3,k+4,⟨k+5,k+6,((k+7).tmod 3==0),((k+8).tmod 3==0),k+9,k+10⟩,k+11,k+12⟩
theorem ly (x:Half):0≤fH x:=by unfold fH;omega
theorem Hn (A r:List Half)(x:Half)(k:Int)(h0:0≤k)(h1:k+fH x≤4611686018427387904):(jN (A.length:Int) (k,A++x::r)).nice= .next (k+fH x,A++uB k x::r):=by
 unfold fH at h1⊢
 have e0:IntKind.wrap .i64 (k+1)=k+1:=VA (by decide) h0 h1
 have e1:IntKind.wrap .i64 (k+1+1)=k+2:=nl 1 2 (by decide) (by decide) (by decide) h0 h1
 have e2:IntKind.wrap .i64 (k+2+1)=k+3:=nl 2 3 (by decide) (by decide) (by decide) h0 h1
 have e3:IntKind.wrap .i64 (k+3+1)=k+4:=nl 3 4 (by decide) (by decide) (by decide) h0 h1
 have e4:IntKind.wrap .i64 (k+4+1)=k+5:=nl 4 5 (by decide) (by decide) (by decide) h0 h1
 have e5:IntKind.wrap .i64 (k+5+1)=k+6:=nl 5 6 (by decide) (by decide) (by decide) h0 h1
 have e6:IntKind.wrap .i64 (k+6+1)=k+7:=nl 6 7 (by decide) (by decide) (by decide) h0 h1
 have e7:IntKind.wrap .i64 (k+7+1)=k+8:=nl 7 8 (by decide) (by decide) (by decide) h0 h1
 have e8:IntKind.wrap .i64 (k+8+1)=k+9:=nl 8 9 (by decide) (by decide) (by decide) h0 h1
 have e9:IntKind.wrap .i64 (k+9+1)=k+10:=nl 9 10 (by decide) (by decide) (by decide) h0 h1
 have e10:IntKind.wrap .i64 (k+10+1)=k+11:=nl 10 11 (by decide) (by decide) (by decide) h0 h1
 have e11:IntKind.wrap .i64 (k+11+1)=k+12:=nl 11 12 (by decide) (by decide) (by decide) h0 h1
 have e12:IntKind.wrap .i64 (k+12+1)=k+13:=nl 12 13 (by decide) (by decide) (by decide) h0 h1
 simp only[PX,jN,aa,wx,wX,e0,e1,e2,e3,e4,e5,e6,e7,e8,e9,e10,e11,e12,uB]
theorem Hj (v:List Half)(j:Nat)(x:Half)(k:Int)(h0:0≤k)(h1:k+fH x≤4611686018427387904)(hg:v[j]? =some (uB k x)):(jP v (j:Int) k).nice= .next (k+fH x):=by
 unfold fH at h1⊢
 have e0:IntKind.wrap .i64 (k+1)=k+1:=VA (by decide) h0 h1
 have e1:IntKind.wrap .i64 (k+1+1)=k+2:=nl 1 2 (by decide) (by decide) (by decide) h0 h1
 have e2:IntKind.wrap .i64 (k+2+1)=k+3:=nl 2 3 (by decide) (by decide) (by decide) h0 h1
 have e3:IntKind.wrap .i64 (k+3+1)=k+4:=nl 3 4 (by decide) (by decide) (by decide) h0 h1
 have e4:IntKind.wrap .i64 (k+4+1)=k+5:=nl 4 5 (by decide) (by decide) (by decide) h0 h1
 have e5:IntKind.wrap .i64 (k+5+1)=k+6:=nl 5 6 (by decide) (by decide) (by decide) h0 h1
 have e6:IntKind.wrap .i64 (k+6+1)=k+7:=nl 6 7 (by decide) (by decide) (by decide) h0 h1
 have e7:IntKind.wrap .i64 (k+7+1)=k+8:=nl 7 8 (by decide) (by decide) (by decide) h0 h1
 have e8:IntKind.wrap .i64 (k+8+1)=k+9:=nl 8 9 (by decide) (by decide) (by decide) h0 h1
 have e9:IntKind.wrap .i64 (k+9+1)=k+10:=nl 9 10 (by decide) (by decide) (by decide) h0 h1
 have e10:IntKind.wrap .i64 (k+10+1)=k+11:=nl 10 11 (by decide) (by decide) (by decide) h0 h1
 have e11:IntKind.wrap .i64 (k+11+1)=k+12:=nl 11 12 (by decide) (by decide) (by decide) h0 h1
 have e12:IntKind.wrap .i64 (k+12+1)=k+13:=nl 12 13 (by decide) (by decide) (by decide) h0 h1
 simp only[PX,jP,aa,getD_some hg,uB,e0,e1,e2,e3,e4,e5,e6,e7,e8,e9,e10,e11,e12,beq_self_eq_true,bne_self_eq_false,Bool.not_true,cond_false]
theorem Sf (xs:List Half)(k:Int)(h0:0≤k)(h1:k+bB fH xs≤4611686018427387904):qO.f (xs,k,())=(k+bB fH xs,cB fH uB k xs):=by
 have:=kH (T:=λj a=>(jN j a).nice) (M:=uB) ly Hn xs [] k h0 h1
 rw[List.nil_append,List.nil_append]at this
 simp only[PX,qO,bD,ar]
 refine(congrArg (Stp.elim _ _) this).trans ?_
 simp only[Stp.elim]
theorem QY (xs:List Half)(k:Int)(h0:0≤k)(h1:k+bB fH xs≤4611686018427387904):qF.f (cB fH uB k xs,k,())=k+bB fH xs:=by
 have:=mW (W:=Int) (H:=λj a=>(jP (cB fH uB k xs) j a).nice) (M:=uB) (cB fH uB k xs) ly (λj x k h0 h1 hg=>Hj _ j x k h0 h1 hg) xs 0 k h0 h1 rfl
 simp only[PX,qF,jv,ar,o7]
 refine(congrArg (Stp.elim _ _) this).trans ?_
 simp only[Stp.elim]
def iK (_x:Tupl):Int:=3
def qv (k:Int)(_x:Tupl):Tupl:=⟨k,k+1,k+2⟩
theorem mn (x:Tupl):0≤iK x:=by unfold iK;omega
theorem FW (A r:List Tupl)(x:Tupl)(k:Int)(h0:0≤k)(h1:k+iK x≤4611686018427387904):(iT (A.length:Int) (k,A++x::r)).nice= .next (k+iK x,A++qv k x::r):=by
 unfold iK at h1⊢
 have e0:IntKind.wrap .i64 (k+1)=k+1:=VA (by decide) h0 h1
 have e1:IntKind.wrap .i64 (k+1+1)=k+2:=nl 1 2 (by decide) (by decide) (by decide) h0 h1
 have e2:IntKind.wrap .i64 (k+2+1)=k+3:=nl 2 3 (by decide) (by decide) (by decide) h0 h1
 simp only[PX,iT,aa,wx,wX,e0,e1,e2,qv]
theorem Ge (v:List Tupl)(j:Nat)(x:Tupl)(k:Int)(h0:0≤k)(h1:k+iK x≤4611686018427387904)(hg:v[j]? =some (qv k x)):(iL v (j:Int) k).nice= .next (k+iK x):=by
 unfold iK at h1⊢
 have e0:IntKind.wrap .i64 (k+1)=k+1:=VA (by decide) h0 h1
 have e1:IntKind.wrap .i64 (k+1+1)=k+2:=nl 1 2 (by decide) (by decide) (by decide) h0 h1
 have e2:IntKind.wrap .i64 (k+2+1)=k+3:=nl 2 3 (by decide) (by decide) (by decide) h0 h1
 simp only[PX,iL,aa,getD_some hg,qv,e0,e1,e2,beq_self_eq_true,bne_self_eq_false,Bool.not_true,cond_false]
theorem PG (xs:List Tupl)(k:Int)(h0:0≤k)(h1:k+bB iK xs≤4611686018427387904):oA.f (xs,k,())=(k+bB iK xs,cB iK qv k xs):=by
 have:=kH (T:=λj a=>(iT j a).nice) (M:=qv) mn FW xs [] k h0 h1
 rw[List.nil_append,List.nil_append]at this
 simp only[PX,oA,bu,ar]
 refine(congrArg (Stp.elim _ _) this).trans ?_
 simp only[Stp.elim]
theorem OE (xs:List Tupl)(k:Int)(h0:0≤k)(h1:k+bB iK xs≤4611686018427387904):om.f (cB iK qv k xs,k,())=k+bB iK xs:=by
 have:=mW (W:=Int) (H:=λj a=>(iL (cB iK qv k xs) j a).nice) (M:=qv) (cB iK qv k xs) mn (λj x k h0 h1 hg=>Ge _ j x k h0 h1 hg) xs 0 k h0 h1 rfl
 simp only[PX,om,iM,ar,o7]
 refine(congrArg (Stp.elim _ _) this).trans ?_
 simp only[Stp.elim]
def eM (x:Conn):Int:=24+bB cy x.r.held
def ol (k:Int)(x:Conn):Conn:=⟨⟨k,k+1,k+2⟩,k+3,⟨k+4,bz.f (k+5,()),k+6,((k+7).tmod 3==0),((k+8).tmod 3==0),((k+9).tmod 3==0)⟩,⟨k+10,bz.f (k+11,()),cB cy rR (k+12) x.r.held,k+12+bB cy x.r.held,((k+13+bB cy x.r.held).tmod 3==0)⟩,k+14+bB cy x.r.held,k+15+bB cy x.r.held,⟨k+16+bB cy x.r.held,k+17+bB cy x.r.held,((k+18+bB cy x.r.held).tmod 3==0),((k+19+bB cy x.r.held).tmod 3==0),k+20+bB cy x.r.held,k+21+bB cy x.r.held⟩,k+22+bB cy x.r.held,k+23+bB cy x.r.held⟩
theorem lv (x:Conn):0≤eM x:=by have:=bv gT x.r.held;unfold eM;omega
set_option maxHeartbeats 1000000 in theorem HI (A r:List Conn)(x:Conn)(k:Int)(h0:0≤k)(h1:k+eM x≤4611686018427387904):(jG (A.length:Int) (k,A++x::r)).nice= .next (k+eM x,A++ol k x::r):=by
 unfold eM at h1⊢
 have hn:=bv gT x.r.held
 have hm12:=EG x.r.held (k+12) (by omega) (by omega)
 simp only[ol]
 generalize bB cy x.r.held=L at*
 have e0:IntKind.wrap .i64 (k+1)=k+1:=Xs (by decide) h0 hn h1
 have e1:IntKind.wrap .i64 (k+1+1)=k+2:=DM 1 2 (by decide) (by decide) (by decide) h0 hn h1
 have e2:IntKind.wrap .i64 (k+2+1)=k+3:=DM 2 3 (by decide) (by decide) (by decide) h0 hn h1
 have e3:IntKind.wrap .i64 (k+3+1)=k+4:=DM 3 4 (by decide) (by decide) (by decide) h0 hn h1
 have e4:IntKind.wrap .i64 (k+4+1)=k+5:=DM 4 5 (by decide) (by decide) (by decide) h0 hn h1
 have e5:IntKind.wrap .i64 (k+5+1)=k+6:=DM 5 6 (by decide) (by decide) (by decide) h0 hn h1
 have e6:IntKind.wrap .i64 (k+6+1)=k+7:=DM 6 7 (by decide) (by decide) (by decide) h0 hn h1
 have e7:IntKind.wrap .i64 (k+7+1)=k+8:=DM 7 8 (by decide) (by decide) (by decide) h0 hn h1
 have e8:IntKind.wrap .i64 (k+8+1)=k+9:=DM 8 9 (by decide) (by decide) (by decide) h0 hn h1
 have e9:IntKind.wrap .i64 (k+9+1)=k+10:=DM 9 10 (by decide) (by decide) (by decide) h0 hn h1
 have e10:IntKind.wrap .i64 (k+10+1)=k+11:=DM 10 11 (by decide) (by decide) (by decide) h0 hn h1
 have e11:IntKind.wrap .i64 (k+11+1)=k+12:=DM 11 12 (by decide) (by decide) (by decide) h0 hn h1
 have e12:IntKind.wrap .i64 (k+12+L+1)=k+13+L:=DT 12 13 (by decide) (by decide) (by decide) h0 hn h1
 have e13:IntKind.wrap .i64 (k+13+L+1)=k+14+L:=DT 13 14 (by decide) (by decide) (by decide) h0 hn h1
 have e14:IntKind.wrap .i64 (k+14+L+1)=k+15+L:=DT 14 15 (by decide) (by decide) (by decide) h0 hn h1
 have e15:IntKind.wrap .i64 (k+15+L+1)=k+16+L:=DT 15 16 (by decide) (by decide) (by decide) h0 hn h1
 have e16:IntKind.wrap .i64 (k+16+L+1)=k+17+L:=DT 16 17 (by decide) (by decide) (by decide) h0 hn h1
 have e17:IntKind.wrap .i64 (k+17+L+1)=k+18+L:=DT 17 18 (by decide) (by decide) (by decide) h0 hn h1
 have e18:IntKind.wrap .i64 (k+18+L+1)=k+19+L:=DT 18 19 (by decide) (by decide) (by decide) h0 hn h1
 have e19:IntKind.wrap .i64 (k+19+L+1)=k+20+L:=DT 19 20 (by decide) (by decide) (by decide) h0 hn h1
 have e20:IntKind.wrap .i64 (k+20+L+1)=k+21+L:=DT 20 21 (by decide) (by decide) (by decide) h0 hn h1
 have e21:IntKind.wrap .i64 (k+21+L+1)=k+22+L:=DT 21 22 (by decide) (by decide) (by decide) h0 hn h1
 have e22:IntKind.wrap .i64 (k+22+L+1)=k+23+L:=DT 22 23 (by decide) (by decide) (by decide) h0 hn h1
 have e23:IntKind.wrap .i64 (k+23+L+1)=k+24+L:=DT 23 24 (by decide) (by decide) (by decide) h0 hn h1
 simp only[PX,jG,aa,wx,wX,e0,e1,e2,e3,e4,e5,e6,e7,e8,e9,e10,e11,e12,e13,e14,e15,e16,e17,e18,e19,e20,e21,e22,e23,hm12,ol]
 congr 2;omega
set_option maxHeartbeats 1000000 in theorem Hl (v:List Conn)(j:Nat)(x:Conn)(k:Int)(h0:0≤k)(h1:k+eM x≤4611686018427387904)(hg:v[j]? =some (ol k x)):(jz v (j:Int) k).nice= .next (k+eM x):=by
 unfold eM at h1⊢
 have hn:=bv gT x.r.held
 have hh12:=Fw x.r.held (k+12) (by omega) (by omega)
 simp only[ol]at hg
 generalize bB cy x.r.held=L at*
 have e0:IntKind.wrap .i64 (k+1)=k+1:=Xs (by decide) h0 hn h1
 have e1:IntKind.wrap .i64 (k+1+1)=k+2:=DM 1 2 (by decide) (by decide) (by decide) h0 hn h1
 have e2:IntKind.wrap .i64 (k+2+1)=k+3:=DM 2 3 (by decide) (by decide) (by decide) h0 hn h1
 have e3:IntKind.wrap .i64 (k+3+1)=k+4:=DM 3 4 (by decide) (by decide) (by decide) h0 hn h1
 have e4:IntKind.wrap .i64 (k+4+1)=k+5:=DM 4 5 (by decide) (by decide) (by decide) h0 hn h1
 have e5:IntKind.wrap .i64 (k+5+1)=k+6:=DM 5 6 (by decide) (by decide) (by decide) h0 hn h1
 have e6:IntKind.wrap .i64 (k+6+1)=k+7:=DM 6 7 (by decide) (by decide) (by decide) h0 hn h1
 have e7:IntKind.wrap .i64 (k+7+1)=k+8:=DM 7 8 (by decide) (by decide) (by decide) h0 hn h1
 have e8:IntKind.wrap .i64 (k+8+1)=k+9:=DM 8 9 (by decide) (by decide) (by decide) h0 hn h1
 have e9:IntKind.wrap .i64 (k+9+1)=k+10:=DM 9 10 (by decide) (by decide) (by decide) h0 hn h1
 have e10:IntKind.wrap .i64 (k+10+1)=k+11:=DM 10 11 (by decide) (by decide) (by decide) h0 hn h1
 have e11:IntKind.wrap .i64 (k+11+1)=k+12:=DM 11 12 (by decide) (by decide) (by decide) h0 hn h1
 have e12:IntKind.wrap .i64 (k+12+L+1)=k+13+L:=DT 12 13 (by decide) (by decide) (by decide) h0 hn h1
 have e13:IntKind.wrap .i64 (k+13+L+1)=k+14+L:=DT 13 14 (by decide) (by decide) (by decide) h0 hn h1
 have e14:IntKind.wrap .i64 (k+14+L+1)=k+15+L:=DT 14 15 (by decide) (by decide) (by decide) h0 hn h1
 have e15:IntKind.wrap .i64 (k+15+L+1)=k+16+L:=DT 15 16 (by decide) (by decide) (by decide) h0 hn h1
 have e16:IntKind.wrap .i64 (k+16+L+1)=k+17+L:=DT 16 17 (by decide) (by decide) (by decide) h0 hn h1
 have e17:IntKind.wrap .i64 (k+17+L+1)=k+18+L:=DT 17 18 (by decide) (by decide) (by decide) h0 hn h1
 have e18:IntKind.wrap .i64 (k+18+L+1)=k+19+L:=DT 18 19 (by decide) (by decide) (by decide) h0 hn h1
 have e19:IntKind.wrap .i64 (k+19+L+1)=k+20+L:=DT 19 20 (by decide) (by decide) (by decide) h0 hn h1
 have e20:IntKind.wrap .i64 (k+20+L+1)=k+21+L:=DT 20 21 (by decide) (by decide) (by decide) h0 hn h1
 have e21:IntKind.wrap .i64 (k+21+L+1)=k+22+L:=DT 21 22 (by decide) (by decide) (by decide) h0 hn h1
 have e22:IntKind.wrap .i64 (k+22+L+1)=k+23+L:=DT 22 23 (by decide) (by decide) (by decide) h0 hn h1
 have e23:IntKind.wrap .i64 (k+23+L+1)=k+24+L:=DT 23 24 (by decide) (by decide) (by decide) h0 hn h1
 have hz12:decide (k+12+L<0)=false:=by simp;omega
 simp only[PX,jz,aa,getD_some hg,ol,e0,e1,e2,e3,e4,e5,e6,e7,e8,e9,e10,e11,e12,e13,e14,e15,e16,e17,e18,e19,e20,e21,e22,e23,hh12,hz12,beq_self_eq_true,bne_self_eq_false,Bool.not_true,cond_false]
 congr 1;omega
theorem QZ (xs:List Conn)(k:Int)(h0:0≤k)(h1:k+bB eM xs≤4611686018427387904):qE.f (xs,k,())=(k+bB eM xs,cB eM ol k xs):=by
 have:=kH (T:=λj a=>(jG j a).nice) (M:=ol) lv HI xs [] k h0 h1
 rw[List.nil_append,List.nil_append]at this
 simp only[PX,qE,bF,ar]
 refine(congrArg (Stp.elim _ _) this).trans ?_
 simp only[Stp.elim]
theorem Sx (xs:List Conn)(k:Int)(h0:0≤k)(h1:k+bB eM xs≤4611686018427387904):qS.f (cB eM ol k xs,k,())=k+bB eM xs:=by
 have:=mW (W:=Int) (H:=λj a=>(jz (cB eM ol k xs) j a).nice) (M:=ol) (cB eM ol k xs) lv (λj x k h0 h1 hg=>Hl _ j x k h0 h1 hg) xs 0 k h0 h1 rfl
 simp only[PX,qS,jH,ar,o7]
 refine(congrArg (Stp.elim _ _) this).trans ?_
 simp only[Stp.elim]
def jk (_x:Segm):Int:=13
def xE (k:Int)(_x:Segm):Segm:=⟨k,k+1,k+2,k+3,k+4,k+5,⟨k+6,k+7,((k+8).tmod 3==0),((k+9).tmod 3==0),k+10,k+11⟩,bz.f (k+12,())⟩
theorem tT (x:Segm):0≤jk x:=by unfold jk;omega
theorem AW (A r:List Segm)(x:Segm)(k:Int)(h0:0≤k)(h1:k+jk x≤4611686018427387904):(gc (A.length:Int) (k,A++x::r)).nice= .next (k+jk x,A++xE k x::r):=by
 unfold jk at h1⊢
 have e0:IntKind.wrap .i64 (k+1)=k+1:=VA (by decide) h0 h1
 have e1:IntKind.wrap .i64 (k+1+1)=k+2:=nl 1 2 (by decide) (by decide) (by decide) h0 h1
 have e2:IntKind.wrap .i64 (k+2+1)=k+3:=nl 2 3 (by decide) (by decide) (by decide) h0 h1
 have e3:IntKind.wrap .i64 (k+3+1)=k+4:=nl 3 4 (by decide) (by decide) (by decide) h0 h1
 have e4:IntKind.wrap .i64 (k+4+1)=k+5:=nl 4 5 (by decide) (by decide) (by decide) h0 h1
 have e5:IntKind.wrap .i64 (k+5+1)=k+6:=nl 5 6 (by decide) (by decide) (by decide) h0 h1
 have e6:IntKind.wrap .i64 (k+6+1)=k+7:=nl 6 7 (by decide) (by decide) (by decide) h0 h1
 have e7:IntKind.wrap .i64 (k+7+1)=k+8:=nl 7 8 (by decide) (by decide) (by decide) h0 h1
 have e8:IntKind.wrap .i64 (k+8+1)=k+9:=nl 8 9 (by decide) (by decide) (by decide) h0 h1
 have e9:IntKind.wrap .i64 (k+9+1)=k+10:=nl 9 10 (by decide) (by decide) (by decide) h0 h1
 have e10:IntKind.wrap .i64 (k+10+1)=k+11:=nl 10 11 (by decide) (by decide) (by decide) h0 h1
 have e11:IntKind.wrap .i64 (k+11+1)=k+12:=nl 11 12 (by decide) (by decide) (by decide) h0 h1
 have e12:IntKind.wrap .i64 (k+12+1)=k+13:=nl 12 13 (by decide) (by decide) (by decide) h0 h1
 simp only[PX,gc,aa,wx,wX,e0,e1,e2,e3,e4,e5,e6,e7,e8,e9,e10,e11,e12,xE]
theorem Br (v:List Segm)(j:Nat)(x:Segm)(k:Int)(h0:0≤k)(h1:k+jk x≤4611686018427387904)(hg:v[j]? =some (xE k x)):(gb v (j:Int) k).nice= .next (k+jk x):=by
 unfold jk at h1⊢
 have e0:IntKind.wrap .i64 (k+1)=k+1:=VA (by decide) h0 h1
 have e1:IntKind.wrap .i64 (k+1+1)=k+2:=nl 1 2 (by decide) (by decide) (by decide) h0 h1
 have e2:IntKind.wrap .i64 (k+2+1)=k+3:=nl 2 3 (by decide) (by decide) (by decide) h0 h1
 have e3:IntKind.wrap .i64 (k+3+1)=k+4:=nl 3 4 (by decide) (by decide) (by decide) h0 h1
 have e4:IntKind.wrap .i64 (k+4+1)=k+5:=nl 4 5 (by decide) (by decide) (by decide) h0 h1
 have e5:IntKind.wrap .i64 (k+5+1)=k+6:=nl 5 6 (by decide) (by decide) (by decide) h0 h1
 have e6:IntKind.wrap .i64 (k+6+1)=k+7:=nl 6 7 (by decide) (by decide) (by decide) h0 h1
 have e7:IntKind.wrap .i64 (k+7+1)=k+8:=nl 7 8 (by decide) (by decide) (by decide) h0 h1
 have e8:IntKind.wrap .i64 (k+8+1)=k+9:=nl 8 9 (by decide) (by decide) (by decide) h0 h1
 have e9:IntKind.wrap .i64 (k+9+1)=k+10:=nl 9 10 (by decide) (by decide) (by decide) h0 h1
 have e10:IntKind.wrap .i64 (k+10+1)=k+11:=nl 10 11 (by decide) (by decide) (by decide) h0 h1
 have e11:IntKind.wrap .i64 (k+11+1)=k+12:=nl 11 12 (by decide) (by decide) (by decide) h0 h1
 have e12:IntKind.wrap .i64 (k+12+1)=k+13:=nl 12 13 (by decide) (by decide) (by decide) h0 h1
 simp only[PX,gb,aa,getD_some hg,xE,e0,e1,e2,e3,e4,e5,e6,e7,e8,e9,e10,e11,e12,beq_self_eq_true,bne_self_eq_false,Bool.not_true,cond_false]
theorem sB (xs:List Segm)(k:Int)(h0:0≤k)(h1:k+bB jk xs≤4611686018427387904):gj.f (xs,k,())=(k+bB jk xs,cB jk xE k xs):=by
 have:=kH (T:=λj a=>(gc j a).nice) (M:=xE) tT AW xs [] k h0 h1
 rw[List.nil_append,List.nil_append]at this
 simp only[PX,gj,be,ar]
 refine(congrArg (Stp.elim _ _) this).trans ?_
 simp only[Stp.elim]
theorem tP (xs:List Segm)(k:Int)(h0:0≤k)(h1:k+bB jk xs≤4611686018427387904):dj.f (cB jk xE k xs,k,())=k+bB jk xs:=by
 have:=mW (W:=Int) (H:=λj a=>(gb (cB jk xE k xs) j a).nice) (M:=xE) (cB jk xE k xs) tT (λj x k h0 h1 hg=>Br _ j x k h0 h1 hg) xs 0 k h0 h1 rfl
 simp only[PX,dj,gg,ar,o7]
 refine(congrArg (Stp.elim _ _) this).trans ?_
 simp only[Stp.elim]
def Er (x:Mac):Int:=3+2*(x.rows.length:Int)
def U8 (k:Int)(x:Mac):Mac:=⟨(k.tmod 3==0),IntKind.wrap .u64 (k+1),IntKind.wrap .u64 (k+2),jT (k+3) x.rows⟩
theorem Cg (x:Mac):0≤Er x:=by unfold Er;omega
theorem JD (A r:List Mac)(x:Mac)(k:Int)(h0:0≤k)(h1:k+Er x≤4611686018427387904):(ku (A.length:Int) (k,A++x::r)).nice= .next (k+Er x,A++U8 k x::r):=by
 unfold Er at h1⊢
 have hL:0≤2*(x.rows.length:Int):=by omega
 have hm3:=BL x.rows (k+3) (by omega) (by omega)
 have e0:IntKind.wrap .i64 (k+1)=k+1:=Xs (by decide) h0 hL h1
 have e1:IntKind.wrap .i64 (k+1+1)=k+2:=DM 1 2 (by decide) (by decide) (by decide) h0 hL h1
 have e2:IntKind.wrap .i64 (k+2+1)=k+3:=DM 2 3 (by decide) (by decide) (by decide) h0 hL h1
 simp only[PX,ku,aa,wx,wX,e0,e1,e2,hm3,U8]
 congr 2;omega
theorem Tl (xs:List Mac)(k:Int)(h0:0≤k)(h1:k+bB Er xs≤4611686018427387904):sK.f (xs,k,())=(k+bB Er xs,cB Er U8 k xs):=by
 have:=kH (T:=λj a=>(ku j a).nice) (M:=U8) Cg JD xs [] k h0 h1
 rw[List.nil_append,List.nil_append]at this
 simp only[PX,sK,bR,ar]
 refine(congrArg (Stp.elim _ _) this).trans ?_
 simp only[Stp.elim]
def gF (x:Keys):Int:=2*(x.now.rows.length:Int)+2*(x.before.rows.length:Int)
def u3 (x:Tabl):Int:=bB eM x.conns+bB iK x.waiting
def eS (x:Door):Int:=gF x.keys+bB fH x.halves+u3 x.table
theorem sY (x:Tabl):0≤u3 x:=by
 have:=bv lv x.conns
 have:=bv mn x.waiting
 unfold u3;omega
theorem fA (x:Door):0≤eS x:=by
 have:=bv ly x.halves
 have:=sY x.table
 unfold eS gF;omega
theorem Sa (x:Keys)(k:Int)(h0:0≤k)(h1:k+gF x≤4611686018427387904):sU.f (x,k,())=(k+gF x,jT k x.now.rows,jT (k+2*(x.now.rows.length:Int)) x.before.rows):=by
 unfold gF at h1⊢
 simp only[PX,sU,wA,BL x.now.rows k h0 (by omega),BL x.before.rows (k+2*(x.now.rows.length:Int)) (by omega) (by omega)]
 congr 1;omega
theorem RT (x:Keys)(k:Int)(h0:0≤k)(h1:k+gF x≤4611686018427387904)(y:Keys)(e1:y.now.rows=jT k x.now.rows)(e2:y.before.rows=jT (k+2*(x.now.rows.length:Int)) x.before.rows):tc.f (y,k,())=k+gF x:=by
 unfold gF at h1⊢
 simp only[PX,tc,wO,e1,e2,I9 x.now.rows k h0 (by omega)]
 rw[show decide (k+2*(x.now.rows.length:Int)<0)=false by simp;omega]
 simp only[cond_false,I9 x.before.rows (k+2*(x.now.rows.length:Int)) (by omega) (by omega)]
 rw[show decide (k+2*(x.now.rows.length:Int)<0)=false by simp;omega,show decide (k+2*(x.now.rows.length:Int)+2*(x.before.rows.length:Int)<0)=false by simp;omega]
 simp only[cond_false]
 rw[show decide (k+2*(x.now.rows.length:Int)+2*(x.before.rows.length:Int)<0)=false by simp;omega]
 simp only[cond_false]
 omega
theorem Ra (x:Tabl)(k:Int)(h0:0≤k)(h1:k+u3 x≤4611686018427387904):qy.f (x,k,())=(k+u3 x,cB eM ol k x.conns,cB iK qv (k+bB eM x.conns) x.waiting):=by
 have a:=bv lv x.conns
 have b:=bv mn x.waiting
 unfold u3 at h1⊢
 simp only[PX,qy,QZ x.conns k h0 (by omega),PG x.waiting (k+bB eM x.conns) (by omega) (by omega)]
 congr 1;omega
theorem RN (x:Tabl)(k:Int)(h0:0≤k)(h1:k+u3 x≤4611686018427387904)(y:Tabl)(e1:y.conns=cB eM ol k x.conns)(e2:y.waiting=cB iK qv (k+bB eM x.conns) x.waiting):qq.f (y,k,())=k+u3 x:=by
 have a:=bv lv x.conns
 have b:=bv mn x.waiting
 unfold u3 at h1⊢
 simp only[PX,qq,e1,e2,Sx x.conns k h0 (by omega)]
 rw[show decide (k+bB eM x.conns<0)=false by simp;omega]
 simp only[cond_false,OE x.waiting (k+bB eM x.conns) (by omega) (by omega)]
 rw[show decide (k+bB eM x.conns+bB iK x.waiting<0)=false by simp;omega]
 simp only[cond_false]
 omega
theorem kX (x:Door)(k:Int)(h0:0≤k)(h1:k+eS x≤4611686018427387904):eZ.f (x,k,())=(k+eS x,jT k x.keys.now.rows,jT (k+2*(x.keys.now.rows.length:Int)) x.keys.before.rows,cB fH uB (k+gF x.keys) x.halves,cB eM ol (k+gF x.keys+bB fH x.halves) x.table.conns,cB iK qv (k+gF x.keys+bB fH x.halves+bB eM x.table.conns) x.table.waiting):=by
 have a:=bv ly x.halves
 have b:=sY x.table
 have c:0≤gF x.keys:=by unfold gF;omega
 unfold eS at h1⊢
 simp only[PX,eZ,Sa x.keys k h0 (by omega),Sf x.halves (k+gF x.keys) (by omega) (by omega),Ra x.table (k+gF x.keys+bB fH x.halves) (by omega) (by omega)]
 congr 1;omega
theorem wZ (x:Door)(k:Int)(h0:0≤k)(h1:k+eS x≤4611686018427387904)(y:Door)(e1:y.keys.now.rows=jT k x.keys.now.rows)(e2:y.keys.before.rows=jT (k+2*(x.keys.now.rows.length:Int)) x.keys.before.rows)(e3:y.halves=cB fH uB (k+gF x.keys) x.halves)(e4:y.table.conns=cB eM ol (k+gF x.keys+bB fH x.halves) x.table.conns)(e5:y.table.waiting=cB iK qv (k+gF x.keys+bB fH x.halves+bB eM x.table.conns) x.table.waiting):fo.f (y,k,())=k+eS x:=by
 have a:=bv ly x.halves
 have b:=sY x.table
 have c:0≤gF x.keys:=by unfold gF;omega
 unfold eS at h1⊢
 simp only[PX,fo,RT x.keys k h0 (by omega) y.keys e1 e2]
 rw[show decide (k+gF x.keys<0)=false by simp;omega]
 simp only[cond_false,e3,QY x.halves (k+gF x.keys) (by omega) (by omega)]
 rw[show decide (k+gF x.keys+bB fH x.halves<0)=false by simp;omega]
 simp only[cond_false,RN x.table (k+gF x.keys+bB fH x.halves) (by omega) (by omega) y.table e4 e5]
 rw[show decide (k+gF x.keys+bB fH x.halves+u3 x.table<0)=false by simp;omega]
 simp only[cond_false]
 omega
theorem Tn (x:Conn)(h:ac x):eM x≤8589934616:=by
 have h2:x.r.held.length≤4294967296:=by unfold ac at h;omega
 have h3:=qT (n:=cy) (B:=2) x.r.held λy _=>by unfold cy;omega
 unfold eM;omega
theorem nX (d:Door)(h:ai d)(hc:d.table.conns.length≤268435456):eS d≤2400000000000000000:=by
 unfold ai at h
 obtain⟨h1,_,h2,_,h3,_,h4,h5⟩:=h
 have a:=qT (n:=fH) (B:=13) d.halves λy _=>by unfold fH;omega
 have b:=qT (n:=eM) (B:=8589934616) d.table.conns λy hy=>Tn y (h4 y hy)
 have c:=qT (n:=iK) (B:=3) d.table.waiting λy _=>by unfold iK;omega
 unfold eS gF u3
 omega
theorem yc (x:Segm):dE.f (x,())=x:=by simp only[PX,dE,tG]
theorem Sc (x:Segm):qD.f (x,x,())=true:=by simp only[PX,qD,Bx,bne_self_eq_false,beq_self_eq_true,Bool.not_true,cond_false]
theorem mE (x:List Segm):cJ.f (x,x,())=true:=by
 simp only[PX,cJ,iU,bne_self_eq_false,cond_false]
 rw[kW _ _ λj=>by simp only[PX,qL,Sc,Bool.not_true,cond_false]]
 rfl
theorem Mh {d:Door}(h:DO d):d.table.conns.length≤268435456:=by
 have h1:=h.tab.nc
 have h2:=h.tab.lim.c2
 omega
theorem BN (d:Door)(src:Int)(g:Segm)(hs:ic d)(hc:d.table.conns.length≤268435456):(iV d src g).1.table.conns.length≤268435456:=by
 by_cases h:bL.f (d,())=true
 ·exact Mh (VE d src g hs ((yj d).1 h)).1
 ·unfold iV
  rw[if_neg λhx=>h hx.1]
  exact hc
theorem RL (d:Door)(t:Tupl)(g:Segm)(hc:d.table.conns.length≤268435456):(HT d t g).1.table.conns.length≤268435456:=by
 by_cases h:bL.f (d,())=true
 ·exact Mh (Tj d t g ((yj d).1 h)).1
 ·unfold HT
  rw[if_neg λhx=>h hx.1]
  exact hc
theorem FL (xs:List Segm)(h:xs.length≤4294967296):0≤bB jk xs∧bB jk xs≤60000000000:=by
 have a:=qT (n:=jk) (B:=13) xs λy _=>by unfold jk;omega
 exact⟨bv tT xs,by omega⟩
theorem F5 (x0:Door)(x1:Tupl)(x2:Segm)(hf:bC [.st .door,.st .tupl,.st .segm] (x0,x1,x2,())):pI.f (x0,x1,x2,())=true:=by
 simp only[bC,Pk.fact,fX,eK,Fl.fact,Ty.fl,Ty.toH]at hf
 obtain⟨⟨_,_,_,_,_,_,⟨n1,n2⟩,_,_,_,⟨m1,m2⟩,_,_,_,_,_,⟨hh,_⟩,⟨hl,he⟩,⟨hw,_⟩,_⟩,_,⟨_,_,_,_,_,_,_,_,_,_,_,_,hsb,_⟩,_⟩:=hf
 refine Eq.trans (b:=bif decide (aQ.f (x0,1048576,())<0)then true else bif decide (cO.f (x2,aQ.f (x0,1048576,()),())<0)then true else Tr.nice _) rfl ?_
 rcases Bool.eq_false_or_eq_true (decide (aQ.f (x0,1048576,())<0))with hz|hz
 ·rw[hz,cond_true]
 have k1:0≤aQ.f (x0,1048576,()):=by simpa using hz
 have hD:=(nS x0 1048576 (by omega) (by omega) n1 n2 m1 m2 hh hl he hw k1)
 have hC:=(Al x0 1048576 (by omega) (by omega) n1 n2 m1 m2 hh hl he hw k1).2
 rcases Bool.eq_false_or_eq_true (decide (cO.f (x2,aQ.f (x0,1048576,()),())<0))with hz2|hz2
 ·rw[hz,cond_false,hz2,cond_true]
 have hS:ah x2:=by
  have:=(kO x2 _ k1 (by omega) hsb (by simpa using hz2)).2
  unfold ah;omega
 have hs:=sa hD.2
 have hl4:x0.halves.length≤4294967296:=by have:=hD.2;unfold ai at this;omega
 have e1:=Qs x0 x1 x2 hs
 have hg:=dR.c.h (x0,x1,x2,()) ⟨hD.2,hS⟩
 have hg1:ai (dR.f (x0,x1,x2,())).1:=hg.1
 have hg2:(dR.f (x0,x1,x2,())).2.length≤4294967296:=hg.2.1.1
 have hgc:(dR.f (x0,x1,x2,())).1.table.conns.length≤268435456:=by have h9:(dR.f (x0,x1,x2,())).1.table.conns.length=x0.table.conns.length:=hg.2.2;omega
 have b0:=nX x0 hD.2 (by omega)
 have b1:=nX _ hg1 hgc
 have c0:=fA x0
 have c1:=fA (dR.f (x0,x1,x2,())).1
 have c2:=FL _ hg2
 rw[hz,cond_false,hz2,cond_false]
 simp only[PX,Dy,pe,yc,e1,va,mE,bne_self_eq_false,Bool.not_true,cond_false]
 clear e1
 generalize dR.f (x0,x1,x2,())=g at*
 have m0:=kX x0 1 (by decide) (by omega)
 have m1:=kX g.1 1 (by decide) (by omega)
 have m2:=sB g.2 (1+eS g.1) (by omega) (by omega)
 have z0:decide (1+eS x0<0)=false:=by simp;omega
 have z1:decide (1+eS g.1<0)=false:=by simp;omega
 have z2:decide (1+eS g.1+bB jk g.2<0)=false:=by simp;omega
 simp only[m0,m1,m2,z0,va,mE,bne_self_eq_false,Bool.not_true,cond_false]
 rw[wZ g.1 1 (by decide) (by omega) _ rfl rfl rfl rfl rfl]
 simp only[z1,tP g.2 (1+eS g.1) (by omega) (by omega),z2,bne_self_eq_false,cond_false]
theorem FE (x0:Door)(x1:Tupl)(x2:Segm)(hf:bC [.st .door,.st .tupl,.st .segm] (x0,x1,x2,())):pO.f (x0,x1,x2,())=true:=by
 simp only[bC,Pk.fact,fX,eK,Fl.fact,Ty.fl,Ty.toH]at hf
 obtain⟨⟨_,_,_,_,_,_,⟨n1,n2⟩,_,_,_,⟨m1,m2⟩,_,_,_,_,_,⟨hh,_⟩,⟨hl,he⟩,⟨hw,_⟩,_⟩,_,⟨_,_,_,_,_,_,_,_,_,_,_,_,hsb,_⟩,_⟩:=hf
 refine Eq.trans (b:=bif decide (aQ.f (x0,1048576,())<0)then true else bif decide (cO.f (x2,aQ.f (x0,1048576,()),())<0)then true else Tr.nice _) rfl ?_
 rcases Bool.eq_false_or_eq_true (decide (aQ.f (x0,1048576,())<0))with hz|hz
 ·rw[hz,cond_true]
 have k1:0≤aQ.f (x0,1048576,()):=by simpa using hz
 have hD:=(nS x0 1048576 (by omega) (by omega) n1 n2 m1 m2 hh hl he hw k1)
 have hC:=(Al x0 1048576 (by omega) (by omega) n1 n2 m1 m2 hh hl he hw k1).2
 rcases Bool.eq_false_or_eq_true (decide (cO.f (x2,aQ.f (x0,1048576,()),())<0))with hz2|hz2
 ·rw[hz,cond_false,hz2,cond_true]
 have hS:ah x2:=by
  have:=(kO x2 _ k1 (by omega) hsb (by simpa using hz2)).2
  unfold ah;omega
 have hs:=sa hD.2
 have hl4:x0.halves.length≤4294967296:=by have:=hD.2;unfold ai at this;omega
 have e1:wa.f (x0,x1,x2,())=jR.f (x0,x1,x2,()):=(Fk x0 x1 x2 hs hl4).trans (xX x0 x1 x2 hl4).symm
 have hg:=jR.c.h (x0,x1,x2,()) ⟨hD.2,hS⟩
 have hg1:ai (jR.f (x0,x1,x2,())).1:=hg.1
 have hg2:(jR.f (x0,x1,x2,())).2.1.length≤4294967296:=hg.2.1.1
 have hgc:(jR.f (x0,x1,x2,())).1.table.conns.length≤268435456:=by rw[xX x0 x1 x2 hl4];exact RL x0 x1 x2 (by omega)
 have b0:=nX x0 hD.2 (by omega)
 have b1:=nX _ hg1 hgc
 have c0:=fA x0
 have c1:=fA (jR.f (x0,x1,x2,())).1
 have c2:=FL _ hg2
 rw[hz,cond_false,hz2,cond_false]
 simp only[PX,Dy,pe,yc,e1,va,mE,bne_self_eq_false,Bool.not_true,cond_false]
 clear e1
 generalize jR.f (x0,x1,x2,())=g at*
 have m0:=kX x0 1 (by decide) (by omega)
 have m1:=kX g.1 1 (by decide) (by omega)
 have m2:=sB g.2.1 (1+eS g.1) (by omega) (by omega)
 have z0:decide (1+eS x0<0)=false:=by simp;omega
 have z1:decide (1+eS g.1<0)=false:=by simp;omega
 have z2:decide (1+eS g.1+bB jk g.2.1<0)=false:=by simp;omega
 simp only[m0,m1,m2,z0,va,mE,bne_self_eq_false,Bool.not_true,cond_false]
 rw[wZ g.1 1 (by decide) (by omega) _ rfl rfl rfl rfl rfl]
 simp only[z1,tP g.2.1 (1+eS g.1) (by omega) (by omega),z2,bne_self_eq_false,cond_false]
theorem FJ (x0:Door)(x1:Int)(x2:Segm)(hf:bC [.st .door,.sc (.int .i64),.st .segm] (x0,x1,x2,())):pB.f (x0,x1,x2,())=true:=by
 simp only[bC,Pk.fact,fX,eK,Fl.fact,Ty.fl,Ty.toH]at hf
 obtain⟨⟨_,_,_,_,_,_,⟨n1,n2⟩,_,_,_,⟨m1,m2⟩,_,_,_,_,_,⟨hh,_⟩,⟨hl,he⟩,⟨hw,_⟩,_⟩,_,⟨_,_,_,_,_,_,_,_,_,_,_,_,hsb,_⟩,_⟩:=hf
 refine Eq.trans (b:=bif decide (aQ.f (x0,1048576,())<0)then true else bif decide (cO.f (x2,aQ.f (x0,1048576,()),())<0)then true else Tr.nice _) rfl ?_
 rcases Bool.eq_false_or_eq_true (decide (aQ.f (x0,1048576,())<0))with hz|hz
 ·rw[hz,cond_true]
 have k1:0≤aQ.f (x0,1048576,()):=by simpa using hz
 have hD:=(nS x0 1048576 (by omega) (by omega) n1 n2 m1 m2 hh hl he hw k1)
 have hC:=(Al x0 1048576 (by omega) (by omega) n1 n2 m1 m2 hh hl he hw k1).2
 rcases Bool.eq_false_or_eq_true (decide (cO.f (x2,aQ.f (x0,1048576,()),())<0))with hz2|hz2
 ·rw[hz,cond_false,hz2,cond_true]
 have hS:ah x2:=by
  have:=(kO x2 _ k1 (by omega) hsb (by simpa using hz2)).2
  unfold ah;omega
 have hs:=sa hD.2
 have hl4:x0.halves.length≤4294967296:=by have:=hD.2;unfold ai at this;omega
 have e1:tS.f (x0,x1,x2,())=gR.f (x0,x1,x2,()):=(yI x0 x1 x2 hs hl4).trans (pt x0 x1 x2 hs hl4).symm
 have hg:=gR.c.h (x0,x1,x2,()) ⟨hD.2,hS⟩
 have hg1:ai (gR.f (x0,x1,x2,())).1:=hg.1
 have hg2:(gR.f (x0,x1,x2,())).2.1.length≤4294967296:=hg.2.1.1
 have hgc:(gR.f (x0,x1,x2,())).1.table.conns.length≤268435456:=by rw[pt x0 x1 x2 hs hl4];exact BN x0 x1 x2 hs (by omega)
 have b0:=nX x0 hD.2 (by omega)
 have b1:=nX _ hg1 hgc
 have c0:=fA x0
 have c1:=fA (gR.f (x0,x1,x2,())).1
 have c2:=FL _ hg2
 rw[hz,cond_false,hz2,cond_false]
 simp only[PX,Dy,pe,yc,e1,va,mE,bne_self_eq_false,Bool.not_true,cond_false]
 clear e1
 generalize gR.f (x0,x1,x2,())=g at*
 have m0:=kX x0 1 (by decide) (by omega)
 have m1:=kX g.1 1 (by decide) (by omega)
 have m2:=sB g.2.1 (1+eS g.1) (by omega) (by omega)
 have z0:decide (1+eS x0<0)=false:=by simp;omega
 have z1:decide (1+eS g.1<0)=false:=by simp;omega
 have z2:decide (1+eS g.1+bB jk g.2.1<0)=false:=by simp;omega
 simp only[m0,m1,m2,z0,va,mE,bne_self_eq_false,Bool.not_true,cond_false]
 rw[wZ g.1 1 (by decide) (by omega) _ rfl rfl rfl rfl rfl]
 simp only[z1,tP g.2.1 (1+eS g.1) (by omega) (by omega),z2,bne_self_eq_false,cond_false]
theorem UL (x:List Mac):pK.f (x,())=x:=by
 simp only[PX,pK,jZ,ar,aa]
 rw[bE x _ rfl (F:=λj y a=> .next (a.set j y)) (λj y a h=>by simp only[PX,xv,TB,aa,getD_some h])]
 have:=kF (W:=Empty) (λy:Mac=>y) x 0 (List.replicate x.length (⟨false,0,0,[]⟩:Mac)) (by simp)
 rw[this]
 simp[Stp.elim]
theorem RF (x:Clie):mY.f (x,())=x:=by simp only[PX,mY,pe,tG]
theorem V4 (x:List Mac):AA.f (x,x,())=true:=by
 simp only[PX,AA,nB,bne_self_eq_false,cond_false]
 rw[kW _ _ λj=>by simp only[PX,xF,Vl,Bool.not_true,cond_false]]
 rfl
theorem Ol (x:Conn)(k:Int)(h0:0≤k)(h1:k+bB cy x.r.held≤4611686018427387904):tz.f (x,k,())=(k+bB cy x.r.held,cB cy rR k x.r.held):=by
 simp only[PX,tz,p7,EG x.r.held k h0 h1]
theorem OL (x:Conn)(k:Int)(h0:0≤k)(h1:k+bB cy x.r.held≤4611686018427387904)(y:Conn)(e:y.r.held=cB cy rR k x.r.held):p6.f (y,k,())=k+bB cy x.r.held:=by
 have a:=bv gT x.r.held
 simp only[PX,p6,pC,e,Fw x.r.held k h0 h1]
 rw[show decide (k+bB cy x.r.held<0)=false by simp;omega]
 simp only[cond_false]
 rw[show decide (k+bB cy x.r.held<0)=false by simp;omega]
 simp only[cond_false]
theorem R4 (d:Door)(c:Clie)(ms:List Mac)(hs:ic d)(lg:ic (iV d c.tuple.ip (cN c)).1)(hc:d.table.conns.length≤268435456):(Sj d c ms).1.table.conns.length≤268435456:=by
 have bf:∀{b:Bool} {p q:Door×Conn×Int},p.1.table.conns.length≤268435456→q.1.table.conns.length≤268435456→(bif b then p else q).1.table.conns.length≤268435456:=fun{b p q} hp hq=>by cases b<;>assumption
 unfold Sj
 refine bf hc (bf hc (bf hc ?_))
 unfold WQ
 exact bf hc (BN _ _ _ lg (BN d _ _ hs hc))
theorem AQ (x0:Door)(x1:Clie)(x2:List Mac)(hf:bC [.st .door,.st .clie,.sc (.sl .mac)] (x0,x1,x2,())):m9.f (x0,x1,x2,())=true:=by
 simp only[bC,Pk.fact,fX,eK,Fl.fact,Ty.fl,Ty.toH]at hf
 obtain⟨⟨_,_,_,_,_,_,⟨n1,n2⟩,_,_,_,⟨m1,m2⟩,_,_,_,_,_,⟨hh,_⟩,⟨hl,he⟩,⟨hw,_⟩,_⟩,_,⟨f1,f2⟩,_⟩:=hf
 refine Eq.trans (b:=bif decide (aQ.f (x0,1048576,())<0)then true else bif decide (pb.f (x2,aQ.f (x0,1048576,()),())<0)then true else Tr.nice _) rfl ?_
 rcases Bool.eq_false_or_eq_true (decide (aQ.f (x0,1048576,())<0))with hz|hz
 ·rw[hz,cond_true]
 have k1:0≤aQ.f (x0,1048576,()):=by simpa using hz
 have hD:=(nS x0 1048576 (by omega) (by omega) n1 n2 m1 m2 hh hl he hw k1)
 have hC:=(Al x0 1048576 (by omega) (by omega) n1 n2 m1 m2 hh hl he hw k1).2
 rcases Bool.eq_false_or_eq_true (decide (pb.f (x2,aQ.f (x0,1048576,()),())<0))with hz2|hz2
 ·rw[hz,cond_false,hz2,cond_true]
 have hR:=(MY x2 _ k1 (by omega) f1 f2 (by simpa using hz2)).2
 have hs:=sa hD.2
 have hl4:x0.halves.length≤4294967296:=by have:=hD.2;unfold ai at this;omega
 have hk:ah (cN x1):=by unfold ah cN;simp
 have hg0:ai (iV x0 x1.tuple.ip (cN x1)).1:=by
  rw[←pt x0 x1.tuple.ip (cN x1) hs hl4]
  exact(gR.c.h (x0,x1.tuple.ip,cN x1,()) ⟨hD.2,hk⟩).1
 have lg:=sa hg0
 have hl5:(iV x0 x1.tuple.ip (cN x1)).1.halves.length≤4294967296:=by unfold ai at hg0;omega
 have e2:=JZ x0 x1 x2 hs hl4 lg hl5
 have e1:r7.f (x0,x1,x2,())=dL.f (x0,x1,x2,()):=(KM x0 x1 x2 hs hl4 lg hl5).trans e2.symm
 have hg:=dL.c.h (x0,x1,x2,()) ⟨hD.2,(by show x2.length≤4294967296;omega),hR.2⟩
 have hg1:ai (dL.f (x0,x1,x2,())).1:=hg.1
 have hg2:(dL.f (x0,x1,x2,())).2.1.r.held.length≤4294967296:=by have h9:ac (dL.f (x0,x1,x2,())).2.1:=hg.2;unfold ac at h9;exact h9.2.2.1
 have hgc:(dL.f (x0,x1,x2,())).1.table.conns.length≤268435456:=by rw[e2];exact R4 x0 x1 x2 hs lg (by omega)
 have b0:=nX x0 hD.2 (by omega)
 have b1:=nX _ hg1 hgc
 have c0:=fA x0
 have c1:=fA (dL.f (x0,x1,x2,())).1
 have b2:=qT (n:=cy) (B:=2) (dL.f (x0,x1,x2,())).2.1.r.held λy _=>by unfold cy;omega
 have c2:=bv gT (dL.f (x0,x1,x2,())).2.1.r.held
 have b3:=qT (n:=Er) (B:=8589934595) x2 λy hy=>by
  have h9:=hR.2 y hy
  unfold aP at h9
  unfold Er;omega
 have c3:=bv Cg x2
 rw[hz,cond_false,hz2,cond_false]
 simp only[PX,Dy,UL,RF,e1,va,Pi,V4,bne_self_eq_false,Bool.not_true,cond_false]
 clear e1 e2
 generalize dL.f (x0,x1,x2,())=g at*
 have m0:=kX x0 1 (by decide) (by omega)
 have m3:=Tl x2 (1+eS x0) (by omega) (by omega)
 have m1:=kX g.1 1 (by decide) (by omega)
 have m2:=Ol g.2.1 (1+eS g.1) (by omega) (by omega)
 have z0:decide (1+eS x0+bB Er x2<0)=false:=by simp;omega
 have z1:decide (1+eS g.1<0)=false:=by simp;omega
 have z2:decide (1+eS g.1+bB cy g.2.1.r.held<0)=false:=by simp;omega
 simp only[m0,m1,m2,m3,z0,va,Pi,bne_self_eq_false,Bool.not_true,cond_false]
 rw[wZ g.1 1 (by decide) (by omega) _ rfl rfl rfl rfl rfl]
 simp only[z1,cond_false]
 rw[OL g.2.1 (1+eS g.1) (by omega) (by omega) _ rfl]
 simp only[z2,bne_self_eq_false,cond_false]

end
end Go.Proofs.YtbkjnlihfgkkaaaGreat
